/- What stands behind it, part 1. -/
import Derived.Calls
import Derived.Laws.CopyRow
import Derived.Tactics
import Derived.WalkKit
import Derived.Laws.StructEq
set_option linter.unusedVariables false
set_option linter.unusedSimpArgs false
section
namespace Go.Own
open Go
inductive Col where
 | int (k : IntKind) (l : List Int)
 | bool (l : List Bool)
 | ints (k : IntKind) (l : List (List Int))
inductive AV where
 | top
 | bool (b : Bool)
 | int (k : IntKind) (n : Int)
 | val (v : Value)
 | agg (cs : List AV)
 | tup (vs : List AV)
 | sl (n : Nat) (cols : List Col)
 | emp (e : TypeId) (cols : List Col)
 | own (e : TypeId) (n : Nat) (cols : List Col)
 | full (id : Nat)
 | osl (id off n : Nat)
 | ptr (id idx off : Nat)
 | ip (cells : List AV)
 | mp (id : Nat)
 | it (id : Nat)
 | fn (f : Fn) (first cap : List AV)
 | ifc (t : TypeId) (v : AV)
 | cond (j : Nat) (b : Bool) (v : AV)
 | mapv (keys : List Int) (cols : List Col) (one : Bool)
 | omap (keys : List Int) (cols : List Col) (one : Bool)
inductive AObj where
 | dead
 | row (e : TypeId) (n : Nat) (cols : List Col)
 | var (cells : List AV)
 | map (es : List (Int × AV))
 | tmap (keys : List Int) (cols : List Col) (one : Bool)
 | iter (keys : List Int) (cols : List Col) (one : Bool) (left : List Nat) (cur : Option Nat)
abbrev Heap := List (Option AObj)
structure St where
 T : List AV
 H : Heap
structure Eff where
 obl : Option Bool
 val : AV
 reads : List Nat := []
 writes : List (Nat × AObj) := []
abbrev Summ := List AV → Heap → Nat → Option Eff
def iadd (k : IntKind) (a b : Int) : Int := k.wrap (a + b)
def isub (k : IntKind) (a b : Int) : Int := k.wrap (a - b)
def imul (k : IntKind) (a b : Int) : Int := k.wrap (a * b)
def iquo (k : IntKind) (a b : Int) : Int := k.wrap (a.tdiv b)
def irem (a b : Int) : Int := a.tmod b
def ineg (k : IntKind) (a : Int) : Int := k.wrap (0 - a)
def icnv (k : IntKind) (a : Int) : Int := k.wrap a
def ishl (k : IntKind) (a b : Int) : Int := k.wrap (a * 2 ^ (min b.toNat k.bits))
def ishr (k : IntKind) (a b : Int) : Int := a.fdiv (2 ^ (min b.toNat k.bits))
def imin (x y : Int) : Int := if y < x then y else x
def imax (x y : Int) : Int := if y > x then y else x
def iite (c : Bool) (x y : Int) : Int := bif c then x else y
def ieq (a b : Int) : Bool := a == b
def ine (a b : Int) : Bool := a != b
def ilt (a b : Int) : Bool := decide (a < b)
def ile (a b : Int) : Bool := decide (a ≤ b)
def igt (a b : Int) : Bool := decide (a > b)
def ige (a b : Int) : Bool := decide (a ≥ b)
def beq2 (a b : Bool) : Bool := a == b
def bnot (a : Bool) : Bool := !a
def band (a b : Bool) : Bool := a && b
def bite (c x y : Bool) : Bool := bif c then x else y
def bimp (c x : Bool) : Bool := bif c then x else true
def ofN (n : Nat) : Int := n
def nOf (i : Int) : Nat := i.toNat
def nAdd (a b : Nat) : Nat := a + b
def nDiff (h l : Int) : Nat := (h - l).toNat
def nMin (a b : Nat) : Nat := min a b
def nlt (a b : Nat) : Bool := decide (a < b)
def nle (a b : Nat) : Bool := decide (a ≤ b)
def neq (a b : Nat) : Bool := decide (a = b)
def gI (l : List Int) (i : Nat) : Int := l.getD i 0
def gB (l : List Bool) (i : Nat) : Bool := l.getD i false
def gL (l : List (List Int)) (i : Nat) : List Int := l.getD i []
def lenI (l : List Int) : Nat := l.length
def rI (n : Nat) : List Int := List.replicate n 0
def rB (n : Nat) : List Bool := List.replicate n false
def rL (n : Nat) : List (List Int) := List.replicate n []
def pt {α : Type} (l : List α) (a n : Nat) : List α := (l.drop a).take n
def put {α : Type} (l : List α) (i : Nat) (x : α) : List α := l.set i x
def cat {α : Type} (l m : List α) : List α := l ++ m
def ovr {α : Type} (xs : List α) (a : Nat) (ys : List α) : List α := xs.take a ++ ys ++ xs.drop (a + ys.length)
def mhas (ks : List Int) (k : Int) : Bool := ks.contains k
def mkey (ks : List Int) (k : Int) : List Int := if ks.contains k then ks else ks ++ [k]
def mput {α : Type} (ks : List Int) (l : List α) (k : Int) (x : α) : List α := if ks.contains k then l.set (ks.idxOf k) x else l ++ [x]
def mI (ks l : List Int) (k : Int) : Int := l.getD (ks.idxOf k) 0
def mB (ks : List Int) (l : List Bool) (k : Int) : Bool := l.getD (ks.idxOf k) false
def mdel (ks : List Int) (k : Int) : List Int := ks.eraseIdx (ks.idxOf k)
def mcut {α : Type} (ks : List Int) (l : List α) (k : Int) : List α := l.eraseIdx (ks.idxOf k)
def nUp (n : Nat) : List Nat := List.range n
def nNil (l : List Nat) : Bool := l.isEmpty
def nIn (i : Nat) (l : List Nat) : Bool := l.contains i
def nDel (l : List Nat) (i : Nat) : List Nat := l.filter fun j => j != i
def Col.len : Col → Nat
 | .int _ l => l.length
 | .bool l => l.length
 | .ints _ l => l.length
def Col.get : Col → Nat → AV
 | .int k l, i => .int k (gI l i)
 | .bool l, i => .bool (gB l i)
 | .ints k l, i => .sl (lenI (gL l i)) [.int k (gL l i)]
def Col.set : Col → Nat → AV → Option Col
 | .int k l, i, .int k' n => if k = k' then some (.int k (put l i n)) else none
 | .bool l, i, .bool b => some (.bool (put l i b))
 | .ints k l, i, .sl _ [.int k' x] => if k = k' then some (.ints k (put l i x)) else none
 | .ints k l, i, .emp _ _ => some (.ints k (put l i []))
 | _, _, _ => none
def Col.part : Col → Nat → Nat → Col
 | .int k l, a, n => .int k (pt l a n)
 | .bool l, a, n => .bool (pt l a n)
 | .ints k l, a, n => .ints k (pt l a n)
def Col.over : Col → Nat → Col → Option Col
 | .int k l, a, .int k' m => if k = k' then some (.int k (ovr l a m)) else none
 | .bool l, a, .bool m => some (.bool (ovr l a m))
 | .ints k l, a, .ints k' m => if k = k' then some (.ints k (ovr l a m)) else none
 | _, _, _ => none
def Col.join : Col → Col → Option Col
 | .int k l, .int k' m => if k = k' then some (.int k (cat l m)) else none
 | .bool l, .bool m => some (.bool (cat l m))
 | .ints k l, .ints k' m => if k = k' then some (.ints k (cat l m)) else none
 | _, _ => none
def Col.mget (ks : List Int) (k : Int) : Col → AV
 | .int q l => .int q (mI ks l k)
 | .bool l => .bool (mB ks l k)
 | .ints _ _ => .top
def Col.mput (ks : List Int) (k : Int) : Col → AV → Option Col
 | .int q l, .int q' n => if q = q' then some (.int q (Go.Own.mput ks l k n)) else none
 | .bool l, .bool b => some (.bool (Go.Own.mput ks l k b))
 | _, _ => none
def Col.mcut (ks : List Int) (k : Int) : Col → Col
 | .int q l => .int q (Go.Own.mcut ks l k)
 | .bool l => .bool (Go.Own.mcut ks l k)
 | .ints q l => .ints q l
def elemAt (cols : List Col) (one : Bool) (i : Nat) : AV := match one with
 | false => .agg (cols.map (·.get i))
 | true => match cols with
  | [c] => c.get i
  | _ => .top
def elemOf (ks : List Int) (cols : List Col) (one : Bool) (k : Int) : AV := match one with
 | false => .agg (cols.map (·.mget ks k))
 | true => match cols with
  | [c] => c.mget ks k
  | _ => .top
def Col.flat : Col → Bool
 | .ints _ _ => false
 | _ => true
def overL {α : Type} (xs : List α) (a : Nat) (ys : List α) : List α := xs.take a ++ ys ++ xs.drop (a + ys.length)
def Col.cons : AV → Col → Option Col
 | .int k' n, .int k l => if k = k' then some (.int k (n :: l)) else none
 | .bool b, .bool l => some (.bool (b :: l))
 | .sl _ [.int k' x], .ints k l => if k = k' then some (.ints k (x :: l)) else none
 | .emp _ _, .ints k l => some (.ints k ([] :: l))
 | _, _ => none
def Col.zeros : Col → Nat → Col
 | .int k _, n => .int k (rI n)
 | .bool _, n => .bool (rB n)
 | .ints k _, n => .ints k (rL n)
def Col.zero : Col → AV
 | .int k _ => .int k 0
 | .bool _ => .bool false
 | .ints k _ => .emp 0 [.int k []]
def zipAll {α β γ : Type} (f : α → β → Option γ) : List α → List β → Option (List γ)
 | [], [] => some []
 | a :: as, b :: bs => match f a b, zipAll f as bs with
  | some c, some cs => some (c :: cs)
  | _, _ => none
 | _, _ => none
def colsOf (P : Program) : Nat → TypeId → List Col
 | 0, _ => []
 | d + 1, t => match P.underlying t with
  | some (.int k) => [.int k []]
  | some .bool => [.bool []]
  | some (.struct fs) => fs.toList.flatMap fun f => colsOf P d f.type
  | some (.slice e) => match P.underlying e with
   | some (.int k) => [.ints k []]
   | _ => []
  | _ => []
def zerosOf (P : Program) : Nat → TypeId → List AV
 | 0, _ => []
 | d + 1, t => match P.underlying t with
  | some (.int k) => [.int k 0]
  | some .bool => [.bool false]
  | some (.slice e) => [.emp e (colsOf P 9 e)]
  | some (.struct fs) => fs.toList.flatMap fun f => zerosOf P d f.type
  | some (.pointer _) => [.val (.pointer none)]
  | some (.func _ _ _) => [.val .nilFunc]
  | some (.interface _) => [.val .nilIface]
  | some (.map _ _) => [.val (.map none)]
  | some (.array n e) => (List.replicate n (zerosOf P d e)).flatten
  | _ => []
def isVal : AV → Value → Bool
 | .int k n, .int k' n' => k == k' && n == n'
 | .bool b, .bool b' => b == b'
 | .emp _ cols, .slice none 0 0 => cols.all fun c => c.len == 0
 | .val (.pointer none), .pointer none => true
 | .val .nilFunc, .nilFunc => true
 | .val .nilIface, .nilIface => true
 | .val (.map none), .map none => true
 | _, _ => false
def areVals : List AV → List Value → Bool
 | [], [] => true
 | a :: as, v :: vs => isVal a v && areVals as vs
 | _, _ => false
def isAggT (P : Program) (t : TypeId) : Bool := match P.underlying t with
 | some (.struct _) | some (.array _ _) => true
 | _ => false
def mapT (P : Program) (t : TypeId) : Option (List Col × Bool) := match P.underlying t with
 | some (.map k e) => match P.underlying k with
  | some (.int .i64) => if (colsOf P 9 e).all Col.flat then (match isAggT P e, colsOf P 9 e with
   | false, [c] => some ([c], true)
   | true, c :: cs => some (c :: cs, false)
   | _, _ => none) else none
  | _ => none
 | _ => none
def zeroElem (P : Program) (t : TypeId) (cols : List Col) (one : Bool) : Bool := match P.underlying t with
 | some (.map _ e) => match (P.info? e).bind (·.zero), one with
  | some (.agg vs), false => areVals (cols.map Col.zero) vs.toList
  | some v, true => areVals (cols.map Col.zero) [v]
  | _, _ => false
 | _ => false
def putAll (ks : List Int) (cols : List Col) (k : Int) (one : Bool) (v : AV) : Option (List Col) := match one, v with
 | true, v => zipAll (fun c x => c.mput ks k x) cols [v]
 | false, .agg vs => zipAll (fun c x => c.mput ks k x) cols vs
 | _, _ => none
def szOf (P : Program) (t : TypeId) : Option Nat := match P.info? t, P.underlying t with
 | some i, some _ => some i.size
 | _, _ => none
def zeroCellsOf (P : Program) (t : TypeId) : Option (List AV) :=
 match (P.info? t).bind (·.zero) with
 | some v => if areVals (zerosOf P 9 t) v.cells.toList && v.cells.toList.length == P.cellsOf t then some (zerosOf P 9 t) else none
 | none => none
def wrap (P : Program) (t : TypeId) (cs : List AV) : Option AV :=
 if isAggT P t then some (.agg cs) else match cs with
  | [a] => some a
  | _ => none
def leafAV : AV → Bool
 | .top => false
 | .agg _ => false
 | .tup _ => false
 | .own _ _ _ => false
 | .omap _ _ _ => false
 | .cond _ _ _ => false
 | .val v => v.oneCell'
 | _ => true
def cellsOfAV : AV → Option (List AV)
 | .agg cs => if cs.all leafAV then some cs else none
 | a => if leafAV a then some [a] else none
def ofConst (P : Program) (t : TypeId) : Value → AV
 | .bool b => .bool b
 | .int k n => .int k n
 | .slice none 0 0 => match P.underlying t with
  | some (.slice e) => .emp e (colsOf P 9 e)
  | _ => .top
 | .pointer none => .val (.pointer none)
 | .nilFunc => .val .nilFunc
 | .nilIface => .val .nilIface
 | .map none => .val (.map none)
 | _ => .top
def plainUnder (g : Option (Nat × Bool)) : AV → AV
 | .cond j b v => match g with
  | some (j', b') => if j = j' ∧ b = b' then v else .top
  | none => .top
 | v => v
def opd (P : Program) (T : List AV) (g : Option (Nat × Bool)) (t : TypeId) : Operand → AV
 | .tmp i => plainUnder g (T.getD i .top)
 | .const v => ofConst P t v
 | .func f => .fn (.func f) [] []
 | .global _ => .top
def Heap.at (H : Heap) (id : Nat) : Option AObj := match H[id]? with
 | some (some o) => some o
 | _ => none
def setAt (H : Heap) : Nat → AObj → Heap
 | id, o => match H with
  | [] => List.replicate id none ++ [some o]
  | x :: H' => match id with
   | 0 => some o :: H'
   | id + 1 => x :: setAt H' id o
def writeAll (H : Heap) : List (Nat × AObj) → Heap
 | [] => H
 | (id, o) :: ws => writeAll (setAt H id o) ws
def setT (T : List AV) (d : Option Nat) (v : AV) : List AV := match d with
 | none => T
 | some d => (T.map fun
  | .cond j b w => if j = d then .top else .cond j b w
  | w => w).set d v
def readCells (H : Heap) (n : Nat) : AV → Option (Option Bool × List AV × List Nat)
 | .ip cells => if cells.length < n then none else some (none, cells.take n, [])
 | .ptr id idx off => match H.at id with
  | some (.var cs) => if cs.length < off + n then none else match idx with
   | 0 => some (none, (cs.drop off).take n, [id])
   | _ => none
  | some (.row _ k cols) => if cols.length < off + n then none else some (some (nlt idx k), ((cols.map (·.get idx)).drop off).take n, [id])
  | _ => none
 | _ => none
def sliceOf (H : Heap) : AV → Option (Nat × List Col × List Nat)
 | .sl n cols => some (n, cols, [])
 | .emp _ cols => some (0, cols, [])
 | .full id => match H.at id with
  | some (.row _ n cols) => some (n, cols, [id])
  | _ => none
 | .osl id off n => match H.at id with
  | some (.row _ _ cols) => some (n, cols.map (·.part off n), [id])
  | _ => none
 | _ => none
def arith (op : BinOp) (k : IntKind) (a b : Int) : Option (Option Bool × AV) :=
 match op with
 | .add => some (none, .int k (iadd k a b))
 | .sub => some (none, .int k (isub k a b))
 | .mul => some (none, .int k (imul k a b))
 | .quo => some (some (ine b 0), .int k (iquo k a b))
 | .rem => some (some (ine b 0), .int k (irem a b))
 | .eql => some (none, .bool (ieq a b))
 | .neq => some (none, .bool (ine a b))
 | .lss => some (none, .bool (ilt a b))
 | .leq => some (none, .bool (ile a b))
 | .gtr => some (none, .bool (igt a b))
 | .geq => some (none, .bool (ige a b))
 | _ => none
def sameCells : List Bool → List AV → List AV → Option Bool
 | [], [], [] => some true
 | true :: ks, .int k a :: as, .int k' b :: bs => if k = k' then match sameCells ks as bs with
   | some r => some (band (ieq a b) r)
   | none => none
  else none
 | false :: ks, .bool a :: as, .bool b :: bs => match sameCells ks as bs with
   | some r => some (band (beq2 a b) r)
   | none => none
 | _, _, _ => none
def flatT (P : Program) : Nat → TypeId → Option (List Bool)
 | 0, _ => none
 | d + 1, t => match P.underlying t with
  | some (.int _) => some [true]
  | some .bool => some [false]
  | some (.struct fs) => if P.stoodInHeld t then none else flatFs (fun t => flatT P d t) P fs.toList 0
  | _ => none
where
 flatFs (ft : TypeId → Option (List Bool)) (P : Program) : List Field → Nat → Option (List Bool)
  | [], _ => some []
  | f :: fs, a => match ft f.type with
   | some ks => if f.offset = a ∧ (f.name == "_") = false ∧ szOf P f.type = some ks.length then match flatFs ft P fs (a + ks.length) with
    | some r => some (ks ++ r)
    | none => none
    else none
   | none => none
def flatOk (P : Program) (t : TypeId) : Option (List Bool) := if 9 ≤ P.depth ∧ isAggT P t = true then flatT P 9 t else none
def binop (P : Program) (op : BinOp) (t : TypeId) (x y : AV) : Option (Option Bool × AV) :=
 match op, x, y with
 | .shl, .int k a, .int _ b => some (some (ile 0 b), .int k (ishl k a b))
 | .shr, .int k a, .int _ b => some (some (ile 0 b), .int k (ishr k a b))
 | _, .int k a, .int k' b => if k = k' then arith op k a b else none
 | .eql, .bool a, .bool b => if P.underlying t matches some .bool then some (none, .bool (beq2 a b)) else none
 | .neq, .bool a, .bool b => if P.underlying t matches some .bool then some (none, .bool (bnot (beq2 a b))) else none
 | .eql, .agg a, .agg b => match flatOk P t with
  | some ks => match sameCells ks a b with
   | some r => some (none, .bool r)
   | none => none
  | none => none
 | .neq, .agg a, .agg b => match flatOk P t with
  | some ks => match sameCells ks a b with
   | some r => some (none, .bool (bnot r))
   | none => none
  | none => none
 | _, _, _ => none
def fieldOf (P : Program) (s : TypeId) (f : Nat) : Option (Nat × TypeId) :=
 match P.underlying s with
 | some (.struct fs) => match fs[f]? with
  | some f => if P.cellsOf f.type = 0 then none else some (f.offset, f.type)
  | none => none
 | _ => none
def fillAV (place : Nat → Option (Nat × Nat)) (cells : List AV) : List (Nat × AV) → Option (List AV)
 | [] => some cells
 | (i, v) :: rest => match place i, cellsOfAV v with
  | some (off, size), some cs => if cs.length = size ∧ off + size ≤ cells.length then fillAV place (overL cells off cs) rest else none
  | _, _ => none
def rowOf : List Col → List (List AV) → Option (List Col)
 | zs, [] => some zs
 | zs, c :: cs => match rowOf zs cs with
  | some y => zipAll Col.cons c y
  | none => none
def room : Nat := 2 ^ 30
def wide (P : Program) (e : TypeId) : Nat := 2 ^ 47 / P.bytesOf e
def elemOk (P : Program) (e : TypeId) : Bool := decide (P.bytesOf e ≤ 2 ^ 12) && decide (P.cellsOf e = (colsOf P 9 e).length) && decide (0 < P.cellsOf e) && (zeroCellsOf P e).isSome && areVals ((colsOf P 9 e).map Col.zero) (((P.info? e).bind (·.zero)).getD (.bool false)).cells.toList
def pureLeaf0 (H : Heap) : AV → Option (AV × List Nat)
 | .int k n => some (.int k n, [])
 | .bool b => some (.bool b, [])
 | .sl n cols => some (.sl n cols, [])
 | .emp _ cols => some (.sl 0 cols, [])
 | .full id => match H.at id with
  | some (.row _ n cols) => some (.sl n cols, [id])
  | _ => none
 | .osl id off n => match H.at id with
  | some (.row _ _ cols) => some (.sl n (cols.map (·.part off n)), [id])
  | _ => none
 | .mapv ks cols one => some (.mapv ks cols one, [])
 | .mp id => match H.at id with
  | some (.tmap ks cols one) => some (.mapv ks cols one, [id])
  | _ => none
 | _ => none
def mapIds {α β : Type} (f : α → Option (β × List Nat)) : List α → Option (List β × List Nat)
 | [] => some ([], [])
 | a :: as => match f a, mapIds f as with
  | some (x, ids), some (xs, ids') => some (x :: xs, ids ++ ids')
  | _, _ => none
def pureLeaf (H : Heap) : AV → Option (AV × List Nat)
 | .val v => some (.val v, [])
 | .ip cells => match mapIds (pureLeaf0 H) cells with
  | some (cs, ids) => some (.ip cs, ids)
  | none => none
 | .ptr id 0 0 => match H.at id with
  | some (.var cells) => match mapIds (pureLeaf0 H) cells with
   | some (cs, ids) => some (.ip cs, id :: ids)
   | none => none
  | _ => none
 | a => pureLeaf0 H a
def pureArg (H : Heap) : AV → Option (AV × List Nat)
 | .agg cs => match mapIds (pureLeaf0 H) cs with
  | some (r, ids) => some (.agg r, ids)
  | none => none
 | .fn f a b => match mapIds (pureLeaf H) a, mapIds (pureLeaf H) b with
  | some (x, ids), some (y, ids') => some (.fn f x y, ids ++ ids')
  | _, _ => none
 | a => pureLeaf H a
def pureArgs (H : Heap) : List AV → Option (List AV × List Nat) := mapIds (pureArg H)
def freshLeaf : AV → Bool
 | .int _ _ => true
 | .bool _ => true
 | .own _ _ cols => cols.all Col.flat
 | .omap _ _ _ => true
 | .sl 0 _ => true
 | .val _ => true
 | _ => false
def freshAV : AV → Bool
 | .agg cs => cs.all freshLeaf
 | .tup vs => vs.all fun | .agg cs => cs.all freshLeaf | v => freshLeaf v
 | v => freshLeaf v
def adoptLeaf (fr : Nat) : AV → AV × List (Nat × AObj)
 | .own e n cols => (.full fr, [(fr, .row e n cols)])
 | .omap ks cols one => (.mp fr, [(fr, .tmap ks cols one)])
 | v => (v, [])
def adoptList (fr : Nat) : List AV → List AV × List (Nat × AObj)
 | [] => ([], [])
 | v :: vs => ((adoptLeaf fr v).1 :: (adoptList (fr + 1) vs).1, (adoptLeaf fr v).2 ++ (adoptList (fr + 1) vs).2)
def adoptCells (fr : Nat) : AV → AV × List (Nat × AObj)
 | .agg cs => (.agg (adoptList fr cs).1, (adoptList fr cs).2)
 | v => adoptLeaf fr v
def adoptTup (fr : Nat) : List AV → List AV × List (Nat × AObj)
 | [] => ([], [])
 | v :: vs => ((adoptCells fr v).1 :: (adoptTup (fr + 32) vs).1, (adoptCells fr v).2 ++ (adoptTup (fr + 32) vs).2)
def adopt (fr : Nat) : AV → AV × List (Nat × AObj)
 | .tup vs => (.tup (adoptTup fr vs).1, (adoptTup fr vs).2)
 | v => adoptCells fr v
def rowType (P : Program) (t : TypeId) : Option TypeId := match P.underlying t with
 | some (.slice e) => some e
 | _ => none
def appendEff (P : Program) (t : TypeId) (H : Heap) (fr : Nat) (a b : AV) : Option Eff :=
 match rowType P t, sliceOf H b with
 | some e, some (m, ys, rd) => if elemOk P e then match a with
  | .emp _ _ => match zipAll Col.join (colsOf P 9 e) ys with
   | some zs => some { obl := some (nle m (wide P e)), val := .full fr, reads := rd, writes := [(fr, .row e m zs)] }
   | none => none
  | .full id => match H.at id with
   | some (.row e' n cols) => if e = e' ∧ cols.length = (colsOf P 9 e).length then match zipAll Col.join cols ys with
    | some zs => some { obl := some (nle (nAdd n m) (wide P e)), val := .full fr, reads := id :: rd, writes := [(id, .dead), (fr, .row e (nAdd n m) zs)] }
    | none => none
    else none
   | _ => none
  | .osl id off n => match H.at id with
   | some (.row e' k cols) => if e = e' ∧ cols.length = (colsOf P 9 e).length then match zipAll (fun c y => c.over (nAdd off n) y) cols ys with
    | some zs => some { obl := some (nle (nAdd (nAdd off n) m) k), val := .osl id off (nAdd n m), reads := id :: rd, writes := [(id, .row e k zs)] }
    | none => none
    else none
   | _ => none
  | _ => none
  else none
 | _, _ => none
def copyEff (P : Program) (t : TypeId) (H : Heap) (a b : AV) : Option Eff :=
 match a, rowType P t, sliceOf H b with
 | .full id, some e', some (m, ys, rd) => match H.at id with
  | some (.row e n cols) => if e = e' ∧ elemOk P e = true ∧ cols.length = (colsOf P 9 e).length then match zipAll (fun c y => c.over 0 (y.part 0 (nMin m n))) cols ys with
   | some zs => some { obl := none, val := .int .i64 (ofN (nMin m n)), reads := id :: rd, writes := [(id, .row e n zs)] }
   | none => none
   else none
  | _ => none
 | _, _, _ => none
def boundAV (P : Program) (T : List AV) (g : Option (Nat × Bool)) (o : Option Operand) (d : Int) : Option Int := match o with
 | none => some d
 | some y => match opd P T g 3 y with
  | .int _ n => some n
  | _ => none
def sliceEff (P : Program) (T : List AV) (g : Option (Nat × Bool)) (H : Heap) (t : TypeId) (x : AV) (lo hi mx : Option Operand) : Option Eff :=
 match rowType P t with
 | none => none
 | some e => match x with
  | .sl n cols => if szOf P e = some cols.length then match boundAV P T g lo 0, boundAV P T g hi (ofN n), mx with
   | some l, some h, none => some { obl := some (band (ile 0 l) (band (ile l h) (ile h (ofN n)))), val := .sl (nDiff h l) (cols.map (·.part (nOf l) (nDiff h l))) }
   | _, _, _ => none
   else none
  | .emp e' cols => match szOf P e, boundAV P T g lo 0, boundAV P T g hi (ofN 0), mx with
   | some _, some l, some h, none => some { obl := some (band (ieq l 0) (ieq h 0)), val := .emp e' cols }
   | _, _, _, _ => none
  | .full id => match H.at id with
   | some (.row _ k cols) => if szOf P e = some cols.length then match boundAV P T g hi (ofN k), mx with
    | some h, none => match lo with
     | none => some { obl := some (band (ile 0 h) (ile h (ofN k))), val := .osl id 0 (nOf h), reads := [id] }
     | some l => match boundAV P T g (some l) 0 with
      | some l => some { obl := some (band (ile 0 l) (band (ile l h) (ile h (ofN k)))), val := .osl id (nOf l) (nDiff h l), reads := [id] }
      | none => none
    | some h, some m => match boundAV P T g lo 0, boundAV P T g (some m) 0, hi with
     | some l, some m, some _ => some { obl := some (band (ile 0 l) (band (ile l h) (band (ile h m) (ile m (ofN k))))), val := .top, reads := [id] }
     | _, _, _ => none
    | _, _ => none
    else none
   | _ => none
  | .osl id off n => match H.at id with
   | some (.row _ k cols) => if szOf P e = some cols.length then match boundAV P T g lo 0, boundAV P T g hi (ofN n), mx with
    | some l, some h, none => some { obl := some (band (ile 0 l) (band (ile l h) (nle (nAdd off (nOf h)) k))), val := .osl id (nAdd off (nOf l)) (nDiff h l), reads := [id] }
    | _, _, _ => none
    else none
   | _ => none
  | _ => none
def zerosRow (P : Program) (e : TypeId) (n : Nat) : List Col := (colsOf P 9 e).map fun c => c.zeros n
def partsOf (P : Program) (T : List AV) (g : Option (Nat × Bool)) (ts : Nat → TypeId) (ps : Array (Nat × Operand)) : List (Nat × AV) :=
 ps.toList.map fun (i, x) => (i, opd P T g (ts i) x)
def fieldType (P : Program) (t : TypeId) (i : Nat) : TypeId := match P.underlying t with
 | some (.struct fs) => (fs[i]?.map (·.type)).getD 0
 | some (.array _ e) => e
 | some (.slice e) => e
 | _ => 0
def placesOf (P : Program) (t : TypeId) : Option (Nat → Option (Nat × Nat)) := match P.underlying t with
 | some (.array _ e) => match P.info? e with
  | some ie => some fun i => some (i * ie.size, ie.size)
  | none => none
 | some (.struct fields) => match fields.toList.mapM (fun f => (P.info? f.type).map fun i => (f.offset, i.size)) with
  | some places => some (places.toArray[·]?)
  | none => none
 | _ => none
def partsInOrder : Nat → List (Nat × AV) → Option (List (List AV))
 | _, [] => some []
 | i, (j, v) :: rest => if i = j then match cellsOfAV v, partsInOrder (i + 1) rest with
  | some c, some cs => some (c :: cs)
  | _, _ => none
  else none
def methodOf (P : Program) (t : TypeId) (name : String) : Option FuncId :=
 match P.info? t with
 | some i => match i.methods.find? (·.name == name) with
  | some m => match m.path.toList, m.func, P.underlying t with
   | [], some (f, true), some (.pointer _) => some f
   | _, _, _ => none
  | none => none
 | none => none
def calleeOf (P : Program) (T : List AV) (g : Option (Nat × Bool)) (c : Call) : Option (FuncId × List AV) :=
 let args := (c.args.toList.zip (c.argTypes.toList ++ List.replicate c.args.size 0)).map fun (x, t) => opd P T g t x
 match c.callee with
 | .value f => match opd P T g 0 f with
  | .fn (.func k) first cap => some (k, first ++ args ++ cap)
  | _ => none
 | .invoke r name => match opd P T g 0 r with
  | .ifc t v => match methodOf P t name with
   | some f => some (f, v :: args)
   | none => none
  | _ => none
 | .builtin _ => none
def argOf (P : Program) (T : List AV) (g : Option (Nat × Bool)) (c : Call) (i : Nat) : AV := match c.args[i]?, c.argTypes[i]? with
 | some x, some t => opd P T g t x
 | _, _ => .top
def builtinEff (P : Program) (T : List AV) (H : Heap) (fr : Nat) (g : Option (Nat × Bool)) (b : Builtin) (c : Call) : Option Eff :=
 match b, c.args.size with
 | .len, 1 => match argOf P T g c 0, (c.argTypes[0]?).bind P.underlying with
  | .sl n _, some (.slice _) => some { obl := none, val := .int .i64 (ofN n) }
  | .emp _ _, some (.slice _) => some { obl := none, val := .int .i64 0 }
  | .full id, some (.slice _) => match H.at id with
   | some (.row _ n _) => some { obl := none, val := .int .i64 (ofN n), reads := [id] }
   | _ => none
  | .osl _ _ n, some (.slice _) => some { obl := none, val := .int .i64 (ofN n) }
  | _, _ => none
 | .min, 2 => match argOf P T g c 0, argOf P T g c 1 with
  | .int k x, .int _ y => some { obl := none, val := .int k (imin x y) }
  | _, _ => none
 | .max, 2 => match argOf P T g c 0, argOf P T g c 1 with
  | .int k x, .int _ y => some { obl := none, val := .int k (imax x y) }
  | _, _ => none
 | .append, 2 => match c.argTypes[0]?, (c.argTypes[1]?).bind P.underlying with
  | some t, some (.slice _) => appendEff P t H fr (argOf P T g c 0) (argOf P T g c 1)
  | _, _ => none
 | .copy, 2 => match (c.argTypes[0]?).bind P.underlying with
  | some (.slice _) => copyEff P (c.argTypes.getD 0 0) H (argOf P T g c 0) (argOf P T g c 1)
  | _ => none
 | .clear, 1 => match argOf P T g c 0, (c.argTypes[0]?).bind P.underlying with
  | .osl id off n, some (.slice e) => match H.at id with
   | some (.row e' k cols) => if e = e' ∧ elemOk P e = true then match zipAll (fun c y => c.over off y) cols (zerosRow P e n) with
    | some zs => some { obl := some (nle (nAdd off n) k), val := .top, reads := [id], writes := [(id, .row e k zs)] }
    | none => none
    else none
   | _ => none
  | _, _ => none
 | .delete, 2 => match argOf P T g c 0, argOf P T g c 1 with
  | .mp id, .int .i64 n => match H.at id, (c.argTypes[0]?).bind (mapT P) with
   | some (.tmap ks cols one), some _ => if cols.all Col.flat then some { obl := none, val := .top, reads := [id], writes := [(id, .tmap (mdel ks n) (cols.map (·.mcut ks n)) one)] } else none
   | _, _ => none
  | _, _ => none
 | _, _ => none
def isIntMap (P : Program) (t : TypeId) : Bool := match P.underlying t with
 | some (.map k _) => match P.underlying k with
  | some (.int _) => true
  | _ => false
 | _ => false
def allNe (n : Int) : List (Int × AV) → Bool
 | [] => true
 | (k, _) :: es => band (ine k n) (allNe n es)
def opEff (P : Program) (S : FuncId → Option Summ) (T : List AV) (H : Heap) (fr : Nat) (g : Option (Nat × Bool)) (o : Oper) : Option Eff :=
 let ev := opd P T g
 match o.op with
 | .move x | .assign x => match ev o.type x with
  | .top => none
  | v => some { obl := none, val := v }
 | .pick (.tmp j) a b => match plainUnder g (T.getD j .top), opd P T (some (j, true)) o.type a, opd P T (some (j, false)) o.type b with
  | .bool c, .bool x, .bool y => some { obl := none, val := .bool (bite c x y) }
  | .bool c, .int k x, .int k' y => if k = k' then some { obl := none, val := .int k (iite c x y) } else none
  | .bool c, .top, y => some { obl := some (bnot c), val := y }
  | .bool c, x, .top => some { obl := some c, val := x }
  | _, _, _ => none
 | .alloc t => match zeroCellsOf P t with
  | some cs => some { obl := none, val := .ptr fr 0 0, writes := [(fr, .var cs)] }
  | none => none
 | .box t x => match cellsOfAV (ev t x) with
  | some cs => some { obl := none, val := .ptr fr 0 0, writes := [(fr, .var cs)] }
  | none => none
 | .build t ps => match zeroCellsOf P t, placesOf P t with
  | some z, some pl => match fillAV pl z (partsOf P T g (fieldType P t) ps) with
   | some cs => some { obl := none, val := .agg cs }
   | none => none
  | _, _ => none
 | .buildSlice t n ps => match rowType P t, partsInOrder 0 (partsOf P T g (fieldType P t) ps) with
  | some e, some cs => if elemOk P e = true ∧ cs.length = n ∧ n * P.cellsOf e ≤ 2 ^ 24 ∧ (cs.all fun x => x.length == (colsOf P 9 e).length) = true then match rowOf (colsOf P 9 e) cs with
   | some cols => some { obl := none, val := .full fr, writes := [(fr, .row e n cols)] }
   | none => none
   else none
  | _, _ => none
 | .load t a => match szOf P t with
  | some n => match readCells H n (ev 0 a) with
   | some (b, cs, rd) => match wrap P t cs with
    | some v => some { obl := b, val := v, reads := rd }
    | none => none
   | none => none
  | none => none
 | .store t a x => match ev 0 a, cellsOfAV (ev t x) with
  | .ptr id idx off, some vs => if szOf P t = some vs.length then match H.at id with
   | some (.var cs) => if idx = 0 ∧ off + vs.length ≤ cs.length then some { obl := none, val := .top, reads := [id], writes := [(id, .var (overL cs off vs))] } else none
   | some (.row e k cols) => match zipAll (fun (c : Col) v => c.set idx v) ((cols.drop off).take vs.length) vs with
    | some ws => if off + vs.length ≤ cols.length then some { obl := some (nlt idx k), val := .top, reads := [id], writes := [(id, .row e k (overL cols off ws))] } else none
    | none => none
   | _ => none
   else none
  | _, _ => none
 | .nilCheck x => match ev 0 x with
  | .ptr id idx off => some { obl := none, val := .ptr id idx off }
  | .ip cs => some { obl := none, val := .ip cs }
  | .fn f a b => match f with
   | .func _ => some { obl := none, val := .fn f a b }
   | _ => none
  | _ => none
 | .binOp op t x y yt => match binop P op t (ev t x) (ev yt y) with
  | some (b, v) => some { obl := b, val := v }
  | none => none
 | .unOp .not _ x => match ev o.type x with
  | .bool b => some { obl := none, val := .bool (bnot b) }
  | _ => none
 | .unOp .neg _ x => match ev o.type x with
  | .int k n => some { obl := none, val := .int k (ineg k n) }
  | _ => none
 | .convert src dst x => match P.underlying src, P.underlying dst, ev src x with
  | some (.int _), some (.int k), .int _ n => some { obl := none, val := .int k (icnv k n) }
  | _, _, _ => none
 | .makeInterface t x => match P.underlying t with
  | some (.interface _) => none
  | some _ => match ev t x with
   | .top => none
   | .cond _ _ _ => none
   | v => some { obl := none, val := .ifc t v }
  | none => none
 | .makeFunc (.func k) first cap => some { obl := none, val := .fn (.func k) (first.toList.map (ev 0)) (cap.toList.map (ev 0)) }
 | .makeSlice t l c => match rowType P t, ev 3 l, ev 3 c with
  | some e, .int _ n, .int _ m => if elemOk P e then some { obl := some (band (ile 0 n) (band (ile n (ofN room)) (ieq n m))), val := .full fr, writes := [(fr, .row e (nOf n) (zerosRow P e (nOf n)))] } else none
  | _, _, _ => none
 | .slice t x lo hi mx => sliceEff P T g H t (ev t x) lo hi mx
 | .fieldAddr s x f => match fieldOf P s f, ev 0 x with
  | some (o, _), .ptr id idx off => some { obl := none, val := .ptr id idx (off + o) }
  | some (o, _), .ip cs => some { obl := none, val := .ip (cs.drop o) }
  | _, _ => none
 | .field s x f => match fieldOf P s f, ev s x with
  | some (o, t), .agg cs => match szOf P t with
   | some n => if cs.length < o + n then none else match wrap P t ((cs.drop o).take n) with
    | some v => some { obl := none, val := v }
    | none => none
   | none => none
  | _, _ => none
 | .indexAddr t x i => match rowType P t, ev t x, ev 3 i with
  | some e, .sl n cols, .int _ i => if szOf P e = some cols.length then some { obl := some (band (ile 0 i) (ilt i (ofN n))), val := .ip (cols.map (·.get (nOf i))) } else none
  | some e, .full id, .int _ i => match H.at id with
   | some (.row _ n cols) => if szOf P e = some cols.length then some { obl := some (band (ile 0 i) (ilt i (ofN n))), val := .ptr id (nOf i) 0, reads := [id] } else none
   | _ => none
  | some e, .osl id off n, .int _ i => match H.at id with
   | some (.row _ _ cols) => if szOf P e = some cols.length then some { obl := some (band (ile 0 i) (ilt i (ofN n))), val := .ptr id (nAdd off (nOf i)) 0, reads := [id] } else none
   | _ => none
  | some _, .emp _ _, .int _ _ => some { obl := some false, val := .top }
  | _, _, _ => none
 | .extract x i => match ev 0 x with
  | .tup vs => match vs[i]? with
   | some .top => none
   | some v => some { obl := none, val := v }
   | none => none
  | _ => none
 | .typeAssert x _ t false => match P.underlying t, ev 0 x with
  | some (.interface _), _ => none
  | some _, .ifc t' v => if t = t' then some { obl := none, val := v } else none
  | _, _ => none
 | .makeMap t none => match mapT P t with
  | some (cols, one) => some { obl := none, val := .mp fr, writes := [(fr, .tmap [] cols one)] }
  | none => some { obl := none, val := .mp fr, writes := [(fr, .map [])] }
 | .range t x => match P.underlying t, ev 0 x with
  | some (.map _ _), .mapv ks cols one => some { obl := none, val := .it fr, writes := [(fr, .iter ks cols one (nUp (lenI ks)) none)] }
  | _, _ => none
 | .entry x => match ev 0 x with
  | .it id => match H.at id with
   | some (.iter ks cols one _ (some i)) => some { obl := none, val := .tup [.int .i64 (gI ks i), elemAt cols one i], reads := [id] }
   | _ => none
  | _ => none
 | .lookup t m k ok => match ev 0 m, ev 3 k with
  | .mp id, .int .i64 n => match H.at id with
   | some (.tmap ks cols one) => if zeroElem P t cols one && (mapT P t).isSome && cols.all Col.flat then some { obl := none, val := if ok then .tup [elemOf ks cols one n, .bool (mhas ks n)] else elemOf ks cols one n, reads := [id] } else none
   | _ => none
  | _, _ => none
 | .insert t m k v | .mapUpdate t m k v => if !isIntMap P t then none else match ev 0 m, ev 3 k, ev 0 v with
  | .mp id, .int .i64 n, v => match H.at id, v with
   | some (.tmap ks cols one), v => match putAll ks cols n one v with
    | some zs => some { obl := none, val := .top, reads := [id], writes := [(id, .tmap (mkey ks n) zs one)] }
    | none => none
   | some (.map es), .fn f a b => some { obl := some (allNe n es), val := .top, reads := [id], writes := [(id, .map (es ++ [(n, .fn f a b)]))] }
   | some (.map es), .agg cs => some { obl := some (allNe n es), val := .top, reads := [id], writes := [(id, .map (es ++ [(n, .agg cs)]))] }
   | _, _ => none
  | _, _, _ => none
 | .call c => match c.callee with
  | .builtin b => builtinEff P T H fr g b c
  | _ => match calleeOf P T g c with
   | some (k, args) => match S k with
    | some s => s args H fr
    | none => none
   | none => none
 | _ => none
def nodupB : List Nat → Bool
 | [] => true
 | x :: xs => !xs.contains x && nodupB xs
abbrev Pure1 := List AV → Option (Option Bool × AV)
def pureSumm (F : Pure1) : Summ := fun args H fr =>
 match pureArgs H args with
 | some (as, rd) => match F as with
  | some (b, r) => if (rd.isEmpty || freshAV r) && nodupB ((adopt fr r).2.map (·.1)) && (adopt fr r).2.all (fun w => decide (fr ≤ w.1) && decide (w.1 < fr + 128)) then some { obl := b, val := (adopt fr r).1, reads := rd, writes := (adopt fr r).2 } else none
  | none => none
 | none => none
def isB (c want : Bool) : Bool := match want with
 | true => c
 | false => bnot c
def guardB (T : List AV) : Nat → Nat → Bool → Option Bool
 | 0, _, _ => none
 | n + 1, jt, want => match T.getD jt .top with
  | .bool c => some (isB c want)
  | .cond j b (.bool c) => match guardB T n j b with
   | some q => some (band q (isB c want))
   | none => none
  | _ => none
def condNames (T : List AV) : Nat → Nat → List Nat
 | 0, _ => []
 | n + 1, jt => jt :: match T.getD jt .top with
  | .cond j _ _ => condNames T n j
  | _ => []
def asrt (b : Bool) (X : Prop) : Prop := match b with
 | true => X
 | false => False
def br (b : Bool) (X Y : Prop) : Prop := match b with
 | true => X
 | false => Y
def must (o : Option Bool) (X : Prop) : Prop := match o with
 | none => X
 | some b => asrt b X
inductive Ex where
 | normal
 | exit (id : Nat)
 | ret
abbrev CallF := FuncId → List AV → Heap → (AV → Heap → Prop) → Prop
def lookupBr (n : Int) (zero : AV) (ok : Bool) (Q : AV → Prop) : List (Int × AV) → Prop
 | [] => Q (if ok then .tup [zero, .bool false] else zero)
 | (k, v) :: es => br (ieq n k) (Q (if ok then .tup [v, .bool true] else v)) (lookupBr n zero ok Q es)
def zeroOf (P : Program) (t : TypeId) : Option AV := match (P.info? t).bind (·.zero) with
 | some (.agg cs) => if areVals (zerosOf P 9 t) cs.toList then some (.agg (zerosOf P 9 t)) else none
 | some v => match zerosOf P 9 t with
  | [x] => if isVal x v then some x else none
  | _ => none
 | none => none
def isNil : Operand → Bool
 | .const (.slice none n c) => n == 0 && c == 0
 | _ => false
def eqNil (P : Program) (T : List AV) (H : Heap) (g : Option (Nat × Bool)) (t : TypeId) (x : Operand) (Q : AV → Heap → Prop) : Prop :=
 match rowType P t, opd P T g t x with
 | some _, .sl n _ => ∀ b : Bool, (b = true → n = 0) → Q (.bool b) H
 | _, _ => False
def lookupOp (P : Program) (T : List AV) (H : Heap) (g : Option (Nat × Bool)) (t : TypeId) (m k : Operand) (ok : Bool) (Q : AV → Heap → Prop) : Prop :=
 match P.underlying t, opd P T g 0 m, opd P T g 3 k with
 | some (.map kt e), .mp id, .int .i64 n => match P.underlying kt, H.at id, zeroOf P e with
  | some (.int .i64), some (.map es), some z => lookupBr n z ok (fun v => Q v H) es
  | _, _, _ => False
 | _, _, _ => False
def nextOp (P : Program) (T : List AV) (H : Heap) (g : Option (Nat × Bool)) (x : Operand) (Q : AV → Heap → Prop) : Prop :=
 match opd P T g 0 x with
 | .it id => match H.at id with
  | some (.iter ks cols one left _) => br (nNil left) (Q (.tup [.bool false]) H) (∀ i : Nat, nIn i left = true → Q (.tup [.bool true, .int .i64 (gI ks i), elemAt cols one i]) (writeAll H [(id, .iter ks cols one (nDel left i) (some i))]))
  | _ => False
 | _ => False
def pickBr (n : Int) (Q : Nat → Prop) : Nat → Nat → Prop
 | _, 0 => False
 | k, m + 1 => br (ieq n (ofN k)) (Q k) (pickBr n Q (k + 1) m)
def arrOp (P : Program) (T : List AV) (H : Heap) (g : Option (Nat × Bool)) (t : TypeId) (x i : Operand) (Q : AV → Heap → Prop) : Prop :=
 match P.underlying t, opd P T g t x, opd P T g 3 i with
 | some (.array n e), .ptr id idx off, .int _ j => match szOf P e with
  | some sz => pickBr j (fun k => Q (.ptr id idx (off + k * sz)) H) 0 n
  | none => False
 | _, _, _ => False
def special (P : Program) (callf : CallF) (T : List AV) (H : Heap) (g : Option (Nat × Bool)) (o : Oper) (Q : AV → Heap → Prop) : Prop :=
 match o.op with
 | .binOp op t x y _ => if op = .eql ∧ isNil y = true then eqNil P T H g t x Q else False
 | .lookup t m k ok => lookupOp P T H g t m k ok Q
 | .next x false => nextOp P T H g x Q
 | .indexAddr t x i => arrOp P T H g t x i Q
 | .call c => match calleeOf P T g c with
  | some (k, args) => callf k args H Q
  | none => False
 | _ => False
def runPlain (P : Program) (S : FuncId → Option Summ) (callf : CallF) (g : Option (Nat × Bool)) (o : Oper) (st : St) (Q : St → Prop) : Prop :=
 match opEff P S st.T st.H st.H.length g o with
 | some e => must e.obl (Q ⟨setT st.T o.dst e.val, writeAll st.H e.writes⟩)
 | none => special P callf st.T st.H g o fun v H' => Q ⟨setT st.T o.dst v, H'⟩
def guardTmp (ops : Array Oper) (j : Nat) : Option Nat := (ops[j]?).bind (·.dst)
def notT (T : List AV) (jt : Nat) (want : Bool) : List AV := match T.getD jt .top with
 | .bool _ => T.set jt (.bool (!want))
 | _ => T
def runOp (P : Program) (S : FuncId → Option Summ) (callf : CallF) (ops : Array Oper) (o : Oper) (st : St) (Q : St → Prop) : Prop :=
 match o.guard with
 | none => runPlain P S callf none o st Q
 | some (j, want) => match guardTmp ops j with
  | none => False
  | some jt => if o.dst = some jt then False else match guardB st.T 6 jt want with
   | some q => match opEff P S st.T st.H st.H.length (some (jt, want)) o with
    | some ⟨obl, v, _, []⟩ => must (obl.map fun x => bimp q x) (Q ⟨setT st.T o.dst (.cond jt want v), st.H⟩)
    | _ => br q (runPlain P S callf (some (jt, want)) o ⟨st.T.set jt (.bool want), st.H⟩ Q) (Q ⟨setT (notT st.T jt want) o.dst .top, st.H⟩)
   | _ => False
def runOps (P : Program) (S : FuncId → Option Summ) (callf : CallF) (ops : Array Oper) : List Oper → St → (St → Prop) → Prop
 | [], st, Q => Q st
 | o :: rest, st, Q => runOp P S callf ops o st fun st' => runOps P S callf ops rest st' Q
structure DEff where
 dst : Option Nat
 names : List Nat
 val : AV
 reads : List Nat
 writes : List (Nat × AObj)
 guard : Option (Nat × Option Nat)
def namesOf (ops : Array Oper) (T : List AV) (o : Oper) : List Nat :=
 (o.op.operands.toList.filterMap fun | .tmp t => some t | _ => none) ++ (match o.guard with
  | some (j, _) => (match guardTmp ops j with
   | some jt => condNames T 6 jt
   | none => [])
  | none => [])
def drawEff (P : Program) (S : FuncId → Option Summ) (ops : Array Oper) (fr : Nat) (o : Oper) (st : St) : Option Eff :=
 match o.guard with
 | none => opEff P S st.T st.H fr none o
 | some (j, want) => match guardTmp ops j with
  | none => none
  | some jt => match guardB st.T 6 jt want with
   | some q => match opEff P S st.T st.H fr (some (jt, want)) o with
    | some ⟨obl, v, rd, []⟩ => some { obl := obl.map fun x => bimp q x, val := .cond jt want v, reads := rd }
    | some ⟨obl, v, rd, w :: ws⟩ => some { obl := some (match obl with | none => q | some x => band q x), val := .cond jt want v, reads := rd, writes := w :: ws }
    | _ => none
   | _ => none
def disjoint (a b : List Nat) : Bool := a.all fun x => !b.contains x
def apartD (a b : DEff) : Bool :=
 disjoint a.dst.toList (b.dst.toList ++ b.names) && disjoint b.dst.toList a.names &&
 disjoint (a.writes.map (·.1)) (b.reads ++ b.writes.map (·.1)) && disjoint (b.writes.map (·.1)) a.reads
def maskOf (acc : List Nat) : List Edge → Nat
 | [] => 0
 | e :: es => if Region.binds .any e then (2 ^ e.on ||| acc.getD e.on 0) ||| maskOf acc es else maskOf acc es
def befs : List Nat → List Oper → List Nat
 | acc, [] => acc
 | acc, o :: os => befs (acc ++ [maskOf acc o.after.toList]) os
def edgesBack : Nat → List Oper → Bool
 | _, [] => true
 | i, o :: os => (o.after.toList.all fun e => !Region.binds .any e || decide (e.on < i)) && edgesBack (i + 1) os
def sizeOp (o : Oper) : Nat := match o.op with
 | .call c => match c.callee with
  | .builtin _ => 1
  | _ => 128
 | _ => 1
def offOp : List Oper → Nat → Nat
 | [], _ => 0
 | _ :: _, 0 => 0
 | o :: os, i + 1 => sizeOp o + offOp os i
def ownOp : List Oper → Nat → Nat → Nat
 | [], _, k => k
 | o :: os, m, k => if m < sizeOp o then k else ownOp os (m - sizeOp o) (k + 1)
def apartFrom (d : DEff) (i : Nat) : Nat → List Nat → List DEff → Bool
 | _, _, [] => true
 | j, b :: bs, e :: es => (b.testBit i || apartD d e) && apartFrom d i (j + 1) bs es
 | _, [], _ :: _ => false
def allApart : Nat → List Nat → List DEff → Bool
 | _, _, [] => true
 | i, _ :: bs, d :: ds => apartFrom d i (i + 1) bs ds && allApart (i + 1) bs ds
 | _, [], _ :: _ => false
def eachOk (base : Nat) (ops : List Oper) : Nat → List Nat → List DEff → Bool
 | _, _, [] => true
 | i, b :: bs, d :: ds => (d.writes.all fun w => decide (w.1 < base) || ownOp ops (w.1 - base) 0 == i || b.testBit (ownOp ops (w.1 - base) 0)) && (match d.guard with
   | some (j, jt) => b.testBit j && (match d.val with
    | .cond j' _ _ => jt == some j'
    | _ => true)
   | none => (match d.val with
    | .cond _ _ _ => false
    | _ => true)) && eachOk base ops (i + 1) bs ds
 | _, [], _ :: _ => false
def drawOk (base : Nat) (ops : List Oper) (ds : List DEff) : Bool :=
 edgesBack 0 ops && allApart 0 (befs [] ops) ds && eachOk base ops 0 (befs [] ops) ds && nodupB (ds.flatMap fun d => d.dst.toList)
def clearConds (T : List AV) : List AV := T.map fun
 | .cond _ _ _ => .top
 | v => v
def deffOf (ops : Array Oper) (T : List AV) (o : Oper) (e : Eff) : DEff := ⟨o.dst, namesOf ops T o, e.val, e.reads, e.writes, o.guard.map fun g => (g.1, guardTmp ops g.1)⟩
def applyD (d : DEff) (st : St) : St := ⟨(match d.dst with | some i => st.T.set i d.val | none => st.T), writeAll st.H d.writes⟩
def lookAt (P : Program) (T : List AV) (H : Heap) (o : Oper) : Option (Int × AV × Bool × Nat × List (Int × AV)) := match o.guard with
 | some _ => none
 | none => match o.op with
  | .lookup t m k ok => match P.underlying t, opd P T none 0 m, opd P T none 3 k with
   | some (.map kt e), .mp id, .int .i64 n => match P.underlying kt, H.at id, zeroOf P e with
    | some (.int .i64), some (.map es), some z => some (n, z, ok, id, es)
    | _, _, _ => none
   | _, _, _ => none
  | _ => none
def lookV (ok : Bool) (v : AV) (b : Bool) : AV := if ok then .tup [v, .bool b] else v
def lookEffs (n : Int) (z : AV) (ok : Bool) (id : Nat) : List (Int × AV) → Bool → List Eff
 | [], g => [{ obl := some g, val := lookV ok z false, reads := [id] }]
 | (k, v) :: es, g => { obl := some (band g (ieq n k)), val := lookV ok v true, reads := [id] } :: lookEffs n z ok id es (band g (bnot (ieq n k)))
def lookBrs (n : Int) (z : AV) (ok : Bool) (id : Nat) (K : Eff → Prop) : List (Int × AV) → Bool → Prop
 | [], g => K { obl := some g, val := lookV ok z false, reads := [id] }
 | (k, v) :: es, g => br (ieq n k) (K { obl := some (band g (ieq n k)), val := lookV ok v true, reads := [id] }) (lookBrs n z ok id K es (band g (bnot (ieq n k))))
def drawOps (P : Program) (S : FuncId → Option Summ) (ops : Array Oper) (base : Nat) : Nat → List Oper → St → List DEff → (St → Prop) → Prop
 | _, [], st, acc, Q => asrt (drawOk base ops.toList acc) (Q st)
 | i, o :: rest, st, acc, Q => match drawEff P S ops (base + offOp ops.toList i) o st with
  | some e => must e.obl (drawOps P S ops base (i + 1) rest (applyD (deffOf ops st.T o e) st) (acc ++ [deffOf ops st.T o e]) Q)
  | none => match lookAt P st.T st.H o with
   | some (n, z, ok, id, es) => lookBrs n z ok id (fun e => drawOps P S ops base (i + 1) rest (applyD (deffOf ops st.T o e) st) (acc ++ [deffOf ops st.T o e]) Q) es true
   | none => False
inductive Src where
 | tmp (i : Nat)
 | cell (k j : Nat)
inductive Got where
 | old (id : Nat)
 | new (e : TypeId) (cols : List Col)
def mapAll {α β : Type} (f : α → Option β) : List α → Option (List β)
 | [] => some []
 | a :: as => match f a, mapAll f as with
  | some b, some bs => some (b :: bs)
  | _, _ => none
def gotOf : AV → Option Got
 | .full id => some (.old id)
 | .osl id _ _ => some (.old id)
 | .ptr id _ _ => some (.old id)
 | .mp id => some (.old id)
 | .it id => some (.old id)
 | .ifc _ (.ptr id _ _) => some (.old id)
 | .fn _ [] [.ptr id _ _] => some (.old id)
 | .emp e cols => match cols with
  | [] => none
  | col :: rest => some (.new e (col :: rest))
 | _ => none
def gotAt (st : St) (acc : List Got) : Src → Option Got
 | .tmp i => gotOf (st.T.getD i .top)
 | .cell k j => match acc[k]? with
  | some (.old id) => match st.H.at id with
   | some (.var cs) => gotOf (cs.getD j .top)
   | _ => none
  | _ => none
def gotAll (st : St) : List Src → List Got → Option (List Got)
 | [], acc => some acc
 | s :: ss, acc => match gotAt st acc s with
  | some g => gotAll st ss (acc ++ [g])
  | none => none
def posOf (id : Nat) : List Got → Nat → Option Nat
 | [], _ => none
 | .old i :: gs, k => if i = id then some k else posOf id gs (k + 1)
 | .new _ _ :: gs, k => posOf id gs (k + 1)
def oldIds : List Got → List Nat
 | [] => []
 | .old i :: gs => i :: oldIds gs
 | .new _ _ :: gs => oldIds gs
def hereT (i : Nat) : List Src → List Got → Nat → Option Nat
 | .tmp j :: ss, .new _ _ :: gs, k => if j = i then some k else hereT i ss gs (k + 1)
 | _ :: ss, _ :: gs, k => hereT i ss gs (k + 1)
 | _, _, _ => none
def hereC (k0 i : Nat) : List Src → List Got → Nat → Option Nat
 | .cell k1 j :: ss, .new _ _ :: gs, k => if k1 = k0 ∧ j = i then some k else hereC k0 i ss gs (k + 1)
 | _ :: ss, _ :: gs, k => hereC k0 i ss gs (k + 1)
 | _, _, _ => none
def stayLeaf : AV → Bool
 | .int _ _ => true
 | .bool _ => true
 | .val _ => true
 | .sl _ _ => true
 | .mapv _ _ _ => true
 | _ => false
def convLeaf (gots : List Got) (H : Heap) (here : Option Nat) : AV → Option AV
 | .int k n => some (.int k n)
 | .bool b => some (.bool b)
 | .val v => some (.val v)
 | .sl n cols => some (.sl n cols)
 | .emp _ cols => match here with
  | some k => some (.full k)
  | none => some (.sl 0 cols)
 | .full id => match posOf id gots 0 with
  | some k => some (.full k)
  | none => match H.at id with
   | some (.row _ n cols) => some (.sl n cols)
   | _ => none
 | .osl id off n => match posOf id gots 0 with
  | some k => some (.osl k off n)
  | none => match H.at id with
   | some (.row _ _ cols) => some (.sl n (cols.map (·.part off n)))
   | _ => none
 | .ptr id idx off => match posOf id gots 0 with
  | some k => some (.ptr k idx off)
  | none => none
 | .mp id => match posOf id gots 0 with
  | some k => some (.mp k)
  | none => none
 | .it id => match posOf id gots 0 with
  | some k => some (.it k)
  | none => none
 | .mapv ks cols one => some (.mapv ks cols one)
 | .top => some .top
 | .ip cs => if cs.all stayLeaf then some (.ip cs) else none
 | .fn f [] [] => some (.fn f [] [])
 | .fn f [] [.ptr id idx off] => match posOf id gots 0 with
  | some k => some (.fn f [] [.ptr k idx off])
  | none => none
 | _ => none
def convVal (gots : List Got) (H : Heap) (here : Option Nat) : AV → Option AV
 | .agg cs => match mapAll (convLeaf gots H none) cs with
  | some ds => some (.agg ds)
  | none => none
 | .fn f xs ys => match mapAll (convLeaf gots H none) xs, mapAll (convLeaf gots H none) ys with
  | some as, some bs => some (.fn f as bs)
  | _, _ => none
 | .ifc t x => match convLeaf gots H none x with
  | some y => some (.ifc t y)
  | none => none
 | x => convLeaf gots H here x
def convCells (srcs : List Src) (gots : List Got) (H : Heap) (k : Nat) : Nat → List AV → Option (List AV)
 | _, [] => some []
 | j, x :: xs => match convLeaf gots H (hereC k j srcs gots 0) x, convCells srcs gots H k (j + 1) xs with
  | some y, some ys => some (y :: ys)
  | _, _ => none
def convObj (srcs : List Src) (gots : List Got) (H : Heap) (k : Nat) : Got → Option AObj
 | .new e cols => some (.row e 0 cols)
 | .old id => match H.at id with
  | some (.row e n cols) => some (.row e n cols)
  | some (.tmap ks cols one) => some (.tmap ks cols one)
  | some (.iter ks cols one left cur) => some (.iter ks cols one left cur)
  | some (.var cs) => match convCells srcs gots H k 0 cs with
   | some ds => some (.var ds)
   | none => none
  | some (.map es) => match mapAll (fun (p : Int × AV) => match convVal gots H none p.2 with
    | some y => some (p.1, y)
    | none => none) es with
   | some fs => some (.map fs)
   | none => none
  | _ => none
def convObjs (srcs : List Src) (gots : List Got) (H : Heap) : Nat → List Got → Option Heap
 | _, [] => some []
 | k, g :: gs => match convObj srcs gots H k g, convObjs srcs gots H (k + 1) gs with
  | some o, some os => some (some o :: os)
  | _, _ => none
def convTmps (srcs : List Src) (gots : List Got) (H : Heap) (T : List AV) : List Nat → Option (List AV)
 | [] => some []
 | i :: is => match convVal gots H (hereT i srcs gots 0) (T.getD i .top), convTmps srcs gots H T is with
  | some y, some ys => some (y :: ys)
  | _, _ => none
def tidy (n : Nat) (keep : List Nat) (srcs : List Src) (st : St) : Option (List AV × Heap) :=
 if st.T.length = n then match gotAll st srcs [] with
 | some gots => if nodupB (oldIds gots) then match convTmps srcs gots st.H st.T keep, convObjs srcs gots st.H 0 gots with
  | some vals, some objs => some (vals, objs)
  | _, _ => none
  else none
 | none => none
 else none
def atKeep (i : Nat) : List Nat → List AV → AV
 | j :: js, v :: vs => if j = i then v else atKeep i js vs
 | _, _ => .top
def mkT (keep : List Nat) (vals : List AV) : Nat → Nat → List AV
 | 0, _ => []
 | n + 1, i => atKeep i keep vals :: mkT keep vals n (i + 1)
structure LoopSpec where
 n : Nat
 keep : List Nat
 srcs : List Src
 keepE : List Nat
 srcsE : List Src
 goes : List AV → Heap → (Ex → List AV → Heap → Prop) → Prop
def LoopSpec.summ (s : LoopSpec) (st : St) (Q : Ex → St → Prop) : Prop :=
 match tidy s.n s.keep s.srcs st with
 | some (vals, objs) => s.goes vals objs fun e vs os => Q e ⟨mkT s.keepE vs s.n 0, os⟩
 | none => False
def movable : AV → Bool
 | .top => true
 | .int _ _ => true
 | .bool _ => true
 | .val _ => true
 | .emp _ _ => true
 | .full k => k != 0
 | .osl k _ _ => k != 0
 | .ptr _ _ _ => true
 | .ifc _ (.ptr _ _ _) => true
 | _ => false
def relV (n j : Nat) : AV → AV
 | .int k x => .int k x
 | .bool b => .bool b
 | .val v => .val v
 | .emp e cols => .emp e cols
 | .full k => .full (n + k)
 | .osl k o m => .osl (n + k) o m
 | .ptr k idx off => .ptr (match k with | 0 => j | k + 1 => n + (k + 1)) idx off
 | .ifc t (.ptr k idx off) => .ifc t (.ptr (match k with | 0 => j | k + 1 => n + (k + 1)) idx off)
 | _ => .top
def movableO : AObj → Bool
 | .dead => true
 | .row _ _ cols => cols.all Col.flat
 | .var cs => cs.all movable
 | _ => false
def relO (n j : Nat) : AObj → AObj
 | .row e m cols => .row e m cols
 | .var cs => .var (cs.map (relV n j))
 | _ => .dead
def frameH (H : Heap) (j : Nat) (ids : List Nat) (os : Heap) : Heap := (List.range (H.length + os.length)).map fun id =>
 if id < H.length then (if id = j then (match os with | some o :: _ => some (relO H.length j o) | _ => none) else if ids.contains id then (match H[id]? with | some (some _) => some .dead | _ => none) else (match H[id]? with | some o => o | none => none))
 else if id = H.length then none else (match os[id - H.length]? with | some (some o) => some (relO H.length j o) | _ => none)
def headOld (st : St) : List Src → Option Nat
 | s :: _ => match gotAt st [] s with
  | some (.old j) => some j
  | _ => none
 | [] => none
def firstLive : Heap → Bool
 | some .dead :: _ => false
 | some _ :: _ => true
 | _ => false
def LoopSpec.framed (s : LoopSpec) (st : St) (Q : Ex → St → Prop) : Prop :=
 match headOld st s.srcs, gotAll st s.srcs [], tidy s.n s.keep s.srcs st with
 | some j, some gots, some (vals, objs) => s.goes vals objs fun e vs os =>
  asrt (firstLive os && (mkT s.keepE vs s.n 0).all movable && os.all fun | some o => movableO o | none => true)
   (Q e ⟨(mkT s.keepE vs s.n 0).map (relV st.H.length j), frameH st.H j (oldIds gots) os⟩)
 | _, _, _ => False
inductive LoopS where
 | unroll (n : Nat)
 | summ (s : St → (Ex → St → Prop) → Prop)
 | frame (s : St → (Ex → St → Prop) → Prop)
def iter (body : St → (Ex → St → Prop) → Prop) : Nat → St → (Ex → St → Prop) → Prop
 | 0, _, _ => False
 | n + 1, st, Q => body st fun e st' => match e with
  | .normal => iter body n st' Q
  | e => Q e st'
def runCode (P : Program) (S : FuncId → Option Summ) (callf : CallF) (L : Nat → Option LoopS) : Code → Nat → St → (Ex → St → Prop) → Prop
 | .skip, _, st, Q => Q .normal st
 | .region _ ops draw, _, st, Q => if draw then drawOps P S ops st.H.length 0 ops.toList ⟨clearConds st.T, st.H⟩ [] (Q .normal) else runOps P S callf ops ops.toList st (Q .normal)
 | .seq a b, i, st, Q => runCode P S callf L a i st fun e st' => match e with
  | .normal => runCode P S callf L b i st' Q
  | e => Q e st'
 | .cond c x y, i, st, Q => match opd P st.T none 0 c with
  | .bool b => match c with
   | .tmp j => br b (runCode P S callf L x i ⟨st.T.set j (.bool true), st.H⟩ Q) (runCode P S callf L y i ⟨st.T.set j (.bool false), st.H⟩ Q)
   | _ => br b (runCode P S callf L x i st Q) (runCode P S callf L y i st Q)
  | _ => False
 | .block id c, _, st, Q => if id < 1000000 then runCode P S callf L c id st fun e st' => match e with
  | .exit id' => if id' = id then Q .normal st' else Q (.exit id') st'
  | e => Q e st'
  else False
 | .loop c, i, st, Q => match L i with
  | some (.unroll n) => iter (fun st' Q' => runCode P S callf L c i st' Q') n st Q
  | some (.summ s) => s st Q
  | some (.frame s) => s st Q
  | none => False
 | .exit id, _, st, Q => if id < 1000000 then Q (.exit id) st else False
 | .goto l, _, st, Q => Q (.exit (1000000 + l)) st
 | .label _, _, st, Q => Q .normal st
 | .ret, _, st, Q => Q .ret st
 | _, _, _, _ => False
def loopsOf : Code → Nat → List (Nat × Code)
 | .seq a b, i => loopsOf a i ++ loopsOf b i
 | .cond _ x y, i => loopsOf x i ++ loopsOf y i
 | .block id c, _ => loopsOf c id
 | .loop c, i => (i, c) :: loopsOf c i
 | _, _ => []
def scopeRun (run : St → (Ex → St → Prop) → Prop) : Nat → Ex → St → (Ex → St → Prop) → Prop
 | n, .exit id, st, Q => if id < 1000000 then Q (.exit id) st else if id = 1000000 then (match n with
  | 0 => False
  | n + 1 => run st fun e st' => scopeRun run n e st' Q) else False
 | _, e, st, Q => Q e st
def runBody (P : Program) (S : FuncId → Option Summ) (callf : CallF) (L : Nat → Option LoopS) (c : Code) (i : Nat) (st : St) (Q : Ex → St → Prop) : Prop :=
 match c with
 | .seq x (.scope y) => match findLabel y 0, L 5000 with
  | some rest, some (.unroll n) => if (loopsOf y i).isEmpty && (loopsOf rest i).isEmpty then runCode P S callf L x i st fun e st' => match e with
    | .normal => runCode P S callf L y i st' fun e st'' => scopeRun (fun st Q => runCode P S callf L rest i st Q) n e st'' Q
    | e => Q e st'
   else False
  | _, _ => False
 | c => runCode P S callf L c i st Q
def resultsOf (P : Program) (st : St) : List ResultVar → (List AV → Prop) → Prop
 | [], Q => Q []
 | .tmp t :: rs, Q => resultsOf P st rs fun vs => Q (opd P st.T none 0 (.tmp t) :: vs)
 | .cell a t :: rs, Q => match szOf P t with
  | some n => match readCells st.H n (opd P st.T none 0 (.tmp a)) with
   | some (b, cs, _) => match wrap P t cs with
    | some v => must b (resultsOf P st rs fun vs => Q (v :: vs))
    | none => False
   | none => False
  | none => False
def oneOf (vs : List AV) : AV := match vs with
 | [v] => v
 | vs => .tup vs
def loopsAt (H : Heap) (L : Nat → Option LoopS) (i : Nat) : Option LoopS := match H with
 | [] => L i
 | _ :: _ => match L i with
  | some (.unroll n) => some (.unroll n)
  | some (.frame s) => some (.frame s)
  | _ => none
def callN (P : Program) (S : FuncId → Option Summ) (L : FuncId → Nat → Option LoopS) : Nat → CallF
 | 0, _, _, _, _ => False
 | n + 1, k, args, H, Q => match P.funcs[k]? with
  | some fn => if fn.name == "runtime.NumGoroutine" then False else match fn.body with
   | some c => runBody P S (callN P S L n) (loopsAt H (L k)) c 1000 ⟨args ++ List.replicate (fn.ntmps - args.length) .top, H⟩ fun e st => match e with
    | .exit _ => False
    | _ => resultsOf P st fn.results.toList fun vs => Q (oneOf vs) st.H
   | none => False
  | none => False
def giveLeaf (own : Bool) (H : Heap) : AV → Option (AV × List Nat)
 | .int k n => some (.int k n, [])
 | .bool b => some (.bool b, [])
 | .val v => some (.val v, [])
 | .sl n cols => some (.sl n cols, [])
 | .emp e cols => match cols with
  | [] => none
  | col :: rest => some (if own then .own e 0 (col :: rest) else .sl 0 (col :: rest), [])
 | .full id => match H.at id with
  | some (.row e n cols) => some (if own then (.own e n cols, [id]) else (.sl n cols, []))
  | _ => none
 | .osl id off n => match H.at id with
  | some (.row e _ cols) => match off with
   | 0 => some (if own then (.own e n (cols.map (·.part 0 n)), [id]) else (.sl n (cols.map (·.part 0 n)), []))
   | _ => if own then none else some (.sl n (cols.map (·.part off n)), [])
  | _ => none
 | .mp id => match H.at id with
  | some (.tmap ks cols one) => if own then some (.omap ks cols one, [id]) else none
  | _ => none
 | _ => none
def giveCells (own : Bool) (H : Heap) : AV → Option (AV × List Nat)
 | .agg cs => match mapIds (giveLeaf own H) cs with
  | some (r, ids) => some (.agg r, ids)
  | none => none
 | v => giveLeaf own H v
def give (own : Bool) (H : Heap) : AV → Option AV
 | .tup vs => match mapIds (giveCells own H) vs with
  | some (r, ids) => if nodupB ids then some (.tup r) else none
  | none => none
 | v => match giveCells own H v with
  | some (r, ids) => if nodupB ids then some r else none
  | none => none
def VC (P : Program) (S : FuncId → Option Summ) (L : FuncId → Nat → Option LoopS) (own : Bool) (f : FuncId) (args : List AV) (r : AV) : Prop :=
 callN P S L 12 f args [] fun v H => give own H v = some r
def LoopSpec.ends (s : LoopSpec) (μ : List AV → Heap → Nat) (vals : List AV) (objs : Heap) (Q : Ex → List AV → Heap → Prop) : Ex → St → Prop
 | .normal, st => match tidy s.n s.keep s.srcs st with
  | some (vs, os) => μ vs os < μ vals objs ∧ s.goes vs os Q
  | none => False
 | .exit id, st => match tidy s.n s.keepE s.srcsE st with
  | some (vs, os) => Q (.exit id) vs os
  | none => False
 | .ret, st => match tidy s.n s.keepE s.srcsE st with
  | some (vs, os) => Q .ret vs os
  | none => False
def LoopSpec.endsA (s : LoopSpec) (μ : List AV → Heap → Nat) (vals : List AV) (objs : Heap) (Q : Ex → List AV → Heap → Prop) : Ex → St → Prop
 | .normal, st => match headOld st s.srcs with
  | some 0 => s.ends μ vals objs Q .normal st
  | _ => False
 | .exit id, st => match headOld st s.srcsE with
  | some 0 => s.ends μ vals objs Q (.exit id) st
  | _ => False
 | .ret, st => match headOld st s.srcsE with
  | some 0 => s.ends μ vals objs Q .ret st
  | _ => False
def bodyOf (P : Program) (f : FuncId) (i : Nat) : Code := match P.funcs[f]? with
 | some fn => match fn.body with
  | some c => match (loopsOf c 1000).find? (fun p => p.1 == i) with
   | some p => p.2
   | none => .skip
  | none => .skip
 | none => .skip
def onlyLoop (P : Program) (f : FuncId) (i : Nat) : Bool := match P.funcs[f]? with
 | some fn => match fn.body with
  | some c => ((loopsOf c 1000).filter (fun p => p.1 == i)).length == 1
  | none => true
 | none => true
def oneL (k : FuncId) (L : Nat → Option LoopS) (f : FuncId) (i : Nat) : Option LoopS := match f == k with
 | true => L i
 | false => none
def noL : FuncId → Nat → Option LoopS := fun _ _ => none
def tabL : List (FuncId × Nat × LoopS) → FuncId → Nat → Option LoopS
 | [], _, _ => none
 | (k, i, x) :: l, f, j => match f == k with
  | true => (match j == i with
   | true => some x
   | false => tabL l f j)
  | false => tabL l f j
def tabS : List (FuncId × Pure1) → FuncId → Option Summ
 | [], _ => none
 | (i, F) :: l, k => match i == k with
  | true => some (pureSumm F)
  | false => tabS l k
structure Place where
 b : Nat
 sz : Nat
 n : Nat
 cap : Nat
structure Cx where
 w : World
 π : Nat → Option Place
 S : Nat → Prop
def cellIs (w : World) (b o : Nat) (u : Value) : Prop := w.cell? ⟨b, o, none⟩ = some u
def IntsAt (c : Cx) (k : IntKind) (xs : List Int) (u : Value) : Prop :=
 ∃ base cap, u = .slice base xs.length cap ∧ xs.length ≤ cap ∧ (xs.length = 0 ∨ ∃ a : Addr, base = some a ∧ a.spot = none ∧ c.S a.block ∧ ∀ i, i < xs.length → cellIs c.w a.block (a.off + i) (.int k (gI xs i)))
def ColIs (c : Cx) : Col → Nat → Value → Prop
 | .int k l, i, u => u = .int k (gI l i)
 | .bool l, i, u => u = .bool (gB l i)
 | .ints k l, i, u => IntsAt c k (gL l i) u
def ColsAt (c : Cx) (cols : List Col) (n : Nat) (base : Option Addr) : Prop :=
 (∀ col ∈ cols, col.len = n) ∧ (n = 0 ∨ ∃ a : Addr, base = some a ∧ a.spot = none ∧ c.S a.block ∧ ∀ i, i < n → ∀ j col, cols[j]? = some col → ∃ u, cellIs c.w a.block (a.off + (i * cols.length + j)) u ∧ ColIs c col i u)
def ColV : Col → Nat → Value → Prop
 | .int k l, i, u => u = .int k (gI l i)
 | .bool l, i, u => u = .bool (gB l i)
 | .ints _ _, _, _ => False
def ElemV (cols : List Col) (one : Bool) (i : Nat) (v : Value) : Prop := match one with
 | false => ∃ vs : Array Value, v = .agg vs ∧ vs.size = cols.length ∧ ∀ (j : Nat) (col : Col), cols[j]? = some col → ∃ u, vs[j]? = some u ∧ ColV col i u
 | true => ∃ col, cols = [col] ∧ ColV col i v
structure MapOf (w : World) (b : Nat) (ks : List Int) (cols : List Col) (one : Bool) (es : Array MapEntry) (clk : Nat) : Prop where
 here : w.heap[b]? = some (.map es clk)
 len : es.size = ks.length
 col : ∀ col ∈ cols, col.len = ks.length
 key : ∀ (i : Nat) (e : MapEntry), es[i]? = some e → e.key = .int .i64 (gI ks i)
 val : ∀ (i : Nat) (e : MapEntry), es[i]? = some e → ElemV cols one i e.val
 nodup : ks.Nodup
 born : (es.toList.map (·.born)).Nodup
 old : ∀ e ∈ es.toList, e.born < clk
theorem MapOf.mono {w w' : World} {b : Nat} {ks : List Int} {cols : List Col} {one : Bool} {es : Array MapEntry} {clk : Nat} (h : MapOf w b ks cols one es clk) (hb : w'.heap[b]? = w.heap[b]?) : MapOf w' b ks cols one es clk :=
 ⟨by rw [hb, h.here], h.len, h.col, h.key, h.val, h.nodup, h.born, h.old⟩
def IterAt (w : World) (S : Nat → Prop) (b : Nat) (ks : List Int) (cols : List Col) (one : Bool) (left : List Nat) (cur : Option Nat) : Prop :=
 ∃ (bm clk : Nat) (seen : Array Nat) (es : Array MapEntry), w.heap[b]? = some (.mapIter (some bm) clk seen clk) ∧ S bm ∧ MapOf w bm ks cols one es clk ∧ left.Nodup ∧ (∀ i : Nat, i ∈ left ↔ ∃ e : MapEntry, es[i]? = some e ∧ seen.contains e.born = false) ∧
  (∀ i : Nat, cur = some i → ∃ e : MapEntry, es[i]? = some e ∧ seen.back? = some e.born)
mutual
def Rel (c : Cx) : AV → Value → Prop
 | .top, _ => True
 | .bool b, v => v = .bool b
 | .int k n, v => v = .int k n
 | .val u, v => v = u
 | .agg cs, v => ∃ vs : Array Value, v = .agg vs ∧ RelL c cs vs.toList
 | .tup cs, v => ∃ vs : Array Value, v = .tuple vs ∧ RelL c cs vs.toList
 | .sl n cols, v => ∃ base cap, v = .slice base n cap ∧ n ≤ cap ∧ ColsAt c cols n base
 | .emp _ cols, v => (∀ col ∈ cols, col.len = 0) ∧ ∃ a, v = .slice a 0 0
 | .own _ _ _, _ => False
 | .full id, v => ∃ p a, c.π id = some p ∧ v = .slice a p.n p.cap ∧ (p.cap ≠ 0 → a = some ⟨p.b, 0, none⟩)
 | .osl id off n, v => ∃ p a, c.π id = some p ∧ v = .slice a n (p.cap - off) ∧ off + n ≤ p.n ∧ p.n ≤ p.cap ∧ (off < p.cap → a = some ⟨p.b, off * p.sz, none⟩)
 | .ptr id idx off, v => ∃ p, c.π id = some p ∧ v = .pointer (some ⟨p.b, idx * p.sz + off, none⟩)
 | .ip cs, v => ∃ a us, v = .pointer (some a) ∧ a.spot = none ∧ c.S a.block ∧ RelL c cs us ∧ ∀ j u, us[j]? = some u → cellIs c.w a.block (a.off + j) u
 | .mp id, v => ∃ p, c.π id = some p ∧ v = .map (some p.b)
 | .it id, v => ∃ p, c.π id = some p ∧ v = .pointer (some ⟨p.b, 0, none⟩)
 | .mapv ks cols one, v => ∃ b es clk, v = .map (some b) ∧ c.S b ∧ MapOf c.w b ks cols one es clk
 | .omap _ _ _, _ => False
 | .fn f xs ys, v => ∃ as bs : Array Value, v = .func f as bs ∧ RelL c xs as.toList ∧ RelL c ys bs.toList
 | .ifc t x, v => ∃ u, v = .iface t u ∧ Rel c x u
 | .cond _ _ _, _ => False
def RelL (c : Cx) : List AV → List Value → Prop
 | [], [] => True
 | a :: as, v :: vs => Rel c a v ∧ RelL c as vs
 | _, _ => False
end
def RelT (c : Cx) (tmps : Array Value) : AV → Value → Prop
 | .cond j b x, v => (tmps[j]? = some (.bool b) → Rel c x v) ∧ (tmps[j]? ≠ some (.bool b) → v = undef)
 | a, v => Rel c a v
def TOK (c : Cx) (T : List AV) (tmps : Array Value) : Prop :=
 T.length = tmps.size ∧ ∀ (i : Nat) (a : AV), T[i]? = some a → ∃ u, tmps[i]? = some u ∧ RelT c tmps a u
def MapIs (c : Cx) : List (Int × AV) → List MapEntry → Prop
 | [], [] => True
 | (k, a) :: es, m :: ms => m.key = .int .i64 k ∧ Rel c a m.val ∧ MapIs c es ms
 | _, _ => False
def ObjAt (c : Cx) : AObj → Place → Prop
 | .dead, _ => True
 | .row _ n cols, p => p.n = n ∧ p.sz = cols.length ∧ n ≤ p.cap ∧ 0 < cols.length ∧ (∀ col ∈ cols, col.len = n) ∧
   (p.cap ≠ 0 → ∃ arr t, c.w.heap[p.b]? = some (.cells arr t (0, 0)) ∧ arr.size = p.cap * p.sz ∧ ∀ i, i < n → ∀ j col, cols[j]? = some col → ∃ u, arr[i * p.sz + j]? = some u ∧ ColIs c col i u)
 | .var cells, p => ∃ arr t, c.w.heap[p.b]? = some (.cells arr t (0, 0)) ∧ RelL c cells arr.toList
 | .map es, p => ∃ arr clk, c.w.heap[p.b]? = some (.map arr clk) ∧ MapIs c es arr.toList
 | .tmap ks cols one, p => p.cap ≠ 0 ∧ ∃ es clk, MapOf c.w p.b ks cols one es clk
 | .iter ks cols one left cur, p => IterAt c.w c.S p.b ks cols one left cur
def Mem : AObj → Place → Prop
 | .dead, _ => False
 | .row _ _ _, p => p.cap ≠ 0
 | _, _ => True
def Live (H : Heap) (c : Cx) (id : Nat) (p : Place) : Prop := ∃ o, H.at id = some o ∧ c.π id = some p ∧ Mem o p
structure Base where
 heap : Array Obj
 S : Nat → Prop
structure HeapOK (w0 : Base) (H : Heap) (c : Cx) : Prop where
 obj : ∀ id o, H.at id = some o → ∃ p, c.π id = some p ∧ ObjAt c o p
 apart : ∀ id id' p p', Live H c id p → Live H c id' p' → id ≠ id' → p.b ≠ p'.b
 out : ∀ id p, Live H c id p → w0.heap.size ≤ p.b ∧ p.b < c.w.heap.size ∧ ¬ c.S p.b
 free : ∀ id, H.at id = none → c.π id = none
 stable : ∀ b, c.S b → b < c.w.heap.size
 kept : ∀ b, b < w0.heap.size → c.w.heap[b]? = w0.heap[b]?
 grown : w0.heap.size ≤ c.w.heap.size
 born : ∀ b, c.S b → w0.S b ∨ w0.heap.size ≤ b
def Rest (w w' : World) : Prop := w'.os = w.os ∧ w'.tape = w.tape ∧ w'.output = w.output
structure Cx.le (c c' : Cx) : Prop where
 π : ∀ id p, c.π id = some p → c'.π id = some p
 S : ∀ b, c.S b → c'.S b
 w : ∀ b, c.S b → c'.w.heap[b]? = c.w.heap[b]?
 size : c.w.heap.size ≤ c'.w.heap.size
 rest : Rest c.w c'.w
theorem Cx.le.refl (c : Cx) : c.le c := ⟨fun _ _ h => h, fun _ h => h, fun _ _ => rfl, Nat.le_refl _, rfl, rfl, rfl⟩
theorem Cx.le.trans {a b c : Cx} (h : a.le b) (h' : b.le c) : a.le c :=
 ⟨fun id p x => h'.π id p (h.π id p x), fun b x => h'.S b (h.S b x), fun b x => (h'.w b (h.S b x)).trans (h.w b x), Nat.le_trans h.size h'.size, h'.rest.1.trans h.rest.1, h'.rest.2.1.trans h.rest.2.1, h'.rest.2.2.trans h.rest.2.2⟩
theorem cell_of_heap {w w' : World} {b : Nat} (h : w'.heap[b]? = w.heap[b]?) (o : Nat) : w'.cell? ⟨b, o, none⟩ = w.cell? ⟨b, o, none⟩ := by
 simp only [World.cell?, h]
theorem cellIs.mono {c c' : Cx} (h : c.le c') {b o : Nat} {u : Value} (hb : c.S b) (hc : cellIs c.w b o u) : cellIs c'.w b o u := by
 unfold cellIs at *
 rw [cell_of_heap (h.w b hb), hc]
theorem IntsAt.mono {c c' : Cx} (h : c.le c') {k : IntKind} {xs : List Int} {u : Value} (hi : IntsAt c k xs u) : IntsAt c' k xs u := by
 obtain ⟨base, cap, rfl, hc, hr⟩ := hi
 refine ⟨base, cap, rfl, hc, hr.imp id ?_⟩
 rintro ⟨a, rfl, hs, hS, hx⟩
 exact ⟨a, rfl, hs, h.S _ hS, fun i hi => (hx i hi).mono h hS⟩
theorem ColIs.mono {c c' : Cx} (h : c.le c') {col : Col} {i : Nat} {u : Value} (hc : ColIs c col i u) : ColIs c' col i u := by
 cases col with
 | int k l => exact hc
 | bool l => exact hc
 | ints k l => exact IntsAt.mono h hc
theorem ColsAt.mono {c c' : Cx} (h : c.le c') {cols : List Col} {n : Nat} {base : Option Addr} (hc : ColsAt c cols n base) : ColsAt c' cols n base := by
 refine ⟨hc.1, hc.2.imp id ?_⟩
 rintro ⟨a, rfl, hs, hS, hx⟩
 exact ⟨a, rfl, hs, h.S _ hS, fun i hi j col hj => let ⟨u, h1, h2⟩ := hx i hi j col hj; ⟨u, h1.mono h hS, h2.mono h⟩⟩
mutual
theorem Rel.mono {c c' : Cx} (h : c.le c') : ∀ {a : AV} {v : Value}, Rel c a v → Rel c' a v
 | .top, _, _ => by simp [Rel]
 | .bool _, _, r => by simpa [Rel] using r
 | .int _ _, _, r => by simpa [Rel] using r
 | .val _, _, r => by simpa [Rel] using r
 | .agg cs, _, r => by
  simp only [Rel] at *
  obtain ⟨vs, rfl, hr⟩ := r
  exact ⟨vs, rfl, RelL.mono h hr⟩
 | .tup cs, _, r => by
  simp only [Rel] at *
  obtain ⟨vs, rfl, hr⟩ := r
  exact ⟨vs, rfl, RelL.mono h hr⟩
 | .sl n cols, _, r => by
  simp only [Rel] at *
  obtain ⟨base, cap, rfl, hn, hr⟩ := r
  exact ⟨base, cap, rfl, hn, hr.mono h⟩
 | .emp _ _, _, r => by simpa [Rel] using r
 | .own _ _ _, _, r => by simp [Rel] at r
 | .full id, _, r => by
  simp only [Rel] at *
  obtain ⟨p, a, hp, hv, ha⟩ := r
  exact ⟨p, a, h.π _ _ hp, hv, ha⟩
 | .osl id off n, _, r => by
  simp only [Rel] at *
  obtain ⟨p, a, hp, hv, ha⟩ := r
  exact ⟨p, a, h.π _ _ hp, hv, ha⟩
 | .ptr id idx off, _, r => by
  simp only [Rel] at *
  obtain ⟨p, hp, hv⟩ := r
  exact ⟨p, h.π _ _ hp, hv⟩
 | .ip cs, _, r => by
  simp only [Rel] at *
  obtain ⟨a, us, rfl, hs, hS, hr, hc⟩ := r
  exact ⟨a, us, rfl, hs, h.S _ hS, RelL.mono h hr, fun j u hj => (hc j u hj).mono h hS⟩
 | .mp id, _, r => by
  simp only [Rel] at *
  obtain ⟨p, hp, hv⟩ := r
  exact ⟨p, h.π _ _ hp, hv⟩
 | .it id, _, r => by
  simp only [Rel] at *
  obtain ⟨p, hp, hv⟩ := r
  exact ⟨p, h.π _ _ hp, hv⟩
 | .mapv _ _ _, _, r => by
  simp only [Rel] at *
  obtain ⟨b, es, clk, hv, hS, hm⟩ := r
  exact ⟨b, es, clk, hv, h.S _ hS, hm.mono (h.w _ hS)⟩
 | .omap _ _ _, _, r => by simp [Rel] at r
 | .fn f xs ys, _, r => by
  simp only [Rel] at *
  obtain ⟨as, bs, rfl, h1, h2⟩ := r
  exact ⟨as, bs, rfl, RelL.mono h h1, RelL.mono h h2⟩
 | .ifc t x, _, r => by
  simp only [Rel] at *
  obtain ⟨u, rfl, hu⟩ := r
  exact ⟨u, rfl, Rel.mono h hu⟩
 | .cond _ _ _, _, r => by simp [Rel] at r
theorem RelL.mono {c c' : Cx} (h : c.le c') : ∀ {as : List AV} {vs : List Value}, RelL c as vs → RelL c' as vs
 | [], [], _ => by simp [RelL]
 | a :: as, v :: vs, r => by
  simp only [RelL] at *
  exact ⟨Rel.mono h r.1, RelL.mono h r.2⟩
 | [], _ :: _, r => by simp [RelL] at r
 | _ :: _, [], r => by simp [RelL] at r
end
theorem RelT.mono {c c' : Cx} (h : c.le c') {tmps : Array Value} {a : AV} {v : Value} (r : RelT c tmps a v) : RelT c' tmps a v := by
 cases a <;> first | exact Rel.mono h r | exact ⟨fun hj => Rel.mono h (r.1 hj), r.2⟩
theorem TOK.mono {c c' : Cx} (h : c.le c') {T : List AV} {tmps : Array Value} (t : TOK c T tmps) : TOK c' T tmps :=
 ⟨t.1, fun i a hi => let ⟨u, h1, h2⟩ := t.2 i a hi; ⟨u, h1, h2.mono h⟩⟩
theorem MapIs.mono {c c' : Cx} (h : c.le c') : ∀ {es : List (Int × AV)} {ms : List MapEntry}, MapIs c es ms → MapIs c' es ms
 | [], [], _ => trivial
 | (_, _) :: _, _ :: _, r => ⟨r.1, r.2.1.mono h, MapIs.mono h r.2.2⟩
 | [], _ :: _, r => r.elim
 | _ :: _, [], r => r.elim
theorem ObjAt.mono {c c' : Cx} (h : c.le c') {o : AObj} {p : Place} (hb : Mem o p → c'.w.heap[p.b]? = c.w.heap[p.b]?) (r : ObjAt c o p) : ObjAt c' o p := by
 cases o with
 | dead => trivial
 | row e n cols =>
  obtain ⟨h1, h2, h3, h4, h5, h6⟩ := r
  refine ⟨h1, h2, h3, h4, h5, fun hc => ?_⟩
  obtain ⟨arr, t, ha, hs, hx⟩ := h6 hc
  exact ⟨arr, t, by rw [hb hc, ha], hs, fun i hi j col hj => let ⟨u, h1, h2⟩ := hx i hi j col hj; ⟨u, h1, h2.mono h⟩⟩
 | var cells =>
  obtain ⟨arr, t, ha, hr⟩ := r
  exact ⟨arr, t, by rw [hb trivial, ha], hr.mono h⟩
 | map es =>
  obtain ⟨arr, t, ha, hr⟩ := r
  exact ⟨arr, t, by rw [hb trivial, ha], hr.mono h⟩
 | tmap ks cols one =>
  obtain ⟨hc, es, clk, hm⟩ := r
  exact ⟨hc, es, clk, hm.mono (hb trivial)⟩
 | iter ks cols one left cur =>
  obtain ⟨bm, clk, seen, es, h1, h2, h3, h4⟩ := r
  exact ⟨bm, clk, seen, es, by rw [hb trivial, h1], h.S _ h2, h3.mono (h.w _ h2), h4⟩
theorem RelL.length {c : Cx} : ∀ {as : List AV} {vs : List Value}, RelL c as vs → as.length = vs.length
 | [], [], _ => rfl
 | a :: as, v :: vs, r => by
  simp only [RelL] at r
  simp [RelL.length r.2]
 | [], _ :: _, r => by simp [RelL] at r
 | _ :: _, [], r => by simp [RelL] at r
theorem RelL.get {c : Cx} : ∀ {as : List AV} {vs : List Value}, RelL c as vs → ∀ {i : Nat} {a : AV}, as[i]? = some a → ∃ v, vs[i]? = some v ∧ Rel c a v
 | [], [], _, i, a, h => by simp at h
 | a :: as, v :: vs, r, 0, x, h => by
  simp only [RelL] at r
  simp at h
  subst h
  exact ⟨v, rfl, r.1⟩
 | a :: as, v :: vs, r, i + 1, x, h => by
  simp only [RelL] at r
  simp only [List.getElem?_cons_succ] at h ⊢
  exact RelL.get r.2 h
 | [], _ :: _, r, _, _, _ => by simp [RelL] at r
 | _ :: _, [], r, _, _, _ => by simp [RelL] at r
theorem RelL.append {c : Cx} : ∀ {as : List AV} {vs : List Value} {bs : List AV} {us : List Value}, RelL c as vs → RelL c bs us → RelL c (as ++ bs) (vs ++ us)
 | [], [], _, _, _, h => by simpa using h
 | a :: as, v :: vs, bs, us, r, h => by
  simp only [RelL, List.cons_append] at *
  exact ⟨r.1, RelL.append r.2 h⟩
 | [], _ :: _, _, _, r, _ => by simp [RelL] at r
 | _ :: _, [], _, _, r, _ => by simp [RelL] at r
theorem RelL.drop {c : Cx} : ∀ (n : Nat) {as : List AV} {vs : List Value}, RelL c as vs → RelL c (as.drop n) (vs.drop n)
 | 0, _, _, r => by simpa using r
 | n + 1, [], [], _ => by simp [RelL]
 | n + 1, a :: as, v :: vs, r => by
  simp only [RelL] at r
  simpa using RelL.drop n r.2
 | _ + 1, [], _ :: _, r => by simp [RelL] at r
 | _ + 1, _ :: _, [], r => by simp [RelL] at r
theorem RelL.take {c : Cx} : ∀ (n : Nat) {as : List AV} {vs : List Value}, RelL c as vs → RelL c (as.take n) (vs.take n)
 | 0, _, _, _ => by simp [RelL]
 | n + 1, [], [], _ => by simp [RelL]
 | n + 1, a :: as, v :: vs, r => by
  simp only [RelL, List.take_succ_cons] at *
  exact ⟨r.1, RelL.take n r.2⟩
 | _ + 1, [], _ :: _, r => by simp [RelL] at r
 | _ + 1, _ :: _, [], r => by simp [RelL] at r
theorem RelL.overL {c : Cx} {as bs : List AV} {vs us : List Value} (n : Nat) (h : RelL c as vs) (h' : RelL c bs us) : RelL c (overL as n bs) (overL vs n us) := by
 unfold Own.overL
 rw [h'.length]
 exact ((h.take n).append h').append (h.drop _)
theorem RelL.of_get {c : Cx} : ∀ {as : List AV} {vs : List Value}, as.length = vs.length → (∀ (i : Nat) (a : AV), as[i]? = some a → ∃ v, vs[i]? = some v ∧ Rel c a v) → RelL c as vs
 | [], [], _, _ => by simp [RelL]
 | a :: as, v :: vs, hl, h => by
  simp only [RelL]
  refine ⟨?_, RelL.of_get (by simpa using hl) fun i x hx => ?_⟩
  ·obtain ⟨u, hu, hr⟩ := h 0 a rfl
   simp at hu
   exact hu ▸ hr
  ·exact h (i + 1) x (by simpa using hx)
 | [], _ :: _, hl, _ => by simp at hl
 | _ :: _, [], hl, _ => by simp at hl
theorem getElem?_setAt (H : Heap) (id : Nat) (o : AObj) (x : Nat) : (setAt H id o)[x]? = if x = id then some (some o) else if x < H.length then H[x]? else if x < id then some none else none := by
 induction H generalizing id x with
 | nil =>
  simp only [setAt, List.length_nil, Nat.not_lt_zero, if_false]
  by_cases h : x = id
  ·subst h; simp
  ·rw [if_neg h]
   by_cases h2 : x < id
   ·rw [if_pos h2, List.getElem?_append_left (by simpa using h2)]
    simp [h2]
   ·rw [if_neg h2, List.getElem?_eq_none]
    simp; omega
 | cons y H ih =>
  cases id with
  | zero =>
   cases x with
   | zero => simp [setAt]
   | succ x =>
    simp only [setAt, List.getElem?_cons_succ, List.length_cons]
    by_cases h : x < H.length
    ·simp [h]
    ·simp [h]
  | succ id =>
   cases x with
   | zero => simp [setAt]
   | succ x =>
    simp only [setAt, List.getElem?_cons_succ, List.length_cons, ih]
    by_cases h : x = id
    ·simp [h]
    ·by_cases h2 : x < H.length
     ·simp [h, h2]
     ·simp [h, h2]
theorem Heap.at_setAt (H : Heap) (id : Nat) (o : AObj) (x : Nat) : Heap.at (setAt H id o) x = if x = id then some o else H.at x := by
 unfold Heap.at
 rw [getElem?_setAt]
 by_cases h : x = id
 ·simp [h]
 ·simp only [h, if_false]
  by_cases h2 : x < H.length
  ·simp [h2]
  ·have h3 : H[x]? = none := List.getElem?_eq_none (by omega)
   by_cases h4 : x < id <;> simp [h2, h3, h4]
theorem HeapOK.write {w0 : Base} {H : Heap} {c c' : Cx} (h : HeapOK w0 H c) (id : Nat) (o : AObj) (p : Place) (hle : c.le c') (hS : ∀ b, c'.S b → c.S b)
  (hπ : c'.π id = some p) (hother : ∀ x, x ≠ id → c'.π x = c.π x)
  (hrest : ∀ x q, x ≠ id → Live H c x q → c'.w.heap[q.b]? = c.w.heap[q.b]?)
  (hobj : ObjAt c' o p)
  (hmem : Mem o p → w0.heap.size ≤ p.b ∧ p.b < c'.w.heap.size ∧ ¬ c.S p.b ∧ ∀ x q, x ≠ id → Live H c x q → q.b ≠ p.b)
  (hkept : ∀ b, b < w0.heap.size → c'.w.heap[b]? = c.w.heap[b]?) : HeapOK w0 (setAt H id o) c' := by
 have hlive : ∀ x q, Live (setAt H id o) c' x q → (x = id ∧ q = p ∧ Mem o p) ∨ (x ≠ id ∧ Live H c x q) := by
  rintro x q ⟨o', ho, hp, hm⟩
  rw [Heap.at_setAt] at ho
  by_cases hx : x = id
  ·subst hx
   simp at ho
   subst ho
   rw [hπ] at hp
   cases hp
   exact .inl ⟨rfl, rfl, hm⟩
  ·rw [if_neg hx] at ho
   exact .inr ⟨hx, o', ho, by rw [← hother x hx]; exact hp, hm⟩
 refine ⟨?_, ?_, ?_, ?_, ?_, ?_, ?_, fun b hb => h.born b (hS b hb)⟩
 ·intro x o' ho
  rw [Heap.at_setAt] at ho
  by_cases hx : x = id
  ·subst hx
   simp at ho
   subst ho
   exact ⟨p, hπ, hobj⟩
  ·rw [if_neg hx] at ho
   obtain ⟨q, hq, hoq⟩ := h.obj x o' ho
   exact ⟨q, by rw [hother x hx, hq], hoq.mono hle fun hm => hrest x q hx ⟨o', ho, hq, hm⟩⟩
 ·intro x y q r hx hy hne
  rcases hlive x q hx with ⟨rfl, rfl, hm⟩ | ⟨hx1, hx2⟩ <;> rcases hlive y r hy with ⟨hy0, hyr, hm'⟩ | ⟨hy1, hy2⟩
  ·exact absurd hy0.symm hne
  ·exact fun e => (hmem hm).2.2.2 y r hy1 hy2 e.symm
  ·subst hy0 hyr
   exact (hmem hm').2.2.2 x q hx1 hx2
  ·exact h.apart x y q r hx2 hy2 hne
 ·intro x q hx
  rcases hlive x q hx with ⟨rfl, rfl, hm⟩ | ⟨hx1, hx2⟩
  ·obtain ⟨h1, h2, h3, _⟩ := hmem hm
   exact ⟨h1, h2, fun hs => h3 (hS _ hs)⟩
  ·obtain ⟨h1, h2, h3⟩ := h.out x q hx2
   exact ⟨h1, Nat.lt_of_lt_of_le h2 hle.size, fun hs => h3 (hS _ hs)⟩
 ·intro x hx
  rw [Heap.at_setAt] at hx
  by_cases hxi : x = id
  ·simp [hxi] at hx
  ·rw [if_neg hxi] at hx
   rw [hother x hxi]
   exact h.free x hx
 ·intro b hb
  exact Nat.lt_of_lt_of_le (h.stable b (hS b hb)) hle.size
 ·intro b hb
  rw [hkept b hb, h.kept b hb]
 ·exact Nat.le_trans h.grown hle.size
def Cx.with (c : Cx) (w : World) : Cx := ⟨w, c.π, c.S⟩
def Cx.putAt (c : Cx) (w : World) (id : Nat) (p : Place) : Cx := ⟨w, fun x => if x = id then some p else c.π x, c.S⟩
theorem heap_push_old (w : World) (o : Obj) {b : Nat} (h : b < w.heap.size) : ({ w with heap := w.heap.push o } : World).heap[b]? = w.heap[b]? := by
 show (w.heap.push o)[b]? = _
 rw [Array.getElem?_push]
 rw [if_neg (by omega)]
theorem heap_push_new (w : World) (o : Obj) : ({ w with heap := w.heap.push o } : World).heap[w.heap.size]? = some o := by
 show (w.heap.push o)[w.heap.size]? = _
 simp
theorem le_push {w0 : Base} {H : Heap} {c : Cx} (h : HeapOK w0 H c) (o : Obj) (id : Nat) (p : Place) (hn : c.π id = none) : c.le (c.putAt { c.w with heap := c.w.heap.push o } id p) := by
 refine ⟨?_, fun _ h => h, ?_, ?_, rfl, rfl, rfl⟩
 ·intro x q hx
  show (if x = id then some p else c.π x) = some q
  rw [if_neg (by rintro rfl; rw [hn] at hx; cases hx)]
  exact hx
 ·intro b hb
  exact heap_push_old _ _ (h.stable b hb)
 ·show _ ≤ (c.w.heap.push o).size
  simp
theorem HeapOK.alloc {w0 : Base} {H : Heap} {c : Cx} (h : HeapOK w0 H c) (id : Nat) (o : AObj) (ob : Obj) (p : Place) (hid : H.at id = none) (hpb : p.b = c.w.heap.size)
  (hobj : ObjAt (c.putAt { c.w with heap := c.w.heap.push ob } id p) o p) : HeapOK w0 (setAt H id o) (c.putAt { c.w with heap := c.w.heap.push ob } id p) := by
 have hn := h.free id hid
 have hle := le_push h ob id p hn
 refine h.write id o p hle (fun _ h => h) (by simp [Cx.putAt]) (fun x hx => by simp [Cx.putAt, hx]) ?_ hobj ?_ ?_
 ·intro x q _ hl
  exact heap_push_old _ _ (h.out x q hl).2.1
 ·intro _
  refine ⟨by rw [hpb]; exact h.grown, ?_, ?_, ?_⟩
  ·show p.b < (c.w.heap.push ob).size
   rw [hpb]; simp
  ·intro hs
   have := h.stable _ hs
   omega
  ·intro x q _ hl
   have := (h.out x q hl).2.1
   omega
 ·intro b hb
  exact heap_push_old _ _ (Nat.lt_of_lt_of_le hb h.grown)
theorem HeapOK.same {w0 : Base} {H : Heap} {c : Cx} (h : HeapOK w0 H c) (w : World) (hw : w.heap = c.w.heap) (hrs : Rest c.w w) : HeapOK w0 H (c.with w) ∧ c.le (c.with w) := by
 have hle : c.le (c.with w) := ⟨fun _ _ h => h, fun _ h => h, fun b _ => by simp [Cx.with, hw], by simp [Cx.with, hw], hrs⟩
 refine ⟨⟨?_, ?_, ?_, h.free, ?_, ?_, ?_, h.born⟩, hle⟩
 ·intro x o ho
  obtain ⟨q, hq, hoq⟩ := h.obj x o ho
  exact ⟨q, hq, hoq.mono hle fun _ => by simp [Cx.with, hw]⟩
 ·exact fun x y q r hx hy => h.apart x y q r hx hy
 ·intro x q hx
  have := h.out x q hx
  simpa [Cx.with, hw] using this
 ·intro b hb
  have := h.stable b hb
  simpa [Cx.with, hw] using this
 ·intro b hb
  simpa [Cx.with, hw] using h.kept b hb
 ·simpa [Cx.with, hw] using h.grown
theorem HeapOK.drop {w0 : Base} {H : Heap} {c : Cx} (h : HeapOK w0 H c) (id : Nat) {o : AObj} (hid : H.at id = some o) : HeapOK w0 (setAt H id .dead) c := by
 obtain ⟨p, hp, _⟩ := h.obj id o hid
 exact h.write id .dead p (Cx.le.refl c) (fun _ h => h) hp (fun _ _ => rfl) (fun _ _ _ _ => rfl) trivial (fun hm => hm.elim) (fun _ _ => rfl)
theorem HeapOK.store {w0 : Base} {H : Heap} {c : Cx} (h : HeapOK w0 H c) (id : Nat) {o : AObj} {p : Place} (o' : AObj) (w : World) (hrs : Rest c.w w) (hid : H.at id = some o) (hp : c.π id = some p) (hm : Mem o p)
  (hsize : w.heap.size = c.w.heap.size) (hw : ∀ b, b ≠ p.b → w.heap[b]? = c.w.heap[b]?) (hobj : c.le (c.with w) → ObjAt (c.with w) o' p) : HeapOK w0 (setAt H id o') (c.with w) ∧ c.le (c.with w) := by
 have hl : Live H c id p := ⟨o, hid, hp, hm⟩
 obtain ⟨h1, h2, h3⟩ := h.out id p hl
 have hle : c.le (c.with w) := ⟨fun _ _ h => h, fun _ h => h, fun b hb => hw b fun e => h3 (e ▸ hb), Nat.le_of_eq hsize.symm, hrs⟩
 refine ⟨h.write id o' p hle (fun _ h => h) hp (fun _ _ => rfl) ?_ (hobj hle) ?_ ?_, hle⟩
 ·intro x q hx hq
  exact hw q.b (h.apart x id q p hq hl hx)
 ·intro _
  exact ⟨h1, by show p.b < w.heap.size; omega, h3, fun x q hx hq => h.apart x id q p hq hl hx⟩
 ·intro b hb
  exact hw b (by omega)
structure At (P : Program) (w0 : Base) (T : List AV) (H : Heap) (c : Cx) (tmps : Array Value) (g : Option (Nat × Bool)) : Prop where
 heap : HeapOK w0 H c
 tok : TOK c T tmps
 guard : ∀ j b, g = some (j, b) → tmps[j]? = some (.bool b)
def Goes (P : Program) (o : Oper) (a : Act) (w0 : Base) (H' : Heap) (c : Cx) (av : AV) : Prop :=
 ∃ v c', ((execOp a.eval o).run P c.w = .ok (.value v) c'.w ∨ ((execOp a.eval o).run P c.w = .ok .skip c'.w ∧ v = undef)) ∧ c.le c' ∧ HeapOK w0 H' c' ∧ Rel c' av v
section
variable {P : Program} {w0 : Base} {T : List AV} {H : Heap} {c : Cx} {a : Act} {g : Option (Nat × Bool)} {o : Oper}
theorem goes_value (h : At P w0 T H c a.tmps g) {v : Value} {av : AV} (hr : (execOp a.eval o).run P c.w = .ok (.value v) c.w) (hv : Rel c av v) : Goes P o a w0 H c av :=
 ⟨v, c, .inl hr, Cx.le.refl c, h.heap, hv⟩
theorem colsOf_len : ∀ (d : Nat) (t : TypeId), ∀ col ∈ colsOf P d t, col.len = 0
 | 0, _, _, h => by simp [colsOf] at h
 | d + 1, t, col, h => by
  simp only [colsOf] at h
  split at h
  ·simp at h; subst h; rfl
  ·simp at h; subst h; rfl
  ·obtain ⟨f, _, hf⟩ := List.mem_flatMap.1 h
   exact colsOf_len d f.type col hf
  ·split at h
   ·simp at h; subst h; rfl
   ·simp at h
  ·simp at h
theorem ofConst_rel (t : TypeId) (v : Value) : Rel c (ofConst P t v) v := by
 unfold ofConst
 split <;> try simp [Rel]
 split
 ·simp only [Rel]
  exact ⟨colsOf_len 9 _, none, rfl⟩
 ·simp [Rel]
theorem plainUnder_rel {tmps : Array Value} (hg : ∀ j b, g = some (j, b) → tmps[j]? = some (.bool b)) {x : AV} {v : Value} (h : RelT c tmps x v) : Rel c (plainUnder g x) v := by
 unfold plainUnder
 split
 ·rename_i j b y
  split
  ·rename_i j' b'
   split
   ·rename_i he
    obtain ⟨rfl, rfl⟩ := he
    exact h.1 (hg _ _ rfl)
   ·simp [Rel]
  ·simp [Rel]
 ·rename_i hx
  cases x <;> first | exact h | exact absurd rfl (hx _ _ _)
theorem TOK.get (h : TOK c T a.tmps) (i : Nat) : RelT c a.tmps (T.getD i .top) (a.tmps.getD i undef) := by
 cases hi : T[i]? with
 | none =>
  have : T.getD i .top = .top := by simp [List.getD, hi]
  rw [this]
  simp [RelT, Rel]
 | some x =>
  have h1 : T.getD i .top = x := by simp [List.getD, hi]
  obtain ⟨u, hu, hr⟩ := h.2 i x hi
  have h2 : a.tmps.getD i undef = u := by
   rw [Array.getD_eq_getD_getElem?, hu]
   rfl
  rw [h1, h2]
  exact hr
theorem opd_rel (h : At P w0 T H c a.tmps g) (t : TypeId) (x : Operand) : Rel c (opd P T g t x) (a.eval x) := by
 cases x with
 | tmp i => exact plainUnder_rel h.guard (h.tok.get i)
 | const v => exact ofConst_rel t v
 | global g => simp [opd, Rel]
 | func f => exact ⟨#[], #[], rfl, by simp [RelL], by simp [RelL]⟩
theorem rel_int {k : IntKind} {n : Int} {v : Value} (h : Rel c (.int k n) v) : v = .int k n := by simpa [Rel] using h
theorem rel_bool {b : Bool} {v : Value} (h : Rel c (.bool b) v) : v = .bool b := by simpa [Rel] using h
theorem opd_eq (h : At P w0 T H c a.tmps g) {t : TypeId} {x : Operand} {v : AV} (hx : opd P T g t x = v) : Rel c v (a.eval x) := hx ▸ opd_rel h t x
theorem leaf_one {x : AV} {v : Value} (hl : leafAV x = true) (h : Rel c x v) : v.oneCell' = true := by
 cases x <;> simp only [leafAV, Bool.false_eq_true] at hl <;> simp only [Rel] at h
 case bool => subst h; rfl
 case int => subst h; rfl
 case val => subst h; exact hl
 case sl => obtain ⟨_, _, rfl, _⟩ := h; rfl
 case it => obtain ⟨_, _, rfl⟩ := h; rfl
 case mapv => obtain ⟨_, _, _, rfl, _⟩ := h; rfl
 case emp => obtain ⟨_, _, rfl⟩ := h; rfl
 case full => obtain ⟨_, _, _, rfl, _⟩ := h; rfl
 case osl => obtain ⟨_, _, _, rfl, _⟩ := h; rfl
 case ptr => obtain ⟨_, _, rfl⟩ := h; rfl
 case ip => obtain ⟨_, _, rfl, _⟩ := h; rfl
 case mp => obtain ⟨_, _, rfl⟩ := h; rfl
 case fn => obtain ⟨_, _, rfl, _⟩ := h; rfl
 case ifc => obtain ⟨_, rfl, _⟩ := h; rfl
theorem cells_of_one {v : Value} (h : v.oneCell' = true) : v.cells = #[v] := by
 cases v <;> first | rfl | (simp [Value.oneCell'] at h)
theorem leaves_one : ∀ {cs : List AV} {vs : List Value}, cs.all leafAV = true → RelL c cs vs → ∀ v ∈ vs, v.oneCell' = true
 | [], [], _, _, v, hv => by simp at hv
 | x :: cs, u :: vs, hl, hr, v, hv => by
  simp only [List.all_cons, Bool.and_eq_true] at hl
  simp only [RelL] at hr
  rcases List.mem_cons.1 hv with rfl | hv
  ·exact leaf_one hl.1 hr.1
  ·exact leaves_one hl.2 hr.2 v hv
 | [], _ :: _, _, hr, _, _ => by simp [RelL] at hr
 | _ :: _, [], _, hr, _, _ => by simp [RelL] at hr
theorem cellsOfAV_rel {x : AV} {cs : List AV} {v : Value} (hc : cellsOfAV x = some cs) (h : Rel c x v) : RelL c cs v.cells.toList ∧ ∀ u ∈ v.cells.toList, u.oneCell' = true := by
 have one : ∀ {y : AV}, leafAV y = true → Rel c y v → RelL c [y] v.cells.toList ∧ ∀ u ∈ v.cells.toList, u.oneCell' = true := by
  intro y hl hr
  have h1 := leaf_one hl hr
  rw [cells_of_one h1]
  exact ⟨by simp [RelL, hr], by simp [h1]⟩
 cases x with
 | agg ds =>
  simp only [cellsOfAV] at hc
  split at hc
  ·rename_i hl
   cases hc
   simp only [Rel] at h
   obtain ⟨vs, rfl, hr⟩ := h
   exact ⟨hr, leaves_one hl hr⟩
  ·cases hc
 | _ =>
  simp only [cellsOfAV] at hc
  split at hc
  ·rename_i hl
   cases hc
   exact one hl h
  ·cases hc
theorem isVal_rel {x : AV} {v : Value} (h : isVal x v = true) : Rel c x v := by
 unfold isVal at h
 split at h
 ·simp at h; simp [Rel, h.1, h.2]
 ·simp at h; simp [Rel, h]
 ·simp only [Rel]; exact ⟨by simpa using h, none, rfl⟩
 ·simp [Rel]
 ·simp [Rel]
 ·simp [Rel]
 ·simp [Rel]
 ·simp at h
theorem areVals_rel : ∀ {cs : List AV} {vs : List Value}, areVals cs vs = true → RelL c cs vs
 | [], [], _ => by simp [RelL]
 | x :: cs, v :: vs, h => by
  simp only [areVals, Bool.and_eq_true] at h
  simp only [RelL]
  exact ⟨isVal_rel h.1, areVals_rel h.2⟩
 | [], _ :: _, h => by simp [areVals] at h
 | _ :: _, [], h => by simp [areVals] at h
theorem zeroCellsOf_some {t : TypeId} {cs : List AV} (h : zeroCellsOf P t = some cs) : ∃ i v, P.info? t = some i ∧ i.zero = some v ∧ areVals cs v.cells.toList = true ∧ v.cells.toList.length = i.size := by
 unfold zeroCellsOf at h
 split at h
 ·rename_i v hv
  split at h
  ·rename_i hb
   cases h
   cases hi : P.info? t with
   | none => simp [hi] at hv
   | some i =>
    simp [hi] at hv
    simp only [Bool.and_eq_true, beq_iff_eq] at hb
    exact ⟨i, v, rfl, hv, hb.1, by rw [hb.2]; simp [Program.cellsOf, hi]⟩
  ·cases h
 ·cases h
theorem run_zeroValue {t : TypeId} {i : TypeInfo} {v : Value} (hi : P.info? t = some i) (hv : i.zero = some v) (w : World) : (zeroValue t).run P w = .ok v w := by
 simp [zeroValue, typeInfo, hi, hv]
theorem run_sizeOf {t : TypeId} {i : TypeInfo} (hi : P.info? t = some i) (w : World) : (sizeOf t).run P w = .ok i.size w := by
 simp [sizeOf, typeInfo, hi]
theorem szOf_some {t : TypeId} {n : Nat} (h : szOf P t = some n) : ∃ i d, P.info? t = some i ∧ P.underlying t = some d ∧ i.size = n := by
 unfold szOf at h
 split at h
 ·rename_i i d hi hd
  cases h
  exact ⟨i, d, hi, hd, rfl⟩
 ·cases h
theorem run_isAgg {t : TypeId} {d : TypeDesc} (hd : P.underlying t = some d) (w : World) : (isAgg t).run P w = .ok (isAggT P t) w := by
 simp only [isAgg, Sem.run_bind, run_underlying hd, Result.andThen_ok, isAggT, hd]
 cases d <;> rfl
theorem move_goes (h : At P w0 T H c a.tmps g) {x : Operand} {v : AV} (ho : o.op = .move x ∨ o.op = .assign x) (hx : opd P T g o.type x = v) : Goes P o a w0 H c v := by
 refine goes_value h (v := a.eval x) ?_ (opd_eq h hx)
 rcases ho with ho | ho <;> simp [execOp, ho]
theorem box_any (h : At P w0 T H c a.tmps g) {t : TypeId} {cs : List AV} {v : Value} {fr : Nat} (hfr : H.at fr = none) (hr : (execOp a.eval o).run P c.w = .ok (.value (.pointer (some ⟨c.w.heap.size, 0, none⟩))) { c.w with heap := c.w.heap.push (.cells v.cells t (0, 0)) }) (hv : RelL c cs v.cells.toList) :
  Goes P o a w0 (writeAll H [(fr, .var cs)]) c (.ptr fr 0 0) := by
 have hn := h.heap.free fr hfr
 have hle := le_push h.heap (.cells v.cells t (0, 0)) fr ⟨c.w.heap.size, cs.length, 1, 1⟩ hn
 refine ⟨_, c.putAt { c.w with heap := c.w.heap.push (.cells v.cells t (0, 0)) } fr ⟨c.w.heap.size, cs.length, 1, 1⟩, .inl hr, hle, ?_, ?_⟩
 ·refine h.heap.alloc fr _ _ _ hfr rfl ?_
  exact ⟨v.cells, t, heap_push_new _ _, hv.mono hle⟩
 ·simp only [Rel]
  exact ⟨_, by simp [Cx.putAt]; rfl, by simp⟩
theorem run_box (t : TypeId) (v : Value) (w : World) : (Instr.box t v).run P w = .ok (.pointer (some ⟨w.heap.size, 0, none⟩)) { w with heap := w.heap.push (.cells v.cells t (0, 0)) } := by
 simp [Instr.box, newVar, newRow]
theorem box_goes (h : At P w0 T H c a.tmps g) {t : TypeId} {x : Operand} {cs : List AV} {fr : Nat} (hfr : H.at fr = none) (ho : o.op = .box t x) (hx : cellsOfAV (opd P T g t x) = some cs) :
  Goes P o a w0 (writeAll H [(fr, .var cs)]) c (.ptr fr 0 0) := by
 refine box_any h hfr (t := t) (v := a.eval x) ?_ (cellsOfAV_rel hx (opd_rel h t x)).1
 simp only [execOp, ho, Sem.run_bind, run_box, Result.andThen_ok, Sem.run_pure]
theorem alloc_goes (h : At P w0 T H c a.tmps g) {t : TypeId} {cs : List AV} {fr : Nat} (hfr : H.at fr = none) (ho : o.op = .alloc t) (hx : zeroCellsOf P t = some cs) :
  Goes P o a w0 (writeAll H [(fr, .var cs)]) c (.ptr fr 0 0) := by
 obtain ⟨i, v, hi, hv, har, _⟩ := zeroCellsOf_some hx
 refine box_any h hfr (t := t) (v := v) ?_ (areVals_rel har)
 simp [execOp, ho, Instr.alloc, run_zeroValue hi hv, newVar, newRow]
theorem asrt_iff {b : Bool} {X : Prop} : asrt b X ↔ b = true ∧ X := by
 cases b <;> simp [asrt]
theorem arith_run {op : BinOp} {k : IntKind} {x y : Int} {b : Option Bool} {v : AV} (h : arith op k x y = some (b, v)) (hb : b ≠ some false) (t : TypeId) (w : World) :
  ∃ u, (binOp op t (.int k x) (.int k y)).run P w = .ok u w ∧ Rel c v u := by
 cases op <;> simp only [arith, Option.some.injEq, Prod.mk.injEq, reduceCtorEq] at h <;> obtain ⟨rfl, rfl⟩ := h
 case add => exact ⟨_, by simp [binOp, Op.intArith]; rfl, by simp [Rel, iadd]⟩
 case sub => exact ⟨_, by simp [binOp, Op.intArith]; rfl, by simp [Rel, isub]⟩
 case mul => exact ⟨_, by simp [binOp, Op.intArith]; rfl, by simp [Rel, imul]⟩
 case quo =>
  have hy : y ≠ 0 := by rintro rfl; simp [ine] at hb
  exact ⟨_, by simp [binOp, Op.intDiv, hy]; rfl, by simp [Rel, iquo]⟩
 case rem =>
  have hy : y ≠ 0 := by rintro rfl; simp [ine] at hb
  exact ⟨_, by simp [binOp, Op.intDiv, hy]; rfl, by simp [Rel, irem]⟩
 all_goals exact ⟨_, by simp [binOp, Op.intCmp]; rfl, by simp [Rel, ieq, ine, ilt, ile, igt, ige]⟩
theorem eqGuard_plain (op : BinOp) (t : TypeId) (x y : Operand) {u v : Value} (hu : u.oneCell' = true) (hn : u ≠ .nilIface) (w : World) : (eqGuard op t x y u v).run P w = .ok () w := by
 cases op <;> cases u <;> first | (simp [Value.oneCell'] at hu; done) | (exact absurd rfl hn) | (cases v <;> simp [eqGuard])
end
end Go.Own
end
section
namespace Go.Own
open Go
section
variable {P : Program} {w0 : Base} {T : List AV} {H : Heap} {c : Cx} {a : Act} {g : Option (Nat × Bool)} {o : Oper}
theorem same_true {ks : List Bool} {as bs : List AV} {r : Bool} (h : sameCells (true :: ks) as bs = some r) : ∃ k x y as' bs' r', as = .int k x :: as' ∧ bs = .int k y :: bs' ∧ sameCells ks as' bs' = some r' ∧ r = band (ieq x y) r' := by
 rcases as with _ | ⟨a, as⟩
 ·simp [sameCells] at h
 ·rcases bs with _ | ⟨b, bs⟩
  ·cases a <;> simp [sameCells] at h
  ·cases a <;> try (simp [sameCells] at h; done)
   cases b <;> try (simp [sameCells] at h; done)
   rename_i k x k' y
   simp only [sameCells] at h
   split at h
   ·rename_i hk
    subst hk
    split at h
    ·rename_i r' hr
     exact ⟨k, x, y, as, bs, r', rfl, rfl, hr, (Option.some.inj h).symm⟩
    ·cases h
   ·cases h
theorem same_false {ks : List Bool} {as bs : List AV} {r : Bool} (h : sameCells (false :: ks) as bs = some r) : ∃ x y as' bs' r', as = .bool x :: as' ∧ bs = .bool y :: bs' ∧ sameCells ks as' bs' = some r' ∧ r = band (beq2 x y) r' := by
 rcases as with _ | ⟨a, as⟩
 ·simp [sameCells] at h
 ·rcases bs with _ | ⟨b, bs⟩
  ·cases a <;> simp [sameCells] at h
  ·cases a <;> try (simp [sameCells] at h; done)
   cases b <;> try (simp [sameCells] at h; done)
   rename_i x y
   simp only [sameCells] at h
   split at h
   ·rename_i r' hr
    exact ⟨x, y, as, bs, r', rfl, rfl, hr, (Option.some.inj h).symm⟩
   ·cases h
theorem same_nil {as bs : List AV} {r : Bool} (h : sameCells [] as bs = some r) : as = [] ∧ bs = [] ∧ r = true := by
 rcases as with _ | ⟨a, as⟩ <;> rcases bs with _ | ⟨b, bs⟩ <;> simp_all [sameCells]
theorem same_split : ∀ (ks ls : List Bool) (as bs : List AV) (r : Bool), sameCells (ks ++ ls) as bs = some r → ∃ r1 r2, sameCells ks (as.take ks.length) (bs.take ks.length) = some r1 ∧ sameCells ls (as.drop ks.length) (bs.drop ks.length) = some r2 ∧ r = (r1 && r2)
 | [], ls, as, bs, r, h => ⟨true, r, by simp [sameCells], by simpa using h, by simp⟩
 | true :: ks, ls, as, bs, r, h => by
  obtain ⟨k, x, y, as', bs', r', rfl, rfl, hr, rfl⟩ := same_true (by simpa using h)
  obtain ⟨r1, r2, h1, h2, rfl⟩ := same_split ks ls _ _ _ hr
  exact ⟨band (ieq x y) r1, r2, by simp [sameCells, h1], by simpa using h2, by simp [band, Bool.and_assoc]⟩
 | false :: ks, ls, as, bs, r, h => by
  obtain ⟨x, y, as', bs', r', rfl, rfl, hr, rfl⟩ := same_false (by simpa using h)
  obtain ⟨r1, r2, h1, h2, rfl⟩ := same_split ks ls _ _ _ hr
  exact ⟨band (beq2 x y) r1, r2, by simp [sameCells, h1], by simpa using h2, by simp [band, Bool.and_assoc]⟩
theorem same_len : ∀ {ks : List Bool} {as bs : List AV} {r : Bool}, sameCells ks as bs = some r → as.length = ks.length ∧ bs.length = ks.length
 | [], as, bs, r, h => by
  obtain ⟨rfl, rfl, _⟩ := same_nil h
  simp
 | true :: ks, as, bs, r, h => by
  obtain ⟨k, x, y, as', bs', r', rfl, rfl, hr, rfl⟩ := same_true h
  have := same_len hr
  simp [this.1, this.2]
 | false :: ks, as, bs, r, h => by
  obtain ⟨x, y, as', bs', r', rfl, rfl, hr, rfl⟩ := same_false h
  have := same_len hr
  simp [this.1, this.2]
def valOf (P : Program) (t : TypeId) (vs : List Value) : Value := if isAggT P t then .agg vs.toArray else vs.headD undef
theorem run_part {t : TypeId} {n : Nat} (hs : szOf P t = some n) (xs : Array Value) (off : Nat) (h : off + n ≤ xs.size) (h1 : isAggT P t = false → n = 1) (w : World) : (part t xs off).run P w = .ok (valOf P t ((xs.toList.drop off).take n)) w := by
 obtain ⟨i, d, hi, hd, rfl⟩ := szOf_some hs
 simp only [part, Sem.run_bind, run_isAgg hd, Result.andThen_ok]
 cases hA : isAggT P t with
 | true =>
  simp only [if_true, Sem.run_bind, run_sizeOf hi, Result.andThen_ok, Sem.run_pure, valOf, hA]
  congr 2
  apply Array.ext'
  simp [Array.toList_extract, List.extract_eq_take_drop]
 | false =>
  have hn := h1 hA
  have hlt : off < xs.size := by omega
  simp only [Bool.false_eq_true, if_false, valOf, hA, hn]
  have e : xs[off]? = some xs[off] := Array.getElem?_eq_getElem hlt
  rw [e]
  simp only [Sem.run_pure]
  congr 1
  have : (xs.toList.drop off).take 1 = [xs[off]] := by
   rw [List.drop_eq_getElem_cons (by simpa using hlt)]
   simp
  rw [this]
  rfl
theorem flat_one {d : Nat} {t : TypeId} {ks : List Bool} (h : flatT P d t = some ks) (hA : isAggT P t = false) : ks.length = 1 := by
 cases d with
 | zero => simp [flatT] at h
 | succ d =>
  simp only [flatT] at h
  split at h <;> first | (cases h; rfl) | skip
  ·rename_i fs hu
   simp [isAggT, hu] at hA
  ·cases h
theorem eq_fields (ft : TypeId → Option (List Bool)) (D : Nat) (w : World)
  (one : ∀ t ks, ft t = some ks → ∀ (as bs : List AV) (xs ys : List Value) (r : Bool), RelL c as xs → RelL c bs ys → sameCells ks as bs = some r → (Op.equalIn D t (valOf P t xs) (valOf P t ys)).run P w = .ok r w)
  (len : ∀ t ks, ft t = some ks → isAggT P t = false → ks.length = 1) :
  ∀ (fs : List Field) (off : Nat) (ks : List Bool), flatT.flatFs ft P fs off = some ks → ∀ (as bs : List AV) (xs ys : Array Value) (r : Bool), RelL c as xs.toList → RelL c bs ys.toList → sameCells ks (as.drop off) (bs.drop off) = some r → off ≤ as.length → off ≤ bs.length →
   (Op.eqFields D xs ys fs).run P w = .ok r w
 | [], off, ks, hf, as, bs, xs, ys, r, _, _, hs, _, _ => by
  simp only [flatT.flatFs, Option.some.injEq] at hf
  subst hf
  obtain ⟨_, _, rfl⟩ := same_nil hs
  simp [Op.eqFields]
 | f :: fs, off, ks, hf, as, bs, xs, ys, r, ha, hb, hs, hoa, hob => by
  simp only [flatT.flatFs] at hf
  split at hf
  ·rename_i k1 h1
   split at hf
   ·rename_i hc
    obtain ⟨hoff, hname, hsz⟩ := hc
    split at hf
    ·rename_i k2 h2
     cases hf
     obtain ⟨r1, r2, e1, e2, rfl⟩ := same_split k1 k2 _ _ _ hs
     have l1 := same_len hs
     simp only [List.length_drop, List.length_append] at l1
     have la := ha.length
     have lb := hb.length
     simp only [Array.length_toList] at la lb
     have pa := run_part (P := P) hsz xs off (by omega) (fun hA => len _ _ h1 hA) w
     have pb := run_part (P := P) hsz ys off (by omega) (fun hA => len _ _ h1 hA) w
     have hq := one _ _ h1 _ _ _ _ _ ((ha.drop off).take k1.length) ((hb.drop off).take k1.length) e1
     have ih := eq_fields ft D w one len fs (off + k1.length) k2 h2 as bs xs ys r2 ha hb (by simpa [List.drop_drop, Nat.add_comm] using e2) (by omega) (by omega)
     have hn : f.name ≠ "_" := by simpa using hname
     rw [Op.eqFields]
     simp only [if_pos hn, hoff, Sem.run_bind, pa, pb, hq, Result.andThen_ok]
     cases r1
     ·simp
     ·simpa using ih
    ·cases hf
   ·cases hf
  ·cases hf
theorem eq_flat (w : World) : ∀ (d : Nat) (D : Nat), d ≤ D → ∀ (t : TypeId) (ks : List Bool), flatT P d t = some ks → ∀ (as bs : List AV) (xs ys : List Value) (r : Bool), RelL c as xs → RelL c bs ys → sameCells ks as bs = some r →
  (Op.equalIn D t (valOf P t xs) (valOf P t ys)).run P w = .ok r w
 | 0, _, _, t, ks, h, _, _, _, _, _, _, _, _ => by simp [flatT] at h
 | d + 1, 0, hD, _, _, _, _, _, _, _, _, _, _, _ => by omega
 | d + 1, D + 1, hD, t, ks, h, as, bs, xs, ys, r, ha, hb, hs => by
  simp only [flatT] at h
  split at h
  ·rename_i k hu
   cases h
   have hA : isAggT P t = false := by simp [isAggT, hu]
   obtain ⟨k', x, y, as', bs', r', rfl, rfl, hr, rfl⟩ := same_true hs
   obtain ⟨rfl, rfl, rfl⟩ := same_nil hr
   cases xs with
   | nil => simp [RelL] at ha
   | cons u us => cases ys with
    | nil => simp [RelL] at hb
    | cons v vs =>
     simp only [RelL, Rel] at ha hb
     obtain ⟨rfl, _⟩ := ha
     obtain ⟨rfl, _⟩ := hb
     simp only [valOf, hA, Bool.false_eq_true, if_false, List.headD_cons]
     rw [run_equalIn_int w D t k' k _ _ hu]
     simp [band, ieq]
  ·rename_i hu
   cases h
   have hA : isAggT P t = false := by simp [isAggT, hu]
   obtain ⟨x, y, as', bs', r', rfl, rfl, hr, rfl⟩ := same_false hs
   obtain ⟨rfl, rfl, rfl⟩ := same_nil hr
   cases xs with
   | nil => simp [RelL] at ha
   | cons u us => cases ys with
    | nil => simp [RelL] at hb
    | cons v vs =>
     simp only [RelL, Rel] at ha hb
     obtain ⟨rfl, _⟩ := ha
     obtain ⟨rfl, _⟩ := hb
     simp only [valOf, hA, Bool.false_eq_true, if_false, List.headD_cons]
     rw [run_equalIn_bool' w D t _ _ hu]
     simp [band, beq2]
  ·rename_i fs hu
   split at h
   ·cases h
   ·rename_i hp
    have hA : isAggT P t = true := by simp [isAggT, hu]
    have hfo : P.fieldsOf t = fs := by simp [Program.fieldsOf, hu]
    simp only [valOf, hA, if_true]
    rw [run_equalIn_struct (P := P) w D t _ _ (by rw [hfo]; exact hu) (by simpa using hp), hfo]
    exact eq_fields (fun t => flatT P d t) D w (fun t ks h1 as bs xs ys r h2 h3 h4 => eq_flat w d D (by omega) t ks h1 as bs xs ys r h2 h3 h4) (fun t ks h1 hA => flat_one h1 hA) fs.toList 0 ks h as bs xs.toArray ys.toArray r (by simpa using ha) (by simpa using hb) (by simpa using hs) (by omega) (by omega)
  ·cases h
theorem guard_fs (ft : TypeId → Option (List Bool)) (D : Nat) (one : ∀ t ks, ft t = some ks → P.eqGuardType D t = false) :
  ∀ (fs : List Field) (off : Nat) (ks : List Bool), flatT.flatFs ft P fs off = some ks → (fs.any fun f => f.name != "_" && P.eqGuardType D f.type) = false
 | [], _, _, _ => rfl
 | f :: fs, off, ks, h => by
  simp only [flatT.flatFs] at h
  split at h
  ·rename_i k1 h1
   split at h
   ·split at h
    ·rename_i k2 h2
     simp [one _ _ h1, guard_fs ft D one fs _ _ h2]
    ·cases h
   ·cases h
  ·cases h
theorem guard_flat : ∀ (d D : Nat), d ≤ D → ∀ (t : TypeId) (ks : List Bool), flatT P d t = some ks → P.eqGuardType D t = false
 | 0, _, _, t, ks, h => by simp [flatT] at h
 | d + 1, 0, hD, _, _, _ => by omega
 | d + 1, D + 1, hD, t, ks, h => by
  simp only [flatT] at h
  split at h
  ·rename_i hu; simp [Program.eqGuardType, hu]
  ·rename_i hu; simp [Program.eqGuardType, hu]
  ·rename_i fs hu
   split at h
   ·cases h
   ·simp only [Program.eqGuardType, hu]
    rw [← Array.any_toList]
    exact guard_fs _ D (fun t ks h1 => guard_flat d D (by omega) t ks h1) fs.toList 0 ks h
  ·cases h
theorem agg_eq {t : TypeId} {ks : List Bool} {as bs : List AV} {xs ys : Array Value} {r : Bool} (hf : flatOk P t = some ks) (ha : RelL c as xs.toList) (hb : RelL c bs ys.toList) (hs : sameCells ks as bs = some r) (w : World) :
  (Op.equalIn 10000 t (.agg xs) (.agg ys)).run P w = .ok r w ∧ P.eqGuardType P.depth t = false := by
 unfold flatOk at hf
 split at hf
 ·rename_i hc
  have h1 := eq_flat (P := P) w 9 10000 (by omega) t ks hf as bs xs.toList ys.toList r ha hb hs
  have h2 := guard_flat (P := P) 9 P.depth hc.1 t ks hf
  simp only [valOf, hc.2, if_true] at h1
  exact ⟨h1, h2⟩
 ·cases hf
theorem binop_goes (h : At P w0 T H c a.tmps g) {op : BinOp} {t yt : TypeId} {x y : Operand} {b : Option Bool} {v : AV} (ho : o.op = .binOp op t x y yt) (hb : b ≠ some false)
  (hx : binop P op t (opd P T g t x) (opd P T g yt y) = some (b, v)) : Goes P o a w0 H c v := by
 have rx := opd_rel h t x
 have ry := opd_rel h yt y
 have fin : ∀ u, (eqGuard op t x y (a.eval x) (a.eval y)).run P c.w = .ok () c.w → (binOp op t (a.eval x) (a.eval y)).run P c.w = .ok u c.w → Rel c v u → Goes P o a w0 H c v := by
  intro u h1 h2 h3
  refine goes_value h (v := u) ?_ h3
  simp only [execOp, ho, Sem.run_bind, h1, h2, Result.andThen_ok, Sem.run_pure]
 unfold binop at hx
 split at hx
 ·rename_i k m k' n e1 e2
  rw [e1] at rx; rw [e2] at ry
  have q1 := rel_int rx
  have q2 := rel_int ry
  simp only [Option.some.injEq, Prod.mk.injEq] at hx
  obtain ⟨rfl, rfl⟩ := hx
  have hn : ¬ n < 0 := by
   intro hn
   exact hb (by simp [ile]; omega)
  refine fin (.int k (ishl k m n)) (by rw [q1]; exact eqGuard_plain _ _ _ _ rfl (by simp) _) ?_ (by simp [Rel])
  rw [q1, q2]
  simp [binOp, Op.shift, hn, ishl]
 ·rename_i k m k' n e1 e2
  rw [e1] at rx; rw [e2] at ry
  have q1 := rel_int rx
  have q2 := rel_int ry
  simp only [Option.some.injEq, Prod.mk.injEq] at hx
  obtain ⟨rfl, rfl⟩ := hx
  have hn : ¬ n < 0 := by
   intro hn
   exact hb (by simp [ile]; omega)
  refine fin (.int k (ishr k m n)) (by rw [q1]; exact eqGuard_plain _ _ _ _ rfl (by simp) _) ?_ (by simp [Rel])
  rw [q1, q2]
  simp [binOp, Op.shift, hn, ishr]
 ·rename_i k m k' n hne1 hne2 e1 e2
  rw [e1] at rx; rw [e2] at ry
  have q1 := rel_int rx
  have q2 := rel_int ry
  split at hx
  ·rename_i hk
   subst hk
   obtain ⟨u, h1, h2⟩ := arith_run (P := P) (c := c) hx hb t c.w
   exact fin u (by rw [q1]; exact eqGuard_plain _ _ _ _ rfl (by simp) _) (by rw [q1, q2]; exact h1) h2
  ·cases hx
 ·rename_i m n e1 e2
  rw [e1] at rx; rw [e2] at ry
  have q1 := rel_bool rx
  have q2 := rel_bool ry
  split at hx
  ·rename_i hu
   have hu' : P.underlying t = some .bool := by
    revert hu
    cases P.underlying t with
    | none => simp
    | some d => cases d <;> simp
   cases hx
   refine fin (.bool (beq2 m n)) (by rw [q1]; exact eqGuard_plain _ _ _ _ rfl (by simp) _) ?_ (by simp [Rel])
   rw [q1, q2]
   simp [binOp, Op.equal, Op.maxDepth, run_equalIn_bool' c.w 9999 t m n hu', beq2]
  ·cases hx
 ·rename_i m n e1 e2
  rw [e1] at rx; rw [e2] at ry
  have q1 := rel_bool rx
  have q2 := rel_bool ry
  split at hx
  ·rename_i hu
   have hu' : P.underlying t = some .bool := by
    revert hu
    cases P.underlying t with
    | none => simp
    | some d => cases d <;> simp
   cases hx
   refine fin (.bool (bnot (beq2 m n))) (by rw [q1]; exact eqGuard_plain _ _ _ _ rfl (by simp) _) ?_ (by simp [Rel])
   rw [q1, q2]
   simp [binOp, Op.equal, Op.maxDepth, run_equalIn_bool' c.w 9999 t m n hu', beq2, bnot]
  ·cases hx
 ·rename_i as bs e1 e2
  rw [e1] at rx; rw [e2] at ry
  simp only [Rel] at rx ry
  obtain ⟨xs, q1, r1⟩ := rx
  obtain ⟨ys, q2, r2⟩ := ry
  split at hx
  ·rename_i ks hk
   split at hx
   ·rename_i r hr
    cases hx
    obtain ⟨h1, h2⟩ := agg_eq hk r1 r2 hr c.w
    refine fin (.bool r) (by rw [q1, q2]; exact run_eqGuard_agg (P := P) c.w _ t x y xs ys h2) ?_ (by simp [Rel])
    rw [q1, q2, run_eql_struct (P := P) c.w t xs ys, h1]
    rfl
   ·cases hx
  ·cases hx
 ·rename_i as bs e1 e2
  rw [e1] at rx; rw [e2] at ry
  simp only [Rel] at rx ry
  obtain ⟨xs, q1, r1⟩ := rx
  obtain ⟨ys, q2, r2⟩ := ry
  split at hx
  ·rename_i ks hk
   split at hx
   ·rename_i r hr
    cases hx
    obtain ⟨h1, h2⟩ := agg_eq hk r1 r2 hr c.w
    refine fin (.bool (bnot r)) (by rw [q1, q2]; exact run_eqGuard_agg (P := P) c.w _ t x y xs ys h2) ?_ (by simp [Rel])
    rw [q1, q2, run_neq_struct (P := P) c.w t xs ys, h1]
    rfl
   ·cases hx
  ·cases hx
 ·cases hx
end
end Go.Own
end
