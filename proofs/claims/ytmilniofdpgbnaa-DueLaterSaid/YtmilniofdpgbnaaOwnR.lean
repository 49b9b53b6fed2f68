/- What an abstract value says of a value in a world, and an abstract heap of memory; and that this stays. -/
import Derived.Test.YtmilniofdpgbnaaOwnA
set_option linter.unusedVariables false
set_option linter.unusedSimpArgs false
namespace Go.Own
open Go

/-- Where an object of the call's own lies: its block, an element's cells, how many elements, and how many the memory holds. -/
structure Place where
  b : Nat
  sz : Nat
  n : Nat
  cap : Nat

/-- A world; where the objects lie; which blocks stay as they are. -/
structure Cx where
  w : World
  π : Nat → Option Place
  S : Nat → Prop

def cellIs (w : World) (b o : Nat) (u : Value) : Prop := w.cell? ⟨b, o, none⟩ = some u

/-- A slice of ints that stays. -/
def IntsAt (c : Cx) (k : IntKind) (xs : List Int) (u : Value) : Prop :=
  ∃ base cap, u = .slice base xs.length cap ∧ xs.length ≤ cap ∧ (xs.length = 0 ∨ ∃ a : Addr, base = some a ∧ a.spot = none ∧ c.S a.block ∧ ∀ i, i < xs.length → cellIs c.w a.block (a.off + i) (.int k (gI xs i)))

def ColIs (c : Cx) : Col → Nat → Value → Prop
  | .int k l, i, u => u = .int k (gI l i)
  | .bool l, i, u => u = .bool (gB l i)
  | .ints k l, i, u => IntsAt c k (gL l i) u

/-- The cells of n elements from an address on are what the columns say; they stay. -/
def ColsAt (c : Cx) (cols : List Col) (n : Nat) (base : Option Addr) : Prop :=
  (∀ col ∈ cols, col.len = n) ∧ (n = 0 ∨ ∃ a : Addr, base = some a ∧ a.spot = none ∧ c.S a.block ∧ ∀ i, i < n → ∀ j col, cols[j]? = some col → ∃ u, cellIs c.w a.block (a.off + (i * cols.length + j)) u ∧ ColIs c col i u)

/-- One cell of a map's element: ints and bools alone. -/
def ColV : Col → Nat → Value → Prop
  | .int k l, i, u => u = .int k (gI l i)
  | .bool l, i, u => u = .bool (gB l i)
  | .ints _ _, _, _ => False

def ElemV (cols : List Col) (one : Bool) (i : Nat) (v : Value) : Prop := match one with
  | false => ∃ vs : Array Value, v = .agg vs ∧ vs.size = cols.length ∧ ∀ (j : Nat) (col : Col), cols[j]? = some col → ∃ u, vs[j]? = some u ∧ ColV col i u
  | true => ∃ col, cols = [col] ∧ ColV col i v

/-- What a map in a block is: its entries, in their order, by key and columns. -/
structure MapOf (w : World) (b : Nat) (ks : List Int) (cols : List Col) (one : Bool) (es : Array MapEntry) (clk : Nat) : Prop where
  here : w.heap[b]? = some (.map es clk)
  len : es.size = ks.length
  col : ∀ col ∈ cols, col.len = ks.length
  key : ∀ (i : Nat) (e : MapEntry), es[i]? = some e → e.key = .int .i64 (gI ks i)
  val : ∀ (i : Nat) (e : MapEntry), es[i]? = some e → ElemV cols one i e.val
  nodup : ks.Nodup
  born : (es.toList.map (·.born)).Nodup
  old : ∀ e ∈ es.toList, e.born < clk

theorem MapOf.mono {w w' : World} {b : Nat} {ks : List Int} {cols : List Col} {one : Bool} {es : Array MapEntry} {clk : Nat} (h : MapOf w b ks cols one es clk) (hb : w'.heap[b]? = w.heap[b]?) : MapOf w' b ks cols one es clk :=
  ⟨by rw [hb, h.here], h.len, h.col, h.key, h.val, h.nodup, h.born, h.old⟩

/-- An iterator over a map that stays: the entries that are left, by their places; the one that came last. -/
def IterAt (w : World) (S : Nat → Prop) (b : Nat) (ks : List Int) (cols : List Col) (one : Bool) (left : List Nat) (cur : Option Nat) : Prop :=
  ∃ (bm clk : Nat) (seen : Array Nat) (es : Array MapEntry), w.heap[b]? = some (.mapIter (some bm) clk seen clk) ∧ S bm ∧ MapOf w bm ks cols one es clk ∧ left.Nodup ∧ (∀ i : Nat, i ∈ left ↔ ∃ e : MapEntry, es[i]? = some e ∧ seen.contains e.born = false) ∧
    (∀ i : Nat, cur = some i → ∃ e : MapEntry, es[i]? = some e ∧ seen.back? = some e.born)

mutual
def Rel (c : Cx) : AV → Value → Prop
  | .top, _ => True
  | .bool b, v => v = .bool b
  | .int k n, v => v = .int k n
  | .val u, v => v = u
  | .agg cs, v => ∃ vs : Array Value, v = .agg vs ∧ RelL c cs vs.toList
  | .tup cs, v => ∃ vs : Array Value, v = .tuple vs ∧ RelL c cs vs.toList
  | .sl n cols, v => ∃ base cap, v = .slice base n cap ∧ n ≤ cap ∧ ColsAt c cols n base
  | .emp _ cols, v => (∀ col ∈ cols, col.len = 0) ∧ ∃ a, v = .slice a 0 0
  | .own _ _ _, _ => False
  | .full id, v => ∃ p a, c.π id = some p ∧ v = .slice a p.n p.cap ∧ (p.cap ≠ 0 → a = some ⟨p.b, 0, none⟩)
  | .osl id off n, v => ∃ p a, c.π id = some p ∧ v = .slice a n (p.cap - off) ∧ off + n ≤ p.n ∧ p.n ≤ p.cap ∧ (off < p.cap → a = some ⟨p.b, off * p.sz, none⟩)
  | .ptr id idx off, v => ∃ p, c.π id = some p ∧ v = .pointer (some ⟨p.b, idx * p.sz + off, none⟩)
  | .ip cs, v => ∃ a us, v = .pointer (some a) ∧ a.spot = none ∧ c.S a.block ∧ RelL c cs us ∧ ∀ j u, us[j]? = some u → cellIs c.w a.block (a.off + j) u
  | .mp id, v => ∃ p, c.π id = some p ∧ v = .map (some p.b)
  | .it id, v => ∃ p, c.π id = some p ∧ v = .pointer (some ⟨p.b, 0, none⟩)
  | .mapv ks cols one, v => ∃ b es clk, v = .map (some b) ∧ c.S b ∧ MapOf c.w b ks cols one es clk
  | .omap _ _ _, _ => False
  | .fn f xs ys, v => ∃ as bs : Array Value, v = .func f as bs ∧ RelL c xs as.toList ∧ RelL c ys bs.toList
  | .ifc t x, v => ∃ u, v = .iface t u ∧ Rel c x u
  | .cond _ _ _, _ => False
def RelL (c : Cx) : List AV → List Value → Prop
  | [], [] => True
  | a :: as, v :: vs => Rel c a v ∧ RelL c as vs
  | _, _ => False
end

/-- A temporary's value: what is told under a condition holds if that temporary says so. -/
def RelT (c : Cx) (tmps : Array Value) : AV → Value → Prop
  | .cond j b x, v => (tmps[j]? = some (.bool b) → Rel c x v) ∧ (tmps[j]? ≠ some (.bool b) → v = undef)
  | a, v => Rel c a v

def TOK (c : Cx) (T : List AV) (tmps : Array Value) : Prop :=
  T.length = tmps.size ∧ ∀ (i : Nat) (a : AV), T[i]? = some a → ∃ u, tmps[i]? = some u ∧ RelT c tmps a u

/-- What an object is in memory. -/
def MapIs (c : Cx) : List (Int × AV) → List MapEntry → Prop
  | [], [] => True
  | (k, a) :: es, m :: ms => m.key = .int .i64 k ∧ Rel c a m.val ∧ MapIs c es ms
  | _, _ => False

def ObjAt (c : Cx) : AObj → Place → Prop
  | .dead, _ => True
  | .row _ n cols, p => p.n = n ∧ p.sz = cols.length ∧ n ≤ p.cap ∧ 0 < cols.length ∧ (∀ col ∈ cols, col.len = n) ∧
      (p.cap ≠ 0 → ∃ arr t, c.w.heap[p.b]? = some (.cells arr t (0, 0)) ∧ arr.size = p.cap * p.sz ∧ ∀ i, i < n → ∀ j col, cols[j]? = some col → ∃ u, arr[i * p.sz + j]? = some u ∧ ColIs c col i u)
  | .var cells, p => ∃ arr t, c.w.heap[p.b]? = some (.cells arr t (0, 0)) ∧ RelL c cells arr.toList
  | .map es, p => ∃ arr clk, c.w.heap[p.b]? = some (.map arr clk) ∧ MapIs c es arr.toList
  | .tmap ks cols one, p => p.cap ≠ 0 ∧ ∃ es clk, MapOf c.w p.b ks cols one es clk
  | .iter ks cols one left cur, p => IterAt c.w c.S p.b ks cols one left cur

/-- Whether it holds memory. -/
def Mem : AObj → Place → Prop
  | .dead, _ => False
  | .row _ _ _, p => p.cap ≠ 0
  | _, _ => True

def Live (H : Heap) (c : Cx) (id : Nat) (p : Place) : Prop := ∃ o, H.at id = some o ∧ c.π id = some p ∧ Mem o p

/-- The memory that was there at first, and what of it stays. -/
structure Base where
  heap : Array Obj
  S : Nat → Prop

structure HeapOK (w0 : Base) (H : Heap) (c : Cx) : Prop where
  obj : ∀ id o, H.at id = some o → ∃ p, c.π id = some p ∧ ObjAt c o p
  apart : ∀ id id' p p', Live H c id p → Live H c id' p' → id ≠ id' → p.b ≠ p'.b
  out : ∀ id p, Live H c id p → w0.heap.size ≤ p.b ∧ p.b < c.w.heap.size ∧ ¬ c.S p.b
  free : ∀ id, H.at id = none → c.π id = none
  stable : ∀ b, c.S b → b < c.w.heap.size
  kept : ∀ b, b < w0.heap.size → c.w.heap[b]? = w0.heap[b]?
  grown : w0.heap.size ≤ c.w.heap.size
  born : ∀ b, c.S b → w0.S b ∨ w0.heap.size ≤ b

/-- All but the memory is as it was. -/
def Rest (w w' : World) : Prop := w'.os = w.os ∧ w'.tape = w.tape ∧ w'.output = w.output

structure Cx.le (c c' : Cx) : Prop where
  π : ∀ id p, c.π id = some p → c'.π id = some p
  S : ∀ b, c.S b → c'.S b
  w : ∀ b, c.S b → c'.w.heap[b]? = c.w.heap[b]?
  size : c.w.heap.size ≤ c'.w.heap.size
  rest : Rest c.w c'.w

theorem Cx.le.refl (c : Cx) : c.le c := ⟨fun _ _ h => h, fun _ h => h, fun _ _ => rfl, Nat.le_refl _, rfl, rfl, rfl⟩

theorem Cx.le.trans {a b c : Cx} (h : a.le b) (h' : b.le c) : a.le c :=
  ⟨fun id p x => h'.π id p (h.π id p x), fun b x => h'.S b (h.S b x), fun b x => (h'.w b (h.S b x)).trans (h.w b x), Nat.le_trans h.size h'.size, h'.rest.1.trans h.rest.1, h'.rest.2.1.trans h.rest.2.1, h'.rest.2.2.trans h.rest.2.2⟩

theorem cell_of_heap {w w' : World} {b : Nat} (h : w'.heap[b]? = w.heap[b]?) (o : Nat) : w'.cell? ⟨b, o, none⟩ = w.cell? ⟨b, o, none⟩ := by
  simp only [World.cell?, h]

theorem cellIs.mono {c c' : Cx} (h : c.le c') {b o : Nat} {u : Value} (hb : c.S b) (hc : cellIs c.w b o u) : cellIs c'.w b o u := by
  unfold cellIs at *
  rw [cell_of_heap (h.w b hb), hc]

theorem IntsAt.mono {c c' : Cx} (h : c.le c') {k : IntKind} {xs : List Int} {u : Value} (hi : IntsAt c k xs u) : IntsAt c' k xs u := by
  obtain ⟨base, cap, rfl, hc, hr⟩ := hi
  refine ⟨base, cap, rfl, hc, hr.imp id ?_⟩
  rintro ⟨a, rfl, hs, hS, hx⟩
  exact ⟨a, rfl, hs, h.S _ hS, fun i hi => (hx i hi).mono h hS⟩

theorem ColIs.mono {c c' : Cx} (h : c.le c') {col : Col} {i : Nat} {u : Value} (hc : ColIs c col i u) : ColIs c' col i u := by
  cases col with
  | int k l => exact hc
  | bool l => exact hc
  | ints k l => exact IntsAt.mono h hc

theorem ColsAt.mono {c c' : Cx} (h : c.le c') {cols : List Col} {n : Nat} {base : Option Addr} (hc : ColsAt c cols n base) : ColsAt c' cols n base := by
  refine ⟨hc.1, hc.2.imp id ?_⟩
  rintro ⟨a, rfl, hs, hS, hx⟩
  exact ⟨a, rfl, hs, h.S _ hS, fun i hi j col hj => let ⟨u, h1, h2⟩ := hx i hi j col hj; ⟨u, h1.mono h hS, h2.mono h⟩⟩

mutual
theorem Rel.mono {c c' : Cx} (h : c.le c') : ∀ {a : AV} {v : Value}, Rel c a v → Rel c' a v
  | .top, _, _ => by simp [Rel]
  | .bool _, _, r => by simpa [Rel] using r
  | .int _ _, _, r => by simpa [Rel] using r
  | .val _, _, r => by simpa [Rel] using r
  | .agg cs, _, r => by
    simp only [Rel] at *
    obtain ⟨vs, rfl, hr⟩ := r
    exact ⟨vs, rfl, RelL.mono h hr⟩
  | .tup cs, _, r => by
    simp only [Rel] at *
    obtain ⟨vs, rfl, hr⟩ := r
    exact ⟨vs, rfl, RelL.mono h hr⟩
  | .sl n cols, _, r => by
    simp only [Rel] at *
    obtain ⟨base, cap, rfl, hn, hr⟩ := r
    exact ⟨base, cap, rfl, hn, hr.mono h⟩
  | .emp _ _, _, r => by simpa [Rel] using r
  | .own _ _ _, _, r => by simp [Rel] at r
  | .full id, _, r => by
    simp only [Rel] at *
    obtain ⟨p, a, hp, hv, ha⟩ := r
    exact ⟨p, a, h.π _ _ hp, hv, ha⟩
  | .osl id off n, _, r => by
    simp only [Rel] at *
    obtain ⟨p, a, hp, hv, ha⟩ := r
    exact ⟨p, a, h.π _ _ hp, hv, ha⟩
  | .ptr id idx off, _, r => by
    simp only [Rel] at *
    obtain ⟨p, hp, hv⟩ := r
    exact ⟨p, h.π _ _ hp, hv⟩
  | .ip cs, _, r => by
    simp only [Rel] at *
    obtain ⟨a, us, rfl, hs, hS, hr, hc⟩ := r
    exact ⟨a, us, rfl, hs, h.S _ hS, RelL.mono h hr, fun j u hj => (hc j u hj).mono h hS⟩
  | .mp id, _, r => by
    simp only [Rel] at *
    obtain ⟨p, hp, hv⟩ := r
    exact ⟨p, h.π _ _ hp, hv⟩
  | .it id, _, r => by
    simp only [Rel] at *
    obtain ⟨p, hp, hv⟩ := r
    exact ⟨p, h.π _ _ hp, hv⟩
  | .mapv _ _ _, _, r => by
    simp only [Rel] at *
    obtain ⟨b, es, clk, hv, hS, hm⟩ := r
    exact ⟨b, es, clk, hv, h.S _ hS, hm.mono (h.w _ hS)⟩
  | .omap _ _ _, _, r => by simp [Rel] at r
  | .fn f xs ys, _, r => by
    simp only [Rel] at *
    obtain ⟨as, bs, rfl, h1, h2⟩ := r
    exact ⟨as, bs, rfl, RelL.mono h h1, RelL.mono h h2⟩
  | .ifc t x, _, r => by
    simp only [Rel] at *
    obtain ⟨u, rfl, hu⟩ := r
    exact ⟨u, rfl, Rel.mono h hu⟩
  | .cond _ _ _, _, r => by simp [Rel] at r
theorem RelL.mono {c c' : Cx} (h : c.le c') : ∀ {as : List AV} {vs : List Value}, RelL c as vs → RelL c' as vs
  | [], [], _ => by simp [RelL]
  | a :: as, v :: vs, r => by
    simp only [RelL] at *
    exact ⟨Rel.mono h r.1, RelL.mono h r.2⟩
  | [], _ :: _, r => by simp [RelL] at r
  | _ :: _, [], r => by simp [RelL] at r
end

theorem RelT.mono {c c' : Cx} (h : c.le c') {tmps : Array Value} {a : AV} {v : Value} (r : RelT c tmps a v) : RelT c' tmps a v := by
  cases a <;> first | exact Rel.mono h r | exact ⟨fun hj => Rel.mono h (r.1 hj), r.2⟩

theorem TOK.mono {c c' : Cx} (h : c.le c') {T : List AV} {tmps : Array Value} (t : TOK c T tmps) : TOK c' T tmps :=
  ⟨t.1, fun i a hi => let ⟨u, h1, h2⟩ := t.2 i a hi; ⟨u, h1, h2.mono h⟩⟩

theorem MapIs.mono {c c' : Cx} (h : c.le c') : ∀ {es : List (Int × AV)} {ms : List MapEntry}, MapIs c es ms → MapIs c' es ms
  | [], [], _ => trivial
  | (_, _) :: _, _ :: _, r => ⟨r.1, r.2.1.mono h, MapIs.mono h r.2.2⟩
  | [], _ :: _, r => r.elim
  | _ :: _, [], r => r.elim

/-- Of an object whose block is as it was. -/
theorem ObjAt.mono {c c' : Cx} (h : c.le c') {o : AObj} {p : Place} (hb : Mem o p → c'.w.heap[p.b]? = c.w.heap[p.b]?) (r : ObjAt c o p) : ObjAt c' o p := by
  cases o with
  | dead => trivial
  | row e n cols =>
    obtain ⟨h1, h2, h3, h4, h5, h6⟩ := r
    refine ⟨h1, h2, h3, h4, h5, fun hc => ?_⟩
    obtain ⟨arr, t, ha, hs, hx⟩ := h6 hc
    exact ⟨arr, t, by rw [hb hc, ha], hs, fun i hi j col hj => let ⟨u, h1, h2⟩ := hx i hi j col hj; ⟨u, h1, h2.mono h⟩⟩
  | var cells =>
    obtain ⟨arr, t, ha, hr⟩ := r
    exact ⟨arr, t, by rw [hb trivial, ha], hr.mono h⟩
  | map es =>
    obtain ⟨arr, t, ha, hr⟩ := r
    exact ⟨arr, t, by rw [hb trivial, ha], hr.mono h⟩
  | tmap ks cols one =>
    obtain ⟨hc, es, clk, hm⟩ := r
    exact ⟨hc, es, clk, hm.mono (hb trivial)⟩
  | iter ks cols one left cur =>
    obtain ⟨bm, clk, seen, es, h1, h2, h3, h4⟩ := r
    exact ⟨bm, clk, seen, es, by rw [hb trivial, h1], h.S _ h2, h3.mono (h.w _ h2), h4⟩

theorem RelL.length {c : Cx} : ∀ {as : List AV} {vs : List Value}, RelL c as vs → as.length = vs.length
  | [], [], _ => rfl
  | a :: as, v :: vs, r => by
    simp only [RelL] at r
    simp [RelL.length r.2]
  | [], _ :: _, r => by simp [RelL] at r
  | _ :: _, [], r => by simp [RelL] at r

theorem RelL.get {c : Cx} : ∀ {as : List AV} {vs : List Value}, RelL c as vs → ∀ {i : Nat} {a : AV}, as[i]? = some a → ∃ v, vs[i]? = some v ∧ Rel c a v
  | [], [], _, i, a, h => by simp at h
  | a :: as, v :: vs, r, 0, x, h => by
    simp only [RelL] at r
    simp at h
    subst h
    exact ⟨v, rfl, r.1⟩
  | a :: as, v :: vs, r, i + 1, x, h => by
    simp only [RelL] at r
    simp only [List.getElem?_cons_succ] at h ⊢
    exact RelL.get r.2 h
  | [], _ :: _, r, _, _, _ => by simp [RelL] at r
  | _ :: _, [], r, _, _, _ => by simp [RelL] at r

theorem RelL.append {c : Cx} : ∀ {as : List AV} {vs : List Value} {bs : List AV} {us : List Value}, RelL c as vs → RelL c bs us → RelL c (as ++ bs) (vs ++ us)
  | [], [], _, _, _, h => by simpa using h
  | a :: as, v :: vs, bs, us, r, h => by
    simp only [RelL, List.cons_append] at *
    exact ⟨r.1, RelL.append r.2 h⟩
  | [], _ :: _, _, _, r, _ => by simp [RelL] at r
  | _ :: _, [], _, _, r, _ => by simp [RelL] at r

theorem RelL.drop {c : Cx} : ∀ (n : Nat) {as : List AV} {vs : List Value}, RelL c as vs → RelL c (as.drop n) (vs.drop n)
  | 0, _, _, r => by simpa using r
  | n + 1, [], [], _ => by simp [RelL]
  | n + 1, a :: as, v :: vs, r => by
    simp only [RelL] at r
    simpa using RelL.drop n r.2
  | _ + 1, [], _ :: _, r => by simp [RelL] at r
  | _ + 1, _ :: _, [], r => by simp [RelL] at r

theorem RelL.take {c : Cx} : ∀ (n : Nat) {as : List AV} {vs : List Value}, RelL c as vs → RelL c (as.take n) (vs.take n)
  | 0, _, _, _ => by simp [RelL]
  | n + 1, [], [], _ => by simp [RelL]
  | n + 1, a :: as, v :: vs, r => by
    simp only [RelL, List.take_succ_cons] at *
    exact ⟨r.1, RelL.take n r.2⟩
  | _ + 1, [], _ :: _, r => by simp [RelL] at r
  | _ + 1, _ :: _, [], r => by simp [RelL] at r

theorem RelL.overL {c : Cx} {as bs : List AV} {vs us : List Value} (n : Nat) (h : RelL c as vs) (h' : RelL c bs us) : RelL c (overL as n bs) (overL vs n us) := by
  unfold Own.overL
  rw [h'.length]
  exact ((h.take n).append h').append (h.drop _)

theorem RelL.of_get {c : Cx} : ∀ {as : List AV} {vs : List Value}, as.length = vs.length → (∀ (i : Nat) (a : AV), as[i]? = some a → ∃ v, vs[i]? = some v ∧ Rel c a v) → RelL c as vs
  | [], [], _, _ => by simp [RelL]
  | a :: as, v :: vs, hl, h => by
    simp only [RelL]
    refine ⟨?_, RelL.of_get (by simpa using hl) fun i x hx => ?_⟩
    · obtain ⟨u, hu, hr⟩ := h 0 a rfl
      simp at hu
      exact hu ▸ hr
    · exact h (i + 1) x (by simpa using hx)
  | [], _ :: _, hl, _ => by simp at hl
  | _ :: _, [], hl, _ => by simp at hl

end Go.Own
