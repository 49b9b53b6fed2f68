/- What a pure function is given, and what it gives. -/
import Derived.Test.YtmilniofdpgbnaaOwnQ2
set_option linter.unusedVariables false
set_option linter.unusedSimpArgs false
namespace Go.Own
open Go

theorem Col.part_all {x : Col} {n : Nat} (h : x.len = n) : x.part 0 n = x := by
  cases x <;> simp only [Col.len] at h <;> subst h <;> simp [Col.part, pt]

theorem parts_all {cols : List Col} {n : Nat} (h : ∀ col ∈ cols, col.len = n) : cols.map (·.part 0 n) = cols := by
  induction cols with
  | nil => rfl
  | cons x xs ih => simp [Col.part_all (h x (by simp)), ih fun c hc => h c (by simp [hc])]

section
variable {w0 : Base} {H : Heap} {c : Cx}

theorem ColIs.grow {col : Col} {i : Nat} {u : Value} {π1 : Nat → Option Place} {S1 : Nat → Prop} (hS : ∀ b, c.S b → S1 b) (h : ColIs c col i u) : ColIs ⟨c.w, π1, S1⟩ col i u := by
  cases col with
  | int k l => exact h
  | bool l => exact h
  | ints k l =>
    obtain ⟨base, cap, h1, h2, h3⟩ := h
    refine ⟨base, cap, h1, h2, h3.imp id ?_⟩
    rintro ⟨ad, e1, e2, e3, e4⟩
    exact ⟨ad, e1, e2, hS _ e3, e4⟩

theorem ColIs.flat {col : Col} {i : Nat} {u : Value} {c' : Cx} (hf : col.flat = true) (h : ColIs c col i u) : ColIs c' col i u := by
  cases col with
  | int k l => exact h
  | bool l => exact h
  | ints k l => simp [Col.flat] at hf

theorem ColsAt.grow {cols : List Col} {n : Nat} {base : Option Addr} {π1 : Nat → Option Place} {S1 : Nat → Prop} (hS : ∀ b, c.S b → S1 b) (h : ColsAt c cols n base) : ColsAt ⟨c.w, π1, S1⟩ cols n base := by
  refine ⟨h.1, h.2.imp id ?_⟩
  rintro ⟨ad, e1, e2, e3, e4⟩
  exact ⟨ad, e1, e2, hS _ e3, fun i hi j col hj => let ⟨u, h1, h2⟩ := e4 i hi j col hj; ⟨u, h1, h2.grow hS⟩⟩

theorem freeze_part (hh : HeapOK w0 H c) {id : Nat} {e : TypeId} {n : Nat} {cols : List Col} (hid : H.at id = some (.row e n cols)) {p : Place} (hp : c.π id = some p) {off m : Nat} {ad : Option Addr} (hoff : off + m ≤ p.n) (had : off < p.cap → ad = some ⟨p.b, off * p.sz, none⟩)
    {π1 : Nat → Option Place} {S1 : Nat → Prop} (hS : ∀ b, c.S b → S1 b) (hb : ∀ q, Live H c id q → S1 q.b) : ColsAt ⟨c.w, π1, S1⟩ (cols.map (·.part off m)) m ad := by
  obtain ⟨p', hp', hob⟩ := hh.obj id _ hid
  rw [hp] at hp'
  cases hp'
  obtain ⟨q1, q2, q3, q4, q5, q6⟩ := hob
  subst q1
  have r3 : ∀ col ∈ cols.map (·.part off m), col.len = m := by
    intro col hcol
    obtain ⟨col0, h2, rfl⟩ := List.mem_map.1 hcol
    exact (Col.part_spec (c := c) (by rw [q5 col0 h2]; exact hoff)).1
  refine ⟨r3, ?_⟩
  by_cases h0 : m = 0
  · exact .inl h0
  · obtain ⟨arr, t, ha, hs, hx⟩ := q6 (by omega)
    refine .inr ⟨_, had (by omega), rfl, hb p ⟨_, hid, hp, show p.cap ≠ 0 by omega⟩, fun i hi j col hj => ?_⟩
    rw [List.getElem?_map] at hj
    cases hc : cols[j]? with
    | none => simp [hc] at hj
    | some col0 =>
      simp [hc] at hj
      subst hj
      obtain ⟨u, h2, h3⟩ := hx (off + i) (by omega) j col0 hc
      refine ⟨u, ?_, ((Col.part_spec (by rw [q5 col0 (List.mem_of_getElem? hc)]; exact hoff)).2 i u hi h3).grow hS⟩
      show c.w.cell? ⟨p.b, off * p.sz + (i * (cols.map _).length + j), none⟩ = some u
      rw [cell_of_arr ha, List.length_map, ← q2]
      rw [Nat.add_mul, Nat.add_assoc] at h2
      simpa using h2

/-- A slice of the call's own, as one that stays. -/
theorem freeze_rel (hh : HeapOK w0 H c) {x : AV} {m : Nat} {ys : List Col} {rd : List Nat} {v : Value} (hx : sliceOf H x = some (m, ys, rd)) (hr : Rel c x v)
    {π1 : Nat → Option Place} {S1 : Nat → Prop} (hS : ∀ b, c.S b → S1 b) (hb : ∀ id ∈ rd, ∀ q, Live H c id q → S1 q.b) : Rel ⟨c.w, π1, S1⟩ (.sl m ys) v := by
  unfold sliceOf at hx
  split at hx
  · cases hx
    simp only [Rel] at hr ⊢
    obtain ⟨base, cap, h1, h2, h3⟩ := hr
    exact ⟨base, cap, h1, h2, h3.grow hS⟩
  · cases hx
    simp only [Rel] at hr ⊢
    obtain ⟨hlen, b, h1⟩ := hr
    exact ⟨b, 0, h1, Nat.le_refl _, hlen, .inl rfl⟩
  · rename_i id
    split at hx
    · rename_i e n cols hid
      cases hx
      simp only [Rel] at hr ⊢
      obtain ⟨p, ad, hp, h1, had⟩ := hr
      obtain ⟨p', hp', hob⟩ := hh.obj id _ hid
      rw [hp] at hp'
      cases hp'
      have := freeze_part (π1 := π1) hh hid hp (off := 0) (m := p.n) (ad := ad) (by omega) (fun h => by rw [had (by omega)]; simp) hS (hb _ (by simp))
      rw [hob.1] at this h1
      rw [parts_all hob.2.2.2.2.1] at this
      exact ⟨ad, p.cap, h1, hob.2.2.1, this⟩
    · cases hx
  · rename_i id off n
    split at hx
    · rename_i e k cols hid
      cases hx
      simp only [Rel] at hr ⊢
      obtain ⟨p, ad, hp, h1, hoff, hcap, had⟩ := hr
      exact ⟨ad, _, h1, by omega, freeze_part hh hid hp hoff had hS (hb _ (by simp))⟩
    · cases hx
  · cases hx

theorem pureLeaf0_rel (hh : HeapOK w0 H c) {x y : AV} {rd : List Nat} {v : Value} (hx : pureLeaf0 H x = some (y, rd)) (hr : Rel c x v)
    {π1 : Nat → Option Place} {S1 : Nat → Prop} (hS : ∀ b, c.S b → S1 b) (hb : ∀ id ∈ rd, ∀ q, Live H c id q → S1 q.b) : Rel ⟨c.w, π1, S1⟩ y v := by
  cases x <;> simp only [pureLeaf0, reduceCtorEq] at hx
  case bool b => cases hx; exact hr
  case int k n => cases hx; exact hr
  case sl n cols => cases hx; exact freeze_rel hh (x := .sl n cols) rfl hr hS (by simp)
  case emp e cols => cases hx; exact freeze_rel hh (x := .emp e cols) rfl hr hS (by simp)
  case full id =>
    split at hx
    · rename_i e n cols hid
      cases hx
      exact freeze_rel hh (x := .full id) (by simp [sliceOf, hid]) hr hS hb
    · cases hx
  case osl id off n =>
    split at hx
    · rename_i e k cols hid
      cases hx
      exact freeze_rel hh (x := .osl id off n) (by simp [sliceOf, hid]) hr hS hb
    · cases hx
  case mapv ks cols one =>
    cases hx
    simp only [Rel] at hr ⊢
    obtain ⟨b, es, clk, h1, h2, h3⟩ := hr
    exact ⟨b, es, clk, h1, hS _ h2, h3⟩
  case mp id =>
    split at hx
    · rename_i ks cols one hid
      cases hx
      simp only [Rel] at hr ⊢
      obtain ⟨p, hp, hv⟩ := hr
      obtain ⟨p', hp', hob⟩ := hh.obj id _ hid
      rw [hp] at hp'
      cases hp'
      obtain ⟨hc, es, clk, hm⟩ := hob
      exact ⟨p.b, es, clk, hv, hb id (by simp) p ⟨_, hid, hp, trivial⟩, hm⟩
    · cases hx

theorem mapIds_rel {f : AV → Option (AV × List Nat)} {c1 : Cx} {R : List Nat → Prop} (hR : ∀ a b, R (a ++ b) → R a ∧ R b) (hf : ∀ x y ids v, f x = some (y, ids) → Rel c x v → R ids → Rel c1 y v) : ∀ {xs ys : List AV} {ids : List Nat} {vs : List Value}, mapIds f xs = some (ys, ids) → RelL c xs vs → R ids → RelL c1 ys vs
  | [], ys, ids, vs, h, hr, _ => by
    simp only [mapIds, Option.some.injEq, Prod.mk.injEq] at h
    obtain ⟨rfl, rfl⟩ := h
    cases vs with
    | nil => trivial
    | cons v vs => exact hr.elim
  | x :: xs, ys, ids, [], h, hr, _ => hr.elim
  | x :: xs, ys, ids, v :: vs, h, hr, hi => by
    simp only [mapIds] at h
    split at h
    · rename_i y i1 ys' i2 h1 h2
      cases h
      obtain ⟨g1, g2⟩ := hR _ _ hi
      exact ⟨hf _ _ _ _ h1 hr.1 g1, mapIds_rel hR hf h2 hr.2 g2⟩
    · cases h

theorem pureLeaf_rel (hh : HeapOK w0 H c) {x y : AV} {rd : List Nat} {v : Value} (hx : pureLeaf H x = some (y, rd)) (hr : Rel c x v)
    {π1 : Nat → Option Place} {S1 : Nat → Prop} (hS : ∀ b, c.S b → S1 b) (hb : ∀ id ∈ rd, ∀ q, Live H c id q → S1 q.b) : Rel ⟨c.w, π1, S1⟩ y v := by
  have hR : ∀ a b : List Nat, (∀ id ∈ a ++ b, ∀ q, Live H c id q → S1 q.b) → (∀ id ∈ a, ∀ q, Live H c id q → S1 q.b) ∧ (∀ id ∈ b, ∀ q, Live H c id q → S1 q.b) :=
    fun a b h => ⟨fun id hi => h id (by simp [hi]), fun id hi => h id (by simp [hi])⟩
  unfold pureLeaf at hx
  split at hx
  · cases hx
    exact hr
  · rename_i cells
    split at hx
    · rename_i cs ids hm
      cases hx
      simp only [Rel] at hr ⊢
      obtain ⟨ad, us, h1, h2, h3, h4, h5⟩ := hr
      exact ⟨ad, us, h1, h2, hS _ h3, mapIds_rel (R := fun ids => ∀ id ∈ ids, ∀ q, Live H c id q → S1 q.b) hR (fun x y ids v g1 g2 g3 => pureLeaf0_rel hh g1 g2 hS g3) hm h4 hb, h5⟩
    · cases hx
  · rename_i id
    split at hx
    · rename_i cells hid
      split at hx
      · rename_i cs ids hm
        cases hx
        simp only [Rel] at hr ⊢
        obtain ⟨p, hp, hv⟩ := hr
        obtain ⟨p', hp', hob⟩ := hh.obj id _ hid
        rw [hp] at hp'
        cases hp'
        obtain ⟨arr, t, ha, hrl⟩ := hob
        refine ⟨_, arr.toList, hv, rfl, hb id (by simp) p ⟨_, hid, hp, trivial⟩, mapIds_rel (R := fun ids => ∀ id ∈ ids, ∀ q, Live H c id q → S1 q.b) hR (fun x y ids v g1 g2 g3 => pureLeaf0_rel hh g1 g2 hS g3) hm hrl (fun i hi => hb i (by simp [hi])), fun j u hj => ?_⟩
        show c.w.cell? ⟨p.b, 0 * p.sz + 0 + j, none⟩ = some u
        rw [cell_of_arr ha]
        simpa using hj
      · cases hx
    · cases hx
  · exact pureLeaf0_rel hh hx hr hS hb

theorem pureArg_rel (hh : HeapOK w0 H c) {x y : AV} {rd : List Nat} {v : Value} (hx : pureArg H x = some (y, rd)) (hr : Rel c x v)
    {π1 : Nat → Option Place} {S1 : Nat → Prop} (hS : ∀ b, c.S b → S1 b) (hb : ∀ id ∈ rd, ∀ q, Live H c id q → S1 q.b) : Rel ⟨c.w, π1, S1⟩ y v := by
  have hR : ∀ a b : List Nat, (∀ id ∈ a ++ b, ∀ q, Live H c id q → S1 q.b) → (∀ id ∈ a, ∀ q, Live H c id q → S1 q.b) ∧ (∀ id ∈ b, ∀ q, Live H c id q → S1 q.b) :=
    fun a b h => ⟨fun id hi => h id (by simp [hi]), fun id hi => h id (by simp [hi])⟩
  unfold pureArg at hx
  split at hx
  · rename_i cs
    split at hx
    · rename_i r ids hm
      cases hx
      simp only [Rel] at hr ⊢
      obtain ⟨vs, hv, h1⟩ := hr
      exact ⟨vs, hv, mapIds_rel (R := fun ids => ∀ id ∈ ids, ∀ q, Live H c id q → S1 q.b) hR (fun x y ids v g1 g2 g3 => pureLeaf0_rel hh g1 g2 hS g3) hm h1 hb⟩
    · cases hx
  · rename_i f a b
    split at hx
    · rename_i x' i1 y' i2 h1 h2
      cases hx
      simp only [Rel] at hr ⊢
      obtain ⟨as, bs, hv, g1, g2⟩ := hr
      obtain ⟨k1, k2⟩ := hR _ _ hb
      exact ⟨as, bs, hv, mapIds_rel (R := fun ids => ∀ id ∈ ids, ∀ q, Live H c id q → S1 q.b) hR (fun x y ids v g1 g2 g3 => pureLeaf_rel hh g1 g2 hS g3) h1 g1 k1,
        mapIds_rel (R := fun ids => ∀ id ∈ ids, ∀ q, Live H c id q → S1 q.b) hR (fun x y ids v g1 g2 g3 => pureLeaf_rel hh g1 g2 hS g3) h2 g2 k2⟩
    · cases hx
  · exact pureLeaf_rel hh hx hr hS hb

theorem pureArgs_rel (hh : HeapOK w0 H c) {xs ys : List AV} {rd : List Nat} {vs : List Value} (hx : pureArgs H xs = some (ys, rd)) (hr : RelL c xs vs)
    {π1 : Nat → Option Place} {S1 : Nat → Prop} (hS : ∀ b, c.S b → S1 b) (hb : ∀ id ∈ rd, ∀ q, Live H c id q → S1 q.b) : RelL ⟨c.w, π1, S1⟩ ys vs := by
  have hR : ∀ a b : List Nat, (∀ id ∈ a ++ b, ∀ q, Live H c id q → S1 q.b) → (∀ id ∈ a, ∀ q, Live H c id q → S1 q.b) ∧ (∀ id ∈ b, ∀ q, Live H c id q → S1 q.b) :=
    fun a b h => ⟨fun id hi => h id (by simp [hi]), fun id hi => h id (by simp [hi])⟩
  exact mapIds_rel (R := fun ids => ∀ id ∈ ids, ∀ q, Live H c id q → S1 q.b) hR (fun x y ids v g1 g2 g3 => pureArg_rel hh g1 g2 hS g3) hx hr hb

/-- What a leaf of a result is: a row that is new, at a place, or a value that stays. -/
def GiveLeaf (c : Cx) : AV → Value → List Place → Prop
  | .own e n cols, v, ps => ∃ p a, ps = [p] ∧ v = .slice a p.n p.cap ∧ (p.cap ≠ 0 → a = some ⟨p.b, 0, none⟩) ∧ ObjAt c (.row e n cols) p
  | .omap ks cols one, v, ps => ∃ p, ps = [p] ∧ v = .map (some p.b) ∧ ObjAt c (.tmap ks cols one) p
  | .int k n, v, ps => ps = [] ∧ v = .int k n
  | .bool b, v, ps => ps = [] ∧ v = .bool b
  | .val u, v, ps => ps = [] ∧ v = u
  | .sl n cols, v, ps => ps = [] ∧ Rel c (.sl n cols) v
  | _, _, _ => False

def GiveList (c : Cx) : List AV → List Value → List Place → Prop
  | [], [], ps => ps = []
  | x :: xs, v :: vs, ps => ∃ p1 p2, ps = p1 ++ p2 ∧ GiveLeaf c x v p1 ∧ GiveList c xs vs p2
  | _, _, _ => False

def GiveCells (c : Cx) : AV → Value → List Place → Prop
  | .agg cs, v, ps => ∃ vs : Array Value, v = .agg vs ∧ GiveList c cs vs.toList ps
  | x, v, ps => GiveLeaf c x v ps

def GiveTup (c : Cx) : List AV → List Value → List Place → Prop
  | [], [], ps => ps = []
  | x :: xs, v :: vs, ps => ∃ p1 p2, ps = p1 ++ p2 ∧ GiveCells c x v p1 ∧ GiveTup c xs vs p2
  | _, _, _ => False

def Gives (c : Cx) : AV → Value → List Place → Prop
  | .tup xs, v, ps => ∃ vs : Array Value, v = .tuple vs ∧ GiveTup c xs vs.toList ps
  | x, v, ps => GiveCells c x v ps

/-- The places lie apart, in memory that is new. -/
def Apart (ps : List Place) : Prop := ps.Pairwise fun p q => p.cap ≠ 0 → q.cap ≠ 0 → p.b ≠ q.b
def NewAt (lo : Nat) (c : Cx) (ps : List Place) : Prop := ∀ p ∈ ps, p.cap ≠ 0 → lo ≤ p.b ∧ p.b < c.w.heap.size ∧ ¬ c.S p.b

/-- The objects that a result brings, each at its place. -/
def Placed (c : Cx) : List (Nat × AObj) → List Place → Prop
  | [], [] => True
  | w :: ws, p :: ps => (((∃ e n cols, w.2 = .row e n cols) ∨ ∃ ks cols one, w.2 = .tmap ks cols one) ∧ ObjAt c w.2 p) ∧ Placed c ws ps
  | _, _ => False

def Puts (π : Nat → Option Place) : List (Nat × AObj) → List Place → Prop
  | [], [] => True
  | w :: ws, p :: ps => π w.1 = some p ∧ Puts π ws ps
  | _, _ => False

theorem Placed.append {ws vs : List (Nat × AObj)} : ∀ {ps : List Place} {qs : List Place}, Placed c ws ps → Placed c vs qs → Placed c (ws ++ vs) (ps ++ qs) := by
  induction ws with
  | nil =>
    intro ps qs h h'
    cases ps with
    | nil => exact h'
    | cons p ps => exact h.elim
  | cons w ws ih =>
    intro ps qs h h'
    cases ps with
    | nil => exact h.elim
    | cons p ps => exact ⟨h.1, ih h.2 h'⟩

theorem Puts.append {π : Nat → Option Place} {ws vs : List (Nat × AObj)} : ∀ {ps qs : List Place}, ws.length = ps.length → Puts π (ws ++ vs) (ps ++ qs) → Puts π ws ps ∧ Puts π vs qs := by
  induction ws with
  | nil =>
    intro ps qs hl h
    cases ps with
    | nil => exact ⟨trivial, h⟩
    | cons p ps => simp at hl
  | cons w ws ih =>
    intro ps qs hl h
    cases ps with
    | nil => simp at hl
    | cons p ps =>
      obtain ⟨h1, h2⟩ := h
      obtain ⟨h3, h4⟩ := ih (by simpa using hl) h2
      exact ⟨⟨h1, h3⟩, h4⟩

theorem Placed.length {ws : List (Nat × AObj)} : ∀ {ps : List Place}, Placed c ws ps → ws.length = ps.length := by
  induction ws with
  | nil =>
    intro ps h
    cases ps with
    | nil => rfl
    | cons p ps => exact h.elim
  | cons w ws ih =>
    intro ps h
    cases ps with
    | nil => exact h.elim
    | cons p ps => simp [ih h.2]

/-- What is adopted from an id on. -/
def Takes (c : Cx) (r : AV × List (Nat × AObj)) (v : Value) (ps : List Place) : Prop :=
  Placed c r.2 ps ∧ ∀ π, Puts π r.2 ps → Rel ⟨c.w, π, c.S⟩ r.1 v

theorem takes_leaf {fr : Nat} {x : AV} {v : Value} {ps : List Place} (h : GiveLeaf c x v ps) : Takes c (adoptLeaf fr x) v ps := by
  cases x <;> simp only [GiveLeaf] at h
  case own e n cols =>
    obtain ⟨p, a, rfl, h1, h2, h3⟩ := h
    refine ⟨⟨⟨.inl ⟨e, n, cols, rfl⟩, h3⟩, trivial⟩, fun π hp => ?_⟩
    simp only [adoptLeaf, Rel]
    exact ⟨p, a, hp.1, h1, h2⟩
  case omap ks cols one =>
    obtain ⟨p, rfl, h1, h2⟩ := h
    refine ⟨⟨⟨.inr ⟨ks, cols, one, rfl⟩, h2⟩, trivial⟩, fun π hp => ?_⟩
    simp only [adoptLeaf, Rel]
    exact ⟨p, hp.1, h1⟩
  case int k n => obtain ⟨rfl, h⟩ := h; exact ⟨trivial, fun π _ => by simpa [adoptLeaf, Rel] using h⟩
  case bool b => obtain ⟨rfl, h⟩ := h; exact ⟨trivial, fun π _ => by simpa [adoptLeaf, Rel] using h⟩
  case val u => obtain ⟨rfl, h⟩ := h; exact ⟨trivial, fun π _ => by simpa [adoptLeaf, Rel] using h⟩
  case sl n cols => obtain ⟨rfl, h⟩ := h; exact ⟨trivial, fun π _ => h⟩

theorem takes_list : ∀ {fr : Nat} {xs : List AV} {vs : List Value} {ps : List Place}, GiveList c xs vs ps → Placed c (adoptList fr xs).2 ps ∧ ∀ π, Puts π (adoptList fr xs).2 ps → RelL ⟨c.w, π, c.S⟩ (adoptList fr xs).1 vs
  | _, [], [], ps, h => by
    simp only [GiveList] at h
    subst h
    exact ⟨trivial, fun _ _ => trivial⟩
  | fr, x :: xs, v :: vs, ps, h => by
    obtain ⟨p1, p2, rfl, h1, h2⟩ := h
    obtain ⟨g1, g2⟩ := takes_leaf (fr := fr) h1
    obtain ⟨g3, g4⟩ := takes_list (fr := fr + 1) h2
    refine ⟨g1.append g3, fun π hp => ?_⟩
    obtain ⟨k1, k2⟩ := hp.append g1.length
    exact ⟨g2 π k1, g4 π k2⟩
  | _, [], _ :: _, _, h => h.elim
  | _, _ :: _, [], _, h => h.elim

theorem takes_cells {fr : Nat} {x : AV} {v : Value} {ps : List Place} (h : GiveCells c x v ps) : Takes c (adoptCells fr x) v ps := by
  cases x
  case agg cs =>
    obtain ⟨vs, rfl, h⟩ := h
    obtain ⟨g1, g2⟩ := takes_list (fr := fr) h
    exact ⟨g1, fun π hp => ⟨vs, rfl, g2 π hp⟩⟩
  all_goals exact takes_leaf (fr := fr) h

theorem takes_tup : ∀ {fr : Nat} {xs : List AV} {vs : List Value} {ps : List Place}, GiveTup c xs vs ps → Placed c (adoptTup fr xs).2 ps ∧ ∀ π, Puts π (adoptTup fr xs).2 ps → RelL ⟨c.w, π, c.S⟩ (adoptTup fr xs).1 vs
  | _, [], [], ps, h => by
    simp only [GiveTup] at h
    subst h
    exact ⟨trivial, fun _ _ => trivial⟩
  | fr, x :: xs, v :: vs, ps, h => by
    obtain ⟨p1, p2, rfl, h1, h2⟩ := h
    obtain ⟨g1, g2⟩ := takes_cells (fr := fr) h1
    obtain ⟨g3, g4⟩ := takes_tup (fr := fr + 32) h2
    refine ⟨g1.append g3, fun π hp => ?_⟩
    obtain ⟨k1, k2⟩ := hp.append g1.length
    exact ⟨g2 π k1, g4 π k2⟩
  | _, [], _ :: _, _, h => h.elim
  | _, _ :: _, [], _, h => h.elim

theorem takes {fr : Nat} {x : AV} {v : Value} {ps : List Place} (h : Gives c x v ps) : Takes c (adopt fr x) v ps := by
  cases x
  case tup xs =>
    obtain ⟨vs, rfl, h⟩ := h
    obtain ⟨g1, g2⟩ := takes_tup (fr := fr) h
    exact ⟨g1, fun π hp => ⟨vs, rfl, g2 π hp⟩⟩
  all_goals exact takes_cells (fr := fr) h

end
end Go.Own
