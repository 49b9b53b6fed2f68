/- Loops: what is kept from round to round. -/
import Derived.Test.YtmilniofdpgbnaaOwnQ5
set_option linter.unusedVariables false
set_option linter.unusedSimpArgs false
namespace Go.Own
open Go

section
variable {P : Program} {w0 : Base} {H : Heap} {c : Cx} {gots : List Got}

def piOf (c : Cx) (gots : List Got) (k : Nat) : Option Place := match gots[k]? with
  | some (.old id) => c.π id
  | some (.new _ cols) => some ⟨0, cols.length, 0, 0⟩
  | none => none

def stOf (w0 : Base) (H : Heap) (c : Cx) (gots : List Got) (b : Nat) : Prop :=
  c.S b ∨ (w0.heap.size ≤ b ∧ b < c.w.heap.size ∧ ∀ id ∈ oldIds gots, ∀ p, Live H c id p → p.b ≠ b)

def cxOf (w0 : Base) (H : Heap) (c : Cx) (gots : List Got) : Cx := ⟨c.w, piOf c gots, stOf w0 H c gots⟩

theorem posOf_spec {id : Nat} : ∀ {gots : List Got} {k j : Nat}, posOf id gots k = some j → k ≤ j ∧ gots[j - k]? = some (.old id)
  | [], _, _, h => by simp [posOf] at h
  | .old i :: gs, k, j, h => by
    simp only [posOf] at h
    split at h
    · rename_i e
      cases h
      exact ⟨Nat.le_refl _, by simp [e]⟩
    · obtain ⟨h1, h2⟩ := posOf_spec h
      refine ⟨by omega, ?_⟩
      rw [show j - k = (j - (k + 1)) + 1 by omega]
      simpa using h2
  | .new e cols :: gs, k, j, h => by
    simp only [posOf] at h
    obtain ⟨h1, h2⟩ := posOf_spec h
    refine ⟨by omega, ?_⟩
    rw [show j - k = (j - (k + 1)) + 1 by omega]
    simpa using h2

theorem posOf_none {id : Nat} : ∀ {gots : List Got} {k : Nat}, posOf id gots k = none → id ∉ oldIds gots
  | [], _, _ => by simp [oldIds]
  | .old i :: gs, k, h => by
    simp only [posOf] at h
    split at h
    · cases h
    · rename_i e
      simp only [oldIds, List.mem_cons, not_or]
      exact ⟨fun e' => e e'.symm, posOf_none h⟩
  | .new e cols :: gs, k, h => by
    simp only [posOf] at h
    simp only [oldIds]
    exact posOf_none h

theorem mem_oldIds {id : Nat} : ∀ {gots : List Got} {k : Nat}, gots[k]? = some (.old id) → id ∈ oldIds gots
  | [], _, h => by simp at h
  | .old i :: gs, 0, h => by
    simp at h
    simp [oldIds, h]
  | .new _ _ :: gs, 0, h => by simp at h
  | .old i :: gs, k + 1, h => by
    simp only [oldIds, List.mem_cons]
    exact .inr (mem_oldIds (k := k) (by simpa using h))
  | .new _ _ :: gs, k + 1, h => by
    simp only [oldIds]
    exact mem_oldIds (k := k) (by simpa using h)

theorem oldIds_inj {id : Nat} : ∀ {gots : List Got} {j k : Nat}, nodupB (oldIds gots) = true → gots[j]? = some (.old id) → gots[k]? = some (.old id) → j = k
  | [], _, _, _, h, _ => by simp at h
  | g :: gs, 0, 0, _, _, _ => rfl
  | g :: gs, 0, k + 1, hn, h1, h2 => by
    simp at h1
    subst h1
    simp only [oldIds, nodupB, Bool.and_eq_true, Bool.not_eq_true', List.contains_eq_mem, decide_eq_false_iff_not] at hn
    exact absurd (mem_oldIds (k := k) (by simpa using h2)) hn.1
  | g :: gs, j + 1, 0, hn, h1, h2 => by
    simp at h2
    subst h2
    simp only [oldIds, nodupB, Bool.and_eq_true, Bool.not_eq_true', List.contains_eq_mem, decide_eq_false_iff_not] at hn
    exact absurd (mem_oldIds (k := j) (by simpa using h1)) hn.1
  | g :: gs, j + 1, k + 1, hn, h1, h2 => by
    have hn' : nodupB (oldIds gs) = true := by
      cases g with
      | old i =>
        simp only [oldIds, nodupB, Bool.and_eq_true] at hn
        exact hn.2
      | new e cols => exact hn
    rw [oldIds_inj hn' (j := j) (k := k) (by simpa using h1) (by simpa using h2)]

theorem hereT_spec {i : Nat} : ∀ {srcs : List Src} {gots : List Got} {k j : Nat}, hereT i srcs gots k = some j → k ≤ j ∧ ∃ e cols, gots[j - k]? = some (.new e cols)
  | [], _, _, _, h => by simp [hereT] at h
  | .tmp _ :: _, [], _, _, h => by simp [hereT] at h
  | .cell _ _ :: _, [], _, _, h => by simp [hereT] at h
  | s :: ss, g :: gs, k, j, h => by
    have tail : hereT i ss gs (k + 1) = some j → k ≤ j ∧ ∃ e cols, (g :: gs)[j - k]? = some (.new e cols) := by
      intro h
      obtain ⟨h1, e, cols, h2⟩ := hereT_spec h
      refine ⟨by omega, e, cols, ?_⟩
      rw [show j - k = (j - (k + 1)) + 1 by omega]
      simpa using h2
    cases s with
    | tmp i' =>
      cases g with
      | old id => exact tail h
      | new e cols =>
        simp only [hereT] at h
        split at h
        · cases h
          exact ⟨Nat.le_refl _, e, cols, by simp⟩
        · exact tail h
    | cell _ _ => cases g <;> exact tail h

theorem hereC_spec {k0 i : Nat} : ∀ {srcs : List Src} {gots : List Got} {k j : Nat}, hereC k0 i srcs gots k = some j → k ≤ j ∧ ∃ e cols, gots[j - k]? = some (.new e cols)
  | [], _, _, _, h => by simp [hereC] at h
  | .tmp _ :: _, [], _, _, h => by simp [hereC] at h
  | .cell _ _ :: _, [], _, _, h => by simp [hereC] at h
  | s :: ss, g :: gs, k, j, h => by
    have tail : hereC k0 i ss gs (k + 1) = some j → k ≤ j ∧ ∃ e cols, (g :: gs)[j - k]? = some (.new e cols) := by
      intro h
      obtain ⟨h1, e, cols, h2⟩ := hereC_spec h
      refine ⟨by omega, e, cols, ?_⟩
      rw [show j - k = (j - (k + 1)) + 1 by omega]
      simpa using h2
    cases s with
    | tmp i' => cases g <;> exact tail h
    | cell k1 j1 =>
      cases g with
      | old id => exact tail h
      | new e cols =>
        simp only [hereC] at h
        split at h
        · cases h
          exact ⟨Nat.le_refl _, e, cols, by simp⟩
        · exact tail h

theorem hS_of : ∀ b, c.S b → (cxOf w0 H c gots).S b := fun _ h => .inl h

/-- A block that is not kept stays as it is. -/
theorem frozen_of (hh : HeapOK w0 H c) {id : Nat} (hid : id ∉ oldIds gots) : ∀ q, Live H c id q → stOf w0 H c gots q.b := by
  intro q hq
  obtain ⟨h1, h2, _⟩ := hh.out id q hq
  exact .inr ⟨h1, h2, fun id' hid' p hp => hh.apart id' id p q hp hq (by rintro rfl; exact hid hid')⟩

theorem mapAll_rel {f : AV → Option AV} {c' : Cx} (hf : ∀ x y v, f x = some y → Rel c x v → Rel c' y v) : ∀ {xs ys : List AV} {vs : List Value}, mapAll f xs = some ys → RelL c xs vs → RelL c' ys vs
  | [], ys, vs, h, hr => by
    simp only [mapAll, Option.some.injEq] at h
    subst h
    cases vs with
    | nil => trivial
    | cons v vs => exact hr.elim
  | x :: xs, ys, [], h, hr => hr.elim
  | x :: xs, ys, v :: vs, h, hr => by
    simp only [mapAll] at h
    split at h
    · rename_i y ys' h1 h2
      cases h
      exact ⟨hf _ _ _ h1 hr.1, mapAll_rel hf h2 hr.2⟩
    · cases h

theorem stay_rel {c' : Cx} (hw : c'.w = c.w) (hS : ∀ b, c.S b → c'.S b) : ∀ {xs : List AV} {vs : List Value}, xs.all stayLeaf = true → RelL c xs vs → RelL c' xs vs
  | [], vs, _, hr => by
    cases vs with
    | nil => trivial
    | cons v vs => exact hr.elim
  | x :: xs, [], _, hr => hr.elim
  | x :: xs, v :: vs, hx, hr => by
    simp only [List.all_cons, Bool.and_eq_true] at hx
    refine ⟨?_, stay_rel hw hS hx.2 hr.2⟩
    have h1 := hr.1
    have h2 := hx.1
    cases x <;> simp only [stayLeaf, reduceCtorEq] at h2
    case int k n => exact h1
    case bool b => exact h1
    case val u => exact h1
    case sl n cols =>
      simp only [Rel] at h1 ⊢
      obtain ⟨base, cap, e1, e2, e3⟩ := h1
      refine ⟨base, cap, e1, e2, ?_⟩
      have := e3.grow (π1 := c'.π) (S1 := c'.S) hS
      rw [← hw] at this
      exact this
    case mapv ks cols one =>
      simp only [Rel] at h1 ⊢
      obtain ⟨b, es, clk, e1, e2, e3⟩ := h1
      exact ⟨b, es, clk, e1, hS _ e2, by rw [hw]; exact e3⟩

theorem convLeaf_rel (hh : HeapOK w0 H c) {here : Option Nat} (hhere : ∀ k, here = some k → ∃ e cols, gots[k]? = some (.new e cols)) {x y : AV} {v : Value} (hx : convLeaf gots H here x = some y) (hr : Rel c x v) : Rel (cxOf w0 H c gots) y v := by
  cases x <;> simp only [convLeaf, reduceCtorEq] at hx
  case top => cases hx; trivial
  case int k n => cases hx; exact hr
  case bool b => cases hx; exact hr
  case val u => cases hx; exact hr
  case sl n cols => cases hx; exact freeze_rel hh (x := .sl n cols) rfl hr hS_of (by simp)
  case emp e cols =>
    split at hx
    · rename_i k
      cases hx
      simp only [Rel] at hr ⊢
      obtain ⟨_, a, rfl⟩ := hr
      obtain ⟨e', cols', hk⟩ := hhere k rfl
      exact ⟨⟨0, cols'.length, 0, 0⟩, a, by simp [cxOf, piOf, hk], rfl, fun h => absurd rfl h⟩
    · cases hx
      exact freeze_rel hh (x := .emp e cols) rfl hr hS_of (by simp)
  case full id =>
    split at hx
    · rename_i k hk
      cases hx
      obtain ⟨_, hk⟩ := posOf_spec hk
      simp only [Rel] at hr ⊢
      obtain ⟨p, a, hp, h1, h2⟩ := hr
      exact ⟨p, a, by simp only [cxOf, piOf]; rw [show k - 0 = k by omega] at hk; rw [hk]; exact hp, h1, h2⟩
    · rename_i hk
      have hnot := posOf_none hk
      split at hx
      · rename_i e n cols hid
        cases hx
        exact freeze_rel hh (x := .full id) (rd := [id]) (by simp [sliceOf, hid]) hr hS_of (fun id' hid' q hq => by
          simp only [List.mem_singleton] at hid'
          subst hid'
          exact frozen_of hh hnot q hq)
      · cases hx
  case osl id off n =>
    split at hx
    · rename_i k hk
      cases hx
      obtain ⟨_, hk⟩ := posOf_spec hk
      simp only [Rel] at hr ⊢
      obtain ⟨p, a, hp, h1⟩ := hr
      exact ⟨p, a, by simp only [cxOf, piOf]; rw [show k - 0 = k by omega] at hk; rw [hk]; exact hp, h1⟩
    · rename_i hk
      have hnot := posOf_none hk
      split at hx
      · rename_i e n' cols hid
        cases hx
        exact freeze_rel hh (x := .osl id off n) (rd := [id]) (by simp [sliceOf, hid]) hr hS_of (fun id' hid' q hq => by
          simp only [List.mem_singleton] at hid'
          subst hid'
          exact frozen_of hh hnot q hq)
      · cases hx
  case ptr id idx off =>
    split at hx
    · rename_i k hk
      cases hx
      obtain ⟨_, hk⟩ := posOf_spec hk
      simp only [Rel] at hr ⊢
      obtain ⟨p, hp, h1⟩ := hr
      exact ⟨p, by simp only [cxOf, piOf]; rw [show k - 0 = k by omega] at hk; rw [hk]; exact hp, h1⟩
    · cases hx
  case mp id =>
    split at hx
    · rename_i k hk
      cases hx
      obtain ⟨_, hk⟩ := posOf_spec hk
      simp only [Rel] at hr ⊢
      obtain ⟨p, hp, h1⟩ := hr
      exact ⟨p, by simp only [cxOf, piOf]; rw [show k - 0 = k by omega] at hk; rw [hk]; exact hp, h1⟩
    · cases hx
  case it id =>
    split at hx
    · rename_i k hk
      cases hx
      obtain ⟨_, hk⟩ := posOf_spec hk
      simp only [Rel] at hr ⊢
      obtain ⟨p, hp, h1⟩ := hr
      exact ⟨p, by simp only [cxOf, piOf]; rw [show k - 0 = k by omega] at hk; rw [hk]; exact hp, h1⟩
    · cases hx
  case mapv ks cols one =>
    cases hx
    simp only [Rel] at hr ⊢
    obtain ⟨b, es, clk, h1, h2, h3⟩ := hr
    exact ⟨b, es, clk, h1, hS_of _ h2, h3⟩
  case ip cs =>
    split at hx
    · rename_i hs
      cases hx
      simp only [Rel] at hr ⊢
      obtain ⟨a, us, h1, h2, h3, h4, h5⟩ := hr
      exact ⟨a, us, h1, h2, .inl h3, stay_rel (c := c) (c' := cxOf w0 H c gots) rfl hS_of hs h4, h5⟩
    · cases hx
  case fn f xs ys =>
    cases xs with
    | cons x xs => simp at hx
    | nil =>
      cases ys with
      | cons y ys => simp at hx
      | nil =>
        simp only [Option.some.injEq] at hx
        subst hx
        simp only [Rel] at hr ⊢
        obtain ⟨as, bs, h1, h2, h3⟩ := hr
        refine ⟨as, bs, h1, ?_, ?_⟩
        · cases hl : as.toList with
          | nil => trivial
          | cons _ _ => rw [hl] at h2; exact h2.elim
        · cases hl : bs.toList with
          | nil => trivial
          | cons _ _ => rw [hl] at h3; exact h3.elim

theorem none_here : ∀ k, (none : Option Nat) = some k → ∃ e cols, gots[k]? = some (.new e cols) := fun _ h => by cases h

theorem convVal_rel (hh : HeapOK w0 H c) {here : Option Nat} (hhere : ∀ k, here = some k → ∃ e cols, gots[k]? = some (.new e cols)) {x y : AV} {v : Value} (hx : convVal gots H here x = some y) (hr : Rel c x v) : Rel (cxOf w0 H c gots) y v := by
  unfold convVal at hx
  split at hx
  · rename_i cs
    split at hx
    · rename_i ds hm
      cases hx
      simp only [Rel] at hr ⊢
      obtain ⟨vs, h1, h2⟩ := hr
      exact ⟨vs, h1, mapAll_rel (fun x y v h1 h2 => convLeaf_rel hh none_here h1 h2) hm h2⟩
    · cases hx
  · rename_i f xs ys
    split at hx
    · rename_i as bs hm1 hm2
      cases hx
      simp only [Rel] at hr ⊢
      obtain ⟨us, vs, h1, h2, h3⟩ := hr
      exact ⟨us, vs, h1, mapAll_rel (fun x y v h1 h2 => convLeaf_rel hh none_here h1 h2) hm1 h2, mapAll_rel (fun x y v h1 h2 => convLeaf_rel hh none_here h1 h2) hm2 h3⟩
    · cases hx
  · rename_i t x
    split at hx
    · rename_i z hz
      cases hx
      simp only [Rel] at hr ⊢
      obtain ⟨u, h1, h2⟩ := hr
      exact ⟨u, h1, convLeaf_rel hh none_here hz h2⟩
    · cases hx
  · exact convLeaf_rel hh hhere hx hr

theorem convCells_rel (hh : HeapOK w0 H c) {srcs : List Src} {k : Nat} : ∀ {xs ys : List AV} {vs : List Value} {j : Nat}, convCells srcs gots H k j xs = some ys → RelL c xs vs → RelL (cxOf w0 H c gots) ys vs
  | [], ys, vs, _, h, hr => by
    simp only [convCells, Option.some.injEq] at h
    subst h
    cases vs with
    | nil => trivial
    | cons v vs => exact hr.elim
  | x :: xs, ys, [], _, h, hr => hr.elim
  | x :: xs, ys, v :: vs, j, h, hr => by
    simp only [convCells] at h
    split at h
    · rename_i y ys' h1 h2
      cases h
      exact ⟨convLeaf_rel hh (fun k hk => by obtain ⟨_, e, cols, h⟩ := hereC_spec hk; exact ⟨e, cols, by simpa using h⟩) h1 hr.1, convCells_rel hh h2 hr.2⟩
    · cases h

theorem convMap_rel (hh : HeapOK w0 H c) : ∀ {es fs : List (Int × AV)} {ms : List MapEntry}, mapAll (fun (p : Int × AV) => match convVal gots H none p.2 with
        | some y => some (p.1, y)
        | none => none) es = some fs → MapIs c es ms → MapIs (cxOf w0 H c gots) fs ms
  | [], fs, ms, h, hr => by
    simp only [mapAll, Option.some.injEq] at h
    subst h
    cases ms with
    | nil => trivial
    | cons m ms => exact hr.elim
  | (k, x) :: es, fs, [], h, hr => hr.elim
  | (k, x) :: es, fs, m :: ms, h, hr => by
    simp only [mapAll] at h
    split at h
    · rename_i y ys' h1 h2
      cases h
      split at h1
      · rename_i z hz
        cases h1
        exact ⟨hr.1, convVal_rel hh none_here hz hr.2.1, convMap_rel hh h2 hr.2.2⟩
      · cases h1
    · cases h

theorem convObj_at (hh : HeapOK w0 H c) {srcs : List Src} {k : Nat} {g : Got} {o : AObj} (hg : gots[k]? = some g) (hnew : ∀ e cols, g = .new e cols → 0 < cols.length ∧ ∀ col ∈ cols, col.len = 0) (h : convObj srcs gots H k g = some o) :
    ∃ p, piOf c gots k = some p ∧ ObjAt (cxOf w0 H c gots) o p ∧ (Mem o p → ∃ id, g = .old id ∧ Live H c id p) := by
  cases g with
  | new e cols =>
    obtain ⟨h1, h2⟩ := hnew e cols rfl
    simp only [convObj, Option.some.injEq] at h
    subst h
    exact ⟨⟨0, cols.length, 0, 0⟩, by simp [piOf, hg], ⟨rfl, rfl, Nat.le_refl _, h1, h2, fun hc => absurd rfl hc⟩, fun hm => absurd rfl hm⟩
  | old id =>
    simp only [convObj] at h
    split at h
    · rename_i e n cols hid
      cases h
      obtain ⟨p, hp, q1, q2, q3, q4, q5, q6⟩ := hh.obj id _ hid
      refine ⟨p, by simp [piOf, hg, hp], ⟨q1, q2, q3, q4, q5, fun hc => ?_⟩, fun hm => ⟨id, rfl, _, hid, hp, hm⟩⟩
      obtain ⟨arr, t, ha, hs, hx⟩ := q6 hc
      exact ⟨arr, t, ha, hs, fun i hi j col hj => let ⟨u, k1, k2⟩ := hx i hi j col hj; ⟨u, k1, k2.grow hS_of⟩⟩
    · rename_i ks cols one hid
      cases h
      obtain ⟨p, hp, hob⟩ := hh.obj id _ hid
      exact ⟨p, by simp [piOf, hg, hp], hob, fun _ => ⟨id, rfl, _, hid, hp, trivial⟩⟩
    · rename_i ks cols one left cur hid
      cases h
      obtain ⟨p, hp, b, clk, seen, es, h1, h2, h3⟩ := hh.obj id _ hid
      exact ⟨p, by simp [piOf, hg, hp], ⟨b, clk, seen, es, h1, hS_of _ h2, h3⟩, fun _ => ⟨id, rfl, _, hid, hp, trivial⟩⟩
    · rename_i cs hid
      split at h
      · rename_i ds hm
        cases h
        obtain ⟨p, hp, arr, t, ha, hr⟩ := hh.obj id _ hid
        exact ⟨p, by simp [piOf, hg, hp], ⟨arr, t, ha, convCells_rel hh hm hr⟩, fun _ => ⟨id, rfl, _, hid, hp, trivial⟩⟩
      · cases h
    · rename_i es hid
      split at h
      · rename_i fs hm
        cases h
        obtain ⟨p, hp, arr, t, ha, hr⟩ := hh.obj id _ hid
        exact ⟨p, by simp [piOf, hg, hp], ⟨arr, t, ha, convMap_rel hh hm hr⟩, fun _ => ⟨id, rfl, _, hid, hp, trivial⟩⟩
      · cases h
    · cases h

theorem convObjs_get {srcs : List Src} : ∀ {gs : List Got} {k : Nat} {objs : Heap}, convObjs srcs gots H k gs = some objs → objs.length = gs.length ∧ ∀ i g, gs[i]? = some g → ∃ o, objs[i]? = some (some o) ∧ convObj srcs gots H (k + i) g = some o
  | [], _, objs, h => by
    simp only [convObjs, Option.some.injEq] at h
    subst h
    exact ⟨rfl, by simp⟩
  | g :: gs, k, objs, h => by
    simp only [convObjs] at h
    split at h
    · rename_i o os h1 h2
      cases h
      obtain ⟨g1, g2⟩ := convObjs_get h2
      refine ⟨by simp [g1], fun i g' hi => ?_⟩
      cases i with
      | zero =>
        simp at hi
        subst hi
        exact ⟨o, rfl, h1⟩
      | succ i =>
        obtain ⟨o', k1, k2⟩ := g2 i g' (by simpa using hi)
        exact ⟨o', by simpa using k1, by rw [show k + (i + 1) = k + 1 + i by omega]; exact k2⟩
    · cases h

theorem gotAll_mem {st : St} : ∀ {srcs : List Src} {acc gots : List Got}, gotAll st srcs acc = some gots → ∀ g ∈ gots, g ∈ acc ∨ ∃ acc' s, gotAt st acc' s = some g
  | [], acc, gots, h, g, hg => by
    simp only [gotAll, Option.some.injEq] at h
    subst h
    exact .inl hg
  | s :: ss, acc, gots, h, g, hg => by
    simp only [gotAll] at h
    split at h
    · rename_i g' hg'
      rcases gotAll_mem h g hg with h1 | h1
      · rcases List.mem_append.1 h1 with h2 | h2
        · exact .inl h2
        · simp only [List.mem_singleton] at h2
          subst h2
          exact .inr ⟨acc, s, hg'⟩
      · exact .inr h1
    · cases h

theorem gotAll_len {st : St} : ∀ {srcs : List Src} {acc gots : List Got}, gotAll st srcs acc = some gots → gots.length = acc.length + srcs.length
  | [], acc, gots, h => by
    simp only [gotAll, Option.some.injEq] at h
    subst h
    simp
  | s :: ss, acc, gots, h => by
    simp only [gotAll] at h
    split at h
    · have := gotAll_len h
      simp at this
      simp
      omega
    · cases h

theorem gotOf_new {tmps : Array Value} {x : AV} {e : TypeId} {cols : List Col} {v : Value} (h : gotOf x = some (.new e cols)) (hr : RelT c tmps x v) : 0 < cols.length ∧ ∀ col ∈ cols, col.len = 0 := by
  cases x <;> simp only [gotOf, reduceCtorEq, Option.some.injEq] at h
  case emp e' cols' =>
    cases cols' with
    | nil => simp at h
    | cons col rest =>
      simp only [Option.some.injEq, Got.new.injEq] at h
      obtain ⟨rfl, rfl⟩ := h
      exact ⟨by simp, hr.1⟩
  case ifc t y => cases y <;> simp [gotOf] at h

theorem getD_rel : ∀ {cs : List AV} {vs : List Value}, RelL c cs vs → ∀ j, ∃ v, Rel c (cs.getD j .top) v
  | cs, vs, h, j => by
    rw [List.getD_eq_getElem?_getD]
    cases hj : cs[j]? with
    | none => exact ⟨undef, trivial⟩
    | some x =>
      obtain ⟨v, _, hr⟩ := h.get hj
      exact ⟨v, hr⟩

/-- Of the whole state. -/
def WFO : AObj → Prop
  | .row _ n cols => ∀ col ∈ cols, col.len = n
  | .var cs => WFL cs
  | .tmap ks cols _ => (∀ col ∈ cols, col.len = ks.length) ∧ ks.Nodup
  | .iter ks cols _ left _ => (∀ col ∈ cols, col.len = ks.length) ∧ ks.Nodup ∧ left.Nodup ∧ ∀ i ∈ left, i < ks.length
  | _ => True

def WFH (H : Heap) : Prop := ∀ o ∈ H, ∀ x, o = some x → WFO x

theorem HeapOK.wf (h : HeapOK w0 H c) : WFH H := by
  rintro o ho x rfl
  obtain ⟨i, hi⟩ := List.getElem?_of_mem ho
  obtain ⟨p, hp, hob⟩ := h.obj i x (by simp [Heap.at, hi])
  cases x with
  | row e n cols => exact hob.2.2.2.2.1
  | var cs =>
    obtain ⟨_, _, _, hr⟩ := hob
    exact hr.wf
  | tmap ks cols one =>
    obtain ⟨_, _, _, hm⟩ := hob
    exact ⟨hm.col, hm.nodup⟩
  | iter ks cols one left cur =>
    obtain ⟨_, _, _, es, _, _, hm, h4, h5, _⟩ := hob
    refine ⟨hm.col, hm.nodup, h4, fun i hi => ?_⟩
    obtain ⟨e, he, _⟩ := (h5 i).1 hi
    rw [← hm.len]
    exact (Array.getElem?_eq_some_iff.1 he).1
  | _ => trivial

theorem convTmps_get {srcs : List Src} {T : List AV} : ∀ {keep : List Nat} {vals : List AV}, convTmps srcs gots H T keep = some vals → vals.length = keep.length ∧ ∀ i v, atKeep i keep vals = v → v = .top ∨ convVal gots H (hereT i srcs gots 0) (T.getD i .top) = some v
  | [], vals, h => by
    simp only [convTmps, Option.some.injEq] at h
    subst h
    exact ⟨rfl, fun i v hv => .inl (by simpa [atKeep] using hv.symm)⟩
  | j :: js, vals, h => by
    simp only [convTmps] at h
    split at h
    · rename_i y ys h1 h2
      cases h
      obtain ⟨g1, g2⟩ := convTmps_get h2
      refine ⟨by simp [g1], fun i v hv => ?_⟩
      simp only [atKeep] at hv
      split at hv
      · rename_i e
        subst e hv
        exact .inr h1
      · exact g2 i v hv
    · cases h

theorem mkT_get {keep : List Nat} {vals : List AV} : ∀ {n i k : Nat}, (mkT keep vals n i)[k]? = if k < n then some (atKeep (i + k) keep vals) else none
  | 0, i, k => by simp [mkT]
  | n + 1, i, 0 => by simp [mkT]
  | n + 1, i, k + 1 => by
    simp only [mkT, List.getElem?_cons_succ]
    rw [mkT_get]
    simp only [Nat.add_lt_add_iff_right]
    rw [show i + 1 + k = i + (k + 1) by omega]

theorem mkT_len {keep : List Nat} {vals : List AV} : ∀ {n i : Nat}, (mkT keep vals n i).length = n
  | 0, _ => rfl
  | n + 1, i => by simp [mkT, mkT_len]

theorem RelT.plain {tmps : Array Value} {x : AV} {v : Value} (h : RelT c tmps x v) (hx : ∀ j b y, x ≠ .cond j b y) : Rel c x v := by
  cases x with
  | cond j b y => exact absurd rfl (hx j b y)
  | _ => exact h

theorem wfl_of : ∀ {vals : List AV}, (∀ v ∈ vals, WF v) → WFL vals
  | [], _ => trivial
  | v :: vs, h => ⟨h v (by simp), wfl_of fun x hx => h x (by simp [hx])⟩

theorem convTmps_mem {srcs : List Src} {T : List AV} : ∀ {keep : List Nat} {vals : List AV}, convTmps srcs gots H T keep = some vals → ∀ v ∈ vals, ∃ i, convVal gots H (hereT i srcs gots 0) (T.getD i .top) = some v
  | [], vals, h, v, hv => by
    simp only [convTmps, Option.some.injEq] at h
    subst h
    cases hv
  | j :: js, vals, h, v, hv => by
    simp only [convTmps] at h
    split at h
    · rename_i y ys h1 h2
      cases h
      rcases List.mem_cons.1 hv with rfl | hv
      · exact ⟨j, h1⟩
      · exact convTmps_mem h2 v hv
    · cases h

theorem tidy_sound2 {n : Nat} {keep : List Nat} {srcs : List Src} {st : St} {vals : List AV} {objs : Heap} {a : Act} (h : StOK w0 st c a) (ht : tidy n keep srcs st = some (vals, objs)) :
    ∃ gots, gotAll st srcs [] = some gots ∧ StOK w0 ⟨mkT keep vals n 0, objs⟩ (cxOf w0 st.H c gots) a ∧ vals.length = keep.length ∧ objs.length = srcs.length ∧ WFL vals ∧ WFH objs := by
  unfold tidy at ht
  split at ht
  · rename_i hn
    split at ht
    · rename_i gots hg
      split at ht
      · rename_i hnd
        split at ht
        · rename_i vals' objs' h1 h2
          cases ht
          obtain ⟨hl1, hv⟩ := convTmps_get h1
          obtain ⟨hl2, ho⟩ := convObjs_get h2
          have hnew : ∀ g ∈ gots, ∀ e cols, g = .new e cols → 0 < cols.length ∧ ∀ col ∈ cols, col.len = 0 := by
            rintro g hgm e cols rfl
            rcases gotAll_mem hg _ hgm with h3 | ⟨acc, s, h3⟩
            · cases h3
            · cases s with
              | tmp i => exact gotOf_new h3 (h.tok.get i)
              | cell k j =>
                simp only [gotAt] at h3
                split at h3
                · rename_i id hk
                  split at h3
                  · rename_i cs hid
                    obtain ⟨p, hp, arr, t, ha, hr⟩ := h.heap.obj id _ hid
                    obtain ⟨v, hv⟩ := getD_rel hr j
                    exact gotOf_new (tmps := #[]) h3 (relT_of_rel hv)
                  · cases h3
                · cases h3
          have hat : ∀ k o, Heap.at objs k = some o → ∃ g, gots[k]? = some g ∧ convObj srcs gots st.H k g = some o := by
            intro k o hk
            unfold Heap.at at hk
            split at hk
            · rename_i o' hko
              cases hk
              have hlt : k < gots.length := by rw [← hl2]; exact (List.getElem?_eq_some_iff.1 hko).1
              obtain ⟨o'', k1, k2⟩ := ho k _ (List.getElem?_eq_getElem hlt)
              rw [hko] at k1
              cases k1
              exact ⟨_, List.getElem?_eq_getElem hlt, by simpa using k2⟩
            · cases hk
          have hob : ∀ k o, Heap.at objs k = some o → ∃ g p, gots[k]? = some g ∧ piOf c gots k = some p ∧ ObjAt (cxOf w0 st.H c gots) o p ∧ (Mem o p → ∃ id, g = .old id ∧ Live st.H c id p) := by
            intro k o hk
            obtain ⟨g, hgk, hc⟩ := hat k o hk
            obtain ⟨p, k1, k2, k3⟩ := convObj_at h.heap hgk (hnew g (List.mem_of_getElem? hgk)) hc
            exact ⟨g, p, hgk, k1, k2, k3⟩
          have hlive : ∀ k p, Live objs (cxOf w0 st.H c gots) k p → ∃ id, gots[k]? = some (.old id) ∧ Live st.H c id p := by
            rintro k p ⟨o, ho, hp, hm⟩
            obtain ⟨g, p', k1, k2, k3, k4⟩ := hob k o ho
            have : some p = some p' := hp.symm.trans k2
            cases this
            obtain ⟨id, rfl, hl⟩ := k4 hm
            exact ⟨id, k1, hl⟩
          have hH : HeapOK w0 objs (cxOf w0 st.H c gots) := by
            refine ⟨?_, ?_, ?_, ?_, ?_, h.heap.kept, h.heap.grown, ?_⟩
            · intro k o hk
              obtain ⟨g, p, k1, k2, k3, k4⟩ := hob k o hk
              exact ⟨p, k2, k3⟩
            · intro k k' p p' hk hk' hne
              obtain ⟨id, g1, g2⟩ := hlive k p hk
              obtain ⟨id', g3, g4⟩ := hlive k' p' hk'
              refine h.heap.apart id id' p p' g2 g4 ?_
              rintro rfl
              exact hne (oldIds_inj hnd g1 g3)
            · intro k p hk
              obtain ⟨id, g1, g2⟩ := hlive k p hk
              obtain ⟨k1, k2, k3⟩ := h.heap.out id p g2
              refine ⟨k1, k2, ?_⟩
              rintro (hs | ⟨_, _, hs⟩)
              · exact k3 hs
              · exact hs id (mem_oldIds g1) p g2 rfl
            · intro k hk
              show piOf c gots k = none
              have : gots[k]? = none := by
                rcases Nat.lt_or_ge k gots.length with hlt | hge
                · obtain ⟨o, k1, _⟩ := ho k _ (List.getElem?_eq_getElem hlt)
                  simp [Heap.at, k1] at hk
                · exact List.getElem?_eq_none hge
              simp [piOf, this]
            · rintro b (hs | ⟨_, hs, _⟩)
              · exact h.heap.stable b hs
              · exact hs
            · rintro b (hs | ⟨hs, _, _⟩)
              · exact h.heap.born b hs
              · exact .inr hs
          have hval : ∀ i v, atKeep i keep vals = v → Rel (cxOf w0 st.H c gots) v (a.tmps.getD i undef) := by
            intro i v hv'
            rcases hv i v hv' with rfl | hc
            · trivial
            · have hnc : ∀ j b y, st.T.getD i .top ≠ .cond j b y := by
                intro j b y e
                rw [e] at hc
                simp [convVal, convLeaf] at hc
              exact convVal_rel h.heap (fun k hk => by obtain ⟨_, e, cols, h⟩ := hereT_spec hk; exact ⟨e, cols, by simpa using h⟩) hc ((h.tok.get i).plain hnc)
          refine ⟨gots, hg, ⟨hH, ⟨by rw [mkT_len, ← hn]; exact h.tok.1, fun i x hx => ?_⟩, h.plain⟩, hl1, ?_, ?_, hH.wf⟩
          · rw [mkT_get] at hx
            split at hx
            · rename_i hlt
              rw [Nat.zero_add] at hx
              cases hx
              have hlt' : i < a.tmps.size := by rw [← h.tok.1, hn]; exact hlt
              refine ⟨a.tmps[i], Array.getElem?_eq_getElem hlt', relT_of_rel ?_⟩
              have := hval i _ rfl
              rw [Array.getD_eq_getD_getElem?, Array.getElem?_eq_getElem hlt'] at this
              exact this
            · cases hx
          · rw [hl2, gotAll_len hg]; simp
          · refine wfl_of fun v hv' => ?_
            obtain ⟨i, hc⟩ := convTmps_mem h1 v hv'
            have hnc : ∀ j b y, st.T.getD i .top ≠ .cond j b y := by
              intro j b y e
              rw [e] at hc
              simp [convVal, convLeaf] at hc
            exact (convVal_rel h.heap (fun k hk => by obtain ⟨_, e, cols, h⟩ := hereT_spec hk; exact ⟨e, cols, by simpa using h⟩) hc ((h.tok.get i).plain hnc)).wf
        · cases ht
      · cases ht
    · cases ht
  · cases ht

theorem tidy_sound {n : Nat} {keep : List Nat} {srcs : List Src} {st : St} {vals : List AV} {objs : Heap} {a : Act} (h : StOK w0 st c a) (ht : tidy n keep srcs st = some (vals, objs)) :
    ∃ c', StOK w0 ⟨mkT keep vals n 0, objs⟩ c' a ∧ c.leF 0 c' ∧ c'.w = c.w ∧ vals.length = keep.length ∧ objs.length = srcs.length ∧ WFL vals ∧ WFH objs := by
  obtain ⟨gots, _, h1, h2⟩ := tidy_sound2 h ht
  exact ⟨cxOf w0 st.H c gots, h1, ⟨fun id hid => absurd hid (Nat.not_lt_zero _), hS_of, fun _ _ => rfl, Nat.le_refl _, rfl, rfl, rfl⟩, rfl, h2⟩

end
end Go.Own
