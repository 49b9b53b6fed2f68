/- What reads as data reads as an abstract value; and the end of a law. -/
import Derived.Test.YtmilniofdpgbnaaOwnK
import Derived.ChangeArms
import Derived.Deep.Slices
import Derived.Deep.Fields
import Derived.ChangeSame
import Derived.ChangeOld
import Derived.Below
import Derived.ChangeShapes
set_option linter.unusedVariables false
set_option linter.unusedSimpArgs false
namespace Go.Own
open Go Go.ChangeShapes Go.WideShapes Go.Deep Go.RowKit

/-- A world in which all that there is stays. -/
def atW (w : World) : Cx := ⟨w, fun _ => none, fun b => b < w.heap.size⟩

/-- What reads as data of a type is told so. -/
def OpA (P : Program) (t : TypeId) {α : Type} (f : α → List AV) (g : α → Prop) : Prop :=
  ∀ (w : World) (H : Type) (enc : TypeId × Value → H) (base : Nat) (spare : Nat → Bool) (held : Bool) (fuel : Nat) (cs : List Value) (x : DataW H × List MemPlace), DataW.trod enc P w base spare held fuel t cs = some x → ∃ a, RelL (atW w) (f a) cs ∧ g a

theorem opA_int {P : Program} {t : TypeId} {k : IntKind} (hu : P.underlying t = some (.int k)) : OpA P t (fun n : Int => [.int k n]) (fun n => (Lit.int k n).wf = true) := by
  intro w H enc base spare held fuel cs x h
  obtain ⟨n, rfl, _, hw⟩ := DataW.trod_int hu h
  exact ⟨n, by simp [RelL, Rel], hw⟩

theorem opA_bool {P : Program} {t : TypeId} (hu : P.underlying t = some .bool) : OpA P t (fun b : Bool => [.bool b]) (fun _ => True) := by
  intro w H enc base spare held fuel cs x h
  obtain ⟨n, rfl, _⟩ := DataW.trod_bool hu h
  exact ⟨n, by simp [RelL, Rel], trivial⟩

theorem own_choice {α : Type} (Q : Nat → α → Prop) : ∀ n : Nat, (∀ i, i < n → ∃ x, Q i x) → ∃ xs : List α, xs.length = n ∧ ∀ i x, xs[i]? = some x → Q i x
  | 0, _ => ⟨[], rfl, fun i x h => by simp at h⟩
  | n + 1, h => by
    obtain ⟨xs, hl, hx⟩ := own_choice Q n (fun i hi => h i (by omega))
    obtain ⟨y, hy⟩ := h n (by omega)
    refine ⟨xs ++ [y], by simp [hl], fun i x hi => ?_⟩
    by_cases hlt : i < xs.length
    · rw [List.getElem?_append_left hlt] at hi
      exact hx i x hi
    · rw [List.getElem?_append_right (by omega)] at hi
      have : i - xs.length = 0 := by
        by_cases h0 : i - xs.length = 0
        · exact h0
        · obtain ⟨m, hm⟩ : ∃ m, i - xs.length = m + 1 := ⟨i - xs.length - 1, by omega⟩
          rw [hm] at hi
          simp at hi
      rw [this] at hi
      simp at hi
      subst hi
      have : i = n := by omega
      subst this
      exact hy

/-- One field of an element. -/
inductive Fld (α : Type) where
  | int (k : IntKind) (f : α → Int)
  | bool (f : α → Bool)
  | ints (k : IntKind) (f : α → List Int)

def Fld.av {α : Type} (a : α) : Fld α → AV
  | .int k f => .int k (f a)
  | .bool f => .bool (f a)
  | .ints k f => .sl (f a).length [.int k (f a)]

def Fld.col {α : Type} (l : List α) : Fld α → Col
  | .int k f => .int k (l.map f)
  | .bool f => .bool (l.map f)
  | .ints k f => .ints k (l.map f)

theorem Fld.is {α : Type} {c : Cx} {l : List α} {i : Nat} {a : α} {u : Value} (h : l[i]? = some a) (d : Fld α) (hr : Rel c (d.av a) u) : ColIs c (d.col l) i u := by
  cases d with
  | int k f =>
    simp only [Fld.av, Rel] at hr
    subst hr
    simp [Fld.col, ColIs, gI, List.getD, h]
  | bool f =>
    simp only [Fld.av, Rel] at hr
    subst hr
    simp [Fld.col, ColIs, gB, List.getD, h]
  | ints k f =>
    simp only [Fld.av, Rel] at hr
    obtain ⟨base, cap, rfl, hc, hl, hx⟩ := hr
    have e : gL (l.map f) i = f a := by simp [gL, List.getD, h]
    simp only [Fld.col, ColIs, e]
    refine ⟨base, cap, rfl, hc, hx.imp id ?_⟩
    rintro ⟨b, rfl, hs, hS, hcell⟩
    refine ⟨b, rfl, hs, hS, fun j hj => ?_⟩
    obtain ⟨u, hu, hv⟩ := hcell j hj 0 (.int k (f a)) rfl
    simp only [List.length_singleton, Nat.mul_one, Nat.add_zero] at hu
    simp only [ColIs] at hv
    subst hv
    exact hu

theorem RelL.get2 {c : Cx} {α : Type} {a : α} : ∀ {fs : List (Fld α)} {vs : List Value}, RelL c (fs.map (Fld.av a)) vs → ∀ {j : Nat} {d : Fld α}, fs[j]? = some d → ∃ u, vs[j]? = some u ∧ Rel c (d.av a) u := by
  intro fs vs h j d hd
  exact RelL.get h (by simp [hd])

theorem opA_rows {α : Type} {P : Program} {t e : TypeId} {g : α → Prop} (fs : List (Fld α)) (hu : P.underlying t = some (.slice e)) (hc : P.cellsOf e = fs.length) (hp : 0 < fs.length) (he : OpA P e (fun a => fs.map (Fld.av a)) g) :
    OpA P t (fun l : List α => [.sl l.length (fs.map (Fld.col l))]) (fun l => l.length ≤ maxLen ∧ ∀ x ∈ l, g x) := by
  intro w H enc base spare held fuel cs x h
  have hlen : ∀ l : List α, ∀ col ∈ fs.map (Fld.col l), col.len = l.length := by
    intro l col hcol
    obtain ⟨d, _, rfl⟩ := List.mem_map.1 hcol
    cases d <;> simp [Fld.col, Col.len]
  rcases open_slice hu h with ⟨rfl, _⟩ | ⟨a, len, cap, m, n, D, Pl, rfl, hb, hl, hm, hmm, _, hi⟩
  · refine ⟨[], ?_, by simp, by simp⟩
    simp only [RelL, Rel, and_true]
    exact ⟨none, 0, rfl, Nat.le_refl _, hlen [], .inl rfl⟩
  · have hlm : len ≤ m := by
      rw [hmm]
      split
      · exact hl
      · exact Nat.le_refl _
    have key : ∀ i, i < len → ∃ x : α, (∃ c : List Value, c.length = fs.length ∧ RelL (atW w) (fs.map (Fld.av x)) c ∧ ∀ j, j < fs.length → w.cell? ((a.add (i * fs.length)).add j) = c[j]?) ∧ g x := by
      intro i hil
      obtain ⟨cs', h1, h2⟩ := hi i (by omega)
      obtain ⟨y, hK, hg⟩ := he _ _ _ _ _ _ _ _ _ h2
      obtain ⟨_, hcl, hat⟩ := World.cells?_some h1
      rw [hc] at hcl hat
      exact ⟨y, ⟨cs', hcl, hK, hat⟩, hg⟩
    obtain ⟨xs, hxl, hxs⟩ := own_choice _ len key
    subst hxl
    refine ⟨xs, ?_, by omega, fun y hy => ?_⟩
    · simp only [RelL, Rel, and_true]
      refine ⟨some a, cap, rfl, hl, hlen xs, ?_⟩
      by_cases h0 : xs.length = 0
      · exact .inl h0
      · refine .inr ⟨a, rfl, ?_⟩
        obtain ⟨⟨c0, hc0, _, hat0⟩, _⟩ := hxs 0 (xs[0]'(by omega)) (List.getElem?_eq_getElem (by omega))
        have hz := hat0 0 hp
        have e0 : (a.add (0 * fs.length)).add 0 = a := by simp [Addr.add]
        rw [e0, List.getElem?_eq_getElem (by omega)] at hz
        have hspot : a.spot = none := by
          unfold World.cell? at hz
          split at hz
          · split at hz
            · cases hz
            · rename_i h; simpa using h
          · cases hz
        refine ⟨hspot, World.block_lt_of_cell? w a (by rw [hz]), fun i hil j col hj => ?_⟩
        obtain ⟨⟨c1, hc1, hr1, hat1⟩, _⟩ := hxs i (xs[i]'hil) (List.getElem?_eq_getElem hil)
        simp only [List.length_map]
        rw [List.getElem?_map] at hj
        cases hd : fs[j]? with
        | none => rw [hd] at hj; cases hj
        | some d =>
          rw [hd] at hj
          cases hj
          have hjl : j < fs.length := (List.getElem?_eq_some_iff.1 hd).1
          obtain ⟨u, hu, hru⟩ := RelL.get2 hr1 hd
          refine ⟨u, ?_, Fld.is (List.getElem?_eq_getElem hil) d hru⟩
          have e1 : (a.add (i * fs.length)).add j = ⟨a.block, a.off + (i * fs.length + j), none⟩ := by
            cases a with
            | mk b o s =>
              cases hspot
              simp only [Addr.add]
              split <;> split <;> simp_all <;> omega
          unfold cellIs
          show w.cell? _ = _
          rw [← e1, hat1 j hjl, hu]
    · obtain ⟨i, hil, rfl⟩ := List.getElem_of_mem hy
      exact (hxs i _ (List.getElem?_eq_getElem hil)).2

theorem opA_ints {P : Program} {t e : TypeId} {k : IntKind} (hu : P.underlying t = some (.slice e)) (hue : P.underlying e = some (.int k)) (hc : P.cellsOf e = 1) : OpA P t (fun l : List Int => [.sl l.length [.int k l]]) (fun l => l.length ≤ maxLen ∧ ∀ x ∈ l, (Lit.int k x).wf = true) := by
  have h := opA_rows [Fld.int k id] hu hc (by simp) (opA_int hue)
  intro w H enc base spare held fuel cs x hx
  obtain ⟨a, h1, h2⟩ := h w H enc base spare held fuel cs x hx
  exact ⟨a, by simpa [Fld.col] using h1, h2⟩

theorem opA_bools {P : Program} {t e : TypeId} (hu : P.underlying t = some (.slice e)) (hue : P.underlying e = some .bool) (hc : P.cellsOf e = 1) : OpA P t (fun l : List Bool => [.sl l.length [.bool l]]) (fun l => l.length ≤ maxLen) := by
  have h := opA_rows [Fld.bool id] hu hc (by simp) (opA_bool hue)
  intro w H enc base spare held fuel cs x hx
  obtain ⟨a, h1, h2⟩ := h w H enc base spare held fuel cs x hx
  exact ⟨a, by simpa [Fld.col] using h1, h2.1⟩

def OpF (P : Program) (fs : List Field) (off : Nat) {α : Type} (n : Nat) (f : α → List AV) (g : α → Prop) : Prop :=
  ∀ (w : World) (H : Type) (enc : TypeId × Value → H) (base : Nat) (spare : Nat → Bool) (held : Bool) (m : Nat) (cs : List Value), (∀ f ∈ fs, ∃ y, DataW.trod enc P w base spare held m f.type ((cs.drop f.offset).take (P.cellsOf f.type)) = some y) → cs.length = off + n → ∃ a, RelL (atW w) (f a) (cs.drop off) ∧ g a

theorem opF_last {α : Type} {P : Program} {d : Field} {off n : Nat} {f : α → List AV} {g : α → Prop} (ho : d.offset = off) (hc : P.cellsOf d.type = n) (h : OpA P d.type f g) : OpF P [d] off n f g := by
  intro w H enc base spare held m cs hf hl
  obtain ⟨y, hy⟩ := hf d List.mem_cons_self
  rw [ho, hc, List.take_of_length_le (by simp; omega)] at hy
  exact h _ _ _ _ _ _ _ _ _ hy

theorem opF_cons {α β : Type} {P : Program} {d : Field} {fs : List Field} {off n m : Nat} {f : α → List AV} {f' : β → List AV} {g : α → Prop} {g' : β → Prop} (ho : d.offset = off) (hc : P.cellsOf d.type = n) (h : OpA P d.type f g) (hr : OpF P fs (off + n) m f' g') :
    OpF P (d :: fs) off (n + m) (fun x : α × β => f x.1 ++ f' x.2) (fun x => g x.1 ∧ g' x.2) := by
  intro w H enc base spare held k cs hf hl
  obtain ⟨y, hy⟩ := hf d List.mem_cons_self
  rw [ho, hc] at hy
  obtain ⟨x1, hK1, hg1⟩ := h _ _ _ _ _ _ _ _ _ hy
  obtain ⟨x2, hK2, hg2⟩ := hr w _ enc base spare held k cs (fun f' hf' => hf f' (List.mem_cons_of_mem _ hf')) (by rw [hl]; omega)
  refine ⟨(x1, x2), ?_, hg1, hg2⟩
  have e : cs.drop off = (cs.drop off).take n ++ cs.drop (off + n) := by rw [← List.drop_drop, List.take_append_drop]
  rw [e]
  exact hK1.append hK2

theorem opA_struct {α : Type} {P : Program} {t : TypeId} {fs : Array Field} {n : Nat} {f : α → List AV} {g : α → Prop} (hu : P.underlying t = some (.struct fs)) (hc : P.cellsOf t = n) (h : OpF P fs.toList 0 n f g) : OpA P t f g := by
  intro w H enc base spare held fuel cs x hx
  obtain ⟨xs, m, _, _, hlen, hxl, hf⟩ := DataW.trod_struct hu hx
  obtain ⟨a, hK, hg⟩ := h w _ enc base spare held m cs (fun f hmem => by
    obtain ⟨i, hi, rfl⟩ := List.getElem_of_mem hmem
    have hi' : i < fs.size := by simpa using hi
    have e := hf i (fs[i]'hi') (Array.getElem?_eq_getElem hi')
    have hx' : xs[i]? = some (xs[i]'(by omega)) := List.getElem?_eq_getElem (by omega)
    exact ⟨_, (by simpa using e.trans hx')⟩) (by omega)
  exact ⟨a, by simpa using hK, hg⟩

theorem opA_iso {α β : Type} {P : Program} {t : TypeId} {f : α → List AV} {g : α → Prop} (f' : β → List AV) (g' : β → Prop) (inv : α → β) (hi : ∀ a, f' (inv a) = f a) (hg : ∀ a, g a → g' (inv a)) (h : OpA P t f g) : OpA P t f' g' := by
  intro w H enc base spare held fuel cs x hx
  obtain ⟨a, hK, hga⟩ := h _ _ _ _ _ _ _ _ _ hx
  exact ⟨inv a, by rw [hi]; exact hK, hg a hga⟩

theorem atW_slice {w : World} {n : Nat} {cols : List Col} {a : Option Addr} {len cap : Nat} (h : RelL (atW w) [.sl n cols] (Value.slice a len cap).cells.toList) : Rel (atW w) (.sl n cols) (.slice a len cap) := by
  have h2 : RelL (atW w) [.sl n cols] [Value.slice a len cap] := h
  simp only [RelL] at h2
  exact h2.1

theorem atW_int {w : World} {n : Int} {k k' : IntKind} {m : Int} (h : RelL (atW w) [.int k n] (Value.int k' m).cells.toList) : Rel (atW w) (.int k n) (.int k' m) := by
  have h2 : RelL (atW w) [.int k n] [Value.int k' m] := h
  simp only [RelL] at h2
  exact h2.1

theorem atW_bool {w : World} {b b' : Bool} (h : RelL (atW w) [.bool b] (Value.bool b').cells.toList) : Rel (atW w) (.bool b) (.bool b') := by
  have h2 : RelL (atW w) [.bool b] [Value.bool b'] := h
  simp only [RelL] at h2
  exact h2.1

theorem atW_agg {w : World} {cs : List AV} {vs : Array Value} (h : RelL (atW w) cs (Value.agg vs).cells.toList) : Rel (atW w) (.agg cs) (.agg vs) := by
  simp only [Rel]
  exact ⟨vs, rfl, h⟩

/-- What a law's function comes to. -/
theorem PureOK.law {P : Program} {k : FuncId} {F : Pure1} (h : PureOK P k F) {W : World} {args : Array Value} {as : List AV} (hr : RelL (atW W) as args.toList) {b : Option Bool} (hF : F as = some (b, .bool true)) (hb : b ≠ some false) :
    Calls P k args W fun e W' => e = .returned (.bool true) ∧ Below W.heap.size W W' := by
  refine (h.2 (atW W) as args b _ (fun _ h => h) (fun _ => rfl) hr hF hb).mono ?_
  rintro e w' ⟨v, c', ps, rfl, rfl, hle, hk, _, hg, _, _⟩
  refine ⟨?_, hle.rest.1, hle.rest.2.1, hle.rest.2.2, hle.size, hk⟩
  simp only [Gives, GiveCells, GiveLeaf] at hg
  rw [hg.2]

/-- What reads as data of a type, and takes no more memory than there is, is told so. -/
def OpZ (P : Program) (t : TypeId) {α : Type} (f : α → List AV) (g : α → Prop) : Prop :=
  ∀ (w : World) (H : Type) (enc : TypeId × Value → H) (base : Nat) (spare : Nat → Bool) (held : Bool) (fuel : Nat) (cs : List Value) (x : DataW H × List MemPlace), DataW.trod enc P w base spare held fuel t cs = some x → (x.1.weights P t).all (· ≤ reachBytes) = true → ∃ a, RelL (atW w) (f a) cs ∧ g a

theorem OpA.z {P : Program} {t : TypeId} {α : Type} {f : α → List AV} {g : α → Prop} (h : OpA P t f g) : OpZ P t f g :=
  fun w H enc base spare held fuel cs x hx _ => h w H enc base spare held fuel cs x hx

theorem opZ_row {α : Type} {P : Program} {t e : TypeId} {F : α → List Col} {n : α → Nat} {g : α → Prop} (hu : P.underlying t = some (.slice e)) (h : OpA P t (fun a => [.sl (n a) (F a)]) g) :
    OpZ P t (fun a => [.sl (n a) (F a)]) (fun a => g a ∧ n a * P.bytesOf e ≤ reachBytes) := by
  intro w H enc base spare held fuel cs x hx hz
  obtain ⟨a, hK, hg⟩ := h _ _ _ _ _ _ _ _ _ hx
  refine ⟨a, hK, hg, ?_⟩
  rcases open_slice hu hx with ⟨rfl, rfl⟩ | ⟨ad, len, cap, m, k, D, Pl, rfl, hb, hl, hm, hmm, rfl, hi⟩
  · simp only [RelL, Rel, and_true] at hK
    obtain ⟨b', c', hv, _⟩ := hK
    injection hv with _ h2 _
    rw [← h2]
    simp
  · simp only [RelL, Rel, and_true] at hK
    obtain ⟨b', c', hv, _⟩ := hK
    injection hv with _ h2 _
    rw [← h2]
    simp only [DataW.weights, hu, List.all_cons, Bool.and_eq_true, decide_eq_true_eq, List.length_map, List.length_range] at hz
    exact Nat.le_trans (Nat.mul_le_mul_right _ (by omega)) hz.1

theorem weightsEach_get {H : Type} {P : Program} : ∀ {ts : List TypeId} {ds : List (DataW H)}, (DataW.weightsEach P ts ds).all (· ≤ reachBytes) = true → ∀ {i : Nat} {t : TypeId} {d : DataW H}, ts[i]? = some t → ds[i]? = some d → (d.weights P t).all (· ≤ reachBytes) = true
  | [], _, _, i, t, d, ht, _ => by simp at ht
  | _ :: _, [], _, i, t, d, _, hd => by simp at hd
  | t0 :: ts, d0 :: ds, h, i, t, d, ht, hd => by
    simp only [DataW.weightsEach, List.all_append, Bool.and_eq_true] at h
    cases i with
    | zero =>
      simp only [List.getElem?_cons_zero, Option.some.injEq] at ht hd
      subst ht hd
      exact h.1
    | succ i =>
      simp only [List.getElem?_cons_succ] at ht hd
      exact weightsEach_get h.2 ht hd

def OpFZ (P : Program) (fs : List Field) (off : Nat) {α : Type} (n : Nat) (f : α → List AV) (g : α → Prop) : Prop :=
  ∀ (w : World) (H : Type) (enc : TypeId × Value → H) (base : Nat) (spare : Nat → Bool) (held : Bool) (m : Nat) (cs : List Value), (∀ f ∈ fs, ∃ y, DataW.trod enc P w base spare held m f.type ((cs.drop f.offset).take (P.cellsOf f.type)) = some y ∧ (y.1.weights P f.type).all (· ≤ reachBytes) = true) → cs.length = off + n → ∃ a, RelL (atW w) (f a) (cs.drop off) ∧ g a

theorem opFZ_last {α : Type} {P : Program} {d : Field} {off n : Nat} {f : α → List AV} {g : α → Prop} (ho : d.offset = off) (hc : P.cellsOf d.type = n) (h : OpZ P d.type f g) : OpFZ P [d] off n f g := by
  intro w H enc base spare held m cs hf hl
  obtain ⟨y, hy, hz⟩ := hf d List.mem_cons_self
  rw [ho, hc, List.take_of_length_le (by simp; omega)] at hy
  exact h _ _ _ _ _ _ _ _ _ hy hz

theorem opFZ_cons {α β : Type} {P : Program} {d : Field} {fs : List Field} {off n m : Nat} {f : α → List AV} {f' : β → List AV} {g : α → Prop} {g' : β → Prop} (ho : d.offset = off) (hc : P.cellsOf d.type = n) (h : OpZ P d.type f g) (hr : OpFZ P fs (off + n) m f' g') :
    OpFZ P (d :: fs) off (n + m) (fun x : α × β => f x.1 ++ f' x.2) (fun x => g x.1 ∧ g' x.2) := by
  intro w H enc base spare held k cs hf hl
  obtain ⟨y, hy, hz⟩ := hf d List.mem_cons_self
  rw [ho, hc] at hy
  obtain ⟨x1, hK1, hg1⟩ := h _ _ _ _ _ _ _ _ _ hy hz
  obtain ⟨x2, hK2, hg2⟩ := hr w _ enc base spare held k cs (fun f' hf' => hf f' (List.mem_cons_of_mem _ hf')) (by rw [hl]; omega)
  refine ⟨(x1, x2), ?_, hg1, hg2⟩
  have e : cs.drop off = (cs.drop off).take n ++ cs.drop (off + n) := by rw [← List.drop_drop, List.take_append_drop]
  rw [e]
  exact hK1.append hK2

theorem opZ_struct {α : Type} {P : Program} {t : TypeId} {fs : Array Field} {n : Nat} {f : α → List AV} {g : α → Prop} (hu : P.underlying t = some (.struct fs)) (hc : P.cellsOf t = n) (h : OpFZ P fs.toList 0 n f g) : OpZ P t f g := by
  intro w H enc base spare held fuel cs x hx hz
  obtain ⟨xs, m, _, rfl, hlen, hxl, hf⟩ := DataW.trod_struct hu hx
  simp only [DataW.weights, hu] at hz
  obtain ⟨a, hK, hg⟩ := h w _ enc base spare held m cs (fun f hmem => by
    obtain ⟨i, hi, rfl⟩ := List.getElem_of_mem hmem
    have hi' : i < fs.size := by simpa using hi
    have e := hf i (fs[i]'hi') (Array.getElem?_eq_getElem hi')
    have hx' : xs[i]? = some (xs[i]'(by omega)) := List.getElem?_eq_getElem (by omega)
    refine ⟨_, (by simpa using e.trans hx'), weightsEach_get hz (i := i) ?_ ?_⟩
    · rw [List.getElem?_map, List.getElem?_eq_getElem hi]
      rfl
    · rw [List.getElem?_map, hx']
      rfl) (by omega)
  exact ⟨a, by simpa using hK, hg⟩

theorem opZ_iso {α β : Type} {P : Program} {t : TypeId} {f : α → List AV} {g : α → Prop} (f' : β → List AV) (g' : β → Prop) (inv : α → β) (hi : ∀ a, f' (inv a) = f a) (hg : ∀ a, g a → g' (inv a)) (h : OpZ P t f g) : OpZ P t f' g' := by
  intro w H enc base spare held fuel cs x hx hz
  obtain ⟨a, hK, hga⟩ := h _ _ _ _ _ _ _ _ _ hx hz
  exact ⟨inv a, by rw [hi]; exact hK, hg a hga⟩

end Go.Own
