/- Generic lemmas: whatever reads as data of a type of whole numbers, bools, structs and slices reads as a value of the print's kind. -/
import Derived.ChangeArms
import Derived.Deep.Slices
import Derived.Deep.Fields
import Derived.ChangeSame
import Derived.Test.YtmilniofdpgbnaaWWords
namespace Go.Proofs.YtmilniofdpgbnaaZ
open Go.ChangeShapes Go.WideShapes Go.Deep Go.RowKit Go.Proofs.YtmilniofdpgbnaaW.PrintWords

def Opens {α : Type} (P : Program) (w : World) (t : TypeId) (k : Kd α) (g : α → Prop) : Prop :=
  ∀ (H : Type) (enc : TypeId × Value → H) (base : Nat) (spare : Nat → Bool) (held : Bool) (fuel : Nat) (cs : List Value) (x : DataW H × List MemPlace), DataW.trod enc P w base spare held fuel t cs = some x → ∃ a, k.K w a cs ∧ g a

theorem opens_int {P : Program} {w : World} {t : TypeId} {k : IntKind} (hu : P.underlying t = some (.int k)) : Opens P w t (Kd.int k) (fun n => (Lit.int k n).wf = true) := by
  intro H enc base spare held fuel cs x h
  obtain ⟨n, rfl, _, hw⟩ := DataW.trod_int hu h
  exact ⟨n, rfl, hw⟩

theorem opens_bool {P : Program} {w : World} {t : TypeId} (hu : P.underlying t = some .bool) : Opens P w t Kd.bool (fun _ => True) := by
  intro H enc base spare held fuel cs x h
  obtain ⟨n, rfl, _⟩ := DataW.trod_bool hu h
  exact ⟨n, rfl, trivial⟩

theorem list_choice {α : Type} (Q : Nat → α → Prop) : ∀ n : Nat, (∀ i, i < n → ∃ x, Q i x) → ∃ xs : List α, xs.length = n ∧ ∀ i x, xs[i]? = some x → Q i x
  | 0, _ => ⟨[], rfl, fun i x h => by simp at h⟩
  | n + 1, h => by
    obtain ⟨xs, hl, hx⟩ := list_choice Q n (fun i hi => h i (by omega))
    obtain ⟨y, hy⟩ := h n (by omega)
    refine ⟨xs ++ [y], by simp [hl], fun i x hi => ?_⟩
    by_cases hlt : i < xs.length
    · rw [List.getElem?_append_left hlt] at hi
      exact hx i x hi
    · rw [List.getElem?_append_right (by omega)] at hi
      have : i - xs.length = 0 := by
        by_cases h0 : i - xs.length = 0
        · exact h0
        · obtain ⟨m, hm⟩ : ∃ m, i - xs.length = m + 1 := ⟨i - xs.length - 1, by omega⟩
          rw [hm] at hi
          simp at hi
      rw [this] at hi
      simp at hi
      subst hi
      have : i = n := by omega
      subst this
      exact hy

theorem opens_slice {α : Type} {P : Program} {w : World} {t e : TypeId} {d : Kd α} {g : α → Prop} (hu : P.underlying t = some (.slice e)) (hc : P.cellsOf e = d.sz) (he : Opens P w e d g) :
    Opens P w t (Kd.slice e d) (fun xs => xs.length ≤ maxLen ∧ ∀ x ∈ xs, g x) := by
  intro H enc base spare held fuel cs x h
  rcases open_slice hu h with ⟨rfl, _⟩ | ⟨a, len, cap, m, n, D, Pl, rfl, hb, hl, hm, hmm, _, hi⟩
  · exact ⟨[], ⟨none, 0, rfl, Nat.le_refl _, Kd.C_nil d w⟩, by simp, by simp⟩
  · have hlm : len ≤ m := by
      rw [hmm]
      split
      · exact hl
      · exact Nat.le_refl _
    have key : ∀ i, i < len → ∃ x, (∃ c, c.length = d.sz ∧ d.K w x c ∧ ∀ j u, c[j]? = some u → w.cell? (a.add (i * d.sz + j)) = some u) ∧ g x := by
      intro i hil
      obtain ⟨cs', h1, h2⟩ := hi i (by omega)
      obtain ⟨y, hK, hg⟩ := he _ _ _ _ _ _ _ _ h2
      obtain ⟨_, hcl, hat⟩ := World.cells?_some h1
      refine ⟨y, ⟨cs', d.K_len hK, hK, fun j u hju => ?_⟩, hg⟩
      have hjl : j < cs'.length := by
        rcases Nat.lt_or_ge j cs'.length with h | h
        · exact h
        · rw [List.getElem?_eq_none h] at hju
          cases hju
      have hcell := hat j (by omega)
      rw [hc] at hcell
      rw [← Go.Deep.add_add, hcell, hju]
    obtain ⟨xs, hxl, hxs⟩ := list_choice _ len key
    unfold maxLen at hm
    refine ⟨xs, ⟨some a, cap, by rw [hxl], by omega, ⟨rfl, by omega, fun _ => ⟨a, rfl, fun j p hp => (hxs j p hp).1⟩⟩⟩, by unfold maxLen; omega, fun y hy => ?_⟩
    obtain ⟨i, hil, rfl⟩ := List.getElem_of_mem hy
    exact (hxs i _ (List.getElem?_eq_getElem hil)).2

def OpensF {α : Type} (P : Program) (w : World) (fs : List Field) (off : Nat) (k : Kd α) (g : α → Prop) : Prop :=
  ∀ (H : Type) (enc : TypeId × Value → H) (base : Nat) (spare : Nat → Bool) (held : Bool) (n : Nat) (cs : List Value), (∀ f ∈ fs, ∃ y, DataW.trod enc P w base spare held n f.type ((cs.drop f.offset).take (P.cellsOf f.type)) = some y) → cs.length = off + k.sz → ∃ a, k.K w a (cs.drop off) ∧ g a

theorem opensF_last {α : Type} {P : Program} {w : World} {f : Field} {off : Nat} {k : Kd α} {g : α → Prop} (ho : f.offset = off) (hc : P.cellsOf f.type = k.sz) (h : Opens P w f.type k g) : OpensF P w [f] off k g := by
  intro H enc base spare held n cs hf hl
  obtain ⟨y, hy⟩ := hf f List.mem_cons_self
  rw [ho, hc, List.take_of_length_le (by simp; omega)] at hy
  exact h _ _ _ _ _ _ _ _ hy

theorem opensF_cons {α β : Type} {P : Program} {w : World} {f : Field} {fs : List Field} {off : Nat} {a : Kd α} {b : Kd β} {g : α → Prop} {g' : β → Prop} (ho : f.offset = off) (hc : P.cellsOf f.type = a.sz) (h : Opens P w f.type a g) (hr : OpensF P w fs (off + a.sz) b g') :
    OpensF P w (f :: fs) off (Kd.pair a b) (fun x => g x.1 ∧ g' x.2) := by
  intro H enc base spare held n cs hf hl
  obtain ⟨y, hy⟩ := hf f List.mem_cons_self
  have hsz : (Kd.pair a b).sz = a.sz + b.sz := rfl
  rw [ho, hc] at hy
  obtain ⟨x1, hK1, hg1⟩ := h _ _ _ _ _ _ _ _ hy
  obtain ⟨x2, hK2, hg2⟩ := hr _ enc base spare held n cs (fun f' hf' => hf f' (List.mem_cons_of_mem _ hf')) (by rw [hl, hsz]; omega)
  refine ⟨(x1, x2), ⟨(cs.drop off).take a.sz, cs.drop (off + a.sz), ?_, hK1, hK2⟩, hg1, hg2⟩
  rw [← List.drop_drop, List.take_append_drop]

theorem opens_struct {α : Type} {P : Program} {w : World} {t : TypeId} {fs : Array Field} {k : Kd α} {g : α → Prop} (hu : P.underlying t = some (.struct fs)) (hc : P.cellsOf t = k.sz) (h : OpensF P w fs.toList 0 k g) : Opens P w t k g := by
  intro H enc base spare held fuel cs x hx
  obtain ⟨xs, n, _, _, hlen, hxl, hf⟩ := DataW.trod_struct hu hx
  obtain ⟨a, hK, hg⟩ := h _ enc base spare held n cs (fun f hmem => by
    obtain ⟨i, hi, rfl⟩ := List.getElem_of_mem hmem
    have hi' : i < fs.size := by simpa using hi
    have e := hf i (fs[i]'hi') (Array.getElem?_eq_getElem hi')
    have hx' : xs[i]? = some (xs[i]'(by omega)) := List.getElem?_eq_getElem (by omega)
    exact ⟨_, (by simpa using e.trans hx')⟩) (by omega)
  exact ⟨a, by simpa using hK, hg⟩

theorem opens_iso {α β : Type} {P : Program} {w : World} {t : TypeId} {d : Kd α} {g : α → Prop} (f : β → α) (inv : α → β) (hi : ∀ a, f (inv a) = a) (h : Opens P w t d g) : Opens P w t (Kd.iso d f) (fun b => g (f b)) := by
  intro H enc base spare held fuel cs x hx
  obtain ⟨a, hK, hg⟩ := h _ _ _ _ _ _ _ _ hx
  refine ⟨inv a, ?_, ?_⟩
  · show d.K w (f (inv a)) cs
    rw [hi]
    exact hK
  · show g (f (inv a))
    rw [hi]
    exact hg

theorem slice_cells {a b : Option Addr} {n m c d : Nat} (h : (Value.slice a n c).cells.toList = [.slice b m d]) : a = b ∧ n = m ∧ c = d := by
  have h2 : [Value.slice a n c] = [.slice b m d] := h
  injection h2 with h3 _
  injection h3 with e1 e2 e3
  exact ⟨e1, e2, e3⟩
theorem agg_cells {cs : Array Value} {l : List Value} (h : (Value.agg cs).cells.toList = l) : cs = l.toArray := by
  have h2 : cs.toList = l := h
  rw [← h2]
end Go.Proofs.YtmilniofdpgbnaaZ
