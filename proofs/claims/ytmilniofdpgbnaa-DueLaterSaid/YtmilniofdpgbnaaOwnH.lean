/- The abstract heap: what is written, and that what is told of memory stays true. -/
import Derived.Test.YtmilniofdpgbnaaOwnR
set_option linter.unusedVariables false
set_option linter.unusedSimpArgs false
namespace Go.Own
open Go

theorem getElem?_setAt (H : Heap) (id : Nat) (o : AObj) (x : Nat) : (setAt H id o)[x]? = if x = id then some (some o) else if x < H.length then H[x]? else if x < id then some none else none := by
  induction H generalizing id x with
  | nil =>
    simp only [setAt, List.length_nil, Nat.not_lt_zero, if_false]
    by_cases h : x = id
    · subst h; simp
    · rw [if_neg h]
      by_cases h2 : x < id
      · rw [if_pos h2, List.getElem?_append_left (by simpa using h2)]
        simp [h2]
      · rw [if_neg h2, List.getElem?_eq_none]
        simp; omega
  | cons y H ih =>
    cases id with
    | zero =>
      cases x with
      | zero => simp [setAt]
      | succ x =>
        simp only [setAt, List.getElem?_cons_succ, List.length_cons]
        by_cases h : x < H.length
        · simp [h]
        · simp [h]
    | succ id =>
      cases x with
      | zero => simp [setAt]
      | succ x =>
        simp only [setAt, List.getElem?_cons_succ, List.length_cons, ih]
        by_cases h : x = id
        · simp [h]
        · by_cases h2 : x < H.length
          · simp [h, h2]
          · simp [h, h2]

theorem Heap.at_setAt (H : Heap) (id : Nat) (o : AObj) (x : Nat) : Heap.at (setAt H id o) x = if x = id then some o else H.at x := by
  unfold Heap.at
  rw [getElem?_setAt]
  by_cases h : x = id
  · simp [h]
  · simp only [h, if_false]
    by_cases h2 : x < H.length
    · simp [h2]
    · have h3 : H[x]? = none := List.getElem?_eq_none (by omega)
      by_cases h4 : x < id <;> simp [h2, h3, h4]

/-- One object is written: one that is new, or the same place with another content. -/
theorem HeapOK.write {w0 : Base} {H : Heap} {c c' : Cx} (h : HeapOK w0 H c) (id : Nat) (o : AObj) (p : Place) (hle : c.le c') (hS : ∀ b, c'.S b → c.S b)
    (hπ : c'.π id = some p) (hother : ∀ x, x ≠ id → c'.π x = c.π x)
    (hrest : ∀ x q, x ≠ id → Live H c x q → c'.w.heap[q.b]? = c.w.heap[q.b]?)
    (hobj : ObjAt c' o p)
    (hmem : Mem o p → w0.heap.size ≤ p.b ∧ p.b < c'.w.heap.size ∧ ¬ c.S p.b ∧ ∀ x q, x ≠ id → Live H c x q → q.b ≠ p.b)
    (hkept : ∀ b, b < w0.heap.size → c'.w.heap[b]? = c.w.heap[b]?) : HeapOK w0 (setAt H id o) c' := by
  have hlive : ∀ x q, Live (setAt H id o) c' x q → (x = id ∧ q = p ∧ Mem o p) ∨ (x ≠ id ∧ Live H c x q) := by
    rintro x q ⟨o', ho, hp, hm⟩
    rw [Heap.at_setAt] at ho
    by_cases hx : x = id
    · subst hx
      simp at ho
      subst ho
      rw [hπ] at hp
      cases hp
      exact .inl ⟨rfl, rfl, hm⟩
    · rw [if_neg hx] at ho
      exact .inr ⟨hx, o', ho, by rw [← hother x hx]; exact hp, hm⟩
  refine ⟨?_, ?_, ?_, ?_, ?_, ?_, ?_, fun b hb => h.born b (hS b hb)⟩
  · intro x o' ho
    rw [Heap.at_setAt] at ho
    by_cases hx : x = id
    · subst hx
      simp at ho
      subst ho
      exact ⟨p, hπ, hobj⟩
    · rw [if_neg hx] at ho
      obtain ⟨q, hq, hoq⟩ := h.obj x o' ho
      exact ⟨q, by rw [hother x hx, hq], hoq.mono hle fun hm => hrest x q hx ⟨o', ho, hq, hm⟩⟩
  · intro x y q r hx hy hne
    rcases hlive x q hx with ⟨rfl, rfl, hm⟩ | ⟨hx1, hx2⟩ <;> rcases hlive y r hy with ⟨hy0, hyr, hm'⟩ | ⟨hy1, hy2⟩
    · exact absurd hy0.symm hne
    · exact fun e => (hmem hm).2.2.2 y r hy1 hy2 e.symm
    · subst hy0 hyr
      exact (hmem hm').2.2.2 x q hx1 hx2
    · exact h.apart x y q r hx2 hy2 hne
  · intro x q hx
    rcases hlive x q hx with ⟨rfl, rfl, hm⟩ | ⟨hx1, hx2⟩
    · obtain ⟨h1, h2, h3, _⟩ := hmem hm
      exact ⟨h1, h2, fun hs => h3 (hS _ hs)⟩
    · obtain ⟨h1, h2, h3⟩ := h.out x q hx2
      exact ⟨h1, Nat.lt_of_lt_of_le h2 hle.size, fun hs => h3 (hS _ hs)⟩
  · intro x hx
    rw [Heap.at_setAt] at hx
    by_cases hxi : x = id
    · simp [hxi] at hx
    · rw [if_neg hxi] at hx
      rw [hother x hxi]
      exact h.free x hx
  · intro b hb
    exact Nat.lt_of_lt_of_le (h.stable b (hS b hb)) hle.size
  · intro b hb
    rw [hkept b hb, h.kept b hb]
  · exact Nat.le_trans h.grown hle.size

/-- The context with another world, and one place more. -/
def Cx.with (c : Cx) (w : World) : Cx := ⟨w, c.π, c.S⟩
def Cx.putAt (c : Cx) (w : World) (id : Nat) (p : Place) : Cx := ⟨w, fun x => if x = id then some p else c.π x, c.S⟩

theorem heap_push_old (w : World) (o : Obj) {b : Nat} (h : b < w.heap.size) : ({ w with heap := w.heap.push o } : World).heap[b]? = w.heap[b]? := by
  show (w.heap.push o)[b]? = _
  rw [Array.getElem?_push]
  rw [if_neg (by omega)]

theorem heap_push_new (w : World) (o : Obj) : ({ w with heap := w.heap.push o } : World).heap[w.heap.size]? = some o := by
  show (w.heap.push o)[w.heap.size]? = _
  simp

theorem le_push {w0 : Base} {H : Heap} {c : Cx} (h : HeapOK w0 H c) (o : Obj) (id : Nat) (p : Place) (hn : c.π id = none) : c.le (c.putAt { c.w with heap := c.w.heap.push o } id p) := by
  refine ⟨?_, fun _ h => h, ?_, ?_, rfl, rfl, rfl⟩
  · intro x q hx
    show (if x = id then some p else c.π x) = some q
    rw [if_neg (by rintro rfl; rw [hn] at hx; cases hx)]
    exact hx
  · intro b hb
    exact heap_push_old _ _ (h.stable b hb)
  · show _ ≤ (c.w.heap.push o).size
    simp

/-- A new object in a new block. -/
theorem HeapOK.alloc {w0 : Base} {H : Heap} {c : Cx} (h : HeapOK w0 H c) (id : Nat) (o : AObj) (ob : Obj) (p : Place) (hid : H.at id = none) (hpb : p.b = c.w.heap.size)
    (hobj : ObjAt (c.putAt { c.w with heap := c.w.heap.push ob } id p) o p) : HeapOK w0 (setAt H id o) (c.putAt { c.w with heap := c.w.heap.push ob } id p) := by
  have hn := h.free id hid
  have hle := le_push h ob id p hn
  refine h.write id o p hle (fun _ h => h) (by simp [Cx.putAt]) (fun x hx => by simp [Cx.putAt, hx]) ?_ hobj ?_ ?_
  · intro x q _ hl
    exact heap_push_old _ _ (h.out x q hl).2.1
  · intro _
    refine ⟨by rw [hpb]; exact h.grown, ?_, ?_, ?_⟩
    · show p.b < (c.w.heap.push ob).size
      rw [hpb]; simp
    · intro hs
      have := h.stable _ hs
      omega
    · intro x q _ hl
      have := (h.out x q hl).2.1
      omega
  · intro b hb
    exact heap_push_old _ _ (Nat.lt_of_lt_of_le hb h.grown)

/-- Worlds whose memory is the same. -/
theorem HeapOK.same {w0 : Base} {H : Heap} {c : Cx} (h : HeapOK w0 H c) (w : World) (hw : w.heap = c.w.heap) (hrs : Rest c.w w) : HeapOK w0 H (c.with w) ∧ c.le (c.with w) := by
  have hle : c.le (c.with w) := ⟨fun _ _ h => h, fun _ h => h, fun b _ => by simp [Cx.with, hw], by simp [Cx.with, hw], hrs⟩
  refine ⟨⟨?_, ?_, ?_, h.free, ?_, ?_, ?_, h.born⟩, hle⟩
  · intro x o ho
    obtain ⟨q, hq, hoq⟩ := h.obj x o ho
    exact ⟨q, hq, hoq.mono hle fun _ => by simp [Cx.with, hw]⟩
  · exact fun x y q r hx hy => h.apart x y q r hx hy
  · intro x q hx
    have := h.out x q hx
    simpa [Cx.with, hw] using this
  · intro b hb
    have := h.stable b hb
    simpa [Cx.with, hw] using this
  · intro b hb
    simpa [Cx.with, hw] using h.kept b hb
  · simpa [Cx.with, hw] using h.grown

/-- An object that is forgotten. -/
theorem HeapOK.drop {w0 : Base} {H : Heap} {c : Cx} (h : HeapOK w0 H c) (id : Nat) {o : AObj} (hid : H.at id = some o) : HeapOK w0 (setAt H id .dead) c := by
  obtain ⟨p, hp, _⟩ := h.obj id o hid
  exact h.write id .dead p (Cx.le.refl c) (fun _ h => h) hp (fun _ _ => rfl) (fun _ _ _ _ => rfl) trivial (fun hm => hm.elim) (fun _ _ => rfl)

/-- The content of one object in its block. -/
theorem HeapOK.store {w0 : Base} {H : Heap} {c : Cx} (h : HeapOK w0 H c) (id : Nat) {o : AObj} {p : Place} (o' : AObj) (w : World) (hrs : Rest c.w w) (hid : H.at id = some o) (hp : c.π id = some p) (hm : Mem o p)
    (hsize : w.heap.size = c.w.heap.size) (hw : ∀ b, b ≠ p.b → w.heap[b]? = c.w.heap[b]?) (hobj : c.le (c.with w) → ObjAt (c.with w) o' p) : HeapOK w0 (setAt H id o') (c.with w) ∧ c.le (c.with w) := by
  have hl : Live H c id p := ⟨o, hid, hp, hm⟩
  obtain ⟨h1, h2, h3⟩ := h.out id p hl
  have hle : c.le (c.with w) := ⟨fun _ _ h => h, fun _ h => h, fun b hb => hw b fun e => h3 (e ▸ hb), Nat.le_of_eq hsize.symm, hrs⟩
  refine ⟨h.write id o' p hle (fun _ h => h) hp (fun _ _ => rfl) ?_ (hobj hle) ?_ ?_, hle⟩
  · intro x q hx hq
    exact hw q.b (h.apart x id q p hq hl hx)
  · intro _
    exact ⟨h1, by show p.b < w.heap.size; omega, h3, fun x q hx hq => h.apart x id q p hq hl hx⟩
  · intro b hb
    exact hw b (by omega)

end Go.Own
