/- What is made of a queue, as plain lists. -/
import Derived.Test.YtmilniofdpgbnaaBase
import Derived.Test.YtmilniofdpgbnaaPLx8
import Derived.Test.YtmilniofdpgbnaaPLx9
import Derived.Test.YtmilniofdpgbnaaPLx10
import Derived.Test.YtmilniofdpgbnaaPLx16
namespace Go.Proofs.Ytmilniofdpgbnaa.Pure
open Go.RowKit Go.Proofs.Ytmilniofdpgbnaa.PL Go.Proofs.YtmilniofdpgbnaaW.PrintWords Go.Proofs.YtmilniofdpgbnaaW.PrintLast Go.Proofs.YtmilniofdpgbnaaW.PrintMore
set_option linter.unusedSimpArgs false
set_option linter.unusedVariables false
theorem own_eq (l : List Int) (a b c : Int) (hl : l.length ≤ 1000) : fifo_own.f l a b c = some (l, a, b, c) := by
  unfold fifo_own.f
  simp only [Option.bind_some, Int.toNat_natCast]
  rw [if_pos (by omega), if_pos (by omega), if_pos (by simp)]
  simp
theorem behind_eq (l : List Int) (a b c n : Int) (hl : l.length ≤ 1000) : fifo_row_behind.f l a b c n = some (l ++ [n], a, b, c) := by
  unfold fifo_row_behind.f
  rw [w64 (by omega) (by omega)]
  simp only [Option.bind_some]
  have e : ((l.length : Int) + 1).toNat = l.length + 1 := by omega
  have hy : l ++ (List.replicate (l.length + 1) (0 : Int)).drop l.length = l ++ [0] := by
    rw [List.drop_replicate, show l.length + 1 - l.length = 1 by omega]; rfl
  rw [e, if_pos (by omega), if_pos (by omega), if_pos (by simp), hy, if_pos (by omega), if_pos (by simp; omega), Int.toNat_natCast, List.set_append_right _ _ (by omega)]
  simp
theorem rest_eq (l : List Int) (a b c : Int) (hl : l.length ≤ 1000) (h0 : 0 < l.length) : fifo_row_rest.f l a b c = some (l.tail, a, b, c) := by
  unfold fifo_row_rest.f
  rw [w64 (by omega) (by omega)]
  simp only [Option.bind_some]
  rw [if_pos (by omega), if_pos (by omega), if_pos (by omega), if_pos (by simp)]
  have h : (List.replicate ((l.length : Int) - 1).toNat (0 : Int)).drop (l.drop 1).length = [] := List.drop_eq_nil_of_le (by simp)
  rw [h, List.append_nil, List.drop_one]
theorem first_eq (l : List Int) (a b c n : Int) : fifo_row_first.f l a b c n = some (decide (l.head? = some n)) := by
  unfold fifo_row_first.f
  cases l with
  | nil => simp
  | cons x t =>
    rw [if_pos (by simp), if_pos (by simp)]
    refine congrArg some ?_
    rw [Bool.eq_iff_iff]
    simp [rd]
theorem ends_eq (l : List Int) (a b c e0 e1 e2 e3 e4 u : Int) : fifo_row_ends.f l a b c e0 e1 e2 e3 e4 u = some (decide ((e3 = 6 ∧ c = 1) ∨ (e3 = 7 ∧ c = 2) ∨ (e3 = 5 ∧ e1 = u))) := by
  unfold fifo_row_ends.f
  repeat' split
  all_goals (refine congrArg some ?_; rw [Bool.eq_iff_iff]; simp only [decide_eq_true_eq, beq_iff_eq, iff_true, true_iff, false_iff, iff_false, Bool.false_eq_true]; omega)
/-- What may be told of a queue, and what is made of it. -/
def stp (l : List Int) (a b c e1 e2 e3 e4 : Int) : Option (List Int × Int) :=
  if e1 = 9 then (if l.head? = some e4 ∧ e3 = 1 ∧ c = 0 ∧ a ≤ l.length ∧ b = 2 then some (l.tail, c) else none)
  else if e1 = 7 then (if e3 = 1 then some (l, if c = 0 then 1 else c) else none)
  else if e1 = 8 then (if e3 = 1 then some (l, 2) else none)
  else if 1 ≤ e1 ∧ e1 ≤ 3 then
    (if e3 = 1 then (if c = 0 ∧ ¬ a ≤ l.length then some (l ++ [e2], c) else none)
    else if (e3 = 2 ∧ e1 = 2 ∧ c = 0 ∧ a ≤ l.length ∧ b = 0) ∨ (e3 = 3 ∧ c = 0 ∧ a ≤ l.length ∧ b = 1) ∨ (e3 = 6 ∧ c = 1) ∨ (e3 = 7 ∧ c = 2) ∨ (e3 = 5 ∧ e1 = 3) then some (l, c) else none)
  else if 4 ≤ e1 ∧ e1 ≤ 6 then
    (if e3 = 1 then (if l.head? = some e4 ∧ c ≠ 2 then some (l.tail, c) else none)
    else if (e3 = 4 ∧ e1 = 5 ∧ c = 0 ∧ l.length = 0) ∨ (e3 = 6 ∧ c = 1 ∧ l.length = 0) ∨ (e3 = 7 ∧ c = 2) ∨ (e3 = 5 ∧ e1 = 6) then some (l, c) else none)
  else none
theorem stp_9 (l : List Int) (a b c e2 e3 e4 : Int) : stp l a b c 9 e2 e3 e4 = if l.head? = some e4 ∧ e3 = 1 ∧ c = 0 ∧ a ≤ l.length ∧ b = 2 then some (l.tail, c) else none := by
  unfold stp; rw [if_pos rfl]
theorem stp_7 (l : List Int) (a b c e2 e3 e4 : Int) : stp l a b c 7 e2 e3 e4 = if e3 = 1 then some (l, if c = 0 then 1 else c) else none := by
  unfold stp; rw [if_neg (by omega), if_pos rfl]
theorem stp_8 (l : List Int) (a b c e2 e3 e4 : Int) : stp l a b c 8 e2 e3 e4 = if e3 = 1 then some (l, 2) else none := by
  unfold stp; rw [if_neg (by omega), if_neg (by omega), if_pos rfl]
theorem stp_send (l : List Int) (a b c e1 e2 e3 e4 : Int) (h : 1 ≤ e1 ∧ e1 ≤ 3) : stp l a b c e1 e2 e3 e4 = if e3 = 1 then (if c = 0 ∧ ¬ a ≤ l.length then some (l ++ [e2], c) else none)
    else if (e3 = 2 ∧ e1 = 2 ∧ c = 0 ∧ a ≤ l.length ∧ b = 0) ∨ (e3 = 3 ∧ c = 0 ∧ a ≤ l.length ∧ b = 1) ∨ (e3 = 6 ∧ c = 1) ∨ (e3 = 7 ∧ c = 2) ∨ (e3 = 5 ∧ e1 = 3) then some (l, c) else none := by
  unfold stp; rw [if_neg (by omega), if_neg (by omega), if_neg (by omega), if_pos h]
theorem stp_recv (l : List Int) (a b c e1 e2 e3 e4 : Int) (h : 4 ≤ e1 ∧ e1 ≤ 6) : stp l a b c e1 e2 e3 e4 = if e3 = 1 then (if l.head? = some e4 ∧ c ≠ 2 then some (l.tail, c) else none)
    else if (e3 = 4 ∧ e1 = 5 ∧ c = 0 ∧ l.length = 0) ∨ (e3 = 6 ∧ c = 1 ∧ l.length = 0) ∨ (e3 = 7 ∧ c = 2) ∨ (e3 = 5 ∧ e1 = 6) then some (l, c) else none := by
  unfold stp; rw [if_neg (by omega), if_neg (by omega), if_neg (by omega), if_neg (by omega), if_pos h]
def RowIs (l : List Int) (a b : Int) (row : Option (List Int × Int × Int × Int × Bool)) (o : Option (List Int × Int)) : Prop :=
  ∃ x y z w m, row = some (x, y, z, w, m) ∧ x.length ≤ l.length + 1 ∧ (m = false → o = none) ∧ (m = true → o = some (x, w) ∧ y = a ∧ z = b)
theorem head_pos {l : List Int} {n : Int} (h : l.head? = some n) : 0 < l.length := by
  cases l with
  | nil => simp at h
  | cons x t => simp
theorem rowIs_of {l x : List Int} {a b w : Int} {m : Bool} {P : Prop} [Decidable P] (hx : x.length ≤ l.length + 1) (hm : m = true ↔ P) : RowIs l a b (some (x, a, b, w, m)) (if P then some (x, w) else none) := by
  refine ⟨x, a, b, w, m, rfl, hx, ?_, ?_⟩
  · intro h
    rw [if_neg (fun p => by have := hm.2 p; rw [h] at this; exact absurd this (by simp))]
  · intro h
    rw [if_pos (hm.1 h)]
    exact ⟨rfl, rfl, rfl⟩
theorem rowIs_no {l x : List Int} {a b w : Int} {P : Prop} [Decidable P] {o : Option (List Int × Int)} (hx : x.length ≤ l.length + 1) (hn : ¬ P) : RowIs l a b (some (x, a, b, w, false)) (if P then o else none) := by
  refine ⟨x, a, b, w, false, rfl, hx, fun _ => by rw [if_neg hn], fun h => by simp at h⟩
theorem evict_is (l : List Int) (a b c e0 e2 e3 e4 : Int) (hl : l.length ≤ 900) : RowIs l a b (fifo_row_evict.f l a b c e0 9 e2 e3 e4) (stp l a b c 9 e2 e3 e4) := by
  rw [stp_9]
  unfold fifo_row_evict.f fifo_row_open.f fifo_row_full.f
  simp only [first_eq, Option.bind_some]
  by_cases h : l.head? = some e4
  · rw [if_pos (decide_eq_true h), rest_eq l a b c (by omega) (head_pos h)]
    simp only [Option.bind_some]
    by_cases h3 : e3 = 1
    · rw [if_pos h3]
      by_cases c0 : c = 0
      · rw [if_pos (by simp [c0])]
        by_cases f : a ≤ (l.length : Int)
        · rw [if_pos (by simp; omega)]
          exact rowIs_of (by simp; omega) (by simp [h, h3, c0, f])
        · rw [if_neg (by simp; omega)]
          exact rowIs_no (by simp; omega) (by simp [f])
      · rw [if_neg (by simp [c0])]
        exact rowIs_no (by simp; omega) (by simp [c0])
    · rw [if_neg h3]
      exact rowIs_no (by simp; omega) (by simp [h3])
  · rw [if_neg (by simp [h])]
    exact rowIs_no (by omega) (by simp [h])
theorem drain_is (l : List Int) (a b c e0 e2 e3 e4 : Int) : RowIs l a b (fifo_row_drain.f l a b c e0 7 e2 e3 e4) (stp l a b c 7 e2 e3 e4) := by
  rw [stp_7]
  unfold fifo_row_drain.f fifo_row_open.f
  simp only [Option.bind_some]
  by_cases c0 : c = 0
  · rw [if_pos (by simp [c0]), if_pos c0]
    exact rowIs_of (by omega) (by simp)
  · rw [if_neg (by simp [c0]), if_neg c0]
    exact rowIs_of (by omega) (by simp)
theorem halt_is (l : List Int) (a b c e0 e2 e3 e4 : Int) : RowIs l a b (fifo_row_halt.f l a b c e0 8 e2 e3 e4) (stp l a b c 8 e2 e3 e4) := by
  rw [stp_8]
  unfold fifo_row_halt.f
  exact rowIs_of (by omega) (by simp)
theorem send_is (l : List Int) (a b c e0 e1 e2 e3 e4 : Int) (hl : l.length ≤ 900) (h1 : 1 ≤ e1 ∧ e1 ≤ 3) : RowIs l a b (fifo_row_send.f l a b c e0 e1 e2 e3 e4) (stp l a b c e1 e2 e3 e4) := by
  rw [stp_send _ _ _ _ _ _ _ _ h1]
  unfold fifo_row_send.f fifo_row_open.f fifo_row_full.f
  simp only [ends_eq, Option.bind_some]
  by_cases r1 : e3 = 1
  · rw [if_pos r1, if_pos r1, behind_eq l a b c e2 (by omega)]
    simp only [Option.bind_some]
    by_cases c0 : c = 0
    · rw [if_pos (by simp [c0])]
      exact rowIs_of (by simp) (by simp; omega)
    · rw [if_neg (by simp [c0])]
      exact rowIs_no (by simp) (by omega)
  rw [if_neg r1, if_neg r1]
  by_cases r2 : e3 = 2
  · rw [if_pos r2]
    by_cases k2 : e1 = 2
    · rw [if_pos k2]
      by_cases c0 : c = 0
      · rw [if_pos (by simp [c0])]
        by_cases f : a ≤ (l.length : Int)
        · rw [if_pos (by simp; omega)]
          exact rowIs_of (by omega) (by simp only [beq_iff_eq]; omega)
        · rw [if_neg (by simp; omega)]
          exact rowIs_no (by omega) (by omega)
      · rw [if_neg (by simp [c0])]
        exact rowIs_no (by omega) (by omega)
    · rw [if_neg k2]
      exact rowIs_no (by omega) (by omega)
  rw [if_neg r2]
  by_cases r3 : e3 = 3
  · rw [if_pos r3]
    by_cases c0 : c = 0
    · rw [if_pos (by simp [c0])]
      by_cases f : a ≤ (l.length : Int)
      · rw [if_pos (by simp; omega)]
        exact rowIs_of (by omega) (by simp only [beq_iff_eq]; omega)
      · rw [if_neg (by simp; omega)]
        exact rowIs_no (by omega) (by omega)
    · rw [if_neg (by simp [c0])]
      exact rowIs_no (by omega) (by omega)
  rw [if_neg r3]
  exact rowIs_of (by omega) (by simp only [decide_eq_true_eq]; omega)
theorem recv_is (l : List Int) (a b c e0 e1 e2 e3 e4 : Int) (hl : l.length ≤ 900) (h1 : 4 ≤ e1 ∧ e1 ≤ 6) : RowIs l a b (fifo_row_recv.f l a b c e0 e1 e2 e3 e4) (stp l a b c e1 e2 e3 e4) := by
  rw [stp_recv _ _ _ _ _ _ _ _ h1]
  unfold fifo_row_recv.f fifo_row_open.f
  simp only [ends_eq, first_eq, Option.bind_some]
  by_cases r1 : e3 = 1
  · rw [if_pos r1, if_pos r1]
    by_cases h : l.head? = some e4
    · rw [if_pos (decide_eq_true h), rest_eq l a b c (by omega) (head_pos h)]
      simp only [Option.bind_some]
      exact rowIs_of (by simp; omega) (by simp [h])
    · rw [if_neg (by simp [h])]
      exact rowIs_no (by omega) (by simp [h])
  rw [if_neg r1, if_neg r1]
  by_cases r4 : e3 = 4
  · rw [if_pos r4]
    by_cases k5 : e1 = 5
    · rw [if_pos k5]
      by_cases c0 : c = 0
      · rw [if_pos (by simp [c0])]
        exact rowIs_of (by omega) (by simp only [beq_iff_eq]; omega)
      · rw [if_neg (by simp [c0])]
        exact rowIs_no (by omega) (by omega)
    · rw [if_neg k5]
      exact rowIs_no (by omega) (by omega)
  rw [if_neg r4]
  by_cases r6 : e3 = 6
  · rw [if_pos r6]
    by_cases g : (l.length : Int) > 0
    · rw [if_pos g]
      exact rowIs_no (by omega) (by omega)
    · rw [if_neg g]
      exact rowIs_of (by omega) (by simp only [decide_eq_true_eq]; omega)
  rw [if_neg r6]
  exact rowIs_of (by omega) (by simp only [decide_eq_true_eq]; omega)
def doR (l : List Int) (a b c e1 e2 e3 e4 : Int) : List Int × Int × Int × Int × Bool :=
  match stp l a b c e1 e2 e3 e4 with
  | some (l', c') => (l', a, b, c', true)
  | none => (l, a, b, c, false)
theorem do_of {l : List Int} {a b c e0 e1 e2 e3 e4 : Int} (hl : l.length ≤ 900) (hb : 1 ≤ e1 ∧ e1 ≤ 9) (h : RowIs l a b (fifo_Do.row l a b c e0 e1 e2 e3 e4) (stp l a b c e1 e2 e3 e4)) : fifo_Do.f l a b c e0 e1 e2 e3 e4 = some (doR l a b c e1 e2 e3 e4) := by
  obtain ⟨x, y, z, w, m, hr, hx, h0, h1⟩ := h
  unfold fifo_Do.f doR
  rw [if_pos hb, hr]
  simp only [Option.bind_some]
  cases m with
  | false =>
    rw [if_pos rfl, own_eq l a b c (by omega), h0 rfl]
    rfl
  | true =>
    obtain ⟨ho, rfl, rfl⟩ := h1 rfl
    rw [if_neg (by simp), own_eq x y z w (by omega), ho]
    rfl
theorem do_eq (l : List Int) (a b c e0 e1 e2 e3 e4 : Int) (hl : l.length ≤ 900) : fifo_Do.f l a b c e0 e1 e2 e3 e4 = some (doR l a b c e1 e2 e3 e4) := by
  by_cases hb : 1 ≤ e1 ∧ e1 ≤ 9
  · refine do_of hl hb ?_
    unfold fifo_Do.row
    by_cases h9 : e1 = 9
    · subst h9; rw [if_pos rfl]; exact evict_is _ _ _ _ _ _ _ _ hl
    rw [if_neg h9]
    by_cases h7 : e1 = 7
    · subst h7; rw [if_pos rfl]; exact drain_is _ _ _ _ _ _ _ _
    rw [if_neg h7]
    by_cases h8 : e1 = 8
    · subst h8; rw [if_pos rfl]; exact halt_is _ _ _ _ _ _ _ _
    rw [if_neg h8]
    by_cases h3 : e1 ≤ 3
    · rw [if_pos h3]; exact send_is _ _ _ _ _ _ _ _ _ hl ⟨hb.1, h3⟩
    · rw [if_neg h3]; exact recv_is _ _ _ _ _ _ _ _ _ hl (by omega)
  · unfold fifo_Do.f doR
    rw [if_neg hb, own_eq l a b c (by omega)]
    have : stp l a b c e1 e2 e3 e4 = none := by
      unfold stp
      rw [if_neg (by omega), if_neg (by omega), if_neg (by omega), if_neg (by omega), if_neg (by omega)]
    rw [this]
    rfl
theorem stp_len {l : List Int} {a b c e1 e2 e3 e4 : Int} {l' : List Int} {c' : Int} (h : stp l a b c e1 e2 e3 e4 = some (l', c')) : l'.length ≤ l.length + 1 := by
  unfold stp at h
  repeat' split at h
  all_goals first | (simp at h; done) | (simp only [Option.some.injEq, Prod.mk.injEq] at h; obtain ⟨rfl, _⟩ := h; simp; try omega)
/-- Some are told as far as each may be. -/
def run (a b : Int) : List Int → Int → List S30 → List Int × Int × Nat
  | l, c, [] => (l, c, 0)
  | l, c, e :: es => match stp l a b c e.f1 e.f2 e.f3 e.f4 with
    | none => (l, c, 0)
    | some (l', c') => ((run a b l' c' es).1, (run a b l' c' es).2.1, (run a b l' c' es).2.2 + 1)
theorem run_le (a b : Int) : ∀ (es : List S30) (l : List Int) (c : Int), (run a b l c es).2.2 ≤ es.length ∧ (run a b l c es).1.length ≤ l.length + es.length := by
  intro es
  induction es with
  | nil => intro l c; simp [run]
  | cons e es ih =>
    intro l c
    unfold run
    split
    · simp only [List.length_cons]; omega
    · rename_i l' c' h
      have h1 := ih l' c'
      have h2 := stp_len h
      simp only [List.length_cons]
      omega
theorem drop_rd30 (l : List S30) (i : Nat) (h1 : i < l.length) : l.drop i = rd_T30 l (i : Int) :: l.drop (i + 1) := by
  unfold rd_T30
  rw [Int.toNat_natCast, List.getD_eq_getElem?_getD, List.getElem?_eq_getElem h1, List.drop_eq_getElem_cons h1]
  rfl
theorem all_l0 (a b : Int) (es : List S30) (he : es.length ≤ 300) : ∀ (d k i : Nat) (l : List Int) (c : Int), es.length = i + d → d < k → l.length + d ≤ 800 →
    fifo_All.l0 k es es (es.length : Int) (i : Int) l a b c = some ((run a b l c (es.drop i)).1, a, b, (run a b l c (es.drop i)).2.1, ((i + (run a b l c (es.drop i)).2.2 : Nat) : Int)) := by
  intro d
  induction d with
  | zero =>
    intro k i l c h0 hk hl
    obtain ⟨k, rfl⟩ : ∃ m, k = m + 1 := ⟨k - 1, by omega⟩
    simp only [fifo_All.l0]
    rw [if_neg (by omega), List.drop_eq_nil_of_le (by omega)]
    simp only [run]
    rw [h0]
  | succ d ih =>
    intro k i l c h0 hk hl
    obtain ⟨k, rfl⟩ : ∃ m, k = m + 1 := ⟨k - 1, by omega⟩
    simp only [fifo_All.l0]
    rw [if_pos (by omega), if_pos (by omega), if_pos (by omega), do_eq _ _ _ _ _ _ _ _ _ (by omega), drop_rd30 es i (by omega)]
    simp only [Option.bind_some]
    generalize rd_T30 es (i : Int) = e
    unfold doR
    conv => rhs; unfold run
    cases h : stp l a b c e.f1 e.f2 e.f3 e.f4 with
    | none =>
      simp
    | some p =>
      obtain ⟨l', c'⟩ := p
      simp only [if_pos]
      rw [w64 (by omega) (by omega)]
      have h2 := stp_len h
      have h3 := ih k (i + 1) l' c' (by omega) (by omega) (by omega)
      rw [Int.natCast_add] at h3
      rw [show ((i : Int) + 1) = (i : Int) + ((1 : Nat) : Int) from rfl, h3]
      simp only [Option.some.injEq, Prod.mk.injEq, true_and]
      omega
theorem all_eq (a b : Int) (es : List S30) (l : List Int) (c : Int) (k : Nat) (he : es.length ≤ 300) (hl : l.length ≤ 400) (hk : es.length < k) : fifo_All.f k l a b c es = some ((run a b l c es).1, a, b, (run a b l c es).2.1, ((run a b l c es).2.2 : Int)) := by
  unfold fifo_All.f
  rw [own_eq l a b c (by omega)]
  simp only [Option.bind_some]
  have h := all_l0 a b es he es.length k 0 l c (by omega) hk (by omega)
  simp only [List.drop_zero, Nat.zero_add] at h
  exact h
theorem ints_l0 (l : List Int) (hl : l.length ≤ 1000) : ∀ (d k : Nat) (i : Int), 0 ≤ i → (l.length : Int) - i = d → d < k → sakiaref03_Ints.l0 k l l i = some true := by
  intro d
  induction d with
  | zero =>
    intro k i h0 hd hk
    obtain ⟨k, rfl⟩ : ∃ m, k = m + 1 := ⟨k - 1, by omega⟩
    simp only [sakiaref03_Ints.l0]
    rw [if_neg (by omega)]
  | succ d ih =>
    intro k i h0 hd hk
    obtain ⟨k, rfl⟩ : ∃ m, k = m + 1 := ⟨k - 1, by omega⟩
    simp only [sakiaref03_Ints.l0]
    rw [if_pos (by omega), if_pos h0, if_pos (by omega), if_pos trivial, w64 (by omega) (by omega)]
    exact ih k (i + 1) (by omega) (by omega) (by omega)
theorem ints_self (l : List Int) (k : Nat) (hl : l.length ≤ 1000) (hk : l.length < k) : sakiaref03_Ints.f k l l = some true := by
  unfold sakiaref03_Ints.f
  rw [if_pos rfl]
  exact ints_l0 l hl l.length k 0 (by omega) (by omega) hk
theorem same_self (l : List Int) (a b c : Int) (k : Nat) (hl : l.length ≤ 1000) (hk : l.length < k) : sakiaref03_Same.f k l a b c l a b c = some true := by
  unfold sakiaref03_Same.f
  rw [ints_self l k hl hk]
  simp
end Go.Proofs.Ytmilniofdpgbnaa.Pure
