/- A halted queue stays, a draining one only gets less (the plain part). -/
import Derived.Test.YtmilniofdpgbnaaFifoLib
import Derived.Test.YtmilniofdpgbnaaPLx11
import Derived.Test.YtmilniofdpgbnaaPLx23
namespace Go.Proofs.Ytmilniofdpgbnaa.Pure
open Go.RowKit Go.Proofs.Ytmilniofdpgbnaa.PL Go.Proofs.YtmilniofdpgbnaaW.PrintWords Go.Proofs.YtmilniofdpgbnaaW.PrintLast Go.Proofs.YtmilniofdpgbnaaW.PrintMore
set_option linter.unusedSimpArgs false
set_option linter.unusedVariables false
theorem stp_halted {l : List Int} {a b e1 e2 e3 e4 : Int} {l' : List Int} {c' : Int} (h : stp l a b 2 e1 e2 e3 e4 = some (l', c')) : l' = l ∧ c' = 2 := by
  unfold stp at h
  repeat' split at h
  all_goals first | (simp at h; done) | (simp only [Option.some.injEq, Prod.mk.injEq] at h; obtain ⟨rfl, rfl⟩ := h; exact ⟨rfl, rfl⟩) | (exfalso; omega) | (exfalso; rename_i hx; exact absurd hx.2 (by simp)) | (exfalso; rename_i hx; have := hx.2.2.1; omega)
theorem run_halted (a b : Int) : ∀ (es : List S30) (l : List Int), (run a b l 2 es).1 = l ∧ (run a b l 2 es).2.1 = 2 := by
  intro es
  induction es with
  | nil => intro l; exact ⟨rfl, rfl⟩
  | cons e es ih =>
    intro l
    unfold run
    split
    · exact ⟨rfl, rfl⟩
    · rename_i l' c' h
      obtain ⟨rfl, rfl⟩ := stp_halted h
      exact ih l'
theorem stp_draining {l : List Int} {a b c e1 e2 e3 e4 : Int} {l' : List Int} {c' : Int} (hc : 1 ≤ c) (h : stp l a b c e1 e2 e3 e4 = some (l', c')) : 1 ≤ c' ∧ ∃ m, m ≤ l.length ∧ l' = l.drop m := by
  have fin : ∀ (x : List Int) (y : Int), 1 ≤ y → (x = l ∨ (x = l.tail ∧ 0 < l.length)) → some (x, y) = some (l', c') → 1 ≤ c' ∧ ∃ m, m ≤ l.length ∧ l' = l.drop m := by
    intro x y hy hx e
    simp only [Option.some.injEq, Prod.mk.injEq] at e
    obtain ⟨rfl, rfl⟩ := e
    refine ⟨hy, ?_⟩
    obtain rfl | ⟨rfl, hp⟩ := hx
    · exact ⟨0, by omega, rfl⟩
    · exact ⟨1, hp, (List.drop_one).symm⟩
  unfold stp at h
  repeat' split at h
  all_goals first | (simp at h; done) | (rename_i hx; exact fin _ _ hc (.inr ⟨rfl, head_pos hx.1⟩) h) | (exact fin _ _ hc (.inl rfl) h) | (exact fin _ _ (by decide) (.inl rfl) h) | (exfalso; omega)
theorem run_draining (a b : Int) : ∀ (es : List S30) (l : List Int) (c : Int), 1 ≤ c → 1 ≤ (run a b l c es).2.1 ∧ ∃ m, m ≤ l.length ∧ (run a b l c es).1 = l.drop m := by
  intro es
  induction es with
  | nil => intro l c hc; exact ⟨hc, 0, by omega, rfl⟩
  | cons e es ih =>
    intro l c hc
    unfold run
    split
    · exact ⟨hc, 0, by omega, rfl⟩
    · rename_i l' c' h
      obtain ⟨h1, m, hm, rfl⟩ := stp_draining hc h
      obtain ⟨h2, m2, hm2, e2⟩ := ih (l.drop m) c' h1
      rw [List.length_drop] at hm2
      refine ⟨h2, m + m2, by omega, ?_⟩
      rw [e2, List.drop_drop]
theorem FifoEnds : sakialaw03_FifoEnds.Pure := by
  intro l a b c es _ _ _
  refine ⟨400, ?_⟩
  unfold sakialaw03_FifoEnds.f
  rw [sakialaw03_awake.eq_]
  simp only [Option.bind_some]
  have hstop : sakialaw03_FifoEnds.j0 400 es true true l a b c = some true := by
    rw [show (400 : Nat) = 399 + 1 from rfl, sakialaw03_FifoEnds.j0, if_pos rfl]
  by_cases hl : (l.length : Int) > 100
  · rw [if_pos hl]; exact hstop
  rw [if_neg hl]
  by_cases he : (es.length : Int) > 100
  · rw [decide_eq_true he]; exact hstop
  rw [decide_eq_false he, show (400 : Nat) = 399 + 1 from rfl, sakialaw03_FifoEnds.j0, if_neg (by simp), all_eq a b es l 2 399 (by omega) (by omega) (by omega), all_eq a b es l 1 399 (by omega) (by omega) (by omega)]
  simp only [Option.bind_some]
  obtain ⟨h1, h2⟩ := run_halted a b es l
  obtain ⟨h3, m, hm, h4⟩ := run_draining a b es l 1 (by omega)
  rw [h1, h2, h4, if_pos trivial, same_self _ _ _ _ _ (by omega) (by omega)]
  simp only [Option.bind_some, List.length_drop]
  rw [if_pos trivial, if_pos (by omega), if_pos h3, w64 (by omega) (by omega), if_pos (by omega), if_pos (by omega), show ((l.length : Int) - ((l.length - m : Nat) : Int)).toNat = m by omega, ints_self _ _ (by rw [List.length_drop]; omega) (by rw [List.length_drop]; omega)]
  rfl
end Go.Proofs.Ytmilniofdpgbnaa.Pure
