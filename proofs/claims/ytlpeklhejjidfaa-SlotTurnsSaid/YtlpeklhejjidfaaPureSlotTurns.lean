/- At each place just one position may have its turn (the plain part). -/
import Derived.Test.YtlpeklhejjidfaaSlotLib
import Derived.Test.YtlpeklhejjidfaaPLx13
import Derived.Test.YtlpeklhejjidfaaPLx19
namespace Go.Proofs.Ytlpeklhejjidfaa.Pure
open Go.RowKit Go.Proofs.Ytlpeklhejjidfaa.PL Go.Proofs.YtlpeklhejjidfaaW.PrintWords Go.Proofs.YtlpeklhejjidfaaW.PrintLast Go.Proofs.YtlpeklhejjidfaaW.PrintMore
set_option linter.unusedSimpArgs false
set_option linter.unusedVariables false
theorem turns_l0 {l : List Sl} {p : Int} (c : Ck l) (hp0 : 0 ≤ p) (hp1 : p ≤ 1099511627776) : ∀ (d k : Nat) (i m : Int), 0 ≤ i → (l.length : Int) - i = d → l.length + 2 * d + 2 < k →
    (m = 0 ∧ (∀ j, 0 ≤ j → j < i → p + j * (l.length : Int) ≠ (rd_T49 l (p % (l.length : Int))).f0) ∨ m = 1 ∧ (∃ j, 0 ≤ j ∧ j < i ∧ p + j * (l.length : Int) = (rd_T49 l (p % (l.length : Int))).f0)) →
    sakialaw09_SlotTurns.l0 k l p true m i = some true := by
  have h1 := c.1
  have h2 := c.2.1
  intro d
  induction d with
  | zero =>
    intro k i m h0 hd hk hm
    obtain ⟨k, rfl⟩ : ∃ m, k = m + 1 := ⟨k - 1, by omega⟩
    simp only [sakialaw09_SlotTurns.l0]
    rw [if_neg (by omega), if_pos trivial]
    congr 1
    exact decide_eq_true (by omega)
  | succ d ih =>
    intro k i m h0 hd hk hm
    obtain ⟨k, rfl⟩ : ∃ m, k = m + 2 := ⟨k - 2, by omega⟩
    obtain ⟨g0, g1, g2⟩ := c.2.2 i (by omega) (by omega)
    simp only [sakialaw09_SlotTurns.l0]
    rw [if_pos (by omega), if_pos h0, if_neg (by omega), ready_is c (by omega) g0, g2]
    simp only [Option.bind_some, beq_self_eq_true]
    simp only [sakialaw09_SlotTurns.j2]
    have n0 : 0 ≤ i * (l.length : Int) := Int.mul_nonneg h0 (by omega)
    have n1 : i * (l.length : Int) ≤ 64 * 64 := Int.mul_le_mul (by omega) (by omega) (by omega) (by omega)
    rw [if_neg (by simp), w64 (x := i * (l.length : Int)) (by omega) (by omega), w64 (x := p + i * (l.length : Int)) (by omega) (by omega), ready_is c (by omega) (by omega), Int.add_mul_emod_self_right]
    simp only [Option.bind_some]
    rw [w64 (x := i + 1) (by omega) (by omega)]
    by_cases e : (rd_T49 l (p % (l.length : Int))).f0 = p + i * (l.length : Int)
    · rw [if_pos (by simpa using e)]
      rcases hm with ⟨rfl, hn⟩ | ⟨rfl, j, j0, j1, je⟩
      · rw [w64 (by omega) (by omega)]
        exact ih k (i + 1) 1 (by omega) (by omega) (by omega) (.inr ⟨rfl, i, h0, by omega, e.symm⟩)
      · exfalso
        have h3 : j * (l.length : Int) = i * (l.length : Int) := by omega
        have := Int.eq_of_mul_eq_mul_right (by omega) h3
        omega
    · rw [if_neg (by simpa using e)]
      refine ih k (i + 1) m (by omega) (by omega) (by omega) (hm.imp (fun ⟨a, b⟩ => ⟨a, fun j j0 j1 => ?_⟩) (fun ⟨a, j, j0, j1, je⟩ => ⟨a, j, j0, by omega, je⟩))
      by_cases hj : j = i
      · rw [hj]; exact fun h => e h.symm
      · exact b j j0 (by omega)
theorem SlotTurns : sakialaw09_SlotTurns.Pure := by
  intro l p _ _ _
  refine ⟨400, ?_⟩
  unfold sakialaw09_SlotTurns.f
  rw [sakialaw09_awake.eq_]
  simp only [Option.bind_some]
  have hstop : sakialaw09_SlotTurns.j0 400 l p true true = some true := by
    simp only [sakialaw09_SlotTurns.j0]
    rw [if_pos trivial]
  by_cases hl : (l.length : Int) > 100
  · rw [if_pos hl]; exact hstop
  rw [if_neg hl]
  by_cases c : Ck l
  · have h2 := c.2.1
    rw [check_yes c (by omega)]
    simp only [Option.bind_some]
    rw [if_pos trivial]
    by_cases hp : p < 0
    · rw [if_pos hp]; exact hstop
    rw [if_neg hp]
    by_cases hb : p > 1099511627776
    · rw [decide_eq_true hb]; exact hstop
    · rw [decide_eq_false hb]
      simp only [sakialaw09_SlotTurns.j0]
      rw [if_neg (by simp)]
      exact turns_l0 c (by omega) (by omega) l.length 399 0 0 (by omega) (by omega) (by omega) (.inl ⟨rfl, fun j j0 j1 => by omega⟩)
  · rw [check_no (by omega) c (by omega)]
    exact hstop
end Go.Proofs.Ytlpeklhejjidfaa.Pure
