/- What is sent, and received, is so by the queue, too (the plain part). -/
import Derived.Test.YtlhaghkepnfajaaOpRef
import Derived.Test.YtlhaghkepnfajaaPLx11
import Derived.Test.YtlhaghkepnfajaaPLx10
namespace Go.Proofs.Ytlhaghkepnfajaa.Pure
open Go.RowKit Go.Proofs.Ytlhaghkepnfajaa.PL Go.Proofs.YtlhaghkepnfajaaW.PrintWords Go.Proofs.YtlhaghkepnfajaaW.PrintLast Go.Proofs.YtlhaghkepnfajaaW.PrintMore
set_option linter.unusedSimpArgs false
set_option linter.unusedVariables false
theorem three_or (a x y z : Int) (p : Prop) [Decidable p] (h : (a = x ∨ a = y ∨ a = z) ↔ p) : (if a = x then some true else (if a = y then some true else some (a == z))) = some (decide p) := by
  by_cases h1 : a = x
  · rw [if_pos h1]; exact congrArg some (decide_eq_true (h.1 (.inl h1))).symm
  rw [if_neg h1]
  by_cases h2 : a = y
  · rw [if_pos h2]; exact congrArg some (decide_eq_true (h.1 (.inr (.inl h2)))).symm
  rw [if_neg h2, Bool.beq_eq_decide_eq]
  exact congrArg some (decide_eq_decide.2 (by rw [← h]; omega))
theorem sends_eq (a : Int) : fifo_Sends.f a = some (decide (1 ≤ a ∧ a ≤ 3)) := three_or a 1 2 3 _ (by omega)
theorem recvs_eq (a : Int) : fifo_Recvs.f a = some (decide (4 ≤ a ∧ a ≤ 6)) := three_or a 4 5 6 _ (by omega)
theorem sidev_0 (a : Int) : decide (1 ≤ a ∧ a ≤ 8) = (sidev a != 0) := by
  by_cases h : 1 ≤ a ∧ a ≤ 8
  · rw [decide_eq_true h]
    have := (sidev_pos a).2 h
    have h2 : (sidev a == 0) = false := beq_eq_false_iff_ne.2 (by omega)
    show _ = !(sidev a == 0)
    rw [h2]; rfl
  · rw [decide_eq_false h]
    have h1 : ¬ sidev a > 0 := fun x => h ((sidev_pos a).1 x)
    have h2 : sidev a = 0 := by unfold sidev at h1 ⊢; repeat' split
                                all_goals omega
    rw [h2]; rfl
theorem OpSides : sakialaw11_OpSides.Pure := by
  intro a _
  refine ⟨4, ?_⟩
  unfold sakialaw11_OpSides.f
  rw [upOp 0, side_eq, sends_eq, recvs_eq, opcheck_eq, sidev_0]
  simp only [Option.bind_some, if_true, sidev_1, sidev_2, beq_self_eq_true, timed_eq, once_eq]
  by_cases h1 : a = 3 ∨ a = 6
  · have e : sidev a = 1 ∨ sidev a = 2 := by
      rcases h1 with rfl | rfl
      · exact .inl (by decide)
      · exact .inr (by decide)
    rw [if_pos (decide_eq_true h1), if_neg (by simp; omega)]
    by_cases s1 : sidev a = 1
    · rw [if_pos s1]
    · rw [if_neg s1]; exact congrArg some (sidev_2.symm.trans (beq_iff_eq.2 (e.resolve_left s1)))
  · rw [if_neg (by simpa using h1)]
    by_cases h2 : a = 2 ∨ a = 5
    · have e : sidev a = 1 ∨ sidev a = 2 := by
        rcases h2 with rfl | rfl
        · exact .inl (by decide)
        · exact .inr (by decide)
      rw [if_pos (decide_eq_true h2)]
      by_cases s1 : sidev a = 1
      · rw [if_pos s1]
      · rw [if_neg s1]; exact congrArg some (sidev_2.symm.trans (beq_iff_eq.2 (e.resolve_left s1)))
    · rw [if_neg (by simpa using h2)]
end Go.Proofs.Ytlhaghkepnfajaa.Pure
