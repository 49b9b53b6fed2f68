/- All that threads do may end well, and nothing ends without a result (the plain part). -/
import Derived.Test.YtlhaghkepnfajaaOpRef
import Derived.Test.YtlhaghkepnfajaaPLx10
namespace Go.Proofs.Ytlhaghkepnfajaa.Pure
open Go.RowKit Go.Proofs.Ytlhaghkepnfajaa.PL Go.Proofs.YtlhaghkepnfajaaW.PrintWords Go.Proofs.YtlhaghkepnfajaaW.PrintLast Go.Proofs.YtlhaghkepnfajaaW.PrintMore
set_option linter.unusedSimpArgs false
set_option linter.unusedVariables false
theorem OpEnds : sakialaw11_OpEnds.Pure := by
  intro kind r _ _
  refine ⟨4, ?_⟩
  unfold sakialaw11_OpEnds.f
  have e1 : endsv kind 1 = decide (1 ≤ kind ∧ kind ≤ 8) := by unfold endsv; rw [if_neg (by decide), if_pos rfl, Bool.and_true]
  have e0 : endsv kind 0 = false := by unfold endsv; rw [if_neg (by decide), if_neg (by decide), if_neg (by decide), if_neg (by decide), if_neg (by decide), if_neg (by decide), Bool.and_false]
  have e5 : endsv kind 5 = decide (kind = 3 ∨ kind = 6) := by
    unfold endsv; rw [if_neg (by decide), if_neg (by decide), if_neg (by decide), if_neg (by decide), if_neg (by decide), if_pos rfl, ← Bool.decide_and]; exact decide_eq_decide.2 (by omega)
  have e67 : endsv kind 6 = endsv kind 7 := by unfold endsv; rw [if_pos (.inl rfl), if_pos (.inr rfl)]
  rw [upOp 0, opcheck_eq, timed_eq, ends_eq, ends_eq, ends_eq, ends_eq, ends_eq, ends_eq, e1, e0, e5, e67]
  simp only [Option.bind_some, beq_self_eq_true, if_true]
  rw [if_neg (by decide)]
  by_cases h : endsv kind r = true
  · rw [if_pos h]
    have hr : r = 6 ∨ r = 7 ∨ r = 1 ∨ r = 2 ∨ r = 4 ∨ r = 3 ∨ r = 5 := by
      unfold endsv at h
      by_cases x1 : r = 6 ∨ r = 7
      · omega
      by_cases x2 : r = 1
      · omega
      by_cases x3 : r = 2
      · omega
      by_cases x4 : r = 4
      · omega
      by_cases x5 : r = 3
      · omega
      by_cases x6 : r = 5
      · omega
      rw [if_neg x1, if_neg x2, if_neg x3, if_neg x4, if_neg x5, if_neg x6, Bool.and_false] at h
      cases h
    rw [if_pos (by omega), if_pos (by omega)]
  · rw [if_neg h]
end Go.Proofs.Ytlhaghkepnfajaa.Pure
