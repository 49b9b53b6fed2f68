/- Who runs is neither idle, nor parked, and each of these is refused otherwise (the plain part). -/
import Derived.Test.YtlhaghkepnfajaaThreadLib
import Derived.Test.YtlhaghkepnfajaaPLx9
import Derived.Test.YtlhaghkepnfajaaPLx17
namespace Go.Proofs.Ytlhaghkepnfajaa.Pure
open Go.RowKit Go.Proofs.Ytlhaghkepnfajaa.PL Go.Proofs.YtlhaghkepnfajaaW.PrintWords Go.Proofs.YtlhaghkepnfajaaW.PrintLast Go.Proofs.YtlhaghkepnfajaaW.PrintMore
theorem upOnce : sakialaw12_awake.f 4 = some true := by decide +kernel
theorem w64_Once {x : Int} (h0 : -9223372036854775808 ≤ x) (h1 : x ≤ 9223372036854775807) : wrap64 x = x := by
  unfold wrap64; omega
theorem ThreadOnce : sakialaw12_ThreadOnce.Pure := by
  intro a0 a1 a2 a3 a4 a5 a6 a7 a8 a9 a10 p _ _
  refine ⟨4, ?_⟩
  unfold sakialaw12_ThreadOnce.f
  simp only [upOnce, tcheck_eq, invoke_eq, park_eq, done_eq, runs_eq, Option.bind_some]
  by_cases h : okt a0 a1 a3 a4 a5 a6 a7 a8 a9
  · rw [if_pos (decide_eq_true h), if_pos trivial]
    have h1 := h.1
    by_cases h0 : a0 = 0
    · rw [inv_plain h0 (by decide) (by decide), park_no (by omega), done_no (by omega)]
      simp [h0, runsv]
    · rw [inv_busy h0]
      by_cases h2 : a0 = 2
      · rw [park_no (by omega), done_no (by omega)]
        simp [h2, runsv]
      · rw [park_yes ⟨h0, h2⟩, done_yes ⟨h0, h2⟩]
        have h3 : a0 = 1 := by omega
        simp [h3, runsv]
  · rw [if_neg (by simpa using h)]
end Go.Proofs.Ytlhaghkepnfajaa.Pure
