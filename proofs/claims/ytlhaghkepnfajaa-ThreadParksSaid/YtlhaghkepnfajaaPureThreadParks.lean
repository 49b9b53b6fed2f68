/- Who was parked, and is woken, runs at the step that was said (the plain part). -/
import Derived.Test.YtlhaghkepnfajaaThreadLib
import Derived.Test.YtlhaghkepnfajaaPLx9
import Derived.Test.YtlhaghkepnfajaaPLx15
namespace Go.Proofs.Ytlhaghkepnfajaa.Pure
open Go.RowKit Go.Proofs.Ytlhaghkepnfajaa.PL Go.Proofs.YtlhaghkepnfajaaW.PrintWords Go.Proofs.YtlhaghkepnfajaaW.PrintLast Go.Proofs.YtlhaghkepnfajaaW.PrintMore
theorem upParks : sakialaw12_awake.f 4 = some true := by decide +kernel
theorem w64_Parks {x : Int} (h0 : -9223372036854775808 ≤ x) (h1 : x ≤ 9223372036854775807) : wrap64 x = x := by
  unfold wrap64; omega
theorem ThreadParks : sakialaw12_ThreadParks.Pure := by
  intro a0 a1 a2 a3 a4 a5 a6 a7 a8 a9 a10 p _ _
  refine ⟨4, ?_⟩
  unfold sakialaw12_ThreadParks.f
  simp only [upParks, park_eq, wake_eq, runs_eq, Option.bind_some]
  by_cases h0 : a0 ≠ 0 ∧ a0 ≠ 2
  · rw [park_yes h0]
    simp [wakev, runsv]
  · rw [park_no h0]
    have e : ¬ runsv a0 = 0 := fun hx => h0 ((runsv_ok a0).1 hx)
    simp [e]
end Go.Proofs.Ytlhaghkepnfajaa.Pure
