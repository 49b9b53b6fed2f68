/- What may be stays so, whatever is done (the plain part). -/
import Derived.Test.YtlhaghkepnfajaaThreadLib
import Derived.Test.YtlhaghkepnfajaaPLx9
import Derived.Test.YtlhaghkepnfajaaPLx14
namespace Go.Proofs.Ytlhaghkepnfajaa.Pure
open Go.RowKit Go.Proofs.Ytlhaghkepnfajaa.PL Go.Proofs.YtlhaghkepnfajaaW.PrintWords Go.Proofs.YtlhaghkepnfajaaW.PrintLast Go.Proofs.YtlhaghkepnfajaaW.PrintMore
theorem upStays : sakialaw12_awake.f 4 = some true := by decide +kernel
theorem w64_Stays {x : Int} (h0 : -9223372036854775808 ≤ x) (h1 : x ≤ 9223372036854775807) : wrap64 x = x := by
  unfold wrap64; omega
theorem ThreadStays : sakialaw12_ThreadStays.Pure := by
  intro a0 a1 a2 a3 a4 a5 a6 a7 a8 a9 a10 k v u pc _ _ _ _ hpc
  have hpc := bounds_u8 hpc
  refine ⟨4, ?_⟩
  unfold sakialaw12_ThreadStays.f
  have hm : Int.tmod pc 12 = pc % 12 := Int.tmod_eq_emod_of_nonneg hpc.1
  rw [hm, w64_Stays (x := pc % 12) (by omega) (by omega)]
  simp only [upStays, tcheck_eq, invoke_eq, park_eq, done_eq, wake_eq, Option.bind_some]
  by_cases h : okt a0 a1 a3 a4 a5 a6 a7 a8 a9
  · rw [if_pos (decide_eq_true h), if_pos trivial, if_pos (decide_eq_true (okt_inv h)), if_pos (decide_eq_true (okt_park (by omega) h)), if_pos (decide_eq_true (okt_done h))]
    exact congrArg some (decide_eq_true (okt_wake h))
  · rw [if_neg (by simpa using h)]
end Go.Proofs.Ytlhaghkepnfajaa.Pure
