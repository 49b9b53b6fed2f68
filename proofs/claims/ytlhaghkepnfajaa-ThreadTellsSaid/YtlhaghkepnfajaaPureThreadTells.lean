/- Whether any thread may be, and runs, it with something begun, parked, woken, and done, and whether it is late, are what the document says (the plain part). -/
import Derived.Test.YtlhaghkepnfajaaThreadRef
import Derived.Test.YtlhaghkepnfajaaPLx9
import Derived.Test.YtlhaghkepnfajaaPLx13
namespace Go.Proofs.Ytlhaghkepnfajaa.Pure
open Go.RowKit Go.Proofs.Ytlhaghkepnfajaa.PL Go.Proofs.YtlhaghkepnfajaaW.PrintWords Go.Proofs.YtlhaghkepnfajaaW.PrintLast Go.Proofs.YtlhaghkepnfajaaW.PrintMore
set_option linter.unusedSimpArgs false
set_option linter.unusedVariables false
theorem upTells : sakialaw12_awake.f 4 = some true := by decide +kernel
theorem w64_Tells {x : Int} (h0 : -9223372036854775808 ≤ x) (h1 : x ≤ 9223372036854775807) : wrap64 x = x := by
  unfold wrap64; omega
theorem ThreadTells : sakialaw12_ThreadTells.Pure := by
  intro a0 a1 a2 a3 a4 a5 a6 a7 a8 a9 a10 k v u now _ _ _ _ _
  refine ⟨4, ?_⟩
  unfold sakialaw12_ThreadTells.f
  simp only [upTells, invoke_eq, rinvoke_eq, park_eq, rpark_eq, done_eq, rdone_eq, wake_eq, rwake_eq, tcheck_eq, rtcheck_eq, late_eq, rlate_eq, runs_eq, rruns_eq, Option.bind_some, beq_self_eq_true, Bool.and_self, if_true]
end Go.Proofs.Ytlhaghkepnfajaa.Pure
