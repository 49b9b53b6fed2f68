/- Whether threads do it, and all else of what they may do, is what the document says (the plain part). -/
import Derived.Test.YtlhaghkepnfajaaOpRef
import Derived.Test.YtlhaghkepnfajaaPLx8
namespace Go.Proofs.Ytlhaghkepnfajaa.Pure
open Go.RowKit Go.Proofs.Ytlhaghkepnfajaa.PL Go.Proofs.YtlhaghkepnfajaaW.PrintWords Go.Proofs.YtlhaghkepnfajaaW.PrintLast Go.Proofs.YtlhaghkepnfajaaW.PrintMore
set_option linter.unusedSimpArgs false
set_option linter.unusedVariables false
theorem OpTells : sakialaw11_OpTells.Pure := by
  intro b0 b1 b2 b3 b4 b5 one id kind r _ _ _ _
  refine ⟨4, ?_⟩
  unfold sakialaw11_OpTells.f
  rw [upOp 0, opcheck_eq, refcheck_eq, side_eq, refside_eq, timed_eq, reftimed_eq, once_eq, refonce_eq, may_eq 1, refmay_eq, ends_eq, refends_eq]
  simp only [Option.bind_some, beq_self_eq_true, if_true]
end Go.Proofs.Ytlhaghkepnfajaa.Pure
