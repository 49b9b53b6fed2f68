/- What lets one in, takes one out, lets one go, and closes, any word, and what would be told, are what the document says (the plain part). -/
import Derived.Test.YtcmiijdkmfdpnaaWordRef
import Derived.Test.YtcmiijdkmfdpnaaPLx5
import Derived.Test.YtcmiijdkmfdpnaaPLx9
namespace Go.Proofs.Ytcmiijdkmfdpnaa.Pure
open Go.RowKit Go.Proofs.Ytcmiijdkmfdpnaa.PL Go.Proofs.YtcmiijdkmfdpnaaW.PrintWords Go.Proofs.YtcmiijdkmfdpnaaW.PrintLast Go.Proofs.YtcmiijdkmfdpnaaW.PrintMore
set_option linter.unusedSimpArgs false
set_option linter.unusedVariables false
theorem upWTells : sakialaw08_awake.f 2 = some true := by decide +kernel
theorem WordTells : sakialaw08_WordTells.Pure := by
  intro h t m r hd c hg hr hhd hc
  obtain ⟨hh, ht, hm⟩ := hg
  have hh := bounds_i64 hh
  have ht := bounds_i64 ht
  refine ⟨2, ?_⟩
  unfold sakialaw08_WordTells.f
  simp only [upWTells, accept_eq hh ht, raccept_eq hh ht, take_eq hh ht, rtake_eq hh ht, evict_eq hh ht, revict_eq hh ht, close_eq, rclose_eq, sees_eq hh ht, Option.bind_some, beq_self_eq_true, Bool.and_self, if_true]
end Go.Proofs.Ytcmiijdkmfdpnaa.Pure
