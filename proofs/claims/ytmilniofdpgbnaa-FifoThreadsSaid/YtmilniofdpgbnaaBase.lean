/- Plain facts on whole numbers. -/
import Derived.Test.YtmilniofdpgbnaaPLx0
import Derived.OpenShut
namespace Go.Proofs.Ytmilniofdpgbnaa.Pure
open Go.RowKit Go.Proofs.Ytmilniofdpgbnaa.PL Go.Proofs.YtmilniofdpgbnaaW.PrintWords Go.Proofs.YtmilniofdpgbnaaW.PrintLast Go.Proofs.YtmilniofdpgbnaaW.PrintMore
set_option linter.unusedSimpArgs false
set_option linter.unusedVariables false
theorem w64 {x : Int} (h0 : -9223372036854775808 ≤ x) (h1 : x ≤ 9223372036854775807) : wrap64 x = x := by
  unfold wrap64; omega
theorem div_bd {p r : Int} (hp : 0 ≤ p) (hr : 1 ≤ r) : 0 ≤ p / r ∧ p / r ≤ p := ⟨Int.ediv_nonneg hp (by omega), Int.ediv_le_self r hp⟩
theorem split {p r : Int} : r * (p / r) + p % r = p := Int.mul_ediv_add_emod p r
theorem mod_bd {p r : Int} (hr : 1 ≤ r) : 0 ≤ p % r ∧ p % r < r := ⟨Int.emod_nonneg p (by omega), Int.emod_lt_of_pos p (by omega)⟩
theorem dm {x r a b : Int} (hr : 1 ≤ r) (e : b + r * a = x) (h0 : 0 ≤ b) (h1 : b < r) : x / r = a ∧ x % r = b := (Int.ediv_emod_unique (by omega)).2 ⟨e, h0, h1⟩
end Go.Proofs.Ytmilniofdpgbnaa.Pure
