/- What the document's answers on positions are, as plain numbers. -/
import Derived.Test.YtlpeklhejjidfaaPLx5
import Derived.Test.YtlpeklhejjidfaaPosLib
namespace Go.Proofs.Ytlpeklhejjidfaa.Pure
open Go.RowKit Go.Proofs.Ytlpeklhejjidfaa.PL Go.Proofs.YtlpeklhejjidfaaW.PrintWords Go.Proofs.YtlpeklhejjidfaaW.PrintLast Go.Proofs.YtlpeklhejjidfaaW.PrintMore
set_option linter.unusedSimpArgs false
set_option linter.unusedVariables false
theorem rplace_ok {p r : Int} (hp : 0 ≤ p) (hm : p ≤ 9223372036854775807) (hr : 1 ≤ r) : sakiaref01_Place.f p r = some (p % r) := by
  have b := mod_bd (p := p) hr
  have d := div_bd hp hr
  have s := split (p := p) (r := r)
  have c : p / r * r = r * (p / r) := Int.mul_comm _ _
  have g0 : 0 ≤ r * (p / r) := Int.mul_nonneg (by omega) d.1
  unfold sakiaref01_Place.f
  rw [if_neg (by omega), if_neg (by omega), if_neg (by omega), Int.tdiv_eq_ediv_of_nonneg hp, w64 (x := p / r) (by omega) (by omega), c, w64 (x := r * (p / r)) (by omega) (by omega), w64 (by omega) (by omega)]
  congr 1; omega
theorem rplace_no {p r : Int} (h : ¬ (0 ≤ p ∧ 1 ≤ r)) : sakiaref01_Place.f p r = some 0 := by
  unfold sakiaref01_Place.f
  by_cases h0 : p < 0
  · rw [if_pos h0]
  · rw [if_neg h0, if_pos (by omega)]
end Go.Proofs.Ytlpeklhejjidfaa.Pure
