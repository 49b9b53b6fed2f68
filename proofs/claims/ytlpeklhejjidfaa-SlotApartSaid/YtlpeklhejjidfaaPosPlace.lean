/- Where a position lies, as plain numbers. -/
import Derived.Test.YtlpeklhejjidfaaBase
import Derived.Test.YtlpeklhejjidfaaPLx3
namespace Go.Proofs.Ytlpeklhejjidfaa.Pure
open Go.RowKit Go.Proofs.Ytlpeklhejjidfaa.PL Go.Proofs.YtlpeklhejjidfaaW.PrintWords Go.Proofs.YtlpeklhejjidfaaW.PrintLast Go.Proofs.YtlpeklhejjidfaaW.PrintMore
set_option linter.unusedSimpArgs false
set_option linter.unusedVariables false
theorem is_eq (p r : Int) : pos_is.f p r = some (decide (0 ≤ p ∧ 1 ≤ r)) := by
  unfold pos_is.f
  by_cases h : p ≥ 0
  · rw [if_pos h]; congr 1; simp; omega
  · rw [if_neg h]; congr 1; simp; omega
theorem place_ok {p r : Int} (hp : 0 ≤ p) (hr : 1 ≤ r) : pos_Place.f p r = some (p % r) := by
  unfold pos_Place.f; rw [is_eq]; simp only [Option.bind_some]
  rw [if_pos (by simp; omega), if_neg (by omega), Int.tmod_eq_emod_of_nonneg hp]
theorem place_no {p r : Int} (h : ¬ (0 ≤ p ∧ 1 ≤ r)) : pos_Place.f p r = some 0 := by
  unfold pos_Place.f; rw [is_eq]; simp only [Option.bind_some]
  rw [if_neg (by simpa using h)]
end Go.Proofs.Ytlpeklhejjidfaa.Pure
