/- Laps, and who lies ahead, as plain numbers. -/
import Derived.Test.YtlpeklhejjidfaaPosPlace
import Derived.Test.YtlpeklhejjidfaaPLx3
import Derived.Test.YtlpeklhejjidfaaPLx4
namespace Go.Proofs.Ytlpeklhejjidfaa.Pure
open Go.RowKit Go.Proofs.Ytlpeklhejjidfaa.PL Go.Proofs.YtlpeklhejjidfaaW.PrintWords Go.Proofs.YtlpeklhejjidfaaW.PrintLast Go.Proofs.YtlpeklhejjidfaaW.PrintMore
set_option linter.unusedSimpArgs false
set_option linter.unusedVariables false
theorem lap_ok {p r : Int} (hp : 0 ≤ p) (hm : p ≤ 9223372036854775807) (hr : 1 ≤ r) : pos_Lap.f p r = some (p / r) := by
  have := div_bd hp hr
  unfold pos_Lap.f; rw [is_eq]; simp only [Option.bind_some]
  rw [if_pos (by simp; omega), if_neg (by omega), Int.tdiv_eq_ediv_of_nonneg hp, w64 (by omega) (by omega)]
theorem lap_no {p r : Int} (h : ¬ (0 ≤ p ∧ 1 ≤ r)) : pos_Lap.f p r = some 0 := by
  unfold pos_Lap.f; rw [is_eq]; simp only [Option.bind_some]
  rw [if_neg (by simpa using h)]
theorem ahead_no {p q r : Int} (h : ¬ (0 ≤ p ∧ 0 ≤ q ∧ 1 ≤ r)) : pos_Ahead.f p q r = some false := by
  unfold pos_Ahead.f; rw [is_eq, is_eq]; simp only [Option.bind_some]
  by_cases h1 : 0 ≤ p ∧ 1 ≤ r
  · rw [if_pos (by simpa using h1), if_neg (by simp; omega)]
  · rw [if_neg (by simpa using h1)]
theorem ahead_ok {p q r : Int} (hp : 0 ≤ p) (hpm : p ≤ 9223372036854775807) (hq : 0 ≤ q) (hqm : q ≤ 9223372036854775807) (hr : 1 ≤ r) : pos_Ahead.f p q r = some (decide (p % r = q % r ∧ p < q)) := by
  unfold pos_Ahead.f; rw [is_eq, is_eq]; simp only [Option.bind_some]
  rw [if_pos (by simp; omega), if_pos (by simp; omega), place_ok hp hr, place_ok hq hr]
  simp only [Option.bind_some]
  by_cases h : p % r = q % r
  · rw [if_pos h, lap_ok hp hpm hr, lap_ok hq hqm hr]; simp only [Option.bind_some]
    congr 1
    have e1 := split (p := p) (r := r)
    have e2 := split (p := q) (r := r)
    by_cases hl : p / r < q / r
    · have h3 : r * (p / r) < r * (q / r) := Int.mul_lt_mul_of_pos_left hl (by omega)
      simp [hl]; omega
    · have h3 : r * (q / r) ≤ r * (p / r) := Int.mul_le_mul_of_nonneg_left (by omega) (by omega)
      simp [hl]; omega
  · rw [if_neg h]; simp [h]
end Go.Proofs.Ytlpeklhejjidfaa.Pure
