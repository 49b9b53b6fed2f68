/- Whether any word may be, how much there is, whether there is no room, and where any position lies (the plain part). -/
import Derived.Test.YtlpeklhejjidfaaPosAwake
import Derived.Test.YtlpeklhejjidfaaPosRef
import Derived.Test.YtlpeklhejjidfaaPLx7
import Derived.OpenShut
namespace Go.Proofs.Ytlpeklhejjidfaa.Pure
open Go.RowKit Go.Proofs.Ytlpeklhejjidfaa.PL Go.Proofs.YtlpeklhejjidfaaW.PrintWords Go.Proofs.YtlpeklhejjidfaaW.PrintLast Go.Proofs.YtlpeklhejjidfaaW.PrintMore
theorem rlap_ok {p r : Int} (hp : 0 ≤ p) (hm : p ≤ 9223372036854775807) (hr : 1 ≤ r) : sakiaref01_Lap.f p r = some (p / r) := by
  have b := mod_bd (p := p) hr
  have d := div_bd hp hr
  have s := split (p := p) (r := r)
  have g0 : 0 ≤ r * (p / r) := Int.mul_nonneg (by omega) d.1
  unfold sakiaref01_Lap.f
  rw [if_neg (by omega), if_neg (by omega), rplace_ok hp hm hr]; simp only [Option.bind_some]
  rw [if_neg (by omega), show p - p % r = r * (p / r) from by omega, w64 (x := r * (p / r)) (by omega) (by omega), Int.tdiv_eq_ediv_of_nonneg (by omega), Int.mul_ediv_cancel_left _ (by omega), w64 (by omega) (by omega)]
theorem rlap_no {p r : Int} (h : ¬ (0 ≤ p ∧ 1 ≤ r)) : sakiaref01_Lap.f p r = some 0 := by
  unfold sakiaref01_Lap.f
  by_cases h0 : p < 0
  · rw [if_pos h0]
  · rw [if_neg h0, if_pos (by omega)]
theorem rahead_no {p q r : Int} (h : ¬ (0 ≤ p ∧ 0 ≤ q ∧ 1 ≤ r)) : sakiaref01_Ahead.f p q r = some false := by
  unfold sakiaref01_Ahead.f
  by_cases h0 : p < 0
  · rw [if_pos h0]
  · by_cases h1 : q < 0
    · rw [if_neg h0, if_pos h1]
    · rw [if_neg h0, if_neg h1, if_pos (by omega)]
theorem rahead_ok {p q r : Int} (hp : 0 ≤ p) (hpm : p ≤ 9223372036854775807) (hq : 0 ≤ q) (hqm : q ≤ 9223372036854775807) (hr : 1 ≤ r) : sakiaref01_Ahead.f p q r = some (decide (p % r = q % r ∧ p < q)) := by
  unfold sakiaref01_Ahead.f
  rw [if_neg (by omega), if_neg (by omega), if_neg (by omega)]
  by_cases hl : p < q
  · rw [if_pos hl, if_neg (by omega), w64 (x := q - p) (by omega) (by omega), Int.tmod_eq_emod_of_nonneg (by omega)]
    have e : (q - p) % r = 0 ↔ q % r = p % r := Int.emod_eq_emod_iff_emod_sub_eq_zero.symm
    congr 1
    by_cases h : p % r = q % r
    · simp [h, hl, e.2 h.symm]
    · have : ¬ (q - p) % r = 0 := fun hx => h (e.1 hx).symm
      simp [h, this]
  · rw [if_neg hl]; simp [hl]
theorem rlen_eq {h t m : Int} (hh : -9223372036854775808 ≤ h ∧ h ≤ 9223372036854775807) (ht : -9223372036854775808 ≤ t ∧ t ≤ 9223372036854775807) : sakiaref01_Len.f h t m = some (lenv h t) := by
  unfold sakiaref01_Len.f lenv
  by_cases h1 : h > t
  · rw [if_pos h1, if_pos (by omega)]
  · rw [if_neg h1]
    by_cases h2 : h < 0
    · rw [if_pos h2]
      by_cases h3 : t ≥ 0
      · rw [if_pos h3, w64 (x := 9223372036854775807 + h) (by omega) (by omega), if_neg (show ¬ t ≤ h by omega), if_pos h2]
        by_cases h4 : t > 9223372036854775807 + h
        · rw [if_pos h4, if_pos h4]
        · rw [if_neg h4, if_neg h4, w64 (by omega) (by omega)]
      · rw [if_neg h3, w64 (by omega) (by omega)]
        by_cases h5 : t ≤ h
        · rw [if_pos h5]; congr 1; omega
        · rw [if_neg h5, if_pos h2, if_neg (by omega)]
    · rw [if_neg h2, w64 (by omega) (by omega)]
      by_cases h5 : t ≤ h
      · rw [if_pos h5]; congr 1; omega
      · rw [if_neg h5, if_neg h2]
theorem rcheck_eq {h t m r : Int} (hh : -9223372036854775808 ≤ h ∧ h ≤ 9223372036854775807) (ht : -9223372036854775808 ≤ t ∧ t ≤ 9223372036854775807) : sakiaref01_Check.f h t m r = some (decide (okw h t m r)) := by
  unfold sakiaref01_Check.f okw
  by_cases h1 : h ≥ 0
  · by_cases h2 : t ≥ h
    · by_cases h3 : t ≤ 1099511627776
      · rw [if_pos h1, if_pos h2, if_pos h3, w64 (by omega) (by omega)]
        by_cases h4 : t - h ≤ r
        · by_cases h5 : m ≥ 0
          · rw [if_pos h4, if_pos h5]; exact congrArg some (decide_eq_decide.2 (by omega))
          · rw [if_pos h4, if_neg h5]; exact congrArg some (decide_eq_false (by omega)).symm
        · rw [if_neg h4]; exact congrArg some (decide_eq_false (by omega)).symm
      · rw [if_pos h1, if_pos h2, if_neg h3]; exact congrArg some (decide_eq_false (by omega)).symm
    · rw [if_pos h1, if_neg h2]; exact congrArg some (decide_eq_false (by omega)).symm
  · rw [if_neg h1]; exact congrArg some (decide_eq_false (by omega)).symm
theorem PosTells : sakialaw01_PosTells.Pure := by
  intro h t m p q r hg hp hq hr
  obtain ⟨hh, ht, hm⟩ := hg
  have hh := bounds_i64 hh
  have ht := bounds_i64 ht
  have hp := bounds_i64 hp
  have hq := bounds_i64 hq
  refine ⟨1, ?_⟩
  unfold sakialaw01_PosTells.f
  rw [awake1, check_eq hh ht, rcheck_eq hh ht, len_eq hh ht, rlen_eq hh ht, full_eq hh ht]; simp only [Option.bind_some]
  rw [if_pos trivial, if_pos (by simp), if_pos trivial, if_pos (by simp [GE.ge])]
  by_cases hpr : 0 ≤ p ∧ 1 ≤ r
  · rw [place_ok hpr.1 hpr.2, rplace_ok hpr.1 hp.2 hpr.2, lap_ok hpr.1 hp.2 hpr.2, rlap_ok hpr.1 hp.2 hpr.2]; simp only [Option.bind_some]
    rw [if_pos trivial, if_pos trivial]
    by_cases h0 : 0 ≤ q
    · rw [ahead_ok hpr.1 hp.2 h0 hq.2 hpr.2, rahead_ok hpr.1 hp.2 h0 hq.2 hpr.2]; simp
    · rw [ahead_no (by omega), rahead_no (by omega)]; simp
  · rw [place_no hpr, rplace_no hpr, lap_no hpr, rlap_no hpr]; simp only [Option.bind_some]
    rw [if_pos trivial, if_pos trivial, ahead_no (by omega), rahead_no (by omega)]; simp
end Go.Proofs.Ytlpeklhejjidfaa.Pure
