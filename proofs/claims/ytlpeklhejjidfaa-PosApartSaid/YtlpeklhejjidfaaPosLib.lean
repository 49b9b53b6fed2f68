/- What positions, laps and lengths are, as plain numbers. -/
import Derived.Test.YtlpeklhejjidfaaPLx3
import Derived.Test.YtlpeklhejjidfaaPLx4
import Derived.OpenShut
namespace Go.Proofs.Ytlpeklhejjidfaa.Pure
open Go.RowKit Go.Proofs.Ytlpeklhejjidfaa.PL Go.Proofs.YtlpeklhejjidfaaW.PrintWords Go.Proofs.YtlpeklhejjidfaaW.PrintLast Go.Proofs.YtlpeklhejjidfaaW.PrintMore

theorem w64 {x : Int} (h0 : -9223372036854775808 ≤ x) (h1 : x ≤ 9223372036854775807) : wrap64 x = x := by
  unfold wrap64; omega
theorem is_eq (p r : Int) : pos_is.f p r = some (decide (0 ≤ p ∧ 1 ≤ r)) := by
  unfold pos_is.f
  by_cases h : p ≥ 0
  · rw [if_pos h]; congr 1; simp; omega
  · rw [if_neg h]; congr 1; simp; omega
theorem place_ok {p r : Int} (hp : 0 ≤ p) (hr : 1 ≤ r) : pos_Place.f p r = some (p % r) := by
  unfold pos_Place.f; rw [is_eq]; simp only [Option.bind_some]
  rw [if_pos (by simp; omega), if_neg (by omega), Int.tmod_eq_emod_of_nonneg hp]
theorem place_no {p r : Int} (h : ¬ (0 ≤ p ∧ 1 ≤ r)) : pos_Place.f p r = some 0 := by
  unfold pos_Place.f; rw [is_eq]; simp only [Option.bind_some]
  rw [if_neg (by simpa using h)]
theorem div_bd {p r : Int} (hp : 0 ≤ p) (hr : 1 ≤ r) : 0 ≤ p / r ∧ p / r ≤ p := ⟨Int.ediv_nonneg hp (by omega), Int.ediv_le_self r hp⟩
theorem lap_ok {p r : Int} (hp : 0 ≤ p) (hm : p ≤ 9223372036854775807) (hr : 1 ≤ r) : pos_Lap.f p r = some (p / r) := by
  have := div_bd hp hr
  unfold pos_Lap.f; rw [is_eq]; simp only [Option.bind_some]
  rw [if_pos (by simp; omega), if_neg (by omega), Int.tdiv_eq_ediv_of_nonneg hp, w64 (by omega) (by omega)]
theorem lap_no {p r : Int} (h : ¬ (0 ≤ p ∧ 1 ≤ r)) : pos_Lap.f p r = some 0 := by
  unfold pos_Lap.f; rw [is_eq]; simp only [Option.bind_some]
  rw [if_neg (by simpa using h)]
theorem split {p r : Int} : r * (p / r) + p % r = p := Int.mul_ediv_add_emod p r
theorem mod_bd {p r : Int} (hr : 1 ≤ r) : 0 ≤ p % r ∧ p % r < r := ⟨Int.emod_nonneg p (by omega), Int.emod_lt_of_pos p (by omega)⟩
theorem ahead_no {p q r : Int} (h : ¬ (0 ≤ p ∧ 0 ≤ q ∧ 1 ≤ r)) : pos_Ahead.f p q r = some false := by
  unfold pos_Ahead.f; rw [is_eq, is_eq]; simp only [Option.bind_some]
  by_cases h1 : 0 ≤ p ∧ 1 ≤ r
  · rw [if_pos (by simpa using h1), if_neg (by simp; omega)]
  · rw [if_neg (by simpa using h1)]
theorem ahead_ok {p q r : Int} (hp : 0 ≤ p) (hpm : p ≤ 9223372036854775807) (hq : 0 ≤ q) (hqm : q ≤ 9223372036854775807) (hr : 1 ≤ r) : pos_Ahead.f p q r = some (decide (p % r = q % r ∧ p < q)) := by
  unfold pos_Ahead.f; rw [is_eq, is_eq]; simp only [Option.bind_some]
  rw [if_pos (by simp; omega), if_pos (by simp; omega), place_ok hp hr, place_ok hq hr]
  simp only [Option.bind_some]
  by_cases h : p % r = q % r
  · rw [if_pos h, lap_ok hp hpm hr, lap_ok hq hqm hr]; simp only [Option.bind_some]
    congr 1
    have e1 := split (p := p) (r := r)
    have e2 := split (p := q) (r := r)
    by_cases hl : p / r < q / r
    · have h3 : r * (p / r) < r * (q / r) := Int.mul_lt_mul_of_pos_left hl (by omega)
      simp [hl]; omega
    · have h3 : r * (q / r) ≤ r * (p / r) := Int.mul_le_mul_of_nonneg_left (by omega) (by omega)
      simp [hl]; omega
  · rw [if_neg h]; simp [h]
/-- How much there is. -/
def lenv (h t : Int) : Int := if t ≤ h then 0 else if h < 0 then (if t > 9223372036854775807 + h then 9223372036854775807 else t - h) else t - h
theorem len_eq {k : Nat} {h t m : Int} (hh : -9223372036854775808 ≤ h ∧ h ≤ 9223372036854775807) (ht : -9223372036854775808 ≤ t ∧ t ≤ 9223372036854775807) : pos_Len.f (k + 1) h t m = some (lenv h t) := by
  unfold pos_Len.f lenv
  by_cases h0 : (h == 0 && (t == 0 && m == 0)) = true
  · rw [if_pos h0]
    simp at h0
    obtain ⟨rfl, rfl, rfl⟩ := h0
    simp [pos_Len.j0]
  · rw [if_neg h0]
    simp only [pos_Len.j0]
    by_cases h1 : t ≤ h
    · simp [h1]
    · rw [if_neg (by simpa using h1), if_neg h1]
      by_cases h2 : h < 0
      · rw [if_pos h2, if_pos h2, w64 (by omega) (by omega)]
        by_cases h3 : t > 9223372036854775807 + h
        · rw [if_pos h3, if_pos h3]
        · rw [if_neg h3, if_neg h3, w64 (by omega) (by omega)]
      · rw [if_neg h2, if_neg h2, w64 (by omega) (by omega)]
theorem full_eq {k : Nat} {h t m r : Int} (hh : -9223372036854775808 ≤ h ∧ h ≤ 9223372036854775807) (ht : -9223372036854775808 ≤ t ∧ t ≤ 9223372036854775807) : pos_Full.f (k + 1) h t m r = some (decide (r ≤ lenv h t)) := by
  unfold pos_Full.f; rw [len_eq hh ht]; simp
/-- May a word be. -/
def okw (h t m r : Int) : Prop := 0 ≤ h ∧ h ≤ t ∧ t ≤ 1099511627776 ∧ t - h ≤ r ∧ 0 ≤ m ∧ m ≤ 2
instance (h t m r : Int) : Decidable (okw h t m r) := by unfold okw; exact inferInstance
theorem check1_eq (n lo hi : Int) : pos_Check_1.f n lo hi = some (decide (lo ≤ n ∧ n ≤ hi)) := by
  unfold pos_Check_1.f
  by_cases h : n ≥ lo
  · rw [if_pos h]; congr 1; simp; omega
  · rw [if_neg h]; congr 1; simp; omega
theorem check_eq {k : Nat} {h t m r : Int} (hh : -9223372036854775808 ≤ h ∧ h ≤ 9223372036854775807) (ht : -9223372036854775808 ≤ t ∧ t ≤ 9223372036854775807) : pos_Check.f (k + 1) h t m r = some (decide (okw h t m r)) := by
  unfold pos_Check.f okw; rw [check1_eq]; simp only [Option.bind_some]
  by_cases h1 : h ≤ t ∧ t ≤ 1099511627776
  · rw [if_pos (by simpa using h1)]
    by_cases h2 : h ≥ 0
    · rw [if_pos h2, len_eq hh ht]; simp only [Option.bind_some]
      have e : lenv h t = t - h := by
        unfold lenv
        by_cases hx : t ≤ h
        · rw [if_pos hx]; omega
        · rw [if_neg hx, if_neg (by omega)]
      rw [e]
      by_cases h3 : t - h ≤ r
      · rw [if_pos h3, check1_eq]; simp only [Option.bind_some]; exact congrArg some (decide_eq_decide.2 (by omega))
      · rw [if_neg h3]; exact congrArg some (decide_eq_false (by omega)).symm
    · rw [if_neg h2]; exact congrArg some (decide_eq_false (by omega)).symm
  · rw [if_neg (by simpa using h1)]; exact congrArg some (decide_eq_false (by omega)).symm
theorem dm {x r a b : Int} (hr : 1 ≤ r) (e : b + r * a = x) (h0 : 0 ≤ b) (h1 : b < r) : x / r = a ∧ x % r = b := (Int.ediv_emod_unique (by omega)).2 ⟨e, h0, h1⟩
end Go.Proofs.Ytlpeklhejjidfaa.Pure
