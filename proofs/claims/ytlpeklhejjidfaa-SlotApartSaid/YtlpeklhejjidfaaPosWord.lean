/- How much there is, and whether a word may be, as plain numbers. -/
import Derived.Test.YtlpeklhejjidfaaBase
import Derived.Test.YtlpeklhejjidfaaPLx3
namespace Go.Proofs.Ytlpeklhejjidfaa.Pure
open Go.RowKit Go.Proofs.Ytlpeklhejjidfaa.PL Go.Proofs.YtlpeklhejjidfaaW.PrintWords Go.Proofs.YtlpeklhejjidfaaW.PrintLast Go.Proofs.YtlpeklhejjidfaaW.PrintMore
set_option linter.unusedSimpArgs false
set_option linter.unusedVariables false
/-- How much there is. -/
def lenv (h t : Int) : Int := if t ≤ h then 0 else if h < 0 then (if t > 9223372036854775807 + h then 9223372036854775807 else t - h) else t - h
theorem len_eq {k : Nat} {h t m : Int} (hh : -9223372036854775808 ≤ h ∧ h ≤ 9223372036854775807) (ht : -9223372036854775808 ≤ t ∧ t ≤ 9223372036854775807) : pos_Len.f (k + 1) h t m = some (lenv h t) := by
  unfold pos_Len.f lenv
  by_cases h0 : (h == 0 && (t == 0 && m == 0)) = true
  · rw [if_pos h0]
    simp at h0
    obtain ⟨rfl, rfl, rfl⟩ := h0
    simp [pos_Len.j0]
  · rw [if_neg h0]
    simp only [pos_Len.j0]
    by_cases h1 : t ≤ h
    · simp [h1]
    · rw [if_neg (by simpa using h1), if_neg h1]
      by_cases h2 : h < 0
      · rw [if_pos h2, if_pos h2, w64 (by omega) (by omega)]
        by_cases h3 : t > 9223372036854775807 + h
        · rw [if_pos h3, if_pos h3]
        · rw [if_neg h3, if_neg h3, w64 (by omega) (by omega)]
      · rw [if_neg h2, if_neg h2, w64 (by omega) (by omega)]
theorem full_eq {k : Nat} {h t m r : Int} (hh : -9223372036854775808 ≤ h ∧ h ≤ 9223372036854775807) (ht : -9223372036854775808 ≤ t ∧ t ≤ 9223372036854775807) : pos_Full.f (k + 1) h t m r = some (decide (r ≤ lenv h t)) := by
  unfold pos_Full.f; rw [len_eq hh ht]; simp
/-- May a word be. -/
def okw (h t m r : Int) : Prop := 0 ≤ h ∧ h ≤ t ∧ t ≤ 1099511627776 ∧ t - h ≤ r ∧ 0 ≤ m ∧ m ≤ 2
instance (h t m r : Int) : Decidable (okw h t m r) := by unfold okw; exact inferInstance
theorem check1_eq (n lo hi : Int) : pos_Check_1.f n lo hi = some (decide (lo ≤ n ∧ n ≤ hi)) := by
  unfold pos_Check_1.f
  by_cases h : n ≥ lo
  · rw [if_pos h]; congr 1; simp; omega
  · rw [if_neg h]; congr 1; simp; omega
theorem check_eq {k : Nat} {h t m r : Int} (hh : -9223372036854775808 ≤ h ∧ h ≤ 9223372036854775807) (ht : -9223372036854775808 ≤ t ∧ t ≤ 9223372036854775807) : pos_Check.f (k + 1) h t m r = some (decide (okw h t m r)) := by
  unfold pos_Check.f okw; rw [check1_eq]; simp only [Option.bind_some]
  by_cases h1 : h ≤ t ∧ t ≤ 1099511627776
  · rw [if_pos (by simpa using h1)]
    by_cases h2 : h ≥ 0
    · rw [if_pos h2, len_eq hh ht]; simp only [Option.bind_some]
      have e : lenv h t = t - h := by
        unfold lenv
        by_cases hx : t ≤ h
        · rw [if_pos hx]; omega
        · rw [if_neg hx, if_neg (by omega)]
      rw [e]
      by_cases h3 : t - h ≤ r
      · rw [if_pos h3, check1_eq]; simp only [Option.bind_some]; exact congrArg some (decide_eq_decide.2 (by omega))
      · rw [if_neg h3]; exact congrArg some (decide_eq_false (by omega)).symm
    · rw [if_neg h2]; exact congrArg some (decide_eq_false (by omega)).symm
  · rw [if_neg (by simpa using h1)]; exact congrArg some (decide_eq_false (by omega)).symm
end Go.Proofs.Ytlpeklhejjidfaa.Pure
