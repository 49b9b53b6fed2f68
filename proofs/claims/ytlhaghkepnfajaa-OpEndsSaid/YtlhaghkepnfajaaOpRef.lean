/- The document's answer on what threads may do, in the same closed words. -/
import Derived.Test.YtlhaghkepnfajaaOpMore
import Derived.Test.YtlhaghkepnfajaaPLx6
import Derived.Test.YtlhaghkepnfajaaPLx7
import Derived.Test.YtlhaghkepnfajaaPLx5
namespace Go.Proofs.Ytlhaghkepnfajaa.Pure
open Go.RowKit Go.Proofs.Ytlhaghkepnfajaa.PL Go.Proofs.YtlhaghkepnfajaaW.PrintWords Go.Proofs.YtlhaghkepnfajaaW.PrintLast Go.Proofs.YtlhaghkepnfajaaW.PrintMore
set_option linter.unusedSimpArgs false
set_option linter.unusedVariables false
theorem ref_and (a lo hi : Int) : (if a ≥ lo then some (decide (a ≤ hi)) else some false) = some (decide (lo ≤ a ∧ a ≤ hi)) := by
  by_cases h : a ≥ lo
  · rw [if_pos h]; exact congrArg some (decide_eq_decide.2 (by omega))
  · rw [if_neg h]; exact congrArg some (decide_eq_false (by omega)).symm
theorem ref_or (a x y : Int) : (if a = x then some true else some (a == y)) = some (decide (a = x ∨ a = y)) := by
  by_cases h : a = x
  · rw [if_pos h]; exact congrArg some (decide_eq_true (.inl h)).symm
  · rw [if_neg h, Bool.beq_eq_decide_eq]; exact congrArg some (decide_eq_decide.2 (by omega))
theorem refcheck_eq (a : Int) : sakiaref11_Check.f a = some (decide (1 ≤ a ∧ a ≤ 8)) := ref_and a 1 8
theorem reftimed_eq (a : Int) : sakiaref11_Timed.f a = some (decide (a = 3 ∨ a = 6)) := ref_or a 3 6
theorem refonce_eq (a : Int) : sakiaref11_Once.f a = some (decide (a = 2 ∨ a = 5)) := ref_or a 2 5
theorem refside_eq (a : Int) : sakiaref11_Side.f a = some (sidev a) := by
  unfold sakiaref11_Side.f
  by_cases h1 : a < 1
  · rw [if_pos h1]; unfold sidev; rw [if_neg (by omega), if_neg (by omega), if_neg (by omega)]
  rw [if_neg h1]
  by_cases h2 : a > 8
  · rw [if_pos h2]; unfold sidev; rw [if_neg (by omega), if_neg (by omega), if_neg (by omega)]
  rw [if_neg h2]
  obtain rfl | rfl | rfl | rfl | rfl | rfl | rfl | rfl : a = 1 ∨ a = 2 ∨ a = 3 ∨ a = 4 ∨ a = 5 ∨ a = 6 ∨ a = 7 ∨ a = 8 := by omega
  all_goals decide +kernel
theorem refends_eq (a r : Int) : sakiaref11_Ends.f a r = some (endsv a r) := by
  unfold sakiaref11_Ends.f endsv
  by_cases h : r = 1
  · rw [if_pos h, ref_and, if_neg (by omega), if_pos h, Bool.and_true]
  rw [if_neg h]
  by_cases h2 : r = 2
  · rw [if_pos h2, if_neg (by omega), if_neg h, if_pos h2, Bool.beq_eq_decide_eq, ← Bool.decide_and]; exact congrArg some (decide_eq_decide.2 (by omega))
  rw [if_neg h2]
  by_cases h3 : r = 3
  · rw [if_pos h3, ref_and, if_neg (by omega), if_neg h, if_neg h2, if_neg (by omega), if_pos h3, ← Bool.decide_and]; exact congrArg some (decide_eq_decide.2 (by omega))
  rw [if_neg h3]
  by_cases h4 : r = 4
  · rw [if_pos h4, if_neg (by omega), if_neg h, if_neg h2, if_pos h4, Bool.beq_eq_decide_eq, ← Bool.decide_and]; exact congrArg some (decide_eq_decide.2 (by omega))
  rw [if_neg h4]
  by_cases h5 : r = 5
  · rw [if_pos h5, ref_or, if_neg (by omega), if_neg h, if_neg h2, if_neg h4, if_neg h3, if_pos h5, ← Bool.decide_and]; exact congrArg some (decide_eq_decide.2 (by omega))
  rw [if_neg h5]
  by_cases h6 : r = 6
  · rw [if_pos h6, ref_and, if_pos (.inl h6), ← Bool.decide_and]; exact congrArg some (decide_eq_decide.2 (by omega))
  rw [if_neg h6]
  by_cases h7 : r = 7
  · rw [if_pos h7, ref_and, if_pos (.inr h7), ← Bool.decide_and]; exact congrArg some (decide_eq_decide.2 (by omega))
  rw [if_neg h7, if_neg (by omega), if_neg h, if_neg h2, if_neg h4, if_neg h3, if_neg h5, Bool.and_false]
theorem refmay_j1 (k : Nat) (b0 b1 b2 b3 b4 b5 : Int) (one : Bool) (id kind : Int) (c : Bool) (hid : 0 ≤ id) :
    sakiaref11_May.j1 (k + 1) id kind c b0 b1 b2 b3 b4 b5 one = some (if c = true then 190 else (if one = true ∧ 4 ≤ kind ∧ kind ≤ 6 ∧ id > 0 then 123 else 0)) := by
  simp only [sakiaref11_May.j1]
  by_cases hc : c = true
  · rw [if_pos hc, if_pos hc]
  rw [if_neg hc, if_neg hc]
  by_cases ho : one = true
  · rw [if_pos ho]
    by_cases h4 : kind ≥ 4
    · rw [if_pos h4]
      by_cases h6 : kind ≤ 6
      · rw [if_pos h6]
        by_cases hi : id = 0
        · rw [if_pos hi, if_neg (by omega)]
        · rw [if_neg hi, if_pos ⟨ho, h4, h6, by omega⟩]
      · rw [if_neg h6, if_neg (fun h => h6 h.2.2.1)]
    · rw [if_neg h4, if_neg (fun h => h4 h.2.1)]
  · rw [if_neg ho, if_neg (fun h => ho h.1)]
theorem refmay_eq (k : Nat) (b0 b1 b2 b3 b4 b5 : Int) (one : Bool) (id kind : Int) : sakiaref11_May.f (k + 2) b0 b1 b2 b3 b4 b5 one id kind = some (mayv b1 one id kind) := by
  unfold sakiaref11_May.f mayv
  by_cases h0 : id < 0
  · rw [if_pos h0, if_pos (.inl h0)]; simp only [sakiaref11_May.j0]; rfl
  rw [if_neg h0]
  simp only [sakiaref11_May.j0]
  by_cases h1 : id ≥ b1
  · rw [if_pos (decide_eq_true h1), if_pos (.inr h1)]
  rw [if_neg (by simpa using h1), if_neg (show ¬ (id < 0 ∨ id ≥ b1) by omega)]
  by_cases h2 : kind < 1
  · rw [if_pos h2, refmay_j1 _ _ _ _ _ _ _ _ _ _ _ (by omega), if_pos rfl, if_neg (show ¬ (1 ≤ kind ∧ kind ≤ 8) by omega)]
  rw [if_neg h2, refmay_j1 _ _ _ _ _ _ _ _ _ _ _ (by omega)]
  by_cases h3 : kind > 8
  · rw [if_pos (decide_eq_true h3), if_neg (show ¬ (1 ≤ kind ∧ kind ≤ 8) by omega)]
  · rw [if_neg (show ¬ (decide (kind > 8) = true) by simpa using h3), if_pos (show 1 ≤ kind ∧ kind ≤ 8 by omega)]
theorem upOp (k : Nat) : sakialaw11_awake.f (k + 4) = some true := by
  have h : sakialaw11_awake.f 4 = some true := by decide +kernel
  induction k with
  | zero => exact h
  | succ k ih => exact sakialaw11_awake.mono _ _ ih
end Go.Proofs.Ytlhaghkepnfajaa.Pure
