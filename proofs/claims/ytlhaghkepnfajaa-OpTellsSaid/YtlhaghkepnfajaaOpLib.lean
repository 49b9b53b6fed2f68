/- What threads may do, as plain numbers. -/
import Derived.Test.YtlhaghkepnfajaaPLx2
import Derived.OpenShut
namespace Go.Proofs.Ytlhaghkepnfajaa.Pure
open Go.RowKit Go.Proofs.Ytlhaghkepnfajaa.PL Go.Proofs.YtlhaghkepnfajaaW.PrintWords Go.Proofs.YtlhaghkepnfajaaW.PrintLast Go.Proofs.YtlhaghkepnfajaaW.PrintMore
set_option linter.unusedSimpArgs false
set_option linter.unusedVariables false
def sidev (a : Int) : Int := if 1 ≤ a ∧ a ≤ 3 then 1 else if 4 ≤ a ∧ a ≤ 6 then 2 else if 7 ≤ a ∧ a ≤ 8 then 3 else 0
theorem side_eq (k : Nat) (a : Int) : op_Side.f (k + 2) a = some (sidev a) := by
  by_cases h1 : a = 1
  · subst h1; simp [op_Side.f, op_Side.j0, sidev]
  by_cases h2 : a = 2
  · subst h2; simp [op_Side.f, op_Side.j0, sidev]
  by_cases h3 : a = 3
  · subst h3; simp [op_Side.f, op_Side.j0, sidev]
  by_cases h4 : a = 4
  · subst h4; simp [op_Side.f, op_Side.j0, op_Side.j1, sidev]
  by_cases h5 : a = 5
  · subst h5; simp [op_Side.f, op_Side.j0, op_Side.j1, sidev]
  by_cases h6 : a = 6
  · subst h6; simp [op_Side.f, op_Side.j0, op_Side.j1, sidev]
  by_cases h7 : a = 7
  · subst h7; simp [op_Side.f, op_Side.j0, op_Side.j1, sidev]
  by_cases h8 : a = 8
  · subst h8; simp [op_Side.f, op_Side.j0, op_Side.j1, sidev]
  have e : sidev a = 0 := by unfold sidev; rw [if_neg (by omega), if_neg (by omega), if_neg (by omega)]
  rw [e]
  simp [op_Side.f, op_Side.j0, op_Side.j1, h1, h2, h3, h4, h5, h6, h7, h8]
theorem sidev_pos (a : Int) : sidev a > 0 ↔ 1 ≤ a ∧ a ≤ 8 := by
  unfold sidev; repeat' split
  all_goals omega
theorem opcheck_eq (k : Nat) (a : Int) : op_Check.f (k + 2) a = some (decide (1 ≤ a ∧ a ≤ 8)) := by
  unfold op_Check.f; rw [side_eq]; simp only [Option.bind_some]
  exact congrArg some (decide_eq_decide.2 (sidev_pos a))
theorem timed_eq (a : Int) : op_Timed.f a = some (decide (a = 3 ∨ a = 6)) := by
  unfold op_Timed.f
  by_cases h : a = 3
  · rw [if_pos h]; simp [h]
  · rw [if_neg h]; congr 1; simp [h, Bool.beq_eq_decide_eq]
end Go.Proofs.Ytlhaghkepnfajaa.Pure
