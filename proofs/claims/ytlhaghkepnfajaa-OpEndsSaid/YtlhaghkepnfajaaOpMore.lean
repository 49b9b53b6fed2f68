/- What threads may do, in closed words; and the document's answer. -/
import Derived.Test.YtlhaghkepnfajaaOpLib
import Derived.Test.YtlhaghkepnfajaaPLx3
import Derived.Test.YtlhaghkepnfajaaPLx2
import Derived.Test.YtlhaghkepnfajaaPLx4
namespace Go.Proofs.Ytlhaghkepnfajaa.Pure
open Go.RowKit Go.Proofs.Ytlhaghkepnfajaa.PL Go.Proofs.YtlhaghkepnfajaaW.PrintWords Go.Proofs.YtlhaghkepnfajaaW.PrintLast Go.Proofs.YtlhaghkepnfajaaW.PrintMore
set_option linter.unusedSimpArgs false
set_option linter.unusedVariables false
theorem once_eq (a : Int) : op_Once.f a = some (decide (a = 2 ∨ a = 5)) := by
  unfold op_Once.f
  by_cases h : a = 2
  · rw [if_pos h]; simp [h]
  · rw [if_neg h]; congr 1; simp [h, Bool.beq_eq_decide_eq]
def endsv (a r : Int) : Bool := decide (1 ≤ a ∧ a ≤ 8) && (if r = 6 ∨ r = 7 then decide (a ≤ 6) else if r = 1 then true else if r = 2 then decide (a = 2) else if r = 4 then decide (a = 5) else if r = 3 then decide (a ≤ 3) else if r = 5 then decide (a = 3 ∨ a = 6) else false)
theorem sidev_3 {a : Int} (h : 1 ≤ a ∧ a ≤ 8) : (!(sidev a == 3)) = decide (a ≤ 6) := by
  unfold sidev
  by_cases h1 : 1 ≤ a ∧ a ≤ 3
  · rw [if_pos h1]; simp; omega
  · rw [if_neg h1]
    by_cases h2 : 4 ≤ a ∧ a ≤ 6
    · rw [if_pos h2]; simp; omega
    · rw [if_neg h2, if_pos (by omega)]; simp; omega
theorem sidev_1 {a : Int} : (sidev a == 1) = decide (1 ≤ a ∧ a ≤ 3) := by
  unfold sidev
  by_cases h1 : 1 ≤ a ∧ a ≤ 3
  · rw [if_pos h1]; simp [h1]
  · rw [if_neg h1, decide_eq_false h1]
    split
    · rfl
    · split <;> rfl
theorem sidev_2 {a : Int} : (sidev a == 2) = decide (4 ≤ a ∧ a ≤ 6) := by
  unfold sidev
  by_cases h1 : 1 ≤ a ∧ a ≤ 3
  · rw [if_pos h1, decide_eq_false (by omega)]; rfl
  · rw [if_neg h1]
    by_cases h2 : 4 ≤ a ∧ a ≤ 6
    · rw [if_pos h2, decide_eq_true h2]; rfl
    · rw [if_neg h2, decide_eq_false h2]; split <;> rfl
theorem ends_eq (k : Nat) (a r : Int) : op_Ends.f (k + 2) a r = some (endsv a r) := by
  unfold op_Ends.f endsv
  rw [opcheck_eq]; simp only [Option.bind_some]
  by_cases hc : 1 ≤ a ∧ a ≤ 8
  · rw [decide_eq_true hc, if_neg (by decide), Bool.true_and]
    unfold op_Ends.g
    by_cases h : r = 6 ∨ r = 7
    · rw [if_pos h, if_pos h, side_eq]; simp only [Option.bind_some]
      exact congrArg some (sidev_3 hc)
    rw [if_neg h, if_neg h]
    by_cases h : r = 1
    · rw [if_pos h, if_pos h]
    rw [if_neg h, if_neg h]
    by_cases h : r = 2
    · rw [if_pos h, if_pos h]; exact congrArg some (Bool.beq_eq_decide_eq _ _)
    rw [if_neg h, if_neg h]
    by_cases h : r = 4
    · rw [if_pos h, if_pos h]; exact congrArg some (Bool.beq_eq_decide_eq _ _)
    rw [if_neg h, if_neg h]
    by_cases h : r = 3
    · rw [if_pos h, if_pos h]; unfold op_Ends_2.f; rw [side_eq]; simp only [Option.bind_some]
      exact congrArg some (sidev_1.trans (decide_eq_decide.2 (by omega)))
    rw [if_neg h, if_neg h]
    by_cases h : r = 5
    · rw [if_pos h, if_pos h]; unfold op_Ends_3.f; rw [timed_eq]; rfl
    rw [if_neg h, if_neg h]
  · rw [decide_eq_false hc, if_pos rfl, Bool.false_and]
def mayv (th : Int) (one : Bool) (id kind : Int) : Int := if id < 0 ∨ id ≥ th then 123 else if 1 ≤ kind ∧ kind ≤ 8 then (if one = true ∧ 4 ≤ kind ∧ kind ≤ 6 ∧ id > 0 then 123 else 0) else 190
theorem may_j (k : Nat) (b0 b1 b2 b3 b4 b5 : Int) (one : Bool) (id kind : Int) (c : Bool) (hid : c = false → 0 ≤ id) :
    op_May.j0 (k + 3) id kind c b0 b1 b2 b3 b4 b5 one = some (if c = true then 123 else if 1 ≤ kind ∧ kind ≤ 8 then (if one = true ∧ 4 ≤ kind ∧ kind ≤ 6 ∧ id > 0 then 123 else 0) else 190) := by
  simp only [op_May.j0]
  by_cases hc : c = true
  · rw [if_pos hc, if_pos hc]
  rw [if_neg hc, if_neg hc, opcheck_eq]; simp only [Option.bind_some]
  by_cases hk : 1 ≤ kind ∧ kind ≤ 8
  · rw [if_pos (decide_eq_true hk), if_pos hk]
    by_cases ho : one = true
    · rw [if_pos ho, side_eq]; simp only [Option.bind_some]
      by_cases hs : 4 ≤ kind ∧ kind ≤ 6
      · rw [if_pos (by have := @sidev_2 kind; rw [decide_eq_true hs] at this; exact eq_of_beq this)]
        by_cases hi : id > 0
        · rw [if_pos hi, if_pos ⟨ho, hs.1, hs.2, hi⟩]
        · rw [if_neg hi, if_neg (fun h => hi h.2.2.2)]
      · rw [if_neg (by have := @sidev_2 kind; rw [decide_eq_false hs] at this; exact ne_of_beq_false this), if_neg (fun h => hs ⟨h.2.1, h.2.2.1⟩)]
    · rw [if_neg ho, if_neg (fun h => ho h.1)]
  · rw [if_neg (by simpa using hk), if_neg hk]
theorem may_eq (k : Nat) (b0 b1 b2 b3 b4 b5 : Int) (one : Bool) (id kind : Int) : op_May.f (k + 3) b0 b1 b2 b3 b4 b5 one id kind = some (mayv b1 one id kind) := by
  unfold op_May.f mayv
  by_cases h0 : id < 0
  · rw [if_pos h0, may_j _ _ _ _ _ _ _ _ _ _ _ (by simp), if_pos rfl, if_pos (.inl h0)]
  · rw [if_neg h0, may_j _ _ _ _ _ _ _ _ _ _ _ (by intro _; omega)]
    by_cases h1 : id ≥ b1
    · rw [decide_eq_true h1, if_pos rfl, if_pos (.inr h1)]
    · rw [decide_eq_false h1, if_neg (by decide), if_neg (show ¬ (id < 0 ∨ id ≥ b1) by omega)]
end Go.Proofs.Ytlhaghkepnfajaa.Pure
