/- What the document's answers on threads are, as plain numbers. -/
import Derived.Test.YtlhaghkepnfajaaThreadLib
import Derived.Test.YtlhaghkepnfajaaPLx10
import Derived.Test.YtlhaghkepnfajaaPLx11
import Derived.Test.YtlhaghkepnfajaaPLx12
import Derived.Test.YtlhaghkepnfajaaPLx3
namespace Go.Proofs.Ytlhaghkepnfajaa.Pure
open Go.RowKit Go.Proofs.Ytlhaghkepnfajaa.PL Go.Proofs.YtlhaghkepnfajaaW.PrintWords Go.Proofs.YtlhaghkepnfajaaW.PrintLast Go.Proofs.YtlhaghkepnfajaaW.PrintMore
set_option linter.unusedSimpArgs false
set_option linter.unusedVariables false
theorem rtimed_eq (a : Int) : sakiaref11_Timed.f a = some (decide (a = 3 ∨ a = 6)) := by
  unfold sakiaref11_Timed.f
  by_cases h : a = 3
  · rw [if_pos h]; simp [h]
  · rw [if_neg h]; congr 1; simp [h, Bool.beq_eq_decide_eq]
section
variable (a0 a1 a2 a3 a4 a5 a6 a7 : Int) (a8 : Bool) (a9 a10 : Int)
theorem rinvoke_eq (n : Nat) (k v u : Int) : sakiaref12_Invoke.f (n + 1) a0 a1 a2 a3 a4 a5 a6 a7 a8 a9 a10 k v u = some (inv a0 a1 a2 a3 a4 a5 a6 a7 a8 a9 a10 k v u) := by
  unfold sakiaref12_Invoke.f inv
  by_cases h0 : a0 = 0
  · rw [if_pos h0, if_neg (show ¬ a0 ≠ 0 from fun hx => hx h0)]
    by_cases h1 : 1 ≤ k ∧ k ≤ 8
    · rw [if_neg (show ¬ k < 1 by omega), if_neg (show ¬ ¬ (1 ≤ k ∧ k ≤ 8) from fun hx => hx h1), decide_eq_false (show ¬ k > 8 by omega)]
      simp only [sakiaref12_Invoke.j0, rtimed_eq, Option.bind_some]
      rw [if_neg (by decide)]
      by_cases h2 : k = 3 ∨ k = 6
      · rw [if_pos (decide_eq_true h2), if_pos h2]
        by_cases h3 : 0 ≤ u ∧ u ≤ 1099511627776
        · rw [if_pos h3, if_neg (by omega), if_neg (by omega)]
        · rw [if_neg h3]
          by_cases h4 : u < 0
          · rw [if_pos h4]
          · rw [if_neg h4, if_pos (by omega)]
      · rw [if_neg (by simpa using h2), if_neg h2]
    · rw [if_pos (show ¬ (1 ≤ k ∧ k ≤ 8) from h1)]
      by_cases h2 : k < 1
      · rw [if_pos h2]; simp [sakiaref12_Invoke.j0]
      · rw [if_neg h2, decide_eq_true (show k > 8 by omega)]; simp [sakiaref12_Invoke.j0]
  · rw [if_neg h0, if_pos (show a0 ≠ 0 from h0)]
theorem rruns_eq : sakiaref12_Runs.f a0 a1 a2 a3 a4 a5 a6 a7 a8 a9 a10 = some (runsv a0) := by
  unfold sakiaref12_Runs.f runsv
  by_cases h : a0 = 0
  · rw [if_pos h, if_pos h]
  · by_cases h2 : a0 = 2
    · rw [if_neg h, if_neg h, if_pos h2, if_pos h2]
    · rw [if_neg h, if_neg h, if_neg h2, if_neg h2]
theorem rpark_eq (p : Int) : sakiaref12_Park.f a0 a1 a2 a3 a4 a5 a6 a7 a8 a9 a10 p = some (parkv a0 a1 a2 a3 a4 a5 a6 a7 a8 a9 a10 p) := by
  unfold sakiaref12_Park.f parkv
  rw [rruns_eq]; simp only [Option.bind_some]
  by_cases h : runsv a0 = 0
  · rw [if_pos h, if_pos ((runsv_ok a0).1 h)]
  · rw [if_neg h, if_neg (fun hx => h ((runsv_ok a0).2 hx))]
theorem rdone_eq : sakiaref12_Done.f a0 a1 a2 a3 a4 a5 a6 a7 a8 a9 a10 = some (donev a0 a1 a2 a3 a4 a5 a6 a7 a8 a9 a10) := by
  unfold sakiaref12_Done.f donev
  rw [rruns_eq]; simp only [Option.bind_some]
  by_cases h : runsv a0 = 0
  · rw [if_pos h, if_pos ((runsv_ok a0).1 h)]
  · rw [if_neg h, if_neg (fun hx => h ((runsv_ok a0).2 hx))]
theorem rwake_eq : sakiaref12_Wake.f a0 a1 a2 a3 a4 a5 a6 a7 a8 a9 a10 = some (wakev a0 a1 a2 a3 a4 a5 a6 a7 a8 a9 a10) := by
  unfold sakiaref12_Wake.f wakev
  by_cases h : a0 = 2
  · rw [if_pos h, if_pos h]
  · rw [if_neg h, if_neg h]
theorem rlate_eq (now : Int) : sakiaref12_Late.f a0 a1 a2 a3 a4 a5 a6 a7 a8 a9 a10 now = some (decide ((a1 = 3 ∨ a1 = 6) ∧ a0 ≠ 0 ∧ a3 ≤ now)) := by
  unfold sakiaref12_Late.f
  rw [rtimed_eq]; simp only [Option.bind_some]
  by_cases h : a1 = 3 ∨ a1 = 6
  · rw [if_pos (by simpa using h)]
    by_cases h0 : a0 = 0
    · rw [if_pos h0]; simp [h0]
    · rw [if_neg h0]; simp [h, h0]
  · rw [if_neg (by simpa using h)]; simp [h]
theorem rcheck1_eq (n : Nat) : sakiaref12_Check.j1 (n + 1) false a0 a1 a2 a3 a4 a5 a6 a7 a8 a9 a10 = some (decide (((a1 = 3 ∨ a1 = 6) ∨ (a3 = 0 ∧ a8 = false)) ∧ (a0 = 0 → a4 = 0 ∧ a5 = 0 ∧ a6 = 0 ∧ a7 = 0 ∧ a8 = false))) := by
  simp only [sakiaref12_Check.j1, rtimed_eq, Option.bind_some]
  rw [if_neg (by decide)]
  by_cases h : a1 = 3 ∨ a1 = 6
  · rw [if_pos (by simpa using h)]
    by_cases h0 : a0 = 0
    · rw [if_pos h0]
      by_cases h4 : a4 = 0
      · by_cases h5 : a5 = 0
        · by_cases h6 : a6 = 0
          · by_cases h7 : a7 = 0
            · rw [if_pos h4, if_pos h5, if_pos h6, if_pos h7]; cases a8 <;> simp [h, h0, h4, h5, h6, h7]
            · rw [if_pos h4, if_pos h5, if_pos h6, if_neg h7]; simp [h0, h7]
          · rw [if_pos h4, if_pos h5, if_neg h6]; simp [h0, h6]
        · rw [if_pos h4, if_neg h5]; simp [h0, h5]
      · rw [if_neg h4]; simp [h0, h4]
    · rw [if_neg h0]; simp [h, h0]
  · rw [if_neg (by simpa using h)]
    by_cases h3 : a3 = 0
    · rw [if_pos h3]
      cases a8 with
      | true => simp [h]
      | false =>
        rw [if_neg (by decide)]
        by_cases h0 : a0 = 0
        · rw [if_pos h0]
          by_cases h4 : a4 = 0
          · by_cases h5 : a5 = 0
            · by_cases h6 : a6 = 0
              · by_cases h7 : a7 = 0
                · rw [if_pos h4, if_pos h5, if_pos h6, if_pos h7]; simp [h3, h0, h4, h5, h6, h7]
                · rw [if_pos h4, if_pos h5, if_pos h6, if_neg h7]; simp [h0, h7]
              · rw [if_pos h4, if_pos h5, if_neg h6]; simp [h0, h6]
            · rw [if_pos h4, if_neg h5]; simp [h0, h5]
          · rw [if_neg h4]; simp [h0, h4]
        · rw [if_neg h0]; simp [h3, h0]
    · rw [if_neg h3]; simp [h, h3]
theorem rcheck1_true (n : Nat) : sakiaref12_Check.j1 (n + 1) true a0 a1 a2 a3 a4 a5 a6 a7 a8 a9 a10 = some false := by
  simp [sakiaref12_Check.j1]
def rng : Prop := (0 ≤ a3 ∧ a3 ≤ 1099511627776) ∧ (0 ≤ a4 ∧ a4 ≤ 11) ∧ (0 ≤ a7 ∧ a7 ≤ 1099511627776) ∧ (0 ≤ a5 ∧ a5 ≤ 1099511627776) ∧ (-1 ≤ a6 ∧ a6 ≤ 1099511627776) ∧ (0 ≤ a9 ∧ a9 ≤ 7)
instance : Decidable (rng a3 a4 a5 a6 a7 a9) := by unfold rng; exact inferInstance
theorem rcheck0_eq (n : Nat) : sakiaref12_Check.j0 (n + 2) false a0 a1 a2 a3 a4 a5 a6 a7 a8 a9 a10 = if rng a3 a4 a5 a6 a7 a9 then sakiaref12_Check.j1 (n + 1) false a0 a1 a2 a3 a4 a5 a6 a7 a8 a9 a10 else some false := by
  simp only [sakiaref12_Check.j0]
  rw [if_neg (by decide)]
  by_cases c : rng a3 a4 a5 a6 a7 a9
  · rw [if_pos c]
    unfold rng at c
    rw [if_neg (show ¬ a3 < 0 by omega), if_neg (show ¬ a3 > 1099511627776 by omega), if_neg (show ¬ a4 < 0 by omega), if_neg (show ¬ a4 > 11 by omega), if_neg (show ¬ a7 < 0 by omega), if_neg (show ¬ a7 > 1099511627776 by omega), if_neg (show ¬ a5 < 0 by omega), if_neg (show ¬ a5 > 1099511627776 by omega), if_neg (show ¬ a6 < -1 by omega), if_neg (show ¬ a6 > 1099511627776 by omega), if_neg (show ¬ a9 < 0 by omega), decide_eq_false (show ¬ a9 > 7 by omega)]
  · rw [if_neg c]
    unfold rng at c
    simp only [rcheck1_true]
    by_cases h1 : a3 < 0
    · rw [if_pos h1]
    by_cases h2 : a3 > 1099511627776
    · rw [if_neg h1, if_pos h2]
    by_cases h3 : a4 < 0
    · rw [if_neg h1, if_neg h2, if_pos h3]
    by_cases h4 : a4 > 11
    · rw [if_neg h1, if_neg h2, if_neg h3, if_pos h4]
    by_cases h5 : a7 < 0
    · rw [if_neg h1, if_neg h2, if_neg h3, if_neg h4, if_pos h5]
    by_cases h6 : a7 > 1099511627776
    · rw [if_neg h1, if_neg h2, if_neg h3, if_neg h4, if_neg h5, if_pos h6]
    by_cases h7 : a5 < 0
    · rw [if_neg h1, if_neg h2, if_neg h3, if_neg h4, if_neg h5, if_neg h6, if_pos h7]
    by_cases h8 : a5 > 1099511627776
    · rw [if_neg h1, if_neg h2, if_neg h3, if_neg h4, if_neg h5, if_neg h6, if_neg h7, if_pos h8]
    by_cases h9 : a6 < -1
    · rw [if_neg h1, if_neg h2, if_neg h3, if_neg h4, if_neg h5, if_neg h6, if_neg h7, if_neg h8, if_pos h9]
    by_cases h10 : a6 > 1099511627776
    · rw [if_neg h1, if_neg h2, if_neg h3, if_neg h4, if_neg h5, if_neg h6, if_neg h7, if_neg h8, if_neg h9, if_pos h10]
    by_cases h11 : a9 < 0
    · rw [if_neg h1, if_neg h2, if_neg h3, if_neg h4, if_neg h5, if_neg h6, if_neg h7, if_neg h8, if_neg h9, if_neg h10, if_pos h11]
    rw [if_neg h1, if_neg h2, if_neg h3, if_neg h4, if_neg h5, if_neg h6, if_neg h7, if_neg h8, if_neg h9, if_neg h10, if_neg h11, decide_eq_true (show a9 > 7 by omega), rcheck1_true]
theorem rcheck00_eq (n : Nat) : sakiaref12_Check.j0 (n + 2) true a0 a1 a2 a3 a4 a5 a6 a7 a8 a9 a10 = some false := by
  simp [sakiaref12_Check.j0]
theorem rtcheck_eq (n : Nat) : sakiaref12_Check.f (n + 2) a0 a1 a2 a3 a4 a5 a6 a7 a8 a9 a10 = some (decide (okt a0 a1 a3 a4 a5 a6 a7 a8 a9)) := by
  unfold sakiaref12_Check.f
  have no : ¬ ((0 ≤ a0 ∧ a0 ≤ 2) ∧ ((1 ≤ a1 ∧ a1 ≤ 8) ∨ (a1 = 0 ∧ a0 = 0))) → some false = some (decide (okt a0 a1 a3 a4 a5 a6 a7 a8 a9)) := by
    intro h
    rw [decide_eq_false (fun hx => h ⟨hx.1, hx.2.2.1⟩)]
  have yes : ((0 ≤ a0 ∧ a0 ≤ 2) ∧ ((1 ≤ a1 ∧ a1 ≤ 8) ∨ (a1 = 0 ∧ a0 = 0))) → sakiaref12_Check.j0 (n + 2) false a0 a1 a2 a3 a4 a5 a6 a7 a8 a9 a10 = some (decide (okt a0 a1 a3 a4 a5 a6 a7 a8 a9)) := by
    intro h
    rw [rcheck0_eq]
    by_cases c : rng a3 a4 a5 a6 a7 a9
    · rw [if_pos c, rcheck1_eq]
      unfold rng at c
      refine congrArg some (decide_eq_decide.2 ⟨fun hx => ?_, fun hx => ⟨hx.2.2.2.1.2, hx.2.2.2.2.2⟩⟩)
      exact ⟨h.1, c.2.2.2.2.2, h.2, ⟨c.1, hx.1⟩, ⟨c.2.1, c.2.2.1, c.2.2.2.1, c.2.2.2.2.1⟩, hx.2⟩
    · rw [if_neg c, decide_eq_false (fun hx => c ⟨hx.2.2.2.1.1, hx.2.2.2.2.1.1, hx.2.2.2.2.1.2.1, hx.2.2.2.2.1.2.2.1, hx.2.2.2.2.1.2.2.2, hx.2.1⟩)]
  by_cases h1 : a0 < 0
  · rw [if_pos h1, rcheck00_eq]; exact no (by omega)
  by_cases h2 : a0 > 2
  · rw [if_neg h1, if_pos h2, rcheck00_eq]; exact no (by omega)
  by_cases h3 : a1 < 0
  · rw [if_neg h1, if_neg h2, if_pos h3, rcheck00_eq]; exact no (by omega)
  by_cases h4 : a1 > 8
  · rw [if_neg h1, if_neg h2, if_neg h3, if_pos h4, rcheck00_eq]; exact no (by omega)
  rw [if_neg h1, if_neg h2, if_neg h3, if_neg h4]
  by_cases h5 : a1 = 0
  · rw [if_pos h5]
    by_cases h6 : a0 = 0
    · rw [show (a0 != 0) = false by simp [h6]]; exact yes (by omega)
    · rw [show (a0 != 0) = true by simp [h6], rcheck00_eq]; exact no (by omega)
  · rw [if_neg h5]; exact yes (by omega)
end
end Go.Proofs.Ytlhaghkepnfajaa.Pure
