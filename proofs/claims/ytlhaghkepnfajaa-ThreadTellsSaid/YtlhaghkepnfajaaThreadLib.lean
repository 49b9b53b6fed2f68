/- What one thread is about, as plain numbers. -/
import Derived.Test.YtlhaghkepnfajaaOpLib
import Derived.Test.YtlhaghkepnfajaaPLx5
import Derived.Test.YtlhaghkepnfajaaPLx6
import Derived.Test.YtlhaghkepnfajaaPLx8
import Derived.Test.YtlhaghkepnfajaaPLx9
import Derived.Test.YtlhaghkepnfajaaPLx7
namespace Go.Proofs.Ytlhaghkepnfajaa.Pure
open Go.RowKit Go.Proofs.Ytlhaghkepnfajaa.PL Go.Proofs.YtlhaghkepnfajaaW.PrintWords Go.Proofs.YtlhaghkepnfajaaW.PrintLast Go.Proofs.YtlhaghkepnfajaaW.PrintMore
set_option linter.unusedSimpArgs false
set_option linter.unusedVariables false
theorem within_eq (n lo hi : Int) : thread_within.f n lo hi = some (decide (lo ≤ n ∧ n ≤ hi)) := by
  unfold thread_within.f
  by_cases h : n ≥ lo
  · rw [if_pos h]; exact congrArg some (decide_eq_decide.2 (by omega))
  · rw [if_neg h]; exact congrArg some (decide_eq_false (by omega)).symm
section
variable (a0 a1 a2 a3 a4 a5 a6 a7 : Int) (a8 : Bool) (a9 a10 : Int)
/-- May a thread be. -/
def okt : Prop := (0 ≤ a0 ∧ a0 ≤ 2) ∧ (0 ≤ a9 ∧ a9 ≤ 7) ∧ ((1 ≤ a1 ∧ a1 ≤ 8) ∨ (a1 = 0 ∧ a0 = 0)) ∧ ((0 ≤ a3 ∧ a3 ≤ 1099511627776) ∧ ((a1 = 3 ∨ a1 = 6) ∨ (a3 = 0 ∧ a8 = false))) ∧
  ((0 ≤ a4 ∧ a4 ≤ 11) ∧ (0 ≤ a7 ∧ a7 ≤ 1099511627776) ∧ (0 ≤ a5 ∧ a5 ≤ 1099511627776) ∧ (-1 ≤ a6 ∧ a6 ≤ 1099511627776)) ∧ (a0 = 0 → a4 = 0 ∧ a5 = 0 ∧ a6 = 0 ∧ a7 = 0 ∧ a8 = false)
instance : Decidable (okt a0 a1 a3 a4 a5 a6 a7 a8 a9) := by unfold okt; exact inferInstance
/-- What a thread begun is: its fields, and the error. -/
def inv (k v u : Int) : Int × Int × Int × Int × Int × Int × Int × Int × Bool × Int × Int × Int :=
  if a0 ≠ 0 then (a0, a1, a2, a3, a4, a5, a6, a7, a8, a9, a10, 120) else if ¬ (1 ≤ k ∧ k ≤ 8) then (a0, a1, a2, a3, a4, a5, a6, a7, a8, a9, a10, 190)
  else if k = 3 ∨ k = 6 then (if 0 ≤ u ∧ u ≤ 1099511627776 then (1, k, v, u, 0, 0, 0, 0, false, 0, 0, 0) else (a0, a1, a2, a3, a4, a5, a6, a7, a8, a9, a10, 50)) else (1, k, v, 0, 0, 0, 0, 0, false, 0, 0, 0)
theorem invoke_eq (n : Nat) (k v u : Int) : thread_Invoke.f (n + 2) a0 a1 a2 a3 a4 a5 a6 a7 a8 a9 a10 k v u = some (inv a0 a1 a2 a3 a4 a5 a6 a7 a8 a9 a10 k v u) := by
  unfold thread_Invoke.f inv
  rw [timed_eq, opcheck_eq, within_eq]; simp only [Option.bind_some]
  by_cases h0 : a0 = 0
  · rw [if_pos h0, if_neg (show ¬ a0 ≠ 0 from fun hx => hx h0)]
    by_cases h1 : 1 ≤ k ∧ k ≤ 8
    · rw [if_pos (decide_eq_true h1), if_neg (show ¬ ¬ (1 ≤ k ∧ k ≤ 8) from fun hx => hx h1)]
      by_cases h2 : k = 3 ∨ k = 6
      · rw [if_pos (by simpa using h2), if_pos h2]
        by_cases h3 : 0 ≤ u ∧ u ≤ 1099511627776
        · rw [if_pos h3]; simp [thread_Invoke.j0, h2, h3]
        · rw [if_neg h3]; simp [thread_Invoke.j0, h3]
      · rw [if_neg (by simpa using h2), if_neg h2]; simp [thread_Invoke.j0, h2]
    · rw [if_neg (by simpa using h1), if_pos h1]
  · rw [if_neg h0, if_pos (show a0 ≠ 0 from h0)]
def runsv (a0 : Int) : Int := if a0 = 0 then 121 else if a0 = 2 then 122 else 0
theorem runs_eq : thread_Runs.f a0 a1 a2 a3 a4 a5 a6 a7 a8 a9 a10 = some (runsv a0) := by
  unfold thread_Runs.f runsv
  by_cases h : a0 = 0
  · rw [if_pos h, if_pos h]
  · by_cases h2 : a0 = 2
    · rw [if_neg h, if_neg h, if_pos h2, if_pos h2]
    · rw [if_neg h, if_neg h, if_neg h2, if_neg h2]
theorem runsv_ok (a0 : Int) : runsv a0 = 0 ↔ a0 ≠ 0 ∧ a0 ≠ 2 := by
  unfold runsv; repeat' split
  all_goals omega
def parkv (p : Int) : Int × Int × Int × Int × Int × Int × Int × Int × Bool × Int × Int × Int :=
  if a0 ≠ 0 ∧ a0 ≠ 2 then (2, a1, a2, a3, p, a5, a6, 0, a8, a9, a10, 0) else (a0, a1, a2, a3, a4, a5, a6, a7, a8, a9, a10, runsv a0)
theorem park_eq (p : Int) : thread_Park.f a0 a1 a2 a3 a4 a5 a6 a7 a8 a9 a10 p = some (parkv a0 a1 a2 a3 a4 a5 a6 a7 a8 a9 a10 p) := by
  unfold thread_Park.f parkv
  rw [runs_eq]; simp only [Option.bind_some]
  by_cases h : runsv a0 = 0
  · rw [if_pos h, if_pos ((runsv_ok a0).1 h)]
  · rw [if_neg h, if_neg (fun hx => h ((runsv_ok a0).2 hx))]
def donev : Int × Int × Int × Int × Int × Int × Int × Int × Bool × Int × Int × Int :=
  if a0 ≠ 0 ∧ a0 ≠ 2 then (0, a1, a2, a3, 0, 0, 0, 0, false, a9, a10, 0) else (a0, a1, a2, a3, a4, a5, a6, a7, a8, a9, a10, runsv a0)
theorem done_eq : thread_Done.f a0 a1 a2 a3 a4 a5 a6 a7 a8 a9 a10 = some (donev a0 a1 a2 a3 a4 a5 a6 a7 a8 a9 a10) := by
  unfold thread_Done.f donev thread_one_bare.f
  rw [runs_eq]; simp only [Option.bind_some]
  by_cases h : runsv a0 = 0
  · rw [if_pos h, if_pos ((runsv_ok a0).1 h)]
  · rw [if_neg h, if_neg (fun hx => h ((runsv_ok a0).2 hx))]
def wakev : Int × Int × Int × Int × Int × Int × Int × Int × Bool × Int × Int := (if a0 = 2 then 1 else a0, a1, a2, a3, a4, a5, a6, a7, a8, a9, a10)
theorem wake_eq : thread_Wake.f a0 a1 a2 a3 a4 a5 a6 a7 a8 a9 a10 = some (wakev a0 a1 a2 a3 a4 a5 a6 a7 a8 a9 a10) := by
  unfold thread_Wake.f wakev
  by_cases h : a0 = 2
  · rw [if_pos h, if_pos h]
  · rw [if_neg h, if_neg h]
theorem late_eq (now : Int) : thread_Late.f a0 a1 a2 a3 a4 a5 a6 a7 a8 a9 a10 now = some (decide ((a1 = 3 ∨ a1 = 6) ∧ a0 ≠ 0 ∧ a3 ≤ now)) := by
  unfold thread_Late.f
  rw [timed_eq]; simp only [Option.bind_some]
  by_cases h : a1 = 3 ∨ a1 = 6
  · rw [if_pos (by simpa using h)]
    by_cases h0 : a0 = 0
    · rw [if_pos h0]; simp [h0]
    · rw [if_neg h0]; simp [h, h0]
  · rw [if_neg (by simpa using h)]; simp [h]
theorem kind_eq (n : Nat) : thread_one_kind.f (n + 2) a0 a1 a2 a3 a4 a5 a6 a7 a8 a9 a10 = some (decide ((1 ≤ a1 ∧ a1 ≤ 8) ∨ (a1 = 0 ∧ a0 = 0))) := by
  unfold thread_one_kind.f
  rw [opcheck_eq]; simp only [Option.bind_some]
  by_cases h : 1 ≤ a1 ∧ a1 ≤ 8
  · rw [if_pos (by simpa using h)]; simp [h]
  · rw [if_neg (by simpa using h)]
    by_cases h0 : a1 = 0
    · rw [if_pos h0]; simp [h0, Bool.beq_eq_decide_eq]
    · rw [if_neg h0]; simp [h, h0]
theorem time_eq : thread_one_time.f a0 a1 a2 a3 a4 a5 a6 a7 a8 a9 a10 = some (decide ((0 ≤ a3 ∧ a3 ≤ 1099511627776) ∧ ((a1 = 3 ∨ a1 = 6) ∨ (a3 = 0 ∧ a8 = false)))) := by
  unfold thread_one_time.f
  rw [timed_eq, within_eq]; simp only [Option.bind_some]
  by_cases h : 0 ≤ a3 ∧ a3 ≤ 1099511627776
  · rw [if_pos (by simpa using h)]
    by_cases h0 : a1 = 3 ∨ a1 = 6
    · rw [if_pos (by simpa using h0)]; simp [h, h0]
    · rw [if_neg (by simpa using h0)]
      by_cases h1 : a3 = 0
      · rw [if_pos h1]; cases a8 <;> simp [h1, h0]
      · rw [if_neg h1]; simp [h0, h1]
  · rw [if_neg (by simpa using h)]; simp [h]
theorem place_eq : thread_one_place.f a0 a1 a2 a3 a4 a5 a6 a7 a8 a9 a10 = some (decide ((0 ≤ a4 ∧ a4 ≤ 11) ∧ (0 ≤ a7 ∧ a7 ≤ 1099511627776) ∧ (0 ≤ a5 ∧ a5 ≤ 1099511627776) ∧ (-1 ≤ a6 ∧ a6 ≤ 1099511627776))) := by
  unfold thread_one_place.f
  rw [within_eq, within_eq, within_eq, within_eq]; simp only [Option.bind_some]
  by_cases h : 0 ≤ a4 ∧ a4 ≤ 11
  · rw [if_pos (by simpa using h)]
    by_cases h0 : 0 ≤ a7 ∧ a7 ≤ 1099511627776
    · rw [if_pos (by simpa using h0)]
      by_cases h1 : 0 ≤ a5 ∧ a5 ≤ 1099511627776
      · rw [if_pos (by simpa using h1)]; exact congrArg some (decide_eq_decide.2 (by omega))
      · rw [if_neg (by simpa using h1)]; exact congrArg some (decide_eq_false (by omega)).symm
    · rw [if_neg (by simpa using h0)]; exact congrArg some (decide_eq_false (by omega)).symm
  · rw [if_neg (by simpa using h)]; exact congrArg some (decide_eq_false (by omega)).symm
theorem check0_eq (n : Nat) (b : Bool) : thread_Check.j0 (n + 3) b a0 a1 a2 a3 a4 a5 a6 a7 a8 a9 a10 = some (decide ((0 ≤ a0 ∧ a0 ≤ 2) ∧ (0 ≤ a9 ∧ a9 ≤ 7) ∧ ((1 ≤ a1 ∧ a1 ≤ 8) ∨ (a1 = 0 ∧ a0 = 0)) ∧ ((0 ≤ a3 ∧ a3 ≤ 1099511627776) ∧ ((a1 = 3 ∨ a1 = 6) ∨ (a3 = 0 ∧ a8 = false))) ∧
  ((0 ≤ a4 ∧ a4 ≤ 11) ∧ (0 ≤ a7 ∧ a7 ≤ 1099511627776) ∧ (0 ≤ a5 ∧ a5 ≤ 1099511627776) ∧ (-1 ≤ a6 ∧ a6 ≤ 1099511627776))) && b) := by
  simp only [thread_Check.j0]
  rw [within_eq, within_eq, kind_eq, time_eq, place_eq]; simp only [Option.bind_some]
  by_cases h1 : 0 ≤ a0 ∧ a0 ≤ 2
  · rw [if_pos (by simpa using h1)]
    by_cases h2 : 0 ≤ a9 ∧ a9 ≤ 7
    · rw [if_pos (by simpa using h2)]
      by_cases h3 : (1 ≤ a1 ∧ a1 ≤ 8) ∨ (a1 = 0 ∧ a0 = 0)
      · rw [if_pos (by simpa using h3)]
        by_cases h4 : (0 ≤ a3 ∧ a3 ≤ 1099511627776) ∧ ((a1 = 3 ∨ a1 = 6) ∨ (a3 = 0 ∧ a8 = false))
        · rw [if_pos (by simpa using h4)]
          by_cases h5 : (0 ≤ a4 ∧ a4 ≤ 11) ∧ (0 ≤ a7 ∧ a7 ≤ 1099511627776) ∧ (0 ≤ a5 ∧ a5 ≤ 1099511627776) ∧ (-1 ≤ a6 ∧ a6 ≤ 1099511627776)
          · rw [if_pos (by simpa using h5)]
            rw [decide_eq_true (⟨h1, h2, h3, h4, h5⟩ : _ ∧ _ ∧ _ ∧ _ ∧ _)]; rfl
          · rw [if_neg (by simpa using h5), decide_eq_false (fun hx => h5 hx.2.2.2.2)]; rfl
        · rw [if_neg (by simpa using h4), decide_eq_false (fun hx => h4 hx.2.2.2.1)]; rfl
      · rw [if_neg (by simpa using h3), decide_eq_false (fun hx => h3 hx.2.2.1)]; rfl
    · rw [if_neg (by simpa using h2), decide_eq_false (fun hx => h2 hx.2.1)]; rfl
  · rw [if_neg (by simpa using h1), decide_eq_false (fun hx => h1 hx.1)]; rfl
theorem tcheck_eq (n : Nat) : thread_Check.f (n + 3) a0 a1 a2 a3 a4 a5 a6 a7 a8 a9 a10 = some (decide (okt a0 a1 a3 a4 a5 a6 a7 a8 a9)) := by
  unfold thread_Check.f thread_one_bare.f okt
  simp only [Option.bind_some]
  rw [check0_eq, check0_eq]
  by_cases h : a0 = 0
  · rw [if_pos h]
    congr 1
    rw [Bool.eq_iff_iff]
    simp only [Bool.and_eq_true, decide_eq_true_eq, beq_iff_eq, h, forall_const, beq_self_eq_true, true_and, and_true]
    constructor
    · rintro ⟨⟨x1, x2, x3, x4, x5⟩, x6⟩; exact ⟨x1, x2, x3, x4, x5, x6⟩
    · rintro ⟨x1, x2, x3, x4, x5, x6⟩; exact ⟨⟨x1, x2, x3, x4, x5⟩, x6⟩
  · rw [if_neg h]
    congr 1
    rw [Bool.eq_iff_iff]
    simp only [Bool.and_eq_true, decide_eq_true_eq, h, false_imp_iff, and_true]
variable {a0 a1 a2 a3 a4 a5 a6 a7 : Int} {a8 : Bool} {a9 a10 : Int}
theorem inv_busy {k v u : Int} (h : a0 ≠ 0) : inv a0 a1 a2 a3 a4 a5 a6 a7 a8 a9 a10 k v u = (a0, a1, a2, a3, a4, a5, a6, a7, a8, a9, a10, 120) := by unfold inv; rw [if_pos h]
theorem inv_call {k v u : Int} (h : a0 = 0) (h1 : ¬ (1 ≤ k ∧ k ≤ 8)) : inv a0 a1 a2 a3 a4 a5 a6 a7 a8 a9 a10 k v u = (a0, a1, a2, a3, a4, a5, a6, a7, a8, a9, a10, 190) := by unfold inv; rw [if_neg (show ¬ a0 ≠ 0 from fun hx => hx h), if_pos h1]
theorem inv_time {k v u : Int} (h : a0 = 0) (h1 : 1 ≤ k ∧ k ≤ 8) (h2 : k = 3 ∨ k = 6) (h3 : ¬ (0 ≤ u ∧ u ≤ 1099511627776)) : inv a0 a1 a2 a3 a4 a5 a6 a7 a8 a9 a10 k v u = (a0, a1, a2, a3, a4, a5, a6, a7, a8, a9, a10, 50) := by unfold inv; rw [if_neg (show ¬ a0 ≠ 0 from fun hx => hx h), if_neg (show ¬ ¬ (1 ≤ k ∧ k ≤ 8) from fun hx => hx h1), if_pos h2, if_neg h3]
theorem inv_timed {k v u : Int} (h : a0 = 0) (h1 : 1 ≤ k ∧ k ≤ 8) (h2 : k = 3 ∨ k = 6) (h3 : 0 ≤ u ∧ u ≤ 1099511627776) : inv a0 a1 a2 a3 a4 a5 a6 a7 a8 a9 a10 k v u = (1, k, v, u, 0, 0, 0, 0, false, 0, 0, 0) := by unfold inv; rw [if_neg (show ¬ a0 ≠ 0 from fun hx => hx h), if_neg (show ¬ ¬ (1 ≤ k ∧ k ≤ 8) from fun hx => hx h1), if_pos h2, if_pos h3]
theorem inv_plain {k v u : Int} (h : a0 = 0) (h1 : 1 ≤ k ∧ k ≤ 8) (h2 : ¬ (k = 3 ∨ k = 6)) : inv a0 a1 a2 a3 a4 a5 a6 a7 a8 a9 a10 k v u = (1, k, v, 0, 0, 0, 0, 0, false, 0, 0, 0) := by unfold inv; rw [if_neg (show ¬ a0 ≠ 0 from fun hx => hx h), if_neg (show ¬ ¬ (1 ≤ k ∧ k ≤ 8) from fun hx => hx h1), if_neg h2]
theorem park_yes {p : Int} (h : a0 ≠ 0 ∧ a0 ≠ 2) : parkv a0 a1 a2 a3 a4 a5 a6 a7 a8 a9 a10 p = (2, a1, a2, a3, p, a5, a6, 0, a8, a9, a10, 0) := by unfold parkv; rw [if_pos h]
theorem park_no {p : Int} (h : ¬ (a0 ≠ 0 ∧ a0 ≠ 2)) : parkv a0 a1 a2 a3 a4 a5 a6 a7 a8 a9 a10 p = (a0, a1, a2, a3, a4, a5, a6, a7, a8, a9, a10, runsv a0) := by unfold parkv; rw [if_neg h]
theorem done_yes (h : a0 ≠ 0 ∧ a0 ≠ 2) : donev a0 a1 a2 a3 a4 a5 a6 a7 a8 a9 a10 = (0, a1, a2, a3, 0, 0, 0, 0, false, a9, a10, 0) := by unfold donev; rw [if_pos h]
theorem done_no (h : ¬ (a0 ≠ 0 ∧ a0 ≠ 2)) : donev a0 a1 a2 a3 a4 a5 a6 a7 a8 a9 a10 = (a0, a1, a2, a3, a4, a5, a6, a7, a8, a9, a10, runsv a0) := by unfold donev; rw [if_neg h]
theorem okt_inv {k v u : Int} (h : okt a0 a1 a3 a4 a5 a6 a7 a8 a9) : okt (inv a0 a1 a2 a3 a4 a5 a6 a7 a8 a9 a10 k v u).1 (inv a0 a1 a2 a3 a4 a5 a6 a7 a8 a9 a10 k v u).2.1 (inv a0 a1 a2 a3 a4 a5 a6 a7 a8 a9 a10 k v u).2.2.2.1 (inv a0 a1 a2 a3 a4 a5 a6 a7 a8 a9 a10 k v u).2.2.2.2.1 (inv a0 a1 a2 a3 a4 a5 a6 a7 a8 a9 a10 k v u).2.2.2.2.2.1 (inv a0 a1 a2 a3 a4 a5 a6 a7 a8 a9 a10 k v u).2.2.2.2.2.2.1 (inv a0 a1 a2 a3 a4 a5 a6 a7 a8 a9 a10 k v u).2.2.2.2.2.2.2.1 (inv a0 a1 a2 a3 a4 a5 a6 a7 a8 a9 a10 k v u).2.2.2.2.2.2.2.2.1 (inv a0 a1 a2 a3 a4 a5 a6 a7 a8 a9 a10 k v u).2.2.2.2.2.2.2.2.2.1 := by
  by_cases h0 : a0 = 0
  · by_cases h1 : 1 ≤ k ∧ k ≤ 8
    · by_cases h2 : k = 3 ∨ k = 6
      · by_cases h3 : 0 ≤ u ∧ u ≤ 1099511627776
        · rw [inv_timed h0 h1 h2 h3]; unfold okt; simp; omega
        · rw [inv_time h0 h1 h2 h3]; exact h
      · rw [inv_plain h0 h1 h2]; unfold okt; simp; omega
    · rw [inv_call h0 h1]; exact h
  · rw [inv_busy h0]; exact h
theorem okt_park {p : Int} (hp : 0 ≤ p ∧ p ≤ 11) (h : okt a0 a1 a3 a4 a5 a6 a7 a8 a9) : okt (parkv a0 a1 a2 a3 a4 a5 a6 a7 a8 a9 a10 p).1 (parkv a0 a1 a2 a3 a4 a5 a6 a7 a8 a9 a10 p).2.1 (parkv a0 a1 a2 a3 a4 a5 a6 a7 a8 a9 a10 p).2.2.2.1 (parkv a0 a1 a2 a3 a4 a5 a6 a7 a8 a9 a10 p).2.2.2.2.1 (parkv a0 a1 a2 a3 a4 a5 a6 a7 a8 a9 a10 p).2.2.2.2.2.1 (parkv a0 a1 a2 a3 a4 a5 a6 a7 a8 a9 a10 p).2.2.2.2.2.2.1 (parkv a0 a1 a2 a3 a4 a5 a6 a7 a8 a9 a10 p).2.2.2.2.2.2.2.1 (parkv a0 a1 a2 a3 a4 a5 a6 a7 a8 a9 a10 p).2.2.2.2.2.2.2.2.1 (parkv a0 a1 a2 a3 a4 a5 a6 a7 a8 a9 a10 p).2.2.2.2.2.2.2.2.2.1 := by
  by_cases h0 : a0 ≠ 0 ∧ a0 ≠ 2
  · rw [park_yes h0]
    obtain ⟨x1, x2, x3, x4, x5, x6⟩ := h
    show okt 2 a1 a3 p a5 a6 0 a8 a9
    exact ⟨by decide, x2, .inl (by omega), x4, ⟨hp, by decide, x5.2.2.1, x5.2.2.2⟩, fun hx => absurd hx (by decide)⟩
  · rw [park_no h0]; exact h
theorem okt_done (h : okt a0 a1 a3 a4 a5 a6 a7 a8 a9) : okt (donev a0 a1 a2 a3 a4 a5 a6 a7 a8 a9 a10).1 (donev a0 a1 a2 a3 a4 a5 a6 a7 a8 a9 a10).2.1 (donev a0 a1 a2 a3 a4 a5 a6 a7 a8 a9 a10).2.2.2.1 (donev a0 a1 a2 a3 a4 a5 a6 a7 a8 a9 a10).2.2.2.2.1 (donev a0 a1 a2 a3 a4 a5 a6 a7 a8 a9 a10).2.2.2.2.2.1 (donev a0 a1 a2 a3 a4 a5 a6 a7 a8 a9 a10).2.2.2.2.2.2.1 (donev a0 a1 a2 a3 a4 a5 a6 a7 a8 a9 a10).2.2.2.2.2.2.2.1 (donev a0 a1 a2 a3 a4 a5 a6 a7 a8 a9 a10).2.2.2.2.2.2.2.2.1 (donev a0 a1 a2 a3 a4 a5 a6 a7 a8 a9 a10).2.2.2.2.2.2.2.2.2.1 := by
  by_cases h0 : a0 ≠ 0 ∧ a0 ≠ 2
  · rw [done_yes h0]
    obtain ⟨x1, x2, x3, x4, x5, x6⟩ := h
    show okt 0 a1 a3 0 0 0 0 false a9
    exact ⟨by decide, x2, .inl (by omega), ⟨x4.1, x4.2.imp_right fun hx => ⟨hx.1, rfl⟩⟩, ⟨by decide, by decide, by decide, by decide⟩, fun _ => ⟨rfl, rfl, rfl, rfl, rfl⟩⟩
  · rw [done_no h0]; exact h
theorem okt_wake (h : okt a0 a1 a3 a4 a5 a6 a7 a8 a9) : okt (wakev a0 a1 a2 a3 a4 a5 a6 a7 a8 a9 a10).1 (wakev a0 a1 a2 a3 a4 a5 a6 a7 a8 a9 a10).2.1 (wakev a0 a1 a2 a3 a4 a5 a6 a7 a8 a9 a10).2.2.2.1 (wakev a0 a1 a2 a3 a4 a5 a6 a7 a8 a9 a10).2.2.2.2.1 (wakev a0 a1 a2 a3 a4 a5 a6 a7 a8 a9 a10).2.2.2.2.2.1 (wakev a0 a1 a2 a3 a4 a5 a6 a7 a8 a9 a10).2.2.2.2.2.2.1 (wakev a0 a1 a2 a3 a4 a5 a6 a7 a8 a9 a10).2.2.2.2.2.2.2.1 (wakev a0 a1 a2 a3 a4 a5 a6 a7 a8 a9 a10).2.2.2.2.2.2.2.2.1 (wakev a0 a1 a2 a3 a4 a5 a6 a7 a8 a9 a10).2.2.2.2.2.2.2.2.2.1 := by
  unfold wakev
  by_cases h0 : a0 = 2
  · rw [if_pos h0]
    obtain ⟨x1, x2, x3, x4, x5, x6⟩ := h
    show okt 1 a1 a3 a4 a5 a6 a7 a8 a9
    exact ⟨by decide, x2, .inl (by omega), x4, x5, fun hx => absurd hx (by decide)⟩
  · rw [if_neg h0]; exact h
end
end Go.Proofs.Ytlhaghkepnfajaa.Pure
