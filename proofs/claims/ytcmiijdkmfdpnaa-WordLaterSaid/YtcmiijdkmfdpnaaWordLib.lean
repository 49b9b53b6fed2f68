/- What is done to a ring's word at once, as plain numbers. -/
import Derived.Test.YtcmiijdkmfdpnaaPosWord
import Derived.Test.YtcmiijdkmfdpnaaPLx3
import Derived.Test.YtcmiijdkmfdpnaaPLx4
import Derived.OpenShut
namespace Go.Proofs.Ytcmiijdkmfdpnaa.Pure
open Go.RowKit Go.Proofs.Ytcmiijdkmfdpnaa.PL Go.Proofs.YtcmiijdkmfdpnaaW.PrintWords Go.Proofs.YtcmiijdkmfdpnaaW.PrintLast Go.Proofs.YtcmiijdkmfdpnaaW.PrintMore
set_option linter.unusedSimpArgs false
set_option linter.unusedVariables false
theorem lenv_ok {h t : Int} (h0 : 0 ≤ h) (h1 : h ≤ t) : lenv h t = t - h := by
  unfold lenv
  by_cases hx : t ≤ h
  · rw [if_pos hx]; omega
  · rw [if_neg hx, if_neg (by omega)]
section
variable (k : Nat) (h t m r : Int)
def accv : Int × Int × Int × Int × Int := if ¬ okw h t m r ∨ m = 2 then (h, t, m, 0, 7) else if m = 1 then (h, t, m, 0, 6) else if r ≤ t - h ∨ t = 1099511627776 then (h, t, m, 0, 2) else (h, t + 1, m, t, 1)
def takev : Int × Int × Int × Int × Int := if ¬ okw h t m r ∨ m = 2 then (h, t, m, 0, 7) else if h < t then (h + 1, t, m, h, 1) else if m = 1 then (h, t, m, 0, 6) else (h, t, m, 0, 4)
def evictv (hd : Int) : Int × Int × Int × Bool := if h = hd ∧ m = 0 ∧ okw h t m r ∧ r ≤ t - h ∧ h < t then (h + 1, t, m, true) else (h, t, m, false)
def closev (c : Int) : Int × Int × Int := (h, t, if c = 1 ∨ c = 2 then mx m c else m)
variable {k h t m r}
variable (hh : -9223372036854775808 ≤ h ∧ h ≤ 9223372036854775807) (ht : -9223372036854775808 ≤ t ∧ t ≤ 9223372036854775807)
include hh ht
theorem halted_eq : word_halted.f (k + 1) h t m r = some (decide (¬ okw h t m r ∨ m = 2)) := by
  unfold word_halted.f
  by_cases h2 : m = 2
  · rw [if_pos h2]; simp [h2]
  · rw [if_neg h2, check_eq hh ht]; simp [h2]
theorem accept_eq : word_Accept.f (k + 1) h t m r = some (accv h t m r) := by
  unfold word_Accept.f accv word_Accept_1.f
  rw [halted_eq hh ht]; simp only [Option.bind_some]
  by_cases c : ¬ okw h t m r ∨ m = 2
  · rw [if_pos (decide_eq_true c), if_pos c]
  · rw [if_neg (by simpa using c), if_neg c]
    have ok : okw h t m r := Classical.byContradiction fun hx => c (.inl hx)
    have ok' := ok
    unfold okw at ok'
    by_cases c1 : m = 1
    · rw [if_pos c1, if_pos c1]
    · rw [if_neg c1, if_neg c1, full_eq hh ht, lenv_ok ok'.1 ok'.2.1]; simp only [Option.bind_some]
      by_cases c2 : r ≤ t - h
      · rw [if_pos (decide_eq_true c2), if_pos (.inl c2)]
      · rw [if_neg (by simpa using c2)]
        by_cases c3 : t = 1099511627776
        · rw [if_pos c3, if_pos (.inr c3)]
        · rw [if_neg c3, if_neg (fun hx => hx.elim c2 c3), w64 (by omega) (by omega)]
theorem take_eq : word_Take.f (k + 1) h t m r = some (takev h t m r) := by
  unfold word_Take.f takev word_Take_1.f
  rw [halted_eq hh ht]; simp only [Option.bind_some]
  by_cases c : ¬ okw h t m r ∨ m = 2
  · rw [if_pos (decide_eq_true c), if_pos c]
  · rw [if_neg (by simpa using c), if_neg c]
    have ok : okw h t m r := Classical.byContradiction fun hx => c (.inl hx)
    have ok' := ok
    unfold okw at ok'
    rw [len_eq hh ht, lenv_ok ok'.1 ok'.2.1]; simp only [Option.bind_some]
    by_cases c1 : h < t
    · rw [if_pos (by omega), if_pos c1, w64 (by omega) (by omega)]
    · rw [if_neg (by omega), if_neg c1]
      by_cases c2 : m = 1
      · rw [if_pos c2, if_pos c2]
      · rw [if_neg c2, if_neg c2]
theorem evict_eq (hd : Int) : word_Evict.f (k + 1) h t m r hd = some (evictv h t m r hd) := by
  unfold word_Evict.f evictv
  by_cases c : h = hd ∧ m = 0
  · rw [if_neg (by simp [c.1, c.2]), halted_eq hh ht]; simp only [Option.bind_some]
    by_cases c1 : ¬ okw h t m r ∨ m = 2
    · rw [if_pos (decide_eq_true c1), if_neg (fun hx => c1.elim (fun h1 => h1 hx.2.2.1) (fun h1 => by omega))]
    · rw [if_neg (by simpa using c1)]
      have ok : okw h t m r := Classical.byContradiction fun hx => c1 (.inl hx)
      have ok' := ok
      unfold okw at ok'
      rw [full_eq hh ht, len_eq hh ht, lenv_ok ok'.1 ok'.2.1]; simp only [Option.bind_some]
      by_cases c2 : r ≤ t - h
      · rw [if_pos (decide_eq_true c2)]
        by_cases c3 : t - h = 0
        · rw [if_pos c3, if_neg (fun hx => by omega)]
        · rw [if_neg c3, if_pos ⟨c.1, c.2, ok, c2, by omega⟩, w64 (by omega) (by omega)]
      · rw [if_neg (by simpa using c2), if_neg (fun hx => c2 hx.2.2.2.1)]
  · have e : (!(h == hd) || (!(m == 0))) = true := by
      by_cases c1 : h = hd
      · have : ¬ m = 0 := fun h2 => c ⟨c1, h2⟩
        simp [this]
      · simp [c1]
    rw [if_pos e, if_neg (fun hx => c ⟨hx.1, hx.2.1⟩)]
omit hh ht
theorem close_eq (c : Int) : word_Close.f h t m c = some (closev h t m c) := by
  unfold word_Close.f closev
  by_cases c1 : c = 1
  · rw [if_pos c1, if_pos (.inl c1)]
  · by_cases c2 : c = 2
    · rw [if_neg c1, if_pos c2, if_pos (.inr c2)]
    · rw [if_neg c1, if_neg c2, if_neg (fun hx => hx.elim c1 c2)]
include hh ht
theorem sees_eq : word_Sees.f (k + 1) h t m r = some ((accv h t m r).2.2.2.2, (takev h t m r).2.2.2.2) := by
  unfold word_Sees.f
  rw [accept_eq hh ht, take_eq hh ht]; simp only [Option.bind_some]
omit hh ht
theorem accv_no (c : ¬ okw h t m r ∨ m = 2) : accv h t m r = (h, t, m, 0, 7) := by unfold accv; rw [if_pos c]
theorem accv_cl (c : okw h t m r) (c1 : m = 1) : accv h t m r = (h, t, m, 0, 6) := by unfold accv; rw [if_neg (fun hx => hx.elim (fun h1 => h1 c) (fun h1 => by omega)), if_pos c1]
theorem accv_full (c : okw h t m r) (c1 : m = 0) (c2 : r ≤ t - h ∨ t = 1099511627776) : accv h t m r = (h, t, m, 0, 2) := by unfold accv; rw [if_neg (fun hx => hx.elim (fun h1 => h1 c) (fun h1 => by omega)), if_neg (by omega), if_pos c2]
theorem accv_ok (c : okw h t m r) (c1 : m = 0) (c2 : ¬ (r ≤ t - h ∨ t = 1099511627776)) : accv h t m r = (h, t + 1, m, t, 1) := by unfold accv; rw [if_neg (fun hx => hx.elim (fun h1 => h1 c) (fun h1 => by omega)), if_neg (by omega), if_neg c2]
theorem takev_no (c : ¬ okw h t m r ∨ m = 2) : takev h t m r = (h, t, m, 0, 7) := by unfold takev; rw [if_pos c]
theorem takev_ok (c : okw h t m r) (c1 : m ≠ 2) (c2 : h < t) : takev h t m r = (h + 1, t, m, h, 1) := by unfold takev; rw [if_neg (fun hx => hx.elim (fun h1 => h1 c) c1), if_pos c2]
theorem takev_cl (c : okw h t m r) (c1 : m = 1) (c2 : ¬ h < t) : takev h t m r = (h, t, m, 0, 6) := by unfold takev; rw [if_neg (fun hx => hx.elim (fun h1 => h1 c) (fun h1 => by omega)), if_neg c2, if_pos c1]
theorem takev_em (c : okw h t m r) (c1 : m = 0) (c2 : ¬ h < t) : takev h t m r = (h, t, m, 0, 4) := by unfold takev; rw [if_neg (fun hx => hx.elim (fun h1 => h1 c) (fun h1 => by omega)), if_neg c2, if_neg (by omega)]
theorem evictv_ok {hd : Int} (c : h = hd ∧ m = 0 ∧ okw h t m r ∧ r ≤ t - h ∧ h < t) : evictv h t m r hd = (h + 1, t, m, true) := by unfold evictv; rw [if_pos c]
theorem evictv_no {hd : Int} (c : ¬ (h = hd ∧ m = 0 ∧ okw h t m r ∧ r ≤ t - h ∧ h < t)) : evictv h t m r hd = (h, t, m, false) := by unfold evictv; rw [if_neg c]
end
end Go.Proofs.Ytcmiijdkmfdpnaa.Pure
