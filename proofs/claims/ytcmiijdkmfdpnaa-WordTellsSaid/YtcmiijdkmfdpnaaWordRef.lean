/- What the document's answers on words are, as plain numbers. -/
import Derived.Test.YtcmiijdkmfdpnaaWordLib
import Derived.Test.YtcmiijdkmfdpnaaPLx6
import Derived.Test.YtcmiijdkmfdpnaaPLx7
import Derived.Test.YtcmiijdkmfdpnaaPLx8
namespace Go.Proofs.Ytcmiijdkmfdpnaa.Pure
open Go.RowKit Go.Proofs.Ytcmiijdkmfdpnaa.PL Go.Proofs.YtcmiijdkmfdpnaaW.PrintWords Go.Proofs.YtcmiijdkmfdpnaaW.PrintLast Go.Proofs.YtcmiijdkmfdpnaaW.PrintMore
set_option linter.unusedSimpArgs false
set_option linter.unusedVariables false
theorem rcheck_eq {h t m r : Int} (hh : -9223372036854775808 ≤ h ∧ h ≤ 9223372036854775807) (ht : -9223372036854775808 ≤ t ∧ t ≤ 9223372036854775807) : sakiaref01_Check.f h t m r = some (decide (okw h t m r)) := by
  unfold sakiaref01_Check.f okw
  by_cases h1 : h ≥ 0
  · by_cases h2 : t ≥ h
    · by_cases h3 : t ≤ 1099511627776
      · rw [if_pos h1, if_pos h2, if_pos h3, w64 (by omega) (by omega)]
        by_cases h4 : t - h ≤ r
        · by_cases h5 : m ≥ 0
          · rw [if_pos h4, if_pos h5]; exact congrArg some (decide_eq_decide.2 (by omega))
          · rw [if_pos h4, if_neg h5]; exact congrArg some (decide_eq_false (by omega)).symm
        · rw [if_neg h4]; exact congrArg some (decide_eq_false (by omega)).symm
      · rw [if_pos h1, if_pos h2, if_neg h3]; exact congrArg some (decide_eq_false (by omega)).symm
    · rw [if_pos h1, if_neg h2]; exact congrArg some (decide_eq_false (by omega)).symm
  · rw [if_neg h1]; exact congrArg some (decide_eq_false (by omega)).symm
section
variable {k : Nat} {h t m r : Int} (hh : -9223372036854775808 ≤ h ∧ h ≤ 9223372036854775807) (ht : -9223372036854775808 ≤ t ∧ t ≤ 9223372036854775807)
include hh ht
theorem raccept_eq : sakiaref08_Accept.f (k + 1) h t m r = some (accv h t m r) := by
  unfold sakiaref08_Accept.f accv
  rw [rcheck_eq hh ht]; simp only [Option.bind_some]
  by_cases ok : okw h t m r
  · have ok' := ok
    unfold okw at ok'
    rw [if_pos (decide_eq_true ok)]
    by_cases c : m = 2
    · rw [if_pos (.inr c)]; simp [sakiaref08_Accept.j0, c]
    · rw [if_neg (fun hx => hx.elim (fun h1 => h1 ok) c)]
      simp only [sakiaref08_Accept.j0]
      rw [if_neg (by simpa using c), w64 (x := t - h) (by omega) (by omega)]
      by_cases c1 : m = 1
      · rw [if_pos c1, if_pos c1]
      · rw [if_neg c1, if_neg c1]
        by_cases c2 : r ≤ t - h
        · rw [if_pos c2, if_pos (.inl c2)]
        · rw [if_neg c2]
          by_cases c3 : t = 1099511627776
          · rw [if_pos c3, if_pos (.inr c3)]
          · rw [if_neg c3, if_neg (fun hx => hx.elim c2 c3), w64 (by omega) (by omega)]
  · rw [if_neg (by simpa using ok), if_pos (.inl ok)]; simp [sakiaref08_Accept.j0]
theorem rtake_eq : sakiaref08_Take.f (k + 1) h t m r = some (takev h t m r) := by
  unfold sakiaref08_Take.f takev
  rw [rcheck_eq hh ht]; simp only [Option.bind_some]
  by_cases ok : okw h t m r
  · have ok' := ok
    unfold okw at ok'
    rw [if_pos (decide_eq_true ok)]
    by_cases c : m = 2
    · rw [if_pos (.inr c)]; simp [sakiaref08_Take.j0, c]
    · rw [if_neg (fun hx => hx.elim (fun h1 => h1 ok) c)]
      simp only [sakiaref08_Take.j0]
      rw [if_neg (by simpa using c)]
      by_cases c1 : h < t
      · rw [if_pos c1, if_pos c1, w64 (by omega) (by omega)]
      · rw [if_neg c1, if_neg c1]
        by_cases c2 : m = 1
        · rw [if_pos c2, if_pos c2]
        · rw [if_neg c2, if_neg c2]
  · rw [if_neg (by simpa using ok), if_pos (.inl ok)]; simp [sakiaref08_Take.j0]
theorem revict_eq (hd : Int) : sakiaref08_Evict.f h t m r hd = some (evictv h t m r hd) := by
  unfold sakiaref08_Evict.f evictv
  rw [rcheck_eq hh ht]; simp only [Option.bind_some]
  by_cases ok : okw h t m r
  · have ok' := ok
    unfold okw at ok'
    rw [if_pos (decide_eq_true ok)]
    by_cases c : m = 0
    · rw [if_pos c]
      by_cases c1 : h = hd
      · rw [if_pos c1]
        by_cases c2 : t = h
        · rw [if_pos c2, if_neg (fun hx => by omega)]
        · rw [if_neg c2, w64 (x := t - h) (by omega) (by omega)]
          by_cases c3 : t - h < r
          · rw [if_pos c3, if_neg (fun hx => by omega)]
          · rw [if_neg c3, if_pos ⟨c1, c, ok, by omega, by omega⟩, w64 (by omega) (by omega), c]
      · rw [if_neg c1, if_neg (fun hx => c1 hx.1)]
    · rw [if_neg c, if_neg (fun hx => c hx.2.1)]
  · rw [if_neg (by simpa using ok), if_neg (fun hx => ok hx.2.2.1)]
omit hh ht
theorem rclose_eq (c : Int) : sakiaref08_Close.f h t m c = some (closev h t m c) := by
  unfold sakiaref08_Close.f closev mx
  by_cases c1 : c = 1
  · rw [if_pos c1, if_pos (show c = 1 ∨ c = 2 from .inl c1)]
    by_cases c2 : c > m
    · rw [if_pos c2, if_pos (show m < c from c2)]
    · rw [if_neg c2, if_neg (show ¬ m < c from c2)]
  · by_cases c2 : c = 2
    · rw [if_neg c1, if_pos c2, if_pos (show c = 1 ∨ c = 2 from .inr c2)]
      by_cases c3 : c > m
      · rw [if_pos c3, if_pos (show m < c from c3)]
      · rw [if_neg c3, if_neg (show ¬ m < c from c3)]
    · rw [if_neg c1, if_neg c2, if_neg (show ¬ (c = 1 ∨ c = 2) from fun hx => hx.elim c1 c2)]
end
end Go.Proofs.Ytcmiijdkmfdpnaa.Pure
