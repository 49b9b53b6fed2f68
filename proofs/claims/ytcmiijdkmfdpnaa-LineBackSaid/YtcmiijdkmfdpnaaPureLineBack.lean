/- Who entered, and left, leaves the line as it was (the plain part). -/
import Derived.Test.YtcmiijdkmfdpnaaLineLib
import Derived.Test.YtcmiijdkmfdpnaaPLx20
import Derived.Test.YtcmiijdkmfdpnaaPLx25
namespace Go.Proofs.Ytcmiijdkmfdpnaa.Pure
open Go.RowKit Go.Proofs.Ytcmiijdkmfdpnaa.PL Go.Proofs.YtcmiijdkmfdpnaaW.PrintWords Go.Proofs.YtcmiijdkmfdpnaaW.PrintLast Go.Proofs.YtcmiijdkmfdpnaaW.PrintMore
set_option linter.unusedSimpArgs false
set_option linter.unusedVariables false
theorem LineBack : sakialaw05_LineBack.Pure := by
  intro l x _ _ _ _
  refine ⟨400, ?_⟩
  unfold sakialaw05_LineBack.f
  rw [sakialaw05_awake.eq_]
  simp only [Option.bind_some]
  by_cases hl : (l.length : Int) > 100
  · rw [if_pos hl]
  rw [if_neg hl]
  have hl : l.length ≤ 100 := by omega
  by_cases h : Ok l ∧ In x ∧ x ∉ l
  · obtain ⟨o, i, hx⟩ := h
    have oa := ok_app o i hx
    have hla : (l ++ [x]).length ≤ 110 := by simp; omega
    have hm : x ∈ l ++ [x] := by simp
    have hp := pos_end l x hx
    rw [enter_in (by omega) (by omega) o i hx]
    simp only [Option.bind_some]
    rw [if_pos trivial, leave_yes hla (by omega) oa hm, enter_two hla (by omega) oa i hm]
    simp only [Option.bind_some]
    have he : (l ++ [x]).eraseIdx (pos (l ++ [x]) x).toNat = l := by
      rw [hp, Int.toNat_natCast, List.eraseIdx_append_of_length_le (Nat.le_refl _)]
      simp
    rw [if_pos trivial, if_pos trivial, he, ints_self l 400 (by omega) (by omega), place_yes hla (by omega) oa, check_yes hla (by omega) oa, first_yes hla (by omega) oa, hp]
    simp only [Option.bind_some, if_true]
    simp
  · have he : ∃ e : Int, line_Enter.f 400 l x = some (l, e) ∧ e ≠ 0 := by
      by_cases o : Ok l
      · by_cases i : In x
        · exact ⟨60, enter_two (by omega) (by omega) o i (Classical.byContradiction fun hn => h ⟨o, i, hn⟩), by omega⟩
        · exact ⟨40, enter_bad (by omega) (by omega) (.inr i), by omega⟩
      · exact ⟨40, enter_bad (by omega) (by omega) (.inl o), by omega⟩
    obtain ⟨e, he, hne⟩ := he
    rw [he]
    simp only [Option.bind_some]
    rw [if_neg hne, if_pos trivial, ints_self l 400 (by omega) (by omega)]
    rfl
end Go.Proofs.Ytcmiijdkmfdpnaa.Pure
