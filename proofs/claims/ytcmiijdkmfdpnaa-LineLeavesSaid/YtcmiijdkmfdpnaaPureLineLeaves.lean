/- Who leaves lets all behind come one place nearer (the plain part). -/
import Derived.Test.YtcmiijdkmfdpnaaLineLib
import Derived.Test.YtcmiijdkmfdpnaaPLx20
import Derived.Test.YtcmiijdkmfdpnaaPLx25
namespace Go.Proofs.Ytcmiijdkmfdpnaa.Pure
open Go.RowKit Go.Proofs.Ytcmiijdkmfdpnaa.PL Go.Proofs.YtcmiijdkmfdpnaaW.PrintWords Go.Proofs.YtcmiijdkmfdpnaaW.PrintLast Go.Proofs.YtcmiijdkmfdpnaaW.PrintMore
set_option linter.unusedSimpArgs false
set_option linter.unusedVariables false
theorem LineLeaves : sakialaw05_LineLeaves.Pure := by
  intro l x z _ _ _ _ _
  refine ⟨400, ?_⟩
  unfold sakialaw05_LineLeaves.f
  rw [sakialaw05_awake.eq_]
  simp only [Option.bind_some]
  by_cases hl : (l.length : Int) > 100
  · rw [if_pos hl]
  rw [if_neg hl]
  have hl : l.length ≤ 110 := by omega
  by_cases o : Ok l
  · rw [place_yes hl (by omega) o, place_yes hl (by omega) o]
    simp only [Option.bind_some]
    by_cases hx : x ∈ l
    · have he : (l.eraseIdx (pos l x).toNat).length ≤ 110 := Nat.le_trans (List.length_eraseIdx_le _ _) hl
      rw [leave_yes hl (by omega) o hx]
      simp only [Option.bind_some]
      rw [place_yes he (by omega) (ok_erase o _), pos_erase l x o.2 hx z]
      simp only [Option.bind_some]
      have h0 := (pos_mem l x).2 hx
      have b := pos_lo l z
      rw [if_pos trivial, if_pos trivial, if_pos h0]
      by_cases hz : z = x
      · rw [if_pos hz, if_pos hz, if_pos rfl]
      · rw [if_neg hz, if_neg hz]
        have hne : pos l z ≠ pos l x := by
          intro e
          have h1 : ∀ (l : List Int), 0 ≤ pos l x → pos l z = pos l x → z = x := by
            intro l
            induction l with
            | nil => intro h1 _; simp [pos] at h1
            | cons y t ih =>
              intro h1 h2
              unfold pos at h1 h2
              have bx := pos_lo t x
              have bz := pos_lo t z
              by_cases c1 : y = x
              · rw [if_pos c1] at h2
                by_cases c2 : y = z
                · rw [← c2, c1]
                · rw [if_neg c2] at h2
                  split at h2 <;> omega
              · rw [if_neg c1] at h2 h1
                by_cases c3 : pos t x < 0
                · rw [if_pos c3] at h1; omega
                · rw [if_neg c3] at h2
                  by_cases c2 : y = z
                  · rw [if_pos c2] at h2; omega
                  · rw [if_neg c2] at h2
                    by_cases c4 : pos t z < 0
                    · rw [if_pos c4] at h2; omega
                    · rw [if_neg c4] at h2
                      exact ih (by omega) (by omega)
          exact hz (h1 l h0 e)
        by_cases hlt : pos l z < pos l x
        · rw [if_pos hlt, if_neg (show ¬ pos l x < pos l z by omega), if_pos rfl]
        · rw [if_neg hlt, if_pos (show pos l z > pos l x by omega), if_pos (show pos l x < pos l z by omega), w64 (by omega) (by omega)]
          simp
    · rw [leave_no hl (by omega) (.inr hx)]
      simp only [Option.bind_some]
      rw [place_yes hl (by omega) o]
      simp only [Option.bind_some]
      rw [if_neg (by decide), if_pos trivial, if_pos (pos_no hx)]
      simp
  · rw [place_no hl (by omega) o, place_no hl (by omega) o, leave_no hl (by omega) (.inl o)]
    simp only [Option.bind_some]
    rw [place_no hl (by omega) o]
    simp only [Option.bind_some]
    rw [if_neg (by decide), if_pos trivial, if_pos trivial]
    simp
end Go.Proofs.Ytcmiijdkmfdpnaa.Pure
