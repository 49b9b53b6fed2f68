/- Some who enter stand in that order, each once (the plain part). -/
import Derived.Test.YtcmiijdkmfdpnaaLineLib
import Derived.Test.YtcmiijdkmfdpnaaPLx20
import Derived.Test.YtcmiijdkmfdpnaaPLx28
namespace Go.Proofs.Ytcmiijdkmfdpnaa.Pure
open Go.RowKit Go.Proofs.Ytcmiijdkmfdpnaa.PL Go.Proofs.YtcmiijdkmfdpnaaW.PrintWords Go.Proofs.YtcmiijdkmfdpnaaW.PrintLast Go.Proofs.YtcmiijdkmfdpnaaW.PrintMore
set_option linter.unusedSimpArgs false
set_option linter.unusedVariables false
theorem enters_l0 (l : List Int) (hl : l.length ≤ 100) : ∀ (d k : Nat) (i : Int) (m : List Int), 0 ≤ i → (l.length : Int) - i = d → d + 240 < k → Ok m → sakialaw05_LineEnters.l0 k l true m m i = some true := by
  intro d
  induction d with
  | zero =>
    intro k i m h0 hd hk o
    obtain ⟨k, rfl⟩ : ∃ m, k = m + 1 := ⟨k - 1, by omega⟩
    have hm := ok_le o
    simp only [sakialaw05_LineEnters.l0]
    rw [if_neg (by omega), if_pos trivial, ints_self m k (by omega) (by omega)]
    simp only [Option.bind_some]
    rw [if_pos trivial, check_yes (by omega) (by omega) o]
    simp only [Option.bind_some]
    rw [if_pos trivial]
    congr 1
    exact decide_eq_true (by omega)
  | succ d ih =>
    intro k i m h0 hd hk o
    obtain ⟨k, rfl⟩ : ∃ m, k = m + 1 := ⟨k - 1, by omega⟩
    have hm := ok_le o
    simp only [sakialaw05_LineEnters.l0]
    rw [if_pos (by omega), if_pos h0, w64 (x := i + 1) (by omega) (by omega)]
    have hn := ih k (i + 1)
    by_cases hi : In (rd l i)
    · have h1 : ¬ rd l i < 0 := by unfold In at hi; omega
      have h2 : ¬ rd l i > 15 := by unfold In at hi; omega
      by_cases hx : rd l i ∈ m
      · rw [enter_two (by omega) (by omega) o hi hx]
        simp only [Option.bind_some]
        rw [if_neg (by decide), if_neg h1, decide_eq_false h2, if_neg (by decide)]
        exact hn m (by omega) (by omega) (by omega) o
      · rw [enter_in (by omega) (by omega) o hi hx]
        simp only [Option.bind_some]
        rw [if_pos trivial, if_pos (by omega), if_neg h1, decide_eq_false h2, if_neg (by decide)]
        exact hn _ (by omega) (by omega) (by omega) (ok_app o hi hx)
    · rw [enter_bad (by omega) (by omega) (.inr hi)]
      simp only [Option.bind_some]
      rw [if_neg (by decide)]
      by_cases h1 : rd l i < 0
      · rw [if_pos h1, if_neg (by decide)]
        exact hn m (by omega) (by omega) (by omega) o
      · have h2 : rd l i > 15 := Classical.byContradiction fun h2 => hi ⟨by omega, by omega⟩
        rw [if_neg h1, decide_eq_true h2, if_neg (by decide)]
        exact hn m (by omega) (by omega) (by omega) o
theorem LineEnters : sakialaw05_LineEnters.Pure := by
  intro l _ _ _
  refine ⟨400, ?_⟩
  unfold sakialaw05_LineEnters.f
  rw [sakialaw05_awake.eq_]
  simp only [Option.bind_some]
  by_cases hl : (l.length : Int) > 100
  · rw [if_pos hl]
  rw [if_neg hl]
  exact enters_l0 l (by omega) l.length 400 0 [] (by omega) (by omega) (by omega) ⟨fun y hy => by simp at hy, by simp⟩
end Go.Proofs.Ytcmiijdkmfdpnaa.Pure
