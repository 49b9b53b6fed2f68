/- Who is served one by one comes in the order of the line (the plain part). -/
import Derived.Test.YtcmiijdkmfdpnaaLineLib
import Derived.Test.YtcmiijdkmfdpnaaPLx20
import Derived.Test.YtcmiijdkmfdpnaaPLx26
namespace Go.Proofs.Ytcmiijdkmfdpnaa.Pure
open Go.RowKit Go.Proofs.Ytcmiijdkmfdpnaa.PL Go.Proofs.YtcmiijdkmfdpnaaW.PrintWords Go.Proofs.YtcmiijdkmfdpnaaW.PrintLast Go.Proofs.YtcmiijdkmfdpnaaW.PrintMore
set_option linter.unusedSimpArgs false
set_option linter.unusedVariables false
theorem serves_l0 (l : List Int) (hl : l.length ≤ 100) (o : Ok l) : ∀ (d k : Nat) (i : Int), 0 ≤ i → (l.length : Int) - i = d → d + 240 < k → sakialaw05_LineServes.l0 k l true (l.drop i.toNat) i = some true := by
  intro d
  induction d with
  | zero =>
    intro k i h0 hd hk
    obtain ⟨k, rfl⟩ : ∃ m, k = m + 1 := ⟨k - 1, by omega⟩
    simp only [sakialaw05_LineServes.l0]
    rw [if_neg (by omega), drop_end l i (by omega), next_no (by simp) (by omega) (.inr rfl)]
    rfl
  | succ d ih =>
    intro k i h0 hd hk
    obtain ⟨k, rfl⟩ : ∃ m, k = m + 1 := ⟨k - 1, by omega⟩
    simp only [sakialaw05_LineServes.l0]
    have od := ok_drop o i.toNat
    have hd1 : (l.drop i.toNat).length ≤ 110 := by simp; omega
    have e := drop_rd l i h0 (by omega)
    have hr : rd (l.drop i.toNat) 0 = rd l i := by rw [e]; rfl
    have hp : pos (l.drop i.toNat) (rd l i) = 0 := by rw [e]; unfold pos; rw [if_pos rfl]
    have h1 : (l.drop i.toNat).drop 1 = l.drop (i + 1).toNat := by rw [e]; rfl
    rw [if_pos (by omega), if_pos h0, first_yes hd1 (by omega) od, hp, next_yes hd1 (by omega) od (by simp; omega), hr, h1]
    simp only [Option.bind_some]
    rw [if_pos trivial, if_pos trivial, if_pos (by decide), w64 (by omega) (by omega)]
    exact ih k (i + 1) (by omega) (by omega) (by omega)
theorem LineServes : sakialaw05_LineServes.Pure := by
  intro l _ _ _
  refine ⟨400, ?_⟩
  unfold sakialaw05_LineServes.f
  rw [sakialaw05_awake.eq_]
  simp only [Option.bind_some]
  have hstop : sakialaw05_LineServes.j0 400 l true true = some true := by
    simp only [sakialaw05_LineServes.j0]
    rw [if_pos trivial]
  by_cases hl : (l.length : Int) > 100
  · rw [if_pos hl]; exact hstop
  rw [if_neg hl]
  by_cases o : Ok l
  · rw [check_yes (by omega) (by omega) o]
    simp only [Option.bind_some, sakialaw05_LineServes.j0]
    rw [if_neg (by simp)]
    exact serves_l0 l (by omega) o l.length 399 0 (by omega) (by omega) (by omega)
  · rw [check_no (by omega) (by omega) o]
    exact hstop
end Go.Proofs.Ytcmiijdkmfdpnaa.Pure
