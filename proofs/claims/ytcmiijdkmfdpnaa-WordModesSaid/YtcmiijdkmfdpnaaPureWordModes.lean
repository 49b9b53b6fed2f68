/- A mode only rises, a closed one lets nothing in, and a halted one nothing out (the plain part). -/
import Derived.Test.YtcmiijdkmfdpnaaWordLib
import Derived.Test.YtcmiijdkmfdpnaaPLx5
import Derived.Test.YtcmiijdkmfdpnaaPLx12
namespace Go.Proofs.Ytcmiijdkmfdpnaa.Pure
open Go.RowKit Go.Proofs.Ytcmiijdkmfdpnaa.PL Go.Proofs.YtcmiijdkmfdpnaaW.PrintWords Go.Proofs.YtcmiijdkmfdpnaaW.PrintLast Go.Proofs.YtcmiijdkmfdpnaaW.PrintMore
set_option linter.unusedSimpArgs false
set_option linter.unusedVariables false
theorem upWModes : sakialaw08_awake.f 2 = some true := by decide +kernel
theorem WordModes : sakialaw08_WordModes.Pure := by
  intro h t m r a b hg hr ha hb
  obtain ⟨hh, ht, hm⟩ := hg
  have hh := bounds_i64 hh
  have ht := bounds_i64 ht
  refine ⟨2, ?_⟩
  unfold sakialaw08_WordModes.f
  simp only [upWModes, close_eq, Option.bind_some]
  have e1 : word_Accept.f 2 (closev h t m 1).1 (closev h t m 1).2.1 (closev h t m 1).2.2 r = some (accv h t (mx m 1) r) := accept_eq (k := 1) hh ht
  have e2 : word_Take.f 2 (closev h t m 2).1 (closev h t m 2).2.1 (closev h t m 2).2.2 r = some (takev h t (mx m 2) r) := take_eq (k := 1) hh ht
  rw [e1, e2]
  simp only [Option.bind_some, if_true]
  have i1 : (accv h t (mx m 1) r).2.2.2.2 = 6 ∨ (accv h t (mx m 1) r).2.2.2.2 = 7 := by
    by_cases c : ¬ okw h t (mx m 1) r ∨ mx m 1 = 2
    · rw [accv_no c]; exact .inr rfl
    · have ok : okw h t (mx m 1) r := Classical.byContradiction fun hx => c (.inl hx)
      have ok' := ok
      unfold okw at ok'
      have h1 : mx m 1 = 1 := by
        have h2 : ¬ mx m 1 = 2 := fun hx => c (.inr hx)
        have h3 : 1 ≤ mx m 1 := by unfold mx; split <;> omega
        omega
      rw [accv_cl ok h1]; exact .inl rfl
  have i2 : ¬ m > 2 → (takev h t (mx m 2) r).2.2.2.2 = 7 := by
    intro hx
    have h1 : mx m 2 = 2 := by unfold mx; split <;> omega
    rw [takev_no (.inr h1)]
  have g1 : (closev h t m a).2.2 ≥ m := by
    unfold closev mx; dsimp only; split
    · split <;> omega
    · omega
  have g2 : closev (closev h t m a).1 (closev h t m a).2.1 (closev h t m a).2.2 b = closev (closev h t m b).1 (closev h t m b).2.1 (closev h t m b).2.2 a := by
    unfold closev mx; dsimp only
    by_cases ca : a = 1 ∨ a = 2
    · by_cases cb : b = 1 ∨ b = 2
      · simp only [if_pos ca, if_pos cb]
        congr 2
        repeat' split
        all_goals omega
      · simp only [if_pos ca, if_neg cb]
    · by_cases cb : b = 1 ∨ b = 2
      · simp only [if_neg ca, if_pos cb]
      · simp only [if_neg ca, if_neg cb]
  rw [if_pos g1, g2, if_pos (by simp), if_pos (show (closev h t m a).1 = h from rfl), if_pos (show (closev h t m a).2.1 = t from rfl), if_neg (by omega), if_neg (by omega)]
  by_cases c : m > 2
  · rw [if_pos c]
  · rw [if_neg c, i2 c]; rfl
end Go.Proofs.Ytcmiijdkmfdpnaa.Pure
