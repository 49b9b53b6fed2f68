/- Something comes in, or goes out, unless it is closed (the plain part). -/
import Derived.Test.YtcmiijdkmfdpnaaWordLib
import Derived.Test.YtcmiijdkmfdpnaaPLx5
import Derived.Test.YtcmiijdkmfdpnaaPLx13
namespace Go.Proofs.Ytcmiijdkmfdpnaa.Pure
open Go.RowKit Go.Proofs.Ytcmiijdkmfdpnaa.PL Go.Proofs.YtcmiijdkmfdpnaaW.PrintWords Go.Proofs.YtcmiijdkmfdpnaaW.PrintLast Go.Proofs.YtcmiijdkmfdpnaaW.PrintMore
set_option linter.unusedSimpArgs false
set_option linter.unusedVariables false
theorem upWBoth : sakialaw08_awake.f 2 = some true := by decide +kernel
theorem up1WBoth : sakialaw08_awake.f 3 = some true := by decide +kernel
theorem WordBoth : sakialaw08_WordBoth.Pure := by
  intro h t m r hg hr
  obtain ⟨hh, ht, hm⟩ := hg
  have hh := bounds_i64 hh
  have ht := bounds_i64 ht
  refine ⟨3, ?_⟩
  unfold sakialaw08_WordBoth.f
  rw [up1WBoth, check_eq hh ht]
  simp only [Option.bind_some]
  by_cases ok : okw h t m r
  · have ok' := ok
    unfold okw at ok'
    rw [if_pos (decide_eq_true ok)]
    by_cases c : r < 1
    · rw [if_pos c]; simp [sakialaw08_WordBoth.j0]
    · rw [if_neg c]
      by_cases c1 : t = 1099511627776
      · rw [show (t == 1099511627776) = true by simp [c1]]; simp [sakialaw08_WordBoth.j0]
      · rw [show (t == 1099511627776) = false by simp [c1]]
        simp only [sakialaw08_WordBoth.j0]
        rw [if_neg (by decide), sees_eq hh ht, take_eq hh ht, len_eq hh ht, lenv_ok ok'.1 ok'.2.1]
        simp only [Option.bind_some]
        by_cases m2 : m = 2
        · rw [accv_no (.inr m2), takev_no (.inr m2)]
          dsimp only
          rw [sees_eq hh ht, accv_no (.inr m2), takev_no (.inr m2)]
          simp [m2]
        · by_cases c2 : h < t
          · have ok2 : okw (h + 1) t m r := by unfold okw; omega
            rw [takev_ok ok m2 c2]
            dsimp only
            rw [sees_eq (by omega) ht]
            by_cases m1 : m = 1
            · rw [accv_cl ok m1, accv_cl ok2 m1]
              by_cases c3 : h + 1 < t
              · rw [takev_ok ok2 m2 c3]; simp [m1]; omega
              · rw [takev_cl ok2 m1 c3]; simp [m1]
            · have m0 : m = 0 := by omega
              rw [accv_ok ok2 m0 (by omega)]
              by_cases c3 : h + 1 < t
              · rw [takev_ok ok2 m2 c3]
                by_cases c4 : r ≤ t - h
                · rw [accv_full ok m0 (.inl c4)]; simp [m0]; omega
                · rw [accv_ok ok m0 (by omega)]; simp [m0]; omega
              · rw [takev_em ok2 m0 c3]
                by_cases c4 : r ≤ t - h
                · rw [accv_full ok m0 (.inl c4)]; simp [m0]
                · rw [accv_ok ok m0 (by omega)]; simp [m0]
          · by_cases m1 : m = 1
            · rw [takev_cl ok m1 c2, accv_cl ok m1]
              dsimp only
              rw [sees_eq hh ht, takev_cl ok m1 c2, accv_cl ok m1]
              simp [m1]
            · have m0 : m = 0 := by omega
              rw [takev_em ok m0 c2, accv_ok ok m0 (by omega)]
              dsimp only
              rw [sees_eq hh ht, takev_em ok m0 c2, accv_ok ok m0 (by omega)]
              simp [m0]
  · rw [if_neg (by simpa using ok)]; simp [sakialaw08_WordBoth.j0]
end Go.Proofs.Ytcmiijdkmfdpnaa.Pure
