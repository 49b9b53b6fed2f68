/- What comes in is taken at its position, in order, once, or goes (the plain part). -/
import Derived.Test.YtcmiijdkmfdpnaaWordLib
import Derived.Test.YtcmiijdkmfdpnaaPLx5
import Derived.Test.YtcmiijdkmfdpnaaPLx11
namespace Go.Proofs.Ytcmiijdkmfdpnaa.Pure
open Go.RowKit Go.Proofs.Ytcmiijdkmfdpnaa.PL Go.Proofs.YtcmiijdkmfdpnaaW.PrintWords Go.Proofs.YtcmiijdkmfdpnaaW.PrintLast Go.Proofs.YtcmiijdkmfdpnaaW.PrintMore
set_option linter.unusedSimpArgs false
set_option linter.unusedVariables false
theorem upWOrder (k : Nat) : sakialaw08_awake.f (k + 2) = some true := by
  have h : sakialaw08_awake.f 2 = some true := by decide +kernel
  induction k with
  | zero => exact h
  | succ k ih => exact sakialaw08_awake.mono _ _ ih
theorem order_l (l : List S36) (hl : l.length ≤ 100) (r : Int) (hr : 1 ≤ r ∧ r ≤ 9) (d : Nat) : ∀ (n : Nat) (i h t m : Int), 0 ≤ i → i + d = l.length → 2 * d ≤ n → 0 ≤ h → h ≤ t → t ≤ i → t - h ≤ r → (m = 0 ∨ m = 1) →
    sakialaw08_WordOrder.l0 (n + 3) l true r t h i h t m = some true := by
  induction d with
  | zero =>
    intro n i h t m h0 hi hn hh ht hti hr1 hm
    simp only [sakialaw08_WordOrder.l0]
    rw [if_neg (by omega)]
  | succ d ih =>
    intro n i h t m h0 hi hn hh ht hti hr1 hm
    have ok : okw h t m r := by unfold okw; omega
    have bh : -9223372036854775808 ≤ h ∧ h ≤ 9223372036854775807 := by omega
    have bt : -9223372036854775808 ≤ t ∧ t ≤ 9223372036854775807 := by omega
    have bt1 : -9223372036854775808 ≤ t + 1 ∧ t + 1 ≤ 9223372036854775807 := by omega
    have bh1 : -9223372036854775808 ≤ h + 1 ∧ h + 1 ≤ 9223372036854775807 := by omega
    have wi : wrap64 (i + 1) = i + 1 := w64 (by omega) (by omega)
    have wt : wrap64 (t + 1) = t + 1 := w64 (by omega) (by omega)
    have wh : wrap64 (h + 1) = h + 1 := w64 (by omega) (by omega)
    have wd : wrap64 (t - h) = t - h := w64 (by omega) (by omega)
    have same : ∀ n', 2 * d ≤ n' → ∀ m', (m' = 0 ∨ m' = 1) → sakialaw08_WordOrder.l0 (n' + 3) l true r t h (i + 1) h t m' = some true := fun n' hn' m' hm' => ih n' (i + 1) h t m' (by omega) (by omega) hn' hh ht (by omega) hr1 hm'
    obtain ⟨n, rfl⟩ : ∃ j, n = j + 2 := ⟨n - 2, by omega⟩
    have L0 : lenv h t = t - h := lenv_ok hh ht
    have j1s : sakialaw08_WordOrder.j1 (n + 2 + 2) l true r t h i 6 false h t m = some true := by
      simp only [sakialaw08_WordOrder.j1]
      rw [if_neg (by decide), if_neg (by decide), if_pos trivial, if_pos trivial, len_eq bh bt, L0]; simp only [Option.bind_some]
      rw [if_neg (by omega), wi]; exact same n (by omega) m hm
    have j1f : sakialaw08_WordOrder.j1 (n + 2 + 2) l true r t h i 2 false h t m = some true := by
      simp only [sakialaw08_WordOrder.j1]
      rw [if_neg (by decide), if_neg (by decide), if_pos trivial, if_pos trivial, len_eq bh bt, L0]; simp only [Option.bind_some]
      rw [if_neg (by omega), wi]; exact same n (by omega) m hm
    have j2s : ∀ x, x ≠ 1 → sakialaw08_WordOrder.j2 (n + 2 + 2) l true r t h i x false h t m = some true := by
      intro x hx
      simp only [sakialaw08_WordOrder.j2]
      rw [if_neg (by decide), if_neg hx, if_pos trivial, if_pos trivial, len_eq bh bt, L0]; simp only [Option.bind_some]
      rw [if_neg (by omega), wi]; exact same n (by omega) m hm
    rw [show n + 2 + 3 = (n + 2 + 2) + 1 from rfl]
    simp only [sakialaw08_WordOrder.l0]
    rw [if_pos (by omega), if_pos h0]
    by_cases k0 : (rd_T36 l i).f0 = 0
    · rw [if_pos k0, show n + 2 + 2 = (n + 3) + 1 from rfl, accept_eq bh bt]; simp only [Option.bind_some]
      by_cases m1 : m = 1
      · rw [accv_cl ok m1]; dsimp only
        rw [if_neg (by decide), if_neg (by decide), show (((6 : Int) == 6) != (m == 1)) = false by simp [m1]]
        exact j1s
      · have m0 : m = 0 := by omega
        by_cases f : r ≤ t - h
        · rw [accv_full ok m0 (.inl f)]; dsimp only
          rw [if_neg (by decide), if_pos rfl, wd, if_neg (by omega), show (((2 : Int) == 6) != (m == 1)) = false by simp [m0]]
          exact j1f
        · rw [accv_ok ok m0 (by omega)]; dsimp only
          rw [if_pos rfl, if_pos rfl, if_neg (by decide), show (((1 : Int) == 6) != (m == 1)) = false by simp [m0]]
          simp only [sakialaw08_WordOrder.j1]
          rw [if_neg (by decide), if_pos trivial, if_pos trivial, wt, if_pos rfl, len_eq bh bt1, lenv_ok hh (by omega)]; simp only [Option.bind_some]
          rw [if_neg (by omega), wi]
          exact ih n (i + 1) h (t + 1) m (by omega) (by omega) (by omega) hh (by omega) (by omega) (by omega) hm
    · rw [if_neg k0]
      by_cases k1 : (rd_T36 l i).f0 = 1
      · rw [if_pos k1, show n + 2 + 2 = (n + 3) + 1 from rfl, take_eq bh bt]; simp only [Option.bind_some]
        by_cases e : h < t
        · rw [takev_ok ok (by omega) e]; dsimp only
          rw [if_pos rfl, if_pos rfl, if_neg (by decide), if_neg (by decide)]
          simp only [sakialaw08_WordOrder.j2]
          rw [if_neg (by decide), if_pos trivial, wh, if_pos rfl, if_pos trivial, len_eq bh1 bt, lenv_ok (by omega) (by omega)]; simp only [Option.bind_some]
          rw [if_neg (by omega), wi]
          exact ih n (i + 1) (h + 1) t m (by omega) (by omega) (by omega) (by omega) (by omega) (by omega) (by omega) hm
        · have eh : t = h := by omega
          by_cases m1 : m = 1
          · rw [takev_cl ok m1 e]; dsimp only
            rw [if_neg (by decide), if_neg (by decide), if_pos rfl, show (t != h) = false by simp [eh]]
            exact j2s 6 (by decide)
          · have m0 : m = 0 := by omega
            rw [takev_em ok m0 e]; dsimp only
            rw [if_neg (by decide), if_pos rfl, if_pos eh, if_neg (by decide)]
            exact j2s 4 (by decide)
      · rw [if_neg k1]
        by_cases k2 : (rd_T36 l i).f0 = 2
        · rw [if_pos k2, show n + 2 + 2 = (n + 3) + 1 from rfl, evict_eq bh bt]; simp only [Option.bind_some]
          by_cases e : h = h ∧ m = 0 ∧ okw h t m r ∧ r ≤ t - h ∧ h < t
          · rw [evictv_ok e]; dsimp only
            rw [if_pos rfl, wh, if_pos rfl, if_pos rfl, len_eq bh1 bt, lenv_ok (by omega) (by omega)]; simp only [Option.bind_some]
            rw [if_neg (by omega), wi]
            exact ih (n + 1) (i + 1) (h + 1) t m (by omega) (by omega) (by omega) (by omega) (by omega) (by omega) (by omega) hm
          · rw [evictv_no e]; dsimp only
            rw [if_neg (by decide), if_pos rfl, if_pos rfl, len_eq bh bt, L0]; simp only [Option.bind_some]
            rw [if_neg (by omega), wi]
            exact same (n + 1) (by omega) m hm
        · rw [if_neg k2, close_eq]; simp only [Option.bind_some]
          have ec : closev h t m 1 = (h, t, 1) := by
            unfold closev mx
            rw [if_pos (.inl rfl)]
            congr 2
            split <;> omega
          rw [ec]; dsimp only
          rw [if_pos rfl, if_pos rfl, show n + 2 + 2 = (n + 3) + 1 from rfl, len_eq bh bt, L0]; simp only [Option.bind_some]
          rw [if_neg (by omega), wi]
          exact same (n + 1) (by omega) 1 (.inr rfl)
theorem WordOrder : sakialaw08_WordOrder.Pure := by
  intro room l hroom _ _
  have hroom := bounds_u8 hroom
  refine ⟨2 * l.length + 3, ?_⟩
  unfold sakialaw08_WordOrder.f
  rw [show 2 * l.length + 3 = (2 * l.length + 1) + 2 from rfl, upWOrder]
  simp only [Option.bind_some]
  by_cases h : (l.length : Int) > 100
  · rw [if_pos h]
  · rw [if_neg h, Int.tmod_eq_emod_of_nonneg hroom.1, w64 (x := room % 9) (by omega) (by omega), w64 (x := 1 + room % 9) (by omega) (by omega)]
    exact order_l l (by omega) (1 + room % 9) (by omega) l.length (2 * l.length) 0 0 0 0 (by omega) (by omega) (by omega) (by omega) (by omega) (by omega) (by omega) (.inl rfl)
end Go.Proofs.Ytcmiijdkmfdpnaa.Pure
