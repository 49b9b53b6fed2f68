/- A word whose positions are all so much later does the same, so much later (the plain part). -/
import Derived.Test.YtcmiijdkmfdpnaaWordLib
import Derived.Test.YtcmiijdkmfdpnaaPLx5
import Derived.Test.YtcmiijdkmfdpnaaPLx14
namespace Go.Proofs.Ytcmiijdkmfdpnaa.Pure
open Go.RowKit Go.Proofs.Ytcmiijdkmfdpnaa.PL Go.Proofs.YtcmiijdkmfdpnaaW.PrintWords Go.Proofs.YtcmiijdkmfdpnaaW.PrintLast Go.Proofs.YtcmiijdkmfdpnaaW.PrintMore
set_option linter.unusedSimpArgs false
set_option linter.unusedVariables false
theorem upWLater (k : Nat) : sakialaw08_awake.f (k + 2) = some true := by
  have h : sakialaw08_awake.f 2 = some true := by decide +kernel
  induction k with
  | zero => exact h
  | succ k ih => exact sakialaw08_awake.mono _ _ ih
theorem later_j {b x22 x23 x25 x26 A0 A1 A2 B0 B1 B2 C0 C1 C2 D0 D1 D2 : Int} {x28 x30 : Bool} (n : Nat) (hb : wrap64 b = b) (h1 : x23 = x26) (h2 : wrap64 (A0 + b) = B0) (h3 : x23 = 1 → wrap64 (x22 + b) = x25) (h4 : x28 = x30) (h5 : wrap64 (C0 + b) = D0) :
    sakialaw08_WordLater.j0 (n + 3) b true x22 x23 x25 x26 x28 x30 true A0 A1 A2 B0 B1 B2 C0 C1 C2 D0 D1 D2 = some true := by
  simp only [sakialaw08_WordLater.j0, sakialaw08_WordLater.j1, sakialaw08_WordLater.j2, hb]
  rw [if_pos h1, if_pos h2]
  by_cases e : x23 = 1
  · rw [if_pos e, h3 e]; simp [h4, h5]
  · rw [if_neg e]; simp [h4, h5]
theorem WordLater : sakialaw08_WordLater.Pure := by
  intro h long mode room b hh hlong hmode hroom hb
  have hh := bounds_u32 hh
  have hlong := bounds_u8 hlong
  have hmode := bounds_u8 hmode
  have hroom := bounds_u8 hroom
  have hb := bounds_u32 hb
  refine ⟨3, ?_⟩
  unfold sakialaw08_WordLater.f
  rw [Int.tmod_eq_emod_of_nonneg hroom.1, Int.tmod_eq_emod_of_nonneg hmode.1, w64 (x := room % 64) (by omega) (by omega), w64 (x := mode % 3) (by omega) (by omega), w64 (x := 1 + room % 64) (by omega) (by omega), w64 (x := long) (by omega) (by omega)]
  obtain ⟨r, hre⟩ : ∃ r, r = 1 + room % 64 := ⟨_, rfl⟩
  obtain ⟨m, hme⟩ : ∃ m, m = mode % 3 := ⟨_, rfl⟩
  rw [← hre, ← hme, w64 (x := r + 1) (by omega) (by omega), Int.tmod_eq_emod_of_nonneg hlong.1]
  have hlb : 0 ≤ long % (r + 1) ∧ long % (r + 1) < r + 1 := ⟨Int.emod_nonneg _ (by omega), Int.emod_lt_of_pos _ (by omega)⟩
  obtain ⟨g, hge⟩ : ∃ g, g = long % (r + 1) := ⟨_, rfl⟩
  rw [← hge] at hlb ⊢
  have wb : wrap64 b = b := w64 (by omega) (by omega)
  rw [w64 (x := h) (by omega) (by omega), wb, w64 (x := h + g) (by omega) (by omega), w64 (x := h + b) (by omega) (by omega), w64 (x := h + g + b) (by omega) (by omega)]
  have ok1 : okw h (h + g) m r := by unfold okw; omega
  have ok2 : okw (h + b) (h + g + b) m r := by unfold okw; omega
  rw [upWLater 1, accept_eq (by omega) (by omega), accept_eq (by omega) (by omega), take_eq (by omega) (by omega), take_eq (by omega) (by omega), evict_eq (by omega) (by omega), evict_eq (by omega) (by omega)]
  simp only [Option.bind_some]
  rw [if_neg (by omega)]
  have E : (evictv h (h + g) m r h).2.2.2 = (evictv (h + b) (h + g + b) m r (h + b)).2.2.2 ∧ wrap64 ((evictv h (h + g) m r h).1 + b) = (evictv (h + b) (h + g + b) m r (h + b)).1 := by
    by_cases e : h = h ∧ m = 0 ∧ okw h (h + g) m r ∧ r ≤ h + g - h ∧ h < h + g
    · rw [evictv_ok e, evictv_ok ⟨rfl, e.2.1, ok2, by omega, by omega⟩]
      exact ⟨rfl, by dsimp only; rw [w64 (by omega) (by omega)]; omega⟩
    · rw [evictv_no e, evictv_no (fun hx => e ⟨rfl, hx.2.1, ok1, by omega, by omega⟩)]
      exact ⟨rfl, by dsimp only; rw [w64 (by omega) (by omega)]⟩
  have T : (takev h (h + g) m r).2.2.2.2 = (takev (h + b) (h + g + b) m r).2.2.2.2 ∧ wrap64 ((takev h (h + g) m r).1 + b) = (takev (h + b) (h + g + b) m r).1 ∧ ((takev h (h + g) m r).2.2.2.2 = 1 → wrap64 ((takev h (h + g) m r).2.2.2.1 + b) = (takev (h + b) (h + g + b) m r).2.2.2.1) := by
    by_cases m2 : m = 2
    · rw [takev_no (.inr m2), takev_no (.inr m2)]
      exact ⟨rfl, by dsimp only; rw [w64 (by omega) (by omega)], fun hx => absurd (show (7 : Int) = 1 from hx) (by decide)⟩
    · by_cases e : h < h + g
      · rw [takev_ok ok1 m2 e, takev_ok ok2 m2 (by omega)]
        exact ⟨rfl, by dsimp only; rw [w64 (by omega) (by omega)]; omega, fun _ => by dsimp only; rw [w64 (by omega) (by omega)]⟩
      · by_cases m1 : m = 1
        · rw [takev_cl ok1 m1 e, takev_cl ok2 m1 (by omega)]
          exact ⟨rfl, by dsimp only; rw [w64 (by omega) (by omega)], fun hx => absurd (show (6 : Int) = 1 from hx) (by decide)⟩
        · rw [takev_em ok1 (by omega) e, takev_em ok2 (by omega) (by omega)]
          exact ⟨rfl, by dsimp only; rw [w64 (by omega) (by omega)], fun hx => absurd (show (4 : Int) = 1 from hx) (by decide)⟩
  have A : (accv h (h + g) m r).2.2.2.2 = (accv (h + b) (h + g + b) m r).2.2.2.2 ∧ wrap64 ((accv h (h + g) m r).2.1 + b) = (accv (h + b) (h + g + b) m r).2.1 ∧ ((accv h (h + g) m r).2.2.2.2 = 1 → wrap64 ((accv h (h + g) m r).2.2.2.1 + b) = (accv (h + b) (h + g + b) m r).2.2.2.1) := by
    by_cases m2 : m = 2
    · rw [accv_no (.inr m2), accv_no (.inr m2)]
      exact ⟨rfl, by dsimp only; rw [w64 (by omega) (by omega)], fun hx => absurd (show (7 : Int) = 1 from hx) (by decide)⟩
    · by_cases m1 : m = 1
      · rw [accv_cl ok1 m1, accv_cl ok2 m1]
        exact ⟨rfl, by dsimp only; rw [w64 (by omega) (by omega)], fun hx => absurd (show (6 : Int) = 1 from hx) (by decide)⟩
      · by_cases e : r ≤ h + g - h
        · rw [accv_full ok1 (by omega) (.inl e), accv_full ok2 (by omega) (.inl (by omega))]
          exact ⟨rfl, by dsimp only; rw [w64 (by omega) (by omega)], fun hx => absurd (show (2 : Int) = 1 from hx) (by decide)⟩
        · rw [accv_ok ok1 (by omega) (by omega), accv_ok ok2 (by omega) (by omega)]
          exact ⟨rfl, by dsimp only; rw [w64 (by omega) (by omega)]; omega, fun _ => by dsimp only; rw [w64 (by omega) (by omega)]⟩
  rw [if_pos A.1, if_pos A.2.1]
  by_cases e : (accv h (h + g) m r).2.2.2.2 = 1
  · rw [if_pos e, A.2.2 e, beq_self_eq_true]
    exact later_j 0 wb T.1 T.2.1 T.2.2 E.1 E.2
  · rw [if_neg e]
    exact later_j 0 wb T.1 T.2.1 T.2.2 E.1 E.2
end Go.Proofs.Ytcmiijdkmfdpnaa.Pure
