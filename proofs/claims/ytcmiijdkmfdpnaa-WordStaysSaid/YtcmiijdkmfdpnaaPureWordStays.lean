/- What may be stays so, and what is refused leaves it as it was (the plain part). -/
import Derived.Test.YtcmiijdkmfdpnaaWordLib
import Derived.Test.YtcmiijdkmfdpnaaPLx5
import Derived.Test.YtcmiijdkmfdpnaaPLx10
namespace Go.Proofs.Ytcmiijdkmfdpnaa.Pure
open Go.RowKit Go.Proofs.Ytcmiijdkmfdpnaa.PL Go.Proofs.YtcmiijdkmfdpnaaW.PrintWords Go.Proofs.YtcmiijdkmfdpnaaW.PrintLast Go.Proofs.YtcmiijdkmfdpnaaW.PrintMore
set_option linter.unusedSimpArgs false
set_option linter.unusedVariables false
theorem upWStays (k : Nat) : sakialaw08_awake.f (k + 2) = some true := by
  have h : sakialaw08_awake.f 2 = some true := by decide +kernel
  induction k with
  | zero => exact h
  | succ k ih => exact sakialaw08_awake.mono _ _ ih
theorem stays_j {x11 x12 x14 x15 h t m A0 A1 A2 B0 B1 B2 C0 C1 C2 : Int} {x17 : Bool} (n : Nat)
    (hA : x12 = 1 ∧ x11 = t ∨ x12 ≠ 1 ∧ A0 = h ∧ A1 = t ∧ A2 = m ∧ x11 = 0) (hB : x15 = 1 ∧ x14 = h ∨ x15 ≠ 1 ∧ B0 = h ∧ B1 = t ∧ B2 = m ∧ x14 = 0) (hC : x17 = true ∨ C0 = h ∧ C1 = t ∧ C2 = m) :
    sakialaw08_WordStays.j0 (n + 2) true x11 x12 x14 x15 x17 true h t m A0 A1 A2 B0 B1 B2 C0 C1 C2 = some true := by
  simp only [sakialaw08_WordStays.j0, sakialaw08_WordStays.j1, if_true]
  rcases hA with ⟨a1, a2⟩ | ⟨a1, a2, a3, a4, a5⟩ <;> rcases hB with ⟨b1, b2⟩ | ⟨b1, b2, b3, b4, b5⟩ <;> rcases hC with c1 | ⟨c1, c2, c3⟩
  · simp [a1, a2, b1, b2, c1]
  · cases x17 <;> simp [a1, a2, b1, b2, c1, c2, c3]
  · simp [a1, a2, b1, b2, b3, b4, b5, c1]
  · cases x17 <;> simp [a1, a2, b1, b2, b3, b4, b5, c1, c2, c3]
  · simp [a1, a2, a3, a4, a5, b1, b2, c1]
  · cases x17 <;> simp [a1, a2, a3, a4, a5, b1, b2, c1, c2, c3]
  · simp [a1, a2, a3, a4, a5, b1, b2, b3, b4, b5, c1]
  · cases x17 <;> simp [a1, a2, a3, a4, a5, b1, b2, b3, b4, b5, c1, c2, c3]
theorem acc_shape (h t m r : Int) : (accv h t m r).2.2.2.2 = 1 ∧ (accv h t m r).2.2.2.1 = t ∨ (accv h t m r).2.2.2.2 ≠ 1 ∧ (accv h t m r).1 = h ∧ (accv h t m r).2.1 = t ∧ (accv h t m r).2.2.1 = m ∧ (accv h t m r).2.2.2.1 = 0 := by
  unfold accv
  repeat' split
  all_goals simp
theorem take_shape (h t m r : Int) : (takev h t m r).2.2.2.2 = 1 ∧ (takev h t m r).2.2.2.1 = h ∨ (takev h t m r).2.2.2.2 ≠ 1 ∧ (takev h t m r).1 = h ∧ (takev h t m r).2.1 = t ∧ (takev h t m r).2.2.1 = m ∧ (takev h t m r).2.2.2.1 = 0 := by
  unfold takev
  repeat' split
  all_goals simp
theorem evict_shape (h t m r hd : Int) : (evictv h t m r hd).2.2.2 = true ∨ (evictv h t m r hd).1 = h ∧ (evictv h t m r hd).2.1 = t ∧ (evictv h t m r hd).2.2.1 = m := by
  unfold evictv
  split <;> simp
section
variable {h t m r : Int} (ok : okw h t m r)
include ok
theorem acc_okw : okw (accv h t m r).1 (accv h t m r).2.1 (accv h t m r).2.2.1 r := by
  have ok' := ok
  unfold okw at ok'
  unfold accv
  repeat' split
  all_goals first | exact ok | (unfold okw; dsimp only; omega)
theorem take_okw : okw (takev h t m r).1 (takev h t m r).2.1 (takev h t m r).2.2.1 r := by
  have ok' := ok
  unfold okw at ok'
  unfold takev
  repeat' split
  all_goals first | exact ok | (unfold okw; dsimp only; omega)
theorem evict_okw (hd : Int) : okw (evictv h t m r hd).1 (evictv h t m r hd).2.1 (evictv h t m r hd).2.2.1 r := by
  have ok' := ok
  unfold okw at ok'
  unfold evictv
  split
  · unfold okw; dsimp only; omega
  · exact ok
theorem close_okw (c : Int) : okw (closev h t m c).1 (closev h t m c).2.1 (closev h t m c).2.2 r := by
  have ok' := ok
  unfold okw at ok'
  unfold closev mx
  repeat' split
  all_goals first | exact ok | (unfold okw; dsimp only; omega)
end
theorem okw_bd {h t m r : Int} (ok : okw h t m r) : (-9223372036854775808 ≤ h ∧ h ≤ 9223372036854775807) ∧ (-9223372036854775808 ≤ t ∧ t ≤ 9223372036854775807) := by
  unfold okw at ok; omega
theorem WordStays : sakialaw08_WordStays.Pure := by
  intro h t m r hd c hg hr hhd hc
  obtain ⟨hh, ht, hm⟩ := hg
  have hh := bounds_i64 hh
  have ht := bounds_i64 ht
  refine ⟨2, ?_⟩
  unfold sakialaw08_WordStays.f
  rw [upWStays 0, accept_eq hh ht, take_eq hh ht, evict_eq hh ht, close_eq, check_eq hh ht]
  simp only [Option.bind_some]
  by_cases ok : okw h t m r
  · have b1 := okw_bd (acc_okw ok)
    have b2 := okw_bd (take_okw ok)
    have b3 := okw_bd (evict_okw ok hd)
    have b4 := okw_bd (close_okw ok c)
    rw [if_pos (decide_eq_true ok), check_eq b1.1 b1.2]
    simp only [Option.bind_some]
    rw [if_pos (decide_eq_true (acc_okw ok)), check_eq b2.1 b2.2]
    simp only [Option.bind_some]
    rw [if_pos (decide_eq_true (take_okw ok)), check_eq b3.1 b3.2]
    simp only [Option.bind_some]
    rw [if_pos (decide_eq_true (evict_okw ok hd)), check_eq b4.1 b4.2]
    simp only [Option.bind_some]
    rw [decide_eq_true (close_okw ok c)]
    exact stays_j 0 (acc_shape h t m r) (take_shape h t m r) (evict_shape h t m r hd)
  · rw [if_neg (by simpa using ok)]
    exact stays_j 0 (acc_shape h t m r) (take_shape h t m r) (evict_shape h t m r hd)
end Go.Proofs.Ytcmiijdkmfdpnaa.Pure
