/- Whose an entry is does not matter (the plain part). -/
import Derived.Test.YtmilniofdpgbnaaFifoLib
import Derived.Test.YtmilniofdpgbnaaPLx9
import Derived.Test.YtmilniofdpgbnaaPLx11
import Derived.Test.YtmilniofdpgbnaaPLx24
namespace Go.Proofs.Ytmilniofdpgbnaa.Pure
open Go.RowKit Go.Proofs.Ytmilniofdpgbnaa.PL Go.Proofs.YtmilniofdpgbnaaW.PrintWords Go.Proofs.YtmilniofdpgbnaaW.PrintLast Go.Proofs.YtmilniofdpgbnaaW.PrintMore
set_option linter.unusedSimpArgs false
set_option linter.unusedVariables false
theorem sends_eq (e : Int) : fifo_Sends.f e = some (decide (1 ≤ e ∧ e ≤ 3)) := by
  unfold fifo_Sends.f
  repeat' split
  all_goals (refine congrArg some ?_; rw [Bool.eq_iff_iff]; simp only [decide_eq_true_eq, beq_iff_eq, true_iff]; omega)
theorem recvs_eq (e : Int) : fifo_Recvs.f e = some (decide (4 ≤ e ∧ e ≤ 6)) := by
  unfold fifo_Recvs.f
  repeat' split
  all_goals (refine congrArg some ?_; rw [Bool.eq_iff_iff]; simp only [decide_eq_true_eq, beq_iff_eq, true_iff]; omega)
theorem doR_len (l : List Int) (a b c e1 e2 e3 e4 : Int) : (doR l a b c e1 e2 e3 e4).1.length ≤ l.length + 1 := by
  unfold doR
  cases h : stp l a b c e1 e2 e3 e4 with
  | none => simp
  | some p => exact stp_len h
theorem doR_got (l : List Int) (a b c e1 e2 e3 e4 n : Int) (h : 1 ≤ e1 ∧ e1 ≤ 3) : doR l a b c e1 e2 e3 n = doR l a b c e1 e2 e3 e4 := by
  unfold doR
  rw [stp_send _ _ _ _ _ _ _ _ h, stp_send _ _ _ _ _ _ _ _ h]
theorem doR_val (l : List Int) (a b c e1 e2 e3 e4 n : Int) (h : 4 ≤ e1 ∧ e1 ≤ 6) : doR l a b c e1 n e3 e4 = doR l a b c e1 e2 e3 e4 := by
  unfold doR
  rw [stp_recv _ _ _ _ _ _ _ _ h, stp_recv _ _ _ _ _ _ _ _ h]
theorem threads_j0 (l : List Int) (a b c e0 e1 e2 e3 e4 th n g4 : Int) (hl : l.length ≤ 100) (h : doR l a b c e1 (if 4 ≤ e1 ∧ e1 ≤ 6 then n else e2) e3 g4 = doR l a b c e1 e2 e3 e4) :
    sakialaw03_FifoThreads.j0 400 n true l a b c e0 e1 e2 e3 e4 th e1 e2 e3 g4 = some true := by
  rw [show (400 : Nat) = 399 + 1 from rfl, sakialaw03_FifoThreads.j0, recvs_eq]
  simp only [Option.bind_some]
  have hn := doR_len l a b c e1 e2 e3 e4
  by_cases hr : 4 ≤ e1 ∧ e1 ≤ 6
  · rw [if_pos (decide_eq_true hr), do_eq _ _ _ _ _ _ _ _ _ (by omega), do_eq _ _ _ _ _ _ _ _ _ (by omega)]
    rw [if_pos hr] at h
    simp only [Option.bind_some]
    rw [h, if_pos trivial, same_self _ _ _ _ _ (by omega) (by omega)]
    simp
  · rw [if_neg (by simp only [decide_eq_true_eq]; exact hr), do_eq _ _ _ _ _ _ _ _ _ (by omega), do_eq _ _ _ _ _ _ _ _ _ (by omega)]
    rw [if_neg hr] at h
    simp only [Option.bind_some]
    rw [h, if_pos trivial, same_self _ _ _ _ _ (by omega) (by omega)]
    simp
theorem FifoThreads : sakialaw03_FifoThreads.Pure := by
  intro l a b c e0 e1 e2 e3 e4 th n _ _ _ _
  refine ⟨400, ?_⟩
  unfold sakialaw03_FifoThreads.f
  rw [sakialaw03_awake.eq_]
  simp only [Option.bind_some]
  by_cases hl : (l.length : Int) > 100
  · rw [if_pos hl]
  rw [if_neg hl, sends_eq]
  simp only [Option.bind_some]
  by_cases hs : 1 ≤ e1 ∧ e1 ≤ 3
  · rw [if_pos (decide_eq_true hs)]
    refine threads_j0 l a b c e0 e1 e2 e3 e4 th n n (by omega) ?_
    rw [if_neg (by omega)]
    exact doR_got _ _ _ _ _ _ _ _ _ hs
  · rw [if_neg (by simp only [decide_eq_true_eq]; exact hs)]
    refine threads_j0 l a b c e0 e1 e2 e3 e4 th n e4 (by omega) ?_
    by_cases hr : 4 ≤ e1 ∧ e1 ≤ 6
    · rw [if_pos hr]
      exact doR_val _ _ _ _ _ _ _ _ _ hr
    · rw [if_neg hr]
end Go.Proofs.Ytmilniofdpgbnaa.Pure
