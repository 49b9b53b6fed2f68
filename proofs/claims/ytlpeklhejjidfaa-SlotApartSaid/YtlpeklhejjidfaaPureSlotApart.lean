/- What is written at two places may be so in either order (the plain part). -/
import Derived.Test.YtlpeklhejjidfaaSlotLib
import Derived.Test.YtlpeklhejjidfaaPLx13
import Derived.Test.YtlpeklhejjidfaaPLx21
namespace Go.Proofs.Ytlpeklhejjidfaa.Pure
open Go.RowKit Go.Proofs.Ytlpeklhejjidfaa.PL Go.Proofs.YtlpeklhejjidfaaW.PrintWords Go.Proofs.YtlpeklhejjidfaaW.PrintLast Go.Proofs.YtlpeklhejjidfaaW.PrintMore
set_option linter.unusedSimpArgs false
set_option linter.unusedVariables false
theorem apart_j0 {l : List Sl} {p q a b : Int} (hl : l.length ≤ 100) (hne : p ≠ q) (k : Nat) (hk : l.length < k) : sakialaw09_SlotApart.j0 (k + 1) l p q a b true false = some true := by
  simp only [sakialaw09_SlotApart.j0]
  rw [if_neg (by simp)]
  rcases ways l p 30 with ⟨e, he⟩ | tp
  · rw [write_er hl hk he]
    simp only [Option.bind_some]
    rcases ways l q 30 with ⟨f, hf⟩ | tq
    · rw [write_er hl hk hf]
      simp only [Option.bind_some]
      rw [write_er hl hk he]
      simp only [Option.bind_some]
      rw [if_pos trivial, same_self l k hl hk]
      simp only [Option.bind_some]
      rw [if_pos trivial, if_pos trivial]
      simp
    · rw [write_tn hk tq]
      simp only [Option.bind_some]
      rw [write_er (by simpa using hl) (by simpa using hk) ((St.set tq b).er he)]
      simp only [Option.bind_some]
      rw [if_pos trivial, same_self _ k (by simpa using hl) (by simpa using hk)]
      simp only [Option.bind_some]
      rw [if_pos trivial, if_pos trivial]
      simp
  · rw [write_tn hk tp]
    simp only [Option.bind_some]
    rcases ways l q 30 with ⟨f, hf⟩ | tq
    · rw [write_er (l := l) hl hk hf, write_er (by simpa using hl) (by simpa using hk) ((St.set tp a).er hf)]
      simp only [Option.bind_some]
      rw [write_tn hk tp]
      simp only [Option.bind_some]
      rw [if_pos trivial, same_self _ k (by simpa using hl) (by simpa using hk)]
      simp only [Option.bind_some]
      rw [if_pos trivial, if_pos trivial]
      simp
    · rw [write_tn (l := l) hk tq, write_tn (by simpa using hk) ((St.set tp a).tn tq)]
      simp only [Option.bind_some]
      rw [write_tn (by simpa using hk) ((St.set tq b).tn tp)]
      simp only [Option.bind_some, List.length_set]
      have bp := pl tp.2.1 p
      have bq := pl tq.2.1 q
      have hi : (p % (l.length : Int)).toNat ≠ (q % (l.length : Int)).toNat := by
        intro e
        have e2 : p % (l.length : Int) = q % (l.length : Int) := by omega
        have h1 := tp.2.2
        rw [e2] at h1
        exact hne (h1.symm.trans tq.2.2)
      rw [if_pos trivial, List.set_comm _ _ hi, same_self _ k (by simpa using hl) (by simpa using hk)]
      simp only [Option.bind_some]
      rw [if_pos trivial, if_pos trivial]
      simp
theorem SlotApart : sakialaw09_SlotApart.Pure := by
  intro l p q a b _ _ _ _ _ _
  refine ⟨400, ?_⟩
  unfold sakialaw09_SlotApart.f
  rw [sakialaw09_awake.eq_]
  simp only [Option.bind_some]
  by_cases hl : (l.length : Int) > 100
  · rw [if_pos hl]
    simp only [sakialaw09_SlotApart.j0]
    rw [if_pos trivial]
  · rw [if_neg hl]
    by_cases hne : p = q
    · rw [beq_iff_eq.2 hne]
      simp only [sakialaw09_SlotApart.j0]
      rw [if_pos trivial]
    · rw [beq_eq_false_iff_ne.2 hne]
      exact apart_j0 (by omega) hne 399 (by omega)
end Go.Proofs.Ytlpeklhejjidfaa.Pure
