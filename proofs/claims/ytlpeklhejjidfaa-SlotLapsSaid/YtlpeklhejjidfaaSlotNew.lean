/- New places, as a plain list. -/
import Derived.Test.YtlpeklhejjidfaaSlotLib
import Derived.Test.YtlpeklhejjidfaaPLx12
namespace Go.Proofs.Ytlpeklhejjidfaa.Pure
open Go.RowKit Go.Proofs.Ytlpeklhejjidfaa.PL Go.Proofs.YtlpeklhejjidfaaW.PrintWords Go.Proofs.YtlpeklhejjidfaaW.PrintLast Go.Proofs.YtlpeklhejjidfaaW.PrintMore
set_option linter.unusedSimpArgs false
set_option linter.unusedVariables false
instance slDec : DecidableEq Sl := fun a b => if h : a.f0 = b.f0 ∧ a.f1 = b.f1 then isTrue (by obtain ⟨a0, a1⟩ := a; obtain ⟨b0, b1⟩ := b; obtain ⟨h0, h1⟩ := h; simp only at h0 h1; rw [h0, h1]) else isFalse (fun e => h (by rw [e]; exact ⟨rfl, rfl⟩))
def news (n : Nat) : List Sl := (List.range n).map fun (i : Nat) => (⟨(i : Int), 0⟩ : Sl)
theorem new_in : ∀ r : Fin 64, slot_New.f 400 ((r.val : Int) + 1) = some (news (r.val + 1)) := by decide +kernel
theorem new_ok {n : Int} (h0 : 1 ≤ n) (h1 : n ≤ 64) : slot_New.f 400 n = some (news n.toNat) := by
  have h := new_in ⟨(n - 1).toNat, by omega⟩
  have e : (((n - 1).toNat : Nat) : Int) + 1 = n := by omega
  have e2 : (n - 1).toNat + 1 = n.toNat := by omega
  simp only [e, e2] at h
  exact h
theorem new_no {n : Int} (h : n < 1 ∨ n > 64) : slot_New.f 400 n = some [] := by
  unfold slot_New.f
  by_cases h0 : n < 1
  · rw [if_pos h0]; simp only [slot_New.j0]; rw [if_pos trivial]
  · rw [if_neg h0, decide_eq_true (h.resolve_left h0)]; simp only [slot_New.j0]; rw [if_pos trivial]
theorem news_length (n : Nat) : (news n).length = n := by simp [news]
theorem news_at (n : Nat) (j : Int) (h0 : 0 ≤ j) (h1 : j < n) : rd_T49 (news n) j = ⟨j, 0⟩ := by
  unfold rd_T49 news
  rw [List.getD_eq_getElem?_getD, List.getElem?_map, List.getElem?_range (by omega)]
  simp only [Option.map_some, Option.getD_some]
  rw [Int.toNat_of_nonneg h0]
end Go.Proofs.Ytlpeklhejjidfaa.Pure
