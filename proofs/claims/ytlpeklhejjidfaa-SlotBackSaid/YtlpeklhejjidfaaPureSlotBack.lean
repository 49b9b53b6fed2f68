/- What was written is read, and released it is the turn of one lap later (the plain part). -/
import Derived.Test.YtlpeklhejjidfaaSlotLib
import Derived.Test.YtlpeklhejjidfaaPLx13
import Derived.Test.YtlpeklhejjidfaaPLx18
namespace Go.Proofs.Ytlpeklhejjidfaa.Pure
open Go.RowKit Go.Proofs.Ytlpeklhejjidfaa.PL Go.Proofs.YtlpeklhejjidfaaW.PrintWords Go.Proofs.YtlpeklhejjidfaaW.PrintLast Go.Proofs.YtlpeklhejjidfaaW.PrintMore
set_option linter.unusedSimpArgs false
set_option linter.unusedVariables false
theorem rel_ck {a : List Sl} {p : Int} (t : Tn a p) (hb : ¬ p > 1099511627776) (y : Int) : Ck (a.set (p % (a.length : Int)).toNat ⟨p + (a.length : Int), y⟩) := by
  have b := pl t.2.1 p
  have c := t.2.1
  have h0 := t.1
  have h1 := c.1
  have h2 := c.2.1
  refine ⟨by simpa using c.1, by simpa using c.2.1, fun j j0 j1 => ?_⟩
  rw [List.length_set] at j1
  unfold Gd
  rw [List.length_set]
  by_cases e : p % (a.length : Int) = j
  · rw [← e, at_same _ _ _ b.1 (by omega)]
    refine ⟨by show 0 ≤ p + (a.length : Int); omega, by show p + (a.length : Int) ≤ 2199023255552; omega, ?_⟩
    show (p + (a.length : Int)) % (a.length : Int) = p % (a.length : Int)
    rw [Int.add_emod_right]
  · rw [at_other _ _ _ _ b.1 j0 e]
    exact c.2.2 j j0 j1
theorem back_j0 {l a : List Sl} {p : Int} (hl : l.length = a.length) (ta : Tn a p) (k : Nat) (hk : a.length < k) : sakialaw09_SlotBack.j0 (k + 1) l p true a false = some true := by
  have b := pl ta.2.1 p
  have h0 := ta.1
  have h1 := ta.2.1.1
  have h2 := ta.2.1.2.1
  simp only [sakialaw09_SlotBack.j0]
  rw [if_neg (by simp)]
  by_cases hb : p > 1099511627776
  · rw [release_big hk ta hb]
    simp only [Option.bind_some]
    rw [if_pos trivial, if_neg (by decide), if_pos hb]
  · rw [release_tn hk ta hb]
    simp only [Option.bind_some]
    have c := rel_ck ta hb (rd_T49 a (p % (a.length : Int))).f1
    rw [if_pos trivial, if_pos trivial, ready_is c (by simpa using hk) ta.1, List.length_set, at_same _ _ _ b.1 b.2]
    simp only [Option.bind_some]
    rw [if_neg (by simp; omega), hl, w64 (by omega) (by omega), ready_is c (by simpa using hk) (by omega), List.length_set, Int.add_emod_right, at_same _ _ _ b.1 b.2]
    simp
theorem SlotBack : sakialaw09_SlotBack.Pure := by
  intro l p v o _ _ _ _ _
  refine ⟨400, ?_⟩
  unfold sakialaw09_SlotBack.f
  rw [sakialaw09_awake.eq_]
  simp only [Option.bind_some]
  by_cases hl : (l.length : Int) > 100
  · rw [if_pos hl]
  rw [if_neg hl]
  have hl : l.length ≤ 100 := by omega
  have hk : l.length < 400 := by omega
  rcases ways l p 30 with ⟨e, he⟩ | tp
  · rw [write_er hl hk he]
    simp only [Option.bind_some]
    have hs := same_self l 400 hl hk
    rcases he with ⟨h, rfl⟩ | ⟨hp, hc, hn, rfl⟩
    · rw [if_neg (by decide), if_pos trivial, hs]
      simp only [Option.bind_some]
      rw [if_pos trivial]
      by_cases hp : p < 0
      · rw [if_pos hp]; rfl
      · rw [if_neg hp, check_no hl (h.resolve_left hp) hk]; rfl
    · rw [if_neg (by decide), if_pos trivial, hs]
      simp only [Option.bind_some]
      rw [if_pos trivial, if_neg (by omega), check_yes hc hk]; rfl
  · have b := pl tp.2.1 p
    have s := St.set tp v
    rw [write_tn hk tp]
    simp only [Option.bind_some]
    rw [if_pos trivial, read_tn (by simpa using hk) (s.tn tp), List.length_set, at_same _ _ _ b.1 b.2]
    simp only [Option.bind_some]
    have hj := back_j0 (l := l) (by simp) (s.tn tp) 399 (by simp; omega)
    rcases ways l o 40 with ⟨e, he⟩ | to_
    · rw [read_er hl hk he, read_er (by simpa using hl) (by simpa using hk) (s.er he)]
      simp only [Option.bind_some]
      rw [if_pos trivial, if_pos trivial, if_pos trivial]
      by_cases ho : o = p
      · rw [if_pos ho]; exact hj
      · rw [if_neg ho]; exact hj
    · rw [read_tn hk to_, read_tn (by simpa using hk) (s.tn to_), List.length_set]
      simp only [Option.bind_some]
      rw [if_pos trivial, if_pos trivial, if_pos trivial]
      by_cases ho : o = p
      · rw [if_pos ho]; exact hj
      · have hi : p % (l.length : Int) ≠ o % (l.length : Int) := fun e => ho (by rw [← to_.2.2, ← e]; exact tp.2.2)
        rw [if_neg ho, at_other _ _ _ _ b.1 (pl tp.2.1 o).1 hi, bne_self_eq_false]; exact hj
end Go.Proofs.Ytlpeklhejjidfaa.Pure
