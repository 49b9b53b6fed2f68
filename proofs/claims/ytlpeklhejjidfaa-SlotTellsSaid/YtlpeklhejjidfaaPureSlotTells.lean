/- New places, whether any may be, whose turn it is, what is written, read, and released, are what the document says (the plain part). -/
import Derived.Test.YtlpeklhejjidfaaSlotNew
import Derived.Test.YtlpeklhejjidfaaPLx13
import Derived.Test.YtlpeklhejjidfaaPLx14
import Derived.Test.YtlpeklhejjidfaaPLx15
import Derived.Test.YtlpeklhejjidfaaPLx16
import Derived.Test.YtlpeklhejjidfaaPLx17
namespace Go.Proofs.Ytlpeklhejjidfaa.Pure
open Go.RowKit Go.Proofs.Ytlpeklhejjidfaa.PL Go.Proofs.YtlpeklhejjidfaaW.PrintWords Go.Proofs.YtlpeklhejjidfaaW.PrintLast Go.Proofs.YtlpeklhejjidfaaW.PrintMore
set_option linter.unusedSimpArgs false
set_option linter.unusedVariables false
theorem rcheck_all {l : List Sl} (hl : l.length ≤ 100) : ∀ (d k : Nat) (i : Int), 0 ≤ i → (l.length : Int) - i = d → d < k → (∀ j, i ≤ j → j < l.length → Gd l j) → sakiaref09_Check.l0 k l i = some true := by
  intro d
  induction d with
  | zero =>
    intro k i h0 hd hk hg
    obtain ⟨k, rfl⟩ : ∃ m, k = m + 1 := ⟨k - 1, by omega⟩
    simp only [sakiaref09_Check.l0]
    rw [if_neg (by omega)]
  | succ d ih =>
    intro k i h0 hd hk hg
    obtain ⟨k, rfl⟩ : ∃ m, k = m + 1 := ⟨k - 1, by omega⟩
    obtain ⟨g0, g1, g2⟩ := hg i (by omega) (by omega)
    simp only [sakiaref09_Check.l0]
    rw [if_pos (by omega), if_pos h0, if_neg (by omega), if_neg (by omega), rplace_ok g0 (by omega) (by omega), g2]
    simp only [Option.bind_some]
    rw [if_pos trivial, w64 (by omega) (by omega)]
    exact ih k (i + 1) (by omega) (by omega) (by omega) (fun j h1 h2 => hg j (by omega) h2)
theorem rcheck_bad {l : List Sl} (hl : l.length ≤ 100) : ∀ (d k : Nat) (i : Int), 0 ≤ i → (l.length : Int) - i = d → d < k → (∃ j, i ≤ j ∧ j < l.length ∧ ¬ Gd l j) → sakiaref09_Check.l0 k l i = some false := by
  intro d
  induction d with
  | zero =>
    intro k i h0 hd hk hg
    obtain ⟨j, h1, h2, _⟩ := hg
    omega
  | succ d ih =>
    intro k i h0 hd hk hg
    obtain ⟨k, rfl⟩ : ∃ m, k = m + 1 := ⟨k - 1, by omega⟩
    simp only [sakiaref09_Check.l0]
    rw [if_pos (by omega), if_pos h0]
    by_cases g0 : (rd_T49 l i).f0 < 0
    · rw [if_pos g0]
    rw [if_neg g0]
    by_cases g1 : (rd_T49 l i).f0 > 2199023255552
    · rw [if_pos g1]
    rw [if_neg g1, rplace_ok (by omega) (by omega) (by omega)]
    simp only [Option.bind_some]
    by_cases g2 : (rd_T49 l i).f0 % (l.length : Int) = i
    · rw [if_pos g2, w64 (by omega) (by omega)]
      obtain ⟨j, h1, h2, h3⟩ := hg
      have hne : j ≠ i := fun e => h3 (by rw [e]; exact ⟨by omega, by omega, g2⟩)
      exact ih k (i + 1) (by omega) (by omega) (by omega) ⟨j, by omega, h2, h3⟩
    · rw [if_neg g2]
theorem rcheck_yes {l : List Sl} {k : Nat} (h : Ck l) (hk : l.length < k) : sakiaref09_Check.f (k + 1) l = some true := by
  have h1 := h.1
  have h2 := h.2.1
  unfold sakiaref09_Check.f
  rw [if_neg (by omega), decide_eq_false (by omega)]
  simp only [sakiaref09_Check.j0]
  rw [if_neg (by simp)]
  exact rcheck_all (by omega) l.length k 0 (by omega) (by omega) hk (fun j h1 h2 => h.2.2 j h1 h2)
theorem rcheck_no {l : List Sl} {k : Nat} (hl : l.length ≤ 100) (h : ¬ Ck l) (hk : l.length < k) : sakiaref09_Check.f (k + 1) l = some false := by
  unfold sakiaref09_Check.f
  by_cases h1 : (l.length : Int) < 1
  · rw [if_pos h1]; simp only [sakiaref09_Check.j0]; rw [if_pos trivial]
  rw [if_neg h1]
  by_cases h2 : (l.length : Int) > 64
  · rw [decide_eq_true h2]; simp only [sakiaref09_Check.j0]; rw [if_pos trivial]
  rw [decide_eq_false h2]
  simp only [sakiaref09_Check.j0]
  rw [if_neg (by simp)]
  refine rcheck_bad hl l.length k 0 (by omega) (by omega) hk ?_
  exact Classical.byContradiction fun hn => h ⟨by omega, by omega, fun j h0 h1 => Classical.byContradiction fun hb => hn ⟨j, h0, h1, hb⟩⟩
theorem rready_bad {l : List Sl} {k : Nat} {p : Int} (hl : l.length ≤ 100) (h : p < 0 ∨ ¬ Ck l) (hk : l.length < k) : sakiaref09_Ready.f (k + 1) l p = some false := by
  unfold sakiaref09_Ready.f
  by_cases c : Ck l
  · rw [rcheck_yes c hk]
    simp only [Option.bind_some]
    rw [if_pos trivial, if_pos (h.resolve_right (fun n => n c))]
  · rw [rcheck_no hl c hk]; rfl
theorem rready_is {l : List Sl} {k : Nat} {p : Int} (h : Ck l) (hk : l.length < k) (hp : 0 ≤ p) (hm : p ≤ 9223372036854775807) : sakiaref09_Ready.f (k + 1) l p = some ((rd_T49 l (p % (l.length : Int))).f0 == p) := by
  have b := pl h p
  unfold sakiaref09_Ready.f
  rw [rcheck_yes h hk]
  simp only [Option.bind_some]
  rw [if_pos trivial, if_neg (by omega), rplace_ok hp hm (by have := h.1; omega)]
  simp only [Option.bind_some]
  rw [if_pos b.1, if_pos b.2]
theorem rready_er {l : List Sl} {k : Nat} {p er e : Int} (hl : l.length ≤ 100) (hm : p ≤ 9223372036854775807) (hk : l.length < k) (h : Er l p er e) : sakiaref09_Ready.f (k + 1) l p = some false := by
  rcases h with ⟨h, rfl⟩ | ⟨hp, hc, hn, rfl⟩
  · exact rready_bad hl h hk
  · rw [rready_is hc hk hp hm, beq_eq_false_iff_ne.2 hn]
theorem rready_tn {l : List Sl} {k : Nat} {p : Int} (hm : p ≤ 9223372036854775807) (hk : l.length < k) (h : Tn l p) : sakiaref09_Ready.f (k + 1) l p = some true := by
  rw [rready_is h.2.1 hk h.1 hm, beq_iff_eq.2 h.2.2]
theorem ready_er {l : List Sl} {k : Nat} {p er e : Int} (hl : l.length ≤ 100) (hk : l.length < k) (h : Er l p er e) : slot_Ready.f k l p = some false := by
  rcases h with ⟨h, rfl⟩ | ⟨hp, hc, hn, rfl⟩
  · rcases h with h | h
    · exact ready_neg h
    · exact ready_bad hl h hk
  · rw [ready_is hc hk hp, beq_eq_false_iff_ne.2 hn]
theorem ready_tn {l : List Sl} {k : Nat} {p : Int} (hk : l.length < k) (h : Tn l p) : slot_Ready.f k l p = some true := by
  rw [ready_is h.2.1 hk h.1, beq_iff_eq.2 h.2.2]
theorem rwith {l : List Sl} {p x y : Int} (c : Ck l) (hp : 0 ≤ p) (hm : p ≤ 9223372036854775807) : sakiaref09_with.f l p x y = some (l.set (p % (l.length : Int)).toNat ⟨x, y⟩) := by
  have b := pl c p
  have h2 := c.2.1
  unfold sakiaref09_with.f
  simp only [Option.bind_some, List.nil_append, List.length_nil, Nat.zero_add]
  rw [if_pos (by omega), rplace_ok hp hm (by have := c.1; omega)]
  simp only [Option.bind_some]
  rw [if_pos b.1, if_pos b.2]
theorem rwrite_er {l : List Sl} {k : Nat} {p v e : Int} (hl : l.length ≤ 100) (hm : p ≤ 9223372036854775807) (hk : l.length < k) (h : Er l p 30 e) : sakiaref09_Write.f (k + 2) l p v = some (l, e) := by
  unfold sakiaref09_Write.f
  rcases h with ⟨h, rfl⟩ | ⟨hp, hc, hn, rfl⟩
  · by_cases c : Ck l
    · rw [rcheck_yes c (by omega)]
      simp only [Option.bind_some]
      rw [if_pos trivial, decide_eq_true (h.resolve_right (fun n => n c))]
      simp only [sakiaref09_Write.j0]
      rw [if_pos trivial]
    · rw [rcheck_no hl c (by omega)]
      simp only [Option.bind_some]
      rw [if_neg (by simp)]
      simp only [sakiaref09_Write.j0]
      rw [if_pos trivial]
  · rw [rcheck_yes hc (by omega)]
    simp only [Option.bind_some]
    rw [if_pos trivial, decide_eq_false (by omega)]
    simp only [sakiaref09_Write.j0]
    rw [if_neg (by simp), rready_is hc hk hp hm, beq_eq_false_iff_ne.2 hn]
    rfl
theorem rwrite_tn {l : List Sl} {k : Nat} {p v : Int} (hm : p ≤ 9223372036854775807) (hk : l.length < k) (h : Tn l p) : sakiaref09_Write.f (k + 2) l p v = some (l.set (p % (l.length : Int)).toNat ⟨p, v⟩, 0) := by
  unfold sakiaref09_Write.f
  rw [rcheck_yes h.2.1 (by omega)]
  simp only [Option.bind_some]
  rw [if_pos trivial, decide_eq_false (by have := h.1; omega)]
  simp only [sakiaref09_Write.j0]
  rw [if_neg (by simp), rready_tn hm hk h]
  simp only [Option.bind_some]
  rw [if_pos trivial, rwith h.2.1 h.1 hm]
  rfl
theorem rread_er {l : List Sl} {k : Nat} {p e : Int} (hl : l.length ≤ 100) (hm : p ≤ 9223372036854775807) (hk : l.length < k) (h : Er l p 40 e) : sakiaref09_Read.f (k + 1) l p = some (0, e) := by
  unfold sakiaref09_Read.f
  rw [rready_er hl hm hk h]
  rcases h with ⟨_, rfl⟩ | ⟨_, _, _, rfl⟩ <;> rfl
theorem rread_tn {l : List Sl} {k : Nat} {p : Int} (hm : p ≤ 9223372036854775807) (hk : l.length < k) (h : Tn l p) : sakiaref09_Read.f (k + 1) l p = some ((rd_T49 l (p % (l.length : Int))).f1, 0) := by
  have b := pl h.2.1 p
  unfold sakiaref09_Read.f
  rw [rready_tn hm hk h]
  simp only [Option.bind_some]
  rw [if_pos trivial, rplace_ok h.1 hm (by have := h.2.1.1; omega)]
  simp only [Option.bind_some]
  rw [if_pos b.1, if_pos b.2]
theorem rrelease_er {l : List Sl} {k : Nat} {p e : Int} (hl : l.length ≤ 100) (hm : p ≤ 9223372036854775807) (hk : l.length < k) (h : Er l p 40 e) : sakiaref09_Release.f (k + 1) l p = some (l, 40) := by
  unfold sakiaref09_Release.f
  rw [rready_er hl hm hk h]
  simp only [Option.bind_some]
  rw [if_neg (by simp)]
  simp only [sakiaref09_Release.j0]
  rw [if_pos trivial]
theorem rrelease_big {l : List Sl} {k : Nat} {p : Int} (hm : p ≤ 9223372036854775807) (hk : l.length < k) (h : Tn l p) (hb : p > 1099511627776) : sakiaref09_Release.f (k + 1) l p = some (l, 40) := by
  unfold sakiaref09_Release.f
  rw [rready_tn hm hk h]
  simp only [Option.bind_some]
  rw [if_pos trivial, decide_eq_true hb]
  simp only [sakiaref09_Release.j0]
  rw [if_pos trivial]
theorem rrelease_tn {l : List Sl} {k : Nat} {p : Int} (hm : p ≤ 9223372036854775807) (hk : l.length < k) (h : Tn l p) (hb : ¬ p > 1099511627776) : sakiaref09_Release.f (k + 2) l p = some (l.set (p % (l.length : Int)).toNat ⟨p + (l.length : Int), (rd_T49 l (p % (l.length : Int))).f1⟩, 0) := by
  have h2 := h.2.1.2.1
  have h0 := h.1
  unfold sakiaref09_Release.f
  rw [rready_tn hm (by omega) h]
  simp only [Option.bind_some]
  rw [if_pos trivial, decide_eq_false hb]
  simp only [sakiaref09_Release.j0]
  rw [if_neg (by simp), rread_tn hm hk h]
  simp only [Option.bind_some]
  rw [w64 (by omega) (by omega), rwith h.2.1 h.1 hm]
  rfl
theorem rnew_in : ∀ r : Fin 64, sakiaref09_New.f 400 ((r.val : Int) + 1) = some (news (r.val + 1)) := by decide +kernel
theorem new_same (n : Int) : ∃ l, slot_New.f 400 n = some l ∧ sakiaref09_New.f 400 n = some l ∧ l.length ≤ 100 := by
  by_cases h : n < 1 ∨ n > 64
  · refine ⟨[], new_no h, ?_, by simp⟩
    unfold sakiaref09_New.f
    rw [show (400 : Nat) = 399 + 1 from rfl, sakiaref09_New.l0]
    by_cases h0 : 0 < n
    · rw [if_pos h0, if_neg (by omega)]
    · rw [if_neg h0]
  · refine ⟨_, new_ok (by omega) (by omega), ?_, by rw [news_length]; omega⟩
    have h1 := rnew_in ⟨(n - 1).toNat, by omega⟩
    have e : (((n - 1).toNat : Nat) : Int) + 1 = n := by omega
    have e2 : (n - 1).toNat + 1 = n.toNat := by omega
    simp only [e, e2] at h1
    exact h1
theorem SlotTells : sakialaw09_SlotTells.Pure := by
  intro l p v n _ _ hp _ _
  have hm := (bounds_i64 hp).2
  refine ⟨400, ?_⟩
  unfold sakialaw09_SlotTells.f
  rw [sakialaw09_awake.eq_]
  simp only [Option.bind_some]
  by_cases hl : (l.length : Int) > 100
  · rw [if_pos hl]
  rw [if_neg hl]
  have hl : l.length ≤ 100 := by omega
  have hk : l.length < 400 := by omega
  obtain ⟨m, n1, n2, n3⟩ := new_same n
  have hs := same_self l 400 hl hk
  have hc : ∃ b, slot_Check.f 400 l = some b ∧ sakiaref09_Check.f 400 l = some b := by
    by_cases c : Ck l
    · exact ⟨true, check_yes c hk, rcheck_yes c (k := 399) (by omega)⟩
    · exact ⟨false, check_no hl c hk, rcheck_no hl c (k := 399) (by omega)⟩
  obtain ⟨b, c1, c2⟩ := hc
  rcases ways l p 30 with ⟨e, he⟩ | tp
  · obtain ⟨e2, he2⟩ : ∃ e2, Er l p 40 e2 := ⟨40, he.elim (fun h => .inl ⟨h.1, rfl⟩) (fun h => .inr ⟨h.1, h.2.1, h.2.2.1, rfl⟩)⟩
    rw [write_er hl hk he, rwrite_er (k := 398) hl hm (by omega) he, read_er hl hk he2, rread_er (k := 399) hl hm (by omega) he2, release_er hl hk he2, rrelease_er (k := 399) hl hm (by omega) he2, n1, n2, c1, c2, ready_er hl hk he2, rready_er (k := 399) hl hm (by omega) he2]
    simp only [Option.bind_some, beq_self_eq_true, if_true, same_self m 400 n3 (by omega), hs]
  · rw [write_tn hk tp, rwrite_tn (k := 398) hm (by omega) tp, read_tn hk tp, rread_tn (k := 399) hm (by omega) tp, n1, n2, c1, c2, ready_tn hk tp, rready_tn (k := 399) hm (by omega) tp]
    by_cases hb : p > 1099511627776
    · rw [release_big hk tp hb, rrelease_big (k := 399) hm (by omega) tp hb]
      simp only [Option.bind_some, beq_self_eq_true, if_true, same_self m 400 n3 (by omega), hs, same_self (l.set (p % (l.length : Int)).toNat ⟨p, v⟩) 400 (by simpa using hl) (by simpa using hk)]
    · rw [release_tn hk tp hb, rrelease_tn (k := 398) hm (by omega) tp hb]
      simp only [Option.bind_some, beq_self_eq_true, if_true, same_self m 400 n3 (by omega), same_self (l.set (p % (l.length : Int)).toNat ⟨p, v⟩) 400 (by simpa using hl) (by simpa using hk), same_self (l.set (p % (l.length : Int)).toNat ⟨p + (l.length : Int), (rd_T49 l (p % (l.length : Int))).f1⟩) 400 (by simpa using hl) (by simpa using hk)]
end Go.Proofs.Ytlpeklhejjidfaa.Pure
