/- Of new places all are written, read and released lap by lap (the plain part). -/
import Derived.Test.YtlpeklhejjidfaaSlotNew
import Derived.Test.YtlpeklhejjidfaaPLx13
import Derived.Test.YtlpeklhejjidfaaPLx20
namespace Go.Proofs.Ytlpeklhejjidfaa.Pure
open Go.RowKit Go.Proofs.Ytlpeklhejjidfaa.PL Go.Proofs.YtlpeklhejjidfaaW.PrintWords Go.Proofs.YtlpeklhejjidfaaW.PrintLast Go.Proofs.YtlpeklhejjidfaaW.PrintMore
set_option linter.unusedSimpArgs false
set_option linter.unusedVariables false
theorem near {x y r : Int} (hr : 1 ≤ r) (h1 : x - y < r) (h2 : y - x < r) (h : x % r = y % r) : x = y := by
  have s1 := split (p := x) (r := r)
  have s2 := split (p := y) (r := r)
  rcases Int.lt_trichotomy (x / r) (y / r) with hl | hl | hl
  · have := Int.mul_le_mul_of_nonneg_left (show x / r + 1 ≤ y / r by omega) (show 0 ≤ r by omega)
    rw [Int.mul_add] at this; omega
  · rw [hl] at s1; omega
  · have := Int.mul_le_mul_of_nonneg_left (show y / r + 1 ≤ x / r by omega) (show 0 ≤ r by omega)
    rw [Int.mul_add] at this; omega
/-- The places when p is the next position. -/
def Lap (l : List Sl) (n p : Int) : Prop := (l.length : Int) = n ∧ 1 ≤ n ∧ n ≤ 64 ∧ 0 ≤ p ∧ p ≤ 1000 ∧ ∀ j : Int, 0 ≤ j → j < n → p ≤ (rd_T49 l j).f0 ∧ (rd_T49 l j).f0 < p + n ∧ (rd_T49 l j).f0 % n = j
theorem Lap.ck {l : List Sl} {n p : Int} (h : Lap l n p) : Ck l := by
  obtain ⟨e, h1, h2, h3, h4, h5⟩ := h
  refine ⟨by omega, by omega, fun j j0 j1 => ?_⟩
  have := h5 j j0 (by omega)
  exact ⟨by omega, by omega, by rw [e]; exact this.2.2⟩
theorem Lap.tn {l : List Sl} {n p : Int} (h : Lap l n p) : Tn l p := by
  refine ⟨h.2.2.2.1, h.ck, ?_⟩
  obtain ⟨e, h1, h2, h3, h4, h5⟩ := h
  have b := mod_bd (p := p) h1
  obtain ⟨a1, a2, a3⟩ := h5 (p % n) b.1 b.2
  rw [e]
  exact near h1 (by omega) (by omega) a3
theorem laps_l0 (n q : Int) (hq0 : 0 ≤ q) (hq : q ≤ 255) : ∀ (d k : Nat) (l : List Sl) (p : Int), Lap l n p → q - p ≤ d → p ≤ 255 → d + 70 < k → sakialaw09_SlotLaps.l0 k q true n l p = some true := by
  intro d
  induction d with
  | zero =>
    intro k l p h hd hp hk
    obtain ⟨k, rfl⟩ : ∃ m, k = m + 1 := ⟨k - 1, by omega⟩
    simp only [sakialaw09_SlotLaps.l0]
    have h0 := h.2.2.2.1
    rw [w64 (x := q) (by omega) (by omega), if_neg (by omega), if_pos trivial, h.1]
    simp
  | succ d ih =>
    intro k l p h hd hp hk
    obtain ⟨k, rfl⟩ : ∃ m, k = m + 1 := ⟨k - 1, by omega⟩
    simp only [sakialaw09_SlotLaps.l0]
    have h0 := h.2.2.2.1
    by_cases hlt : p < q
    · have tp := h.tn
      have c := h.ck
      have b := pl c p
      have e := h.1
      have h1 := h.2.1
      have h2 := h.2.2.1
      have hk2 : l.length < k := by omega
      have s := St.set tp (3 * p)
      rw [w64 (x := q) (by omega) (by omega), if_pos hlt, w64 (x := 3 * p) (by omega) (by omega), w64 (x := p + n) (by omega) (by omega), w64 (x := p + 1) (by omega) (by omega), write_tn hk2 tp]
      simp only [Option.bind_some]
      have hpl : (p + n) % (l.length : Int) = p % (l.length : Int) := by rw [e, Int.add_emod_right]
      have he : Er (l.set (p % (l.length : Int)).toNat ⟨p, 3 * p⟩) (p + n) 30 30 := by
        refine .inr ⟨by omega, s.ck c, ?_, rfl⟩
        rw [List.length_set, hpl, at_same _ _ _ b.1 b.2]
        show p ≠ p + n
        omega
      rw [write_er (by simp; omega) (by simpa using hk2) he]
      simp only [Option.bind_some]
      rw [read_tn (by simpa using hk2) (s.tn tp), List.length_set, at_same _ _ _ b.1 b.2]
      simp only [Option.bind_some]
      rw [release_tn (by simpa using hk2) (s.tn tp) (by omega), List.length_set, at_same _ _ _ b.1 b.2]
      simp only [Option.bind_some]
      rw [if_pos trivial, if_pos trivial, if_pos trivial, if_pos trivial, if_pos trivial]
      have hL : Lap ((l.set (p % (l.length : Int)).toNat ⟨p, 3 * p⟩).set (p % (l.length : Int)).toNat ⟨p + (l.length : Int), 3 * p⟩) n (p + 1) := by
        refine ⟨by simpa using e, h1, h2, by omega, by omega, fun j j0 j1 => ?_⟩
        obtain ⟨a1, a2, a3⟩ := h.2.2.2.2.2 j j0 j1
        by_cases hj : p % (l.length : Int) = j
        · rw [← hj, at_same _ _ _ b.1 (by simpa using b.2)]
          refine ⟨by show p + 1 ≤ p + (l.length : Int); omega, by show p + (l.length : Int) < p + 1 + n; omega, ?_⟩
          show (p + (l.length : Int)) % n = p % (l.length : Int)
          rw [e, Int.add_emod_right]
        · rw [at_other _ _ _ _ b.1 j0 hj, at_other _ _ _ _ b.1 j0 hj]
          refine ⟨?_, by omega, a3⟩
          have : (rd_T49 l j).f0 ≠ p := fun hh => hj (by rw [e, ← a3, hh])
          omega
      rw [check_yes hL.ck (by simpa using hk2)]
      simp only [Option.bind_some]
      rw [if_pos trivial]
      exact ih k _ (p + 1) hL (by omega) (by omega) (by omega)
    · rw [w64 (x := q) (by omega) (by omega), if_neg hlt, if_pos trivial, h.1]
      simp
theorem SlotLaps : sakialaw09_SlotLaps.Pure := by
  intro r q hr hq
  have hr := bounds_u8 hr
  have hq := bounds_u8 hq
  refine ⟨400, ?_⟩
  unfold sakialaw09_SlotLaps.f
  rw [sakialaw09_awake.eq_, Int.tmod_eq_emod_of_nonneg hr.1]
  have b := mod_bd (p := r) (r := 64) (by omega)
  rw [w64 (x := r % 64) (by omega) (by omega), w64 (x := 1 + r % 64) (by omega) (by omega), new_ok (by omega) (by omega)]
  simp only [Option.bind_some]
  refine laps_l0 (1 + r % 64) q hq.1 hq.2 255 400 _ 0 ⟨by rw [news_length]; omega, by omega, by omega, by omega, by omega, fun j j0 j1 => ?_⟩ (by omega) (by omega) (by omega)
  rw [news_at _ j j0 (by omega)]
  exact ⟨j0, by show j < 0 + (1 + r % 64); omega, Int.emod_eq_of_lt j0 j1⟩
end Go.Proofs.Ytlpeklhejjidfaa.Pure
