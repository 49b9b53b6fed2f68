/- Whether any line may be, it with one more, and one less, who is first, and how many stand ahead of one, are what the document says (the plain part). -/
import Derived.Test.YtcmiijdkmfdpnaaLineLib
import Derived.Test.YtcmiijdkmfdpnaaPLx20
import Derived.Test.YtcmiijdkmfdpnaaPLx24
import Derived.Test.YtcmiijdkmfdpnaaPLx22
import Derived.Test.YtcmiijdkmfdpnaaPLx23
namespace Go.Proofs.Ytcmiijdkmfdpnaa.Pure
open Go.RowKit Go.Proofs.Ytcmiijdkmfdpnaa.PL Go.Proofs.YtcmiijdkmfdpnaaW.PrintWords Go.Proofs.YtcmiijdkmfdpnaaW.PrintLast Go.Proofs.YtcmiijdkmfdpnaaW.PrintMore
set_option linter.unusedSimpArgs false
set_option linter.unusedVariables false
theorem at_l0 (l : List Int) (x : Int) (hl : l.length ≤ 1000) : ∀ (d k : Nat) (i : Int), 0 ≤ i → (l.length : Int) - i = d → d < k → sakiaref05_at.l0 k l x i = some (from_ l x i) := by
  intro d
  induction d with
  | zero =>
    intro k i h0 hd hk
    obtain ⟨k, rfl⟩ : ∃ m, k = m + 1 := ⟨k - 1, by omega⟩
    simp only [sakiaref05_at.l0]
    rw [if_neg (by omega), from_end l x i (by omega)]
  | succ d ih =>
    intro k i h0 hd hk
    obtain ⟨k, rfl⟩ : ∃ m, k = m + 1 := ⟨k - 1, by omega⟩
    simp only [sakiaref05_at.l0]
    rw [if_pos (by omega), if_pos h0]
    by_cases h : rd l i = x
    · rw [if_pos h, from_eq l x i h0 (by omega) h]
    · rw [if_neg h, w64 (by omega) (by omega), ih k (i + 1) (by omega) (by omega) (by omega), from_ne l x i h0 (by omega) h]
theorem at_eq {l : List Int} {x : Int} {k : Nat} (hl : l.length ≤ 1000) (hk : l.length < k) : sakiaref05_at.f k l x = some (pos l x) := by
  unfold sakiaref05_at.f
  rw [at_l0 l x hl l.length k 0 (by omega) (by omega) hk, from_zero]
theorem pos_rd : ∀ (l : List Int), l.Nodup ↔ ∀ i : Int, 0 ≤ i → i < l.length → pos l (rd l i) = i := by
  intro l
  induction l with
  | nil => simp; intro i h0 h1; omega
  | cons y t ih =>
    have hr : ∀ i : Int, 0 ≤ i → rd (y :: t) (i + 1) = rd t i := by
      intro i h0
      have e : (i + 1).toNat = i.toNat + 1 := by omega
      unfold rd
      rw [e]; rfl
    have hm : ∀ i : Int, 0 ≤ i → i < t.length → rd t i ∈ t := by
      intro i h0 h1
      have hi : i.toNat < t.length := by omega
      unfold rd
      rw [List.getD_eq_getElem?_getD, List.getElem?_eq_getElem hi]
      exact List.getElem_mem hi
    rw [List.nodup_cons, ih]
    constructor
    · rintro ⟨h1, h2⟩ i h0 hlt
      by_cases hz : i = 0
      · subst hz
        unfold pos
        rw [if_pos (show y = rd (y :: t) 0 from rfl)]
      · obtain ⟨j, rfl⟩ : ∃ j, i = j + 1 := ⟨i - 1, by omega⟩
        rw [hr j (by omega)]
        simp only [List.length_cons] at hlt
        have h3 := h2 j (by omega) (by omega)
        unfold pos
        rw [if_neg (fun e => h1 (by rw [e]; exact hm j (by omega) (by omega))), h3, if_neg (by omega)]
    · intro h
      refine ⟨fun hy => ?_, fun j h0 hlt => ?_⟩
      · obtain ⟨n, hn, e⟩ := List.getElem_of_mem hy
        have h3 := h ((n : Int) + 1) (by omega) (by simp; omega)
        rw [hr n (by omega)] at h3
        have e2 : rd t (n : Int) = y := by
          unfold rd
          rw [Int.toNat_natCast, List.getD_eq_getElem?_getD, List.getElem?_eq_getElem hn, ← e]; rfl
        rw [e2] at h3
        unfold pos at h3
        rw [if_pos rfl] at h3
        omega
      · have h3 := h (j + 1) (by omega) (by simp; omega)
        rw [hr j h0] at h3
        unfold pos at h3
        by_cases c : y = rd t j
        · rw [if_pos c] at h3; omega
        · rw [if_neg c] at h3
          split at h3 <;> omega
theorem rcheck_l0 (l : List Int) (hl : l.length ≤ 110) : ∀ (d k : Nat) (i : Int), 0 ≤ i → (l.length : Int) - i = d → d + 111 < k → ∃ b, sakiaref05_Check.l0 k l i = some b ∧ (b = true ↔ ∀ j, i ≤ j → j < l.length → In (rd l j) ∧ pos l (rd l j) = j) := by
  intro d
  induction d with
  | zero =>
    intro k i h0 hd hk
    obtain ⟨k, rfl⟩ : ∃ m, k = m + 1 := ⟨k - 1, by omega⟩
    simp only [sakiaref05_Check.l0]
    rw [if_neg (by omega)]
    exact ⟨true, rfl, fun _ j h1 h2 => by omega, fun _ => rfl⟩
  | succ d ih =>
    intro k i h0 hd hk
    obtain ⟨k, rfl⟩ : ∃ m, k = m + 1 := ⟨k - 1, by omega⟩
    simp only [sakiaref05_Check.l0]
    rw [if_pos (by omega), if_pos h0]
    by_cases h1 : rd l i < 0
    · rw [if_pos h1]
      refine ⟨false, rfl, fun h => (by cases h), fun h => ?_⟩
      have := (h i (by omega) (by omega)).1
      unfold In at this; omega
    rw [if_neg h1]
    by_cases h2 : rd l i > 15
    · rw [if_pos h2]
      refine ⟨false, rfl, fun h => (by cases h), fun h => ?_⟩
      have := (h i (by omega) (by omega)).1
      unfold In at this; omega
    rw [if_neg h2, at_eq (by omega) (by omega)]
    simp only [Option.bind_some]
    by_cases h3 : pos l (rd l i) = i
    · rw [if_pos h3, w64 (by omega) (by omega)]
      obtain ⟨b, h4, h5⟩ := ih k (i + 1) (by omega) (by omega) (by omega)
      refine ⟨b, h4, h5.trans ⟨fun h j j1 j2 => ?_, fun h j j1 j2 => h j (by omega) j2⟩⟩
      by_cases hj : j = i
      · rw [hj]; exact ⟨⟨by omega, by omega⟩, h3⟩
      · exact h j (by omega) j2
    · rw [if_neg h3]
      exact ⟨false, rfl, fun h => (by cases h), fun h => absurd (h i (by omega) (by omega)).2 h3⟩
theorem rcheck_eq {l : List Int} {k : Nat} (hl : l.length ≤ 110) (hk : 230 ≤ k) : ∃ b, sakiaref05_Check.f k l = some b ∧ (b = true ↔ Ok l) := by
  unfold sakiaref05_Check.f
  obtain ⟨b, h1, h2⟩ := rcheck_l0 l hl l.length k 0 (by omega) (by omega) (by omega)
  refine ⟨b, h1, h2.trans ?_⟩
  unfold Ok
  rw [pos_rd]
  constructor
  · intro h
    refine ⟨fun y hy => ?_, fun i i0 i1 => (h i i0 i1).2⟩
    obtain ⟨n, hn, e⟩ := List.getElem_of_mem hy
    have h3 := (h (n : Int) (by omega) (by omega)).1
    have e2 : rd l (n : Int) = y := by
      unfold rd
      rw [Int.toNat_natCast, List.getD_eq_getElem?_getD, List.getElem?_eq_getElem hn, ← e]; rfl
    rw [← e2]; exact h3
  · intro h j j1 j2
    refine ⟨h.1 _ ?_, h.2 j j1 j2⟩
    have hi : j.toNat < l.length := by omega
    unfold rd
    rw [List.getD_eq_getElem?_getD, List.getElem?_eq_getElem hi]
    exact List.getElem_mem hi
theorem rcheck_yes {l : List Int} {k : Nat} (hl : l.length ≤ 110) (hk : 230 ≤ k) (h : Ok l) : sakiaref05_Check.f k l = some true := by
  obtain ⟨b, h1, h2⟩ := rcheck_eq hl hk
  rw [h1, h2.2 h]
theorem rcheck_no {l : List Int} {k : Nat} (hl : l.length ≤ 110) (hk : 230 ≤ k) (h : ¬ Ok l) : sakiaref05_Check.f k l = some false := by
  obtain ⟨b, h1, h2⟩ := rcheck_eq hl hk
  cases b with
  | false => exact h1
  | true => exact absurd (h2.1 rfl) h
theorem rplace_yes {l : List Int} {k : Nat} {x : Int} (hl : l.length ≤ 110) (hk : 230 ≤ k) (h : Ok l) : sakiaref05_Place.f k l x = some (pos l x) := by
  unfold sakiaref05_Place.f
  rw [rcheck_yes hl hk h]
  simp only [Option.bind_some]
  rw [if_pos trivial, at_eq (by omega) (by omega)]
  rfl
theorem rplace_no {l : List Int} {k : Nat} {x : Int} (hl : l.length ≤ 110) (hk : 230 ≤ k) (h : ¬ Ok l) : sakiaref05_Place.f k l x = some (-1) := by
  unfold sakiaref05_Place.f
  rw [rcheck_no hl hk h]
  rfl
theorem renter_eq {l : List Int} {k : Nat} {x : Int} (hl : l.length ≤ 110) (hk : 231 ≤ k) : sakiaref05_Enter.f k l x = line_Enter.f k l x := by
  have hj : ∀ o : Ok l, ∀ i : In x, sakiaref05_Enter.f k l x = sakiaref05_Enter.j0 k l x false := by
    intro o i
    unfold sakiaref05_Enter.f
    rw [rcheck_yes hl (by omega) o]
    simp only [Option.bind_some]
    unfold In at i
    rw [if_pos trivial, if_neg (by omega), decide_eq_false (by omega)]
  obtain ⟨k, rfl⟩ : ∃ m, k = m + 1 := ⟨k - 1, by omega⟩
  by_cases o : Ok l
  · by_cases i : In x
    · rw [hj o i]
      simp only [sakiaref05_Enter.j0]
      rw [if_neg (by simp), at_eq (by omega) (by omega)]
      simp only [Option.bind_some]
      by_cases hx : x ∈ l
      · rw [if_pos ((pos_mem l x).2 hx), enter_two hl (by omega) o i hx]
      · rw [if_neg (fun e => hx ((pos_mem l x).1 e)), enter_in hl (by omega) o i hx, if_pos (by simp; omega), if_pos (by simp; omega)]
        simp
    · rw [enter_bad hl (by omega) (.inr i)]
      unfold sakiaref05_Enter.f
      rw [rcheck_yes hl (by omega) o]
      simp only [Option.bind_some]
      rw [if_pos trivial]
      by_cases h1 : x < 0
      · rw [if_pos h1]; simp only [sakiaref05_Enter.j0]; rfl
      · have h2 : x > 15 := Classical.byContradiction fun h2 => i ⟨by omega, by omega⟩
        rw [if_neg h1, decide_eq_true h2]; simp only [sakiaref05_Enter.j0]; rfl
  · rw [enter_bad hl (by omega) (.inl o)]
    unfold sakiaref05_Enter.f
    rw [rcheck_no hl (by omega) o]
    simp only [Option.bind_some]
    rw [if_neg (by simp)]; simp only [sakiaref05_Enter.j0]; rfl
theorem rleave_eq {l : List Int} {k : Nat} {x : Int} (hl : l.length ≤ 110) (hk : 231 ≤ k) : sakiaref05_Leave.f k l x = line_Leave.f k l x := by
  unfold sakiaref05_Leave.f
  by_cases o : Ok l
  · rw [rplace_yes hl (by omega) o]
    simp only [Option.bind_some]
    by_cases hx : x ∈ l
    · have h0 := (pos_mem l x).2 hx
      have b := pos_lo l x
      have e : (pos l x + 1).toNat = (pos l x).toNat + 1 := by omega
      rw [leave_yes hl (by omega) o hx, if_neg (by omega), if_pos h0, if_pos (by omega), w64 (by omega) (by omega), if_pos (by simp; omega), if_pos (by omega), if_pos (by omega), if_pos (by simp; omega), e]
      simp only [List.nil_append]
      rw [← List.eraseIdx_eq_take_drop_succ]
    · rw [pos_no hx, leave_no hl (by omega) (.inr hx)]
      rfl
  · rw [rplace_no hl (by omega) o, leave_no hl (by omega) (.inl o)]
    rfl
theorem rnext_eq {l : List Int} {k : Nat} (hl : l.length ≤ 110) (hk : 231 ≤ k) : sakiaref05_Next.f k l = line_Next.f k l := by
  unfold sakiaref05_Next.f
  by_cases o : Ok l
  · rw [rcheck_yes hl (by omega) o]
    simp only [Option.bind_some]
    rw [if_neg (by simp)]
    by_cases h0 : l.length = 0
    · rw [if_pos h0, next_no hl hk (.inr (List.eq_nil_of_length_eq_zero h0))]
    · rw [if_neg h0, if_pos (by omega), next_yes hl hk o (by omega)]
  · rw [rcheck_no hl (by omega) o, next_no hl hk (.inl o)]
    rfl
theorem LineTells : sakialaw05_LineTells.Pure := by
  intro l x _ _ _ _
  refine ⟨400, ?_⟩
  unfold sakialaw05_LineTells.f
  rw [sakialaw05_awake.eq_]
  simp only [Option.bind_some]
  by_cases hl : (l.length : Int) > 100
  · rw [if_pos hl]
  rw [if_neg hl]
  have hl : l.length ≤ 110 := by omega
  rw [renter_eq hl (by omega), rleave_eq hl (by omega), rnext_eq hl (by omega)]
  have he : ∃ m e, line_Enter.f 400 l x = some (m, e) ∧ m.length ≤ 200 := by
    by_cases o : Ok l
    · by_cases i : In x
      · by_cases hx : x ∈ l
        · exact ⟨_, _, enter_two hl (by omega) o i hx, by omega⟩
        · exact ⟨_, _, enter_in hl (by omega) o i hx, by simp; omega⟩
      · exact ⟨_, _, enter_bad hl (by omega) (.inr i), by omega⟩
    · exact ⟨_, _, enter_bad hl (by omega) (.inl o), by omega⟩
  have hv : ∃ m e, line_Leave.f 400 l x = some (m, e) ∧ m.length ≤ 200 := by
    by_cases h : Ok l ∧ x ∈ l
    · exact ⟨_, _, leave_yes hl (by omega) h.1 h.2, Nat.le_trans (List.length_eraseIdx_le _ _) (by omega)⟩
    · exact ⟨_, _, leave_no hl (by omega) (by
        by_cases o : Ok l
        · exact .inr (fun hx => h ⟨o, hx⟩)
        · exact .inl o), by omega⟩
  have hn : ∃ n m b, line_Next.f 400 l = some (n, m, b) ∧ m.length ≤ 200 := by
    by_cases h : Ok l ∧ 0 < l.length
    · exact ⟨_, _, _, next_yes hl (by omega) h.1 h.2, by simp; omega⟩
    · exact ⟨_, _, _, next_no hl (by omega) (by
        by_cases o : Ok l
        · exact .inr (List.eq_nil_of_length_eq_zero (Classical.byContradiction fun hx => h ⟨o, by omega⟩))
        · exact .inl o), by omega⟩
  have hp : ∃ b p, line_Check.f 400 l = some b ∧ sakiaref05_Check.f 400 l = some b ∧ line_Place.f 400 l x = some p ∧ sakiaref05_Place.f 400 l x = some p ∧ line_First.f 400 l x = some (p == 0) := by
    by_cases o : Ok l
    · exact ⟨_, _, check_yes hl (by omega) o, rcheck_yes hl (by omega) o, place_yes hl (by omega) o, rplace_yes hl (by omega) o, first_yes hl (by omega) o⟩
    · exact ⟨_, _, check_no hl (by omega) o, rcheck_no hl (by omega) o, place_no hl (by omega) o, rplace_no hl (by omega) o, first_no hl (by omega) o⟩
  obtain ⟨m1, e1, h1, l1⟩ := he
  obtain ⟨m2, e2, h2, l2⟩ := hv
  obtain ⟨n3, m3, b3, h3, l3⟩ := hn
  obtain ⟨b, p, q1, q2, q3, q4, q5⟩ := hp
  rw [h1, h2, h3]
  simp only [Option.bind_some]
  rw [ints_self m1 400 (by omega) (by omega), ints_self m2 400 (by omega) (by omega), ints_self m3 400 (by omega) (by omega), q1, q2, q3, q4, q5]
  simp only [Option.bind_some, beq_self_eq_true, if_true]
end Go.Proofs.Ytcmiijdkmfdpnaa.Pure
