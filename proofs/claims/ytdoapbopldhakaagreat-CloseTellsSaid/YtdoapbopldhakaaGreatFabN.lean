/- A new fabric: a plain law. -/
import Derived.Test.YtdoapbopldhakaaGreatFabQ
namespace Go.Own
open Go Go.Proofs
set_option maxRecDepth 100000
set_option linter.unusedVariables false
set_option linter.unusedSimpArgs false

theorem stamps0_ok {n : Nat} (h1 : 1 ≤ n) (h2 : n ≤ 64) : slotsOk n (stamps0 n) = true := by
  unfold slotsOk stampsFrom
  simp only [Bool.and_eq_true, List.all_eq_true, decide_eq_true_eq]
  refine ⟨fun p hp => ?_, h1, h2⟩
  have hp := List.mem_of_mem_drop hp
  obtain ⟨x, i⟩ := p
  have h3 := List.mem_zipIdx_iff_getElem?.1 hp
  simp only [stamps0, List.getElem?_map, Option.map_eq_some_iff] at h3
  obtain ⟨y, hy, rfl⟩ := h3
  obtain ⟨hl, rfl⟩ := List.getElem?_eq_some_iff.1 hy
  simp only [List.getElem_range, List.length_range] at hl ⊢
  unfold stampOk
  simp only [decide_eq_true_eq, Int.ofNat_eq_natCast]
  refine ⟨by omega, by omega, Int.emod_eq_of_lt (by omega) (by omega)⟩

theorem room_of {lg th po wt sp yi : Int} (h : confE lg th po wt sp yi = 0) : 2 ≤ roomOf lg th po wt sp yi ∧ roomOf lg th po wt sp yi ≤ 64 := by
  obtain ⟨k1, k2, _⟩ := confE_th h
  unfold roomOf
  rw [if_pos h]
  have : lg = 1 ∨ lg = 2 ∨ lg = 3 ∨ lg = 4 ∨ lg = 5 ∨ lg = 6 := by omega
  rcases this with rfl | rfl | rfl | rfl | rfl | rfl <;> decide

theorem newSR_ok {lg th po wt sp yi : Int} {sg : Bool} (h : confE lg th po wt sp yi = 0) :
    (newSR lg th po wt sp yi sg).fit = true ∧ (newSR lg th po wt sp yi sg).ok = true ∧ (newSR lg th po wt sp yi sg).qv = [] ∧ (newSR lg th po wt sp yi sg).po = po ∧ (newSR lg th po wt sp yi sg).md = 0 ∧ ((newSR lg th po wt sp yi sg).nt : Int) = th ∧ (newSR lg th po wt sp yi sg).sg = sg ∧
      ∀ i, 0 ≤ i → i < th → (newSR lg th po wt sp yi sg).invE i 1 0 = 0 := by
  obtain ⟨k1, k2, k3, k4⟩ := confE_th h
  obtain ⟨r1, r2⟩ := room_of h
  have hs : (slotN (roomOf lg th po wt sp yi) : Int) = roomOf lg th po wt sp yi := by
    unfold slotN
    rw [if_pos (by omega)]
    omega
  have e : ∀ i, 0 ≤ i → i < th → (rI th.toNat).getD i.toNat 0 = 0 := by
    intro i h1 h2
    unfold rI
    simp [List.getElem?_replicate]
    split <;> rfl
  have hok : (newSR lg th po wt sp yi sg).ok = true := by
    rw [SR.ok_iff]
    unfold newSR
    rw [if_pos h]
    have n1 : 1 ≤ slotN (roomOf lg th po wt sp yi) := by omega
    have n2 : slotN (roomOf lg th po wt sp yi) ≤ 64 := by omega
    have l0 : lineOk [] = true := by decide +kernel
    have v0 : evOk 0 [] = true := by decide +kernel
    have m0 : amOk th [[], [], [], []] = true := by simp [amOk, l0, amBadAt]
    refine ⟨by show roomOf lg th po wt sp yi ≠ 0; omega, ?_, hs, stamps0_ok n1 n2, m0, v0, v0, ⟨Int.le_refl _, by show (0 : Int) ≤ 1099511627776; omega, ?_⟩, ?_⟩
    · show wordOk 0 0 0 (roomOf lg th po wt sp yi) = true
      simp [wordOk, wlen]
      omega
    · show ((th.toNat : Nat) : Int) = th
      omega
    · show badThAt th.toNat (rI th.toNat) (rI th.toNat) (rI th.toNat) (rI th.toNat) (rI th.toNat) (rI th.toNat) (rI th.toNat) (rB th.toNat) (rI th.toNat) 0 < 0
      have : th = 1 ∨ th = 2 ∨ th = 3 ∨ th = 4 ∨ th = 5 ∨ th = 6 ∨ th = 7 ∨ th = 8 ∨ th = 9 ∨ th = 10 ∨ th = 11 ∨ th = 12 ∨ th = 13 ∨ th = 14 ∨ th = 15 ∨ th = 16 := by omega
      rcases this with rfl | rfl | rfl | rfl | rfl | rfl | rfl | rfl | rfl | rfl | rfl | rfl | rfl | rfl | rfl | rfl <;> decide +kernel
  refine ⟨?_, hok, ?_, ?_, ?_, ?_, ?_, ?_⟩
  · unfold newSR
    rw [if_pos h]
    simp only [SR.fit, in64, fewB, Bool.and_eq_true, decide_eq_true_eq]
    omega
  · unfold SR.qv
    rw [if_pos hok]
    unfold newSR
    rw [if_pos h]
    rfl
  · unfold newSR; rw [if_pos h]
  · unfold newSR; rw [if_pos h]
  · unfold newSR; rw [if_pos h]; show ((th.toNat : Nat) : Int) = th; omega
  · unfold newSR; rw [if_pos h]
  · intro i h1 h2
    unfold SR.invE
    rw [if_pos hok]
    unfold newSR
    rw [if_pos h]
    have hm : mayE th sg i 1 = 0 := by
      unfold mayE
      rw [if_neg (by omega), if_neg (by decide), if_neg (by simp [opSide])]
    show (if mayE th sg i 1 = 0 then Go.Own.invE ((rI th.toNat).getD i.toNat 0) 1 0 else _) = 0
    rw [if_pos hm, e i h1 h2]
    decide

end Go.Own
