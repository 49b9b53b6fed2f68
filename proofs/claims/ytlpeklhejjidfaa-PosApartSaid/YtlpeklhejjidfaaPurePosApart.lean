/- Of as many positions that follow one another as there is room no two have one place (the plain part). -/
import Derived.Test.YtlpeklhejjidfaaPosAwake
import Derived.Test.YtlpeklhejjidfaaPLx9
namespace Go.Proofs.Ytlpeklhejjidfaa.Pure
open Go.RowKit Go.Proofs.Ytlpeklhejjidfaa.PL Go.Proofs.YtlpeklhejjidfaaW.PrintWords Go.Proofs.YtlpeklhejjidfaaW.PrintLast Go.Proofs.YtlpeklhejjidfaaW.PrintMore
theorem near {x y r : Int} (hr : 1 ≤ r) (h1 : x - y < r) (h2 : y - x < r) (h : x % r = y % r) : x = y := by
  have s1 := split (p := x) (r := r)
  have s2 := split (p := y) (r := r)
  rcases Int.lt_trichotomy (x / r) (y / r) with hl | hl | hl
  · have := Int.mul_le_mul_of_nonneg_left (show x / r + 1 ≤ y / r by omega) (show 0 ≤ r by omega)
    rw [Int.mul_add] at this; omega
  · rw [hl] at s1; omega
  · have := Int.mul_le_mul_of_nonneg_left (show y / r + 1 ≤ x / r by omega) (show 0 ≤ r by omega)
    rw [Int.mul_add] at this; omega
theorem PosApart : sakialaw01_PosApart.Pure := by
  intro p a b room hp ha hb hr
  have hp := bounds_u32 hp
  have ha := bounds_u16 ha
  have hb := bounds_u16 hb
  have hr := bounds_u16 hr
  refine ⟨1, ?_⟩
  unfold sakialaw01_PosApart.f
  rw [awake1, w64 (x := p) (by omega) (by omega), w64 (x := a) (by omega) (by omega), w64 (x := b) (by omega) (by omega), w64 (x := room) (by omega) (by omega), w64 (x := 1 + room) (by omega) (by omega)]
  obtain ⟨r, hre⟩ : ∃ r, r = 1 + room := ⟨_, rfl⟩
  rw [← hre, Int.tmod_eq_emod_of_nonneg ha.1, Int.tmod_eq_emod_of_nonneg hb.1]
  have h1 : 1 ≤ r := by omega
  have ba := mod_bd (p := a) h1
  have bb := mod_bd (p := b) h1
  rw [w64 (x := p + a % r) (by omega) (by omega), w64 (x := p + b % r) (by omega) (by omega), w64 (x := p + a) (by omega) (by omega)]
  simp only [Option.bind_some]
  rw [if_neg (by omega), if_pos trivial, place_ok (by omega) h1, place_ok (by omega) h1, place_ok (by omega) h1, place_ok (by omega) h1, ahead_ok (by omega) (by omega) (by omega) (by omega) h1]
  simp only [Option.bind_some]
  rw [if_pos]
  · by_cases hl : p < p + a
    · rw [if_pos hl]; simp only [hl, and_true]
      congr 1
      by_cases he : p % r = (p + a) % r <;> simp [he]
    · rw [if_neg hl]; simp [hl]
  · have key : (p + a % r) % r = (p + b % r) % r ↔ p + a % r = p + b % r := ⟨fun h => near h1 (by omega) (by omega) h, fun h => by rw [h]⟩
    by_cases he : p + a % r = p + b % r
    · simp [he]
    · have : ¬ (p + a % r) % r = (p + b % r) % r := fun h => he (key.1 h)
      simp only [beq_eq_false_iff_ne.2 he, beq_eq_false_iff_ne.2 this]
      rfl
end Go.Proofs.Ytlpeklhejjidfaa.Pure
