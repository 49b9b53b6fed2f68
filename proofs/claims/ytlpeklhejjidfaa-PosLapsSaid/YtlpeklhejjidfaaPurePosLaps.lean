/- Laps later a position has the same place (the plain part). -/
import Derived.Test.YtlpeklhejjidfaaPosAwake
import Derived.Test.YtlpeklhejjidfaaPLx11
namespace Go.Proofs.Ytlpeklhejjidfaa.Pure
open Go.RowKit Go.Proofs.Ytlpeklhejjidfaa.PL Go.Proofs.YtlpeklhejjidfaaW.PrintWords Go.Proofs.YtlpeklhejjidfaaW.PrintLast Go.Proofs.YtlpeklhejjidfaaW.PrintMore
theorem PosLaps : sakialaw01_PosLaps.Pure := by
  intro p room laps hp hr hl
  have hp := bounds_u32 hp
  have hr := bounds_u16 hr
  have hl := bounds_u16 hl
  refine ⟨1, ?_⟩
  unfold sakialaw01_PosLaps.f
  rw [awake1, w64 (x := p) (by omega) (by omega), w64 (x := laps) (by omega) (by omega), w64 (x := room) (by omega) (by omega), w64 (x := 1 + room) (by omega) (by omega)]
  obtain ⟨r, hre⟩ : ∃ r, r = 1 + room := ⟨_, rfl⟩
  rw [← hre]
  have h1 : 1 ≤ r := by omega
  have m0 : 0 ≤ laps * r := Int.mul_nonneg (by omega) (by omega)
  have m1 : laps * r ≤ 65535 * 65536 := by
    have a := Int.mul_le_mul_of_nonneg_right (show laps ≤ 65535 by omega) (show 0 ≤ r by omega)
    omega
  rw [w64 (x := laps * r) (by omega) (by omega), w64 (x := p + laps * r) (by omega) (by omega)]
  have b := mod_bd (p := p) h1
  have d := div_bd (p := p) (by omega) h1
  have s := split (p := p) (r := r)
  obtain ⟨e1, e2⟩ := dm (x := p + laps * r) (a := p / r + laps) (b := p % r) h1 (by rw [Int.mul_add, Int.mul_comm r laps]; omega) b.1 b.2
  rw [place_ok (by omega) h1, place_ok (by omega) h1, lap_ok (by omega) (by omega) h1, lap_ok (by omega) (by omega) h1, ahead_ok (by omega) (by omega) (by omega) (by omega) h1, e1, e2]
  simp only [Option.bind_some]
  rw [if_pos trivial, if_pos trivial, w64 (x := p / r + laps) (by omega) (by omega), if_pos rfl]
  by_cases h0 : laps = 0
  · subst h0; simp
  · have m2 : 0 < laps * r := Int.mul_pos (by omega) (by omega)
    have g1 : decide (True ∧ p < p + laps * r) = true := by simp; omega
    have g2 : decide (laps > 0) = true := by simp; omega
    rw [g1, g2]; rfl
end Go.Proofs.Ytlpeklhejjidfaa.Pure
