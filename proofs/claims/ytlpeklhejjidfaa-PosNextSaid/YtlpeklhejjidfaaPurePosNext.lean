/- Next to a position lies the next place, or the first one of the next lap (the plain part). -/
import Derived.Test.YtlpeklhejjidfaaPosAwake
import Derived.Test.YtlpeklhejjidfaaPLx9
namespace Go.Proofs.Ytlpeklhejjidfaa.Pure
open Go.RowKit Go.Proofs.Ytlpeklhejjidfaa.PL Go.Proofs.YtlpeklhejjidfaaW.PrintWords Go.Proofs.YtlpeklhejjidfaaW.PrintLast Go.Proofs.YtlpeklhejjidfaaW.PrintMore
theorem PosNext : sakialaw01_PosNext.Pure := by
  intro p room hp hr
  have hp := bounds_u32 hp
  have hr := bounds_u16 hr
  refine ⟨1, ?_⟩
  unfold sakialaw01_PosNext.f
  rw [awake1, w64 (x := p) (by omega) (by omega), w64 (x := room) (by omega) (by omega), w64 (x := 1 + room) (by omega) (by omega)]
  obtain ⟨r, hre⟩ : ∃ r, r = 1 + room := ⟨_, rfl⟩
  rw [← hre, w64 (x := p + 1) (by omega) (by omega), w64 (x := p + r) (by omega) (by omega)]
  have h1 : 1 ≤ r := by omega
  have b := mod_bd (p := p) h1
  have d := div_bd (p := p) (by omega) h1
  have s := split (p := p) (r := r)
  have d2 := div_bd (p := p + 1) (by omega) h1
  obtain ⟨e3, e4⟩ := dm (x := p + r) (a := p / r + 1) (b := p % r) h1 (by rw [Int.mul_add]; omega) b.1 b.2
  rw [place_ok (by omega) h1, place_ok (by omega) h1, lap_ok (by omega) (by omega) h1, lap_ok (by omega) (by omega) h1, ahead_ok (by omega) (by omega) (by omega) (by omega) h1, ahead_ok (by omega) (by omega) (by omega) (by omega) h1, e4]
  simp only [Option.bind_some]
  rw [w64 (x := p % r + 1) (by omega) (by omega), if_pos trivial]
  have g1 : decide (True ∧ p < p + r) = true := by simp; omega
  have g2 : decide (True ∧ p + r < p) = false := by simp; omega
  rw [g1, g2]
  by_cases hb : p % r + 1 < r
  · obtain ⟨e1, e2⟩ := dm (x := p + 1) (a := p / r) (b := p % r + 1) h1 (by omega) (by omega) hb
    rw [e1, e2, w64 (x := p / r - p / r) (by omega) (by omega), if_pos hb, if_pos rfl, if_pos (by omega)]
    simp
  · obtain ⟨e1, e2⟩ := dm (x := p + 1) (a := p / r + 1) (b := 0) h1 (by rw [Int.mul_add]; omega) (by omega) (by omega)
    rw [e1, e2, w64 (x := p / r + 1 - p / r) (by omega) (by omega), if_neg hb, if_pos (by omega), if_pos rfl, if_pos (by omega)]
    simp
end Go.Proofs.Ytlpeklhejjidfaa.Pure
