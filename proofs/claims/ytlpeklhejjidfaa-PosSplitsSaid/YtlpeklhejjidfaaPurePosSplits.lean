/- A position is its lap times the room, and its place (the plain part). -/
import Derived.Test.YtlpeklhejjidfaaPosAwake
import Derived.Test.YtlpeklhejjidfaaPLx8
namespace Go.Proofs.Ytlpeklhejjidfaa.Pure
open Go.RowKit Go.Proofs.Ytlpeklhejjidfaa.PL Go.Proofs.YtlpeklhejjidfaaW.PrintWords Go.Proofs.YtlpeklhejjidfaaW.PrintLast Go.Proofs.YtlpeklhejjidfaaW.PrintMore
theorem PosSplits : sakialaw01_PosSplits.Pure := by
  intro p r hp hr
  have hp := bounds_i64 hp
  have hr := bounds_i64 hr
  refine ⟨1, ?_⟩
  unfold sakialaw01_PosSplits.f
  rw [awake1]; simp only [Option.bind_some]
  by_cases h : 0 ≤ p ∧ 1 ≤ r
  · obtain ⟨h0, h1⟩ := h
    rw [place_ok h0 h1, lap_ok h0 (by omega) h1]; simp only [Option.bind_some]
    have b := mod_bd (p := p) h1
    have d := div_bd h0 h1
    have s := split (p := p) (r := r)
    have c : p / r * r = r * (p / r) := Int.mul_comm _ _
    rw [if_neg (by omega), if_neg (by omega), if_pos trivial, if_pos (by omega), if_pos (by omega), if_pos (by omega), c, w64 (x := r * (p / r)) (by omega) (by omega), s, w64 (by omega) (by omega)]
    simp
  · rw [place_no h, lap_no h]; simp only [Option.bind_some]
    by_cases h0 : p < 0
    · rw [if_pos h0]; simp
    · rw [if_neg h0, if_pos (by omega)]; simp
end Go.Proofs.Ytlpeklhejjidfaa.Pure
