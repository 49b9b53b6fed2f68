/- Something can be begun just by who is idle, and runs from the first step on (the plain part). -/
import Derived.Test.YtlhaghkepnfajaaThreadLib
import Derived.Test.YtlhaghkepnfajaaPLx9
import Derived.Test.YtlhaghkepnfajaaPLx14
namespace Go.Proofs.Ytlhaghkepnfajaa.Pure
open Go.RowKit Go.Proofs.Ytlhaghkepnfajaa.PL Go.Proofs.YtlhaghkepnfajaaW.PrintWords Go.Proofs.YtlhaghkepnfajaaW.PrintLast Go.Proofs.YtlhaghkepnfajaaW.PrintMore
theorem upBegins : sakialaw12_awake.f 4 = some true := by decide +kernel
theorem w64_Begins {x : Int} (h0 : -9223372036854775808 ≤ x) (h1 : x ≤ 9223372036854775807) : wrap64 x = x := by
  unfold wrap64; omega
theorem ThreadBegins : sakialaw12_ThreadBegins.Pure := by
  intro a0 a1 a2 a3 a4 a5 a6 a7 a8 a9 a10 kind v u _ hk _ hu
  have hk := bounds_u8 hk
  have hu := bounds_u32 hu
  refine ⟨4, ?_⟩
  unfold sakialaw12_ThreadBegins.f
  have hm : Int.tmod kind 8 = kind % 8 := Int.tmod_eq_emod_of_nonneg hk.1
  rw [hm, w64_Begins (x := kind % 8) (by omega) (by omega), w64_Begins (x := 1 + kind % 8) (by omega) (by omega), w64_Begins (x := u) (by omega) (by omega)]
  obtain ⟨k, hke⟩ : ∃ k, k = 1 + kind % 8 := ⟨_, rfl⟩
  rw [← hke]
  simp only [upBegins, tcheck_eq, invoke_eq, runs_eq, Option.bind_some]
  by_cases h0 : a0 = 0
  · have h1 : 1 ≤ k ∧ k ≤ 8 := by omega
    by_cases h2 : k = 3 ∨ k = 6
    · rw [inv_timed h0 h1 h2 (by omega)]
      dsimp only
      rw [inv_busy (show (1 : Int) ≠ 0 by decide)]
      have e : okt 1 k u 0 0 0 0 false 0 := by unfold okt; simp; omega
      simp [runsv, e, h0]
    · rw [inv_plain h0 h1 h2]
      dsimp only
      rw [inv_busy (show (1 : Int) ≠ 0 by decide)]
      have e : okt 1 k 0 0 0 0 0 false 0 := by unfold okt; simp; omega
      simp [runsv, e, h0]
  · rw [inv_busy h0]
    simp [h0]
end Go.Proofs.Ytlhaghkepnfajaa.Pure
