/- Who is done is idle, with its result, and may begin anew (the plain part). -/
import Derived.Test.YtlhaghkepnfajaaThreadLib
import Derived.Test.YtlhaghkepnfajaaPLx9
import Derived.Test.YtlhaghkepnfajaaPLx16
namespace Go.Proofs.Ytlhaghkepnfajaa.Pure
open Go.RowKit Go.Proofs.Ytlhaghkepnfajaa.PL Go.Proofs.YtlhaghkepnfajaaW.PrintWords Go.Proofs.YtlhaghkepnfajaaW.PrintLast Go.Proofs.YtlhaghkepnfajaaW.PrintMore
theorem upEnds : sakialaw12_awake.f 4 = some true := by decide +kernel
theorem w64_Ends {x : Int} (h0 : -9223372036854775808 ≤ x) (h1 : x ≤ 9223372036854775807) : wrap64 x = x := by
  unfold wrap64; omega
theorem upEnds3 : sakialaw12_awake.f 3 = some true := by decide +kernel
theorem ends_j (a0 a1 a2 a3 a4 a5 a6 a7 : Int) (a8 : Bool) (a9 a10 now : Int) : sakialaw12_ThreadEnds.j0 3 now true (donev a0 a1 a2 a3 a4 a5 a6 a7 a8 a9 a10).2.2.2.2.2.2.2.2.2.2.2 true a0 a1 a2 a3 a4 a5 a6 a7 a8 a9 a10 (donev a0 a1 a2 a3 a4 a5 a6 a7 a8 a9 a10).1 (donev a0 a1 a2 a3 a4 a5 a6 a7 a8 a9 a10).2.1 (donev a0 a1 a2 a3 a4 a5 a6 a7 a8 a9 a10).2.2.1 (donev a0 a1 a2 a3 a4 a5 a6 a7 a8 a9 a10).2.2.2.1 (donev a0 a1 a2 a3 a4 a5 a6 a7 a8 a9 a10).2.2.2.2.1 (donev a0 a1 a2 a3 a4 a5 a6 a7 a8 a9 a10).2.2.2.2.2.1 (donev a0 a1 a2 a3 a4 a5 a6 a7 a8 a9 a10).2.2.2.2.2.2.1 (donev a0 a1 a2 a3 a4 a5 a6 a7 a8 a9 a10).2.2.2.2.2.2.2.1 (donev a0 a1 a2 a3 a4 a5 a6 a7 a8 a9 a10).2.2.2.2.2.2.2.2.1 (donev a0 a1 a2 a3 a4 a5 a6 a7 a8 a9 a10).2.2.2.2.2.2.2.2.2.1 (donev a0 a1 a2 a3 a4 a5 a6 a7 a8 a9 a10).2.2.2.2.2.2.2.2.2.2.1 = some true := by
  simp only [sakialaw12_ThreadEnds.j0, invoke_eq, late_eq, Option.bind_some]
  by_cases h0 : a0 ≠ 0 ∧ a0 ≠ 2
  · rw [done_yes h0, inv_plain rfl (by decide) (by decide)]
    simp
  · rw [done_no h0]
    have e : ¬ runsv a0 = 0 := fun hx => h0 ((runsv_ok a0).1 hx)
    simp [e]
theorem mn_bd (a : Int) (h : -9223372036854775808 ≤ a) : -9223372036854775808 ≤ mn a 4611686018427387904 ∧ mn a 4611686018427387904 ≤ 4611686018427387904 := by
  unfold mn; split <;> omega
theorem ThreadEnds : sakialaw12_ThreadEnds.Pure := by
  intro a0 a1 a2 a3 a4 a5 a6 a7 a8 a9 a10 now later _ hn hl
  have hn := bounds_i64 hn
  have hl := bounds_u32 hl
  have hm := mn_bd now hn.1
  refine ⟨3, ?_⟩
  unfold sakialaw12_ThreadEnds.f
  rw [w64_Ends (x := later) (by omega) (by omega), w64_Ends (x := mn now 4611686018427387904 + later) (by omega) (by omega)]
  simp only [upEnds3, done_eq, late_eq, Option.bind_some]
  by_cases h : (a1 = 3 ∨ a1 = 6) ∧ a0 ≠ 0 ∧ a3 ≤ mn now 4611686018427387904
  · have h2 : (a1 = 3 ∨ a1 = 6) ∧ a0 ≠ 0 ∧ a3 ≤ mn now 4611686018427387904 + later := ⟨h.1, h.2.1, by omega⟩
    rw [if_pos (decide_eq_true h), decide_eq_true h2]
    exact ends_j a0 a1 a2 a3 a4 a5 a6 a7 a8 a9 a10 now
  · rw [if_neg (by simpa using h)]
    exact ends_j a0 a1 a2 a3 a4 a5 a6 a7 a8 a9 a10 now
end Go.Proofs.Ytlhaghkepnfajaa.Pure
