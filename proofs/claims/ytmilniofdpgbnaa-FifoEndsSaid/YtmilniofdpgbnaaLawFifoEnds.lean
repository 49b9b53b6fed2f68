/- Proved: Rows.FifoEndsSaid: for every input the law FifoEnds returns true and each argument reads behind the call as before it; no condition. -/
-- written by this repo's pp.py (the kit's print, turned by wip/patches.py)
import Derived.Test.YtmilniofdpgbnaaRows
import Derived.Test.YtmilniofdpgbnaaZ
import Derived.Test.YtmilniofdpgbnaaPLx23
import Derived.Test.YtmilniofdpgbnaaPureFifoEnds
import Derived.WalkKit
import Derived.ProofKit
import Derived.OpenShut
import Derived.ShutString
import Derived.ChangeOld
import Derived.Below
import Derived.Carry
import Derived.SizedLaws
import Derived.Test.YtmilniofdpgbnaaWSized
namespace Go.Proofs.Ytmilniofdpgbnaa.fifoEnds
open Go.ChangeShapes Go.WideShapes Go.ChangeAt Go.RowKit Go.Proofs.Ytmilniofdpgbnaa.PL Go.Proofs.YtmilniofdpgbnaaZ Go.Proofs.YtmilniofdpgbnaaW.PrintWords Go.Proofs.YtmilniofdpgbnaaW.PrintMore
open Go.ChangeMaps (open_string shut_string)
set_option linter.unusedVariables false
theorem own : ownKnob Try.prog.godebug = none := by kernel_rfl
theorem opens24 (w : World) : Opens Try.prog w 24 k24 good24 := by
  have h := opens_iso (P := Try.prog) (w := w) (t := 24) (β := S24) (fun x : S24 => (x.f0, x.f1, x.f2, x.f3)) (fun a => ⟨a.1, a.2.1, a.2.2.1, a.2.2.2⟩) (fun _ => rfl) (opens_struct Try.underlying24 (by kernel_rfl) (opensF_cons rfl (by kernel_rfl) (opens_slice Try.underlying22 (by kernel_rfl) (opens_int Try.underlying3)) (opensF_cons rfl (by kernel_rfl) (opens_int Try.underlying3) (opensF_cons rfl (by kernel_rfl) (opens_int Try.underlying3) (opensF_last rfl (by kernel_rfl) (opens_int Try.underlying3))))))
  exact h
theorem opens30 (w : World) : Opens Try.prog w 30 k30 good30 := by
  have h := opens_iso (P := Try.prog) (w := w) (t := 30) (β := S30) (fun x : S30 => (x.f0, x.f1, x.f2, x.f3, x.f4)) (fun a => ⟨a.1, a.2.1, a.2.2.1, a.2.2.2.1, a.2.2.2.2⟩) (fun _ => rfl) (opens_struct Try.underlying30 (by kernel_rfl) (opensF_cons rfl (by kernel_rfl) (opens_int Try.underlying3) (opensF_cons rfl (by kernel_rfl) (opens_int Try.underlying3) (opensF_cons rfl (by kernel_rfl) (opens_int Try.underlying3) (opensF_cons rfl (by kernel_rfl) (opens_int Try.underlying3) (opensF_last rfl (by kernel_rfl) (opens_int Try.underlying3)))))))
  exact h
theorem laidOut : laidOutB Try.prog = true := by kernel_rfl
set_option maxRecDepth 100000 in
theorem lifted (os : Os) (started : os.Started) (H : Type) (enc : TypeId × Value → H) :
    ReturnsInHanded {} Try.checked os 8 .any (Rows.fifoEndsSpec.pre6 enc Try.prog Try.f8 Rows.fifoEndsRow.domain false) (Rows.fifoEndsSpec.post enc Try.prog Try.f8 false true false false) := by
  refine returnsInHanded_of_change_sized (C := Try.checked) own started (by kernel_rfl) Try.func8
    (ChangeSpec.witness6 (enc := enc) (C := Try.checked) false ⟨#[], #[.agg #[.slice none 0 0, .int .i64 0, .int .i64 0, .int .i64 0], .slice none 0 0], []⟩ 8 (by kernel_rfl) (by kernel_rfl) (by kernel_rfl) (by kernel_rfl)) ?_
  intro W base args ds gs before hval0 hW hcnd hsz0 _
  have hsz : (DataW.weightsEach Try.prog (Try.f8.params.toList ++ Rows.fifoEndsSpec.plain.varTypes Try.prog) (ds ++ gs)).all (· ≤ reachBytes) = true := hsz0
  have hval : ∀ (j : Nat) t v, Try.f8.params[j]? = some t → args[j]? = some v → Value.okWide Try.prog W .any base t v := hval0
  have hW' := hW
  obtain ⟨p, q, hA0, hV, rfl, hfz, hnd⟩ := hW
  have hA : DataW.TrodAll enc Try.prog W 0 (fun _ => true) true Try.f8.params.toList args.toList ds p := hA0
  rw [Try.params8] at hA hval hsz
  obtain ⟨v0, vs0, d0, ds0, p0, q0, hargs, rfl, rfl, h0, r0⟩ := trodAll_cons hA
  obtain ⟨v1, vs1, d1, ds1, p1, q1, rfl, rfl, rfl, h1, r1⟩ := trodAll_cons r0
  obtain ⟨rfl, rfl, rfl⟩ := trodAll_nil r1
  obtain rfl : args = #[v0, v1] := by cases args; simp_all
  obtain ⟨rfl, rfl⟩ := trodVars_none hV
  have k0 := h0
  have lt0 : ∀ x ∈ p0, x.block < W.heap.size := by obtain ⟨m, hm⟩ := k0; exact DataW.trod_lt m _ _ _ hm
  obtain ⟨cs0, rfl, _⟩ := okWide_struct Try.underlying24 (hval 0 24 v0 rfl rfl)
  obtain ⟨fu0, hf0⟩ := h0
  obtain ⟨x0, hK0, hg0⟩ := (opens24 W) _ _ _ _ _ _ _ _ hf0
  obtain ⟨l0_0, a0_1, a0_2, a0_3⟩ := x0
  obtain ⟨A0_0, c0_0, hcs0, hc0_0, hr0_0⟩ := k24_open hK0
  obtain rfl : cs0 = #[.slice A0_0 l0_0.length c0_0, .int .i64 a0_1, .int .i64 a0_2, .int .i64 a0_3] := agg_cells hcs0
  have k1 := h1
  have lt1 : ∀ x ∈ p1, x.block < W.heap.size := by obtain ⟨m, hm⟩ := k1; exact DataW.trod_lt m _ _ _ hm
  obtain ⟨A1, n1, c1, rfl⟩ := okWide_slice Try.underlying25 (hval 1 25 v1 rfl rfl)
  obtain ⟨fu1, hf1⟩ := h1
  obtain ⟨l1, hK1, hg1⟩ := (opens_slice (w := W) Try.underlying25 (by kernel_rfl) (opens30 W)) _ _ _ _ _ _ _ _ hf1
  obtain ⟨B1, b1, he1, hc1, hr1⟩ := hK1
  obtain ⟨rfl, rfl, rfl⟩ := slice_cells he1
  clear hA0 hval0 hsz0 hsz
  obtain ⟨k, hP⟩ := Pure.FifoEnds l0_0 a0_1 a0_2 a0_3 l1 hg0 hg1.1 hg1.2
  refine (sakialaw03_FifoEnds.calls k _ _ l0_0 a0_1 a0_2 a0_3 _ _ l1 true W hr0_0 hc0_0 hr1 hc1 rfl hP).mono fun e W' ⟨he, hd⟩ => ?_
  subst he
  have bel : Below W.heap.size W W' := hd
  exact ⟨_, rfl, _, _, _, [], _, [], hW', trodAll_mk1 (shut_bool Try.underlying4 _), (trodAll_cons_mk (Below.trod laidOut (by kernel_rfl) (of_decide_eq_true (by kernel_rfl)) k0 bel lt0) (trodAll_cons_mk (Below.trod laidOut (by kernel_rfl) (of_decide_eq_true (by kernel_rfl)) k1 bel lt1) trodAll_mk0)), rfl, bel.frame _, fun h => by cases h⟩
theorem over : Rows.fifoEndsRow.holds Try.pinned (OpenSpec.ofChange Rows.fifoEndsSpec) :=
  OpenClaim.holds_of_wide 8 Try.f8 rfl rfl rfl rfl rfl rfl rfl ⟨rfl, rfl, rfl, rfl, rfl⟩ rfl rfl rfl rfl rfl (by kernel_rfl) Try.func8 (by kernel_rfl)
    (of_decide_eq_true (by kernel_rfl)) (by unfold Func.isWrapper; first | (rw [if_pos (by decide +kernel)]; kernel_rfl) | (rw [if_neg (by decide +kernel)]; exact ⟨rfl, rfl⟩))
    (fun os started H enc _ => lifted os started H enc)
theorem proved : Rows.FifoEndsSaid := over
#print axioms proved
end Go.Proofs.Ytmilniofdpgbnaa.fifoEnds
namespace Go.Proofs.Ytmilniofdpgbnaa
/-- The row, under a short name, for the claim. -/
theorem fifoEnds_holds : Rows.FifoEndsSaid := fifoEnds.proved
end Go.Proofs.Ytmilniofdpgbnaa
