/- A law of the fabric: a new one. -/
import Derived.Test.YtmahobkimmbhgaaFabOpen
namespace Go.Own
open Go Go.Proofs
set_option maxRecDepth 100000
set_option linter.unusedVariables false
set_option linter.unusedSimpArgs false

theorem ite_or {P : Prop} [Decidable P] (a b : Int) : ((if P then a else b) = a) ∨ ((if P then a else b) = b) := by
  by_cases h : P <;> simp [h]

def FLFabricNew : Pure1 := fun
  | [.agg [.int .i64 lg, .int .i64 th, .int .i64 po, .int .i64 wt, .int .i64 sp, .int .i64 yi, .bool sg], .int .u8 id] => some (some (band (ile 0 id) (ile id 255)), .bool true)
  | _ => none

theorem vc_LFabricNew (lg th po wt sp yi : Int) (sg : Bool) (id : Int) (r : AV) : VC Try.prog (tabS tabL) noL false 7 [.agg [.int .i64 lg, .int .i64 th, .int .i64 po, .int .i64 wt, .int .i64 sp, .int .i64 yi, .bool sg], .int .u8 id] r = (
  br (ine (confE lg th po wt sp yi) 0)
    (asrt
      (bimp (ieq (confE lg th po wt sp yi) 20)
        (newSR lg th po wt sp yi sg).fit)
      (some
          (AV.bool
            (bite (ieq (confE lg th po wt sp yi) 20)
              (bnot
                (newSR lg th po wt sp yi sg).ok)
              false)) =
        some r))
    (asrt
      (newSR lg th po wt sp yi sg).fit
      (br (ilt th 1) (some (AV.bool false) = some r)
        (asrt (ine th 0)
          (asrt
            (newSR lg th po wt sp yi sg).fit
            (asrt
              (newSR lg th po wt sp yi sg).fit
              (some
                  (AV.bool
                    (bite
                      (bite
                        (bite
                          (bite
                            (bite
                              (bite
                                (newSR lg th po wt sp yi sg).ok
                                (ieq
                                  (ofN
                                    (lenI
                                      (newSR lg th po wt sp yi sg).qv))
                                  0)
                                false)
                              (ieq
                                (iite
                                  (newSR lg th po wt sp yi sg).ok
                                  (ofN (newSR lg th po wt sp yi sg).11) 0)
                                (ofN (newSR lg th po wt sp yi sg).11))
                              false)
                            (ieq
                              (iite
                                (newSR lg th po wt sp yi sg).ok
                                (newSR lg th po wt sp yi sg).3 0)
                              po)
                            false)
                          (ieq
                            (iite
                              (newSR lg th po wt sp yi sg).ok
                              (newSR lg th po wt sp yi sg).10 0)
                            0)
                          false)
                        (ieq
                          ((newSR lg th po wt sp yi sg).invE
                            (irem (icnv IntKind.i64 id) th) 1 0)
                          0)
                        false)
                      (ieq (ofN (newSR lg th po wt sp yi sg).25) th) false)) =
                some r))))))) := by kernel_rfl

theorem ok_LFabricNew : PureOK Try.prog 7 FLFabricNew := by
  refine tab_plain mixed (l := tabL) ok_tabL false (by kernel_rfl) fun xs b r h hb wf => ?_
  unfold FLFabricNew at h
  split at h
  · rename_i lg th po wt sp yi sg id
    cases h
    try rw [some_f] at hb
    try simp only [WFL, WF, List.mem_cons, List.not_mem_nil, or_false, forall_eq_or_imp, forall_eq, Col.len, and_true, true_and] at wf
    rw [vc_LFabricNew]
    simp only [band_t, ile_t] at hb
    cases c0 : decide (confE lg th po wt sp yi = 0) with
    | false =>
      have c1 : ¬ confE lg th po wt sp yi = 0 := by simpa using c0
      have c2 : confE lg th po wt sp yi = 20 := by
        have : confE lg th po wt sp yi = 0 ∨ confE lg th po wt sp yi = 20 := by
          unfold confE
          exact ite_or _ _
        exact this.resolve_left c1
      have e : newSR lg th po wt sp yi sg = zeroSR := by unfold newSR; rw [if_neg c1]
      have e1 : zeroSR.fit = true := by decide +kernel
      have e2 : zeroSR.ok = false := by decide +kernel
      simp [asrt_iff, br_iff, ieq_t, ieq_f, ine_t, ine_f, ilt_t, ilt_f, ile_t, ile_f, igt_t, igt_f, ige_t, ige_f, nlt_t, nlt_f, nle_t, nle_f, neq_t, neq_f, beq2_t, beq2_f, bnot_t, bnot_f, band_t, band_f, bite_t, bite_f, bimp_t, bimp_f, iadd_e, isub_e, imul_e, ofN_e, nOf_e, nAdd_e, nDiff_e, room_e, lenI_e, gI_e, gB_e, imin_e, imax_e, cat_e, pt_e, put_e, some_f, c2, e, e1, e2]
    | true =>
      have c1 : confE lg th po wt sp yi = 0 := by simpa using c0
      obtain ⟨k1, k2, k3, k4⟩ := confE_th c1
      obtain ⟨o1, o2, o3, o4, o5, o6, o7, o8⟩ := newSR_ok c1 (sg := sg)
      simp only [bite_and, bite_or]
      have hm : irem (IntKind.i64.wrap id) th = id % th := by
        rw [wr (by omega) (by omega)]
        unfold irem
        exact Int.tmod_eq_emod_of_nonneg (by omega)
      have h1 : 0 ≤ id % th := Int.emod_nonneg _ (by omega)
      have h2 : id % th < th := Int.emod_lt_of_pos _ (by omega)
      have hi := o8 (id % th) h1 h2
      have hc : icnv .i64 id = id := by unfold icnv; exact wr (by omega) (by omega)
      have hm2 : irem id th = id % th := by unfold irem; exact Int.tmod_eq_emod_of_nonneg (by omega)
      simp [asrt_iff, br_iff, ieq_t, ieq_f, ine_t, ine_f, ilt_t, ilt_f, ile_t, ile_f, igt_t, igt_f, ige_t, ige_f, nlt_t, nlt_f, nle_t, nle_f, neq_t, neq_f, beq2_t, beq2_f, bnot_t, bnot_f, band_t, band_f, bite_t, bite_f, bimp_t, bimp_f, iadd_e, isub_e, imul_e, ofN_e, nOf_e, nAdd_e, nDiff_e, room_e, lenI_e, gI_e, gB_e, imin_e, imax_e, cat_e, pt_e, put_e, some_f, c1, o1, o2, o3, o4, o5, o6, o7, hc, hm2, hi, iite]
      omega
  · cases h


theorem op_5 : OpA Try.prog 5 (fun n : Int => [.int .u8 n]) (fun n => (Lit.int .u8 n).wf = true) := opA_int Try.underlying5

theorem law_FabricNew (a0 : Int × Int × Int × Int × Int × Int × Bool) (a1 : Int) (_ : True) (h1 : (Lit.int .u8 a1).wf = true) :
    ∃ b, FLFabricNew [.agg [.int .i64 a0.1, .int .i64 a0.2.1, .int .i64 a0.2.2.1, .int .i64 a0.2.2.2.1, .int .i64 a0.2.2.2.2.1, .int .i64 a0.2.2.2.2.2.1, .bool a0.2.2.2.2.2.2], .int .u8 a1] = some (b, .bool true) ∧ b ≠ some false := by
  refine ⟨_, rfl, ?_⟩
  simp [Lit.wf, IntKind.min, IntKind.max, IntKind.signed, IntKind.bits] at h1
  simp [band, ile]
  omega

end Go.Own
