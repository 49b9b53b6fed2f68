/- A law of who closes: what may be stays so. -/
import Derived.Test.YtdoapbopldhakaaCloLaw
import Derived.Test.YtdoapbopldhakaaFabOpen
namespace Go.Own
open Go Go.Proofs
set_option maxRecDepth 100000
set_option linter.unusedVariables false
set_option linter.unusedSimpArgs false

def FLCloseStays : Pure1 := fun
  | [a_s, .int .i64 id, .int .i64 many] => (match asSR a_s with | some s => some (some (in64 s.hd s.tl), .bool true) | none => none)
  | _ => none

theorem vc_LCloseStays (s : SR) (id many : Int) (r : AV) : VC Try.prog (tabS tabH) noL false 4 [s.av, .int .i64 id, .int .i64 many] r = (
  br (bite (bnot s.few13) true (igt many 30)) (some (AV.bool true) = some r)
    (asrt s.fit
      (asrt (band s.fit (nle (nAdd s.37 10) 1000000))
        (asrt s.fit
          (asrt (s.step id).fit
            (asrt (bimp (beq2 (s.step id).ok s.ok) (s.steps id many).1.fit)
              (asrt
                (bimp
                  (band
                    (bite
                      (bite
                        (bite (bite (beq2 (s.step id).ok s.ok) (beq2 (s.steps id many).1.ok s.ok) false)
                          (ige (s.steps id many).2 0) false)
                        (ile (s.steps id many).2 (imax many 0)) false)
                      (ile (s.steps id many).2 3) false)
                    (bnot s.ok))
                  (band (s.step id).fit ((s.step id).same s)))
                (some
                    (AV.bool
                      (bite
                        (bite
                          (bite
                            (bite (bite (beq2 (s.step id).ok s.ok) (beq2 (s.steps id many).1.ok s.ok) false)
                              (ige (s.steps id many).2 0) false)
                            (ile (s.steps id many).2 (imax many 0)) false)
                          (ile (s.steps id many).2 3) false)
                        (bite s.ok true true) false)) =
                  some r)))))))) := by kernel_rfl

theorem ok_LCloseStays : PureOK Try.prog 4 FLCloseStays := by
  refine tab_plain mixed (l := tabH) ok_tabH false (by kernel_rfl) fun xs b r h hb wf => ?_
  unfold FLCloseStays at h
  split at h
  · rename_i a_s id many
    split at h
    · rename_i s h_s
      obtain rfl := asSR_some h_s
      cases h
      try rw [some_f] at hb
      simp only [WFL, WF, List.mem_cons, List.not_mem_nil, or_false, forall_eq_or_imp, forall_eq, Col.len, and_true, true_and, wf_av] at wf
      rw [vc_LCloseStays]
      simp only [bite_or, bite_and]
      by_cases c : s.few13 = true ∧ many ≤ 30
      · obtain ⟨c0, cm⟩ := c
        have hf := c0
        simp [SR.few13] at hf
        have hfit : s.fit = true := (SR.fit_iff s).2 ⟨hb, by omega⟩
        obtain ⟨f1, n1⟩ := SR.step_fit (k := 9) wf hfit (by omega) id
        obtain ⟨a1, a2, a3, a4, a5, a6, a7, a8⟩ := SR.stepsN_all id (imin many 1000) 7 3 s 0 wf hfit (by omega)
        have es : SR.stepsN 3 s id (imin many 1000) 0 = s.steps id many := rfl
        rw [es] at a1 a2 a3 a4 a5 a6 a7 a8
        have m1 : (s.steps id many).2 ≤ imax many 0 := by
          rw [imin_e] at a7
          rw [imax_e]
          omega
        have c4 : ¬ 30 < many := by omega
        have n2 : s.nl + 10 ≤ 1000000 := by omega
        cases ho : s.ok with
        | true =>
          have o1 := SR.step_ok ho wf id
          rw [ho] at a3
          simp [asrt_iff, br_iff, ieq_t, ieq_f, ine_t, ine_f, ilt_t, ilt_f, ile_t, ile_f, igt_t, igt_f, ige_t, ige_f, nlt_t, nlt_f, nle_t, nle_f, neq_t, neq_f, beq2_t, beq2_f, bnot_t, bnot_f, band_t, band_f, bite_t, bite_f, bimp_t, bimp_f, iadd_e, isub_e, imul_e, ofN_e, nOf_e, nAdd_e, nDiff_e, room_e, lenI_e, gI_e, gB_e, imin_e, imax_e, cat_e, pt_e, put_e, some_f, c0, cm, c4, hfit, f1, a2, n2, o1, a3, ho]
          rw [imax_e] at m1
          omega
        | false =>
          have e1 := SR.step_not ho id
          have e2 := a4 ho
          rw [e1, e2]
          have hs : s.same s = true := by simp [SR.same]
          simp [asrt_iff, br_iff, ieq_t, ieq_f, ine_t, ine_f, ilt_t, ilt_f, ile_t, ile_f, igt_t, igt_f, ige_t, ige_f, nlt_t, nlt_f, nle_t, nle_f, neq_t, neq_f, beq2_t, beq2_f, bnot_t, bnot_f, band_t, band_f, bite_t, bite_f, bimp_t, bimp_f, iadd_e, isub_e, imul_e, ofN_e, nOf_e, nAdd_e, nDiff_e, room_e, lenI_e, gI_e, gB_e, imin_e, imax_e, cat_e, pt_e, put_e, some_f, c0, cm, c4, hfit, n2, ho, hs]
          rw [imax_e] at m1
          omega
      · by_cases c0 : s.few13 = true
        · have c4 : 30 < many := by
            apply Classical.byContradiction
            intro h
            exact c ⟨c0, by omega⟩
          simp [asrt_iff, br_iff, ieq_t, ieq_f, ine_t, ine_f, ilt_t, ilt_f, ile_t, ile_f, igt_t, igt_f, ige_t, ige_f, nlt_t, nlt_f, nle_t, nle_f, neq_t, neq_f, beq2_t, beq2_f, bnot_t, bnot_f, band_t, band_f, bite_t, bite_f, bimp_t, bimp_f, iadd_e, isub_e, imul_e, ofN_e, nOf_e, nAdd_e, nDiff_e, room_e, lenI_e, gI_e, gB_e, imin_e, imax_e, cat_e, pt_e, put_e, some_f, c0, c4]
          omega
        · simp [asrt_iff, br_iff, ieq_t, ieq_f, ine_t, ine_f, ilt_t, ilt_f, ile_t, ile_f, igt_t, igt_f, ige_t, ige_f, nlt_t, nlt_f, nle_t, nle_f, neq_t, neq_f, beq2_t, beq2_f, bnot_t, bnot_f, band_t, band_f, bite_t, bite_f, bimp_t, bimp_f, iadd_e, isub_e, imul_e, ofN_e, nOf_e, nAdd_e, nDiff_e, room_e, lenI_e, gI_e, gB_e, imin_e, imax_e, cat_e, pt_e, put_e, some_f, c0]
    · cases h
  · cases h


theorem law_CloseStays (a0 : SR) (a1 a2 : Int) (h0 : in64 a0.hd a0.tl = true) (_ : (Lit.int .i64 a1).wf = true) (_ : (Lit.int .i64 a2).wf = true) :
    ∃ b, FLCloseStays [.agg a0.cells, .int .i64 a1, .int .i64 a2] = some (b, .bool true) ∧ b ≠ some false :=
  ⟨some (in64 a0.hd a0.tl), rfl, by simp [h0]⟩

end Go.Own
