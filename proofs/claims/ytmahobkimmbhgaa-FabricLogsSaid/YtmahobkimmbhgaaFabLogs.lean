/- A law of the fabric: what is told is told behind all that was. -/
import Derived.Test.YtmahobkimmbhgaaFabOpen
namespace Go.Own
open Go Go.Proofs
set_option maxRecDepth 100000
set_option linter.unusedVariables false
set_option linter.unusedSimpArgs false

def FLFabricLogs : Pure1 := fun
  | [a_s, .int .i64 id, .int .i64 kind, .int .i64 res, .int .i64 got] => (match asSR a_s with | some s => some (some (in64 s.hd s.tl), .bool true) | none => none)
  | _ => none

theorem vc_LFabricLogs (s : SR) (id kind res got : Int) (r : AV) : VC Try.prog (tabS tabL) noL false 8 [s.av, .int .i64 id, .int .i64 kind, .int .i64 res, .int .i64 got] r = (
  br
    (bnot
      s.few13)
    (some (AV.bool true) = some r)
    (asrt
      s.fit
      (asrt
        s.fit
        (br
          (bnot
            (bite
              (bite
                s.ok
                (ige id 0) false)
              (ilt id (ofN s.25)) false))
          (asrt
            (band
              (s.tell id kind res got).fit
              ((s.tell id kind res got).same
                s))
            (some (AV.bool true) = some r))
          (br
            (ine
              (ofN
                (s.tell
                    id kind res got).37)
              (iadd IntKind.i64 (ofN s.37) 1))
            (some (AV.bool false) = some r)
            (asrt
              (band (ile 0 (ofN s.37))
                (ile (ofN s.37)
                  (ofN
                    (s.tell
                        id kind res got).37)))
              (asrt
                (band (nle (nOf (ofN s.37)) big)
                  (loEq (nOf (ofN s.37))
                    (pt
                      (s.tell
                          id kind res got).38
                      0 (nOf (ofN s.37)))
                    (pt
                      (s.tell
                          id kind res got).39
                      0 (nOf (ofN s.37)))
                    (pt
                      (s.tell
                          id kind res got).40
                      0 (nOf (ofN s.37)))
                    (pt
                      (s.tell
                          id kind res got).41
                      0 (nOf (ofN s.37)))
                    (pt
                      (s.tell
                          id kind res got).42
                      0 (nOf (ofN s.37)))
                    s.37 s.38 s.39 s.40 s.41 s.42))
                (asrt
                  (band (ile 0 (ofN s.37))
                    (ilt (ofN s.37)
                      (ofN
                        (s.tell
                            id kind res got).37)))
                  (asrt
                    (nlt (nOf (ofN s.37))
                      (s.tell
                          id kind res got).37)
                    (asrt (band (ile 0 id) (ilt id (ofN s.25)))
                      (some
                          (AV.bool
                            (band
                              (ieq
                                (gI
                                  (s.tell
                                      id kind res got).38
                                  (nOf (ofN s.37)))
                                id)
                              (band
                                (ieq
                                  (gI
                                    (s.tell
                                        id kind res got).39
                                    (nOf (ofN s.37)))
                                  kind)
                                (band
                                  (ieq
                                    (gI
                                      (s.tell
                                          id kind res got).40
                                      (nOf (ofN s.37)))
                                    (gI s.28 (nOf id)))
                                  (band
                                    (ieq
                                      (gI
                                        (s.tell
                                            id kind res got).41
                                        (nOf (ofN s.37)))
                                      res)
                                    (band
                                      (ieq
                                        (gI
                                          (s.tell
                                              id kind res got).42
                                          (nOf (ofN s.37)))
                                        got)
                                      true)))))) =
                        some r))))))))))) := by kernel_rfl

theorem ok_LFabricLogs : PureOK Try.prog 8 FLFabricLogs := by
  refine tab_plain mixed (l := tabL) ok_tabL false (by kernel_rfl) fun xs b r h hb wf => ?_
  unfold FLFabricLogs at h
  split at h
  · rename_i a_s id kind res got
    split at h
    · rename_i s h_s
      obtain rfl := asSR_some h_s
      cases h
      try rw [some_f] at hb
      simp only [WFL, WF, List.mem_cons, List.not_mem_nil, or_false, forall_eq_or_imp, forall_eq, Col.len, and_true, true_and, wf_av] at wf
      rw [vc_LFabricLogs]
      cases c0 : s.few13 with
      | false => simp [asrt_iff, br_iff, ieq_t, ieq_f, ine_t, ine_f, ilt_t, ilt_f, ile_t, ile_f, igt_t, igt_f, ige_t, ige_f, nlt_t, nlt_f, nle_t, nle_f, neq_t, neq_f, beq2_t, beq2_f, bnot_t, bnot_f, band_t, band_f, bite_t, bite_f, bimp_t, bimp_f, iadd_e, isub_e, imul_e, ofN_e, nOf_e, nAdd_e, nDiff_e, room_e, lenI_e, gI_e, gB_e, imin_e, imax_e, cat_e, pt_e, put_e, some_f, c0]
      | true =>
        have hf := c0
        simp [SR.few13] at hf
        have hfit : s.fit = true := by
          simp only [SR.fit, hb, Bool.true_and, fewB, decide_eq_true_eq]
          omega
        have hbig : s.nl ≤ big := le_big (by omega)
        have tru : ∀ x : SR, x = s → x.same s = true := fun x h => by subst h; simp [SR.same]
        simp only [bite_and, bite_or]
        by_cases c1 : s.ok = true
        · by_cases c2 : 0 ≤ id
          · by_cases c3 : id < s.nt
            · have hi : s.is id = true := by simp [SR.is, c1, c2, c3]
              have w1 : IntKind.i64.wrap ((s.nl : Int) + 1) = (s.nl : Int) + 1 := wr (by omega) (by omega)
              have q := wf.c0
              have q1 := wf.ks
              have q2 := wf.vs
              have q3 := wf.rr
              have q4 := wf.gs
              simp [asrt_iff, br_iff, ieq_t, ieq_f, ine_t, ine_f, ilt_t, ilt_f, ile_t, ile_f, igt_t, igt_f, ige_t, ige_f, nlt_t, nlt_f, nle_t, nle_f, neq_t, neq_f, beq2_t, beq2_f, bnot_t, bnot_f, band_t, band_f, bite_t, bite_f, bimp_t, bimp_f, iadd_e, isub_e, imul_e, ofN_e, nOf_e, nAdd_e, nDiff_e, room_e, lenI_e, gI_e, gB_e, imin_e, imax_e, cat_e, pt_e, put_e, some_f, c0, hfit, c1, c2, c3, SR.tell, hi, w1, hbig, loEq, q, q1, q2, q3, q4, List.take_append_of_le_length, List.getElem?_append_right]
              exact ⟨fun h => absurd h (by omega), by omega, by omega⟩
            · have ht : s.tell id kind res got = s := by simp [SR.tell, SR.is, c3]
              simp [asrt_iff, br_iff, ieq_t, ieq_f, ine_t, ine_f, ilt_t, ilt_f, ile_t, ile_f, igt_t, igt_f, ige_t, ige_f, nlt_t, nlt_f, nle_t, nle_f, neq_t, neq_f, beq2_t, beq2_f, bnot_t, bnot_f, band_t, band_f, bite_t, bite_f, bimp_t, bimp_f, iadd_e, isub_e, imul_e, ofN_e, nOf_e, nAdd_e, nDiff_e, room_e, lenI_e, gI_e, gB_e, imin_e, imax_e, cat_e, pt_e, put_e, some_f, c0, hfit, c1, c2, c3, ht, tru]
          · have ht : s.tell id kind res got = s := by simp [SR.tell, SR.is, c2]
            simp [asrt_iff, br_iff, ieq_t, ieq_f, ine_t, ine_f, ilt_t, ilt_f, ile_t, ile_f, igt_t, igt_f, ige_t, ige_f, nlt_t, nlt_f, nle_t, nle_f, neq_t, neq_f, beq2_t, beq2_f, bnot_t, bnot_f, band_t, band_f, bite_t, bite_f, bimp_t, bimp_f, iadd_e, isub_e, imul_e, ofN_e, nOf_e, nAdd_e, nDiff_e, room_e, lenI_e, gI_e, gB_e, imin_e, imax_e, cat_e, pt_e, put_e, some_f, c0, hfit, c1, c2, ht, tru]
        · have ht : s.tell id kind res got = s := by simp [SR.tell, SR.is, c1]
          simp [asrt_iff, br_iff, ieq_t, ieq_f, ine_t, ine_f, ilt_t, ilt_f, ile_t, ile_f, igt_t, igt_f, ige_t, ige_f, nlt_t, nlt_f, nle_t, nle_f, neq_t, neq_f, beq2_t, beq2_f, bnot_t, bnot_f, band_t, band_f, bite_t, bite_f, bimp_t, bimp_f, iadd_e, isub_e, imul_e, ofN_e, nOf_e, nAdd_e, nDiff_e, room_e, lenI_e, gI_e, gB_e, imin_e, imax_e, cat_e, pt_e, put_e, some_f, c0, hfit, c1, ht, tru]
    · cases h
  · cases h


theorem law_FabricLogs (a0 : SR) (a1 a2 a3 a4 : Int) (h0 : in64 a0.hd a0.tl = true) (_ : (Lit.int .i64 a1).wf = true) (_ : (Lit.int .i64 a2).wf = true) (_ : (Lit.int .i64 a3).wf = true) (_ : (Lit.int .i64 a4).wf = true) :
    ∃ b, FLFabricLogs [.agg a0.cells, .int .i64 a1, .int .i64 a2, .int .i64 a3, .int .i64 a4] = some (b, .bool true) ∧ b ≠ some false :=
  ⟨some (in64 a0.hd a0.tl), rfl, by simp [h0]⟩

end Go.Own
