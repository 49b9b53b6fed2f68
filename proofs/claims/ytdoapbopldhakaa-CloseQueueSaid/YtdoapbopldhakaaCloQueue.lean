/- A law of who closes: each step that tells something tells what a queue may be told of, and leaves the queue as that says; the others leave it. -/
import Derived.Test.YtdoapbopldhakaaCloFi
import Derived.Test.YtdoapbopldhakaaFabOpen
namespace Go.Own
open Go Go.Proofs
set_option maxRecDepth 100000
set_option linter.unusedVariables false
set_option linter.unusedSimpArgs false

theorem SR.shut_eq {s : SR} {id : Int} (hc : s.closer id = true) (hp : s.pc.getD id.toNat 0 = 0) : s.step id = { s with md := closeM s.md (cmode (s.kd.getD id.toNat 0)), rs := s.rs.set id.toNat 1, gt := s.gt.set id.toNat 0, nl := s.nl + 1, c0 := s.c0 ++ [id], ks := s.ks ++ [s.kd.getD id.toNat 0], vs := s.vs ++ [s.vl.getD id.toNat 0], rr := s.rr ++ [1], gs := s.gs ++ [0], pc := s.pc.set id.toNat 1 } := by
  obtain ⟨c1, c2, c3, c4, c5⟩ := SR.closer_is hc
  have hk9 : s.kd.getD id.toNat 0 ≠ 9 := by intro e; rw [e] at c5; simp [opSide] at c5
  have e1 : s.step id = s.shut id := by unfold SR.step; rw [if_pos hc, if_pos hp]
  have is1 : ({ s with md := closeM s.md (cmode (s.kd.getD id.toNat 0)) } : SR).is id = true := by
    simp only [SR.is, SR.md_ok c1 (s.kd.getD id.toNat 0), Bool.true_and, decide_eq_true_eq]
    exact ⟨c2, c3⟩
  rw [e1]
  unfold SR.shut
  simp only [SR.tell_is is1 _ _ _ hk9]

theorem SR.bell_eq {s : SR} {id : Int} (hc : s.closer id = true) (hp : s.pc.getD id.toNat 0 = 1) : s.step id = { s with fe := comeE s.fe s.l3, n3 := (allL s.fe s.l3).length, l3 := allL s.fe s.l3, st := s.bell.st, pc := s.pc.set id.toNat 2 } := by
  have e2 : s.step id = { s.bell with pc := s.bell.pc.set id.toNat 2 } := by unfold SR.step; rw [if_pos hc, if_neg (by omega), if_pos hp]
  have b1 := SR.wakes_same (allO s.fe s.l3) 0 { s with fe := comeE s.fe s.l3, n3 := (allL s.fe s.l3).length, l3 := allL s.fe s.l3 }
  rw [e2]
  unfold SR.bell at b1 ⊢
  rw [b1]

theorem SR.done_eq {s : SR} {id : Int} (hc : s.closer id = true) (hp : s.pc.getD id.toNat 0 ≠ 0) (hp1 : s.pc.getD id.toNat 0 ≠ 1) : s.step id = { s with ee := comeE s.ee s.l4, n4 := (allL s.ee s.l4).length, l4 := allL s.ee s.l4, st := (s.bell2.done id).st, pc := (s.bell2.done id).pc, rg := (s.bell2.done id).rg, sn := (s.bell2.done id).sn, tr := (s.bell2.done id).tr, lt := (s.bell2.done id).lt } := by
  have e3 : s.step id = s.bell2.done id := by unfold SR.step; rw [if_pos hc, if_neg hp, if_neg hp1]
  have b2 := SR.wakes_same (allO s.ee s.l4) 0 { s with ee := comeE s.ee s.l4, n4 := (allL s.ee s.l4).length, l4 := allL s.ee s.l4 }
  have z : ∀ t u : SR, t = { u with st := t.st } → t.done id = { u with st := (t.done id).st, pc := (t.done id).pc, rg := (t.done id).rg, sn := (t.done id).sn, tr := (t.done id).tr, lt := (t.done id).lt } := by
    intro t u h
    obtain ⟨q, hq⟩ : ∃ q, t = { u with st := q } := ⟨_, h⟩
    subst hq
    rfl
  rw [e3]
  exact z _ _ b2


theorem SR.qv_of {s t : SR} (h1 : t.ok = s.ok) (h2 : t.hd = s.hd) (h3 : t.tl = s.tl) (h4 : t.ns = s.ns) (h5 : t.sv = s.sv) : t.qv = s.qv := by
  unfold SR.qv SR.qfrom
  rw [h1, h2, h3, h4, h5]

/-- What a step does to the queue, and to the log. -/
theorem SR.step_queue {s : SR} (ho : s.ok = true) (wf : s.rows) (id : Int) : ((s.step id).nl = s.nl ∧ (s.step id).md = s.md ∧ (s.step id).ns = s.ns ∧ (s.step id).po = s.po ∧ (s.step id).qv = s.qv) ∨ (∃ k v, (k = 7 ∨ k = 8) ∧ (s.step id).nl = s.nl + 1 ∧ (s.step id).md = modeS s.qv s.ns s.po s.md k v 1 0 ∧ (s.step id).ns = s.ns ∧ (s.step id).po = s.po ∧ (s.step id).qv = s.qv ∧ (s.step id).c0[s.nl]?.getD 0 = id ∧ (s.step id).ks[s.nl]?.getD 0 = k ∧ (s.step id).vs[s.nl]?.getD 0 = v ∧ (s.step id).rr[s.nl]?.getD 0 = 1 ∧ (s.step id).gs[s.nl]?.getD 0 = 0) := by
  have o1 := SR.step_ok ho wf id
  cases hc : s.closer id with
  | false =>
    have e : s.step id = s := by unfold SR.step; rw [if_neg (by rw [hc]; simp)]
    rw [e]
    exact .inl ⟨rfl, rfl, rfl, rfl, rfl⟩
  | true =>
    obtain ⟨c1, c2, c3, c4, c5⟩ := SR.closer_is hc
    by_cases p0 : s.pc.getD id.toNat 0 = 0
    · rw [SR.shut_eq hc p0] at o1 ⊢
      refine .inr ⟨s.kd.getD id.toNat 0, s.vl.getD id.toNat 0, ?_, rfl, ?_, rfl, rfl, SR.qv_of (o1.trans ho.symm) rfl rfl rfl rfl, ?_, ?_, ?_, ?_, ?_⟩
      · unfold opSide at c5
        split at c5
        · omega
        · split at c5
          · omega
          · split at c5 <;> omega
      · have hk : s.kd.getD id.toNat 0 = 7 ∨ s.kd.getD id.toNat 0 = 8 := by
          unfold opSide at c5
          split at c5
          · omega
          · split at c5
            · omega
            · split at c5 <;> omega
        obtain ⟨_, h1, h2, _⟩ := (SR.ok_iff s).1 ho
        have hm := wordOk_in h1
        show closeM s.md _ = _
        rcases hk with e | e <;> rw [e] <;> simp [modeS, mayS, drainM, closeM, cmode, ieq, imax_e] <;> omega
      all_goals simp [wf.c0, wf.ks, wf.vs, wf.rr, wf.gs]
    · by_cases p1 : s.pc.getD id.toNat 0 = 1
      · rw [SR.bell_eq hc p1] at o1 ⊢
        exact .inl ⟨rfl, rfl, rfl, rfl, SR.qv_of (o1.trans ho.symm) rfl rfl rfl rfl⟩
      · rw [SR.done_eq hc p0 p1] at o1 ⊢
        exact .inl ⟨rfl, rfl, rfl, rfl, SR.qv_of (o1.trans ho.symm) rfl rfl rfl rfl⟩

theorem SR.qv_len {s : SR} : s.qv.length ≤ (s.tl - s.hd).toNat := by
  unfold SR.qv SR.qfrom
  split <;> simp

def tabL : List (FuncId × Pure1) := [(21, Fdo), (19, Fqsame)] ++ tabH

theorem ok_tabL : ∀ p ∈ tabL, PureOK Try.prog p.1 p.2 := by
  intro p hp
  simp only [tabL, List.mem_append, List.mem_cons, List.not_mem_nil, or_false] at hp
  rcases hp with (rfl | rfl) | hp
  · exact ok_do
  · exact ok_qsame
  · exact ok_tabH p hp


def FLCloseQueue : Pure1 := fun
  | [a_s, .int .i64 id] => (match asSR a_s with | some s => some (some (in64 s.hd s.tl), .bool true) | none => none)
  | _ => none

theorem vc_LCloseQueue (s : SR) (id : Int) (r : AV) : VC Try.prog (tabS tabL) noL false 7 [s.av, .int .i64 id] r = (
  asrt (bimp (bnot (bnot s.few13)) s.fitW)
    (br (bite (bnot s.few13) true (bnot s.ok)) (some (AV.bool true) = some r)
      (asrt s.fit
        (br (ile (ofN (s.step id).37) (ofN s.37))
          (asrt (s.step id).fit
            (asrt s.fit
              (asrt (nle (lenI (s.step id).qv) big)
                (some
                    (AV.bool
                      (band (sameI (s.step id).qv s.qv)
                        (band (ieq (iite (s.step id).ok (ofN (s.step id).11) 0) (iite s.ok (ofN s.11) 0))
                          (band (ieq (iite (s.step id).ok (s.step id).3 0) (iite s.ok s.3 0))
                            (ieq (iite (s.step id).ok (s.step id).10 0) (iite s.ok s.10 0)))))) =
                  some r))))
          (asrt s.fit
            (asrt (band (ile 0 (ofN s.37)) (ilt (ofN s.37) (ofN (s.step id).37)))
              (asrt (nlt (nOf (ofN s.37)) (s.step id).37)
                (asrt (nlt (lenI s.qv) 1073741824)
                  (asrt
                    (band
                      (mayS s.qv (iite s.ok (ofN s.11) 0) (iite s.ok s.3 0) (iite s.ok s.10 0)
                        (gI (s.step id).39 (nOf (ofN s.37))) (gI (s.step id).40 (nOf (ofN s.37)))
                        (gI (s.step id).41 (nOf (ofN s.37))) (gI (s.step id).42 (nOf (ofN s.37))))
                      (s.step id).fit)
                    (asrt
                      (bimp
                        (mayS s.qv (iite s.ok (ofN s.11) 0) (iite s.ok s.3 0) (iite s.ok s.10 0)
                          (gI (s.step id).39 (nOf (ofN s.37))) (gI (s.step id).40 (nOf (ofN s.37)))
                          (gI (s.step id).41 (nOf (ofN s.37))) (gI (s.step id).42 (nOf (ofN s.37))))
                        (nle (lenI (s.step id).qv) big))
                      (some
                          (AV.bool
                            (bite
                              (mayS s.qv (iite s.ok (ofN s.11) 0) (iite s.ok s.3 0) (iite s.ok s.10 0)
                                (gI (s.step id).39 (nOf (ofN s.37))) (gI (s.step id).40 (nOf (ofN s.37)))
                                (gI (s.step id).41 (nOf (ofN s.37))) (gI (s.step id).42 (nOf (ofN s.37))))
                              (band
                                (sameI (s.step id).qv
                                  (valS s.qv (iite s.ok (ofN s.11) 0) (iite s.ok s.3 0) (iite s.ok s.10 0)
                                    (gI (s.step id).39 (nOf (ofN s.37))) (gI (s.step id).40 (nOf (ofN s.37)))
                                    (gI (s.step id).41 (nOf (ofN s.37))) (gI (s.step id).42 (nOf (ofN s.37)))))
                                (band (ieq (iite (s.step id).ok (ofN (s.step id).11) 0) (iite s.ok (ofN s.11) 0))
                                  (band (ieq (iite (s.step id).ok (s.step id).3 0) (iite s.ok s.3 0))
                                    (ieq (iite (s.step id).ok (s.step id).10 0)
                                      (modeS s.qv (iite s.ok (ofN s.11) 0) (iite s.ok s.3 0) (iite s.ok s.10 0)
                                        (gI (s.step id).39 (nOf (ofN s.37))) (gI (s.step id).40 (nOf (ofN s.37)))
                                        (gI (s.step id).41 (nOf (ofN s.37))) (gI (s.step id).42 (nOf (ofN s.37))))))))
                              false)) =
                        some r))))))))))) := by kernel_rfl

theorem ok_LCloseQueue : PureOK Try.prog 7 FLCloseQueue := by
  refine tab_plain mixed (l := tabL) ok_tabL false (by kernel_rfl) fun xs b r h hb wf => ?_
  unfold FLCloseQueue at h
  split at h
  · rename_i a_s id
    split at h
    · rename_i s h_s
      obtain rfl := asSR_some h_s
      cases h
      try rw [some_f] at hb
      simp only [WFL, WF, List.mem_cons, List.not_mem_nil, or_false, forall_eq_or_imp, forall_eq, Col.len, and_true, true_and, wf_av] at wf
      rw [vc_LCloseQueue]
      cases c0 : s.few13 with
      | false => simp [asrt_iff, br_iff, ieq_t, ieq_f, ine_t, ine_f, ilt_t, ilt_f, ile_t, ile_f, igt_t, igt_f, ige_t, ige_f, nlt_t, nlt_f, nle_t, nle_f, neq_t, neq_f, beq2_t, beq2_f, bnot_t, bnot_f, band_t, band_f, bite_t, bite_f, bimp_t, bimp_f, iadd_e, isub_e, imul_e, ofN_e, nOf_e, nAdd_e, nDiff_e, room_e, lenI_e, gI_e, gB_e, imin_e, imax_e, cat_e, pt_e, put_e, some_f, SR.fitW_fit, SR.wid_fit, c0]
      | true =>
        have hf := c0
        simp [SR.few13] at hf
        have hfit : s.fit = true := (SR.fit_iff s).2 ⟨hb, by omega⟩
        cases ho : s.ok with
        | false => simp [asrt_iff, br_iff, ieq_t, ieq_f, ine_t, ine_f, ilt_t, ilt_f, ile_t, ile_f, igt_t, igt_f, ige_t, ige_f, nlt_t, nlt_f, nle_t, nle_f, neq_t, neq_f, beq2_t, beq2_f, bnot_t, bnot_f, band_t, band_f, bite_t, bite_f, bimp_t, bimp_f, iadd_e, isub_e, imul_e, ofN_e, nOf_e, nAdd_e, nDiff_e, room_e, lenI_e, gI_e, gB_e, imin_e, imax_e, cat_e, pt_e, put_e, some_f, SR.fitW_fit, SR.wid_fit, c0, hfit, ho]
        | true =>
          obtain ⟨f1, n1⟩ := SR.step_fit (k := 9) wf hfit (by omega) id
          have o1 := SR.step_ok ho wf id
          have hl : s.qv.length ≤ 100 := by
            have := @SR.qv_len s
            have := SR.ok_word ho
            omega
          have q : ∀ n, n ≤ 1000000 → n ≤ big := fun n h => le_big (by omega)
          rcases SR.step_queue ho wf id with ⟨h1, h2, h3, h4, h5⟩ | ⟨k, v, hk, h1, h2, h3, h4, h5, h6, h7, h8, h9, ha⟩
          · simp [asrt_iff, br_iff, ieq_t, ieq_f, ine_t, ine_f, ilt_t, ilt_f, ile_t, ile_f, igt_t, igt_f, ige_t, ige_f, nlt_t, nlt_f, nle_t, nle_f, neq_t, neq_f, beq2_t, beq2_f, bnot_t, bnot_f, band_t, band_f, bite_t, bite_f, bimp_t, bimp_f, iadd_e, isub_e, imul_e, ofN_e, nOf_e, nAdd_e, nDiff_e, room_e, lenI_e, gI_e, gB_e, imin_e, imax_e, cat_e, pt_e, put_e, some_f, SR.fitW_fit, SR.wid_fit, c0, hfit, ho, f1, o1, h1, h2, h3, h4, h5, sameI]
            exact q _ (by omega)
          · have m1 : mayS s.qv s.ns s.po s.md k v 1 0 = true := by rcases hk with rfl | rfl <;> simp [mayS, ieq]
            have m2 : valS s.qv s.ns s.po s.md k v 1 0 = s.qv := by rcases hk with rfl | rfl <;> simp [valS]
            have lb : s.qv.length ≤ big := q _ (by omega)
            simp [asrt_iff, br_iff, ieq_t, ieq_f, ine_t, ine_f, ilt_t, ilt_f, ile_t, ile_f, igt_t, igt_f, ige_t, ige_f, nlt_t, nlt_f, nle_t, nle_f, neq_t, neq_f, beq2_t, beq2_f, bnot_t, bnot_f, band_t, band_f, bite_t, bite_f, bimp_t, bimp_f, iadd_e, isub_e, imul_e, ofN_e, nOf_e, nAdd_e, nDiff_e, room_e, lenI_e, gI_e, gB_e, imin_e, imax_e, cat_e, pt_e, put_e, some_f, SR.fitW_fit, SR.wid_fit, c0, hfit, ho, f1, o1, h1, h2, h3, h4, h5, h6, h7, h8, h9, ha, sameI, iite, m1, m2, lb]
            omega
    · cases h
  · cases h


theorem law_CloseQueue (a0 : SR) (a1 : Int) (h0 : a0.fitW = true) (_ : (Lit.int .i64 a1).wf = true) :
    ∃ b, FLCloseQueue [.agg a0.cells, .int .i64 a1] = some (b, .bool true) ∧ b ≠ some false :=
  ⟨some (in64 a0.hd a0.tl), rfl, by simp only [SR.fitW, Bool.and_eq_true] at h0; simp [h0.1]⟩

end Go.Own
