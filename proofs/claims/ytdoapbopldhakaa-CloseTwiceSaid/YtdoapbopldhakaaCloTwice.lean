/- A law of who closes: who closes again changes no mode but to a greater one. -/
import Derived.Test.YtdoapbopldhakaaCloLaw
import Derived.Test.YtdoapbopldhakaaFabOpen
namespace Go.Own
open Go Go.Proofs
set_option maxRecDepth 100000
set_option linter.unusedVariables false
set_option linter.unusedSimpArgs false

/-- What is so of a new fabric that is closed once. -/
theorem twice {lg th po wt sp yi : Int} {sg : Bool} (h : confE lg th po wt sp yi = 0) (k : Int) (hk : k = 7 ∨ k = 8) :
    let s := newSR lg th po wt sp yi sg
    let t := s.inv 0 7 0 0
    let a := (t.steps 0 9).1
    let u := a.inv 0 k 0 0
    let b := (u.steps 0 9).1
    s.fit = true ∧ t.fit = true ∧ t.nl + 10 ≤ 1000000 ∧ a.fit = true ∧ a.md = 1 ∧ a.invE 0 k 0 = 0 ∧ u.fit = true ∧ u.nl + 10 ≤ 1000000 ∧ b.md = cmode k ∧ b.nl = 2 ∧ b.fe = 2 ∧ b.ee = 2 ∧ b.tl = 0 := by
  intro s t a u b
  obtain ⟨o1, o2, _, _, o5, o6, o7, _⟩ := newSR_ok h (sg := sg)
  obtain ⟨_, _, t1, t2⟩ := confE_th h
  have hs : s = newSR lg th po wt sp yi sg := rfl
  have x : s.nl = 0 ∧ s.fe = 0 ∧ s.ee = 0 ∧ s.l3 = [] ∧ s.l4 = [] ∧ s.tl = 0 ∧ s.st.getD 0 0 = 0 ∧ s.th = th := by
    rw [hs]
    unfold newSR
    rw [if_pos h]
    refine ⟨rfl, rfl, rfl, rfl, rfl, rfl, ?_, rfl⟩
    simp only [rI, List.getD_eq_getElem?_getD, List.getElem?_replicate]
    split <;> rfl
  obtain ⟨x1, x2, x3, x4, x5, x6, x7, x8⟩ := x
  have inv0 : ∀ (z : SR) (k : Int), z.ok = true → z.st.getD 0 0 = 0 → 1 ≤ z.th → (k = 7 ∨ k = 8) → z.invE 0 k 0 = 0 := by
    intro z k z1 z2 z3 z4
    unfold SR.invE
    rw [if_pos z1]
    have hm : mayE z.th z.sg 0 k = 0 := by
      unfold mayE
      rw [if_neg (by omega)]
      rcases z4 with rfl | rfl <;> simp [opSide]
    rw [if_pos hm]
    show Go.Own.invE (z.st.getD 0 0) k 0 = 0
    rw [z2]
    rcases z4 with rfl | rfl <;> decide
  have e1 := inv0 s 7 o2 x7 (by omega) (.inl rfl)
  obtain ⟨_, T1, kd1, _⟩ := SR.closes (many := 9) newSR_rows o1 (by rw [← hs]; omega) (.inl rfl) e1 (by omega)
  obtain ⟨i1, i2, i3, i4, i5, i6, i7, i8, i9, i10, i11⟩ := SR.inv_same s 0 7 0 0
  have a1 : a.md = 1 := by
    have := T1.md
    rw [kd1, i3] at this
    show (((s.inv 0 7 0 0).steps 0 9).1).md = 1
    rw [this, show s.md = 0 from o5]
    decide
  have a2 : a.nl = 1 := by have := T1.nl; rw [i2, x1] at this; exact this
  have a3 : a.fe = 1 := by have := T1.fe; rw [i4, i6, x2, x4] at this; rw [show a.fe = _ from this]; decide +kernel
  have a4 : a.ee = 1 := by have := T1.ee; rw [i5, i7, x3, x5] at this; rw [show a.ee = _ from this]; decide +kernel
  have a5 : a.tl = 0 := by have := T1.tl; rw [i9, x6] at this; exact this
  have a6 : a.th = th := by have := T1.th; rw [i10, x8] at this; exact this
  have e2 := inv0 a k T1.ok T1.st (by omega) hk
  obtain ⟨_, T2, kd2, _⟩ := SR.closes (many := 9) T1.rows T1.fit (by show a.nl + 10 ≤ _; omega) hk e2 (by omega)
  obtain ⟨j1, j2, j3, j4, j5, j6, j7, j8, j9, j10, j11⟩ := SR.inv_same a 0 k 0 0
  have al3 : a.l3 = [] := T1.l3
  have al4 : a.l4 = [] := T1.l4
  refine ⟨o1, by show (s.inv 0 7 0 0).fit = true; rw [i1]; exact o1, by show (s.inv 0 7 0 0).nl + 10 ≤ _; rw [i2]; omega, T1.fit, a1, e2, by show (a.inv 0 k 0 0).fit = true; rw [j1]; exact T1.fit, by show (a.inv 0 k 0 0).nl + 10 ≤ _; rw [j2]; omega, ?_, ?_, ?_, ?_, ?_⟩
  · have := T2.md
    rw [kd2, j3, a1] at this
    show (((a.inv 0 k 0 0).steps 0 9).1).md = cmode k
    rw [this]
    rcases hk with rfl | rfl <;> decide
  · have := T2.nl; rw [j2, a2] at this; exact this
  · have := T2.fe; rw [j4, j6, a3, al3] at this; rw [show b.fe = _ from this]; decide +kernel
  · have := T2.ee; rw [j5, j7, a4, al4] at this; rw [show b.ee = _ from this]; decide +kernel
  · have := T2.tl; rw [j9, a5] at this; exact this

def FLCloseTwice : Pure1 := fun
  | [.agg [.int .i64 lg, .int .i64 th, .int .i64 po, .int .i64 wt, .int .i64 sp, .int .i64 yi, .bool sg], .bool dr] => some (none, .bool true)
  | _ => none

theorem vc_LCloseTwice (lg th po wt sp yi : Int) (sg : Bool) (dr : Bool) (r : AV) : VC Try.prog (tabS tabH) noL false 6 [.agg [.int .i64 lg, .int .i64 th, .int .i64 po, .int .i64 wt, .int .i64 sp, .int .i64 yi, .bool sg], .bool dr] r = (
  br (ine (confE lg th po wt sp yi) 0) (some (AV.bool true) = some r)
    (br dr
      (asrt (newSR lg th po wt sp yi sg).fit
        (asrt
          (band ((newSR lg th po wt sp yi sg).inv 0 7 0 0).fit
            (nle (nAdd ((newSR lg th po wt sp yi sg).inv 0 7 0 0).37 10) 1000000))
          (asrt (((newSR lg th po wt sp yi sg).inv 0 7 0 0).steps 0 9).1.fit
            (asrt
              (band ((((newSR lg th po wt sp yi sg).inv 0 7 0 0).steps 0 9).1.inv 0 7 0 0).fit
                (nle (nAdd ((((newSR lg th po wt sp yi sg).inv 0 7 0 0).steps 0 9).1.inv 0 7 0 0).37 10) 1000000))
              (some
                  (AV.bool
                    (bite
                      (bite
                        (bite
                          (bite
                            (bite
                              (bite (ieq ((((newSR lg th po wt sp yi sg).inv 0 7 0 0).steps 0 9).1.invE 0 7 0) 0)
                                (ieq (((newSR lg th po wt sp yi sg).inv 0 7 0 0).steps 0 9).1.10 1) false)
                              (ieq
                                (((((newSR lg th po wt sp yi sg).inv 0 7 0 0).steps 0 9).1.inv 0 7 0 0).steps 0 9).1.10
                                (cmode 7))
                              false)
                            (ieq
                              (ofN
                                (((((newSR lg th po wt sp yi sg).inv 0 7 0 0).steps 0 9).1.inv 0 7 0 0).steps 0 9).1.37)
                              2)
                            false)
                          (ieq (((((newSR lg th po wt sp yi sg).inv 0 7 0 0).steps 0 9).1.inv 0 7 0 0).steps 0 9).1.18
                            2)
                          false)
                        (ieq (((((newSR lg th po wt sp yi sg).inv 0 7 0 0).steps 0 9).1.inv 0 7 0 0).steps 0 9).1.21 2)
                        false)
                      (ieq (((((newSR lg th po wt sp yi sg).inv 0 7 0 0).steps 0 9).1.inv 0 7 0 0).steps 0 9).1.9 0)
                      false)) =
                some r)))))
      (asrt (newSR lg th po wt sp yi sg).fit
        (asrt
          (band ((newSR lg th po wt sp yi sg).inv 0 7 0 0).fit
            (nle (nAdd ((newSR lg th po wt sp yi sg).inv 0 7 0 0).37 10) 1000000))
          (asrt (((newSR lg th po wt sp yi sg).inv 0 7 0 0).steps 0 9).1.fit
            (asrt
              (band ((((newSR lg th po wt sp yi sg).inv 0 7 0 0).steps 0 9).1.inv 0 8 0 0).fit
                (nle (nAdd ((((newSR lg th po wt sp yi sg).inv 0 7 0 0).steps 0 9).1.inv 0 8 0 0).37 10) 1000000))
              (some
                  (AV.bool
                    (bite
                      (bite
                        (bite
                          (bite
                            (bite
                              (bite (ieq ((((newSR lg th po wt sp yi sg).inv 0 7 0 0).steps 0 9).1.invE 0 8 0) 0)
                                (ieq (((newSR lg th po wt sp yi sg).inv 0 7 0 0).steps 0 9).1.10 1) false)
                              (ieq
                                (((((newSR lg th po wt sp yi sg).inv 0 7 0 0).steps 0 9).1.inv 0 8 0 0).steps 0 9).1.10
                                (cmode 8))
                              false)
                            (ieq
                              (ofN
                                (((((newSR lg th po wt sp yi sg).inv 0 7 0 0).steps 0 9).1.inv 0 8 0 0).steps 0 9).1.37)
                              2)
                            false)
                          (ieq (((((newSR lg th po wt sp yi sg).inv 0 7 0 0).steps 0 9).1.inv 0 8 0 0).steps 0 9).1.18
                            2)
                          false)
                        (ieq (((((newSR lg th po wt sp yi sg).inv 0 7 0 0).steps 0 9).1.inv 0 8 0 0).steps 0 9).1.21 2)
                        false)
                      (ieq (((((newSR lg th po wt sp yi sg).inv 0 7 0 0).steps 0 9).1.inv 0 8 0 0).steps 0 9).1.9 0)
                      false)) =
                some r))))))) := by kernel_rfl

theorem ok_LCloseTwice : PureOK Try.prog 6 FLCloseTwice := by
  refine tab_plain mixed (l := tabH) ok_tabH false (by kernel_rfl) fun xs b r h hb wf => ?_
  unfold FLCloseTwice at h
  split at h
  · rename_i lg th po wt sp yi sg dr
    cases h
    try rw [some_f] at hb
    try simp only [WFL, WF, List.mem_cons, List.not_mem_nil, or_false, forall_eq_or_imp, forall_eq, Col.len, and_true, true_and] at wf
    rw [vc_LCloseTwice]
    cases c0 : decide (confE lg th po wt sp yi = 0) with
    | false =>
      have c1 : ¬ confE lg th po wt sp yi = 0 := by simpa using c0
      simp [asrt_iff, br_iff, ieq_t, ieq_f, ine_t, ine_f, ilt_t, ilt_f, ile_t, ile_f, igt_t, igt_f, ige_t, ige_f, nlt_t, nlt_f, nle_t, nle_f, neq_t, neq_f, beq2_t, beq2_f, bnot_t, bnot_f, band_t, band_f, bite_t, bite_f, bimp_t, bimp_f, iadd_e, isub_e, imul_e, ofN_e, nOf_e, nAdd_e, nDiff_e, room_e, lenI_e, gI_e, gB_e, imin_e, imax_e, cat_e, pt_e, put_e, some_f, c1]
    | true =>
      have c1 : confE lg th po wt sp yi = 0 := by simpa using c0
      simp only [bite_and, bite_or]
      cases dr with
      | true =>
        obtain ⟨h1, h2, h3, h4, h5, h6, h7, h8, h9, h10, h11, h12, h13⟩ := twice (sg := sg) c1 7 (.inl rfl)
        simp [asrt_iff, br_iff, ieq_t, ieq_f, ine_t, ine_f, ilt_t, ilt_f, ile_t, ile_f, igt_t, igt_f, ige_t, ige_f, nlt_t, nlt_f, nle_t, nle_f, neq_t, neq_f, beq2_t, beq2_f, bnot_t, bnot_f, band_t, band_f, bite_t, bite_f, bimp_t, bimp_f, iadd_e, isub_e, imul_e, ofN_e, nOf_e, nAdd_e, nDiff_e, room_e, lenI_e, gI_e, gB_e, imin_e, imax_e, cat_e, pt_e, put_e, some_f, c1, h1, h2, h3, h4, h5, h6, h7, h8, h9, h10, h11, h12, h13]
      | false =>
        obtain ⟨h1, h2, h3, h4, h5, h6, h7, h8, h9, h10, h11, h12, h13⟩ := twice (sg := sg) c1 8 (.inr rfl)
        simp [asrt_iff, br_iff, ieq_t, ieq_f, ine_t, ine_f, ilt_t, ilt_f, ile_t, ile_f, igt_t, igt_f, ige_t, ige_f, nlt_t, nlt_f, nle_t, nle_f, neq_t, neq_f, beq2_t, beq2_f, bnot_t, bnot_f, band_t, band_f, bite_t, bite_f, bimp_t, bimp_f, iadd_e, isub_e, imul_e, ofN_e, nOf_e, nAdd_e, nDiff_e, room_e, lenI_e, gI_e, gB_e, imin_e, imax_e, cat_e, pt_e, put_e, some_f, c1, h1, h2, h3, h4, h5, h6, h7, h8, h9, h10, h11, h12, h13]
  · cases h


theorem law_CloseTwice (a0 : Int × Int × Int × Int × Int × Int × Bool) (a1 : Bool) (_ : True) (_ : True) :
    ∃ b, FLCloseTwice [.agg [.int .i64 a0.1, .int .i64 a0.2.1, .int .i64 a0.2.2.1, .int .i64 a0.2.2.2.1, .int .i64 a0.2.2.2.2.1, .int .i64 a0.2.2.2.2.2.1, .bool a0.2.2.2.2.2.2], .bool a1] = some (b, .bool true) ∧ b ≠ some false :=
  ⟨_, rfl, by simp⟩

end Go.Own
