/- Queues: Do. -/
import Derived.Test.YtmilniofdpgbnaaFifoA
namespace Go.Own
open Go Go.Proofs
set_option maxRecDepth 100000
set_option linter.unusedVariables false
set_option linter.unusedSimpArgs false

theorem evictV_le (l : List Int) (e4 : Int) : (evictV l e4).length ≤ l.length := by
  unfold evictV; split <;> simp
theorem sendV_le (l : List Int) (e2 e3 : Int) : (sendV l e2 e3).length ≤ l.length + 1 := by
  unfold sendV; split <;> simp
theorem recvV_le (l : List Int) (e3 e4 : Int) : (recvV l e3 e4).length ≤ l.length := by
  unfold recvV; split <;> simp

def LDo : Nat → Option LoopS := fun i => match i with
  | 0 => some (.unroll 4)
  | 2 => some (.unroll 4)
  | _ => none

theorem ok_LDo : ∀ i s, LDo i = some (.summ s) → onlyLoop Try.prog 16 i = true ∧ LoopOK Try.prog (bodyOf Try.prog 16 i) s := by
  intro i s h
  unfold LDo at h
  split at h
  · cases h
  · cases h
  · cases h


def Fdo : Pure1 := fun
  | [.agg [.sl n [.int .i64 l], .int .i64 a, .int .i64 b, .int .i64 c], .agg [.int .i64 e0, .int .i64 e1, .int .i64 e2, .int .i64 e3, .int .i64 e4]] => some (some (nlt n room), .tup [.agg [.own 3 (lenI (valS l a b c e1 e2 e3 e4)) [.int .i64 (valS l a b c e1 e2 e3 e4)], .int .i64 a, .int .i64 b, .int .i64 (modeS l a b c e1 e2 e3 e4)], .bool (mayS l a b c e1 e2 e3 e4)])
  | _ => none

theorem vc_do (n : Nat) (l : List Int) (a b c e0 e1 e2 e3 e4 : Int) (r : AV) : VC Try.prog (tabS tabF0) (oneL 16 LDo) true 16 [.agg [.sl n [.int .i64 l], .int .i64 a, .int .i64 b, .int .i64 c], .agg [.int .i64 e0, .int .i64 e1, .int .i64 e2, .int .i64 e3, .int .i64 e4]] r = (
  br (ieq e1 9)
    (asrt (nle n 1073741824)
      (br (bnot (evictB l a b c e3 e4))
        (asrt (nle n 1073741824)
          (some
              (AV.tup
                [AV.agg
                    [AV.own 3 n [Col.int IntKind.i64 l], AV.int IntKind.i64 a, AV.int IntKind.i64 b,
                      AV.int IntKind.i64 c],
                  AV.bool false]) =
            some r))
        (asrt (nle (lenI (evictV l e4)) 1073741824)
          (some
              (AV.tup
                [AV.agg
                    [AV.own 3 (lenI (evictV l e4)) [Col.int IntKind.i64 (evictV l e4)], AV.int IntKind.i64 a,
                      AV.int IntKind.i64 b, AV.int IntKind.i64 c],
                  AV.bool true]) =
            some r))))
    (br (ieq e1 7)
      (br (bnot (ieq e3 1))
        (asrt (nle n 1073741824)
          (some
              (AV.tup
                [AV.agg
                    [AV.own 3 n [Col.int IntKind.i64 l], AV.int IntKind.i64 a, AV.int IntKind.i64 b,
                      AV.int IntKind.i64 c],
                  AV.bool false]) =
            some r))
        (asrt (nle n 1073741824)
          (some
              (AV.tup
                [AV.agg
                    [AV.own 3 n [Col.int IntKind.i64 l], AV.int IntKind.i64 a, AV.int IntKind.i64 b,
                      AV.int IntKind.i64 (drainM c)],
                  AV.bool true]) =
            some r)))
      (br (ieq e1 8)
        (br (bnot (ieq e3 1))
          (asrt (nle n 1073741824)
            (some
                (AV.tup
                  [AV.agg
                      [AV.own 3 n [Col.int IntKind.i64 l], AV.int IntKind.i64 a, AV.int IntKind.i64 b,
                        AV.int IntKind.i64 c],
                    AV.bool false]) =
              some r))
          (asrt (nle n 1073741824)
            (some
                (AV.tup
                  [AV.agg
                      [AV.own 3 n [Col.int IntKind.i64 l], AV.int IntKind.i64 a, AV.int IntKind.i64 b,
                        AV.int IntKind.i64 2],
                    AV.bool true]) =
              some r)))
        (br (ieq e1 1)
          (asrt (nlt n 1073741824)
            (br (bnot (sendB l a b c e1 e2 e3 e4))
              (asrt (nle n 1073741824)
                (some
                    (AV.tup
                      [AV.agg
                          [AV.own 3 n [Col.int IntKind.i64 l], AV.int IntKind.i64 a, AV.int IntKind.i64 b,
                            AV.int IntKind.i64 c],
                        AV.bool false]) =
                  some r))
              (asrt (nle (lenI (sendV l e2 e3)) 1073741824)
                (some
                    (AV.tup
                      [AV.agg
                          [AV.own 3 (lenI (sendV l e2 e3)) [Col.int IntKind.i64 (sendV l e2 e3)], AV.int IntKind.i64 a,
                            AV.int IntKind.i64 b, AV.int IntKind.i64 c],
                        AV.bool true]) =
                  some r))))
          (br (ieq e1 2)
            (asrt (nlt n 1073741824)
              (br (bnot (sendB l a b c e1 e2 e3 e4))
                (asrt (nle n 1073741824)
                  (some
                      (AV.tup
                        [AV.agg
                            [AV.own 3 n [Col.int IntKind.i64 l], AV.int IntKind.i64 a, AV.int IntKind.i64 b,
                              AV.int IntKind.i64 c],
                          AV.bool false]) =
                    some r))
                (asrt (nle (lenI (sendV l e2 e3)) 1073741824)
                  (some
                      (AV.tup
                        [AV.agg
                            [AV.own 3 (lenI (sendV l e2 e3)) [Col.int IntKind.i64 (sendV l e2 e3)],
                              AV.int IntKind.i64 a, AV.int IntKind.i64 b, AV.int IntKind.i64 c],
                          AV.bool true]) =
                    some r))))
            (br (ieq e1 3)
              (asrt (nlt n 1073741824)
                (br (bnot (sendB l a b c e1 e2 e3 e4))
                  (asrt (nle n 1073741824)
                    (some
                        (AV.tup
                          [AV.agg
                              [AV.own 3 n [Col.int IntKind.i64 l], AV.int IntKind.i64 a, AV.int IntKind.i64 b,
                                AV.int IntKind.i64 c],
                            AV.bool false]) =
                      some r))
                  (asrt (nle (lenI (sendV l e2 e3)) 1073741824)
                    (some
                        (AV.tup
                          [AV.agg
                              [AV.own 3 (lenI (sendV l e2 e3)) [Col.int IntKind.i64 (sendV l e2 e3)],
                                AV.int IntKind.i64 a, AV.int IntKind.i64 b, AV.int IntKind.i64 c],
                            AV.bool true]) =
                      some r))))
              (br (ieq e1 4)
                (asrt (nle n 1073741824)
                  (br (bnot (recvB l a b c e1 e2 e3 e4))
                    (asrt (nle n 1073741824)
                      (some
                          (AV.tup
                            [AV.agg
                                [AV.own 3 n [Col.int IntKind.i64 l], AV.int IntKind.i64 a, AV.int IntKind.i64 b,
                                  AV.int IntKind.i64 c],
                              AV.bool false]) =
                        some r))
                    (asrt (nle (lenI (recvV l e3 e4)) 1073741824)
                      (some
                          (AV.tup
                            [AV.agg
                                [AV.own 3 (lenI (recvV l e3 e4)) [Col.int IntKind.i64 (recvV l e3 e4)],
                                  AV.int IntKind.i64 a, AV.int IntKind.i64 b, AV.int IntKind.i64 c],
                              AV.bool true]) =
                        some r))))
                (br (ieq e1 5)
                  (asrt (nle n 1073741824)
                    (br (bnot (recvB l a b c e1 e2 e3 e4))
                      (asrt (nle n 1073741824)
                        (some
                            (AV.tup
                              [AV.agg
                                  [AV.own 3 n [Col.int IntKind.i64 l], AV.int IntKind.i64 a, AV.int IntKind.i64 b,
                                    AV.int IntKind.i64 c],
                                AV.bool false]) =
                          some r))
                      (asrt (nle (lenI (recvV l e3 e4)) 1073741824)
                        (some
                            (AV.tup
                              [AV.agg
                                  [AV.own 3 (lenI (recvV l e3 e4)) [Col.int IntKind.i64 (recvV l e3 e4)],
                                    AV.int IntKind.i64 a, AV.int IntKind.i64 b, AV.int IntKind.i64 c],
                                AV.bool true]) =
                          some r))))
                  (br (ieq e1 6)
                    (asrt (nle n 1073741824)
                      (br (bnot (recvB l a b c e1 e2 e3 e4))
                        (asrt (nle n 1073741824)
                          (some
                              (AV.tup
                                [AV.agg
                                    [AV.own 3 n [Col.int IntKind.i64 l], AV.int IntKind.i64 a, AV.int IntKind.i64 b,
                                      AV.int IntKind.i64 c],
                                  AV.bool false]) =
                            some r))
                        (asrt (nle (lenI (recvV l e3 e4)) 1073741824)
                          (some
                              (AV.tup
                                [AV.agg
                                    [AV.own 3 (lenI (recvV l e3 e4)) [Col.int IntKind.i64 (recvV l e3 e4)],
                                      AV.int IntKind.i64 a, AV.int IntKind.i64 b, AV.int IntKind.i64 c],
                                  AV.bool true]) =
                            some r))))
                    (asrt (nle n 1073741824)
                      (some
                          (AV.tup
                            [AV.agg
                                [AV.own 3 n [Col.int IntKind.i64 l], AV.int IntKind.i64 a, AV.int IntKind.i64 b,
                                  AV.int IntKind.i64 c],
                              AV.bool false]) =
                        some r))))))))))) := by kernel_rfl

theorem ok_do : PureOK Try.prog 16 Fdo := by
  refine tab_loops mixed (l := tabF0) ok_tabF0 true LDo (by kernel_rfl) ok_LDo fun xs b r h hb wf => ?_
  unfold Fdo at h
  split at h
  · rename_i n l a b c e0 e1 e2 e3 e4
    cases h
    try rw [some_f] at hb
    try simp only [WFL, WF, List.mem_cons, List.not_mem_nil, or_false, forall_eq, Col.len, and_true, true_and] at wf
    rw [vc_do]
    subst wf
    simp only [nlt_t] at hb
    have hr : room = 1073741824 := rfl
    rw [hr] at hb
    have b1 : l.length ≤ 1073741824 := by omega
    have g1 : (evictV l e4).length ≤ 1073741824 := by have := evictV_le l e4; omega
    have g2 : (sendV l e2 e3).length ≤ 1073741824 := by have := sendV_le l e2 e3; omega
    have g3 : (recvV l e3 e4).length ≤ 1073741824 := by have := recvV_le l e3 e4; omega
    by_cases c9 : e1 = 9
    · subst c9
      cases hB : evictB l a b c e3 e4 <;> simp [asrt_iff, br_iff, ieq_t, ieq_f, ine_t, ine_f, ilt_t, ilt_f, ile_t, ile_f, igt_t, igt_f, ige_t, ige_f, nlt_t, nlt_f, nle_t, nle_f, neq_t, neq_f, beq2_t, beq2_f, bnot_t, bnot_f, band_t, band_f, bite_t, bite_f, bimp_t, bimp_f, iadd_e, isub_e, imul_e, ofN_e, nOf_e, nAdd_e, nDiff_e, room_e, lenI_e, gI_e, gB_e, imin_e, imax_e, cat_e, pt_e, put_e, some_f, mayS, valS, modeS, hB, b1, g1]
    by_cases c7 : e1 = 7
    · subst c7
      by_cases h3 : e3 = 1 <;> simp [asrt_iff, br_iff, ieq_t, ieq_f, ine_t, ine_f, ilt_t, ilt_f, ile_t, ile_f, igt_t, igt_f, ige_t, ige_f, nlt_t, nlt_f, nle_t, nle_f, neq_t, neq_f, beq2_t, beq2_f, bnot_t, bnot_f, band_t, band_f, bite_t, bite_f, bimp_t, bimp_f, iadd_e, isub_e, imul_e, ofN_e, nOf_e, nAdd_e, nDiff_e, room_e, lenI_e, gI_e, gB_e, imin_e, imax_e, cat_e, pt_e, put_e, some_f, mayS, valS, modeS, h3, b1, drainM, ieq]
    by_cases c8 : e1 = 8
    · subst c8
      by_cases h3 : e3 = 1 <;> simp [asrt_iff, br_iff, ieq_t, ieq_f, ine_t, ine_f, ilt_t, ilt_f, ile_t, ile_f, igt_t, igt_f, ige_t, ige_f, nlt_t, nlt_f, nle_t, nle_f, neq_t, neq_f, beq2_t, beq2_f, bnot_t, bnot_f, band_t, band_f, bite_t, bite_f, bimp_t, bimp_f, iadd_e, isub_e, imul_e, ofN_e, nOf_e, nAdd_e, nDiff_e, room_e, lenI_e, gI_e, gB_e, imin_e, imax_e, cat_e, pt_e, put_e, some_f, mayS, valS, modeS, h3, b1, ieq]
    by_cases c1 : e1 = 1
    · subst c1
      cases hB : sendB l a b c 1 e2 e3 e4 <;> simp [asrt_iff, br_iff, ieq_t, ieq_f, ine_t, ine_f, ilt_t, ilt_f, ile_t, ile_f, igt_t, igt_f, ige_t, ige_f, nlt_t, nlt_f, nle_t, nle_f, neq_t, neq_f, beq2_t, beq2_f, bnot_t, bnot_f, band_t, band_f, bite_t, bite_f, bimp_t, bimp_f, iadd_e, isub_e, imul_e, ofN_e, nOf_e, nAdd_e, nDiff_e, room_e, lenI_e, gI_e, gB_e, imin_e, imax_e, cat_e, pt_e, put_e, some_f, mayS, valS, modeS, hB, b1, g2, hb]
    by_cases c2 : e1 = 2
    · subst c2
      cases hB : sendB l a b c 2 e2 e3 e4 <;> simp [asrt_iff, br_iff, ieq_t, ieq_f, ine_t, ine_f, ilt_t, ilt_f, ile_t, ile_f, igt_t, igt_f, ige_t, ige_f, nlt_t, nlt_f, nle_t, nle_f, neq_t, neq_f, beq2_t, beq2_f, bnot_t, bnot_f, band_t, band_f, bite_t, bite_f, bimp_t, bimp_f, iadd_e, isub_e, imul_e, ofN_e, nOf_e, nAdd_e, nDiff_e, room_e, lenI_e, gI_e, gB_e, imin_e, imax_e, cat_e, pt_e, put_e, some_f, mayS, valS, modeS, hB, b1, g2, hb]
    by_cases c3 : e1 = 3
    · subst c3
      cases hB : sendB l a b c 3 e2 e3 e4 <;> simp [asrt_iff, br_iff, ieq_t, ieq_f, ine_t, ine_f, ilt_t, ilt_f, ile_t, ile_f, igt_t, igt_f, ige_t, ige_f, nlt_t, nlt_f, nle_t, nle_f, neq_t, neq_f, beq2_t, beq2_f, bnot_t, bnot_f, band_t, band_f, bite_t, bite_f, bimp_t, bimp_f, iadd_e, isub_e, imul_e, ofN_e, nOf_e, nAdd_e, nDiff_e, room_e, lenI_e, gI_e, gB_e, imin_e, imax_e, cat_e, pt_e, put_e, some_f, mayS, valS, modeS, hB, b1, g2, hb]
    by_cases c4 : e1 = 4
    · subst c4
      cases hB : recvB l a b c 4 e2 e3 e4 <;> simp [asrt_iff, br_iff, ieq_t, ieq_f, ine_t, ine_f, ilt_t, ilt_f, ile_t, ile_f, igt_t, igt_f, ige_t, ige_f, nlt_t, nlt_f, nle_t, nle_f, neq_t, neq_f, beq2_t, beq2_f, bnot_t, bnot_f, band_t, band_f, bite_t, bite_f, bimp_t, bimp_f, iadd_e, isub_e, imul_e, ofN_e, nOf_e, nAdd_e, nDiff_e, room_e, lenI_e, gI_e, gB_e, imin_e, imax_e, cat_e, pt_e, put_e, some_f, mayS, valS, modeS, hB, b1, g3, hb]
    by_cases c5 : e1 = 5
    · subst c5
      cases hB : recvB l a b c 5 e2 e3 e4 <;> simp [asrt_iff, br_iff, ieq_t, ieq_f, ine_t, ine_f, ilt_t, ilt_f, ile_t, ile_f, igt_t, igt_f, ige_t, ige_f, nlt_t, nlt_f, nle_t, nle_f, neq_t, neq_f, beq2_t, beq2_f, bnot_t, bnot_f, band_t, band_f, bite_t, bite_f, bimp_t, bimp_f, iadd_e, isub_e, imul_e, ofN_e, nOf_e, nAdd_e, nDiff_e, room_e, lenI_e, gI_e, gB_e, imin_e, imax_e, cat_e, pt_e, put_e, some_f, mayS, valS, modeS, hB, b1, g3, hb]
    by_cases c6 : e1 = 6
    · subst c6
      cases hB : recvB l a b c 6 e2 e3 e4 <;> simp [asrt_iff, br_iff, ieq_t, ieq_f, ine_t, ine_f, ilt_t, ilt_f, ile_t, ile_f, igt_t, igt_f, ige_t, ige_f, nlt_t, nlt_f, nle_t, nle_f, neq_t, neq_f, beq2_t, beq2_f, bnot_t, bnot_f, band_t, band_f, bite_t, bite_f, bimp_t, bimp_f, iadd_e, isub_e, imul_e, ofN_e, nOf_e, nAdd_e, nDiff_e, room_e, lenI_e, gI_e, gB_e, imin_e, imax_e, cat_e, pt_e, put_e, some_f, mayS, valS, modeS, hB, b1, g3, hb]
    have k1 : ¬ (1 ≤ e1 ∧ e1 ≤ 3) := by omega
    have k2 : ¬ (4 ≤ e1 ∧ e1 ≤ 6) := by omega
    have hm : mayS l a b c e1 e2 e3 e4 = false := by
      unfold mayS
      rw [if_neg c9, if_neg c7, if_neg c8, if_neg k1, if_neg k2]
    simp [asrt_iff, br_iff, ieq_t, ieq_f, ine_t, ine_f, ilt_t, ilt_f, ile_t, ile_f, igt_t, igt_f, ige_t, ige_f, nlt_t, nlt_f, nle_t, nle_f, neq_t, neq_f, beq2_t, beq2_f, bnot_t, bnot_f, band_t, band_f, bite_t, bite_f, bimp_t, bimp_f, iadd_e, isub_e, imul_e, ofN_e, nOf_e, nAdd_e, nDiff_e, room_e, lenI_e, gI_e, gB_e, imin_e, imax_e, cat_e, pt_e, put_e, some_f, valS, modeS, hm, c9, c7, c8, c1, c2, c3, c4, c5, c6, b1]
  · cases h


end Go.Own
