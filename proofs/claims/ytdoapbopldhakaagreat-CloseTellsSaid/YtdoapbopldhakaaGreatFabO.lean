/- A state in memory of its own; whether one may be. -/
import Derived.Test.YtdoapbopldhakaaGreatFabS
namespace Go.Own
open Go Go.Proofs
set_option maxRecDepth 100000
set_option linter.unusedVariables false
set_option linter.unusedSimpArgs false

def Ffown : Pure1 := fun
  | [a_s] => (match asSR a_s with | some s => some (some (SR.wid s), SR.new s) | none => none)
  | _ => none

theorem vc_fown (s : SR) (r : AV) : VC Tryz.prog (tabS tabK1) noL true 40 [s.av] r = (
  asrt (nle s.11 8796093022208)
    (asrt (nle s.14 17592186044416)
      (asrt (nle s.16 17592186044416)
        (asrt (nle s.19 17592186044416)
          (asrt (nle s.22 17592186044416)
            (asrt (nle s.25 1599289640401)
              (asrt (nle s.37 3518437208883)
                (some
                    (AV.agg
                      [AV.int IntKind.i64 s.1, AV.int IntKind.i64 s.2, AV.int IntKind.i64 s.3, AV.int IntKind.i64 s.4,
                        AV.int IntKind.i64 s.5, AV.int IntKind.i64 s.6, AV.bool s.7, AV.int IntKind.i64 s.8,
                        AV.int IntKind.i64 s.9, AV.int IntKind.i64 s.10,
                        AV.own 87 s.11 [Col.int IntKind.i64 s.12, Col.int IntKind.i64 s.13],
                        AV.own 3 s.14 [Col.int IntKind.i64 s.15], AV.own 3 s.16 [Col.int IntKind.i64 s.17],
                        AV.int IntKind.i64 s.18, AV.own 3 s.19 [Col.int IntKind.i64 s.20], AV.int IntKind.i64 s.21,
                        AV.own 3 s.22 [Col.int IntKind.i64 s.23], AV.int IntKind.i64 s.24,
                        AV.own 49 s.25
                          [Col.int IntKind.i64 s.26, Col.int IntKind.i64 s.27, Col.int IntKind.i64 s.28,
                            Col.int IntKind.i64 s.29, Col.int IntKind.i64 s.30, Col.int IntKind.i64 s.31,
                            Col.int IntKind.i64 s.32, Col.int IntKind.i64 s.33, Col.bool s.34, Col.int IntKind.i64 s.35,
                            Col.int IntKind.i64 s.36],
                        AV.own 51 s.37
                          [Col.int IntKind.i64 s.38, Col.int IntKind.i64 s.39, Col.int IntKind.i64 s.40,
                            Col.int IntKind.i64 s.41, Col.int IntKind.i64 s.42]]) =
                  some r)))))))) := by kernel_rfl

theorem ok_fown : PureOK Tryz.prog 40 Ffown := by
  refine tab_plain mixed (l := tabK1) ok_tabK1 true (by kernel_rfl) fun xs b r h hb wf => ?_
  unfold Ffown at h
  split at h
  · rename_i a_s
    split at h
    · rename_i s h_s
      obtain rfl := asSR_some h_s
      cases h
      try rw [some_f] at hb
      simp only [WFL, WF, List.mem_cons, List.not_mem_nil, or_false, forall_eq_or_imp, forall_eq, Col.len, and_true, true_and, wf_av] at wf
      rw [vc_fown]
      simp [SR.wid, wideB] at hb
      simp only [asrt_iff, nle_t]
      refine ⟨by omega, by omega, by omega, by omega, by omega, by omega, by omega, rfl⟩
    · cases h
  · cases h


def tabK2 : List (FuncId × Pure1) := [(40, Ffown), (65, Famong)] ++ tabK1

theorem ok_tabK2 : ∀ p ∈ tabK2, PureOK Tryz.prog p.1 p.2 := by
  intro p hp
  simp only [tabK2, List.mem_append, List.mem_cons, List.not_mem_nil, or_false] at hp
  rcases hp with (rfl | rfl) | hp
  · exact ok_fown
  · exact ok_among
  · exact ok_tabK1 p hp


def Fchk : Pure1 := fun
  | [a_s] => (match asSR a_s with | some s => some (some (SR.fitW s), .bool (SR.ok s)) | none => none)
  | _ => none

theorem vc_chk (s : SR) (r : AV) : VC Tryz.prog (tabS tabK2) noL false 38 [s.av] r = (
  br (ieq (roomOf s.1 s.2 s.3 s.4 s.5 s.6) 0) (some (AV.bool false) = some r)
    (asrt (in64 s.8 s.9)
      (br (bnot (wordOk s.8 s.9 s.10 (roomOf s.1 s.2 s.3 s.4 s.5 s.6))) (some (AV.bool false) = some r)
        (br (ine (ofN s.11) (roomOf s.1 s.2 s.3 s.4 s.5 s.6)) (some (AV.bool false) = some r)
          (asrt (nle s.11 big)
            (br (bnot (slotsOk s.11 s.12)) (some (AV.bool false) = some r)
              (asrt (band (fewL [s.15, s.17, s.20, s.23]) true)
                (br (bnot (amOk s.2 [s.15, s.17, s.20, s.23])) (some (AV.bool false) = some r)
                  (asrt (nle s.19 big)
                    (br (bnot (evOk s.18 s.20)) (some (AV.bool false) = some r)
                      (asrt (nle s.22 big)
                        (br (bnot (evOk s.21 s.23)) (some (AV.bool false) = some r)
                          (br (ilt s.24 0) (some (AV.bool false) = some r)
                            (br (igt s.24 1099511627776) (some (AV.bool false) = some r)
                              (br (ine (ofN s.25) s.2) (some (AV.bool false) = some r)
                                (asrt (nle s.25 big)
                                  (br (ige (badThAt s.25 s.26 s.27 s.29 s.30 s.31 s.32 s.33 s.34 s.35 0) 0)
                                    (some (AV.bool false) = some r) (some (AV.bool true) = some r)))))))))))))))))) := by kernel_rfl

theorem ok_chk : PureOK Tryz.prog 38 Fchk := by
  refine tab_plain mixed (l := tabK2) ok_tabK2 false (by kernel_rfl) fun xs b r h hb wf => ?_
  unfold Fchk at h
  split at h
  · rename_i a_s
    split at h
    · rename_i s h_s
      obtain rfl := asSR_some h_s
      cases h
      try rw [some_f] at hb
      simp only [WFL, WF, List.mem_cons, List.not_mem_nil, or_false, forall_eq_or_imp, forall_eq, Col.len, and_true, true_and, wf_av] at wf
      rw [vc_chk]
      simp [SR.fitW, wideB] at hb
      obtain ⟨h64, hb⟩ := hb
      have q : ∀ n, n ≤ 17592186044416 → n ≤ big := fun n h => le_bigW h
      have q1 : s.nt ≤ 17592186044416 := by omega
      have q2 : s.ns ≤ 17592186044416 := by omega
      have w1 := wf.l1
      have w2 := wf.l2
      have w3 := wf.l3
      have w4 := wf.l4
      simp [asrt_iff, br_iff, ieq_t, ieq_f, ine_t, ine_f, ilt_t, ilt_f, ile_t, ile_f, igt_t, igt_f, ige_t, ige_f, nlt_t, nlt_f, nle_t, nle_f, neq_t, neq_f, beq2_t, beq2_f, bnot_t, bnot_f, band_t, band_f, bite_t, bite_f, bimp_t, bimp_f, iadd_e, isub_e, imul_e, ofN_e, nOf_e, nAdd_e, nDiff_e, room_e, lenI_e, gI_e, gB_e, imin_e, imax_e, cat_e, pt_e, put_e, some_f, h64, fewL, w1, w2, w3, w4, hb, q, q1, q2]
      unfold SR.ok stOk
      refine ⟨fun h1 => by simp [h1], fun h1 => ⟨fun h2 => by simp [h2], fun h2 => ⟨fun h3 => by simp [h3], fun h3 => ⟨fun h4 => by simp [h4], fun h4 => ⟨fun h5 => by simp [h5], fun h5 => ⟨fun h6 => by simp [h6], fun h6 => ⟨fun h7 => by simp [h7], fun h7 => ?_⟩⟩⟩⟩⟩⟩⟩
      refine ⟨fun a1 => ?_, fun a1 => ⟨fun a2 => ?_, fun a2 => ⟨fun a3 => ?_, fun a3 => ⟨fun a4 => ?_, fun a4 => ?_⟩⟩⟩⟩
      · have : ¬ (0 ≤ s.now) := by omega
        simp [this]
      · have : ¬ (s.now ≤ 1099511627776) := by omega
        simp [this]
      · simp [a3]
      · rw [decide_eq_false (show ¬ badThAt s.nt s.st s.kd s.un s.pc s.rg s.sn s.tr s.lt s.rs 0 < 0 by omega), Bool.and_false]
      · simp [h1, h2, h3, h4, h5, h6, h7, a1, a2, a3, a4]
    · cases h
  · cases h


end Go.Own
