/- A step of who closes. -/
import Derived.Test.YtdoapbopldhakaaGreatCloA
namespace Go.Own
open Go Go.Proofs
set_option maxRecDepth 100000
set_option linter.unusedVariables false
set_option linter.unusedSimpArgs false

def cmode (k : Int) : Int := if k = 7 then 1 else if k = 8 then 2 else 0

def SR.closer (s : SR) (id : Int) : Bool := s.is id && decide (thRuns (s.st.getD id.toNat 0) = 0 ∧ opSide (s.kd.getD id.toNat 0) = 3)

def SR.shut (s : SR) (id : Int) : SR :=
  let t := SR.tell { s with md := closeM s.md (cmode (s.kd.getD id.toNat 0)) } id (s.kd.getD id.toNat 0) 1 0
  { t with pc := t.pc.set id.toNat 1 }

def SR.bell (s : SR) : SR := SR.wakes { s with fe := comeE s.fe s.l3, n3 := (allL s.fe s.l3).length, l3 := allL s.fe s.l3 } (allO s.fe s.l3) 0

def SR.bell2 (s : SR) : SR := SR.wakes { s with ee := comeE s.ee s.l4, n4 := (allL s.ee s.l4).length, l4 := allL s.ee s.l4 } (allO s.ee s.l4) 0

def SR.done (t : SR) (id : Int) : SR :=
  let e := thRuns (t.st.getD id.toNat 0)
  { t with st := t.st.set id.toNat (invI e 0 (t.st.getD id.toNat 0)), pc := t.pc.set id.toNat (invI e 0 (t.pc.getD id.toNat 0)), rg := t.rg.set id.toNat (invI e 0 (t.rg.getD id.toNat 0)), sn := t.sn.set id.toNat (invI e 0 (t.sn.getD id.toNat 0)), tr := t.tr.set id.toNat (invI e 0 (t.tr.getD id.toNat 0)), lt := t.lt.set id.toNat (invB e (t.lt.getD id.toNat false)) }

def SR.step (s : SR) (id : Int) : SR :=
  if s.closer id then
    if s.pc.getD id.toNat 0 = 0 then s.shut id
    else if s.pc.getD id.toNat 0 = 1 then { s.bell with pc := s.bell.pc.set id.toNat 2 }
    else s.bell2.done id
  else s


def Fcmode : Pure1 := fun
  | [.int .i64 k] => some (none, .int .i64 (cmode k))
  | _ => none

theorem vc_cmode (k : Int) (r : AV) : VC Tryz.prog (tabS tab0) noL false 12 [.int .i64 k] r = (
  br (ieq k 7) (some (AV.int IntKind.i64 1) = some r)
    (br (ieq k 8) (some (AV.int IntKind.i64 2) = some r) (some (AV.int IntKind.i64 0) = some r))) := by kernel_rfl

theorem ok_cmode : PureOK Tryz.prog 12 Fcmode := by
  refine tab_plain mixed (l := tab0) ok_tab0 false (by kernel_rfl) fun xs b r h hb wf => ?_
  unfold Fcmode at h
  split at h
  · rename_i k
    cases h
    try rw [some_f] at hb
    try simp only [WFL, WF, List.mem_cons, List.not_mem_nil, or_false, forall_eq_or_imp, forall_eq, Col.len, and_true, true_and] at wf
    rw [vc_cmode]
    simp [asrt_iff, br_iff, ieq_t, ieq_f, ine_t, ine_f, ilt_t, ilt_f, ile_t, ile_f, igt_t, igt_f, ige_t, ige_f, nlt_t, nlt_f, nle_t, nle_f, neq_t, neq_f, beq2_t, beq2_f, bnot_t, bnot_f, band_t, band_f, bite_t, bite_f, bimp_t, bimp_f, iadd_e, isub_e, imul_e, ofN_e, nOf_e, nAdd_e, nDiff_e, room_e, lenI_e, gI_e, gB_e, imin_e, imax_e, cat_e, pt_e, put_e, some_f, SR.fitW_fit, SR.wid_fit, cmode]
    try grind
  · cases h


def FthDone : Pure1 := fun
  | [.agg [.int .i64 st, .int .i64 kd, .int .i64 vl, .int .i64 un, .int .i64 pc, .int .i64 rg, .int .i64 sn, .int .i64 tr, .bool lt, .int .i64 rs, .int .i64 gt]] => some (none, .tup [.agg [.int .i64 (invI (thRuns st) 0 st), .int .i64 kd, .int .i64 vl, .int .i64 un, .int .i64 (invI (thRuns st) 0 pc), .int .i64 (invI (thRuns st) 0 rg), .int .i64 (invI (thRuns st) 0 sn), .int .i64 (invI (thRuns st) 0 tr), .bool (invB (thRuns st) lt), .int .i64 rs, .int .i64 gt], .int .i64 (thRuns st)])
  | _ => none

theorem vc_thDone (st kd vl un pc rg sn tr : Int) (lt : Bool) (rs gt : Int) (r : AV) : VC Tryz.prog (tabS tabT3) noL false 27 [.agg [.int .i64 st, .int .i64 kd, .int .i64 vl, .int .i64 un, .int .i64 pc, .int .i64 rg, .int .i64 sn, .int .i64 tr, .bool lt, .int .i64 rs, .int .i64 gt]] r = (
  br (ieq st 0)
    (some
        (AV.tup
          [AV.agg
              [AV.int IntKind.i64 st, AV.int IntKind.i64 kd, AV.int IntKind.i64 vl, AV.int IntKind.i64 un,
                AV.int IntKind.i64 pc, AV.int IntKind.i64 rg, AV.int IntKind.i64 sn, AV.int IntKind.i64 tr, AV.bool lt,
                AV.int IntKind.i64 rs, AV.int IntKind.i64 gt],
            AV.int IntKind.i64 121]) =
      some r)
    (br (ieq st 2)
      (some
          (AV.tup
            [AV.agg
                [AV.int IntKind.i64 st, AV.int IntKind.i64 kd, AV.int IntKind.i64 vl, AV.int IntKind.i64 un,
                  AV.int IntKind.i64 pc, AV.int IntKind.i64 rg, AV.int IntKind.i64 sn, AV.int IntKind.i64 tr,
                  AV.bool lt, AV.int IntKind.i64 rs, AV.int IntKind.i64 gt],
              AV.int IntKind.i64 122]) =
        some r)
      (some
          (AV.tup
            [AV.agg
                [AV.int IntKind.i64 0, AV.int IntKind.i64 kd, AV.int IntKind.i64 vl, AV.int IntKind.i64 un,
                  AV.int IntKind.i64 0, AV.int IntKind.i64 0, AV.int IntKind.i64 0, AV.int IntKind.i64 0, AV.bool false,
                  AV.int IntKind.i64 rs, AV.int IntKind.i64 gt],
              AV.int IntKind.i64 0]) =
        some r))) := by kernel_rfl

theorem ok_thDone : PureOK Tryz.prog 27 FthDone := by
  refine tab_plain mixed (l := tabT3) ok_tabT3 false (by kernel_rfl) fun xs b r h hb wf => ?_
  unfold FthDone at h
  split at h
  · rename_i st kd vl un pc rg sn tr lt rs gt
    cases h
    try rw [some_f] at hb
    try simp only [WFL, WF, List.mem_cons, List.not_mem_nil, or_false, forall_eq_or_imp, forall_eq, Col.len, and_true, true_and] at wf
    rw [vc_thDone]
    by_cases c1 : st = 0 <;> by_cases c2 : st = 2 <;> simp [asrt_iff, br_iff, ieq_t, ieq_f, ine_t, ine_f, ilt_t, ilt_f, ile_t, ile_f, igt_t, igt_f, ige_t, ige_f, nlt_t, nlt_f, nle_t, nle_f, neq_t, neq_f, beq2_t, beq2_f, bnot_t, bnot_f, band_t, band_f, bite_t, bite_f, bimp_t, bimp_f, iadd_e, isub_e, imul_e, ofN_e, nOf_e, nAdd_e, nDiff_e, room_e, lenI_e, gI_e, gB_e, imin_e, imax_e, cat_e, pt_e, put_e, some_f, SR.fitW_fit, SR.wid_fit, invI, invB, thRuns, c1, c2]
  · cases h


theorem setI_any (l : List Int) (i : Nat) : l.set i (l[i]?.getD 0) = l := by
  by_cases h : i < l.length
  · exact setI_self l i h
  · exact List.set_eq_of_length_le (by omega)

theorem SR.wake_neg (s : SR) : s.wake (-1) = s := by
  unfold SR.wake SR.is
  rw [if_neg (by simp)]

theorem SR.tell_nt (s : SR) (a b c d : Int) : (s.tell a b c d).nt = s.nt := by
  unfold SR.tell
  split <;> rfl

theorem SR.wake_nt (s : SR) (x : Int) : (s.wake x).nt = s.nt := by
  unfold SR.wake
  split <;> rfl

theorem SR.wakes_nt (l : List Int) (i : Nat) (s : SR) : (s.wakes l i).nt = s.nt := by
  unfold SR.wakes
  generalize l.drop i = m
  induction m generalizing s with
  | nil => rfl
  | cons x m ih => rw [List.foldl_cons, ih, SR.wake_nt]

theorem allL_len (e : Int) (l : List Int) : (allL e l).length ≤ l.length := by
  unfold allL
  split <;> simp

theorem allO_len (e : Int) (l : List Int) : (allO e l).length ≤ l.length := by
  unfold allO
  split <;> simp

theorem SR.fit_iff (s : SR) : s.fit = true ↔ in64 s.hd s.tl = true ∧ (s.ns ≤ 1000000 ∧ s.n1 ≤ 1000000 ∧ s.n2 ≤ 1000000 ∧ s.n3 ≤ 1000000 ∧ s.n4 ≤ 1000000 ∧ s.nt ≤ 1000000 ∧ s.nl ≤ 1000000) := by
  simp [SR.fit, fewB]

def tabClo1 : List (FuncId × Pure1) := [(47, FthRuns), (48, Fside)] ++ tabC0

theorem ok_tabClo1 : ∀ p ∈ tabClo1, PureOK Tryz.prog p.1 p.2 := by
  intro p hp
  simp only [tabClo1, List.mem_append, List.mem_cons, List.not_mem_nil, or_false] at hp
  rcases hp with (rfl | rfl) | hp
  · exact ok_thRuns
  · exact ok_side
  · exact ok_tabC0 p hp


def Fcloser : Pure1 := fun
  | [a_s, .int .i64 id] => (match asSR a_s with | some s => some (some (SR.fit s), .bool (SR.closer s id)) | none => none)
  | _ => none

theorem vc_closer (s : SR) (id : Int) (r : AV) : VC Tryz.prog (tabS tabClo1) noL false 17 [s.av, .int .i64 id] r = (
  asrt s.fitW
    (asrt (bimp (bite (bite s.ok (ige id 0) false) (ilt id (ofN s.25)) false) (band (ile 0 id) (ilt id (ofN s.25))))
      (br (bite (bite s.ok (ige id 0) false) (ilt id (ofN s.25)) false)
        (some (AV.bool (bite (ieq (thRuns (gI s.26 (nOf id))) 0) (ieq (opSide (gI s.27 (nOf id))) 3) false)) = some r)
        (some (AV.bool false) = some r)))) := by kernel_rfl

theorem ok_closer : PureOK Tryz.prog 17 Fcloser := by
  refine tab_plain mixed (l := tabClo1) ok_tabClo1 false (by kernel_rfl) fun xs b r h hb wf => ?_
  unfold Fcloser at h
  split at h
  · rename_i a_s id
    split at h
    · rename_i s h_s
      obtain rfl := asSR_some h_s
      cases h
      try rw [some_f] at hb
      simp only [WFL, WF, List.mem_cons, List.not_mem_nil, or_false, forall_eq_or_imp, forall_eq, Col.len, and_true, true_and, wf_av] at wf
      rw [vc_closer]
      simp only [bite_and, bite_or]
      by_cases c1 : s.ok = true
      · by_cases c2 : 0 ≤ id
        · by_cases c3 : id < s.nt
          · simp [asrt_iff, br_iff, ieq_t, ieq_f, ine_t, ine_f, ilt_t, ilt_f, ile_t, ile_f, igt_t, igt_f, ige_t, ige_f, nlt_t, nlt_f, nle_t, nle_f, neq_t, neq_f, beq2_t, beq2_f, bnot_t, bnot_f, band_t, band_f, bite_t, bite_f, bimp_t, bimp_f, iadd_e, isub_e, imul_e, ofN_e, nOf_e, nAdd_e, nDiff_e, room_e, lenI_e, gI_e, gB_e, imin_e, imax_e, cat_e, pt_e, put_e, some_f, SR.fitW_fit, SR.wid_fit, hb, c1, c2, c3, SR.closer, SR.is]
            refine ⟨?_, fun hx => absurd hx (by omega)⟩
            rw [Bool.eq_iff_iff]
            simp [asrt_iff, br_iff, ieq_t, ieq_f, ine_t, ine_f, ilt_t, ilt_f, ile_t, ile_f, igt_t, igt_f, ige_t, ige_f, nlt_t, nlt_f, nle_t, nle_f, neq_t, neq_f, beq2_t, beq2_f, bnot_t, bnot_f, band_t, band_f, bite_t, bite_f, bimp_t, bimp_f, iadd_e, isub_e, imul_e, ofN_e, nOf_e, nAdd_e, nDiff_e, room_e, lenI_e, gI_e, gB_e, imin_e, imax_e, cat_e, pt_e, put_e, some_f, SR.fitW_fit, SR.wid_fit]
          · simp [asrt_iff, br_iff, ieq_t, ieq_f, ine_t, ine_f, ilt_t, ilt_f, ile_t, ile_f, igt_t, igt_f, ige_t, ige_f, nlt_t, nlt_f, nle_t, nle_f, neq_t, neq_f, beq2_t, beq2_f, bnot_t, bnot_f, band_t, band_f, bite_t, bite_f, bimp_t, bimp_f, iadd_e, isub_e, imul_e, ofN_e, nOf_e, nAdd_e, nDiff_e, room_e, lenI_e, gI_e, gB_e, imin_e, imax_e, cat_e, pt_e, put_e, some_f, SR.fitW_fit, SR.wid_fit, hb, c1, c2, c3, SR.closer, SR.is]
        · have c3 : id < s.nt := by omega
          simp [asrt_iff, br_iff, ieq_t, ieq_f, ine_t, ine_f, ilt_t, ilt_f, ile_t, ile_f, igt_t, igt_f, ige_t, ige_f, nlt_t, nlt_f, nle_t, nle_f, neq_t, neq_f, beq2_t, beq2_f, bnot_t, bnot_f, band_t, band_f, bite_t, bite_f, bimp_t, bimp_f, iadd_e, isub_e, imul_e, ofN_e, nOf_e, nAdd_e, nDiff_e, room_e, lenI_e, gI_e, gB_e, imin_e, imax_e, cat_e, pt_e, put_e, some_f, SR.fitW_fit, SR.wid_fit, hb, c1, c2, c3, SR.closer, SR.is]
      · simp [asrt_iff, br_iff, ieq_t, ieq_f, ine_t, ine_f, ilt_t, ilt_f, ile_t, ile_f, igt_t, igt_f, ige_t, ige_f, nlt_t, nlt_f, nle_t, nle_f, neq_t, neq_f, beq2_t, beq2_f, bnot_t, bnot_f, band_t, band_f, bite_t, bite_f, bimp_t, bimp_f, iadd_e, isub_e, imul_e, ofN_e, nOf_e, nAdd_e, nDiff_e, room_e, lenI_e, gI_e, gB_e, imin_e, imax_e, cat_e, pt_e, put_e, some_f, SR.fitW_fit, SR.wid_fit, hb, c1, SR.closer, SR.is]
    · cases h
  · cases h


def tabClo2 : List (FuncId × Pure1) := [(17, Fcloser), (12, Fcmode), (27, FthDone), (51, Fwclose), (52, Fftell)] ++ tabClo1

theorem ok_tabClo2 : ∀ p ∈ tabClo2, PureOK Tryz.prog p.1 p.2 := by
  intro p hp
  simp only [tabClo2, List.mem_append, List.mem_cons, List.not_mem_nil, or_false] at hp
  rcases hp with (rfl | rfl | rfl | rfl | rfl) | hp
  · exact ok_closer
  · exact ok_cmode
  · exact ok_thDone
  · exact ok_wclose
  · exact ok_ftell
  · exact ok_tabClo1 p hp


def Fstep : Pure1 := fun
  | [a_s, .int .i64 id] => (match asSR a_s with | some s => some (some (SR.fit s), SR.new (SR.step s id)) | none => none)
  | _ => none

theorem vc_step (s : SR) (id : Int) (r : AV) : VC Tryz.prog (tabS tabClo2) (oneL 26 Lwake) true 10 [s.av, .int .i64 id] r = (
  asrt s.fit
    (asrt s.fit
      (br (bnot (s.closer id))
        (some
            (AV.agg
              [AV.int IntKind.i64 (s.wake (-1)).1, AV.int IntKind.i64 (s.wake (-1)).2,
                AV.int IntKind.i64 (s.wake (-1)).3, AV.int IntKind.i64 (s.wake (-1)).4,
                AV.int IntKind.i64 (s.wake (-1)).5, AV.int IntKind.i64 (s.wake (-1)).6, AV.bool (s.wake (-1)).7,
                AV.int IntKind.i64 (s.wake (-1)).8, AV.int IntKind.i64 (s.wake (-1)).9,
                AV.int IntKind.i64 (s.wake (-1)).10,
                AV.own 87 (s.wake (-1)).11 [Col.int IntKind.i64 (s.wake (-1)).12, Col.int IntKind.i64 (s.wake (-1)).13],
                AV.own 3 (s.wake (-1)).14 [Col.int IntKind.i64 (s.wake (-1)).15],
                AV.own 3 (s.wake (-1)).16 [Col.int IntKind.i64 (s.wake (-1)).17], AV.int IntKind.i64 (s.wake (-1)).18,
                AV.own 3 (s.wake (-1)).19 [Col.int IntKind.i64 (s.wake (-1)).20], AV.int IntKind.i64 (s.wake (-1)).21,
                AV.own 3 (s.wake (-1)).22 [Col.int IntKind.i64 (s.wake (-1)).23], AV.int IntKind.i64 (s.wake (-1)).24,
                AV.own 49 (s.wake (-1)).25
                  [Col.int IntKind.i64 (s.wake (-1)).26, Col.int IntKind.i64 (s.wake (-1)).27,
                    Col.int IntKind.i64 (s.wake (-1)).28, Col.int IntKind.i64 (s.wake (-1)).29,
                    Col.int IntKind.i64 (s.wake (-1)).30, Col.int IntKind.i64 (s.wake (-1)).31,
                    Col.int IntKind.i64 (s.wake (-1)).32, Col.int IntKind.i64 (s.wake (-1)).33,
                    Col.bool (s.wake (-1)).34, Col.int IntKind.i64 (s.wake (-1)).35,
                    Col.int IntKind.i64 (s.wake (-1)).36],
                AV.own 51 (s.wake (-1)).37
                  [Col.int IntKind.i64 (s.wake (-1)).38, Col.int IntKind.i64 (s.wake (-1)).39,
                    Col.int IntKind.i64 (s.wake (-1)).40, Col.int IntKind.i64 (s.wake (-1)).41,
                    Col.int IntKind.i64 (s.wake (-1)).42]]) =
          some r)
        (asrt (band (ile 0 id) (ilt id (ofN (s.wake (-1)).25)))
          (asrt (nlt (nOf id) (s.wake (-1)).25)
            (br (ieq (gI (s.wake (-1)).30 (nOf id)) 0)
              (asrt (band (ile 0 id) (ilt id (ofN (s.wake (-1)).25)))
                (asrt (nlt (nOf id) (s.wake (-1)).25)
                  (asrt
                    { (s.wake (-1)) with md := closeM (s.wake (-1)).10 (cmode (gI (s.wake (-1)).27 (nOf id))) }.fit
                    (asrt
                      (band (ile 0 id)
                        (ilt id
                          (ofN
                            ({ (s.wake (-1)) with md := closeM (s.wake (-1)).10 (cmode (gI (s.wake (-1)).27 (nOf id))) }.tell
                                id (gI (s.wake (-1)).27 (nOf id)) 1 0).25)))
                      (asrt
                        (nlt (nOf id)
                          ({ (s.wake (-1)) with md := closeM (s.wake (-1)).10 (cmode (gI (s.wake (-1)).27 (nOf id))) }.tell
                              id (gI (s.wake (-1)).27 (nOf id)) 1 0).25)
                        (some
                            (AV.agg
                              [AV.int IntKind.i64
                                  ({ (s.wake (-1)) with md := closeM (s.wake (-1)).10 (cmode (gI (s.wake (-1)).27 (nOf id))) }.tell
                                      id (gI (s.wake (-1)).27 (nOf id)) 1 0).1,
                                AV.int IntKind.i64
                                  ({ (s.wake (-1)) with md := closeM (s.wake (-1)).10 (cmode (gI (s.wake (-1)).27 (nOf id))) }.tell
                                      id (gI (s.wake (-1)).27 (nOf id)) 1 0).2,
                                AV.int IntKind.i64
                                  ({ (s.wake (-1)) with md := closeM (s.wake (-1)).10 (cmode (gI (s.wake (-1)).27 (nOf id))) }.tell
                                      id (gI (s.wake (-1)).27 (nOf id)) 1 0).3,
                                AV.int IntKind.i64
                                  ({ (s.wake (-1)) with md := closeM (s.wake (-1)).10 (cmode (gI (s.wake (-1)).27 (nOf id))) }.tell
                                      id (gI (s.wake (-1)).27 (nOf id)) 1 0).4,
                                AV.int IntKind.i64
                                  ({ (s.wake (-1)) with md := closeM (s.wake (-1)).10 (cmode (gI (s.wake (-1)).27 (nOf id))) }.tell
                                      id (gI (s.wake (-1)).27 (nOf id)) 1 0).5,
                                AV.int IntKind.i64
                                  ({ (s.wake (-1)) with md := closeM (s.wake (-1)).10 (cmode (gI (s.wake (-1)).27 (nOf id))) }.tell
                                      id (gI (s.wake (-1)).27 (nOf id)) 1 0).6,
                                AV.bool
                                  ({ (s.wake (-1)) with md := closeM (s.wake (-1)).10 (cmode (gI (s.wake (-1)).27 (nOf id))) }.tell
                                      id (gI (s.wake (-1)).27 (nOf id)) 1 0).7,
                                AV.int IntKind.i64
                                  ({ (s.wake (-1)) with md := closeM (s.wake (-1)).10 (cmode (gI (s.wake (-1)).27 (nOf id))) }.tell
                                      id (gI (s.wake (-1)).27 (nOf id)) 1 0).8,
                                AV.int IntKind.i64
                                  ({ (s.wake (-1)) with md := closeM (s.wake (-1)).10 (cmode (gI (s.wake (-1)).27 (nOf id))) }.tell
                                      id (gI (s.wake (-1)).27 (nOf id)) 1 0).9,
                                AV.int IntKind.i64
                                  ({ (s.wake (-1)) with md := closeM (s.wake (-1)).10 (cmode (gI (s.wake (-1)).27 (nOf id))) }.tell
                                      id (gI (s.wake (-1)).27 (nOf id)) 1 0).10,
                                AV.own 87
                                  ({ (s.wake (-1)) with md := closeM (s.wake (-1)).10 (cmode (gI (s.wake (-1)).27 (nOf id))) }.tell
                                      id (gI (s.wake (-1)).27 (nOf id)) 1 0).11
                                  [Col.int IntKind.i64
                                      ({ (s.wake (-1)) with md := closeM (s.wake (-1)).10 (cmode (gI (s.wake (-1)).27 (nOf id))) }.tell
                                          id (gI (s.wake (-1)).27 (nOf id)) 1 0).12,
                                    Col.int IntKind.i64
                                      ({ (s.wake (-1)) with md := closeM (s.wake (-1)).10 (cmode (gI (s.wake (-1)).27 (nOf id))) }.tell
                                          id (gI (s.wake (-1)).27 (nOf id)) 1 0).13],
                                AV.own 3
                                  ({ (s.wake (-1)) with md := closeM (s.wake (-1)).10 (cmode (gI (s.wake (-1)).27 (nOf id))) }.tell
                                      id (gI (s.wake (-1)).27 (nOf id)) 1 0).14
                                  [Col.int IntKind.i64
                                      ({ (s.wake (-1)) with md := closeM (s.wake (-1)).10 (cmode (gI (s.wake (-1)).27 (nOf id))) }.tell
                                          id (gI (s.wake (-1)).27 (nOf id)) 1 0).15],
                                AV.own 3
                                  ({ (s.wake (-1)) with md := closeM (s.wake (-1)).10 (cmode (gI (s.wake (-1)).27 (nOf id))) }.tell
                                      id (gI (s.wake (-1)).27 (nOf id)) 1 0).16
                                  [Col.int IntKind.i64
                                      ({ (s.wake (-1)) with md := closeM (s.wake (-1)).10 (cmode (gI (s.wake (-1)).27 (nOf id))) }.tell
                                          id (gI (s.wake (-1)).27 (nOf id)) 1 0).17],
                                AV.int IntKind.i64
                                  ({ (s.wake (-1)) with md := closeM (s.wake (-1)).10 (cmode (gI (s.wake (-1)).27 (nOf id))) }.tell
                                      id (gI (s.wake (-1)).27 (nOf id)) 1 0).18,
                                AV.own 3
                                  ({ (s.wake (-1)) with md := closeM (s.wake (-1)).10 (cmode (gI (s.wake (-1)).27 (nOf id))) }.tell
                                      id (gI (s.wake (-1)).27 (nOf id)) 1 0).19
                                  [Col.int IntKind.i64
                                      ({ (s.wake (-1)) with md := closeM (s.wake (-1)).10 (cmode (gI (s.wake (-1)).27 (nOf id))) }.tell
                                          id (gI (s.wake (-1)).27 (nOf id)) 1 0).20],
                                AV.int IntKind.i64
                                  ({ (s.wake (-1)) with md := closeM (s.wake (-1)).10 (cmode (gI (s.wake (-1)).27 (nOf id))) }.tell
                                      id (gI (s.wake (-1)).27 (nOf id)) 1 0).21,
                                AV.own 3
                                  ({ (s.wake (-1)) with md := closeM (s.wake (-1)).10 (cmode (gI (s.wake (-1)).27 (nOf id))) }.tell
                                      id (gI (s.wake (-1)).27 (nOf id)) 1 0).22
                                  [Col.int IntKind.i64
                                      ({ (s.wake (-1)) with md := closeM (s.wake (-1)).10 (cmode (gI (s.wake (-1)).27 (nOf id))) }.tell
                                          id (gI (s.wake (-1)).27 (nOf id)) 1 0).23],
                                AV.int IntKind.i64
                                  ({ (s.wake (-1)) with md := closeM (s.wake (-1)).10 (cmode (gI (s.wake (-1)).27 (nOf id))) }.tell
                                      id (gI (s.wake (-1)).27 (nOf id)) 1 0).24,
                                AV.own 49
                                  ({ (s.wake (-1)) with md := closeM (s.wake (-1)).10 (cmode (gI (s.wake (-1)).27 (nOf id))) }.tell
                                      id (gI (s.wake (-1)).27 (nOf id)) 1 0).25
                                  [Col.int IntKind.i64
                                      ({ (s.wake (-1)) with md := closeM (s.wake (-1)).10 (cmode (gI (s.wake (-1)).27 (nOf id))) }.tell
                                          id (gI (s.wake (-1)).27 (nOf id)) 1 0).26,
                                    Col.int IntKind.i64
                                      ({ (s.wake (-1)) with md := closeM (s.wake (-1)).10 (cmode (gI (s.wake (-1)).27 (nOf id))) }.tell
                                          id (gI (s.wake (-1)).27 (nOf id)) 1 0).27,
                                    Col.int IntKind.i64
                                      ({ (s.wake (-1)) with md := closeM (s.wake (-1)).10 (cmode (gI (s.wake (-1)).27 (nOf id))) }.tell
                                          id (gI (s.wake (-1)).27 (nOf id)) 1 0).28,
                                    Col.int IntKind.i64
                                      ({ (s.wake (-1)) with md := closeM (s.wake (-1)).10 (cmode (gI (s.wake (-1)).27 (nOf id))) }.tell
                                          id (gI (s.wake (-1)).27 (nOf id)) 1 0).29,
                                    Col.int IntKind.i64
                                      (put
                                        ({ (s.wake (-1)) with md := closeM (s.wake (-1)).10 (cmode (gI (s.wake (-1)).27 (nOf id))) }.tell
                                            id (gI (s.wake (-1)).27 (nOf id)) 1 0).30
                                        (nOf id) 1),
                                    Col.int IntKind.i64
                                      ({ (s.wake (-1)) with md := closeM (s.wake (-1)).10 (cmode (gI (s.wake (-1)).27 (nOf id))) }.tell
                                          id (gI (s.wake (-1)).27 (nOf id)) 1 0).31,
                                    Col.int IntKind.i64
                                      ({ (s.wake (-1)) with md := closeM (s.wake (-1)).10 (cmode (gI (s.wake (-1)).27 (nOf id))) }.tell
                                          id (gI (s.wake (-1)).27 (nOf id)) 1 0).32,
                                    Col.int IntKind.i64
                                      ({ (s.wake (-1)) with md := closeM (s.wake (-1)).10 (cmode (gI (s.wake (-1)).27 (nOf id))) }.tell
                                          id (gI (s.wake (-1)).27 (nOf id)) 1 0).33,
                                    Col.bool
                                      ({ (s.wake (-1)) with md := closeM (s.wake (-1)).10 (cmode (gI (s.wake (-1)).27 (nOf id))) }.tell
                                          id (gI (s.wake (-1)).27 (nOf id)) 1 0).34,
                                    Col.int IntKind.i64
                                      ({ (s.wake (-1)) with md := closeM (s.wake (-1)).10 (cmode (gI (s.wake (-1)).27 (nOf id))) }.tell
                                          id (gI (s.wake (-1)).27 (nOf id)) 1 0).35,
                                    Col.int IntKind.i64
                                      ({ (s.wake (-1)) with md := closeM (s.wake (-1)).10 (cmode (gI (s.wake (-1)).27 (nOf id))) }.tell
                                          id (gI (s.wake (-1)).27 (nOf id)) 1 0).36],
                                AV.own 51
                                  ({ (s.wake (-1)) with md := closeM (s.wake (-1)).10 (cmode (gI (s.wake (-1)).27 (nOf id))) }.tell
                                      id (gI (s.wake (-1)).27 (nOf id)) 1 0).37
                                  [Col.int IntKind.i64
                                      ({ (s.wake (-1)) with md := closeM (s.wake (-1)).10 (cmode (gI (s.wake (-1)).27 (nOf id))) }.tell
                                          id (gI (s.wake (-1)).27 (nOf id)) 1 0).38,
                                    Col.int IntKind.i64
                                      ({ (s.wake (-1)) with md := closeM (s.wake (-1)).10 (cmode (gI (s.wake (-1)).27 (nOf id))) }.tell
                                          id (gI (s.wake (-1)).27 (nOf id)) 1 0).39,
                                    Col.int IntKind.i64
                                      ({ (s.wake (-1)) with md := closeM (s.wake (-1)).10 (cmode (gI (s.wake (-1)).27 (nOf id))) }.tell
                                          id (gI (s.wake (-1)).27 (nOf id)) 1 0).40,
                                    Col.int IntKind.i64
                                      ({ (s.wake (-1)) with md := closeM (s.wake (-1)).10 (cmode (gI (s.wake (-1)).27 (nOf id))) }.tell
                                          id (gI (s.wake (-1)).27 (nOf id)) 1 0).41,
                                    Col.int IntKind.i64
                                      ({ (s.wake (-1)) with md := closeM (s.wake (-1)).10 (cmode (gI (s.wake (-1)).27 (nOf id))) }.tell
                                          id (gI (s.wake (-1)).27 (nOf id)) 1 0).42]]) =
                          some r))))))
              (br (ieq (gI (s.wake (-1)).30 (nOf id)) 1)
                (asrt (nle (s.wake (-1)).19 1073741824)
                  (asrt
                    (band
                      { (s.wake (-1)) with fe := comeE (s.wake (-1)).18 (s.wake (-1)).20, n3 := lenI (allL (s.wake (-1)).18 (s.wake (-1)).20), l3 := allL (s.wake (-1)).18 (s.wake (-1)).20 }.fit
                      (band (nle (lenI (allO (s.wake (-1)).18 (s.wake (-1)).20)) 1000000)
                        (band
                          (ieq (ofN (lenI (allO (s.wake (-1)).18 (s.wake (-1)).20)))
                            (ofN (lenI (allO (s.wake (-1)).18 (s.wake (-1)).20))))
                          (ile 0 (ofN (lenI (allO (s.wake (-1)).18 (s.wake (-1)).20)))))))
                    (asrt
                      (band (ile 0 id)
                        (ilt id
                          (ofN
                            ({ (s.wake (-1)) with fe := comeE (s.wake (-1)).18 (s.wake (-1)).20, n3 := lenI (allL (s.wake (-1)).18 (s.wake (-1)).20), l3 := allL (s.wake (-1)).18 (s.wake (-1)).20 }.wakes
                                (allO (s.wake (-1)).18 (s.wake (-1)).20) 0).25)))
                      (asrt
                        (nlt (nOf id)
                          ({ (s.wake (-1)) with fe := comeE (s.wake (-1)).18 (s.wake (-1)).20, n3 := lenI (allL (s.wake (-1)).18 (s.wake (-1)).20), l3 := allL (s.wake (-1)).18 (s.wake (-1)).20 }.wakes
                              (allO (s.wake (-1)).18 (s.wake (-1)).20) 0).25)
                        (some
                            (AV.agg
                              [AV.int IntKind.i64
                                  ({ (s.wake (-1)) with fe := comeE (s.wake (-1)).18 (s.wake (-1)).20, n3 := lenI (allL (s.wake (-1)).18 (s.wake (-1)).20), l3 := allL (s.wake (-1)).18 (s.wake (-1)).20 }.wakes
                                      (allO (s.wake (-1)).18 (s.wake (-1)).20) 0).1,
                                AV.int IntKind.i64
                                  ({ (s.wake (-1)) with fe := comeE (s.wake (-1)).18 (s.wake (-1)).20, n3 := lenI (allL (s.wake (-1)).18 (s.wake (-1)).20), l3 := allL (s.wake (-1)).18 (s.wake (-1)).20 }.wakes
                                      (allO (s.wake (-1)).18 (s.wake (-1)).20) 0).2,
                                AV.int IntKind.i64
                                  ({ (s.wake (-1)) with fe := comeE (s.wake (-1)).18 (s.wake (-1)).20, n3 := lenI (allL (s.wake (-1)).18 (s.wake (-1)).20), l3 := allL (s.wake (-1)).18 (s.wake (-1)).20 }.wakes
                                      (allO (s.wake (-1)).18 (s.wake (-1)).20) 0).3,
                                AV.int IntKind.i64
                                  ({ (s.wake (-1)) with fe := comeE (s.wake (-1)).18 (s.wake (-1)).20, n3 := lenI (allL (s.wake (-1)).18 (s.wake (-1)).20), l3 := allL (s.wake (-1)).18 (s.wake (-1)).20 }.wakes
                                      (allO (s.wake (-1)).18 (s.wake (-1)).20) 0).4,
                                AV.int IntKind.i64
                                  ({ (s.wake (-1)) with fe := comeE (s.wake (-1)).18 (s.wake (-1)).20, n3 := lenI (allL (s.wake (-1)).18 (s.wake (-1)).20), l3 := allL (s.wake (-1)).18 (s.wake (-1)).20 }.wakes
                                      (allO (s.wake (-1)).18 (s.wake (-1)).20) 0).5,
                                AV.int IntKind.i64
                                  ({ (s.wake (-1)) with fe := comeE (s.wake (-1)).18 (s.wake (-1)).20, n3 := lenI (allL (s.wake (-1)).18 (s.wake (-1)).20), l3 := allL (s.wake (-1)).18 (s.wake (-1)).20 }.wakes
                                      (allO (s.wake (-1)).18 (s.wake (-1)).20) 0).6,
                                AV.bool
                                  ({ (s.wake (-1)) with fe := comeE (s.wake (-1)).18 (s.wake (-1)).20, n3 := lenI (allL (s.wake (-1)).18 (s.wake (-1)).20), l3 := allL (s.wake (-1)).18 (s.wake (-1)).20 }.wakes
                                      (allO (s.wake (-1)).18 (s.wake (-1)).20) 0).7,
                                AV.int IntKind.i64
                                  ({ (s.wake (-1)) with fe := comeE (s.wake (-1)).18 (s.wake (-1)).20, n3 := lenI (allL (s.wake (-1)).18 (s.wake (-1)).20), l3 := allL (s.wake (-1)).18 (s.wake (-1)).20 }.wakes
                                      (allO (s.wake (-1)).18 (s.wake (-1)).20) 0).8,
                                AV.int IntKind.i64
                                  ({ (s.wake (-1)) with fe := comeE (s.wake (-1)).18 (s.wake (-1)).20, n3 := lenI (allL (s.wake (-1)).18 (s.wake (-1)).20), l3 := allL (s.wake (-1)).18 (s.wake (-1)).20 }.wakes
                                      (allO (s.wake (-1)).18 (s.wake (-1)).20) 0).9,
                                AV.int IntKind.i64
                                  ({ (s.wake (-1)) with fe := comeE (s.wake (-1)).18 (s.wake (-1)).20, n3 := lenI (allL (s.wake (-1)).18 (s.wake (-1)).20), l3 := allL (s.wake (-1)).18 (s.wake (-1)).20 }.wakes
                                      (allO (s.wake (-1)).18 (s.wake (-1)).20) 0).10,
                                AV.own 87
                                  ({ (s.wake (-1)) with fe := comeE (s.wake (-1)).18 (s.wake (-1)).20, n3 := lenI (allL (s.wake (-1)).18 (s.wake (-1)).20), l3 := allL (s.wake (-1)).18 (s.wake (-1)).20 }.wakes
                                      (allO (s.wake (-1)).18 (s.wake (-1)).20) 0).11
                                  [Col.int IntKind.i64
                                      ({ (s.wake (-1)) with fe := comeE (s.wake (-1)).18 (s.wake (-1)).20, n3 := lenI (allL (s.wake (-1)).18 (s.wake (-1)).20), l3 := allL (s.wake (-1)).18 (s.wake (-1)).20 }.wakes
                                          (allO (s.wake (-1)).18 (s.wake (-1)).20) 0).12,
                                    Col.int IntKind.i64
                                      ({ (s.wake (-1)) with fe := comeE (s.wake (-1)).18 (s.wake (-1)).20, n3 := lenI (allL (s.wake (-1)).18 (s.wake (-1)).20), l3 := allL (s.wake (-1)).18 (s.wake (-1)).20 }.wakes
                                          (allO (s.wake (-1)).18 (s.wake (-1)).20) 0).13],
                                AV.own 3
                                  ({ (s.wake (-1)) with fe := comeE (s.wake (-1)).18 (s.wake (-1)).20, n3 := lenI (allL (s.wake (-1)).18 (s.wake (-1)).20), l3 := allL (s.wake (-1)).18 (s.wake (-1)).20 }.wakes
                                      (allO (s.wake (-1)).18 (s.wake (-1)).20) 0).14
                                  [Col.int IntKind.i64
                                      ({ (s.wake (-1)) with fe := comeE (s.wake (-1)).18 (s.wake (-1)).20, n3 := lenI (allL (s.wake (-1)).18 (s.wake (-1)).20), l3 := allL (s.wake (-1)).18 (s.wake (-1)).20 }.wakes
                                          (allO (s.wake (-1)).18 (s.wake (-1)).20) 0).15],
                                AV.own 3
                                  ({ (s.wake (-1)) with fe := comeE (s.wake (-1)).18 (s.wake (-1)).20, n3 := lenI (allL (s.wake (-1)).18 (s.wake (-1)).20), l3 := allL (s.wake (-1)).18 (s.wake (-1)).20 }.wakes
                                      (allO (s.wake (-1)).18 (s.wake (-1)).20) 0).16
                                  [Col.int IntKind.i64
                                      ({ (s.wake (-1)) with fe := comeE (s.wake (-1)).18 (s.wake (-1)).20, n3 := lenI (allL (s.wake (-1)).18 (s.wake (-1)).20), l3 := allL (s.wake (-1)).18 (s.wake (-1)).20 }.wakes
                                          (allO (s.wake (-1)).18 (s.wake (-1)).20) 0).17],
                                AV.int IntKind.i64
                                  ({ (s.wake (-1)) with fe := comeE (s.wake (-1)).18 (s.wake (-1)).20, n3 := lenI (allL (s.wake (-1)).18 (s.wake (-1)).20), l3 := allL (s.wake (-1)).18 (s.wake (-1)).20 }.wakes
                                      (allO (s.wake (-1)).18 (s.wake (-1)).20) 0).18,
                                AV.own 3
                                  ({ (s.wake (-1)) with fe := comeE (s.wake (-1)).18 (s.wake (-1)).20, n3 := lenI (allL (s.wake (-1)).18 (s.wake (-1)).20), l3 := allL (s.wake (-1)).18 (s.wake (-1)).20 }.wakes
                                      (allO (s.wake (-1)).18 (s.wake (-1)).20) 0).19
                                  [Col.int IntKind.i64
                                      ({ (s.wake (-1)) with fe := comeE (s.wake (-1)).18 (s.wake (-1)).20, n3 := lenI (allL (s.wake (-1)).18 (s.wake (-1)).20), l3 := allL (s.wake (-1)).18 (s.wake (-1)).20 }.wakes
                                          (allO (s.wake (-1)).18 (s.wake (-1)).20) 0).20],
                                AV.int IntKind.i64
                                  ({ (s.wake (-1)) with fe := comeE (s.wake (-1)).18 (s.wake (-1)).20, n3 := lenI (allL (s.wake (-1)).18 (s.wake (-1)).20), l3 := allL (s.wake (-1)).18 (s.wake (-1)).20 }.wakes
                                      (allO (s.wake (-1)).18 (s.wake (-1)).20) 0).21,
                                AV.own 3
                                  ({ (s.wake (-1)) with fe := comeE (s.wake (-1)).18 (s.wake (-1)).20, n3 := lenI (allL (s.wake (-1)).18 (s.wake (-1)).20), l3 := allL (s.wake (-1)).18 (s.wake (-1)).20 }.wakes
                                      (allO (s.wake (-1)).18 (s.wake (-1)).20) 0).22
                                  [Col.int IntKind.i64
                                      ({ (s.wake (-1)) with fe := comeE (s.wake (-1)).18 (s.wake (-1)).20, n3 := lenI (allL (s.wake (-1)).18 (s.wake (-1)).20), l3 := allL (s.wake (-1)).18 (s.wake (-1)).20 }.wakes
                                          (allO (s.wake (-1)).18 (s.wake (-1)).20) 0).23],
                                AV.int IntKind.i64
                                  ({ (s.wake (-1)) with fe := comeE (s.wake (-1)).18 (s.wake (-1)).20, n3 := lenI (allL (s.wake (-1)).18 (s.wake (-1)).20), l3 := allL (s.wake (-1)).18 (s.wake (-1)).20 }.wakes
                                      (allO (s.wake (-1)).18 (s.wake (-1)).20) 0).24,
                                AV.own 49
                                  ({ (s.wake (-1)) with fe := comeE (s.wake (-1)).18 (s.wake (-1)).20, n3 := lenI (allL (s.wake (-1)).18 (s.wake (-1)).20), l3 := allL (s.wake (-1)).18 (s.wake (-1)).20 }.wakes
                                      (allO (s.wake (-1)).18 (s.wake (-1)).20) 0).25
                                  [Col.int IntKind.i64
                                      ({ (s.wake (-1)) with fe := comeE (s.wake (-1)).18 (s.wake (-1)).20, n3 := lenI (allL (s.wake (-1)).18 (s.wake (-1)).20), l3 := allL (s.wake (-1)).18 (s.wake (-1)).20 }.wakes
                                          (allO (s.wake (-1)).18 (s.wake (-1)).20) 0).26,
                                    Col.int IntKind.i64
                                      ({ (s.wake (-1)) with fe := comeE (s.wake (-1)).18 (s.wake (-1)).20, n3 := lenI (allL (s.wake (-1)).18 (s.wake (-1)).20), l3 := allL (s.wake (-1)).18 (s.wake (-1)).20 }.wakes
                                          (allO (s.wake (-1)).18 (s.wake (-1)).20) 0).27,
                                    Col.int IntKind.i64
                                      ({ (s.wake (-1)) with fe := comeE (s.wake (-1)).18 (s.wake (-1)).20, n3 := lenI (allL (s.wake (-1)).18 (s.wake (-1)).20), l3 := allL (s.wake (-1)).18 (s.wake (-1)).20 }.wakes
                                          (allO (s.wake (-1)).18 (s.wake (-1)).20) 0).28,
                                    Col.int IntKind.i64
                                      ({ (s.wake (-1)) with fe := comeE (s.wake (-1)).18 (s.wake (-1)).20, n3 := lenI (allL (s.wake (-1)).18 (s.wake (-1)).20), l3 := allL (s.wake (-1)).18 (s.wake (-1)).20 }.wakes
                                          (allO (s.wake (-1)).18 (s.wake (-1)).20) 0).29,
                                    Col.int IntKind.i64
                                      (put
                                        ({ (s.wake (-1)) with fe := comeE (s.wake (-1)).18 (s.wake (-1)).20, n3 := lenI (allL (s.wake (-1)).18 (s.wake (-1)).20), l3 := allL (s.wake (-1)).18 (s.wake (-1)).20 }.wakes
                                            (allO (s.wake (-1)).18 (s.wake (-1)).20) 0).30
                                        (nOf id) 2),
                                    Col.int IntKind.i64
                                      ({ (s.wake (-1)) with fe := comeE (s.wake (-1)).18 (s.wake (-1)).20, n3 := lenI (allL (s.wake (-1)).18 (s.wake (-1)).20), l3 := allL (s.wake (-1)).18 (s.wake (-1)).20 }.wakes
                                          (allO (s.wake (-1)).18 (s.wake (-1)).20) 0).31,
                                    Col.int IntKind.i64
                                      ({ (s.wake (-1)) with fe := comeE (s.wake (-1)).18 (s.wake (-1)).20, n3 := lenI (allL (s.wake (-1)).18 (s.wake (-1)).20), l3 := allL (s.wake (-1)).18 (s.wake (-1)).20 }.wakes
                                          (allO (s.wake (-1)).18 (s.wake (-1)).20) 0).32,
                                    Col.int IntKind.i64
                                      ({ (s.wake (-1)) with fe := comeE (s.wake (-1)).18 (s.wake (-1)).20, n3 := lenI (allL (s.wake (-1)).18 (s.wake (-1)).20), l3 := allL (s.wake (-1)).18 (s.wake (-1)).20 }.wakes
                                          (allO (s.wake (-1)).18 (s.wake (-1)).20) 0).33,
                                    Col.bool
                                      ({ (s.wake (-1)) with fe := comeE (s.wake (-1)).18 (s.wake (-1)).20, n3 := lenI (allL (s.wake (-1)).18 (s.wake (-1)).20), l3 := allL (s.wake (-1)).18 (s.wake (-1)).20 }.wakes
                                          (allO (s.wake (-1)).18 (s.wake (-1)).20) 0).34,
                                    Col.int IntKind.i64
                                      ({ (s.wake (-1)) with fe := comeE (s.wake (-1)).18 (s.wake (-1)).20, n3 := lenI (allL (s.wake (-1)).18 (s.wake (-1)).20), l3 := allL (s.wake (-1)).18 (s.wake (-1)).20 }.wakes
                                          (allO (s.wake (-1)).18 (s.wake (-1)).20) 0).35,
                                    Col.int IntKind.i64
                                      ({ (s.wake (-1)) with fe := comeE (s.wake (-1)).18 (s.wake (-1)).20, n3 := lenI (allL (s.wake (-1)).18 (s.wake (-1)).20), l3 := allL (s.wake (-1)).18 (s.wake (-1)).20 }.wakes
                                          (allO (s.wake (-1)).18 (s.wake (-1)).20) 0).36],
                                AV.own 51
                                  ({ (s.wake (-1)) with fe := comeE (s.wake (-1)).18 (s.wake (-1)).20, n3 := lenI (allL (s.wake (-1)).18 (s.wake (-1)).20), l3 := allL (s.wake (-1)).18 (s.wake (-1)).20 }.wakes
                                      (allO (s.wake (-1)).18 (s.wake (-1)).20) 0).37
                                  [Col.int IntKind.i64
                                      ({ (s.wake (-1)) with fe := comeE (s.wake (-1)).18 (s.wake (-1)).20, n3 := lenI (allL (s.wake (-1)).18 (s.wake (-1)).20), l3 := allL (s.wake (-1)).18 (s.wake (-1)).20 }.wakes
                                          (allO (s.wake (-1)).18 (s.wake (-1)).20) 0).38,
                                    Col.int IntKind.i64
                                      ({ (s.wake (-1)) with fe := comeE (s.wake (-1)).18 (s.wake (-1)).20, n3 := lenI (allL (s.wake (-1)).18 (s.wake (-1)).20), l3 := allL (s.wake (-1)).18 (s.wake (-1)).20 }.wakes
                                          (allO (s.wake (-1)).18 (s.wake (-1)).20) 0).39,
                                    Col.int IntKind.i64
                                      ({ (s.wake (-1)) with fe := comeE (s.wake (-1)).18 (s.wake (-1)).20, n3 := lenI (allL (s.wake (-1)).18 (s.wake (-1)).20), l3 := allL (s.wake (-1)).18 (s.wake (-1)).20 }.wakes
                                          (allO (s.wake (-1)).18 (s.wake (-1)).20) 0).40,
                                    Col.int IntKind.i64
                                      ({ (s.wake (-1)) with fe := comeE (s.wake (-1)).18 (s.wake (-1)).20, n3 := lenI (allL (s.wake (-1)).18 (s.wake (-1)).20), l3 := allL (s.wake (-1)).18 (s.wake (-1)).20 }.wakes
                                          (allO (s.wake (-1)).18 (s.wake (-1)).20) 0).41,
                                    Col.int IntKind.i64
                                      ({ (s.wake (-1)) with fe := comeE (s.wake (-1)).18 (s.wake (-1)).20, n3 := lenI (allL (s.wake (-1)).18 (s.wake (-1)).20), l3 := allL (s.wake (-1)).18 (s.wake (-1)).20 }.wakes
                                          (allO (s.wake (-1)).18 (s.wake (-1)).20) 0).42]]) =
                          some r)))))
                (asrt (nle (s.wake (-1)).22 1073741824)
                  (asrt
                    (band
                      { (s.wake (-1)) with ee := comeE (s.wake (-1)).21 (s.wake (-1)).23, n4 := lenI (allL (s.wake (-1)).21 (s.wake (-1)).23), l4 := allL (s.wake (-1)).21 (s.wake (-1)).23 }.fit
                      (band (nle (lenI (allO (s.wake (-1)).21 (s.wake (-1)).23)) 1000000)
                        (band
                          (ieq (ofN (lenI (allO (s.wake (-1)).21 (s.wake (-1)).23)))
                            (ofN (lenI (allO (s.wake (-1)).21 (s.wake (-1)).23))))
                          (ile 0 (ofN (lenI (allO (s.wake (-1)).21 (s.wake (-1)).23)))))))
                    (asrt
                      (band (ile 0 id)
                        (ilt id
                          (ofN
                            ({ (s.wake (-1)) with ee := comeE (s.wake (-1)).21 (s.wake (-1)).23, n4 := lenI (allL (s.wake (-1)).21 (s.wake (-1)).23), l4 := allL (s.wake (-1)).21 (s.wake (-1)).23 }.wakes
                                (allO (s.wake (-1)).21 (s.wake (-1)).23) 0).25)))
                      (asrt
                        (band (ile 0 id)
                          (ilt id
                            (ofN
                              ({ (s.wake (-1)) with ee := comeE (s.wake (-1)).21 (s.wake (-1)).23, n4 := lenI (allL (s.wake (-1)).21 (s.wake (-1)).23), l4 := allL (s.wake (-1)).21 (s.wake (-1)).23 }.wakes
                                  (allO (s.wake (-1)).21 (s.wake (-1)).23) 0).25)))
                        (asrt
                          (nlt (nOf id)
                            ({ (s.wake (-1)) with ee := comeE (s.wake (-1)).21 (s.wake (-1)).23, n4 := lenI (allL (s.wake (-1)).21 (s.wake (-1)).23), l4 := allL (s.wake (-1)).21 (s.wake (-1)).23 }.wakes
                                (allO (s.wake (-1)).21 (s.wake (-1)).23) 0).25)
                          (asrt
                            (nlt (nOf id)
                              ({ (s.wake (-1)) with ee := comeE (s.wake (-1)).21 (s.wake (-1)).23, n4 := lenI (allL (s.wake (-1)).21 (s.wake (-1)).23), l4 := allL (s.wake (-1)).21 (s.wake (-1)).23 }.wakes
                                  (allO (s.wake (-1)).21 (s.wake (-1)).23) 0).25)
                            (some
                                (AV.agg
                                  [AV.int IntKind.i64
                                      ({ (s.wake (-1)) with ee := comeE (s.wake (-1)).21 (s.wake (-1)).23, n4 := lenI (allL (s.wake (-1)).21 (s.wake (-1)).23), l4 := allL (s.wake (-1)).21 (s.wake (-1)).23 }.wakes
                                          (allO (s.wake (-1)).21 (s.wake (-1)).23) 0).1,
                                    AV.int IntKind.i64
                                      ({ (s.wake (-1)) with ee := comeE (s.wake (-1)).21 (s.wake (-1)).23, n4 := lenI (allL (s.wake (-1)).21 (s.wake (-1)).23), l4 := allL (s.wake (-1)).21 (s.wake (-1)).23 }.wakes
                                          (allO (s.wake (-1)).21 (s.wake (-1)).23) 0).2,
                                    AV.int IntKind.i64
                                      ({ (s.wake (-1)) with ee := comeE (s.wake (-1)).21 (s.wake (-1)).23, n4 := lenI (allL (s.wake (-1)).21 (s.wake (-1)).23), l4 := allL (s.wake (-1)).21 (s.wake (-1)).23 }.wakes
                                          (allO (s.wake (-1)).21 (s.wake (-1)).23) 0).3,
                                    AV.int IntKind.i64
                                      ({ (s.wake (-1)) with ee := comeE (s.wake (-1)).21 (s.wake (-1)).23, n4 := lenI (allL (s.wake (-1)).21 (s.wake (-1)).23), l4 := allL (s.wake (-1)).21 (s.wake (-1)).23 }.wakes
                                          (allO (s.wake (-1)).21 (s.wake (-1)).23) 0).4,
                                    AV.int IntKind.i64
                                      ({ (s.wake (-1)) with ee := comeE (s.wake (-1)).21 (s.wake (-1)).23, n4 := lenI (allL (s.wake (-1)).21 (s.wake (-1)).23), l4 := allL (s.wake (-1)).21 (s.wake (-1)).23 }.wakes
                                          (allO (s.wake (-1)).21 (s.wake (-1)).23) 0).5,
                                    AV.int IntKind.i64
                                      ({ (s.wake (-1)) with ee := comeE (s.wake (-1)).21 (s.wake (-1)).23, n4 := lenI (allL (s.wake (-1)).21 (s.wake (-1)).23), l4 := allL (s.wake (-1)).21 (s.wake (-1)).23 }.wakes
                                          (allO (s.wake (-1)).21 (s.wake (-1)).23) 0).6,
                                    AV.bool
                                      ({ (s.wake (-1)) with ee := comeE (s.wake (-1)).21 (s.wake (-1)).23, n4 := lenI (allL (s.wake (-1)).21 (s.wake (-1)).23), l4 := allL (s.wake (-1)).21 (s.wake (-1)).23 }.wakes
                                          (allO (s.wake (-1)).21 (s.wake (-1)).23) 0).7,
                                    AV.int IntKind.i64
                                      ({ (s.wake (-1)) with ee := comeE (s.wake (-1)).21 (s.wake (-1)).23, n4 := lenI (allL (s.wake (-1)).21 (s.wake (-1)).23), l4 := allL (s.wake (-1)).21 (s.wake (-1)).23 }.wakes
                                          (allO (s.wake (-1)).21 (s.wake (-1)).23) 0).8,
                                    AV.int IntKind.i64
                                      ({ (s.wake (-1)) with ee := comeE (s.wake (-1)).21 (s.wake (-1)).23, n4 := lenI (allL (s.wake (-1)).21 (s.wake (-1)).23), l4 := allL (s.wake (-1)).21 (s.wake (-1)).23 }.wakes
                                          (allO (s.wake (-1)).21 (s.wake (-1)).23) 0).9,
                                    AV.int IntKind.i64
                                      ({ (s.wake (-1)) with ee := comeE (s.wake (-1)).21 (s.wake (-1)).23, n4 := lenI (allL (s.wake (-1)).21 (s.wake (-1)).23), l4 := allL (s.wake (-1)).21 (s.wake (-1)).23 }.wakes
                                          (allO (s.wake (-1)).21 (s.wake (-1)).23) 0).10,
                                    AV.own 87
                                      ({ (s.wake (-1)) with ee := comeE (s.wake (-1)).21 (s.wake (-1)).23, n4 := lenI (allL (s.wake (-1)).21 (s.wake (-1)).23), l4 := allL (s.wake (-1)).21 (s.wake (-1)).23 }.wakes
                                          (allO (s.wake (-1)).21 (s.wake (-1)).23) 0).11
                                      [Col.int IntKind.i64
                                          ({ (s.wake (-1)) with ee := comeE (s.wake (-1)).21 (s.wake (-1)).23, n4 := lenI (allL (s.wake (-1)).21 (s.wake (-1)).23), l4 := allL (s.wake (-1)).21 (s.wake (-1)).23 }.wakes
                                              (allO (s.wake (-1)).21 (s.wake (-1)).23) 0).12,
                                        Col.int IntKind.i64
                                          ({ (s.wake (-1)) with ee := comeE (s.wake (-1)).21 (s.wake (-1)).23, n4 := lenI (allL (s.wake (-1)).21 (s.wake (-1)).23), l4 := allL (s.wake (-1)).21 (s.wake (-1)).23 }.wakes
                                              (allO (s.wake (-1)).21 (s.wake (-1)).23) 0).13],
                                    AV.own 3
                                      ({ (s.wake (-1)) with ee := comeE (s.wake (-1)).21 (s.wake (-1)).23, n4 := lenI (allL (s.wake (-1)).21 (s.wake (-1)).23), l4 := allL (s.wake (-1)).21 (s.wake (-1)).23 }.wakes
                                          (allO (s.wake (-1)).21 (s.wake (-1)).23) 0).14
                                      [Col.int IntKind.i64
                                          ({ (s.wake (-1)) with ee := comeE (s.wake (-1)).21 (s.wake (-1)).23, n4 := lenI (allL (s.wake (-1)).21 (s.wake (-1)).23), l4 := allL (s.wake (-1)).21 (s.wake (-1)).23 }.wakes
                                              (allO (s.wake (-1)).21 (s.wake (-1)).23) 0).15],
                                    AV.own 3
                                      ({ (s.wake (-1)) with ee := comeE (s.wake (-1)).21 (s.wake (-1)).23, n4 := lenI (allL (s.wake (-1)).21 (s.wake (-1)).23), l4 := allL (s.wake (-1)).21 (s.wake (-1)).23 }.wakes
                                          (allO (s.wake (-1)).21 (s.wake (-1)).23) 0).16
                                      [Col.int IntKind.i64
                                          ({ (s.wake (-1)) with ee := comeE (s.wake (-1)).21 (s.wake (-1)).23, n4 := lenI (allL (s.wake (-1)).21 (s.wake (-1)).23), l4 := allL (s.wake (-1)).21 (s.wake (-1)).23 }.wakes
                                              (allO (s.wake (-1)).21 (s.wake (-1)).23) 0).17],
                                    AV.int IntKind.i64
                                      ({ (s.wake (-1)) with ee := comeE (s.wake (-1)).21 (s.wake (-1)).23, n4 := lenI (allL (s.wake (-1)).21 (s.wake (-1)).23), l4 := allL (s.wake (-1)).21 (s.wake (-1)).23 }.wakes
                                          (allO (s.wake (-1)).21 (s.wake (-1)).23) 0).18,
                                    AV.own 3
                                      ({ (s.wake (-1)) with ee := comeE (s.wake (-1)).21 (s.wake (-1)).23, n4 := lenI (allL (s.wake (-1)).21 (s.wake (-1)).23), l4 := allL (s.wake (-1)).21 (s.wake (-1)).23 }.wakes
                                          (allO (s.wake (-1)).21 (s.wake (-1)).23) 0).19
                                      [Col.int IntKind.i64
                                          ({ (s.wake (-1)) with ee := comeE (s.wake (-1)).21 (s.wake (-1)).23, n4 := lenI (allL (s.wake (-1)).21 (s.wake (-1)).23), l4 := allL (s.wake (-1)).21 (s.wake (-1)).23 }.wakes
                                              (allO (s.wake (-1)).21 (s.wake (-1)).23) 0).20],
                                    AV.int IntKind.i64
                                      ({ (s.wake (-1)) with ee := comeE (s.wake (-1)).21 (s.wake (-1)).23, n4 := lenI (allL (s.wake (-1)).21 (s.wake (-1)).23), l4 := allL (s.wake (-1)).21 (s.wake (-1)).23 }.wakes
                                          (allO (s.wake (-1)).21 (s.wake (-1)).23) 0).21,
                                    AV.own 3
                                      ({ (s.wake (-1)) with ee := comeE (s.wake (-1)).21 (s.wake (-1)).23, n4 := lenI (allL (s.wake (-1)).21 (s.wake (-1)).23), l4 := allL (s.wake (-1)).21 (s.wake (-1)).23 }.wakes
                                          (allO (s.wake (-1)).21 (s.wake (-1)).23) 0).22
                                      [Col.int IntKind.i64
                                          ({ (s.wake (-1)) with ee := comeE (s.wake (-1)).21 (s.wake (-1)).23, n4 := lenI (allL (s.wake (-1)).21 (s.wake (-1)).23), l4 := allL (s.wake (-1)).21 (s.wake (-1)).23 }.wakes
                                              (allO (s.wake (-1)).21 (s.wake (-1)).23) 0).23],
                                    AV.int IntKind.i64
                                      ({ (s.wake (-1)) with ee := comeE (s.wake (-1)).21 (s.wake (-1)).23, n4 := lenI (allL (s.wake (-1)).21 (s.wake (-1)).23), l4 := allL (s.wake (-1)).21 (s.wake (-1)).23 }.wakes
                                          (allO (s.wake (-1)).21 (s.wake (-1)).23) 0).24,
                                    AV.own 49
                                      ({ (s.wake (-1)) with ee := comeE (s.wake (-1)).21 (s.wake (-1)).23, n4 := lenI (allL (s.wake (-1)).21 (s.wake (-1)).23), l4 := allL (s.wake (-1)).21 (s.wake (-1)).23 }.wakes
                                          (allO (s.wake (-1)).21 (s.wake (-1)).23) 0).25
                                      [Col.int IntKind.i64
                                          (put
                                            ({ (s.wake (-1)) with ee := comeE (s.wake (-1)).21 (s.wake (-1)).23, n4 := lenI (allL (s.wake (-1)).21 (s.wake (-1)).23), l4 := allL (s.wake (-1)).21 (s.wake (-1)).23 }.wakes
                                                (allO (s.wake (-1)).21 (s.wake (-1)).23) 0).26
                                            (nOf id)
                                            (invI
                                              (thRuns
                                                (gI
                                                  ({ (s.wake (-1)) with ee := comeE (s.wake (-1)).21 (s.wake (-1)).23, n4 := lenI (allL (s.wake (-1)).21 (s.wake (-1)).23), l4 := allL (s.wake (-1)).21 (s.wake (-1)).23 }.wakes
                                                      (allO (s.wake (-1)).21 (s.wake (-1)).23) 0).26
                                                  (nOf id)))
                                              0
                                              (gI
                                                ({ (s.wake (-1)) with ee := comeE (s.wake (-1)).21 (s.wake (-1)).23, n4 := lenI (allL (s.wake (-1)).21 (s.wake (-1)).23), l4 := allL (s.wake (-1)).21 (s.wake (-1)).23 }.wakes
                                                    (allO (s.wake (-1)).21 (s.wake (-1)).23) 0).26
                                                (nOf id)))),
                                        Col.int IntKind.i64
                                          (put
                                            ({ (s.wake (-1)) with ee := comeE (s.wake (-1)).21 (s.wake (-1)).23, n4 := lenI (allL (s.wake (-1)).21 (s.wake (-1)).23), l4 := allL (s.wake (-1)).21 (s.wake (-1)).23 }.wakes
                                                (allO (s.wake (-1)).21 (s.wake (-1)).23) 0).27
                                            (nOf id)
                                            (gI
                                              ({ (s.wake (-1)) with ee := comeE (s.wake (-1)).21 (s.wake (-1)).23, n4 := lenI (allL (s.wake (-1)).21 (s.wake (-1)).23), l4 := allL (s.wake (-1)).21 (s.wake (-1)).23 }.wakes
                                                  (allO (s.wake (-1)).21 (s.wake (-1)).23) 0).27
                                              (nOf id))),
                                        Col.int IntKind.i64
                                          (put
                                            ({ (s.wake (-1)) with ee := comeE (s.wake (-1)).21 (s.wake (-1)).23, n4 := lenI (allL (s.wake (-1)).21 (s.wake (-1)).23), l4 := allL (s.wake (-1)).21 (s.wake (-1)).23 }.wakes
                                                (allO (s.wake (-1)).21 (s.wake (-1)).23) 0).28
                                            (nOf id)
                                            (gI
                                              ({ (s.wake (-1)) with ee := comeE (s.wake (-1)).21 (s.wake (-1)).23, n4 := lenI (allL (s.wake (-1)).21 (s.wake (-1)).23), l4 := allL (s.wake (-1)).21 (s.wake (-1)).23 }.wakes
                                                  (allO (s.wake (-1)).21 (s.wake (-1)).23) 0).28
                                              (nOf id))),
                                        Col.int IntKind.i64
                                          (put
                                            ({ (s.wake (-1)) with ee := comeE (s.wake (-1)).21 (s.wake (-1)).23, n4 := lenI (allL (s.wake (-1)).21 (s.wake (-1)).23), l4 := allL (s.wake (-1)).21 (s.wake (-1)).23 }.wakes
                                                (allO (s.wake (-1)).21 (s.wake (-1)).23) 0).29
                                            (nOf id)
                                            (gI
                                              ({ (s.wake (-1)) with ee := comeE (s.wake (-1)).21 (s.wake (-1)).23, n4 := lenI (allL (s.wake (-1)).21 (s.wake (-1)).23), l4 := allL (s.wake (-1)).21 (s.wake (-1)).23 }.wakes
                                                  (allO (s.wake (-1)).21 (s.wake (-1)).23) 0).29
                                              (nOf id))),
                                        Col.int IntKind.i64
                                          (put
                                            ({ (s.wake (-1)) with ee := comeE (s.wake (-1)).21 (s.wake (-1)).23, n4 := lenI (allL (s.wake (-1)).21 (s.wake (-1)).23), l4 := allL (s.wake (-1)).21 (s.wake (-1)).23 }.wakes
                                                (allO (s.wake (-1)).21 (s.wake (-1)).23) 0).30
                                            (nOf id)
                                            (invI
                                              (thRuns
                                                (gI
                                                  ({ (s.wake (-1)) with ee := comeE (s.wake (-1)).21 (s.wake (-1)).23, n4 := lenI (allL (s.wake (-1)).21 (s.wake (-1)).23), l4 := allL (s.wake (-1)).21 (s.wake (-1)).23 }.wakes
                                                      (allO (s.wake (-1)).21 (s.wake (-1)).23) 0).26
                                                  (nOf id)))
                                              0
                                              (gI
                                                ({ (s.wake (-1)) with ee := comeE (s.wake (-1)).21 (s.wake (-1)).23, n4 := lenI (allL (s.wake (-1)).21 (s.wake (-1)).23), l4 := allL (s.wake (-1)).21 (s.wake (-1)).23 }.wakes
                                                    (allO (s.wake (-1)).21 (s.wake (-1)).23) 0).30
                                                (nOf id)))),
                                        Col.int IntKind.i64
                                          (put
                                            ({ (s.wake (-1)) with ee := comeE (s.wake (-1)).21 (s.wake (-1)).23, n4 := lenI (allL (s.wake (-1)).21 (s.wake (-1)).23), l4 := allL (s.wake (-1)).21 (s.wake (-1)).23 }.wakes
                                                (allO (s.wake (-1)).21 (s.wake (-1)).23) 0).31
                                            (nOf id)
                                            (invI
                                              (thRuns
                                                (gI
                                                  ({ (s.wake (-1)) with ee := comeE (s.wake (-1)).21 (s.wake (-1)).23, n4 := lenI (allL (s.wake (-1)).21 (s.wake (-1)).23), l4 := allL (s.wake (-1)).21 (s.wake (-1)).23 }.wakes
                                                      (allO (s.wake (-1)).21 (s.wake (-1)).23) 0).26
                                                  (nOf id)))
                                              0
                                              (gI
                                                ({ (s.wake (-1)) with ee := comeE (s.wake (-1)).21 (s.wake (-1)).23, n4 := lenI (allL (s.wake (-1)).21 (s.wake (-1)).23), l4 := allL (s.wake (-1)).21 (s.wake (-1)).23 }.wakes
                                                    (allO (s.wake (-1)).21 (s.wake (-1)).23) 0).31
                                                (nOf id)))),
                                        Col.int IntKind.i64
                                          (put
                                            ({ (s.wake (-1)) with ee := comeE (s.wake (-1)).21 (s.wake (-1)).23, n4 := lenI (allL (s.wake (-1)).21 (s.wake (-1)).23), l4 := allL (s.wake (-1)).21 (s.wake (-1)).23 }.wakes
                                                (allO (s.wake (-1)).21 (s.wake (-1)).23) 0).32
                                            (nOf id)
                                            (invI
                                              (thRuns
                                                (gI
                                                  ({ (s.wake (-1)) with ee := comeE (s.wake (-1)).21 (s.wake (-1)).23, n4 := lenI (allL (s.wake (-1)).21 (s.wake (-1)).23), l4 := allL (s.wake (-1)).21 (s.wake (-1)).23 }.wakes
                                                      (allO (s.wake (-1)).21 (s.wake (-1)).23) 0).26
                                                  (nOf id)))
                                              0
                                              (gI
                                                ({ (s.wake (-1)) with ee := comeE (s.wake (-1)).21 (s.wake (-1)).23, n4 := lenI (allL (s.wake (-1)).21 (s.wake (-1)).23), l4 := allL (s.wake (-1)).21 (s.wake (-1)).23 }.wakes
                                                    (allO (s.wake (-1)).21 (s.wake (-1)).23) 0).32
                                                (nOf id)))),
                                        Col.int IntKind.i64
                                          (put
                                            ({ (s.wake (-1)) with ee := comeE (s.wake (-1)).21 (s.wake (-1)).23, n4 := lenI (allL (s.wake (-1)).21 (s.wake (-1)).23), l4 := allL (s.wake (-1)).21 (s.wake (-1)).23 }.wakes
                                                (allO (s.wake (-1)).21 (s.wake (-1)).23) 0).33
                                            (nOf id)
                                            (invI
                                              (thRuns
                                                (gI
                                                  ({ (s.wake (-1)) with ee := comeE (s.wake (-1)).21 (s.wake (-1)).23, n4 := lenI (allL (s.wake (-1)).21 (s.wake (-1)).23), l4 := allL (s.wake (-1)).21 (s.wake (-1)).23 }.wakes
                                                      (allO (s.wake (-1)).21 (s.wake (-1)).23) 0).26
                                                  (nOf id)))
                                              0
                                              (gI
                                                ({ (s.wake (-1)) with ee := comeE (s.wake (-1)).21 (s.wake (-1)).23, n4 := lenI (allL (s.wake (-1)).21 (s.wake (-1)).23), l4 := allL (s.wake (-1)).21 (s.wake (-1)).23 }.wakes
                                                    (allO (s.wake (-1)).21 (s.wake (-1)).23) 0).33
                                                (nOf id)))),
                                        Col.bool
                                          (put
                                            ({ (s.wake (-1)) with ee := comeE (s.wake (-1)).21 (s.wake (-1)).23, n4 := lenI (allL (s.wake (-1)).21 (s.wake (-1)).23), l4 := allL (s.wake (-1)).21 (s.wake (-1)).23 }.wakes
                                                (allO (s.wake (-1)).21 (s.wake (-1)).23) 0).34
                                            (nOf id)
                                            (invB
                                              (thRuns
                                                (gI
                                                  ({ (s.wake (-1)) with ee := comeE (s.wake (-1)).21 (s.wake (-1)).23, n4 := lenI (allL (s.wake (-1)).21 (s.wake (-1)).23), l4 := allL (s.wake (-1)).21 (s.wake (-1)).23 }.wakes
                                                      (allO (s.wake (-1)).21 (s.wake (-1)).23) 0).26
                                                  (nOf id)))
                                              (gB
                                                ({ (s.wake (-1)) with ee := comeE (s.wake (-1)).21 (s.wake (-1)).23, n4 := lenI (allL (s.wake (-1)).21 (s.wake (-1)).23), l4 := allL (s.wake (-1)).21 (s.wake (-1)).23 }.wakes
                                                    (allO (s.wake (-1)).21 (s.wake (-1)).23) 0).34
                                                (nOf id)))),
                                        Col.int IntKind.i64
                                          (put
                                            ({ (s.wake (-1)) with ee := comeE (s.wake (-1)).21 (s.wake (-1)).23, n4 := lenI (allL (s.wake (-1)).21 (s.wake (-1)).23), l4 := allL (s.wake (-1)).21 (s.wake (-1)).23 }.wakes
                                                (allO (s.wake (-1)).21 (s.wake (-1)).23) 0).35
                                            (nOf id)
                                            (gI
                                              ({ (s.wake (-1)) with ee := comeE (s.wake (-1)).21 (s.wake (-1)).23, n4 := lenI (allL (s.wake (-1)).21 (s.wake (-1)).23), l4 := allL (s.wake (-1)).21 (s.wake (-1)).23 }.wakes
                                                  (allO (s.wake (-1)).21 (s.wake (-1)).23) 0).35
                                              (nOf id))),
                                        Col.int IntKind.i64
                                          (put
                                            ({ (s.wake (-1)) with ee := comeE (s.wake (-1)).21 (s.wake (-1)).23, n4 := lenI (allL (s.wake (-1)).21 (s.wake (-1)).23), l4 := allL (s.wake (-1)).21 (s.wake (-1)).23 }.wakes
                                                (allO (s.wake (-1)).21 (s.wake (-1)).23) 0).36
                                            (nOf id)
                                            (gI
                                              ({ (s.wake (-1)) with ee := comeE (s.wake (-1)).21 (s.wake (-1)).23, n4 := lenI (allL (s.wake (-1)).21 (s.wake (-1)).23), l4 := allL (s.wake (-1)).21 (s.wake (-1)).23 }.wakes
                                                  (allO (s.wake (-1)).21 (s.wake (-1)).23) 0).36
                                              (nOf id)))],
                                    AV.own 51
                                      ({ (s.wake (-1)) with ee := comeE (s.wake (-1)).21 (s.wake (-1)).23, n4 := lenI (allL (s.wake (-1)).21 (s.wake (-1)).23), l4 := allL (s.wake (-1)).21 (s.wake (-1)).23 }.wakes
                                          (allO (s.wake (-1)).21 (s.wake (-1)).23) 0).37
                                      [Col.int IntKind.i64
                                          ({ (s.wake (-1)) with ee := comeE (s.wake (-1)).21 (s.wake (-1)).23, n4 := lenI (allL (s.wake (-1)).21 (s.wake (-1)).23), l4 := allL (s.wake (-1)).21 (s.wake (-1)).23 }.wakes
                                              (allO (s.wake (-1)).21 (s.wake (-1)).23) 0).38,
                                        Col.int IntKind.i64
                                          ({ (s.wake (-1)) with ee := comeE (s.wake (-1)).21 (s.wake (-1)).23, n4 := lenI (allL (s.wake (-1)).21 (s.wake (-1)).23), l4 := allL (s.wake (-1)).21 (s.wake (-1)).23 }.wakes
                                              (allO (s.wake (-1)).21 (s.wake (-1)).23) 0).39,
                                        Col.int IntKind.i64
                                          ({ (s.wake (-1)) with ee := comeE (s.wake (-1)).21 (s.wake (-1)).23, n4 := lenI (allL (s.wake (-1)).21 (s.wake (-1)).23), l4 := allL (s.wake (-1)).21 (s.wake (-1)).23 }.wakes
                                              (allO (s.wake (-1)).21 (s.wake (-1)).23) 0).40,
                                        Col.int IntKind.i64
                                          ({ (s.wake (-1)) with ee := comeE (s.wake (-1)).21 (s.wake (-1)).23, n4 := lenI (allL (s.wake (-1)).21 (s.wake (-1)).23), l4 := allL (s.wake (-1)).21 (s.wake (-1)).23 }.wakes
                                              (allO (s.wake (-1)).21 (s.wake (-1)).23) 0).41,
                                        Col.int IntKind.i64
                                          ({ (s.wake (-1)) with ee := comeE (s.wake (-1)).21 (s.wake (-1)).23, n4 := lenI (allL (s.wake (-1)).21 (s.wake (-1)).23), l4 := allL (s.wake (-1)).21 (s.wake (-1)).23 }.wakes
                                              (allO (s.wake (-1)).21 (s.wake (-1)).23) 0).42]]) =
                              some r)))))))))))))) := by kernel_rfl

theorem ok_step : PureOK Tryz.prog 10 Fstep := by
  refine tab_loopsAt mixed (l := tabClo2) ok_tabClo2 true 26 Lwake (by kernel_rfl) ok_Lwake fun xs b r h hb wf => ?_
  unfold Fstep at h
  split at h
  · rename_i a_s id
    split at h
    · rename_i s h_s
      obtain rfl := asSR_some h_s
      cases h
      try rw [some_f] at hb
      simp only [WFL, WF, List.mem_cons, List.not_mem_nil, or_false, forall_eq_or_imp, forall_eq, Col.len, and_true, true_and, wf_av] at wf
      rw [vc_step]
      simp only [SR.wake_neg]
      by_cases c : s.closer id = true
      · have hc := c
        simp only [SR.closer, SR.is, Bool.and_eq_true, decide_eq_true_eq] at hc
        obtain ⟨⟨c1, c2, c3⟩, c4, c5⟩ := hc
        have q : id.toNat < s.nt := by omega
        by_cases p0 : s.pc.getD id.toNat 0 = 0
        · have e : SR.step s id = s.shut id := by unfold SR.step; rw [if_pos c, if_pos p0]
          rw [e]
          have p0' : s.pc[id.toNat]?.getD 0 = 0 := p0
          have f1 : ∀ m, ({ s with md := m } : SR).fit = s.fit := fun _ => rfl
          simp [asrt_iff, br_iff, ieq_t, ieq_f, ine_t, ine_f, ilt_t, ilt_f, ile_t, ile_f, igt_t, igt_f, ige_t, ige_f, nlt_t, nlt_f, nle_t, nle_f, neq_t, neq_f, beq2_t, beq2_f, bnot_t, bnot_f, band_t, band_f, bite_t, bite_f, bimp_t, bimp_f, iadd_e, isub_e, imul_e, ofN_e, nOf_e, nAdd_e, nDiff_e, room_e, lenI_e, gI_e, gB_e, imin_e, imax_e, cat_e, pt_e, put_e, some_f, SR.fitW_fit, SR.wid_fit, hb, c, p0', c2, c3, q, f1, SR.tell_nt]
          simp only [SR.shut, SR.new, SR.tell_nt]
          rfl
        · obtain ⟨hb1, hb2⟩ := (SR.fit_iff s).1 hb
          by_cases p1 : s.pc.getD id.toNat 0 = 1
          · have e : SR.step s id = { s.bell with pc := s.bell.pc.set id.toNat 2 } := by unfold SR.step; rw [if_pos c, if_neg p0, if_pos p1]
            rw [e]
            have p1' : s.pc[id.toNat]?.getD 0 = 1 := p1
            have k1 := allL_len s.fe s.l3
            have k2 := allO_len s.fe s.l3
            have k3 := wf.l3
            have f2 : ({ s with fe := comeE s.fe s.l3, n3 := (allL s.fe s.l3).length, l3 := allL s.fe s.l3 } : SR).fit = true := (SR.fit_iff _).2 ⟨hb1, by dsimp only; omega⟩
            have k4 : (allO s.fe s.l3).length ≤ 1000000 := by omega
            have k5 : s.n3 ≤ 1073741824 := by omega
            simp [asrt_iff, br_iff, ieq_t, ieq_f, ine_t, ine_f, ilt_t, ilt_f, ile_t, ile_f, igt_t, igt_f, ige_t, ige_f, nlt_t, nlt_f, nle_t, nle_f, neq_t, neq_f, beq2_t, beq2_f, bnot_t, bnot_f, band_t, band_f, bite_t, bite_f, bimp_t, bimp_f, iadd_e, isub_e, imul_e, ofN_e, nOf_e, nAdd_e, nDiff_e, room_e, lenI_e, gI_e, gB_e, imin_e, imax_e, cat_e, pt_e, put_e, some_f, SR.fitW_fit, SR.wid_fit, hb, c, p1', c2, c3, q, f2, k4, k5, SR.wakes_nt]
            simp only [SR.bell, SR.new, SR.wakes_nt]
          · have e : SR.step s id = s.bell2.done id := by unfold SR.step; rw [if_pos c, if_neg p0, if_neg p1]
            rw [e]
            have p0' : ¬ s.pc[id.toNat]?.getD 0 = 0 := p0
            have p1' : ¬ s.pc[id.toNat]?.getD 0 = 1 := p1
            have k1 := allL_len s.ee s.l4
            have k2 := allO_len s.ee s.l4
            have k3 := wf.l4
            have f2 : ({ s with ee := comeE s.ee s.l4, n4 := (allL s.ee s.l4).length, l4 := allL s.ee s.l4 } : SR).fit = true := (SR.fit_iff _).2 ⟨hb1, by dsimp only; omega⟩
            have k4 : (allO s.ee s.l4).length ≤ 1000000 := by omega
            have k5 : s.n4 ≤ 1073741824 := by omega
            simp [asrt_iff, br_iff, ieq_t, ieq_f, ine_t, ine_f, ilt_t, ilt_f, ile_t, ile_f, igt_t, igt_f, ige_t, ige_f, nlt_t, nlt_f, nle_t, nle_f, neq_t, neq_f, beq2_t, beq2_f, bnot_t, bnot_f, band_t, band_f, bite_t, bite_f, bimp_t, bimp_f, iadd_e, isub_e, imul_e, ofN_e, nOf_e, nAdd_e, nDiff_e, room_e, lenI_e, gI_e, gB_e, imin_e, imax_e, cat_e, pt_e, put_e, some_f, SR.fitW_fit, SR.wid_fit, hb, c, p0', p1', c2, c3, q, f2, k4, k5, SR.wakes_nt]
            simp only [SR.bell2, SR.done, SR.new, SR.wakes_nt, setI_any, List.getD_eq_getElem?_getD]
      · have e : SR.step s id = s := by unfold SR.step; rw [if_neg c]
        rw [e]
        simp [asrt_iff, br_iff, ieq_t, ieq_f, ine_t, ine_f, ilt_t, ilt_f, ile_t, ile_f, igt_t, igt_f, ige_t, ige_f, nlt_t, nlt_f, nle_t, nle_f, neq_t, neq_f, beq2_t, beq2_f, bnot_t, bnot_f, band_t, band_f, bite_t, bite_f, bimp_t, bimp_f, iadd_e, isub_e, imul_e, ofN_e, nOf_e, nAdd_e, nDiff_e, room_e, lenI_e, gI_e, gB_e, imin_e, imax_e, cat_e, pt_e, put_e, some_f, SR.fitW_fit, SR.wid_fit, hb, c, SR.new]
    · cases h
  · cases h


end Go.Own
