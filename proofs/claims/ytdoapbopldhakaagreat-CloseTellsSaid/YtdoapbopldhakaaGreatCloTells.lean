/- A law of who closes: any step, and some, are what the document says. -/
import Derived.Test.YtdoapbopldhakaaGreatCloRef
import Derived.Test.YtdoapbopldhakaaGreatFabOpen
namespace Go.Own
open Go Go.Proofs
set_option maxRecDepth 100000
set_option linter.unusedVariables false
set_option linter.unusedSimpArgs false

/-- A state with another thread at a place. -/
def SR.withT (s : SR) (id a b c d e f g h : Int) (l : Bool) (m n : Int) : SR := { s with st := s.st.set id.toNat a, kd := s.kd.set id.toNat b, vl := s.vl.set id.toNat c, un := s.un.set id.toNat d, pc := s.pc.set id.toNat e, rg := s.rg.set id.toNat f, sn := s.sn.set id.toNat g, tr := s.tr.set id.toNat h, lt := s.lt.set id.toNat l, rs := s.rs.set id.toNat m, gt := s.gt.set id.toNat n }

def SR.setPc (s : SR) (id pc : Int) : SR := { s with pc := s.pc.set id.toNat pc }

def SR.runs (s : SR) (id side : Int) : Bool := s.is id && decide (s.st.getD id.toNat 0 = 1 ∧ opSide (s.kd.getD id.toNat 0) = side)

def SR.ring (s : SR) : SR := { s with fe := comeE s.fe s.l3, n3 := (allL s.fe s.l3).length, l3 := allL s.fe s.l3 }

def SR.ring2 (s : SR) : SR := { s with ee := comeE s.ee s.l4, n4 := (allL s.ee s.l4).length, l4 := allL s.ee s.l4 }


theorem am_eq (th : Int) (l : List Int) : amB th l = (lineOk l && decide (amBadAt th l 0 < 0)) := by
  unfold amB
  rw [Bool.eq_iff_iff]
  simp only [Bool.and_eq_true, decide_eq_true_eq]
  constructor
  · rintro ⟨h1, h2⟩
    refine ⟨h2, ?_⟩
    unfold amBadAt
    rw [List.drop_zero]
    have : l.findIdx? (amBad th) = none := by
      rw [List.findIdx?_eq_none_iff]
      intro x hx
      have h3 := ((lineOk_iff l).1 h2).1 x hx
      unfold amNo at h1
      rw [List.drop_zero, List.all_eq_true] at h1
      have := h1 x hx
      simp only [decide_eq_true_eq] at this
      simp only [amBad, decide_eq_false_iff_not]
      omega
    rw [this]
    decide
  · rintro ⟨h1, h2⟩
    refine ⟨?_, h1⟩
    unfold amNo
    rw [List.drop_zero, List.all_eq_true]
    intro x hx
    unfold amBadAt at h2
    rw [List.drop_zero] at h2
    cases hf : l.findIdx? (amBad th) with
    | some j => rw [hf] at h2; simp only at h2; omega
    | none =>
      have := List.findIdx?_eq_none_iff.1 hf x hx
      simp only [amBad, decide_eq_false_iff_not] at this
      simp only [decide_eq_true_eq]
      omega

theorem setB_any (l : List Bool) (i : Nat) : l.set i (l[i]?.getD false) = l := by
  by_cases h : i < l.length
  · rw [List.getElem?_eq_getElem h]
    exact List.set_getElem_self h
  · exact List.set_eq_of_length_le (by omega)

theorem SR.is_in {s : SR} {id : Int} (h : s.is id = true) : s.ok = true ∧ 0 ≤ id ∧ id < s.nt := by
  simp only [SR.is, Bool.and_eq_true, decide_eq_true_eq] at h
  exact ⟨h.1, h.2.1, h.2.2⟩

theorem SR.fit_nl {s : SR} (h : s.fit = true) : s.nl ≤ 1000000 ∧ s.nt ≤ 1000000 ∧ s.n3 ≤ 1000000 ∧ s.n4 ≤ 1000000 := by
  obtain ⟨_, h⟩ := (SR.fit_iff s).1 h
  omega

def tabR5 : List (FuncId × Pure1) := [(30, FrAll)] ++ tabR4

theorem ok_tabR5 : ∀ p ∈ tabR5, PureOK Tryz.prog p.1 p.2 := by
  intro p hp
  simp only [tabR5, List.mem_append, List.mem_cons, List.not_mem_nil, or_false] at hp
  rcases hp with (rfl) | hp
  · exact ok_rAll
  · exact ok_tabR4 p hp


def spec_rChk : LoopSpec := { n := 105, keep := [1, 3, 4], srcs := [.tmp 1], keepE := [1, 2, 3], srcsE := [.tmp 1], goes := fun vals objs Q => match vals, objs with
  | [.ptr 0 0 0, .int .i64 room, .int .i64 i], [some (.var c_s)] => (match asSR (.agg c_s) with | some s => asrt (band (SR.fit s) (band (ile 0 i) (ile i (ofN s.nt)))) (br (ilt (badThAt s.nt s.st s.kd s.un s.pc s.rg s.sn s.tr s.lt s.rs (nOf i)) 0) (Q (.exit 0) [.ptr 0 0 0, .top, .int .i64 room] [some (.var s.cells)]) (Q .ret [.ptr 0 0 0, .bool false, .int .i64 room] [some (.var s.cells)])) | none => False)
  | _, _ => False }

theorem lp_rChk (room i : Int) (s : SR) (mu : List AV → Heap → Nat) (Q : Ex → List AV → Heap → Prop) : runCode Tryz.prog (tabS tabR5) (callN Tryz.prog (tabS tabR5) noL 11) (fun _ => none) (bodyOf Tryz.prog 75 0) 0 ⟨mkT (spec_rChk).keep [.ptr 0 0 0, .int .i64 room, .int .i64 i] (spec_rChk).n 0, [some (.var s.cells)]⟩ ((spec_rChk).ends mu [.ptr 0 0 0, .int .i64 room, .int .i64 i] ([some (.var s.cells)]) Q) = (
  br (ilt i (ofN s.25))
    (asrt (band (ile 0 i) (ilt i (ofN s.25)))
      (br
        (bnot
          (thOk (gI s.26 (nOf i)) (gI s.27 (nOf i)) (gI s.29 (nOf i)) (gI s.30 (nOf i)) (gI s.31 (nOf i))
            (gI s.32 (nOf i)) (gI s.33 (nOf i)) (gB s.34 (nOf i)) (gI s.35 (nOf i))))
        (Q Ex.ret [AV.ptr 0 0 0, AV.bool false, AV.int IntKind.i64 room]
          [some
              (AObj.var
                (SR.cells s))])
        ((mu [AV.ptr 0 0 0, AV.int IntKind.i64 room, AV.int IntKind.i64 (iadd IntKind.i64 i 1)]
                  [some
                      (AObj.var
                        (SR.cells s))]).succ.le
            (mu [AV.ptr 0 0 0, AV.int IntKind.i64 room, AV.int IntKind.i64 i]
              [some
                  (AObj.var
                    (SR.cells s))]) ∧
          asrt (band s.fit (band (ile 0 (iadd IntKind.i64 i 1)) (ile (iadd IntKind.i64 i 1) (ofN s.25))))
            (br (ilt (badThAt s.25 s.26 s.27 s.29 s.30 s.31 s.32 s.33 s.34 s.35 (nOf (iadd IntKind.i64 i 1))) 0)
              (Q (Ex.exit 0) [AV.ptr 0 0 0, AV.top, AV.int IntKind.i64 room]
                [some
                    (AObj.var
                      (SR.cells s))])
              (Q Ex.ret [AV.ptr 0 0 0, AV.bool false, AV.int IntKind.i64 room]
                [some
                    (AObj.var
                      (SR.cells s))])))))
    (Q (Ex.exit 0) [AV.ptr 0 0 0, AV.top, AV.int IntKind.i64 room]
      [some
          (AObj.var
            (SR.cells s))])) := by kernel_rfl

theorem loop_rChk : LoopOK Tryz.prog (bodyOf Tryz.prog 75 0) spec_rChk.summ := by
  refine tab_loop mixed (l := tabR5) ok_tabR5 (i := 0) spec_rChk (fun vals objs => match vals, objs with
    | [.ptr 0 0 0, .int .i64 room, .int .i64 i], [some (.var c_s)] => (match asSR (.agg c_s) with | some s => (ofN s.nt - i).toNat | none => 0)
    | _, _ => 0) fun vals objs Q h1 h2 wf wo hg => ?_
  unfold spec_rChk at hg
  simp only at hg
  split at hg
  · rename_i room i c_s
    clear h1 h2
    have h_s := asSR_cases hg
    obtain ⟨s, h_s⟩ := h_s
    obtain rfl := cells_of h_s
    rw [h_s] at hg
    simp only at hg
    try simp only [WFL, WF, List.mem_cons, List.not_mem_nil, or_false, forall_eq_or_imp, forall_eq, Col.len, and_true, true_and] at wf
    rw [lp_rChk]
    simp [asrt_iff, br_iff, ieq_t, ieq_f, ine_t, ine_f, ilt_t, ilt_f, ile_t, ile_f, igt_t, igt_f, ige_t, ige_f, nlt_t, nlt_f, nle_t, nle_f, neq_t, neq_f, beq2_t, beq2_f, bnot_t, bnot_f, band_t, band_f, bite_t, bite_f, bimp_t, bimp_f, iadd_e, isub_e, imul_e, ofN_e, nOf_e, nAdd_e, nDiff_e, room_e, lenI_e, gI_e, gB_e, imin_e, imax_e, cat_e, pt_e, put_e, some_f] at hg ⊢
    obtain ⟨⟨hf, h0, hn⟩, hg⟩ := hg
    obtain ⟨b1, b2⟩ := (SR.fit_iff s).1 hf
    obtain ⟨k, rfl⟩ := Int.eq_ofNat_of_zero_le h0
    simp at hn hg ⊢
    have e4 : asSR (AV.agg s.cells) = some s := rfl
    rw [e4]
    simp only
    refine ⟨fun hk => ?_, fun hk => ?_⟩
    · have hw : IntKind.i64.wrap ((k : Int) + 1) = (k : Int) + 1 := wr (by omega) (by omega)
      have e2 : ((k : Int) + 1).toNat = k + 1 := by omega
      rw [hw, e2]
      rw [thAt_lt hk] at hg
      refine ⟨hk, fun hx => ?_, fun hx => ?_⟩
      · rw [if_pos (by simpa [badTh, List.getD_eq_getElem?_getD] using hx)] at hg
        exact hg.2 (by omega)
      · rw [if_neg (by simpa [badTh, List.getD_eq_getElem?_getD] using hx)] at hg
        exact ⟨by omega, ⟨hf, by omega, by omega⟩, hg⟩
    · rw [thAt_ge (by omega)] at hg
      exact hg.1 (by omega)
  · exact hg.elim


def LrChk : Nat → Option LoopS := fun i => match i with
  | 0 => some (.summ spec_rChk.summ)
  | _ => none

theorem ok_LrChk : ∀ i x, LrChk i = some x → LoopHyp Tryz.prog 75 i x := by
  intro i s h
  unfold LrChk at h
  split at h
  · cases h; exact ⟨by kernel_rfl, loop_rChk⟩
  · cases h


def FrChk : Pure1 := fun
  | [a_s] => (match asSR a_s with | some s => some (some (SR.fit s), .bool (SR.ok s)) | none => none)
  | _ => none

theorem vc_rChk (s : SR) (r : AV) : VC Tryz.prog (tabS tabR5) (oneL 75 LrChk) false 75 [s.av] r = (
  br
    (bite
      (bite
        (bite (bite (ieq (roomOf s.1 s.2 s.3 s.4 s.5 s.6) 0) true (ine (ofN s.11) (roomOf s.1 s.2 s.3 s.4 s.5 s.6)))
          true (ine (ofN s.25) s.2))
        true (ilt s.24 0))
      true (igt s.24 1099511627776))
    (some (AV.bool false) = some r)
    (asrt (band s.fit (ile 0 (ofN s.25)))
      (br (ilt (badThAt s.25 s.26 s.27 s.29 s.30 s.31 s.32 s.33 s.34 s.35 0) 0)
        (asrt (nle s.19 big)
          (asrt (bimp (evOk s.18 s.20) (nle s.22 big))
            (asrt
              (bimp
                (bite (bite (wordOk s.8 s.9 s.10 (roomOf s.1 s.2 s.3 s.4 s.5 s.6)) (slotsOk s.11 s.12) false)
                  (bite (evOk s.18 s.20) (evOk s.21 s.23) false) false)
                (nle s.14 big))
              (asrt
                (bimp
                  (bite
                    (bite (bite (wordOk s.8 s.9 s.10 (roomOf s.1 s.2 s.3 s.4 s.5 s.6)) (slotsOk s.11 s.12) false)
                      (bite (evOk s.18 s.20) (evOk s.21 s.23) false) false)
                    (amB s.2 s.15) false)
                  (nle s.16 big))
                (asrt
                  (bimp
                    (bite
                      (bite
                        (bite (bite (wordOk s.8 s.9 s.10 (roomOf s.1 s.2 s.3 s.4 s.5 s.6)) (slotsOk s.11 s.12) false)
                          (bite (evOk s.18 s.20) (evOk s.21 s.23) false) false)
                        (amB s.2 s.15) false)
                      (amB s.2 s.17) false)
                    (nle s.19 big))
                  (asrt
                    (bimp
                      (bite
                        (bite
                          (bite
                            (bite
                              (bite (wordOk s.8 s.9 s.10 (roomOf s.1 s.2 s.3 s.4 s.5 s.6)) (slotsOk s.11 s.12) false)
                              (bite (evOk s.18 s.20) (evOk s.21 s.23) false) false)
                            (amB s.2 s.15) false)
                          (amB s.2 s.17) false)
                        (amB s.2 s.20) false)
                      (nle s.22 big))
                    (some
                        (AV.bool
                          (bite
                            (bite
                              (bite
                                (bite
                                  (bite
                                    (bite (wordOk s.8 s.9 s.10 (roomOf s.1 s.2 s.3 s.4 s.5 s.6)) (slotsOk s.11 s.12)
                                      false)
                                    (bite (evOk s.18 s.20) (evOk s.21 s.23) false) false)
                                  (amB s.2 s.15) false)
                                (amB s.2 s.17) false)
                              (amB s.2 s.20) false)
                            (amB s.2 s.23) false)) =
                      some r)))))))
        (some (AV.bool false) = some r)))) := by kernel_rfl

theorem ok_rChk : PureOK Tryz.prog 75 FrChk := by
  refine tab_loops mixed (l := tabR5) ok_tabR5 false LrChk (by kernel_rfl) ok_LrChk fun xs b r h hb wf => ?_
  unfold FrChk at h
  split at h
  · rename_i a_s
    split at h
    · rename_i s h_s
      obtain rfl := asSR_some h_s
      cases h
      try rw [some_f] at hb
      simp only [WFL, WF, List.mem_cons, List.not_mem_nil, or_false, forall_eq_or_imp, forall_eq, Col.len, and_true, true_and, wf_av] at wf
      rw [vc_rChk]
      simp only [bite_and, bite_or]
      have q : ∀ n, n ≤ 1000000 → n ≤ big := fun n h => le_big (by omega)
      obtain ⟨b1, b2⟩ := (SR.fit_iff s).1 hb
      have no : (∀ h : s.ok = true, False) → s.ok = false := fun h => Bool.eq_false_iff.2 h
      have q1 := q s.n1 (by omega)
      have q2 := q s.n2 (by omega)
      have q3 := q s.n3 (by omega)
      have q4 := q s.n4 (by omega)
      rw [br_iff]
      refine ⟨fun h => ?_, fun h => ?_⟩
      · rw [no fun ho => ?_]
        rw [SR.ok_iff] at ho
        simp [asrt_iff, br_iff, ieq_t, ieq_f, ine_t, ine_f, ilt_t, ilt_f, ile_t, ile_f, igt_t, igt_f, ige_t, ige_f, nlt_t, nlt_f, nle_t, nle_f, neq_t, neq_f, beq2_t, beq2_f, bnot_t, bnot_f, band_t, band_f, bite_t, bite_f, bimp_t, bimp_f, iadd_e, isub_e, imul_e, ofN_e, nOf_e, nAdd_e, nDiff_e, room_e, lenI_e, gI_e, gB_e, imin_e, imax_e, cat_e, pt_e, put_e, some_f] at h
        omega
      · simp only [asrt_iff]
        refine ⟨by simp [asrt_iff, br_iff, ieq_t, ieq_f, ine_t, ine_f, ilt_t, ilt_f, ile_t, ile_f, igt_t, igt_f, ige_t, ige_f, nlt_t, nlt_f, nle_t, nle_f, neq_t, neq_f, beq2_t, beq2_f, bnot_t, bnot_f, band_t, band_f, bite_t, bite_f, bimp_t, bimp_f, iadd_e, isub_e, imul_e, ofN_e, nOf_e, nAdd_e, nDiff_e, room_e, lenI_e, gI_e, gB_e, imin_e, imax_e, cat_e, pt_e, put_e, some_f, hb], ?_⟩
        rw [br_iff]
        refine ⟨fun h2 => ?_, fun h2 => ?_⟩
        · simp only [nle_t, bimp_t]
          refine ⟨q3, fun _ => q4, fun _ => q1, fun _ => q2, fun _ => q3, fun _ => q4, ?_⟩
          refine congrArg (fun b => some (AV.bool b)) ?_
          simp only [am_eq]
          rw [Bool.eq_iff_iff, SR.ok_iff]
          simp [asrt_iff, br_iff, ieq_t, ieq_f, ine_t, ine_f, ilt_t, ilt_f, ile_t, ile_f, igt_t, igt_f, ige_t, ige_f, nlt_t, nlt_f, nle_t, nle_f, neq_t, neq_f, beq2_t, beq2_f, bnot_t, bnot_f, band_t, band_f, bite_t, bite_f, bimp_t, bimp_f, iadd_e, isub_e, imul_e, ofN_e, nOf_e, nAdd_e, nDiff_e, room_e, lenI_e, gI_e, gB_e, imin_e, imax_e, cat_e, pt_e, put_e, some_f] at h h2
          simp [amOk]
          grind
        · rw [no fun ho => ?_]
          rw [SR.ok_iff] at ho
          simp [asrt_iff, br_iff, ieq_t, ieq_f, ine_t, ine_f, ilt_t, ilt_f, ile_t, ile_f, igt_t, igt_f, ige_t, ige_f, nlt_t, nlt_f, nle_t, nle_f, neq_t, neq_f, beq2_t, beq2_f, bnot_t, bnot_f, band_t, band_f, bite_t, bite_f, bimp_t, bimp_f, iadd_e, isub_e, imul_e, ofN_e, nOf_e, nAdd_e, nDiff_e, room_e, lenI_e, gI_e, gB_e, imin_e, imax_e, cat_e, pt_e, put_e, some_f] at h2
          omega
    · cases h
  · cases h


def tabR6 : List (FuncId × Pure1) := [(75, FrChk)] ++ tabR5

theorem ok_tabR6 : ∀ p ∈ tabR6, PureOK Tryz.prog p.1 p.2 := by
  intro p hp
  simp only [tabR6, List.mem_append, List.mem_cons, List.not_mem_nil, or_false] at hp
  rcases hp with (rfl) | hp
  · exact ok_rChk
  · exact ok_tabR5 p hp


def FrIs : Pure1 := fun
  | [a_s, .int .i64 id] => (match asSR a_s with | some s => some (some (SR.fit s), .bool (SR.is s id)) | none => none)
  | _ => none

theorem vc_rIs (s : SR) (id : Int) (r : AV) : VC Tryz.prog (tabS tabR6) noL false 49 [s.av, .int .i64 id] r = (
asrt s.fit (some (AV.bool (bite (bite s.ok (ige id 0) false) (ilt id (ofN s.25)) false)) = some r)) := by kernel_rfl

theorem ok_rIs : PureOK Tryz.prog 49 FrIs := by
  refine tab_plain mixed (l := tabR6) ok_tabR6 false (by kernel_rfl) fun xs b r h hb wf => ?_
  unfold FrIs at h
  split at h
  · rename_i a_s id
    split at h
    · rename_i s h_s
      obtain rfl := asSR_some h_s
      cases h
      try rw [some_f] at hb
      simp only [WFL, WF, List.mem_cons, List.not_mem_nil, or_false, forall_eq_or_imp, forall_eq, Col.len, and_true, true_and, wf_av] at wf
      rw [vc_rIs]
      simp only [bite_and, bite_or]
      rw [asrt_iff]
      refine ⟨hb, congrArg (fun b => some (AV.bool b)) ?_⟩
      rw [Bool.eq_iff_iff]
      simp [asrt_iff, br_iff, ieq_t, ieq_f, ine_t, ine_f, ilt_t, ilt_f, ile_t, ile_f, igt_t, igt_f, ige_t, ige_f, nlt_t, nlt_f, nle_t, nle_f, neq_t, neq_f, beq2_t, beq2_f, bnot_t, bnot_f, band_t, band_f, bite_t, bite_f, bimp_t, bimp_f, iadd_e, isub_e, imul_e, ofN_e, nOf_e, nAdd_e, nDiff_e, room_e, lenI_e, gI_e, gB_e, imin_e, imax_e, cat_e, pt_e, put_e, some_f, SR.is, and_assoc]
    · cases h
  · cases h


def FrWith : Pure1 := fun
  | [a_s, .int .i64 id, .agg [.int .i64 a, .int .i64 b, .int .i64 c, .int .i64 d, .int .i64 e, .int .i64 f, .int .i64 g, .int .i64 h, .bool l, .int .i64 m, .int .i64 n]] => (match asSR a_s with | some s => some (some (band (SR.fit s) (band (ile 0 id) (ilt id (ofN s.nt)))), (SR.withT s id a b c d e f g h l m n).av) | none => none)
  | _ => none

theorem vc_rWith (s : SR) (id a b c d e f g h : Int) (l : Bool) (m n : Int) (r : AV) : VC Tryz.prog (tabS tabR6) noL false 34 [s.av, .int .i64 id, .agg [.int .i64 a, .int .i64 b, .int .i64 c, .int .i64 d, .int .i64 e, .int .i64 f, .int .i64 g, .int .i64 h, .bool l, .int .i64 m, .int .i64 n]] r = (
  asrt (nle (nAdd 0 s.25) 1599289640401)
    (asrt (band (ile 0 id) (ilt id (ofN (nAdd 0 s.25))))
      (asrt (nlt (nOf id) (nAdd 0 s.25))
        (some
            (AV.agg
              [AV.int IntKind.i64 s.1, AV.int IntKind.i64 s.2, AV.int IntKind.i64 s.3, AV.int IntKind.i64 s.4,
                AV.int IntKind.i64 s.5, AV.int IntKind.i64 s.6, AV.bool s.7, AV.int IntKind.i64 s.8,
                AV.int IntKind.i64 s.9, AV.int IntKind.i64 s.10,
                AV.sl s.11 [Col.int IntKind.i64 s.12, Col.int IntKind.i64 s.13], AV.sl s.14 [Col.int IntKind.i64 s.15],
                AV.sl s.16 [Col.int IntKind.i64 s.17], AV.int IntKind.i64 s.18, AV.sl s.19 [Col.int IntKind.i64 s.20],
                AV.int IntKind.i64 s.21, AV.sl s.22 [Col.int IntKind.i64 s.23], AV.int IntKind.i64 s.24,
                AV.sl (nAdd 0 s.25)
                  [Col.int IntKind.i64 (put (cat [] s.26) (nOf id) a),
                    Col.int IntKind.i64 (put (cat [] s.27) (nOf id) b),
                    Col.int IntKind.i64 (put (cat [] s.28) (nOf id) c),
                    Col.int IntKind.i64 (put (cat [] s.29) (nOf id) d),
                    Col.int IntKind.i64 (put (cat [] s.30) (nOf id) e),
                    Col.int IntKind.i64 (put (cat [] s.31) (nOf id) f),
                    Col.int IntKind.i64 (put (cat [] s.32) (nOf id) g),
                    Col.int IntKind.i64 (put (cat [] s.33) (nOf id) h), Col.bool (put (cat [] s.34) (nOf id) l),
                    Col.int IntKind.i64 (put (cat [] s.35) (nOf id) m),
                    Col.int IntKind.i64 (put (cat [] s.36) (nOf id) n)],
                AV.sl s.37
                  [Col.int IntKind.i64 s.38, Col.int IntKind.i64 s.39, Col.int IntKind.i64 s.40,
                    Col.int IntKind.i64 s.41, Col.int IntKind.i64 s.42]]) =
          some r)))) := by kernel_rfl

theorem ok_rWith : PureOK Tryz.prog 34 FrWith := by
  refine tab_plain mixed (l := tabR6) ok_tabR6 false (by kernel_rfl) fun xs b r h hb wf => ?_
  unfold FrWith at h
  split at h
  · rename_i a_s id a b c d e f g h l m n
    split at h
    · rename_i s h_s
      obtain rfl := asSR_some h_s
      cases h
      try rw [some_f] at hb
      simp only [WFL, WF, List.mem_cons, List.not_mem_nil, or_false, forall_eq_or_imp, forall_eq, Col.len, and_true, true_and, wf_av] at wf
      rw [vc_rWith]
      simp only [band_t, ile_t, ilt_t, ofN_e] at hb
      obtain ⟨hf, h0, h1⟩ := hb
      have := SR.fit_nl hf
      simp only [asrt_iff, nle_t, nlt_t, band_t, ile_t, ilt_t, nAdd_e, Nat.zero_add, ofN_e, cat_e, List.nil_append, put_e, nOf_e]
      exact ⟨by omega, ⟨h0, h1⟩, by omega, rfl⟩
    · cases h
  · cases h


def tabR7 : List (FuncId × Pure1) := [(49, FrIs), (34, FrWith)] ++ tabR6

theorem ok_tabR7 : ∀ p ∈ tabR7, PureOK Tryz.prog p.1 p.2 := by
  intro p hp
  simp only [tabR7, List.mem_append, List.mem_cons, List.not_mem_nil, or_false] at hp
  rcases hp with (rfl | rfl) | hp
  · exact ok_rIs
  · exact ok_rWith
  · exact ok_tabR6 p hp


def FrTell : Pure1 := fun
  | [a_s, .int .i64 id, .int .i64 kind, .int .i64 res, .int .i64 got] => (match asSR a_s with | some s => some (some (SR.fit s), (SR.tell s id kind res got).av) | none => none)
  | _ => none

theorem vc_rTell (s : SR) (id kind res got : Int) (r : AV) : VC Tryz.prog (tabS tabR7) noL false 55 [s.av, .int .i64 id, .int .i64 kind, .int .i64 res, .int .i64 got] r = (
  asrt s.fit
    (br (bnot (s.is id))
      (some
          (AV.agg
            (SR.cells s)) =
        some r)
      (asrt (band (ile 0 id) (ilt id (ofN s.25)))
        (br (ine kind 9)
          (asrt (band s.fit (band (ile 0 id) (ilt id (ofN s.25))))
            (asrt
              (nle
                (nAdd 0
                  (s.withT id (gI s.26 (nOf id)) (gI s.27 (nOf id)) (gI s.28 (nOf id)) (gI s.29 (nOf id))
                      (gI s.30 (nOf id)) (gI s.31 (nOf id)) (gI s.32 (nOf id)) (gI s.33 (nOf id)) (gB s.34 (nOf id)) res
                      got).37)
                3518437208883)
              (asrt
                (nle
                  (nAdd
                    (nAdd 0
                      (s.withT id (gI s.26 (nOf id)) (gI s.27 (nOf id)) (gI s.28 (nOf id)) (gI s.29 (nOf id))
                          (gI s.30 (nOf id)) (gI s.31 (nOf id)) (gI s.32 (nOf id)) (gI s.33 (nOf id)) (gB s.34 (nOf id))
                          res got).37)
                    1)
                  3518437208883)
                (some
                    (AV.agg
                      [AV.int IntKind.i64
                          (s.withT id (gI s.26 (nOf id)) (gI s.27 (nOf id)) (gI s.28 (nOf id)) (gI s.29 (nOf id))
                              (gI s.30 (nOf id)) (gI s.31 (nOf id)) (gI s.32 (nOf id)) (gI s.33 (nOf id))
                              (gB s.34 (nOf id)) res got).1,
                        AV.int IntKind.i64
                          (s.withT id (gI s.26 (nOf id)) (gI s.27 (nOf id)) (gI s.28 (nOf id)) (gI s.29 (nOf id))
                              (gI s.30 (nOf id)) (gI s.31 (nOf id)) (gI s.32 (nOf id)) (gI s.33 (nOf id))
                              (gB s.34 (nOf id)) res got).2,
                        AV.int IntKind.i64
                          (s.withT id (gI s.26 (nOf id)) (gI s.27 (nOf id)) (gI s.28 (nOf id)) (gI s.29 (nOf id))
                              (gI s.30 (nOf id)) (gI s.31 (nOf id)) (gI s.32 (nOf id)) (gI s.33 (nOf id))
                              (gB s.34 (nOf id)) res got).3,
                        AV.int IntKind.i64
                          (s.withT id (gI s.26 (nOf id)) (gI s.27 (nOf id)) (gI s.28 (nOf id)) (gI s.29 (nOf id))
                              (gI s.30 (nOf id)) (gI s.31 (nOf id)) (gI s.32 (nOf id)) (gI s.33 (nOf id))
                              (gB s.34 (nOf id)) res got).4,
                        AV.int IntKind.i64
                          (s.withT id (gI s.26 (nOf id)) (gI s.27 (nOf id)) (gI s.28 (nOf id)) (gI s.29 (nOf id))
                              (gI s.30 (nOf id)) (gI s.31 (nOf id)) (gI s.32 (nOf id)) (gI s.33 (nOf id))
                              (gB s.34 (nOf id)) res got).5,
                        AV.int IntKind.i64
                          (s.withT id (gI s.26 (nOf id)) (gI s.27 (nOf id)) (gI s.28 (nOf id)) (gI s.29 (nOf id))
                              (gI s.30 (nOf id)) (gI s.31 (nOf id)) (gI s.32 (nOf id)) (gI s.33 (nOf id))
                              (gB s.34 (nOf id)) res got).6,
                        AV.bool
                          (s.withT id (gI s.26 (nOf id)) (gI s.27 (nOf id)) (gI s.28 (nOf id)) (gI s.29 (nOf id))
                              (gI s.30 (nOf id)) (gI s.31 (nOf id)) (gI s.32 (nOf id)) (gI s.33 (nOf id))
                              (gB s.34 (nOf id)) res got).7,
                        AV.int IntKind.i64
                          (s.withT id (gI s.26 (nOf id)) (gI s.27 (nOf id)) (gI s.28 (nOf id)) (gI s.29 (nOf id))
                              (gI s.30 (nOf id)) (gI s.31 (nOf id)) (gI s.32 (nOf id)) (gI s.33 (nOf id))
                              (gB s.34 (nOf id)) res got).8,
                        AV.int IntKind.i64
                          (s.withT id (gI s.26 (nOf id)) (gI s.27 (nOf id)) (gI s.28 (nOf id)) (gI s.29 (nOf id))
                              (gI s.30 (nOf id)) (gI s.31 (nOf id)) (gI s.32 (nOf id)) (gI s.33 (nOf id))
                              (gB s.34 (nOf id)) res got).9,
                        AV.int IntKind.i64
                          (s.withT id (gI s.26 (nOf id)) (gI s.27 (nOf id)) (gI s.28 (nOf id)) (gI s.29 (nOf id))
                              (gI s.30 (nOf id)) (gI s.31 (nOf id)) (gI s.32 (nOf id)) (gI s.33 (nOf id))
                              (gB s.34 (nOf id)) res got).10,
                        AV.sl
                          (s.withT id (gI s.26 (nOf id)) (gI s.27 (nOf id)) (gI s.28 (nOf id)) (gI s.29 (nOf id))
                              (gI s.30 (nOf id)) (gI s.31 (nOf id)) (gI s.32 (nOf id)) (gI s.33 (nOf id))
                              (gB s.34 (nOf id)) res got).11
                          [Col.int IntKind.i64
                              (s.withT id (gI s.26 (nOf id)) (gI s.27 (nOf id)) (gI s.28 (nOf id)) (gI s.29 (nOf id))
                                  (gI s.30 (nOf id)) (gI s.31 (nOf id)) (gI s.32 (nOf id)) (gI s.33 (nOf id))
                                  (gB s.34 (nOf id)) res got).12,
                            Col.int IntKind.i64
                              (s.withT id (gI s.26 (nOf id)) (gI s.27 (nOf id)) (gI s.28 (nOf id)) (gI s.29 (nOf id))
                                  (gI s.30 (nOf id)) (gI s.31 (nOf id)) (gI s.32 (nOf id)) (gI s.33 (nOf id))
                                  (gB s.34 (nOf id)) res got).13],
                        AV.sl
                          (s.withT id (gI s.26 (nOf id)) (gI s.27 (nOf id)) (gI s.28 (nOf id)) (gI s.29 (nOf id))
                              (gI s.30 (nOf id)) (gI s.31 (nOf id)) (gI s.32 (nOf id)) (gI s.33 (nOf id))
                              (gB s.34 (nOf id)) res got).14
                          [Col.int IntKind.i64
                              (s.withT id (gI s.26 (nOf id)) (gI s.27 (nOf id)) (gI s.28 (nOf id)) (gI s.29 (nOf id))
                                  (gI s.30 (nOf id)) (gI s.31 (nOf id)) (gI s.32 (nOf id)) (gI s.33 (nOf id))
                                  (gB s.34 (nOf id)) res got).15],
                        AV.sl
                          (s.withT id (gI s.26 (nOf id)) (gI s.27 (nOf id)) (gI s.28 (nOf id)) (gI s.29 (nOf id))
                              (gI s.30 (nOf id)) (gI s.31 (nOf id)) (gI s.32 (nOf id)) (gI s.33 (nOf id))
                              (gB s.34 (nOf id)) res got).16
                          [Col.int IntKind.i64
                              (s.withT id (gI s.26 (nOf id)) (gI s.27 (nOf id)) (gI s.28 (nOf id)) (gI s.29 (nOf id))
                                  (gI s.30 (nOf id)) (gI s.31 (nOf id)) (gI s.32 (nOf id)) (gI s.33 (nOf id))
                                  (gB s.34 (nOf id)) res got).17],
                        AV.int IntKind.i64
                          (s.withT id (gI s.26 (nOf id)) (gI s.27 (nOf id)) (gI s.28 (nOf id)) (gI s.29 (nOf id))
                              (gI s.30 (nOf id)) (gI s.31 (nOf id)) (gI s.32 (nOf id)) (gI s.33 (nOf id))
                              (gB s.34 (nOf id)) res got).18,
                        AV.sl
                          (s.withT id (gI s.26 (nOf id)) (gI s.27 (nOf id)) (gI s.28 (nOf id)) (gI s.29 (nOf id))
                              (gI s.30 (nOf id)) (gI s.31 (nOf id)) (gI s.32 (nOf id)) (gI s.33 (nOf id))
                              (gB s.34 (nOf id)) res got).19
                          [Col.int IntKind.i64
                              (s.withT id (gI s.26 (nOf id)) (gI s.27 (nOf id)) (gI s.28 (nOf id)) (gI s.29 (nOf id))
                                  (gI s.30 (nOf id)) (gI s.31 (nOf id)) (gI s.32 (nOf id)) (gI s.33 (nOf id))
                                  (gB s.34 (nOf id)) res got).20],
                        AV.int IntKind.i64
                          (s.withT id (gI s.26 (nOf id)) (gI s.27 (nOf id)) (gI s.28 (nOf id)) (gI s.29 (nOf id))
                              (gI s.30 (nOf id)) (gI s.31 (nOf id)) (gI s.32 (nOf id)) (gI s.33 (nOf id))
                              (gB s.34 (nOf id)) res got).21,
                        AV.sl
                          (s.withT id (gI s.26 (nOf id)) (gI s.27 (nOf id)) (gI s.28 (nOf id)) (gI s.29 (nOf id))
                              (gI s.30 (nOf id)) (gI s.31 (nOf id)) (gI s.32 (nOf id)) (gI s.33 (nOf id))
                              (gB s.34 (nOf id)) res got).22
                          [Col.int IntKind.i64
                              (s.withT id (gI s.26 (nOf id)) (gI s.27 (nOf id)) (gI s.28 (nOf id)) (gI s.29 (nOf id))
                                  (gI s.30 (nOf id)) (gI s.31 (nOf id)) (gI s.32 (nOf id)) (gI s.33 (nOf id))
                                  (gB s.34 (nOf id)) res got).23],
                        AV.int IntKind.i64
                          (s.withT id (gI s.26 (nOf id)) (gI s.27 (nOf id)) (gI s.28 (nOf id)) (gI s.29 (nOf id))
                              (gI s.30 (nOf id)) (gI s.31 (nOf id)) (gI s.32 (nOf id)) (gI s.33 (nOf id))
                              (gB s.34 (nOf id)) res got).24,
                        AV.sl
                          (s.withT id (gI s.26 (nOf id)) (gI s.27 (nOf id)) (gI s.28 (nOf id)) (gI s.29 (nOf id))
                              (gI s.30 (nOf id)) (gI s.31 (nOf id)) (gI s.32 (nOf id)) (gI s.33 (nOf id))
                              (gB s.34 (nOf id)) res got).25
                          [Col.int IntKind.i64
                              (s.withT id (gI s.26 (nOf id)) (gI s.27 (nOf id)) (gI s.28 (nOf id)) (gI s.29 (nOf id))
                                  (gI s.30 (nOf id)) (gI s.31 (nOf id)) (gI s.32 (nOf id)) (gI s.33 (nOf id))
                                  (gB s.34 (nOf id)) res got).26,
                            Col.int IntKind.i64
                              (s.withT id (gI s.26 (nOf id)) (gI s.27 (nOf id)) (gI s.28 (nOf id)) (gI s.29 (nOf id))
                                  (gI s.30 (nOf id)) (gI s.31 (nOf id)) (gI s.32 (nOf id)) (gI s.33 (nOf id))
                                  (gB s.34 (nOf id)) res got).27,
                            Col.int IntKind.i64
                              (s.withT id (gI s.26 (nOf id)) (gI s.27 (nOf id)) (gI s.28 (nOf id)) (gI s.29 (nOf id))
                                  (gI s.30 (nOf id)) (gI s.31 (nOf id)) (gI s.32 (nOf id)) (gI s.33 (nOf id))
                                  (gB s.34 (nOf id)) res got).28,
                            Col.int IntKind.i64
                              (s.withT id (gI s.26 (nOf id)) (gI s.27 (nOf id)) (gI s.28 (nOf id)) (gI s.29 (nOf id))
                                  (gI s.30 (nOf id)) (gI s.31 (nOf id)) (gI s.32 (nOf id)) (gI s.33 (nOf id))
                                  (gB s.34 (nOf id)) res got).29,
                            Col.int IntKind.i64
                              (s.withT id (gI s.26 (nOf id)) (gI s.27 (nOf id)) (gI s.28 (nOf id)) (gI s.29 (nOf id))
                                  (gI s.30 (nOf id)) (gI s.31 (nOf id)) (gI s.32 (nOf id)) (gI s.33 (nOf id))
                                  (gB s.34 (nOf id)) res got).30,
                            Col.int IntKind.i64
                              (s.withT id (gI s.26 (nOf id)) (gI s.27 (nOf id)) (gI s.28 (nOf id)) (gI s.29 (nOf id))
                                  (gI s.30 (nOf id)) (gI s.31 (nOf id)) (gI s.32 (nOf id)) (gI s.33 (nOf id))
                                  (gB s.34 (nOf id)) res got).31,
                            Col.int IntKind.i64
                              (s.withT id (gI s.26 (nOf id)) (gI s.27 (nOf id)) (gI s.28 (nOf id)) (gI s.29 (nOf id))
                                  (gI s.30 (nOf id)) (gI s.31 (nOf id)) (gI s.32 (nOf id)) (gI s.33 (nOf id))
                                  (gB s.34 (nOf id)) res got).32,
                            Col.int IntKind.i64
                              (s.withT id (gI s.26 (nOf id)) (gI s.27 (nOf id)) (gI s.28 (nOf id)) (gI s.29 (nOf id))
                                  (gI s.30 (nOf id)) (gI s.31 (nOf id)) (gI s.32 (nOf id)) (gI s.33 (nOf id))
                                  (gB s.34 (nOf id)) res got).33,
                            Col.bool
                              (s.withT id (gI s.26 (nOf id)) (gI s.27 (nOf id)) (gI s.28 (nOf id)) (gI s.29 (nOf id))
                                  (gI s.30 (nOf id)) (gI s.31 (nOf id)) (gI s.32 (nOf id)) (gI s.33 (nOf id))
                                  (gB s.34 (nOf id)) res got).34,
                            Col.int IntKind.i64
                              (s.withT id (gI s.26 (nOf id)) (gI s.27 (nOf id)) (gI s.28 (nOf id)) (gI s.29 (nOf id))
                                  (gI s.30 (nOf id)) (gI s.31 (nOf id)) (gI s.32 (nOf id)) (gI s.33 (nOf id))
                                  (gB s.34 (nOf id)) res got).35,
                            Col.int IntKind.i64
                              (s.withT id (gI s.26 (nOf id)) (gI s.27 (nOf id)) (gI s.28 (nOf id)) (gI s.29 (nOf id))
                                  (gI s.30 (nOf id)) (gI s.31 (nOf id)) (gI s.32 (nOf id)) (gI s.33 (nOf id))
                                  (gB s.34 (nOf id)) res got).36],
                        AV.sl
                          (nAdd
                            (nAdd 0
                              (s.withT id (gI s.26 (nOf id)) (gI s.27 (nOf id)) (gI s.28 (nOf id)) (gI s.29 (nOf id))
                                  (gI s.30 (nOf id)) (gI s.31 (nOf id)) (gI s.32 (nOf id)) (gI s.33 (nOf id))
                                  (gB s.34 (nOf id)) res got).37)
                            1)
                          [Col.int IntKind.i64
                              (cat
                                (cat []
                                  (s.withT id (gI s.26 (nOf id)) (gI s.27 (nOf id)) (gI s.28 (nOf id))
                                      (gI s.29 (nOf id)) (gI s.30 (nOf id)) (gI s.31 (nOf id)) (gI s.32 (nOf id))
                                      (gI s.33 (nOf id)) (gB s.34 (nOf id)) res got).38)
                                [id]),
                            Col.int IntKind.i64
                              (cat
                                (cat []
                                  (s.withT id (gI s.26 (nOf id)) (gI s.27 (nOf id)) (gI s.28 (nOf id))
                                      (gI s.29 (nOf id)) (gI s.30 (nOf id)) (gI s.31 (nOf id)) (gI s.32 (nOf id))
                                      (gI s.33 (nOf id)) (gB s.34 (nOf id)) res got).39)
                                [kind]),
                            Col.int IntKind.i64
                              (cat
                                (cat []
                                  (s.withT id (gI s.26 (nOf id)) (gI s.27 (nOf id)) (gI s.28 (nOf id))
                                      (gI s.29 (nOf id)) (gI s.30 (nOf id)) (gI s.31 (nOf id)) (gI s.32 (nOf id))
                                      (gI s.33 (nOf id)) (gB s.34 (nOf id)) res got).40)
                                [gI s.28 (nOf id)]),
                            Col.int IntKind.i64
                              (cat
                                (cat []
                                  (s.withT id (gI s.26 (nOf id)) (gI s.27 (nOf id)) (gI s.28 (nOf id))
                                      (gI s.29 (nOf id)) (gI s.30 (nOf id)) (gI s.31 (nOf id)) (gI s.32 (nOf id))
                                      (gI s.33 (nOf id)) (gB s.34 (nOf id)) res got).41)
                                [res]),
                            Col.int IntKind.i64
                              (cat
                                (cat []
                                  (s.withT id (gI s.26 (nOf id)) (gI s.27 (nOf id)) (gI s.28 (nOf id))
                                      (gI s.29 (nOf id)) (gI s.30 (nOf id)) (gI s.31 (nOf id)) (gI s.32 (nOf id))
                                      (gI s.33 (nOf id)) (gB s.34 (nOf id)) res got).42)
                                [got])]]) =
                  some r))))
          (asrt (band s.fit (band (ile 0 id) (ilt id (ofN s.25))))
            (asrt
              (nle
                (nAdd 0
                  (s.withT id (gI s.26 (nOf id)) (gI s.27 (nOf id)) (gI s.28 (nOf id)) (gI s.29 (nOf id))
                      (gI s.30 (nOf id)) (gI s.31 (nOf id)) (gI s.32 (nOf id)) (gI s.33 (nOf id)) (gB s.34 (nOf id))
                      (gI s.35 (nOf id)) (gI s.36 (nOf id))).37)
                3518437208883)
              (asrt
                (nle
                  (nAdd
                    (nAdd 0
                      (s.withT id (gI s.26 (nOf id)) (gI s.27 (nOf id)) (gI s.28 (nOf id)) (gI s.29 (nOf id))
                          (gI s.30 (nOf id)) (gI s.31 (nOf id)) (gI s.32 (nOf id)) (gI s.33 (nOf id)) (gB s.34 (nOf id))
                          (gI s.35 (nOf id)) (gI s.36 (nOf id))).37)
                    1)
                  3518437208883)
                (some
                    (AV.agg
                      [AV.int IntKind.i64
                          (s.withT id (gI s.26 (nOf id)) (gI s.27 (nOf id)) (gI s.28 (nOf id)) (gI s.29 (nOf id))
                              (gI s.30 (nOf id)) (gI s.31 (nOf id)) (gI s.32 (nOf id)) (gI s.33 (nOf id))
                              (gB s.34 (nOf id)) (gI s.35 (nOf id)) (gI s.36 (nOf id))).1,
                        AV.int IntKind.i64
                          (s.withT id (gI s.26 (nOf id)) (gI s.27 (nOf id)) (gI s.28 (nOf id)) (gI s.29 (nOf id))
                              (gI s.30 (nOf id)) (gI s.31 (nOf id)) (gI s.32 (nOf id)) (gI s.33 (nOf id))
                              (gB s.34 (nOf id)) (gI s.35 (nOf id)) (gI s.36 (nOf id))).2,
                        AV.int IntKind.i64
                          (s.withT id (gI s.26 (nOf id)) (gI s.27 (nOf id)) (gI s.28 (nOf id)) (gI s.29 (nOf id))
                              (gI s.30 (nOf id)) (gI s.31 (nOf id)) (gI s.32 (nOf id)) (gI s.33 (nOf id))
                              (gB s.34 (nOf id)) (gI s.35 (nOf id)) (gI s.36 (nOf id))).3,
                        AV.int IntKind.i64
                          (s.withT id (gI s.26 (nOf id)) (gI s.27 (nOf id)) (gI s.28 (nOf id)) (gI s.29 (nOf id))
                              (gI s.30 (nOf id)) (gI s.31 (nOf id)) (gI s.32 (nOf id)) (gI s.33 (nOf id))
                              (gB s.34 (nOf id)) (gI s.35 (nOf id)) (gI s.36 (nOf id))).4,
                        AV.int IntKind.i64
                          (s.withT id (gI s.26 (nOf id)) (gI s.27 (nOf id)) (gI s.28 (nOf id)) (gI s.29 (nOf id))
                              (gI s.30 (nOf id)) (gI s.31 (nOf id)) (gI s.32 (nOf id)) (gI s.33 (nOf id))
                              (gB s.34 (nOf id)) (gI s.35 (nOf id)) (gI s.36 (nOf id))).5,
                        AV.int IntKind.i64
                          (s.withT id (gI s.26 (nOf id)) (gI s.27 (nOf id)) (gI s.28 (nOf id)) (gI s.29 (nOf id))
                              (gI s.30 (nOf id)) (gI s.31 (nOf id)) (gI s.32 (nOf id)) (gI s.33 (nOf id))
                              (gB s.34 (nOf id)) (gI s.35 (nOf id)) (gI s.36 (nOf id))).6,
                        AV.bool
                          (s.withT id (gI s.26 (nOf id)) (gI s.27 (nOf id)) (gI s.28 (nOf id)) (gI s.29 (nOf id))
                              (gI s.30 (nOf id)) (gI s.31 (nOf id)) (gI s.32 (nOf id)) (gI s.33 (nOf id))
                              (gB s.34 (nOf id)) (gI s.35 (nOf id)) (gI s.36 (nOf id))).7,
                        AV.int IntKind.i64
                          (s.withT id (gI s.26 (nOf id)) (gI s.27 (nOf id)) (gI s.28 (nOf id)) (gI s.29 (nOf id))
                              (gI s.30 (nOf id)) (gI s.31 (nOf id)) (gI s.32 (nOf id)) (gI s.33 (nOf id))
                              (gB s.34 (nOf id)) (gI s.35 (nOf id)) (gI s.36 (nOf id))).8,
                        AV.int IntKind.i64
                          (s.withT id (gI s.26 (nOf id)) (gI s.27 (nOf id)) (gI s.28 (nOf id)) (gI s.29 (nOf id))
                              (gI s.30 (nOf id)) (gI s.31 (nOf id)) (gI s.32 (nOf id)) (gI s.33 (nOf id))
                              (gB s.34 (nOf id)) (gI s.35 (nOf id)) (gI s.36 (nOf id))).9,
                        AV.int IntKind.i64
                          (s.withT id (gI s.26 (nOf id)) (gI s.27 (nOf id)) (gI s.28 (nOf id)) (gI s.29 (nOf id))
                              (gI s.30 (nOf id)) (gI s.31 (nOf id)) (gI s.32 (nOf id)) (gI s.33 (nOf id))
                              (gB s.34 (nOf id)) (gI s.35 (nOf id)) (gI s.36 (nOf id))).10,
                        AV.sl
                          (s.withT id (gI s.26 (nOf id)) (gI s.27 (nOf id)) (gI s.28 (nOf id)) (gI s.29 (nOf id))
                              (gI s.30 (nOf id)) (gI s.31 (nOf id)) (gI s.32 (nOf id)) (gI s.33 (nOf id))
                              (gB s.34 (nOf id)) (gI s.35 (nOf id)) (gI s.36 (nOf id))).11
                          [Col.int IntKind.i64
                              (s.withT id (gI s.26 (nOf id)) (gI s.27 (nOf id)) (gI s.28 (nOf id)) (gI s.29 (nOf id))
                                  (gI s.30 (nOf id)) (gI s.31 (nOf id)) (gI s.32 (nOf id)) (gI s.33 (nOf id))
                                  (gB s.34 (nOf id)) (gI s.35 (nOf id)) (gI s.36 (nOf id))).12,
                            Col.int IntKind.i64
                              (s.withT id (gI s.26 (nOf id)) (gI s.27 (nOf id)) (gI s.28 (nOf id)) (gI s.29 (nOf id))
                                  (gI s.30 (nOf id)) (gI s.31 (nOf id)) (gI s.32 (nOf id)) (gI s.33 (nOf id))
                                  (gB s.34 (nOf id)) (gI s.35 (nOf id)) (gI s.36 (nOf id))).13],
                        AV.sl
                          (s.withT id (gI s.26 (nOf id)) (gI s.27 (nOf id)) (gI s.28 (nOf id)) (gI s.29 (nOf id))
                              (gI s.30 (nOf id)) (gI s.31 (nOf id)) (gI s.32 (nOf id)) (gI s.33 (nOf id))
                              (gB s.34 (nOf id)) (gI s.35 (nOf id)) (gI s.36 (nOf id))).14
                          [Col.int IntKind.i64
                              (s.withT id (gI s.26 (nOf id)) (gI s.27 (nOf id)) (gI s.28 (nOf id)) (gI s.29 (nOf id))
                                  (gI s.30 (nOf id)) (gI s.31 (nOf id)) (gI s.32 (nOf id)) (gI s.33 (nOf id))
                                  (gB s.34 (nOf id)) (gI s.35 (nOf id)) (gI s.36 (nOf id))).15],
                        AV.sl
                          (s.withT id (gI s.26 (nOf id)) (gI s.27 (nOf id)) (gI s.28 (nOf id)) (gI s.29 (nOf id))
                              (gI s.30 (nOf id)) (gI s.31 (nOf id)) (gI s.32 (nOf id)) (gI s.33 (nOf id))
                              (gB s.34 (nOf id)) (gI s.35 (nOf id)) (gI s.36 (nOf id))).16
                          [Col.int IntKind.i64
                              (s.withT id (gI s.26 (nOf id)) (gI s.27 (nOf id)) (gI s.28 (nOf id)) (gI s.29 (nOf id))
                                  (gI s.30 (nOf id)) (gI s.31 (nOf id)) (gI s.32 (nOf id)) (gI s.33 (nOf id))
                                  (gB s.34 (nOf id)) (gI s.35 (nOf id)) (gI s.36 (nOf id))).17],
                        AV.int IntKind.i64
                          (s.withT id (gI s.26 (nOf id)) (gI s.27 (nOf id)) (gI s.28 (nOf id)) (gI s.29 (nOf id))
                              (gI s.30 (nOf id)) (gI s.31 (nOf id)) (gI s.32 (nOf id)) (gI s.33 (nOf id))
                              (gB s.34 (nOf id)) (gI s.35 (nOf id)) (gI s.36 (nOf id))).18,
                        AV.sl
                          (s.withT id (gI s.26 (nOf id)) (gI s.27 (nOf id)) (gI s.28 (nOf id)) (gI s.29 (nOf id))
                              (gI s.30 (nOf id)) (gI s.31 (nOf id)) (gI s.32 (nOf id)) (gI s.33 (nOf id))
                              (gB s.34 (nOf id)) (gI s.35 (nOf id)) (gI s.36 (nOf id))).19
                          [Col.int IntKind.i64
                              (s.withT id (gI s.26 (nOf id)) (gI s.27 (nOf id)) (gI s.28 (nOf id)) (gI s.29 (nOf id))
                                  (gI s.30 (nOf id)) (gI s.31 (nOf id)) (gI s.32 (nOf id)) (gI s.33 (nOf id))
                                  (gB s.34 (nOf id)) (gI s.35 (nOf id)) (gI s.36 (nOf id))).20],
                        AV.int IntKind.i64
                          (s.withT id (gI s.26 (nOf id)) (gI s.27 (nOf id)) (gI s.28 (nOf id)) (gI s.29 (nOf id))
                              (gI s.30 (nOf id)) (gI s.31 (nOf id)) (gI s.32 (nOf id)) (gI s.33 (nOf id))
                              (gB s.34 (nOf id)) (gI s.35 (nOf id)) (gI s.36 (nOf id))).21,
                        AV.sl
                          (s.withT id (gI s.26 (nOf id)) (gI s.27 (nOf id)) (gI s.28 (nOf id)) (gI s.29 (nOf id))
                              (gI s.30 (nOf id)) (gI s.31 (nOf id)) (gI s.32 (nOf id)) (gI s.33 (nOf id))
                              (gB s.34 (nOf id)) (gI s.35 (nOf id)) (gI s.36 (nOf id))).22
                          [Col.int IntKind.i64
                              (s.withT id (gI s.26 (nOf id)) (gI s.27 (nOf id)) (gI s.28 (nOf id)) (gI s.29 (nOf id))
                                  (gI s.30 (nOf id)) (gI s.31 (nOf id)) (gI s.32 (nOf id)) (gI s.33 (nOf id))
                                  (gB s.34 (nOf id)) (gI s.35 (nOf id)) (gI s.36 (nOf id))).23],
                        AV.int IntKind.i64
                          (s.withT id (gI s.26 (nOf id)) (gI s.27 (nOf id)) (gI s.28 (nOf id)) (gI s.29 (nOf id))
                              (gI s.30 (nOf id)) (gI s.31 (nOf id)) (gI s.32 (nOf id)) (gI s.33 (nOf id))
                              (gB s.34 (nOf id)) (gI s.35 (nOf id)) (gI s.36 (nOf id))).24,
                        AV.sl
                          (s.withT id (gI s.26 (nOf id)) (gI s.27 (nOf id)) (gI s.28 (nOf id)) (gI s.29 (nOf id))
                              (gI s.30 (nOf id)) (gI s.31 (nOf id)) (gI s.32 (nOf id)) (gI s.33 (nOf id))
                              (gB s.34 (nOf id)) (gI s.35 (nOf id)) (gI s.36 (nOf id))).25
                          [Col.int IntKind.i64
                              (s.withT id (gI s.26 (nOf id)) (gI s.27 (nOf id)) (gI s.28 (nOf id)) (gI s.29 (nOf id))
                                  (gI s.30 (nOf id)) (gI s.31 (nOf id)) (gI s.32 (nOf id)) (gI s.33 (nOf id))
                                  (gB s.34 (nOf id)) (gI s.35 (nOf id)) (gI s.36 (nOf id))).26,
                            Col.int IntKind.i64
                              (s.withT id (gI s.26 (nOf id)) (gI s.27 (nOf id)) (gI s.28 (nOf id)) (gI s.29 (nOf id))
                                  (gI s.30 (nOf id)) (gI s.31 (nOf id)) (gI s.32 (nOf id)) (gI s.33 (nOf id))
                                  (gB s.34 (nOf id)) (gI s.35 (nOf id)) (gI s.36 (nOf id))).27,
                            Col.int IntKind.i64
                              (s.withT id (gI s.26 (nOf id)) (gI s.27 (nOf id)) (gI s.28 (nOf id)) (gI s.29 (nOf id))
                                  (gI s.30 (nOf id)) (gI s.31 (nOf id)) (gI s.32 (nOf id)) (gI s.33 (nOf id))
                                  (gB s.34 (nOf id)) (gI s.35 (nOf id)) (gI s.36 (nOf id))).28,
                            Col.int IntKind.i64
                              (s.withT id (gI s.26 (nOf id)) (gI s.27 (nOf id)) (gI s.28 (nOf id)) (gI s.29 (nOf id))
                                  (gI s.30 (nOf id)) (gI s.31 (nOf id)) (gI s.32 (nOf id)) (gI s.33 (nOf id))
                                  (gB s.34 (nOf id)) (gI s.35 (nOf id)) (gI s.36 (nOf id))).29,
                            Col.int IntKind.i64
                              (s.withT id (gI s.26 (nOf id)) (gI s.27 (nOf id)) (gI s.28 (nOf id)) (gI s.29 (nOf id))
                                  (gI s.30 (nOf id)) (gI s.31 (nOf id)) (gI s.32 (nOf id)) (gI s.33 (nOf id))
                                  (gB s.34 (nOf id)) (gI s.35 (nOf id)) (gI s.36 (nOf id))).30,
                            Col.int IntKind.i64
                              (s.withT id (gI s.26 (nOf id)) (gI s.27 (nOf id)) (gI s.28 (nOf id)) (gI s.29 (nOf id))
                                  (gI s.30 (nOf id)) (gI s.31 (nOf id)) (gI s.32 (nOf id)) (gI s.33 (nOf id))
                                  (gB s.34 (nOf id)) (gI s.35 (nOf id)) (gI s.36 (nOf id))).31,
                            Col.int IntKind.i64
                              (s.withT id (gI s.26 (nOf id)) (gI s.27 (nOf id)) (gI s.28 (nOf id)) (gI s.29 (nOf id))
                                  (gI s.30 (nOf id)) (gI s.31 (nOf id)) (gI s.32 (nOf id)) (gI s.33 (nOf id))
                                  (gB s.34 (nOf id)) (gI s.35 (nOf id)) (gI s.36 (nOf id))).32,
                            Col.int IntKind.i64
                              (s.withT id (gI s.26 (nOf id)) (gI s.27 (nOf id)) (gI s.28 (nOf id)) (gI s.29 (nOf id))
                                  (gI s.30 (nOf id)) (gI s.31 (nOf id)) (gI s.32 (nOf id)) (gI s.33 (nOf id))
                                  (gB s.34 (nOf id)) (gI s.35 (nOf id)) (gI s.36 (nOf id))).33,
                            Col.bool
                              (s.withT id (gI s.26 (nOf id)) (gI s.27 (nOf id)) (gI s.28 (nOf id)) (gI s.29 (nOf id))
                                  (gI s.30 (nOf id)) (gI s.31 (nOf id)) (gI s.32 (nOf id)) (gI s.33 (nOf id))
                                  (gB s.34 (nOf id)) (gI s.35 (nOf id)) (gI s.36 (nOf id))).34,
                            Col.int IntKind.i64
                              (s.withT id (gI s.26 (nOf id)) (gI s.27 (nOf id)) (gI s.28 (nOf id)) (gI s.29 (nOf id))
                                  (gI s.30 (nOf id)) (gI s.31 (nOf id)) (gI s.32 (nOf id)) (gI s.33 (nOf id))
                                  (gB s.34 (nOf id)) (gI s.35 (nOf id)) (gI s.36 (nOf id))).35,
                            Col.int IntKind.i64
                              (s.withT id (gI s.26 (nOf id)) (gI s.27 (nOf id)) (gI s.28 (nOf id)) (gI s.29 (nOf id))
                                  (gI s.30 (nOf id)) (gI s.31 (nOf id)) (gI s.32 (nOf id)) (gI s.33 (nOf id))
                                  (gB s.34 (nOf id)) (gI s.35 (nOf id)) (gI s.36 (nOf id))).36],
                        AV.sl
                          (nAdd
                            (nAdd 0
                              (s.withT id (gI s.26 (nOf id)) (gI s.27 (nOf id)) (gI s.28 (nOf id)) (gI s.29 (nOf id))
                                  (gI s.30 (nOf id)) (gI s.31 (nOf id)) (gI s.32 (nOf id)) (gI s.33 (nOf id))
                                  (gB s.34 (nOf id)) (gI s.35 (nOf id)) (gI s.36 (nOf id))).37)
                            1)
                          [Col.int IntKind.i64
                              (cat
                                (cat []
                                  (s.withT id (gI s.26 (nOf id)) (gI s.27 (nOf id)) (gI s.28 (nOf id))
                                      (gI s.29 (nOf id)) (gI s.30 (nOf id)) (gI s.31 (nOf id)) (gI s.32 (nOf id))
                                      (gI s.33 (nOf id)) (gB s.34 (nOf id)) (gI s.35 (nOf id)) (gI s.36 (nOf id))).38)
                                [id]),
                            Col.int IntKind.i64
                              (cat
                                (cat []
                                  (s.withT id (gI s.26 (nOf id)) (gI s.27 (nOf id)) (gI s.28 (nOf id))
                                      (gI s.29 (nOf id)) (gI s.30 (nOf id)) (gI s.31 (nOf id)) (gI s.32 (nOf id))
                                      (gI s.33 (nOf id)) (gB s.34 (nOf id)) (gI s.35 (nOf id)) (gI s.36 (nOf id))).39)
                                [kind]),
                            Col.int IntKind.i64
                              (cat
                                (cat []
                                  (s.withT id (gI s.26 (nOf id)) (gI s.27 (nOf id)) (gI s.28 (nOf id))
                                      (gI s.29 (nOf id)) (gI s.30 (nOf id)) (gI s.31 (nOf id)) (gI s.32 (nOf id))
                                      (gI s.33 (nOf id)) (gB s.34 (nOf id)) (gI s.35 (nOf id)) (gI s.36 (nOf id))).40)
                                [gI s.28 (nOf id)]),
                            Col.int IntKind.i64
                              (cat
                                (cat []
                                  (s.withT id (gI s.26 (nOf id)) (gI s.27 (nOf id)) (gI s.28 (nOf id))
                                      (gI s.29 (nOf id)) (gI s.30 (nOf id)) (gI s.31 (nOf id)) (gI s.32 (nOf id))
                                      (gI s.33 (nOf id)) (gB s.34 (nOf id)) (gI s.35 (nOf id)) (gI s.36 (nOf id))).41)
                                [res]),
                            Col.int IntKind.i64
                              (cat
                                (cat []
                                  (s.withT id (gI s.26 (nOf id)) (gI s.27 (nOf id)) (gI s.28 (nOf id))
                                      (gI s.29 (nOf id)) (gI s.30 (nOf id)) (gI s.31 (nOf id)) (gI s.32 (nOf id))
                                      (gI s.33 (nOf id)) (gB s.34 (nOf id)) (gI s.35 (nOf id)) (gI s.36 (nOf id))).42)
                                [got])]]) =
                  some r)))))))) := by kernel_rfl

theorem ok_rTell : PureOK Tryz.prog 55 FrTell := by
  refine tab_plain mixed (l := tabR7) ok_tabR7 false (by kernel_rfl) fun xs b r h hb wf => ?_
  unfold FrTell at h
  split at h
  · rename_i a_s id kind res got
    split at h
    · rename_i s h_s
      obtain rfl := asSR_some h_s
      cases h
      try rw [some_f] at hb
      simp only [WFL, WF, List.mem_cons, List.not_mem_nil, or_false, forall_eq_or_imp, forall_eq, Col.len, and_true, true_and, wf_av] at wf
      rw [vc_rTell]
      rw [asrt_iff]
      refine ⟨hb, ?_⟩
      have hn := SR.fit_nl hb
      cases hi : s.is id with
      | false =>
        have e : s.tell id kind res got = s := by unfold SR.tell; rw [if_neg (by rw [hi]; simp)]
        rw [e]
        exact rfl
      | true =>
        obtain ⟨_, h0, h1⟩ := SR.is_in hi
        show asrt _ _
        simp only [asrt_iff, band_t, ile_t, ilt_t, ofN_e]
        refine ⟨⟨h0, h1⟩, ?_⟩
        by_cases h9 : kind = 9
        · have hc : ine kind 9 = false := by simp [ine, h9]
          rw [hc]
          show _ ∧ _
          simp only [nle_t, nAdd_e, Nat.zero_add]
          refine ⟨⟨hb, h0, h1⟩, ?_, ?_, ?_⟩
          · show s.nl ≤ _; omega
          · show s.nl + 1 ≤ _; omega
          · unfold SR.tell
            rw [if_pos hi, if_pos h9, if_pos h9]
            simp only [SR.withT, gI_e, gB_e, nOf_e, setI_any, setB_any, cat_e, List.nil_append, List.getD_eq_getElem?_getD]
            rfl
        · have hc : ine kind 9 = true := by simp [ine, h9]
          rw [hc]
          show _ ∧ _
          simp only [nle_t, nAdd_e, Nat.zero_add]
          refine ⟨⟨hb, h0, h1⟩, ?_, ?_, ?_⟩
          · show s.nl ≤ _; omega
          · show s.nl + 1 ≤ _; omega
          · unfold SR.tell
            rw [if_pos hi, if_neg h9, if_neg h9]
            simp only [SR.withT, gI_e, gB_e, nOf_e, setI_any, setB_any, cat_e, List.nil_append, List.getD_eq_getElem?_getD]
            rfl
    · cases h
  · cases h


def FrWake : Pure1 := fun
  | [a_s, .int .i64 id] => (match asSR a_s with | some s => some (some (SR.fit s), (SR.wake s id).av) | none => none)
  | _ => none

theorem vc_rWake (s : SR) (id : Int) (r : AV) : VC Tryz.prog (tabS tabR7) noL false 58 [s.av, .int .i64 id] r = (
  asrt s.fit
    (br (bnot (s.is id))
      (some
          (AV.agg
            (SR.cells s)) =
        some r)
      (asrt (band (ile 0 id) (ilt id (ofN s.25)))
        (asrt (band s.fit (band (ile 0 id) (ilt id (ofN s.25))))
          (some
              (AV.agg
                [AV.int IntKind.i64
                    (s.withT id (wakeSt (gI s.26 (nOf id))) (gI s.27 (nOf id)) (gI s.28 (nOf id)) (gI s.29 (nOf id))
                        (gI s.30 (nOf id)) (gI s.31 (nOf id)) (gI s.32 (nOf id)) (gI s.33 (nOf id)) (gB s.34 (nOf id))
                        (gI s.35 (nOf id)) (gI s.36 (nOf id))).1,
                  AV.int IntKind.i64
                    (s.withT id (wakeSt (gI s.26 (nOf id))) (gI s.27 (nOf id)) (gI s.28 (nOf id)) (gI s.29 (nOf id))
                        (gI s.30 (nOf id)) (gI s.31 (nOf id)) (gI s.32 (nOf id)) (gI s.33 (nOf id)) (gB s.34 (nOf id))
                        (gI s.35 (nOf id)) (gI s.36 (nOf id))).2,
                  AV.int IntKind.i64
                    (s.withT id (wakeSt (gI s.26 (nOf id))) (gI s.27 (nOf id)) (gI s.28 (nOf id)) (gI s.29 (nOf id))
                        (gI s.30 (nOf id)) (gI s.31 (nOf id)) (gI s.32 (nOf id)) (gI s.33 (nOf id)) (gB s.34 (nOf id))
                        (gI s.35 (nOf id)) (gI s.36 (nOf id))).3,
                  AV.int IntKind.i64
                    (s.withT id (wakeSt (gI s.26 (nOf id))) (gI s.27 (nOf id)) (gI s.28 (nOf id)) (gI s.29 (nOf id))
                        (gI s.30 (nOf id)) (gI s.31 (nOf id)) (gI s.32 (nOf id)) (gI s.33 (nOf id)) (gB s.34 (nOf id))
                        (gI s.35 (nOf id)) (gI s.36 (nOf id))).4,
                  AV.int IntKind.i64
                    (s.withT id (wakeSt (gI s.26 (nOf id))) (gI s.27 (nOf id)) (gI s.28 (nOf id)) (gI s.29 (nOf id))
                        (gI s.30 (nOf id)) (gI s.31 (nOf id)) (gI s.32 (nOf id)) (gI s.33 (nOf id)) (gB s.34 (nOf id))
                        (gI s.35 (nOf id)) (gI s.36 (nOf id))).5,
                  AV.int IntKind.i64
                    (s.withT id (wakeSt (gI s.26 (nOf id))) (gI s.27 (nOf id)) (gI s.28 (nOf id)) (gI s.29 (nOf id))
                        (gI s.30 (nOf id)) (gI s.31 (nOf id)) (gI s.32 (nOf id)) (gI s.33 (nOf id)) (gB s.34 (nOf id))
                        (gI s.35 (nOf id)) (gI s.36 (nOf id))).6,
                  AV.bool
                    (s.withT id (wakeSt (gI s.26 (nOf id))) (gI s.27 (nOf id)) (gI s.28 (nOf id)) (gI s.29 (nOf id))
                        (gI s.30 (nOf id)) (gI s.31 (nOf id)) (gI s.32 (nOf id)) (gI s.33 (nOf id)) (gB s.34 (nOf id))
                        (gI s.35 (nOf id)) (gI s.36 (nOf id))).7,
                  AV.int IntKind.i64
                    (s.withT id (wakeSt (gI s.26 (nOf id))) (gI s.27 (nOf id)) (gI s.28 (nOf id)) (gI s.29 (nOf id))
                        (gI s.30 (nOf id)) (gI s.31 (nOf id)) (gI s.32 (nOf id)) (gI s.33 (nOf id)) (gB s.34 (nOf id))
                        (gI s.35 (nOf id)) (gI s.36 (nOf id))).8,
                  AV.int IntKind.i64
                    (s.withT id (wakeSt (gI s.26 (nOf id))) (gI s.27 (nOf id)) (gI s.28 (nOf id)) (gI s.29 (nOf id))
                        (gI s.30 (nOf id)) (gI s.31 (nOf id)) (gI s.32 (nOf id)) (gI s.33 (nOf id)) (gB s.34 (nOf id))
                        (gI s.35 (nOf id)) (gI s.36 (nOf id))).9,
                  AV.int IntKind.i64
                    (s.withT id (wakeSt (gI s.26 (nOf id))) (gI s.27 (nOf id)) (gI s.28 (nOf id)) (gI s.29 (nOf id))
                        (gI s.30 (nOf id)) (gI s.31 (nOf id)) (gI s.32 (nOf id)) (gI s.33 (nOf id)) (gB s.34 (nOf id))
                        (gI s.35 (nOf id)) (gI s.36 (nOf id))).10,
                  AV.sl
                    (s.withT id (wakeSt (gI s.26 (nOf id))) (gI s.27 (nOf id)) (gI s.28 (nOf id)) (gI s.29 (nOf id))
                        (gI s.30 (nOf id)) (gI s.31 (nOf id)) (gI s.32 (nOf id)) (gI s.33 (nOf id)) (gB s.34 (nOf id))
                        (gI s.35 (nOf id)) (gI s.36 (nOf id))).11
                    [Col.int IntKind.i64
                        (s.withT id (wakeSt (gI s.26 (nOf id))) (gI s.27 (nOf id)) (gI s.28 (nOf id)) (gI s.29 (nOf id))
                            (gI s.30 (nOf id)) (gI s.31 (nOf id)) (gI s.32 (nOf id)) (gI s.33 (nOf id))
                            (gB s.34 (nOf id)) (gI s.35 (nOf id)) (gI s.36 (nOf id))).12,
                      Col.int IntKind.i64
                        (s.withT id (wakeSt (gI s.26 (nOf id))) (gI s.27 (nOf id)) (gI s.28 (nOf id)) (gI s.29 (nOf id))
                            (gI s.30 (nOf id)) (gI s.31 (nOf id)) (gI s.32 (nOf id)) (gI s.33 (nOf id))
                            (gB s.34 (nOf id)) (gI s.35 (nOf id)) (gI s.36 (nOf id))).13],
                  AV.sl
                    (s.withT id (wakeSt (gI s.26 (nOf id))) (gI s.27 (nOf id)) (gI s.28 (nOf id)) (gI s.29 (nOf id))
                        (gI s.30 (nOf id)) (gI s.31 (nOf id)) (gI s.32 (nOf id)) (gI s.33 (nOf id)) (gB s.34 (nOf id))
                        (gI s.35 (nOf id)) (gI s.36 (nOf id))).14
                    [Col.int IntKind.i64
                        (s.withT id (wakeSt (gI s.26 (nOf id))) (gI s.27 (nOf id)) (gI s.28 (nOf id)) (gI s.29 (nOf id))
                            (gI s.30 (nOf id)) (gI s.31 (nOf id)) (gI s.32 (nOf id)) (gI s.33 (nOf id))
                            (gB s.34 (nOf id)) (gI s.35 (nOf id)) (gI s.36 (nOf id))).15],
                  AV.sl
                    (s.withT id (wakeSt (gI s.26 (nOf id))) (gI s.27 (nOf id)) (gI s.28 (nOf id)) (gI s.29 (nOf id))
                        (gI s.30 (nOf id)) (gI s.31 (nOf id)) (gI s.32 (nOf id)) (gI s.33 (nOf id)) (gB s.34 (nOf id))
                        (gI s.35 (nOf id)) (gI s.36 (nOf id))).16
                    [Col.int IntKind.i64
                        (s.withT id (wakeSt (gI s.26 (nOf id))) (gI s.27 (nOf id)) (gI s.28 (nOf id)) (gI s.29 (nOf id))
                            (gI s.30 (nOf id)) (gI s.31 (nOf id)) (gI s.32 (nOf id)) (gI s.33 (nOf id))
                            (gB s.34 (nOf id)) (gI s.35 (nOf id)) (gI s.36 (nOf id))).17],
                  AV.int IntKind.i64
                    (s.withT id (wakeSt (gI s.26 (nOf id))) (gI s.27 (nOf id)) (gI s.28 (nOf id)) (gI s.29 (nOf id))
                        (gI s.30 (nOf id)) (gI s.31 (nOf id)) (gI s.32 (nOf id)) (gI s.33 (nOf id)) (gB s.34 (nOf id))
                        (gI s.35 (nOf id)) (gI s.36 (nOf id))).18,
                  AV.sl
                    (s.withT id (wakeSt (gI s.26 (nOf id))) (gI s.27 (nOf id)) (gI s.28 (nOf id)) (gI s.29 (nOf id))
                        (gI s.30 (nOf id)) (gI s.31 (nOf id)) (gI s.32 (nOf id)) (gI s.33 (nOf id)) (gB s.34 (nOf id))
                        (gI s.35 (nOf id)) (gI s.36 (nOf id))).19
                    [Col.int IntKind.i64
                        (s.withT id (wakeSt (gI s.26 (nOf id))) (gI s.27 (nOf id)) (gI s.28 (nOf id)) (gI s.29 (nOf id))
                            (gI s.30 (nOf id)) (gI s.31 (nOf id)) (gI s.32 (nOf id)) (gI s.33 (nOf id))
                            (gB s.34 (nOf id)) (gI s.35 (nOf id)) (gI s.36 (nOf id))).20],
                  AV.int IntKind.i64
                    (s.withT id (wakeSt (gI s.26 (nOf id))) (gI s.27 (nOf id)) (gI s.28 (nOf id)) (gI s.29 (nOf id))
                        (gI s.30 (nOf id)) (gI s.31 (nOf id)) (gI s.32 (nOf id)) (gI s.33 (nOf id)) (gB s.34 (nOf id))
                        (gI s.35 (nOf id)) (gI s.36 (nOf id))).21,
                  AV.sl
                    (s.withT id (wakeSt (gI s.26 (nOf id))) (gI s.27 (nOf id)) (gI s.28 (nOf id)) (gI s.29 (nOf id))
                        (gI s.30 (nOf id)) (gI s.31 (nOf id)) (gI s.32 (nOf id)) (gI s.33 (nOf id)) (gB s.34 (nOf id))
                        (gI s.35 (nOf id)) (gI s.36 (nOf id))).22
                    [Col.int IntKind.i64
                        (s.withT id (wakeSt (gI s.26 (nOf id))) (gI s.27 (nOf id)) (gI s.28 (nOf id)) (gI s.29 (nOf id))
                            (gI s.30 (nOf id)) (gI s.31 (nOf id)) (gI s.32 (nOf id)) (gI s.33 (nOf id))
                            (gB s.34 (nOf id)) (gI s.35 (nOf id)) (gI s.36 (nOf id))).23],
                  AV.int IntKind.i64
                    (s.withT id (wakeSt (gI s.26 (nOf id))) (gI s.27 (nOf id)) (gI s.28 (nOf id)) (gI s.29 (nOf id))
                        (gI s.30 (nOf id)) (gI s.31 (nOf id)) (gI s.32 (nOf id)) (gI s.33 (nOf id)) (gB s.34 (nOf id))
                        (gI s.35 (nOf id)) (gI s.36 (nOf id))).24,
                  AV.sl
                    (s.withT id (wakeSt (gI s.26 (nOf id))) (gI s.27 (nOf id)) (gI s.28 (nOf id)) (gI s.29 (nOf id))
                        (gI s.30 (nOf id)) (gI s.31 (nOf id)) (gI s.32 (nOf id)) (gI s.33 (nOf id)) (gB s.34 (nOf id))
                        (gI s.35 (nOf id)) (gI s.36 (nOf id))).25
                    [Col.int IntKind.i64
                        (s.withT id (wakeSt (gI s.26 (nOf id))) (gI s.27 (nOf id)) (gI s.28 (nOf id)) (gI s.29 (nOf id))
                            (gI s.30 (nOf id)) (gI s.31 (nOf id)) (gI s.32 (nOf id)) (gI s.33 (nOf id))
                            (gB s.34 (nOf id)) (gI s.35 (nOf id)) (gI s.36 (nOf id))).26,
                      Col.int IntKind.i64
                        (s.withT id (wakeSt (gI s.26 (nOf id))) (gI s.27 (nOf id)) (gI s.28 (nOf id)) (gI s.29 (nOf id))
                            (gI s.30 (nOf id)) (gI s.31 (nOf id)) (gI s.32 (nOf id)) (gI s.33 (nOf id))
                            (gB s.34 (nOf id)) (gI s.35 (nOf id)) (gI s.36 (nOf id))).27,
                      Col.int IntKind.i64
                        (s.withT id (wakeSt (gI s.26 (nOf id))) (gI s.27 (nOf id)) (gI s.28 (nOf id)) (gI s.29 (nOf id))
                            (gI s.30 (nOf id)) (gI s.31 (nOf id)) (gI s.32 (nOf id)) (gI s.33 (nOf id))
                            (gB s.34 (nOf id)) (gI s.35 (nOf id)) (gI s.36 (nOf id))).28,
                      Col.int IntKind.i64
                        (s.withT id (wakeSt (gI s.26 (nOf id))) (gI s.27 (nOf id)) (gI s.28 (nOf id)) (gI s.29 (nOf id))
                            (gI s.30 (nOf id)) (gI s.31 (nOf id)) (gI s.32 (nOf id)) (gI s.33 (nOf id))
                            (gB s.34 (nOf id)) (gI s.35 (nOf id)) (gI s.36 (nOf id))).29,
                      Col.int IntKind.i64
                        (s.withT id (wakeSt (gI s.26 (nOf id))) (gI s.27 (nOf id)) (gI s.28 (nOf id)) (gI s.29 (nOf id))
                            (gI s.30 (nOf id)) (gI s.31 (nOf id)) (gI s.32 (nOf id)) (gI s.33 (nOf id))
                            (gB s.34 (nOf id)) (gI s.35 (nOf id)) (gI s.36 (nOf id))).30,
                      Col.int IntKind.i64
                        (s.withT id (wakeSt (gI s.26 (nOf id))) (gI s.27 (nOf id)) (gI s.28 (nOf id)) (gI s.29 (nOf id))
                            (gI s.30 (nOf id)) (gI s.31 (nOf id)) (gI s.32 (nOf id)) (gI s.33 (nOf id))
                            (gB s.34 (nOf id)) (gI s.35 (nOf id)) (gI s.36 (nOf id))).31,
                      Col.int IntKind.i64
                        (s.withT id (wakeSt (gI s.26 (nOf id))) (gI s.27 (nOf id)) (gI s.28 (nOf id)) (gI s.29 (nOf id))
                            (gI s.30 (nOf id)) (gI s.31 (nOf id)) (gI s.32 (nOf id)) (gI s.33 (nOf id))
                            (gB s.34 (nOf id)) (gI s.35 (nOf id)) (gI s.36 (nOf id))).32,
                      Col.int IntKind.i64
                        (s.withT id (wakeSt (gI s.26 (nOf id))) (gI s.27 (nOf id)) (gI s.28 (nOf id)) (gI s.29 (nOf id))
                            (gI s.30 (nOf id)) (gI s.31 (nOf id)) (gI s.32 (nOf id)) (gI s.33 (nOf id))
                            (gB s.34 (nOf id)) (gI s.35 (nOf id)) (gI s.36 (nOf id))).33,
                      Col.bool
                        (s.withT id (wakeSt (gI s.26 (nOf id))) (gI s.27 (nOf id)) (gI s.28 (nOf id)) (gI s.29 (nOf id))
                            (gI s.30 (nOf id)) (gI s.31 (nOf id)) (gI s.32 (nOf id)) (gI s.33 (nOf id))
                            (gB s.34 (nOf id)) (gI s.35 (nOf id)) (gI s.36 (nOf id))).34,
                      Col.int IntKind.i64
                        (s.withT id (wakeSt (gI s.26 (nOf id))) (gI s.27 (nOf id)) (gI s.28 (nOf id)) (gI s.29 (nOf id))
                            (gI s.30 (nOf id)) (gI s.31 (nOf id)) (gI s.32 (nOf id)) (gI s.33 (nOf id))
                            (gB s.34 (nOf id)) (gI s.35 (nOf id)) (gI s.36 (nOf id))).35,
                      Col.int IntKind.i64
                        (s.withT id (wakeSt (gI s.26 (nOf id))) (gI s.27 (nOf id)) (gI s.28 (nOf id)) (gI s.29 (nOf id))
                            (gI s.30 (nOf id)) (gI s.31 (nOf id)) (gI s.32 (nOf id)) (gI s.33 (nOf id))
                            (gB s.34 (nOf id)) (gI s.35 (nOf id)) (gI s.36 (nOf id))).36],
                  AV.sl
                    (s.withT id (wakeSt (gI s.26 (nOf id))) (gI s.27 (nOf id)) (gI s.28 (nOf id)) (gI s.29 (nOf id))
                        (gI s.30 (nOf id)) (gI s.31 (nOf id)) (gI s.32 (nOf id)) (gI s.33 (nOf id)) (gB s.34 (nOf id))
                        (gI s.35 (nOf id)) (gI s.36 (nOf id))).37
                    [Col.int IntKind.i64
                        (s.withT id (wakeSt (gI s.26 (nOf id))) (gI s.27 (nOf id)) (gI s.28 (nOf id)) (gI s.29 (nOf id))
                            (gI s.30 (nOf id)) (gI s.31 (nOf id)) (gI s.32 (nOf id)) (gI s.33 (nOf id))
                            (gB s.34 (nOf id)) (gI s.35 (nOf id)) (gI s.36 (nOf id))).38,
                      Col.int IntKind.i64
                        (s.withT id (wakeSt (gI s.26 (nOf id))) (gI s.27 (nOf id)) (gI s.28 (nOf id)) (gI s.29 (nOf id))
                            (gI s.30 (nOf id)) (gI s.31 (nOf id)) (gI s.32 (nOf id)) (gI s.33 (nOf id))
                            (gB s.34 (nOf id)) (gI s.35 (nOf id)) (gI s.36 (nOf id))).39,
                      Col.int IntKind.i64
                        (s.withT id (wakeSt (gI s.26 (nOf id))) (gI s.27 (nOf id)) (gI s.28 (nOf id)) (gI s.29 (nOf id))
                            (gI s.30 (nOf id)) (gI s.31 (nOf id)) (gI s.32 (nOf id)) (gI s.33 (nOf id))
                            (gB s.34 (nOf id)) (gI s.35 (nOf id)) (gI s.36 (nOf id))).40,
                      Col.int IntKind.i64
                        (s.withT id (wakeSt (gI s.26 (nOf id))) (gI s.27 (nOf id)) (gI s.28 (nOf id)) (gI s.29 (nOf id))
                            (gI s.30 (nOf id)) (gI s.31 (nOf id)) (gI s.32 (nOf id)) (gI s.33 (nOf id))
                            (gB s.34 (nOf id)) (gI s.35 (nOf id)) (gI s.36 (nOf id))).41,
                      Col.int IntKind.i64
                        (s.withT id (wakeSt (gI s.26 (nOf id))) (gI s.27 (nOf id)) (gI s.28 (nOf id)) (gI s.29 (nOf id))
                            (gI s.30 (nOf id)) (gI s.31 (nOf id)) (gI s.32 (nOf id)) (gI s.33 (nOf id))
                            (gB s.34 (nOf id)) (gI s.35 (nOf id)) (gI s.36 (nOf id))).42]]) =
            some r))))) := by kernel_rfl

theorem ok_rWake : PureOK Tryz.prog 58 FrWake := by
  refine tab_plain mixed (l := tabR7) ok_tabR7 false (by kernel_rfl) fun xs b r h hb wf => ?_
  unfold FrWake at h
  split at h
  · rename_i a_s id
    split at h
    · rename_i s h_s
      obtain rfl := asSR_some h_s
      cases h
      try rw [some_f] at hb
      simp only [WFL, WF, List.mem_cons, List.not_mem_nil, or_false, forall_eq_or_imp, forall_eq, Col.len, and_true, true_and, wf_av] at wf
      rw [vc_rWake]
      rw [asrt_iff]
      refine ⟨hb, ?_⟩
      cases hi : s.is id with
      | false =>
        have e : s.wake id = s := by unfold SR.wake; rw [if_neg (by rw [hi]; simp)]
        rw [e]
        exact rfl
      | true =>
        obtain ⟨_, h0, h1⟩ := SR.is_in hi
        show asrt _ _
        simp only [asrt_iff, band_t, ile_t, ilt_t, ofN_e]
        refine ⟨⟨h0, h1⟩, ⟨hb, h0, h1⟩, ?_⟩
        unfold SR.wake
        rw [if_pos hi]
        simp only [SR.withT, gI_e, gB_e, nOf_e, setI_any, setB_any, List.getD_eq_getElem?_getD]
        rfl
    · cases h
  · cases h


def FrRuns : Pure1 := fun
  | [a_s, .int .i64 id, .int .i64 side] => (match asSR a_s with | some s => some (some (SR.fit s), .bool (SR.runs s id side)) | none => none)
  | _ => none

theorem vc_rRuns (s : SR) (id side : Int) (r : AV) : VC Tryz.prog (tabS tabR7) noL false 18 [s.av, .int .i64 id, .int .i64 side] r = (
  asrt s.fit
    (br (bnot (s.is id)) (some (AV.bool false) = some r)
      (asrt (band (ile 0 id) (ilt id (ofN s.25)))
        (some (AV.bool (bite (ieq (gI s.26 (nOf id)) 1) (ieq (opSide (gI s.27 (nOf id))) side) false)) = some r)))) := by kernel_rfl

theorem ok_rRuns : PureOK Tryz.prog 18 FrRuns := by
  refine tab_plain mixed (l := tabR7) ok_tabR7 false (by kernel_rfl) fun xs b r h hb wf => ?_
  unfold FrRuns at h
  split at h
  · rename_i a_s id side
    split at h
    · rename_i s h_s
      obtain rfl := asSR_some h_s
      cases h
      try rw [some_f] at hb
      simp only [WFL, WF, List.mem_cons, List.not_mem_nil, or_false, forall_eq_or_imp, forall_eq, Col.len, and_true, true_and, wf_av] at wf
      rw [vc_rRuns]
      simp only [bite_and, bite_or]
      rw [asrt_iff]
      refine ⟨hb, ?_⟩
      unfold SR.runs
      cases hi : s.is id with
      | false => rfl
      | true =>
        obtain ⟨_, h0, h1⟩ := SR.is_in hi
        show asrt _ _
        simp only [asrt_iff, band_t, ile_t, ilt_t, ofN_e]
        refine ⟨⟨h0, h1⟩, congrArg (fun b => some (AV.bool b)) ?_⟩
        rw [Bool.eq_iff_iff]
        simp [asrt_iff, br_iff, ieq_t, ieq_f, ine_t, ine_f, ilt_t, ilt_f, ile_t, ile_f, igt_t, igt_f, ige_t, ige_f, nlt_t, nlt_f, nle_t, nle_f, neq_t, neq_f, beq2_t, beq2_f, bnot_t, bnot_f, band_t, band_f, bite_t, bite_f, bimp_t, bimp_f, iadd_e, isub_e, imul_e, ofN_e, nOf_e, nAdd_e, nDiff_e, room_e, lenI_e, gI_e, gB_e, imin_e, imax_e, cat_e, pt_e, put_e, some_f, List.getD_eq_getElem?_getD]
    · cases h
  · cases h


def FrAtPc : Pure1 := fun
  | [a_s, .int .i64 id, .int .i64 pc] => (match asSR a_s with | some s => some (some (band (SR.fit s) (band (ile 0 id) (ilt id (ofN s.nt)))), (SR.setPc s id pc).av) | none => none)
  | _ => none

theorem vc_rAtPc (s : SR) (id pc : Int) (r : AV) : VC Tryz.prog (tabS tabR7) noL false 32 [s.av, .int .i64 id, .int .i64 pc] r = (
  asrt (band (ile 0 id) (ilt id (ofN s.25)))
    (asrt (band s.fit (band (ile 0 id) (ilt id (ofN s.25))))
      (some
          (AV.agg
            [AV.int IntKind.i64
                (s.withT id (gI s.26 (nOf id)) (gI s.27 (nOf id)) (gI s.28 (nOf id)) (gI s.29 (nOf id)) pc
                    (gI s.31 (nOf id)) (gI s.32 (nOf id)) (gI s.33 (nOf id)) (gB s.34 (nOf id)) (gI s.35 (nOf id))
                    (gI s.36 (nOf id))).1,
              AV.int IntKind.i64
                (s.withT id (gI s.26 (nOf id)) (gI s.27 (nOf id)) (gI s.28 (nOf id)) (gI s.29 (nOf id)) pc
                    (gI s.31 (nOf id)) (gI s.32 (nOf id)) (gI s.33 (nOf id)) (gB s.34 (nOf id)) (gI s.35 (nOf id))
                    (gI s.36 (nOf id))).2,
              AV.int IntKind.i64
                (s.withT id (gI s.26 (nOf id)) (gI s.27 (nOf id)) (gI s.28 (nOf id)) (gI s.29 (nOf id)) pc
                    (gI s.31 (nOf id)) (gI s.32 (nOf id)) (gI s.33 (nOf id)) (gB s.34 (nOf id)) (gI s.35 (nOf id))
                    (gI s.36 (nOf id))).3,
              AV.int IntKind.i64
                (s.withT id (gI s.26 (nOf id)) (gI s.27 (nOf id)) (gI s.28 (nOf id)) (gI s.29 (nOf id)) pc
                    (gI s.31 (nOf id)) (gI s.32 (nOf id)) (gI s.33 (nOf id)) (gB s.34 (nOf id)) (gI s.35 (nOf id))
                    (gI s.36 (nOf id))).4,
              AV.int IntKind.i64
                (s.withT id (gI s.26 (nOf id)) (gI s.27 (nOf id)) (gI s.28 (nOf id)) (gI s.29 (nOf id)) pc
                    (gI s.31 (nOf id)) (gI s.32 (nOf id)) (gI s.33 (nOf id)) (gB s.34 (nOf id)) (gI s.35 (nOf id))
                    (gI s.36 (nOf id))).5,
              AV.int IntKind.i64
                (s.withT id (gI s.26 (nOf id)) (gI s.27 (nOf id)) (gI s.28 (nOf id)) (gI s.29 (nOf id)) pc
                    (gI s.31 (nOf id)) (gI s.32 (nOf id)) (gI s.33 (nOf id)) (gB s.34 (nOf id)) (gI s.35 (nOf id))
                    (gI s.36 (nOf id))).6,
              AV.bool
                (s.withT id (gI s.26 (nOf id)) (gI s.27 (nOf id)) (gI s.28 (nOf id)) (gI s.29 (nOf id)) pc
                    (gI s.31 (nOf id)) (gI s.32 (nOf id)) (gI s.33 (nOf id)) (gB s.34 (nOf id)) (gI s.35 (nOf id))
                    (gI s.36 (nOf id))).7,
              AV.int IntKind.i64
                (s.withT id (gI s.26 (nOf id)) (gI s.27 (nOf id)) (gI s.28 (nOf id)) (gI s.29 (nOf id)) pc
                    (gI s.31 (nOf id)) (gI s.32 (nOf id)) (gI s.33 (nOf id)) (gB s.34 (nOf id)) (gI s.35 (nOf id))
                    (gI s.36 (nOf id))).8,
              AV.int IntKind.i64
                (s.withT id (gI s.26 (nOf id)) (gI s.27 (nOf id)) (gI s.28 (nOf id)) (gI s.29 (nOf id)) pc
                    (gI s.31 (nOf id)) (gI s.32 (nOf id)) (gI s.33 (nOf id)) (gB s.34 (nOf id)) (gI s.35 (nOf id))
                    (gI s.36 (nOf id))).9,
              AV.int IntKind.i64
                (s.withT id (gI s.26 (nOf id)) (gI s.27 (nOf id)) (gI s.28 (nOf id)) (gI s.29 (nOf id)) pc
                    (gI s.31 (nOf id)) (gI s.32 (nOf id)) (gI s.33 (nOf id)) (gB s.34 (nOf id)) (gI s.35 (nOf id))
                    (gI s.36 (nOf id))).10,
              AV.sl
                (s.withT id (gI s.26 (nOf id)) (gI s.27 (nOf id)) (gI s.28 (nOf id)) (gI s.29 (nOf id)) pc
                    (gI s.31 (nOf id)) (gI s.32 (nOf id)) (gI s.33 (nOf id)) (gB s.34 (nOf id)) (gI s.35 (nOf id))
                    (gI s.36 (nOf id))).11
                [Col.int IntKind.i64
                    (s.withT id (gI s.26 (nOf id)) (gI s.27 (nOf id)) (gI s.28 (nOf id)) (gI s.29 (nOf id)) pc
                        (gI s.31 (nOf id)) (gI s.32 (nOf id)) (gI s.33 (nOf id)) (gB s.34 (nOf id)) (gI s.35 (nOf id))
                        (gI s.36 (nOf id))).12,
                  Col.int IntKind.i64
                    (s.withT id (gI s.26 (nOf id)) (gI s.27 (nOf id)) (gI s.28 (nOf id)) (gI s.29 (nOf id)) pc
                        (gI s.31 (nOf id)) (gI s.32 (nOf id)) (gI s.33 (nOf id)) (gB s.34 (nOf id)) (gI s.35 (nOf id))
                        (gI s.36 (nOf id))).13],
              AV.sl
                (s.withT id (gI s.26 (nOf id)) (gI s.27 (nOf id)) (gI s.28 (nOf id)) (gI s.29 (nOf id)) pc
                    (gI s.31 (nOf id)) (gI s.32 (nOf id)) (gI s.33 (nOf id)) (gB s.34 (nOf id)) (gI s.35 (nOf id))
                    (gI s.36 (nOf id))).14
                [Col.int IntKind.i64
                    (s.withT id (gI s.26 (nOf id)) (gI s.27 (nOf id)) (gI s.28 (nOf id)) (gI s.29 (nOf id)) pc
                        (gI s.31 (nOf id)) (gI s.32 (nOf id)) (gI s.33 (nOf id)) (gB s.34 (nOf id)) (gI s.35 (nOf id))
                        (gI s.36 (nOf id))).15],
              AV.sl
                (s.withT id (gI s.26 (nOf id)) (gI s.27 (nOf id)) (gI s.28 (nOf id)) (gI s.29 (nOf id)) pc
                    (gI s.31 (nOf id)) (gI s.32 (nOf id)) (gI s.33 (nOf id)) (gB s.34 (nOf id)) (gI s.35 (nOf id))
                    (gI s.36 (nOf id))).16
                [Col.int IntKind.i64
                    (s.withT id (gI s.26 (nOf id)) (gI s.27 (nOf id)) (gI s.28 (nOf id)) (gI s.29 (nOf id)) pc
                        (gI s.31 (nOf id)) (gI s.32 (nOf id)) (gI s.33 (nOf id)) (gB s.34 (nOf id)) (gI s.35 (nOf id))
                        (gI s.36 (nOf id))).17],
              AV.int IntKind.i64
                (s.withT id (gI s.26 (nOf id)) (gI s.27 (nOf id)) (gI s.28 (nOf id)) (gI s.29 (nOf id)) pc
                    (gI s.31 (nOf id)) (gI s.32 (nOf id)) (gI s.33 (nOf id)) (gB s.34 (nOf id)) (gI s.35 (nOf id))
                    (gI s.36 (nOf id))).18,
              AV.sl
                (s.withT id (gI s.26 (nOf id)) (gI s.27 (nOf id)) (gI s.28 (nOf id)) (gI s.29 (nOf id)) pc
                    (gI s.31 (nOf id)) (gI s.32 (nOf id)) (gI s.33 (nOf id)) (gB s.34 (nOf id)) (gI s.35 (nOf id))
                    (gI s.36 (nOf id))).19
                [Col.int IntKind.i64
                    (s.withT id (gI s.26 (nOf id)) (gI s.27 (nOf id)) (gI s.28 (nOf id)) (gI s.29 (nOf id)) pc
                        (gI s.31 (nOf id)) (gI s.32 (nOf id)) (gI s.33 (nOf id)) (gB s.34 (nOf id)) (gI s.35 (nOf id))
                        (gI s.36 (nOf id))).20],
              AV.int IntKind.i64
                (s.withT id (gI s.26 (nOf id)) (gI s.27 (nOf id)) (gI s.28 (nOf id)) (gI s.29 (nOf id)) pc
                    (gI s.31 (nOf id)) (gI s.32 (nOf id)) (gI s.33 (nOf id)) (gB s.34 (nOf id)) (gI s.35 (nOf id))
                    (gI s.36 (nOf id))).21,
              AV.sl
                (s.withT id (gI s.26 (nOf id)) (gI s.27 (nOf id)) (gI s.28 (nOf id)) (gI s.29 (nOf id)) pc
                    (gI s.31 (nOf id)) (gI s.32 (nOf id)) (gI s.33 (nOf id)) (gB s.34 (nOf id)) (gI s.35 (nOf id))
                    (gI s.36 (nOf id))).22
                [Col.int IntKind.i64
                    (s.withT id (gI s.26 (nOf id)) (gI s.27 (nOf id)) (gI s.28 (nOf id)) (gI s.29 (nOf id)) pc
                        (gI s.31 (nOf id)) (gI s.32 (nOf id)) (gI s.33 (nOf id)) (gB s.34 (nOf id)) (gI s.35 (nOf id))
                        (gI s.36 (nOf id))).23],
              AV.int IntKind.i64
                (s.withT id (gI s.26 (nOf id)) (gI s.27 (nOf id)) (gI s.28 (nOf id)) (gI s.29 (nOf id)) pc
                    (gI s.31 (nOf id)) (gI s.32 (nOf id)) (gI s.33 (nOf id)) (gB s.34 (nOf id)) (gI s.35 (nOf id))
                    (gI s.36 (nOf id))).24,
              AV.sl
                (s.withT id (gI s.26 (nOf id)) (gI s.27 (nOf id)) (gI s.28 (nOf id)) (gI s.29 (nOf id)) pc
                    (gI s.31 (nOf id)) (gI s.32 (nOf id)) (gI s.33 (nOf id)) (gB s.34 (nOf id)) (gI s.35 (nOf id))
                    (gI s.36 (nOf id))).25
                [Col.int IntKind.i64
                    (s.withT id (gI s.26 (nOf id)) (gI s.27 (nOf id)) (gI s.28 (nOf id)) (gI s.29 (nOf id)) pc
                        (gI s.31 (nOf id)) (gI s.32 (nOf id)) (gI s.33 (nOf id)) (gB s.34 (nOf id)) (gI s.35 (nOf id))
                        (gI s.36 (nOf id))).26,
                  Col.int IntKind.i64
                    (s.withT id (gI s.26 (nOf id)) (gI s.27 (nOf id)) (gI s.28 (nOf id)) (gI s.29 (nOf id)) pc
                        (gI s.31 (nOf id)) (gI s.32 (nOf id)) (gI s.33 (nOf id)) (gB s.34 (nOf id)) (gI s.35 (nOf id))
                        (gI s.36 (nOf id))).27,
                  Col.int IntKind.i64
                    (s.withT id (gI s.26 (nOf id)) (gI s.27 (nOf id)) (gI s.28 (nOf id)) (gI s.29 (nOf id)) pc
                        (gI s.31 (nOf id)) (gI s.32 (nOf id)) (gI s.33 (nOf id)) (gB s.34 (nOf id)) (gI s.35 (nOf id))
                        (gI s.36 (nOf id))).28,
                  Col.int IntKind.i64
                    (s.withT id (gI s.26 (nOf id)) (gI s.27 (nOf id)) (gI s.28 (nOf id)) (gI s.29 (nOf id)) pc
                        (gI s.31 (nOf id)) (gI s.32 (nOf id)) (gI s.33 (nOf id)) (gB s.34 (nOf id)) (gI s.35 (nOf id))
                        (gI s.36 (nOf id))).29,
                  Col.int IntKind.i64
                    (s.withT id (gI s.26 (nOf id)) (gI s.27 (nOf id)) (gI s.28 (nOf id)) (gI s.29 (nOf id)) pc
                        (gI s.31 (nOf id)) (gI s.32 (nOf id)) (gI s.33 (nOf id)) (gB s.34 (nOf id)) (gI s.35 (nOf id))
                        (gI s.36 (nOf id))).30,
                  Col.int IntKind.i64
                    (s.withT id (gI s.26 (nOf id)) (gI s.27 (nOf id)) (gI s.28 (nOf id)) (gI s.29 (nOf id)) pc
                        (gI s.31 (nOf id)) (gI s.32 (nOf id)) (gI s.33 (nOf id)) (gB s.34 (nOf id)) (gI s.35 (nOf id))
                        (gI s.36 (nOf id))).31,
                  Col.int IntKind.i64
                    (s.withT id (gI s.26 (nOf id)) (gI s.27 (nOf id)) (gI s.28 (nOf id)) (gI s.29 (nOf id)) pc
                        (gI s.31 (nOf id)) (gI s.32 (nOf id)) (gI s.33 (nOf id)) (gB s.34 (nOf id)) (gI s.35 (nOf id))
                        (gI s.36 (nOf id))).32,
                  Col.int IntKind.i64
                    (s.withT id (gI s.26 (nOf id)) (gI s.27 (nOf id)) (gI s.28 (nOf id)) (gI s.29 (nOf id)) pc
                        (gI s.31 (nOf id)) (gI s.32 (nOf id)) (gI s.33 (nOf id)) (gB s.34 (nOf id)) (gI s.35 (nOf id))
                        (gI s.36 (nOf id))).33,
                  Col.bool
                    (s.withT id (gI s.26 (nOf id)) (gI s.27 (nOf id)) (gI s.28 (nOf id)) (gI s.29 (nOf id)) pc
                        (gI s.31 (nOf id)) (gI s.32 (nOf id)) (gI s.33 (nOf id)) (gB s.34 (nOf id)) (gI s.35 (nOf id))
                        (gI s.36 (nOf id))).34,
                  Col.int IntKind.i64
                    (s.withT id (gI s.26 (nOf id)) (gI s.27 (nOf id)) (gI s.28 (nOf id)) (gI s.29 (nOf id)) pc
                        (gI s.31 (nOf id)) (gI s.32 (nOf id)) (gI s.33 (nOf id)) (gB s.34 (nOf id)) (gI s.35 (nOf id))
                        (gI s.36 (nOf id))).35,
                  Col.int IntKind.i64
                    (s.withT id (gI s.26 (nOf id)) (gI s.27 (nOf id)) (gI s.28 (nOf id)) (gI s.29 (nOf id)) pc
                        (gI s.31 (nOf id)) (gI s.32 (nOf id)) (gI s.33 (nOf id)) (gB s.34 (nOf id)) (gI s.35 (nOf id))
                        (gI s.36 (nOf id))).36],
              AV.sl
                (s.withT id (gI s.26 (nOf id)) (gI s.27 (nOf id)) (gI s.28 (nOf id)) (gI s.29 (nOf id)) pc
                    (gI s.31 (nOf id)) (gI s.32 (nOf id)) (gI s.33 (nOf id)) (gB s.34 (nOf id)) (gI s.35 (nOf id))
                    (gI s.36 (nOf id))).37
                [Col.int IntKind.i64
                    (s.withT id (gI s.26 (nOf id)) (gI s.27 (nOf id)) (gI s.28 (nOf id)) (gI s.29 (nOf id)) pc
                        (gI s.31 (nOf id)) (gI s.32 (nOf id)) (gI s.33 (nOf id)) (gB s.34 (nOf id)) (gI s.35 (nOf id))
                        (gI s.36 (nOf id))).38,
                  Col.int IntKind.i64
                    (s.withT id (gI s.26 (nOf id)) (gI s.27 (nOf id)) (gI s.28 (nOf id)) (gI s.29 (nOf id)) pc
                        (gI s.31 (nOf id)) (gI s.32 (nOf id)) (gI s.33 (nOf id)) (gB s.34 (nOf id)) (gI s.35 (nOf id))
                        (gI s.36 (nOf id))).39,
                  Col.int IntKind.i64
                    (s.withT id (gI s.26 (nOf id)) (gI s.27 (nOf id)) (gI s.28 (nOf id)) (gI s.29 (nOf id)) pc
                        (gI s.31 (nOf id)) (gI s.32 (nOf id)) (gI s.33 (nOf id)) (gB s.34 (nOf id)) (gI s.35 (nOf id))
                        (gI s.36 (nOf id))).40,
                  Col.int IntKind.i64
                    (s.withT id (gI s.26 (nOf id)) (gI s.27 (nOf id)) (gI s.28 (nOf id)) (gI s.29 (nOf id)) pc
                        (gI s.31 (nOf id)) (gI s.32 (nOf id)) (gI s.33 (nOf id)) (gB s.34 (nOf id)) (gI s.35 (nOf id))
                        (gI s.36 (nOf id))).41,
                  Col.int IntKind.i64
                    (s.withT id (gI s.26 (nOf id)) (gI s.27 (nOf id)) (gI s.28 (nOf id)) (gI s.29 (nOf id)) pc
                        (gI s.31 (nOf id)) (gI s.32 (nOf id)) (gI s.33 (nOf id)) (gB s.34 (nOf id)) (gI s.35 (nOf id))
                        (gI s.36 (nOf id))).42]]) =
        some r))) := by kernel_rfl

theorem ok_rAtPc : PureOK Tryz.prog 32 FrAtPc := by
  refine tab_plain mixed (l := tabR7) ok_tabR7 false (by kernel_rfl) fun xs b r h hb wf => ?_
  unfold FrAtPc at h
  split at h
  · rename_i a_s id pc
    split at h
    · rename_i s h_s
      obtain rfl := asSR_some h_s
      cases h
      try rw [some_f] at hb
      simp only [WFL, WF, List.mem_cons, List.not_mem_nil, or_false, forall_eq_or_imp, forall_eq, Col.len, and_true, true_and, wf_av] at wf
      rw [vc_rAtPc]
      simp only [band_t, ile_t, ilt_t, ofN_e] at hb
      obtain ⟨hf, h0, h1⟩ := hb
      simp only [asrt_iff, band_t, ile_t, ilt_t, ofN_e]
      refine ⟨⟨h0, h1⟩, ⟨hf, h0, h1⟩, ?_⟩
      simp only [SR.withT, gI_e, gB_e, nOf_e, setI_any, setB_any]
      rfl
    · cases h
  · cases h


def tabR8 : List (FuncId × Pure1) := [(55, FrTell), (58, FrWake), (18, FrRuns), (32, FrAtPc)] ++ tabR7

theorem ok_tabR8 : ∀ p ∈ tabR8, PureOK Tryz.prog p.1 p.2 := by
  intro p hp
  simp only [tabR8, List.mem_append, List.mem_cons, List.not_mem_nil, or_false] at hp
  rcases hp with (rfl | rfl | rfl | rfl) | hp
  · exact ok_rTell
  · exact ok_rWake
  · exact ok_rRuns
  · exact ok_rAtPc
  · exact ok_tabR7 p hp


def FrTold : Pure1 := fun
  | [a_s, .int .i64 id, .int .i64 res, .int .i64 got, .int .i64 pc] => (match asSR a_s with | some s => some (some (band (SR.fit s) (band (ilt (ofN s.nl) 1000000) (band (ile 0 id) (ilt id (ofN s.nt))))), (SR.setPc (SR.tell s id (gI s.kd (nOf id)) res got) id pc).av) | none => none)
  | _ => none

theorem vc_rTold (s : SR) (id res got pc : Int) (r : AV) : VC Tryz.prog (tabS tabR8) noL false 29 [s.av, .int .i64 id, .int .i64 res, .int .i64 got, .int .i64 pc] r = (
  asrt (band (ile 0 id) (ilt id (ofN s.25)))
    (asrt s.fit
      (asrt
        (band (s.tell id (gI s.27 (nOf id)) res got).fit
          (band (ile 0 id) (ilt id (ofN (s.tell id (gI s.27 (nOf id)) res got).25))))
        (some
            (AV.agg
              [AV.int IntKind.i64 ((s.tell id (gI s.27 (nOf id)) res got).setPc id pc).1,
                AV.int IntKind.i64 ((s.tell id (gI s.27 (nOf id)) res got).setPc id pc).2,
                AV.int IntKind.i64 ((s.tell id (gI s.27 (nOf id)) res got).setPc id pc).3,
                AV.int IntKind.i64 ((s.tell id (gI s.27 (nOf id)) res got).setPc id pc).4,
                AV.int IntKind.i64 ((s.tell id (gI s.27 (nOf id)) res got).setPc id pc).5,
                AV.int IntKind.i64 ((s.tell id (gI s.27 (nOf id)) res got).setPc id pc).6,
                AV.bool ((s.tell id (gI s.27 (nOf id)) res got).setPc id pc).7,
                AV.int IntKind.i64 ((s.tell id (gI s.27 (nOf id)) res got).setPc id pc).8,
                AV.int IntKind.i64 ((s.tell id (gI s.27 (nOf id)) res got).setPc id pc).9,
                AV.int IntKind.i64 ((s.tell id (gI s.27 (nOf id)) res got).setPc id pc).10,
                AV.sl ((s.tell id (gI s.27 (nOf id)) res got).setPc id pc).11
                  [Col.int IntKind.i64 ((s.tell id (gI s.27 (nOf id)) res got).setPc id pc).12,
                    Col.int IntKind.i64 ((s.tell id (gI s.27 (nOf id)) res got).setPc id pc).13],
                AV.sl ((s.tell id (gI s.27 (nOf id)) res got).setPc id pc).14
                  [Col.int IntKind.i64 ((s.tell id (gI s.27 (nOf id)) res got).setPc id pc).15],
                AV.sl ((s.tell id (gI s.27 (nOf id)) res got).setPc id pc).16
                  [Col.int IntKind.i64 ((s.tell id (gI s.27 (nOf id)) res got).setPc id pc).17],
                AV.int IntKind.i64 ((s.tell id (gI s.27 (nOf id)) res got).setPc id pc).18,
                AV.sl ((s.tell id (gI s.27 (nOf id)) res got).setPc id pc).19
                  [Col.int IntKind.i64 ((s.tell id (gI s.27 (nOf id)) res got).setPc id pc).20],
                AV.int IntKind.i64 ((s.tell id (gI s.27 (nOf id)) res got).setPc id pc).21,
                AV.sl ((s.tell id (gI s.27 (nOf id)) res got).setPc id pc).22
                  [Col.int IntKind.i64 ((s.tell id (gI s.27 (nOf id)) res got).setPc id pc).23],
                AV.int IntKind.i64 ((s.tell id (gI s.27 (nOf id)) res got).setPc id pc).24,
                AV.sl ((s.tell id (gI s.27 (nOf id)) res got).setPc id pc).25
                  [Col.int IntKind.i64 ((s.tell id (gI s.27 (nOf id)) res got).setPc id pc).26,
                    Col.int IntKind.i64 ((s.tell id (gI s.27 (nOf id)) res got).setPc id pc).27,
                    Col.int IntKind.i64 ((s.tell id (gI s.27 (nOf id)) res got).setPc id pc).28,
                    Col.int IntKind.i64 ((s.tell id (gI s.27 (nOf id)) res got).setPc id pc).29,
                    Col.int IntKind.i64 ((s.tell id (gI s.27 (nOf id)) res got).setPc id pc).30,
                    Col.int IntKind.i64 ((s.tell id (gI s.27 (nOf id)) res got).setPc id pc).31,
                    Col.int IntKind.i64 ((s.tell id (gI s.27 (nOf id)) res got).setPc id pc).32,
                    Col.int IntKind.i64 ((s.tell id (gI s.27 (nOf id)) res got).setPc id pc).33,
                    Col.bool ((s.tell id (gI s.27 (nOf id)) res got).setPc id pc).34,
                    Col.int IntKind.i64 ((s.tell id (gI s.27 (nOf id)) res got).setPc id pc).35,
                    Col.int IntKind.i64 ((s.tell id (gI s.27 (nOf id)) res got).setPc id pc).36],
                AV.sl ((s.tell id (gI s.27 (nOf id)) res got).setPc id pc).37
                  [Col.int IntKind.i64 ((s.tell id (gI s.27 (nOf id)) res got).setPc id pc).38,
                    Col.int IntKind.i64 ((s.tell id (gI s.27 (nOf id)) res got).setPc id pc).39,
                    Col.int IntKind.i64 ((s.tell id (gI s.27 (nOf id)) res got).setPc id pc).40,
                    Col.int IntKind.i64 ((s.tell id (gI s.27 (nOf id)) res got).setPc id pc).41,
                    Col.int IntKind.i64 ((s.tell id (gI s.27 (nOf id)) res got).setPc id pc).42]]) =
          some r)))) := by kernel_rfl

theorem ok_rTold : PureOK Tryz.prog 29 FrTold := by
  refine tab_plain mixed (l := tabR8) ok_tabR8 false (by kernel_rfl) fun xs b r h hb wf => ?_
  unfold FrTold at h
  split at h
  · rename_i a_s id res got pc
    split at h
    · rename_i s h_s
      obtain rfl := asSR_some h_s
      cases h
      try rw [some_f] at hb
      simp only [WFL, WF, List.mem_cons, List.not_mem_nil, or_false, forall_eq_or_imp, forall_eq, Col.len, and_true, true_and, wf_av] at wf
      rw [vc_rTold]
      simp only [band_t, ile_t, ilt_t, ofN_e] at hb
      obtain ⟨hf, hl, h0, h1⟩ := hb
      simp only [asrt_iff, band_t, ile_t, ilt_t, ofN_e]
      have hn : (s.tell id (gI s.kd (nOf id)) res got).nt = s.nt := SR.tell_nt s _ _ _ _
      have hfit : (s.tell id (gI s.kd (nOf id)) res got).fit = true := by
        unfold SR.tell
        split
        · obtain ⟨b1, b2⟩ := (SR.fit_iff s).1 hf
          exact (SR.fit_iff _).2 ⟨b1, by dsimp only; omega⟩
        · exact hf
      exact ⟨⟨h0, h1⟩, hf, ⟨hfit, h0, by rw [hn]; exact h1⟩, rfl⟩
    · cases h
  · cases h


def spec_rWoken : LoopSpec := { n := 19, keep := [1, 2, 4, 5], srcs := [.tmp 2, .tmp 4], keepE := [2, 4], srcsE := [.tmp 2, .tmp 4], goes := fun vals objs Q => match vals, objs with
  | [.sl n [.int .i64 l], .ptr 0 0 0, .ptr 1 0 0, .int .i64 i], [some (.var c_s), some (.var c_t)] => (match asSR (.agg c_s) with | some s => (match asSR (.agg c_t) with | some t => asrt (band (SR.fit s) (band (nle n 1000000) (band (ile 0 i) (ile i (ofN n))))) (Q (.exit 0) [.ptr 0 0 0, .ptr 1 0 0] [some (.var (SR.cells (SR.wakes s l (nOf i)))), some (.var t.cells)]) | none => False) | none => False)
  | _, _ => False }

theorem lp_rWoken (n : Nat) (l : List Int) (i : Int) (s t : SR) (mu : List AV → Heap → Nat) (Q : Ex → List AV → Heap → Prop) : runCode Tryz.prog (tabS tabR8) (callN Tryz.prog (tabS tabR8) noL 11) (fun _ => none) (bodyOf Tryz.prog 31 0) 0 ⟨mkT (spec_rWoken).keep [.sl n [.int .i64 l], .ptr 0 0 0, .ptr 1 0 0, .int .i64 i] (spec_rWoken).n 0, [some (.var s.cells), some (.var t.cells)]⟩ ((spec_rWoken).ends mu [.sl n [.int .i64 l], .ptr 0 0 0, .ptr 1 0 0, .int .i64 i] ([some (.var s.cells), some (.var t.cells)]) Q) = (
  br (ilt i (ofN n))
    (asrt (band (ile 0 i) (ilt i (ofN n)))
      (asrt s.fit
        ((mu [AV.sl n [Col.int IntKind.i64 l], AV.ptr 0 0 0, AV.ptr 1 0 0, AV.int IntKind.i64 (iadd IntKind.i64 i 1)]
                  [some
                      (AObj.var
                        [AV.int IntKind.i64 (s.wake (gI l (nOf i))).1, AV.int IntKind.i64 (s.wake (gI l (nOf i))).2,
                          AV.int IntKind.i64 (s.wake (gI l (nOf i))).3, AV.int IntKind.i64 (s.wake (gI l (nOf i))).4,
                          AV.int IntKind.i64 (s.wake (gI l (nOf i))).5, AV.int IntKind.i64 (s.wake (gI l (nOf i))).6,
                          AV.bool (s.wake (gI l (nOf i))).7, AV.int IntKind.i64 (s.wake (gI l (nOf i))).8,
                          AV.int IntKind.i64 (s.wake (gI l (nOf i))).9, AV.int IntKind.i64 (s.wake (gI l (nOf i))).10,
                          AV.sl (s.wake (gI l (nOf i))).11
                            [Col.int IntKind.i64 (s.wake (gI l (nOf i))).12,
                              Col.int IntKind.i64 (s.wake (gI l (nOf i))).13],
                          AV.sl (s.wake (gI l (nOf i))).14 [Col.int IntKind.i64 (s.wake (gI l (nOf i))).15],
                          AV.sl (s.wake (gI l (nOf i))).16 [Col.int IntKind.i64 (s.wake (gI l (nOf i))).17],
                          AV.int IntKind.i64 (s.wake (gI l (nOf i))).18,
                          AV.sl (s.wake (gI l (nOf i))).19 [Col.int IntKind.i64 (s.wake (gI l (nOf i))).20],
                          AV.int IntKind.i64 (s.wake (gI l (nOf i))).21,
                          AV.sl (s.wake (gI l (nOf i))).22 [Col.int IntKind.i64 (s.wake (gI l (nOf i))).23],
                          AV.int IntKind.i64 (s.wake (gI l (nOf i))).24,
                          AV.sl (s.wake (gI l (nOf i))).25
                            [Col.int IntKind.i64 (s.wake (gI l (nOf i))).26,
                              Col.int IntKind.i64 (s.wake (gI l (nOf i))).27,
                              Col.int IntKind.i64 (s.wake (gI l (nOf i))).28,
                              Col.int IntKind.i64 (s.wake (gI l (nOf i))).29,
                              Col.int IntKind.i64 (s.wake (gI l (nOf i))).30,
                              Col.int IntKind.i64 (s.wake (gI l (nOf i))).31,
                              Col.int IntKind.i64 (s.wake (gI l (nOf i))).32,
                              Col.int IntKind.i64 (s.wake (gI l (nOf i))).33, Col.bool (s.wake (gI l (nOf i))).34,
                              Col.int IntKind.i64 (s.wake (gI l (nOf i))).35,
                              Col.int IntKind.i64 (s.wake (gI l (nOf i))).36],
                          AV.sl (s.wake (gI l (nOf i))).37
                            [Col.int IntKind.i64 (s.wake (gI l (nOf i))).38,
                              Col.int IntKind.i64 (s.wake (gI l (nOf i))).39,
                              Col.int IntKind.i64 (s.wake (gI l (nOf i))).40,
                              Col.int IntKind.i64 (s.wake (gI l (nOf i))).41,
                              Col.int IntKind.i64 (s.wake (gI l (nOf i))).42]]),
                    some
                      (AObj.var
                        (SR.cells t))]).succ.le
            (mu [AV.sl n [Col.int IntKind.i64 l], AV.ptr 0 0 0, AV.ptr 1 0 0, AV.int IntKind.i64 i]
              [some
                  (AObj.var
                    (SR.cells s)),
                some
                  (AObj.var
                    (SR.cells t))]) ∧
          asrt
            (band (s.wake (gI l (nOf i))).fit
              (band (nle n 1000000) (band (ile 0 (iadd IntKind.i64 i 1)) (ile (iadd IntKind.i64 i 1) (ofN n)))))
            (Q (Ex.exit 0) [AV.ptr 0 0 0, AV.ptr 1 0 0]
              [some
                  (AObj.var
                    [AV.int IntKind.i64 ((s.wake (gI l (nOf i))).wakes l (nOf (iadd IntKind.i64 i 1))).1,
                      AV.int IntKind.i64 ((s.wake (gI l (nOf i))).wakes l (nOf (iadd IntKind.i64 i 1))).2,
                      AV.int IntKind.i64 ((s.wake (gI l (nOf i))).wakes l (nOf (iadd IntKind.i64 i 1))).3,
                      AV.int IntKind.i64 ((s.wake (gI l (nOf i))).wakes l (nOf (iadd IntKind.i64 i 1))).4,
                      AV.int IntKind.i64 ((s.wake (gI l (nOf i))).wakes l (nOf (iadd IntKind.i64 i 1))).5,
                      AV.int IntKind.i64 ((s.wake (gI l (nOf i))).wakes l (nOf (iadd IntKind.i64 i 1))).6,
                      AV.bool ((s.wake (gI l (nOf i))).wakes l (nOf (iadd IntKind.i64 i 1))).7,
                      AV.int IntKind.i64 ((s.wake (gI l (nOf i))).wakes l (nOf (iadd IntKind.i64 i 1))).8,
                      AV.int IntKind.i64 ((s.wake (gI l (nOf i))).wakes l (nOf (iadd IntKind.i64 i 1))).9,
                      AV.int IntKind.i64 ((s.wake (gI l (nOf i))).wakes l (nOf (iadd IntKind.i64 i 1))).10,
                      AV.sl ((s.wake (gI l (nOf i))).wakes l (nOf (iadd IntKind.i64 i 1))).11
                        [Col.int IntKind.i64 ((s.wake (gI l (nOf i))).wakes l (nOf (iadd IntKind.i64 i 1))).12,
                          Col.int IntKind.i64 ((s.wake (gI l (nOf i))).wakes l (nOf (iadd IntKind.i64 i 1))).13],
                      AV.sl ((s.wake (gI l (nOf i))).wakes l (nOf (iadd IntKind.i64 i 1))).14
                        [Col.int IntKind.i64 ((s.wake (gI l (nOf i))).wakes l (nOf (iadd IntKind.i64 i 1))).15],
                      AV.sl ((s.wake (gI l (nOf i))).wakes l (nOf (iadd IntKind.i64 i 1))).16
                        [Col.int IntKind.i64 ((s.wake (gI l (nOf i))).wakes l (nOf (iadd IntKind.i64 i 1))).17],
                      AV.int IntKind.i64 ((s.wake (gI l (nOf i))).wakes l (nOf (iadd IntKind.i64 i 1))).18,
                      AV.sl ((s.wake (gI l (nOf i))).wakes l (nOf (iadd IntKind.i64 i 1))).19
                        [Col.int IntKind.i64 ((s.wake (gI l (nOf i))).wakes l (nOf (iadd IntKind.i64 i 1))).20],
                      AV.int IntKind.i64 ((s.wake (gI l (nOf i))).wakes l (nOf (iadd IntKind.i64 i 1))).21,
                      AV.sl ((s.wake (gI l (nOf i))).wakes l (nOf (iadd IntKind.i64 i 1))).22
                        [Col.int IntKind.i64 ((s.wake (gI l (nOf i))).wakes l (nOf (iadd IntKind.i64 i 1))).23],
                      AV.int IntKind.i64 ((s.wake (gI l (nOf i))).wakes l (nOf (iadd IntKind.i64 i 1))).24,
                      AV.sl ((s.wake (gI l (nOf i))).wakes l (nOf (iadd IntKind.i64 i 1))).25
                        [Col.int IntKind.i64 ((s.wake (gI l (nOf i))).wakes l (nOf (iadd IntKind.i64 i 1))).26,
                          Col.int IntKind.i64 ((s.wake (gI l (nOf i))).wakes l (nOf (iadd IntKind.i64 i 1))).27,
                          Col.int IntKind.i64 ((s.wake (gI l (nOf i))).wakes l (nOf (iadd IntKind.i64 i 1))).28,
                          Col.int IntKind.i64 ((s.wake (gI l (nOf i))).wakes l (nOf (iadd IntKind.i64 i 1))).29,
                          Col.int IntKind.i64 ((s.wake (gI l (nOf i))).wakes l (nOf (iadd IntKind.i64 i 1))).30,
                          Col.int IntKind.i64 ((s.wake (gI l (nOf i))).wakes l (nOf (iadd IntKind.i64 i 1))).31,
                          Col.int IntKind.i64 ((s.wake (gI l (nOf i))).wakes l (nOf (iadd IntKind.i64 i 1))).32,
                          Col.int IntKind.i64 ((s.wake (gI l (nOf i))).wakes l (nOf (iadd IntKind.i64 i 1))).33,
                          Col.bool ((s.wake (gI l (nOf i))).wakes l (nOf (iadd IntKind.i64 i 1))).34,
                          Col.int IntKind.i64 ((s.wake (gI l (nOf i))).wakes l (nOf (iadd IntKind.i64 i 1))).35,
                          Col.int IntKind.i64 ((s.wake (gI l (nOf i))).wakes l (nOf (iadd IntKind.i64 i 1))).36],
                      AV.sl ((s.wake (gI l (nOf i))).wakes l (nOf (iadd IntKind.i64 i 1))).37
                        [Col.int IntKind.i64 ((s.wake (gI l (nOf i))).wakes l (nOf (iadd IntKind.i64 i 1))).38,
                          Col.int IntKind.i64 ((s.wake (gI l (nOf i))).wakes l (nOf (iadd IntKind.i64 i 1))).39,
                          Col.int IntKind.i64 ((s.wake (gI l (nOf i))).wakes l (nOf (iadd IntKind.i64 i 1))).40,
                          Col.int IntKind.i64 ((s.wake (gI l (nOf i))).wakes l (nOf (iadd IntKind.i64 i 1))).41,
                          Col.int IntKind.i64 ((s.wake (gI l (nOf i))).wakes l (nOf (iadd IntKind.i64 i 1))).42]]),
                some
                  (AObj.var
                    (SR.cells t))]))))
    (Q (Ex.exit 0) [AV.ptr 0 0 0, AV.ptr 1 0 0]
      [some
          (AObj.var
            (SR.cells s)),
        some
          (AObj.var
            (SR.cells t))])) := by kernel_rfl

theorem loop_rWoken : LoopOK Tryz.prog (bodyOf Tryz.prog 31 0) spec_rWoken.summ := by
  refine tab_loop mixed (l := tabR8) ok_tabR8 (i := 0) spec_rWoken (fun vals objs => match vals, objs with
    | [.sl n [.int .i64 l], .ptr 0 0 0, .ptr 1 0 0, .int .i64 i], [some (.var c_s), some (.var c_t)] => (ofN n - i).toNat
    | _, _ => 0) fun vals objs Q h1 h2 wf wo hg => ?_
  unfold spec_rWoken at hg
  simp only at hg
  split at hg
  · rename_i n l i c_s c_t
    clear h1 h2
    have hh : ∃ s t, asSR (.agg c_s) = some s ∧ asSR (.agg c_t) = some t := by
      cases e_s : asSR (.agg c_s) with
      | none => rw [e_s] at hg; exact hg.elim
      | some s =>
        rw [e_s] at hg; simp only at hg
        cases e_t : asSR (.agg c_t) with
        | none => rw [e_t] at hg; exact hg.elim
        | some t =>
          rw [e_t] at hg; simp only at hg
          exact ⟨s, t, rfl, rfl⟩
    obtain ⟨s, t, h_s, h_t⟩ := hh
    have e_s := cells_of h_s
    have e_t := cells_of h_t
    rw [h_s] at hg; simp only at hg
    rw [h_t] at hg; simp only at hg
    subst e_s
    subst e_t
    try simp only [WFL, WF, List.mem_cons, List.not_mem_nil, or_false, forall_eq_or_imp, forall_eq, Col.len, and_true, true_and] at wf
    rw [lp_rWoken]
    have hl : l.length = n := wf
    simp only [asrt_iff, band_t, nle_t, ile_t, ofN_e] at hg
    obtain ⟨⟨hf, hn, h0, hi⟩, hg⟩ := hg
    obtain ⟨k, rfl⟩ := Int.eq_ofNat_of_zero_le h0
    have hw : IntKind.i64.wrap ((k : Int) + 1) = (k : Int) + 1 := wr (by omega) (by omega)
    have e2 : ((k : Int) + 1).toNat = k + 1 := by omega
    have e3 : (k : Int).toNat = k := by omega
    rw [br_iff, ilt_t, ilt_f]
    refine ⟨fun hk => ?_, fun hk => ?_⟩
    · have hk' : k < l.length := by rw [ofN_e] at hk; omega
      have e4 : nOf (iadd .i64 (k : Int) 1) = k + 1 := by rw [iadd_e, hw, nOf_e, e2]
      have e5 : gI l (nOf (k : Int)) = l.getD k 0 := by rw [gI_e, nOf_e, e3]; simp [List.getD_eq_getElem?_getD]
      have e6 : nOf (k : Int) = k := by rw [nOf_e, e3]
      rw [e6, SR.wakes_lt s l hk'] at hg
      simp only [asrt_iff]
      refine ⟨by simp [asrt_iff, br_iff, ieq_t, ieq_f, ine_t, ine_f, ilt_t, ilt_f, ile_t, ile_f, igt_t, igt_f, ige_t, ige_f, nlt_t, nlt_f, nle_t, nle_f, neq_t, neq_f, beq2_t, beq2_f, bnot_t, bnot_f, band_t, band_f, bite_t, bite_f, bimp_t, bimp_f, iadd_e, isub_e, imul_e, ofN_e, nOf_e, nAdd_e, nDiff_e, room_e, lenI_e, gI_e, gB_e, imin_e, imax_e, cat_e, pt_e, put_e, some_f]; omega, hf, ?_, ?_, ?_⟩
      · simp [asrt_iff, br_iff, ieq_t, ieq_f, ine_t, ine_f, ilt_t, ilt_f, ile_t, ile_f, igt_t, igt_f, ige_t, ige_f, nlt_t, nlt_f, nle_t, nle_f, neq_t, neq_f, beq2_t, beq2_f, bnot_t, bnot_f, band_t, band_f, bite_t, bite_f, bimp_t, bimp_f, iadd_e, isub_e, imul_e, ofN_e, nOf_e, nAdd_e, nDiff_e, room_e, lenI_e, gI_e, gB_e, imin_e, imax_e, cat_e, pt_e, put_e, some_f, hw]; omega
      · simp only [band_t, nle_t, ile_t, ofN_e, iadd_e, hw]
        rw [e5]
        refine ⟨?_, hn, by omega, by omega⟩
        show (s.wake (l.getD k 0)).fit = true
        rw [SR.wake_fit]
        exact hf
      · rw [e5, e4]
        exact hg
    · have e6 : nOf (k : Int) = k := by rw [nOf_e, e3]
      rw [ofN_e] at hk
      rw [e6, SR.wakes_ge s l (by omega)] at hg
      exact hg
  · exact hg.elim


def LrWoken : Nat → Option LoopS := fun i => match i with
  | 0 => some (.summ spec_rWoken.summ)
  | _ => none

theorem ok_LrWoken : ∀ i x, LrWoken i = some x → LoopHyp Tryz.prog 31 i x := by
  intro i s h
  unfold LrWoken at h
  split at h
  · cases h; exact ⟨by kernel_rfl, loop_rWoken⟩
  · cases h


def FrWoken : Pure1 := fun
  | [a_s, .sl n [.int .i64 l]] => (match asSR a_s with | some s => some (some (band (SR.fit s) (nle n 1000000)), (SR.wakes s l 0).av) | none => none)
  | _ => none

theorem vc_rWoken (s : SR) (n : Nat) (l : List Int) (r : AV) : VC Tryz.prog (tabS tabR8) (oneL 31 LrWoken) false 31 [s.av, .sl n [.int .i64 l]] r = (
  asrt (band s.fit (band (nle n 1000000) (ile 0 (ofN n))))
    (some
        (AV.agg
          [AV.int IntKind.i64 (s.wakes l 0).1, AV.int IntKind.i64 (s.wakes l 0).2, AV.int IntKind.i64 (s.wakes l 0).3,
            AV.int IntKind.i64 (s.wakes l 0).4, AV.int IntKind.i64 (s.wakes l 0).5, AV.int IntKind.i64 (s.wakes l 0).6,
            AV.bool (s.wakes l 0).7, AV.int IntKind.i64 (s.wakes l 0).8, AV.int IntKind.i64 (s.wakes l 0).9,
            AV.int IntKind.i64 (s.wakes l 0).10,
            AV.sl (s.wakes l 0).11 [Col.int IntKind.i64 (s.wakes l 0).12, Col.int IntKind.i64 (s.wakes l 0).13],
            AV.sl (s.wakes l 0).14 [Col.int IntKind.i64 (s.wakes l 0).15],
            AV.sl (s.wakes l 0).16 [Col.int IntKind.i64 (s.wakes l 0).17], AV.int IntKind.i64 (s.wakes l 0).18,
            AV.sl (s.wakes l 0).19 [Col.int IntKind.i64 (s.wakes l 0).20], AV.int IntKind.i64 (s.wakes l 0).21,
            AV.sl (s.wakes l 0).22 [Col.int IntKind.i64 (s.wakes l 0).23], AV.int IntKind.i64 (s.wakes l 0).24,
            AV.sl (s.wakes l 0).25
              [Col.int IntKind.i64 (s.wakes l 0).26, Col.int IntKind.i64 (s.wakes l 0).27,
                Col.int IntKind.i64 (s.wakes l 0).28, Col.int IntKind.i64 (s.wakes l 0).29,
                Col.int IntKind.i64 (s.wakes l 0).30, Col.int IntKind.i64 (s.wakes l 0).31,
                Col.int IntKind.i64 (s.wakes l 0).32, Col.int IntKind.i64 (s.wakes l 0).33, Col.bool (s.wakes l 0).34,
                Col.int IntKind.i64 (s.wakes l 0).35, Col.int IntKind.i64 (s.wakes l 0).36],
            AV.sl (s.wakes l 0).37
              [Col.int IntKind.i64 (s.wakes l 0).38, Col.int IntKind.i64 (s.wakes l 0).39,
                Col.int IntKind.i64 (s.wakes l 0).40, Col.int IntKind.i64 (s.wakes l 0).41,
                Col.int IntKind.i64 (s.wakes l 0).42]]) =
      some r)) := by kernel_rfl

theorem ok_rWoken : PureOK Tryz.prog 31 FrWoken := by
  refine tab_loops mixed (l := tabR8) ok_tabR8 false LrWoken (by kernel_rfl) ok_LrWoken fun xs b r h hb wf => ?_
  unfold FrWoken at h
  split at h
  · rename_i a_s n l
    split at h
    · rename_i s h_s
      obtain rfl := asSR_some h_s
      cases h
      try rw [some_f] at hb
      simp only [WFL, WF, List.mem_cons, List.not_mem_nil, or_false, forall_eq_or_imp, forall_eq, Col.len, and_true, true_and, wf_av] at wf
      rw [vc_rWoken]
      simp only [band_t, nle_t] at hb
      simp only [asrt_iff, band_t, nle_t, ile_t, ofN_e]
      exact ⟨⟨hb.1, hb.2, by omega⟩, rfl⟩
    · cases h
  · cases h


def tabR9 : List (FuncId × Pure1) := [(29, FrTold), (31, FrWoken)] ++ tabR8

theorem ok_tabR9 : ∀ p ∈ tabR9, PureOK Tryz.prog p.1 p.2 := by
  intro p hp
  simp only [tabR9, List.mem_append, List.mem_cons, List.not_mem_nil, or_false] at hp
  rcases hp with (rfl | rfl) | hp
  · exact ok_rTold
  · exact ok_rWoken
  · exact ok_tabR8 p hp


theorem SR.runs_closer (s : SR) (id : Int) : s.runs id 3 = s.closer id := by
  unfold SR.runs SR.closer
  cases hi : s.is id with
  | false => rfl
  | true =>
    obtain ⟨ho, h0, h1⟩ := SR.is_in hi
    have h2 := ((SR.ok_iff2 s).1 ho).2 id.toNat (by omega)
    unfold SR.thok at h2
    rw [thOk_iff] at h2
    have h3 := h2.1
    rw [Bool.true_and, Bool.true_and]
    refine decide_eq_decide.2 ?_
    unfold thRuns
    constructor
    · rintro ⟨h4, h5⟩
      exact ⟨by rw [if_neg (by omega), if_neg (by omega)], h5⟩
    · rintro ⟨h4, h5⟩
      refine ⟨?_, h5⟩
      split at h4
      · omega
      · split at h4
        · omega
        · omega

theorem SR.wakes_setPc (id p : Int) (l : List Int) : ∀ (t : SR), t.ok = true → (t.setPc id p).ok = true → (l.foldl SR.wake (t.setPc id p)) = (l.foldl SR.wake t).setPc id p := by
  induction l with
  | nil => intro t _ _; rfl
  | cons x l ih =>
    intro t h1 h2
    have e : (t.setPc id p).wake x = (t.wake x).setPc id p := by
      unfold SR.wake SR.is
      rw [h1, h2]
      show (if (true && decide (0 ≤ x ∧ x < t.nt)) = true then _ else _) = _
      split <;> rfl
    rw [List.foldl_cons, List.foldl_cons, e]
    refine ih _ (SR.wake_ok h1 x) ?_
    rw [← e]
    exact SR.wake_ok h2 x

theorem set_set_ne (l : List Int) {i j : Nat} (h : i ≠ j) (x y : Int) : (l.set i x).set j y = (l.set j y).set i x := List.set_comm x y h

theorem SR.wake_done {t : SR} (h : t.ok = true) (hr : t.rows) {id : Int} (h1 : t.st.getD id.toNat 0 = 1) (h0 : 0 ≤ id) (hlt : id < t.nt) (x : Int) : (t.done id).wake x = (t.wake x).done id ∧ (t.wake x).st.getD id.toNat 0 = 1 := by
  have hd := SR.done_ok h hr id
  have hst : (t.wake x).st.getD id.toNat 0 = 1 := by rw [SR.wake_st t x id.toNat (by omega)]; exact h1
  refine ⟨?_, hst⟩
  by_cases hx : 0 ≤ x ∧ x < t.nt
  · have e1 : (t.done id).wake x = { t.done id with st := (t.done id).st.set x.toNat (wakeSt ((t.done id).st.getD x.toNat 0)) } := by
      unfold SR.wake SR.is
      rw [hd, if_pos]
      simp only [Bool.true_and, decide_eq_true_eq]
      exact hx
    have e2 : t.wake x = { t with st := t.st.set x.toNat (wakeSt (t.st.getD x.toNat 0)) } := by
      unfold SR.wake SR.is
      rw [h, if_pos]
      simp only [Bool.true_and, decide_eq_true_eq]
      exact hx
    rw [e2] at hst
    rw [e1, e2]
    have hlen : id.toNat < t.st.length := by have := hr.st; omega
    by_cases he : x = id
    · subst he
      have z0 : (t.done x).st.getD x.toNat 0 = 0 := by
        show (t.st.set x.toNat (invI (thRuns (t.st.getD x.toNat 0)) 0 (t.st.getD x.toNat 0))).getD x.toNat 0 = 0
        rw [h1, getD_set, if_pos ⟨rfl, hlen⟩]
        rfl
      rw [z0, h1]
      have s1 : (t.done x).st.set x.toNat (wakeSt 0) = (t.done x).st := by
        have := setI_any (t.done x).st x.toNat
        rw [← List.getD_eq_getElem?_getD, z0] at this
        exact this
      have s2 : t.st.set x.toNat (wakeSt 1) = t.st := by
        have := setI_any t.st x.toNat
        rw [← List.getD_eq_getElem?_getD, h1] at this
        exact this
      rw [s1, s2]
    · have hne : id.toNat ≠ x.toNat := by omega
      have g1 : (t.st.set x.toNat (wakeSt (t.st.getD x.toNat 0))).getD id.toNat 0 = t.st.getD id.toNat 0 := by
        rw [getD_set, if_neg (by omega)]
      have g2 : (t.done id).st.getD x.toNat 0 = t.st.getD x.toNat 0 := by
        show (t.st.set id.toNat _).getD x.toNat 0 = _
        rw [getD_set, if_neg (by omega)]
      rw [g2]
      unfold SR.done
      dsimp only
      rw [g1, set_set_ne _ hne]
  · have e1 : (t.done id).wake x = t.done id := by
      unfold SR.wake SR.is
      rw [if_neg]
      simp only [Bool.and_eq_true, decide_eq_true_eq]
      exact fun h => hx h.2
    have e2 : t.wake x = t := by
      unfold SR.wake SR.is
      rw [if_neg]
      simp only [Bool.and_eq_true, decide_eq_true_eq]
      exact fun h => hx h.2
    rw [e1, e2]

theorem SR.wakes_done (id : Int) (h0 : 0 ≤ id) (l : List Int) : ∀ (t : SR), t.ok = true → t.rows → t.st.getD id.toNat 0 = 1 → id < t.nt → (l.foldl SR.wake (t.done id)) = (l.foldl SR.wake t).done id := by
  induction l with
  | nil => intro t _ _ _ _; rfl
  | cons x l ih =>
    intro t h1 h2 h3 h4
    obtain ⟨e1, e2⟩ := SR.wake_done h1 h2 h3 h0 h4 x
    rw [List.foldl_cons, List.foldl_cons, e1]
    exact ih _ (SR.wake_ok h1 x) (SR.wake_rows h2 x) e2 (by rw [SR.wake_nt]; exact h4)

theorem SR.done_with {u : SR} {id : Int} (h1 : u.st.getD id.toNat 0 = 1) : u.withT id 0 (gI u.kd (nOf id)) (gI u.vl (nOf id)) (gI u.un (nOf id)) 0 0 0 0 false (gI u.rs (nOf id)) (gI u.gt (nOf id)) = u.done id := by
  unfold SR.done SR.withT
  rw [h1]
  simp only [gI_e, nOf_e, setI_any]
  rfl

def FrStep : Pure1 := fun
  | [a_s, .int .i64 id] => (match asSR a_s with | some s => some (some (band (SR.fit s) (ilt (ofN s.nl) 1000000)), (SR.step s id).av) | none => none)
  | _ => none

theorem vc_rStep (s : SR) (id : Int) (r : AV) : VC Tryz.prog (tabS tabR9) noL false 11 [s.av, .int .i64 id] r = (
  asrt s.fit
    (br (bnot (s.runs id 3))
      (some
          (AV.agg
            (SR.cells s)) =
        some r)
      (asrt (band (ile 0 id) (ilt id (ofN s.25)))
        (br (ieq (gI s.30 (nOf id)) 0)
          (asrt
            (band
              { s with md := closeM s.10 (cmode (gI s.27 (nOf id))) }.fit
              (band (ilt (ofN s.37) 1000000) (band (ile 0 id) (ilt id (ofN s.25)))))
            (some
                (AV.agg
                  [AV.int IntKind.i64
                      (({ s with md := closeM s.10 (cmode (gI s.27 (nOf id))) }.tell
                              id (gI s.27 (nOf id)) 1 0).setPc
                          id 1).1,
                    AV.int IntKind.i64
                      (({ s with md := closeM s.10 (cmode (gI s.27 (nOf id))) }.tell
                              id (gI s.27 (nOf id)) 1 0).setPc
                          id 1).2,
                    AV.int IntKind.i64
                      (({ s with md := closeM s.10 (cmode (gI s.27 (nOf id))) }.tell
                              id (gI s.27 (nOf id)) 1 0).setPc
                          id 1).3,
                    AV.int IntKind.i64
                      (({ s with md := closeM s.10 (cmode (gI s.27 (nOf id))) }.tell
                              id (gI s.27 (nOf id)) 1 0).setPc
                          id 1).4,
                    AV.int IntKind.i64
                      (({ s with md := closeM s.10 (cmode (gI s.27 (nOf id))) }.tell
                              id (gI s.27 (nOf id)) 1 0).setPc
                          id 1).5,
                    AV.int IntKind.i64
                      (({ s with md := closeM s.10 (cmode (gI s.27 (nOf id))) }.tell
                              id (gI s.27 (nOf id)) 1 0).setPc
                          id 1).6,
                    AV.bool
                      (({ s with md := closeM s.10 (cmode (gI s.27 (nOf id))) }.tell
                              id (gI s.27 (nOf id)) 1 0).setPc
                          id 1).7,
                    AV.int IntKind.i64
                      (({ s with md := closeM s.10 (cmode (gI s.27 (nOf id))) }.tell
                              id (gI s.27 (nOf id)) 1 0).setPc
                          id 1).8,
                    AV.int IntKind.i64
                      (({ s with md := closeM s.10 (cmode (gI s.27 (nOf id))) }.tell
                              id (gI s.27 (nOf id)) 1 0).setPc
                          id 1).9,
                    AV.int IntKind.i64
                      (({ s with md := closeM s.10 (cmode (gI s.27 (nOf id))) }.tell
                              id (gI s.27 (nOf id)) 1 0).setPc
                          id 1).10,
                    AV.sl
                      (({ s with md := closeM s.10 (cmode (gI s.27 (nOf id))) }.tell
                              id (gI s.27 (nOf id)) 1 0).setPc
                          id 1).11
                      [Col.int IntKind.i64
                          (({ s with md := closeM s.10 (cmode (gI s.27 (nOf id))) }.tell
                                  id (gI s.27 (nOf id)) 1 0).setPc
                              id 1).12,
                        Col.int IntKind.i64
                          (({ s with md := closeM s.10 (cmode (gI s.27 (nOf id))) }.tell
                                  id (gI s.27 (nOf id)) 1 0).setPc
                              id 1).13],
                    AV.sl
                      (({ s with md := closeM s.10 (cmode (gI s.27 (nOf id))) }.tell
                              id (gI s.27 (nOf id)) 1 0).setPc
                          id 1).14
                      [Col.int IntKind.i64
                          (({ s with md := closeM s.10 (cmode (gI s.27 (nOf id))) }.tell
                                  id (gI s.27 (nOf id)) 1 0).setPc
                              id 1).15],
                    AV.sl
                      (({ s with md := closeM s.10 (cmode (gI s.27 (nOf id))) }.tell
                              id (gI s.27 (nOf id)) 1 0).setPc
                          id 1).16
                      [Col.int IntKind.i64
                          (({ s with md := closeM s.10 (cmode (gI s.27 (nOf id))) }.tell
                                  id (gI s.27 (nOf id)) 1 0).setPc
                              id 1).17],
                    AV.int IntKind.i64
                      (({ s with md := closeM s.10 (cmode (gI s.27 (nOf id))) }.tell
                              id (gI s.27 (nOf id)) 1 0).setPc
                          id 1).18,
                    AV.sl
                      (({ s with md := closeM s.10 (cmode (gI s.27 (nOf id))) }.tell
                              id (gI s.27 (nOf id)) 1 0).setPc
                          id 1).19
                      [Col.int IntKind.i64
                          (({ s with md := closeM s.10 (cmode (gI s.27 (nOf id))) }.tell
                                  id (gI s.27 (nOf id)) 1 0).setPc
                              id 1).20],
                    AV.int IntKind.i64
                      (({ s with md := closeM s.10 (cmode (gI s.27 (nOf id))) }.tell
                              id (gI s.27 (nOf id)) 1 0).setPc
                          id 1).21,
                    AV.sl
                      (({ s with md := closeM s.10 (cmode (gI s.27 (nOf id))) }.tell
                              id (gI s.27 (nOf id)) 1 0).setPc
                          id 1).22
                      [Col.int IntKind.i64
                          (({ s with md := closeM s.10 (cmode (gI s.27 (nOf id))) }.tell
                                  id (gI s.27 (nOf id)) 1 0).setPc
                              id 1).23],
                    AV.int IntKind.i64
                      (({ s with md := closeM s.10 (cmode (gI s.27 (nOf id))) }.tell
                              id (gI s.27 (nOf id)) 1 0).setPc
                          id 1).24,
                    AV.sl
                      (({ s with md := closeM s.10 (cmode (gI s.27 (nOf id))) }.tell
                              id (gI s.27 (nOf id)) 1 0).setPc
                          id 1).25
                      [Col.int IntKind.i64
                          (({ s with md := closeM s.10 (cmode (gI s.27 (nOf id))) }.tell
                                  id (gI s.27 (nOf id)) 1 0).setPc
                              id 1).26,
                        Col.int IntKind.i64
                          (({ s with md := closeM s.10 (cmode (gI s.27 (nOf id))) }.tell
                                  id (gI s.27 (nOf id)) 1 0).setPc
                              id 1).27,
                        Col.int IntKind.i64
                          (({ s with md := closeM s.10 (cmode (gI s.27 (nOf id))) }.tell
                                  id (gI s.27 (nOf id)) 1 0).setPc
                              id 1).28,
                        Col.int IntKind.i64
                          (({ s with md := closeM s.10 (cmode (gI s.27 (nOf id))) }.tell
                                  id (gI s.27 (nOf id)) 1 0).setPc
                              id 1).29,
                        Col.int IntKind.i64
                          (({ s with md := closeM s.10 (cmode (gI s.27 (nOf id))) }.tell
                                  id (gI s.27 (nOf id)) 1 0).setPc
                              id 1).30,
                        Col.int IntKind.i64
                          (({ s with md := closeM s.10 (cmode (gI s.27 (nOf id))) }.tell
                                  id (gI s.27 (nOf id)) 1 0).setPc
                              id 1).31,
                        Col.int IntKind.i64
                          (({ s with md := closeM s.10 (cmode (gI s.27 (nOf id))) }.tell
                                  id (gI s.27 (nOf id)) 1 0).setPc
                              id 1).32,
                        Col.int IntKind.i64
                          (({ s with md := closeM s.10 (cmode (gI s.27 (nOf id))) }.tell
                                  id (gI s.27 (nOf id)) 1 0).setPc
                              id 1).33,
                        Col.bool
                          (({ s with md := closeM s.10 (cmode (gI s.27 (nOf id))) }.tell
                                  id (gI s.27 (nOf id)) 1 0).setPc
                              id 1).34,
                        Col.int IntKind.i64
                          (({ s with md := closeM s.10 (cmode (gI s.27 (nOf id))) }.tell
                                  id (gI s.27 (nOf id)) 1 0).setPc
                              id 1).35,
                        Col.int IntKind.i64
                          (({ s with md := closeM s.10 (cmode (gI s.27 (nOf id))) }.tell
                                  id (gI s.27 (nOf id)) 1 0).setPc
                              id 1).36],
                    AV.sl
                      (({ s with md := closeM s.10 (cmode (gI s.27 (nOf id))) }.tell
                              id (gI s.27 (nOf id)) 1 0).setPc
                          id 1).37
                      [Col.int IntKind.i64
                          (({ s with md := closeM s.10 (cmode (gI s.27 (nOf id))) }.tell
                                  id (gI s.27 (nOf id)) 1 0).setPc
                              id 1).38,
                        Col.int IntKind.i64
                          (({ s with md := closeM s.10 (cmode (gI s.27 (nOf id))) }.tell
                                  id (gI s.27 (nOf id)) 1 0).setPc
                              id 1).39,
                        Col.int IntKind.i64
                          (({ s with md := closeM s.10 (cmode (gI s.27 (nOf id))) }.tell
                                  id (gI s.27 (nOf id)) 1 0).setPc
                              id 1).40,
                        Col.int IntKind.i64
                          (({ s with md := closeM s.10 (cmode (gI s.27 (nOf id))) }.tell
                                  id (gI s.27 (nOf id)) 1 0).setPc
                              id 1).41,
                        Col.int IntKind.i64
                          (({ s with md := closeM s.10 (cmode (gI s.27 (nOf id))) }.tell
                                  id (gI s.27 (nOf id)) 1 0).setPc
                              id 1).42]]) =
              some r))
          (br (ieq (gI s.30 (nOf id)) 1)
            (asrt (nle s.19 big)
              (asrt
                (band
                  { s with fe := comeE s.18 s.20, n3 := lenI (allL s.18 s.20), l3 := allL s.18 s.20 }.fit
                  (band (ile 0 id) (ilt id (ofN s.25))))
                (asrt
                  (band
                    ({ s with fe := comeE s.18 s.20, n3 := lenI (allL s.18 s.20), l3 := allL s.18 s.20 }.setPc
                        id 2).fit
                    (nle (lenI (allO s.18 s.20)) 1000000))
                  (some
                      (AV.agg
                        [AV.int IntKind.i64
                            (({ s with fe := comeE s.18 s.20, n3 := lenI (allL s.18 s.20), l3 := allL s.18 s.20 }.setPc
                                    id 2).wakes
                                (allO s.18 s.20) 0).1,
                          AV.int IntKind.i64
                            (({ s with fe := comeE s.18 s.20, n3 := lenI (allL s.18 s.20), l3 := allL s.18 s.20 }.setPc
                                    id 2).wakes
                                (allO s.18 s.20) 0).2,
                          AV.int IntKind.i64
                            (({ s with fe := comeE s.18 s.20, n3 := lenI (allL s.18 s.20), l3 := allL s.18 s.20 }.setPc
                                    id 2).wakes
                                (allO s.18 s.20) 0).3,
                          AV.int IntKind.i64
                            (({ s with fe := comeE s.18 s.20, n3 := lenI (allL s.18 s.20), l3 := allL s.18 s.20 }.setPc
                                    id 2).wakes
                                (allO s.18 s.20) 0).4,
                          AV.int IntKind.i64
                            (({ s with fe := comeE s.18 s.20, n3 := lenI (allL s.18 s.20), l3 := allL s.18 s.20 }.setPc
                                    id 2).wakes
                                (allO s.18 s.20) 0).5,
                          AV.int IntKind.i64
                            (({ s with fe := comeE s.18 s.20, n3 := lenI (allL s.18 s.20), l3 := allL s.18 s.20 }.setPc
                                    id 2).wakes
                                (allO s.18 s.20) 0).6,
                          AV.bool
                            (({ s with fe := comeE s.18 s.20, n3 := lenI (allL s.18 s.20), l3 := allL s.18 s.20 }.setPc
                                    id 2).wakes
                                (allO s.18 s.20) 0).7,
                          AV.int IntKind.i64
                            (({ s with fe := comeE s.18 s.20, n3 := lenI (allL s.18 s.20), l3 := allL s.18 s.20 }.setPc
                                    id 2).wakes
                                (allO s.18 s.20) 0).8,
                          AV.int IntKind.i64
                            (({ s with fe := comeE s.18 s.20, n3 := lenI (allL s.18 s.20), l3 := allL s.18 s.20 }.setPc
                                    id 2).wakes
                                (allO s.18 s.20) 0).9,
                          AV.int IntKind.i64
                            (({ s with fe := comeE s.18 s.20, n3 := lenI (allL s.18 s.20), l3 := allL s.18 s.20 }.setPc
                                    id 2).wakes
                                (allO s.18 s.20) 0).10,
                          AV.sl
                            (({ s with fe := comeE s.18 s.20, n3 := lenI (allL s.18 s.20), l3 := allL s.18 s.20 }.setPc
                                    id 2).wakes
                                (allO s.18 s.20) 0).11
                            [Col.int IntKind.i64
                                (({ s with fe := comeE s.18 s.20, n3 := lenI (allL s.18 s.20), l3 := allL s.18 s.20 }.setPc
                                        id 2).wakes
                                    (allO s.18 s.20) 0).12,
                              Col.int IntKind.i64
                                (({ s with fe := comeE s.18 s.20, n3 := lenI (allL s.18 s.20), l3 := allL s.18 s.20 }.setPc
                                        id 2).wakes
                                    (allO s.18 s.20) 0).13],
                          AV.sl
                            (({ s with fe := comeE s.18 s.20, n3 := lenI (allL s.18 s.20), l3 := allL s.18 s.20 }.setPc
                                    id 2).wakes
                                (allO s.18 s.20) 0).14
                            [Col.int IntKind.i64
                                (({ s with fe := comeE s.18 s.20, n3 := lenI (allL s.18 s.20), l3 := allL s.18 s.20 }.setPc
                                        id 2).wakes
                                    (allO s.18 s.20) 0).15],
                          AV.sl
                            (({ s with fe := comeE s.18 s.20, n3 := lenI (allL s.18 s.20), l3 := allL s.18 s.20 }.setPc
                                    id 2).wakes
                                (allO s.18 s.20) 0).16
                            [Col.int IntKind.i64
                                (({ s with fe := comeE s.18 s.20, n3 := lenI (allL s.18 s.20), l3 := allL s.18 s.20 }.setPc
                                        id 2).wakes
                                    (allO s.18 s.20) 0).17],
                          AV.int IntKind.i64
                            (({ s with fe := comeE s.18 s.20, n3 := lenI (allL s.18 s.20), l3 := allL s.18 s.20 }.setPc
                                    id 2).wakes
                                (allO s.18 s.20) 0).18,
                          AV.sl
                            (({ s with fe := comeE s.18 s.20, n3 := lenI (allL s.18 s.20), l3 := allL s.18 s.20 }.setPc
                                    id 2).wakes
                                (allO s.18 s.20) 0).19
                            [Col.int IntKind.i64
                                (({ s with fe := comeE s.18 s.20, n3 := lenI (allL s.18 s.20), l3 := allL s.18 s.20 }.setPc
                                        id 2).wakes
                                    (allO s.18 s.20) 0).20],
                          AV.int IntKind.i64
                            (({ s with fe := comeE s.18 s.20, n3 := lenI (allL s.18 s.20), l3 := allL s.18 s.20 }.setPc
                                    id 2).wakes
                                (allO s.18 s.20) 0).21,
                          AV.sl
                            (({ s with fe := comeE s.18 s.20, n3 := lenI (allL s.18 s.20), l3 := allL s.18 s.20 }.setPc
                                    id 2).wakes
                                (allO s.18 s.20) 0).22
                            [Col.int IntKind.i64
                                (({ s with fe := comeE s.18 s.20, n3 := lenI (allL s.18 s.20), l3 := allL s.18 s.20 }.setPc
                                        id 2).wakes
                                    (allO s.18 s.20) 0).23],
                          AV.int IntKind.i64
                            (({ s with fe := comeE s.18 s.20, n3 := lenI (allL s.18 s.20), l3 := allL s.18 s.20 }.setPc
                                    id 2).wakes
                                (allO s.18 s.20) 0).24,
                          AV.sl
                            (({ s with fe := comeE s.18 s.20, n3 := lenI (allL s.18 s.20), l3 := allL s.18 s.20 }.setPc
                                    id 2).wakes
                                (allO s.18 s.20) 0).25
                            [Col.int IntKind.i64
                                (({ s with fe := comeE s.18 s.20, n3 := lenI (allL s.18 s.20), l3 := allL s.18 s.20 }.setPc
                                        id 2).wakes
                                    (allO s.18 s.20) 0).26,
                              Col.int IntKind.i64
                                (({ s with fe := comeE s.18 s.20, n3 := lenI (allL s.18 s.20), l3 := allL s.18 s.20 }.setPc
                                        id 2).wakes
                                    (allO s.18 s.20) 0).27,
                              Col.int IntKind.i64
                                (({ s with fe := comeE s.18 s.20, n3 := lenI (allL s.18 s.20), l3 := allL s.18 s.20 }.setPc
                                        id 2).wakes
                                    (allO s.18 s.20) 0).28,
                              Col.int IntKind.i64
                                (({ s with fe := comeE s.18 s.20, n3 := lenI (allL s.18 s.20), l3 := allL s.18 s.20 }.setPc
                                        id 2).wakes
                                    (allO s.18 s.20) 0).29,
                              Col.int IntKind.i64
                                (({ s with fe := comeE s.18 s.20, n3 := lenI (allL s.18 s.20), l3 := allL s.18 s.20 }.setPc
                                        id 2).wakes
                                    (allO s.18 s.20) 0).30,
                              Col.int IntKind.i64
                                (({ s with fe := comeE s.18 s.20, n3 := lenI (allL s.18 s.20), l3 := allL s.18 s.20 }.setPc
                                        id 2).wakes
                                    (allO s.18 s.20) 0).31,
                              Col.int IntKind.i64
                                (({ s with fe := comeE s.18 s.20, n3 := lenI (allL s.18 s.20), l3 := allL s.18 s.20 }.setPc
                                        id 2).wakes
                                    (allO s.18 s.20) 0).32,
                              Col.int IntKind.i64
                                (({ s with fe := comeE s.18 s.20, n3 := lenI (allL s.18 s.20), l3 := allL s.18 s.20 }.setPc
                                        id 2).wakes
                                    (allO s.18 s.20) 0).33,
                              Col.bool
                                (({ s with fe := comeE s.18 s.20, n3 := lenI (allL s.18 s.20), l3 := allL s.18 s.20 }.setPc
                                        id 2).wakes
                                    (allO s.18 s.20) 0).34,
                              Col.int IntKind.i64
                                (({ s with fe := comeE s.18 s.20, n3 := lenI (allL s.18 s.20), l3 := allL s.18 s.20 }.setPc
                                        id 2).wakes
                                    (allO s.18 s.20) 0).35,
                              Col.int IntKind.i64
                                (({ s with fe := comeE s.18 s.20, n3 := lenI (allL s.18 s.20), l3 := allL s.18 s.20 }.setPc
                                        id 2).wakes
                                    (allO s.18 s.20) 0).36],
                          AV.sl
                            (({ s with fe := comeE s.18 s.20, n3 := lenI (allL s.18 s.20), l3 := allL s.18 s.20 }.setPc
                                    id 2).wakes
                                (allO s.18 s.20) 0).37
                            [Col.int IntKind.i64
                                (({ s with fe := comeE s.18 s.20, n3 := lenI (allL s.18 s.20), l3 := allL s.18 s.20 }.setPc
                                        id 2).wakes
                                    (allO s.18 s.20) 0).38,
                              Col.int IntKind.i64
                                (({ s with fe := comeE s.18 s.20, n3 := lenI (allL s.18 s.20), l3 := allL s.18 s.20 }.setPc
                                        id 2).wakes
                                    (allO s.18 s.20) 0).39,
                              Col.int IntKind.i64
                                (({ s with fe := comeE s.18 s.20, n3 := lenI (allL s.18 s.20), l3 := allL s.18 s.20 }.setPc
                                        id 2).wakes
                                    (allO s.18 s.20) 0).40,
                              Col.int IntKind.i64
                                (({ s with fe := comeE s.18 s.20, n3 := lenI (allL s.18 s.20), l3 := allL s.18 s.20 }.setPc
                                        id 2).wakes
                                    (allO s.18 s.20) 0).41,
                              Col.int IntKind.i64
                                (({ s with fe := comeE s.18 s.20, n3 := lenI (allL s.18 s.20), l3 := allL s.18 s.20 }.setPc
                                        id 2).wakes
                                    (allO s.18 s.20) 0).42]]) =
                    some r))))
            (asrt (nle s.22 big)
              (asrt
                (band
                  { s with ee := comeE s.21 s.23, n4 := lenI (allL s.21 s.23), l4 := allL s.21 s.23 }.fit
                  (band (ile 0 id) (ilt id (ofN s.25))))
                (asrt
                  (band
                    ({ s with ee := comeE s.21 s.23, n4 := lenI (allL s.21 s.23), l4 := allL s.21 s.23 }.withT
                        id (invI (thRuns (gI s.26 (nOf id))) 0 (gI s.26 (nOf id))) (gI s.27 (nOf id)) (gI s.28 (nOf id))
                        (gI s.29 (nOf id)) (invI (thRuns (gI s.26 (nOf id))) 0 (gI s.30 (nOf id)))
                        (invI (thRuns (gI s.26 (nOf id))) 0 (gI s.31 (nOf id)))
                        (invI (thRuns (gI s.26 (nOf id))) 0 (gI s.32 (nOf id)))
                        (invI (thRuns (gI s.26 (nOf id))) 0 (gI s.33 (nOf id)))
                        (invB (thRuns (gI s.26 (nOf id))) (gB s.34 (nOf id))) (gI s.35 (nOf id)) (gI s.36 (nOf id))).fit
                    (nle (lenI (allO s.21 s.23)) 1000000))
                  (some
                      (AV.agg
                        [AV.int IntKind.i64
                            (({ s with ee := comeE s.21 s.23, n4 := lenI (allL s.21 s.23), l4 := allL s.21 s.23 }.withT
                                    id (invI (thRuns (gI s.26 (nOf id))) 0 (gI s.26 (nOf id))) (gI s.27 (nOf id))
                                    (gI s.28 (nOf id)) (gI s.29 (nOf id))
                                    (invI (thRuns (gI s.26 (nOf id))) 0 (gI s.30 (nOf id)))
                                    (invI (thRuns (gI s.26 (nOf id))) 0 (gI s.31 (nOf id)))
                                    (invI (thRuns (gI s.26 (nOf id))) 0 (gI s.32 (nOf id)))
                                    (invI (thRuns (gI s.26 (nOf id))) 0 (gI s.33 (nOf id)))
                                    (invB (thRuns (gI s.26 (nOf id))) (gB s.34 (nOf id))) (gI s.35 (nOf id))
                                    (gI s.36 (nOf id))).wakes
                                (allO s.21 s.23) 0).1,
                          AV.int IntKind.i64
                            (({ s with ee := comeE s.21 s.23, n4 := lenI (allL s.21 s.23), l4 := allL s.21 s.23 }.withT
                                    id (invI (thRuns (gI s.26 (nOf id))) 0 (gI s.26 (nOf id))) (gI s.27 (nOf id))
                                    (gI s.28 (nOf id)) (gI s.29 (nOf id))
                                    (invI (thRuns (gI s.26 (nOf id))) 0 (gI s.30 (nOf id)))
                                    (invI (thRuns (gI s.26 (nOf id))) 0 (gI s.31 (nOf id)))
                                    (invI (thRuns (gI s.26 (nOf id))) 0 (gI s.32 (nOf id)))
                                    (invI (thRuns (gI s.26 (nOf id))) 0 (gI s.33 (nOf id)))
                                    (invB (thRuns (gI s.26 (nOf id))) (gB s.34 (nOf id))) (gI s.35 (nOf id))
                                    (gI s.36 (nOf id))).wakes
                                (allO s.21 s.23) 0).2,
                          AV.int IntKind.i64
                            (({ s with ee := comeE s.21 s.23, n4 := lenI (allL s.21 s.23), l4 := allL s.21 s.23 }.withT
                                    id (invI (thRuns (gI s.26 (nOf id))) 0 (gI s.26 (nOf id))) (gI s.27 (nOf id))
                                    (gI s.28 (nOf id)) (gI s.29 (nOf id))
                                    (invI (thRuns (gI s.26 (nOf id))) 0 (gI s.30 (nOf id)))
                                    (invI (thRuns (gI s.26 (nOf id))) 0 (gI s.31 (nOf id)))
                                    (invI (thRuns (gI s.26 (nOf id))) 0 (gI s.32 (nOf id)))
                                    (invI (thRuns (gI s.26 (nOf id))) 0 (gI s.33 (nOf id)))
                                    (invB (thRuns (gI s.26 (nOf id))) (gB s.34 (nOf id))) (gI s.35 (nOf id))
                                    (gI s.36 (nOf id))).wakes
                                (allO s.21 s.23) 0).3,
                          AV.int IntKind.i64
                            (({ s with ee := comeE s.21 s.23, n4 := lenI (allL s.21 s.23), l4 := allL s.21 s.23 }.withT
                                    id (invI (thRuns (gI s.26 (nOf id))) 0 (gI s.26 (nOf id))) (gI s.27 (nOf id))
                                    (gI s.28 (nOf id)) (gI s.29 (nOf id))
                                    (invI (thRuns (gI s.26 (nOf id))) 0 (gI s.30 (nOf id)))
                                    (invI (thRuns (gI s.26 (nOf id))) 0 (gI s.31 (nOf id)))
                                    (invI (thRuns (gI s.26 (nOf id))) 0 (gI s.32 (nOf id)))
                                    (invI (thRuns (gI s.26 (nOf id))) 0 (gI s.33 (nOf id)))
                                    (invB (thRuns (gI s.26 (nOf id))) (gB s.34 (nOf id))) (gI s.35 (nOf id))
                                    (gI s.36 (nOf id))).wakes
                                (allO s.21 s.23) 0).4,
                          AV.int IntKind.i64
                            (({ s with ee := comeE s.21 s.23, n4 := lenI (allL s.21 s.23), l4 := allL s.21 s.23 }.withT
                                    id (invI (thRuns (gI s.26 (nOf id))) 0 (gI s.26 (nOf id))) (gI s.27 (nOf id))
                                    (gI s.28 (nOf id)) (gI s.29 (nOf id))
                                    (invI (thRuns (gI s.26 (nOf id))) 0 (gI s.30 (nOf id)))
                                    (invI (thRuns (gI s.26 (nOf id))) 0 (gI s.31 (nOf id)))
                                    (invI (thRuns (gI s.26 (nOf id))) 0 (gI s.32 (nOf id)))
                                    (invI (thRuns (gI s.26 (nOf id))) 0 (gI s.33 (nOf id)))
                                    (invB (thRuns (gI s.26 (nOf id))) (gB s.34 (nOf id))) (gI s.35 (nOf id))
                                    (gI s.36 (nOf id))).wakes
                                (allO s.21 s.23) 0).5,
                          AV.int IntKind.i64
                            (({ s with ee := comeE s.21 s.23, n4 := lenI (allL s.21 s.23), l4 := allL s.21 s.23 }.withT
                                    id (invI (thRuns (gI s.26 (nOf id))) 0 (gI s.26 (nOf id))) (gI s.27 (nOf id))
                                    (gI s.28 (nOf id)) (gI s.29 (nOf id))
                                    (invI (thRuns (gI s.26 (nOf id))) 0 (gI s.30 (nOf id)))
                                    (invI (thRuns (gI s.26 (nOf id))) 0 (gI s.31 (nOf id)))
                                    (invI (thRuns (gI s.26 (nOf id))) 0 (gI s.32 (nOf id)))
                                    (invI (thRuns (gI s.26 (nOf id))) 0 (gI s.33 (nOf id)))
                                    (invB (thRuns (gI s.26 (nOf id))) (gB s.34 (nOf id))) (gI s.35 (nOf id))
                                    (gI s.36 (nOf id))).wakes
                                (allO s.21 s.23) 0).6,
                          AV.bool
                            (({ s with ee := comeE s.21 s.23, n4 := lenI (allL s.21 s.23), l4 := allL s.21 s.23 }.withT
                                    id (invI (thRuns (gI s.26 (nOf id))) 0 (gI s.26 (nOf id))) (gI s.27 (nOf id))
                                    (gI s.28 (nOf id)) (gI s.29 (nOf id))
                                    (invI (thRuns (gI s.26 (nOf id))) 0 (gI s.30 (nOf id)))
                                    (invI (thRuns (gI s.26 (nOf id))) 0 (gI s.31 (nOf id)))
                                    (invI (thRuns (gI s.26 (nOf id))) 0 (gI s.32 (nOf id)))
                                    (invI (thRuns (gI s.26 (nOf id))) 0 (gI s.33 (nOf id)))
                                    (invB (thRuns (gI s.26 (nOf id))) (gB s.34 (nOf id))) (gI s.35 (nOf id))
                                    (gI s.36 (nOf id))).wakes
                                (allO s.21 s.23) 0).7,
                          AV.int IntKind.i64
                            (({ s with ee := comeE s.21 s.23, n4 := lenI (allL s.21 s.23), l4 := allL s.21 s.23 }.withT
                                    id (invI (thRuns (gI s.26 (nOf id))) 0 (gI s.26 (nOf id))) (gI s.27 (nOf id))
                                    (gI s.28 (nOf id)) (gI s.29 (nOf id))
                                    (invI (thRuns (gI s.26 (nOf id))) 0 (gI s.30 (nOf id)))
                                    (invI (thRuns (gI s.26 (nOf id))) 0 (gI s.31 (nOf id)))
                                    (invI (thRuns (gI s.26 (nOf id))) 0 (gI s.32 (nOf id)))
                                    (invI (thRuns (gI s.26 (nOf id))) 0 (gI s.33 (nOf id)))
                                    (invB (thRuns (gI s.26 (nOf id))) (gB s.34 (nOf id))) (gI s.35 (nOf id))
                                    (gI s.36 (nOf id))).wakes
                                (allO s.21 s.23) 0).8,
                          AV.int IntKind.i64
                            (({ s with ee := comeE s.21 s.23, n4 := lenI (allL s.21 s.23), l4 := allL s.21 s.23 }.withT
                                    id (invI (thRuns (gI s.26 (nOf id))) 0 (gI s.26 (nOf id))) (gI s.27 (nOf id))
                                    (gI s.28 (nOf id)) (gI s.29 (nOf id))
                                    (invI (thRuns (gI s.26 (nOf id))) 0 (gI s.30 (nOf id)))
                                    (invI (thRuns (gI s.26 (nOf id))) 0 (gI s.31 (nOf id)))
                                    (invI (thRuns (gI s.26 (nOf id))) 0 (gI s.32 (nOf id)))
                                    (invI (thRuns (gI s.26 (nOf id))) 0 (gI s.33 (nOf id)))
                                    (invB (thRuns (gI s.26 (nOf id))) (gB s.34 (nOf id))) (gI s.35 (nOf id))
                                    (gI s.36 (nOf id))).wakes
                                (allO s.21 s.23) 0).9,
                          AV.int IntKind.i64
                            (({ s with ee := comeE s.21 s.23, n4 := lenI (allL s.21 s.23), l4 := allL s.21 s.23 }.withT
                                    id (invI (thRuns (gI s.26 (nOf id))) 0 (gI s.26 (nOf id))) (gI s.27 (nOf id))
                                    (gI s.28 (nOf id)) (gI s.29 (nOf id))
                                    (invI (thRuns (gI s.26 (nOf id))) 0 (gI s.30 (nOf id)))
                                    (invI (thRuns (gI s.26 (nOf id))) 0 (gI s.31 (nOf id)))
                                    (invI (thRuns (gI s.26 (nOf id))) 0 (gI s.32 (nOf id)))
                                    (invI (thRuns (gI s.26 (nOf id))) 0 (gI s.33 (nOf id)))
                                    (invB (thRuns (gI s.26 (nOf id))) (gB s.34 (nOf id))) (gI s.35 (nOf id))
                                    (gI s.36 (nOf id))).wakes
                                (allO s.21 s.23) 0).10,
                          AV.sl
                            (({ s with ee := comeE s.21 s.23, n4 := lenI (allL s.21 s.23), l4 := allL s.21 s.23 }.withT
                                    id (invI (thRuns (gI s.26 (nOf id))) 0 (gI s.26 (nOf id))) (gI s.27 (nOf id))
                                    (gI s.28 (nOf id)) (gI s.29 (nOf id))
                                    (invI (thRuns (gI s.26 (nOf id))) 0 (gI s.30 (nOf id)))
                                    (invI (thRuns (gI s.26 (nOf id))) 0 (gI s.31 (nOf id)))
                                    (invI (thRuns (gI s.26 (nOf id))) 0 (gI s.32 (nOf id)))
                                    (invI (thRuns (gI s.26 (nOf id))) 0 (gI s.33 (nOf id)))
                                    (invB (thRuns (gI s.26 (nOf id))) (gB s.34 (nOf id))) (gI s.35 (nOf id))
                                    (gI s.36 (nOf id))).wakes
                                (allO s.21 s.23) 0).11
                            [Col.int IntKind.i64
                                (({ s with ee := comeE s.21 s.23, n4 := lenI (allL s.21 s.23), l4 := allL s.21 s.23 }.withT
                                        id (invI (thRuns (gI s.26 (nOf id))) 0 (gI s.26 (nOf id))) (gI s.27 (nOf id))
                                        (gI s.28 (nOf id)) (gI s.29 (nOf id))
                                        (invI (thRuns (gI s.26 (nOf id))) 0 (gI s.30 (nOf id)))
                                        (invI (thRuns (gI s.26 (nOf id))) 0 (gI s.31 (nOf id)))
                                        (invI (thRuns (gI s.26 (nOf id))) 0 (gI s.32 (nOf id)))
                                        (invI (thRuns (gI s.26 (nOf id))) 0 (gI s.33 (nOf id)))
                                        (invB (thRuns (gI s.26 (nOf id))) (gB s.34 (nOf id))) (gI s.35 (nOf id))
                                        (gI s.36 (nOf id))).wakes
                                    (allO s.21 s.23) 0).12,
                              Col.int IntKind.i64
                                (({ s with ee := comeE s.21 s.23, n4 := lenI (allL s.21 s.23), l4 := allL s.21 s.23 }.withT
                                        id (invI (thRuns (gI s.26 (nOf id))) 0 (gI s.26 (nOf id))) (gI s.27 (nOf id))
                                        (gI s.28 (nOf id)) (gI s.29 (nOf id))
                                        (invI (thRuns (gI s.26 (nOf id))) 0 (gI s.30 (nOf id)))
                                        (invI (thRuns (gI s.26 (nOf id))) 0 (gI s.31 (nOf id)))
                                        (invI (thRuns (gI s.26 (nOf id))) 0 (gI s.32 (nOf id)))
                                        (invI (thRuns (gI s.26 (nOf id))) 0 (gI s.33 (nOf id)))
                                        (invB (thRuns (gI s.26 (nOf id))) (gB s.34 (nOf id))) (gI s.35 (nOf id))
                                        (gI s.36 (nOf id))).wakes
                                    (allO s.21 s.23) 0).13],
                          AV.sl
                            (({ s with ee := comeE s.21 s.23, n4 := lenI (allL s.21 s.23), l4 := allL s.21 s.23 }.withT
                                    id (invI (thRuns (gI s.26 (nOf id))) 0 (gI s.26 (nOf id))) (gI s.27 (nOf id))
                                    (gI s.28 (nOf id)) (gI s.29 (nOf id))
                                    (invI (thRuns (gI s.26 (nOf id))) 0 (gI s.30 (nOf id)))
                                    (invI (thRuns (gI s.26 (nOf id))) 0 (gI s.31 (nOf id)))
                                    (invI (thRuns (gI s.26 (nOf id))) 0 (gI s.32 (nOf id)))
                                    (invI (thRuns (gI s.26 (nOf id))) 0 (gI s.33 (nOf id)))
                                    (invB (thRuns (gI s.26 (nOf id))) (gB s.34 (nOf id))) (gI s.35 (nOf id))
                                    (gI s.36 (nOf id))).wakes
                                (allO s.21 s.23) 0).14
                            [Col.int IntKind.i64
                                (({ s with ee := comeE s.21 s.23, n4 := lenI (allL s.21 s.23), l4 := allL s.21 s.23 }.withT
                                        id (invI (thRuns (gI s.26 (nOf id))) 0 (gI s.26 (nOf id))) (gI s.27 (nOf id))
                                        (gI s.28 (nOf id)) (gI s.29 (nOf id))
                                        (invI (thRuns (gI s.26 (nOf id))) 0 (gI s.30 (nOf id)))
                                        (invI (thRuns (gI s.26 (nOf id))) 0 (gI s.31 (nOf id)))
                                        (invI (thRuns (gI s.26 (nOf id))) 0 (gI s.32 (nOf id)))
                                        (invI (thRuns (gI s.26 (nOf id))) 0 (gI s.33 (nOf id)))
                                        (invB (thRuns (gI s.26 (nOf id))) (gB s.34 (nOf id))) (gI s.35 (nOf id))
                                        (gI s.36 (nOf id))).wakes
                                    (allO s.21 s.23) 0).15],
                          AV.sl
                            (({ s with ee := comeE s.21 s.23, n4 := lenI (allL s.21 s.23), l4 := allL s.21 s.23 }.withT
                                    id (invI (thRuns (gI s.26 (nOf id))) 0 (gI s.26 (nOf id))) (gI s.27 (nOf id))
                                    (gI s.28 (nOf id)) (gI s.29 (nOf id))
                                    (invI (thRuns (gI s.26 (nOf id))) 0 (gI s.30 (nOf id)))
                                    (invI (thRuns (gI s.26 (nOf id))) 0 (gI s.31 (nOf id)))
                                    (invI (thRuns (gI s.26 (nOf id))) 0 (gI s.32 (nOf id)))
                                    (invI (thRuns (gI s.26 (nOf id))) 0 (gI s.33 (nOf id)))
                                    (invB (thRuns (gI s.26 (nOf id))) (gB s.34 (nOf id))) (gI s.35 (nOf id))
                                    (gI s.36 (nOf id))).wakes
                                (allO s.21 s.23) 0).16
                            [Col.int IntKind.i64
                                (({ s with ee := comeE s.21 s.23, n4 := lenI (allL s.21 s.23), l4 := allL s.21 s.23 }.withT
                                        id (invI (thRuns (gI s.26 (nOf id))) 0 (gI s.26 (nOf id))) (gI s.27 (nOf id))
                                        (gI s.28 (nOf id)) (gI s.29 (nOf id))
                                        (invI (thRuns (gI s.26 (nOf id))) 0 (gI s.30 (nOf id)))
                                        (invI (thRuns (gI s.26 (nOf id))) 0 (gI s.31 (nOf id)))
                                        (invI (thRuns (gI s.26 (nOf id))) 0 (gI s.32 (nOf id)))
                                        (invI (thRuns (gI s.26 (nOf id))) 0 (gI s.33 (nOf id)))
                                        (invB (thRuns (gI s.26 (nOf id))) (gB s.34 (nOf id))) (gI s.35 (nOf id))
                                        (gI s.36 (nOf id))).wakes
                                    (allO s.21 s.23) 0).17],
                          AV.int IntKind.i64
                            (({ s with ee := comeE s.21 s.23, n4 := lenI (allL s.21 s.23), l4 := allL s.21 s.23 }.withT
                                    id (invI (thRuns (gI s.26 (nOf id))) 0 (gI s.26 (nOf id))) (gI s.27 (nOf id))
                                    (gI s.28 (nOf id)) (gI s.29 (nOf id))
                                    (invI (thRuns (gI s.26 (nOf id))) 0 (gI s.30 (nOf id)))
                                    (invI (thRuns (gI s.26 (nOf id))) 0 (gI s.31 (nOf id)))
                                    (invI (thRuns (gI s.26 (nOf id))) 0 (gI s.32 (nOf id)))
                                    (invI (thRuns (gI s.26 (nOf id))) 0 (gI s.33 (nOf id)))
                                    (invB (thRuns (gI s.26 (nOf id))) (gB s.34 (nOf id))) (gI s.35 (nOf id))
                                    (gI s.36 (nOf id))).wakes
                                (allO s.21 s.23) 0).18,
                          AV.sl
                            (({ s with ee := comeE s.21 s.23, n4 := lenI (allL s.21 s.23), l4 := allL s.21 s.23 }.withT
                                    id (invI (thRuns (gI s.26 (nOf id))) 0 (gI s.26 (nOf id))) (gI s.27 (nOf id))
                                    (gI s.28 (nOf id)) (gI s.29 (nOf id))
                                    (invI (thRuns (gI s.26 (nOf id))) 0 (gI s.30 (nOf id)))
                                    (invI (thRuns (gI s.26 (nOf id))) 0 (gI s.31 (nOf id)))
                                    (invI (thRuns (gI s.26 (nOf id))) 0 (gI s.32 (nOf id)))
                                    (invI (thRuns (gI s.26 (nOf id))) 0 (gI s.33 (nOf id)))
                                    (invB (thRuns (gI s.26 (nOf id))) (gB s.34 (nOf id))) (gI s.35 (nOf id))
                                    (gI s.36 (nOf id))).wakes
                                (allO s.21 s.23) 0).19
                            [Col.int IntKind.i64
                                (({ s with ee := comeE s.21 s.23, n4 := lenI (allL s.21 s.23), l4 := allL s.21 s.23 }.withT
                                        id (invI (thRuns (gI s.26 (nOf id))) 0 (gI s.26 (nOf id))) (gI s.27 (nOf id))
                                        (gI s.28 (nOf id)) (gI s.29 (nOf id))
                                        (invI (thRuns (gI s.26 (nOf id))) 0 (gI s.30 (nOf id)))
                                        (invI (thRuns (gI s.26 (nOf id))) 0 (gI s.31 (nOf id)))
                                        (invI (thRuns (gI s.26 (nOf id))) 0 (gI s.32 (nOf id)))
                                        (invI (thRuns (gI s.26 (nOf id))) 0 (gI s.33 (nOf id)))
                                        (invB (thRuns (gI s.26 (nOf id))) (gB s.34 (nOf id))) (gI s.35 (nOf id))
                                        (gI s.36 (nOf id))).wakes
                                    (allO s.21 s.23) 0).20],
                          AV.int IntKind.i64
                            (({ s with ee := comeE s.21 s.23, n4 := lenI (allL s.21 s.23), l4 := allL s.21 s.23 }.withT
                                    id (invI (thRuns (gI s.26 (nOf id))) 0 (gI s.26 (nOf id))) (gI s.27 (nOf id))
                                    (gI s.28 (nOf id)) (gI s.29 (nOf id))
                                    (invI (thRuns (gI s.26 (nOf id))) 0 (gI s.30 (nOf id)))
                                    (invI (thRuns (gI s.26 (nOf id))) 0 (gI s.31 (nOf id)))
                                    (invI (thRuns (gI s.26 (nOf id))) 0 (gI s.32 (nOf id)))
                                    (invI (thRuns (gI s.26 (nOf id))) 0 (gI s.33 (nOf id)))
                                    (invB (thRuns (gI s.26 (nOf id))) (gB s.34 (nOf id))) (gI s.35 (nOf id))
                                    (gI s.36 (nOf id))).wakes
                                (allO s.21 s.23) 0).21,
                          AV.sl
                            (({ s with ee := comeE s.21 s.23, n4 := lenI (allL s.21 s.23), l4 := allL s.21 s.23 }.withT
                                    id (invI (thRuns (gI s.26 (nOf id))) 0 (gI s.26 (nOf id))) (gI s.27 (nOf id))
                                    (gI s.28 (nOf id)) (gI s.29 (nOf id))
                                    (invI (thRuns (gI s.26 (nOf id))) 0 (gI s.30 (nOf id)))
                                    (invI (thRuns (gI s.26 (nOf id))) 0 (gI s.31 (nOf id)))
                                    (invI (thRuns (gI s.26 (nOf id))) 0 (gI s.32 (nOf id)))
                                    (invI (thRuns (gI s.26 (nOf id))) 0 (gI s.33 (nOf id)))
                                    (invB (thRuns (gI s.26 (nOf id))) (gB s.34 (nOf id))) (gI s.35 (nOf id))
                                    (gI s.36 (nOf id))).wakes
                                (allO s.21 s.23) 0).22
                            [Col.int IntKind.i64
                                (({ s with ee := comeE s.21 s.23, n4 := lenI (allL s.21 s.23), l4 := allL s.21 s.23 }.withT
                                        id (invI (thRuns (gI s.26 (nOf id))) 0 (gI s.26 (nOf id))) (gI s.27 (nOf id))
                                        (gI s.28 (nOf id)) (gI s.29 (nOf id))
                                        (invI (thRuns (gI s.26 (nOf id))) 0 (gI s.30 (nOf id)))
                                        (invI (thRuns (gI s.26 (nOf id))) 0 (gI s.31 (nOf id)))
                                        (invI (thRuns (gI s.26 (nOf id))) 0 (gI s.32 (nOf id)))
                                        (invI (thRuns (gI s.26 (nOf id))) 0 (gI s.33 (nOf id)))
                                        (invB (thRuns (gI s.26 (nOf id))) (gB s.34 (nOf id))) (gI s.35 (nOf id))
                                        (gI s.36 (nOf id))).wakes
                                    (allO s.21 s.23) 0).23],
                          AV.int IntKind.i64
                            (({ s with ee := comeE s.21 s.23, n4 := lenI (allL s.21 s.23), l4 := allL s.21 s.23 }.withT
                                    id (invI (thRuns (gI s.26 (nOf id))) 0 (gI s.26 (nOf id))) (gI s.27 (nOf id))
                                    (gI s.28 (nOf id)) (gI s.29 (nOf id))
                                    (invI (thRuns (gI s.26 (nOf id))) 0 (gI s.30 (nOf id)))
                                    (invI (thRuns (gI s.26 (nOf id))) 0 (gI s.31 (nOf id)))
                                    (invI (thRuns (gI s.26 (nOf id))) 0 (gI s.32 (nOf id)))
                                    (invI (thRuns (gI s.26 (nOf id))) 0 (gI s.33 (nOf id)))
                                    (invB (thRuns (gI s.26 (nOf id))) (gB s.34 (nOf id))) (gI s.35 (nOf id))
                                    (gI s.36 (nOf id))).wakes
                                (allO s.21 s.23) 0).24,
                          AV.sl
                            (({ s with ee := comeE s.21 s.23, n4 := lenI (allL s.21 s.23), l4 := allL s.21 s.23 }.withT
                                    id (invI (thRuns (gI s.26 (nOf id))) 0 (gI s.26 (nOf id))) (gI s.27 (nOf id))
                                    (gI s.28 (nOf id)) (gI s.29 (nOf id))
                                    (invI (thRuns (gI s.26 (nOf id))) 0 (gI s.30 (nOf id)))
                                    (invI (thRuns (gI s.26 (nOf id))) 0 (gI s.31 (nOf id)))
                                    (invI (thRuns (gI s.26 (nOf id))) 0 (gI s.32 (nOf id)))
                                    (invI (thRuns (gI s.26 (nOf id))) 0 (gI s.33 (nOf id)))
                                    (invB (thRuns (gI s.26 (nOf id))) (gB s.34 (nOf id))) (gI s.35 (nOf id))
                                    (gI s.36 (nOf id))).wakes
                                (allO s.21 s.23) 0).25
                            [Col.int IntKind.i64
                                (({ s with ee := comeE s.21 s.23, n4 := lenI (allL s.21 s.23), l4 := allL s.21 s.23 }.withT
                                        id (invI (thRuns (gI s.26 (nOf id))) 0 (gI s.26 (nOf id))) (gI s.27 (nOf id))
                                        (gI s.28 (nOf id)) (gI s.29 (nOf id))
                                        (invI (thRuns (gI s.26 (nOf id))) 0 (gI s.30 (nOf id)))
                                        (invI (thRuns (gI s.26 (nOf id))) 0 (gI s.31 (nOf id)))
                                        (invI (thRuns (gI s.26 (nOf id))) 0 (gI s.32 (nOf id)))
                                        (invI (thRuns (gI s.26 (nOf id))) 0 (gI s.33 (nOf id)))
                                        (invB (thRuns (gI s.26 (nOf id))) (gB s.34 (nOf id))) (gI s.35 (nOf id))
                                        (gI s.36 (nOf id))).wakes
                                    (allO s.21 s.23) 0).26,
                              Col.int IntKind.i64
                                (({ s with ee := comeE s.21 s.23, n4 := lenI (allL s.21 s.23), l4 := allL s.21 s.23 }.withT
                                        id (invI (thRuns (gI s.26 (nOf id))) 0 (gI s.26 (nOf id))) (gI s.27 (nOf id))
                                        (gI s.28 (nOf id)) (gI s.29 (nOf id))
                                        (invI (thRuns (gI s.26 (nOf id))) 0 (gI s.30 (nOf id)))
                                        (invI (thRuns (gI s.26 (nOf id))) 0 (gI s.31 (nOf id)))
                                        (invI (thRuns (gI s.26 (nOf id))) 0 (gI s.32 (nOf id)))
                                        (invI (thRuns (gI s.26 (nOf id))) 0 (gI s.33 (nOf id)))
                                        (invB (thRuns (gI s.26 (nOf id))) (gB s.34 (nOf id))) (gI s.35 (nOf id))
                                        (gI s.36 (nOf id))).wakes
                                    (allO s.21 s.23) 0).27,
                              Col.int IntKind.i64
                                (({ s with ee := comeE s.21 s.23, n4 := lenI (allL s.21 s.23), l4 := allL s.21 s.23 }.withT
                                        id (invI (thRuns (gI s.26 (nOf id))) 0 (gI s.26 (nOf id))) (gI s.27 (nOf id))
                                        (gI s.28 (nOf id)) (gI s.29 (nOf id))
                                        (invI (thRuns (gI s.26 (nOf id))) 0 (gI s.30 (nOf id)))
                                        (invI (thRuns (gI s.26 (nOf id))) 0 (gI s.31 (nOf id)))
                                        (invI (thRuns (gI s.26 (nOf id))) 0 (gI s.32 (nOf id)))
                                        (invI (thRuns (gI s.26 (nOf id))) 0 (gI s.33 (nOf id)))
                                        (invB (thRuns (gI s.26 (nOf id))) (gB s.34 (nOf id))) (gI s.35 (nOf id))
                                        (gI s.36 (nOf id))).wakes
                                    (allO s.21 s.23) 0).28,
                              Col.int IntKind.i64
                                (({ s with ee := comeE s.21 s.23, n4 := lenI (allL s.21 s.23), l4 := allL s.21 s.23 }.withT
                                        id (invI (thRuns (gI s.26 (nOf id))) 0 (gI s.26 (nOf id))) (gI s.27 (nOf id))
                                        (gI s.28 (nOf id)) (gI s.29 (nOf id))
                                        (invI (thRuns (gI s.26 (nOf id))) 0 (gI s.30 (nOf id)))
                                        (invI (thRuns (gI s.26 (nOf id))) 0 (gI s.31 (nOf id)))
                                        (invI (thRuns (gI s.26 (nOf id))) 0 (gI s.32 (nOf id)))
                                        (invI (thRuns (gI s.26 (nOf id))) 0 (gI s.33 (nOf id)))
                                        (invB (thRuns (gI s.26 (nOf id))) (gB s.34 (nOf id))) (gI s.35 (nOf id))
                                        (gI s.36 (nOf id))).wakes
                                    (allO s.21 s.23) 0).29,
                              Col.int IntKind.i64
                                (({ s with ee := comeE s.21 s.23, n4 := lenI (allL s.21 s.23), l4 := allL s.21 s.23 }.withT
                                        id (invI (thRuns (gI s.26 (nOf id))) 0 (gI s.26 (nOf id))) (gI s.27 (nOf id))
                                        (gI s.28 (nOf id)) (gI s.29 (nOf id))
                                        (invI (thRuns (gI s.26 (nOf id))) 0 (gI s.30 (nOf id)))
                                        (invI (thRuns (gI s.26 (nOf id))) 0 (gI s.31 (nOf id)))
                                        (invI (thRuns (gI s.26 (nOf id))) 0 (gI s.32 (nOf id)))
                                        (invI (thRuns (gI s.26 (nOf id))) 0 (gI s.33 (nOf id)))
                                        (invB (thRuns (gI s.26 (nOf id))) (gB s.34 (nOf id))) (gI s.35 (nOf id))
                                        (gI s.36 (nOf id))).wakes
                                    (allO s.21 s.23) 0).30,
                              Col.int IntKind.i64
                                (({ s with ee := comeE s.21 s.23, n4 := lenI (allL s.21 s.23), l4 := allL s.21 s.23 }.withT
                                        id (invI (thRuns (gI s.26 (nOf id))) 0 (gI s.26 (nOf id))) (gI s.27 (nOf id))
                                        (gI s.28 (nOf id)) (gI s.29 (nOf id))
                                        (invI (thRuns (gI s.26 (nOf id))) 0 (gI s.30 (nOf id)))
                                        (invI (thRuns (gI s.26 (nOf id))) 0 (gI s.31 (nOf id)))
                                        (invI (thRuns (gI s.26 (nOf id))) 0 (gI s.32 (nOf id)))
                                        (invI (thRuns (gI s.26 (nOf id))) 0 (gI s.33 (nOf id)))
                                        (invB (thRuns (gI s.26 (nOf id))) (gB s.34 (nOf id))) (gI s.35 (nOf id))
                                        (gI s.36 (nOf id))).wakes
                                    (allO s.21 s.23) 0).31,
                              Col.int IntKind.i64
                                (({ s with ee := comeE s.21 s.23, n4 := lenI (allL s.21 s.23), l4 := allL s.21 s.23 }.withT
                                        id (invI (thRuns (gI s.26 (nOf id))) 0 (gI s.26 (nOf id))) (gI s.27 (nOf id))
                                        (gI s.28 (nOf id)) (gI s.29 (nOf id))
                                        (invI (thRuns (gI s.26 (nOf id))) 0 (gI s.30 (nOf id)))
                                        (invI (thRuns (gI s.26 (nOf id))) 0 (gI s.31 (nOf id)))
                                        (invI (thRuns (gI s.26 (nOf id))) 0 (gI s.32 (nOf id)))
                                        (invI (thRuns (gI s.26 (nOf id))) 0 (gI s.33 (nOf id)))
                                        (invB (thRuns (gI s.26 (nOf id))) (gB s.34 (nOf id))) (gI s.35 (nOf id))
                                        (gI s.36 (nOf id))).wakes
                                    (allO s.21 s.23) 0).32,
                              Col.int IntKind.i64
                                (({ s with ee := comeE s.21 s.23, n4 := lenI (allL s.21 s.23), l4 := allL s.21 s.23 }.withT
                                        id (invI (thRuns (gI s.26 (nOf id))) 0 (gI s.26 (nOf id))) (gI s.27 (nOf id))
                                        (gI s.28 (nOf id)) (gI s.29 (nOf id))
                                        (invI (thRuns (gI s.26 (nOf id))) 0 (gI s.30 (nOf id)))
                                        (invI (thRuns (gI s.26 (nOf id))) 0 (gI s.31 (nOf id)))
                                        (invI (thRuns (gI s.26 (nOf id))) 0 (gI s.32 (nOf id)))
                                        (invI (thRuns (gI s.26 (nOf id))) 0 (gI s.33 (nOf id)))
                                        (invB (thRuns (gI s.26 (nOf id))) (gB s.34 (nOf id))) (gI s.35 (nOf id))
                                        (gI s.36 (nOf id))).wakes
                                    (allO s.21 s.23) 0).33,
                              Col.bool
                                (({ s with ee := comeE s.21 s.23, n4 := lenI (allL s.21 s.23), l4 := allL s.21 s.23 }.withT
                                        id (invI (thRuns (gI s.26 (nOf id))) 0 (gI s.26 (nOf id))) (gI s.27 (nOf id))
                                        (gI s.28 (nOf id)) (gI s.29 (nOf id))
                                        (invI (thRuns (gI s.26 (nOf id))) 0 (gI s.30 (nOf id)))
                                        (invI (thRuns (gI s.26 (nOf id))) 0 (gI s.31 (nOf id)))
                                        (invI (thRuns (gI s.26 (nOf id))) 0 (gI s.32 (nOf id)))
                                        (invI (thRuns (gI s.26 (nOf id))) 0 (gI s.33 (nOf id)))
                                        (invB (thRuns (gI s.26 (nOf id))) (gB s.34 (nOf id))) (gI s.35 (nOf id))
                                        (gI s.36 (nOf id))).wakes
                                    (allO s.21 s.23) 0).34,
                              Col.int IntKind.i64
                                (({ s with ee := comeE s.21 s.23, n4 := lenI (allL s.21 s.23), l4 := allL s.21 s.23 }.withT
                                        id (invI (thRuns (gI s.26 (nOf id))) 0 (gI s.26 (nOf id))) (gI s.27 (nOf id))
                                        (gI s.28 (nOf id)) (gI s.29 (nOf id))
                                        (invI (thRuns (gI s.26 (nOf id))) 0 (gI s.30 (nOf id)))
                                        (invI (thRuns (gI s.26 (nOf id))) 0 (gI s.31 (nOf id)))
                                        (invI (thRuns (gI s.26 (nOf id))) 0 (gI s.32 (nOf id)))
                                        (invI (thRuns (gI s.26 (nOf id))) 0 (gI s.33 (nOf id)))
                                        (invB (thRuns (gI s.26 (nOf id))) (gB s.34 (nOf id))) (gI s.35 (nOf id))
                                        (gI s.36 (nOf id))).wakes
                                    (allO s.21 s.23) 0).35,
                              Col.int IntKind.i64
                                (({ s with ee := comeE s.21 s.23, n4 := lenI (allL s.21 s.23), l4 := allL s.21 s.23 }.withT
                                        id (invI (thRuns (gI s.26 (nOf id))) 0 (gI s.26 (nOf id))) (gI s.27 (nOf id))
                                        (gI s.28 (nOf id)) (gI s.29 (nOf id))
                                        (invI (thRuns (gI s.26 (nOf id))) 0 (gI s.30 (nOf id)))
                                        (invI (thRuns (gI s.26 (nOf id))) 0 (gI s.31 (nOf id)))
                                        (invI (thRuns (gI s.26 (nOf id))) 0 (gI s.32 (nOf id)))
                                        (invI (thRuns (gI s.26 (nOf id))) 0 (gI s.33 (nOf id)))
                                        (invB (thRuns (gI s.26 (nOf id))) (gB s.34 (nOf id))) (gI s.35 (nOf id))
                                        (gI s.36 (nOf id))).wakes
                                    (allO s.21 s.23) 0).36],
                          AV.sl
                            (({ s with ee := comeE s.21 s.23, n4 := lenI (allL s.21 s.23), l4 := allL s.21 s.23 }.withT
                                    id (invI (thRuns (gI s.26 (nOf id))) 0 (gI s.26 (nOf id))) (gI s.27 (nOf id))
                                    (gI s.28 (nOf id)) (gI s.29 (nOf id))
                                    (invI (thRuns (gI s.26 (nOf id))) 0 (gI s.30 (nOf id)))
                                    (invI (thRuns (gI s.26 (nOf id))) 0 (gI s.31 (nOf id)))
                                    (invI (thRuns (gI s.26 (nOf id))) 0 (gI s.32 (nOf id)))
                                    (invI (thRuns (gI s.26 (nOf id))) 0 (gI s.33 (nOf id)))
                                    (invB (thRuns (gI s.26 (nOf id))) (gB s.34 (nOf id))) (gI s.35 (nOf id))
                                    (gI s.36 (nOf id))).wakes
                                (allO s.21 s.23) 0).37
                            [Col.int IntKind.i64
                                (({ s with ee := comeE s.21 s.23, n4 := lenI (allL s.21 s.23), l4 := allL s.21 s.23 }.withT
                                        id (invI (thRuns (gI s.26 (nOf id))) 0 (gI s.26 (nOf id))) (gI s.27 (nOf id))
                                        (gI s.28 (nOf id)) (gI s.29 (nOf id))
                                        (invI (thRuns (gI s.26 (nOf id))) 0 (gI s.30 (nOf id)))
                                        (invI (thRuns (gI s.26 (nOf id))) 0 (gI s.31 (nOf id)))
                                        (invI (thRuns (gI s.26 (nOf id))) 0 (gI s.32 (nOf id)))
                                        (invI (thRuns (gI s.26 (nOf id))) 0 (gI s.33 (nOf id)))
                                        (invB (thRuns (gI s.26 (nOf id))) (gB s.34 (nOf id))) (gI s.35 (nOf id))
                                        (gI s.36 (nOf id))).wakes
                                    (allO s.21 s.23) 0).38,
                              Col.int IntKind.i64
                                (({ s with ee := comeE s.21 s.23, n4 := lenI (allL s.21 s.23), l4 := allL s.21 s.23 }.withT
                                        id (invI (thRuns (gI s.26 (nOf id))) 0 (gI s.26 (nOf id))) (gI s.27 (nOf id))
                                        (gI s.28 (nOf id)) (gI s.29 (nOf id))
                                        (invI (thRuns (gI s.26 (nOf id))) 0 (gI s.30 (nOf id)))
                                        (invI (thRuns (gI s.26 (nOf id))) 0 (gI s.31 (nOf id)))
                                        (invI (thRuns (gI s.26 (nOf id))) 0 (gI s.32 (nOf id)))
                                        (invI (thRuns (gI s.26 (nOf id))) 0 (gI s.33 (nOf id)))
                                        (invB (thRuns (gI s.26 (nOf id))) (gB s.34 (nOf id))) (gI s.35 (nOf id))
                                        (gI s.36 (nOf id))).wakes
                                    (allO s.21 s.23) 0).39,
                              Col.int IntKind.i64
                                (({ s with ee := comeE s.21 s.23, n4 := lenI (allL s.21 s.23), l4 := allL s.21 s.23 }.withT
                                        id (invI (thRuns (gI s.26 (nOf id))) 0 (gI s.26 (nOf id))) (gI s.27 (nOf id))
                                        (gI s.28 (nOf id)) (gI s.29 (nOf id))
                                        (invI (thRuns (gI s.26 (nOf id))) 0 (gI s.30 (nOf id)))
                                        (invI (thRuns (gI s.26 (nOf id))) 0 (gI s.31 (nOf id)))
                                        (invI (thRuns (gI s.26 (nOf id))) 0 (gI s.32 (nOf id)))
                                        (invI (thRuns (gI s.26 (nOf id))) 0 (gI s.33 (nOf id)))
                                        (invB (thRuns (gI s.26 (nOf id))) (gB s.34 (nOf id))) (gI s.35 (nOf id))
                                        (gI s.36 (nOf id))).wakes
                                    (allO s.21 s.23) 0).40,
                              Col.int IntKind.i64
                                (({ s with ee := comeE s.21 s.23, n4 := lenI (allL s.21 s.23), l4 := allL s.21 s.23 }.withT
                                        id (invI (thRuns (gI s.26 (nOf id))) 0 (gI s.26 (nOf id))) (gI s.27 (nOf id))
                                        (gI s.28 (nOf id)) (gI s.29 (nOf id))
                                        (invI (thRuns (gI s.26 (nOf id))) 0 (gI s.30 (nOf id)))
                                        (invI (thRuns (gI s.26 (nOf id))) 0 (gI s.31 (nOf id)))
                                        (invI (thRuns (gI s.26 (nOf id))) 0 (gI s.32 (nOf id)))
                                        (invI (thRuns (gI s.26 (nOf id))) 0 (gI s.33 (nOf id)))
                                        (invB (thRuns (gI s.26 (nOf id))) (gB s.34 (nOf id))) (gI s.35 (nOf id))
                                        (gI s.36 (nOf id))).wakes
                                    (allO s.21 s.23) 0).41,
                              Col.int IntKind.i64
                                (({ s with ee := comeE s.21 s.23, n4 := lenI (allL s.21 s.23), l4 := allL s.21 s.23 }.withT
                                        id (invI (thRuns (gI s.26 (nOf id))) 0 (gI s.26 (nOf id))) (gI s.27 (nOf id))
                                        (gI s.28 (nOf id)) (gI s.29 (nOf id))
                                        (invI (thRuns (gI s.26 (nOf id))) 0 (gI s.30 (nOf id)))
                                        (invI (thRuns (gI s.26 (nOf id))) 0 (gI s.31 (nOf id)))
                                        (invI (thRuns (gI s.26 (nOf id))) 0 (gI s.32 (nOf id)))
                                        (invI (thRuns (gI s.26 (nOf id))) 0 (gI s.33 (nOf id)))
                                        (invB (thRuns (gI s.26 (nOf id))) (gB s.34 (nOf id))) (gI s.35 (nOf id))
                                        (gI s.36 (nOf id))).wakes
                                    (allO s.21 s.23) 0).42]]) =
                    some r))))))))) := by kernel_rfl

theorem ok_rStep : PureOK Tryz.prog 11 FrStep := by
  refine tab_plain mixed (l := tabR9) ok_tabR9 false (by kernel_rfl) fun xs b r h hb wf => ?_
  unfold FrStep at h
  split at h
  · rename_i a_s id
    split at h
    · rename_i s h_s
      obtain rfl := asSR_some h_s
      cases h
      try rw [some_f] at hb
      simp only [WFL, WF, List.mem_cons, List.not_mem_nil, or_false, forall_eq_or_imp, forall_eq, Col.len, and_true, true_and, wf_av] at wf
      rw [vc_rStep]
      simp only [band_t, ilt_t, ofN_e] at hb
      obtain ⟨hf, hl⟩ := hb
      rw [asrt_iff]
      refine ⟨hf, ?_⟩
      rw [SR.runs_closer]
      cases hc : s.closer id with
      | false =>
        have e : s.step id = s := by unfold SR.step; rw [if_neg (by rw [hc]; simp)]
        rw [e]
        exact rfl
      | true =>
        obtain ⟨c1, c2, c3, c4, c5⟩ := SR.closer_is hc
        have hst1 : s.st.getD id.toNat 0 = 1 := by
          have := SR.runs_closer s id
          rw [hc] at this
          unfold SR.runs at this
          simp only [Bool.and_eq_true, decide_eq_true_eq] at this
          exact this.2.1
        obtain ⟨b1, b2⟩ := (SR.fit_iff s).1 hf
        show asrt _ _
        rw [asrt_iff]
        refine ⟨by simp [asrt_iff, br_iff, ieq_t, ieq_f, ine_t, ine_f, ilt_t, ilt_f, ile_t, ile_f, igt_t, igt_f, ige_t, ige_f, nlt_t, nlt_f, nle_t, nle_f, neq_t, neq_f, beq2_t, beq2_f, bnot_t, bnot_f, band_t, band_f, bite_t, bite_f, bimp_t, bimp_f, iadd_e, isub_e, imul_e, ofN_e, nOf_e, nAdd_e, nDiff_e, room_e, lenI_e, gI_e, gB_e, imin_e, imax_e, cat_e, pt_e, put_e, some_f]; omega, ?_⟩
        rw [br_iff]
        refine ⟨fun hp => ?_, fun hp => ?_⟩
        · have hp' : s.pc.getD id.toNat 0 = 0 := by simpa [asrt_iff, br_iff, ieq_t, ieq_f, ine_t, ine_f, ilt_t, ilt_f, ile_t, ile_f, igt_t, igt_f, ige_t, ige_f, nlt_t, nlt_f, nle_t, nle_f, neq_t, neq_f, beq2_t, beq2_f, bnot_t, bnot_f, band_t, band_f, bite_t, bite_f, bimp_t, bimp_f, iadd_e, isub_e, imul_e, ofN_e, nOf_e, nAdd_e, nDiff_e, room_e, lenI_e, gI_e, gB_e, imin_e, imax_e, cat_e, pt_e, put_e, some_f] using hp
          rw [asrt_iff]
          refine ⟨by simp only [band_t, ilt_t, ile_t, ofN_e]; exact ⟨hf, hl, c2, c3⟩, ?_⟩
          unfold SR.step
          rw [if_pos hc, if_pos hp']
          exact rfl
        · have hp' : s.pc.getD id.toNat 0 ≠ 0 := by simpa [asrt_iff, br_iff, ieq_t, ieq_f, ine_t, ine_f, ilt_t, ilt_f, ile_t, ile_f, igt_t, igt_f, ige_t, ige_f, nlt_t, nlt_f, nle_t, nle_f, neq_t, neq_f, beq2_t, beq2_f, bnot_t, bnot_f, band_t, band_f, bite_t, bite_f, bimp_t, bimp_f, iadd_e, isub_e, imul_e, ofN_e, nOf_e, nAdd_e, nDiff_e, room_e, lenI_e, gI_e, gB_e, imin_e, imax_e, cat_e, pt_e, put_e, some_f] using hp
          rw [br_iff]
          refine ⟨fun hp1 => ?_, fun hp1 => ?_⟩
          · have hp1' : s.pc.getD id.toNat 0 = 1 := by simpa [asrt_iff, br_iff, ieq_t, ieq_f, ine_t, ine_f, ilt_t, ilt_f, ile_t, ile_f, igt_t, igt_f, ige_t, ige_f, nlt_t, nlt_f, nle_t, nle_f, neq_t, neq_f, beq2_t, beq2_f, bnot_t, bnot_f, band_t, band_f, bite_t, bite_f, bimp_t, bimp_f, iadd_e, isub_e, imul_e, ofN_e, nOf_e, nAdd_e, nDiff_e, room_e, lenI_e, gI_e, gB_e, imin_e, imax_e, cat_e, pt_e, put_e, some_f] using hp1
            have k3 := wf.l3
            have k1 := allL_len s.fe s.l3
            have k2 := allO_len s.fe s.l3
            have hrf : s.ring.fit = true := (SR.fit_iff _).2 ⟨b1, by unfold SR.ring; dsimp only; omega⟩
            have o1 := SR.ring_ok c1
            have o2 : (s.ring.setPc id 2).ok = true := SR.pc_ok (s := s.ring) o1 _ _ (by omega) (by show s.st.getD _ _ ≠ 0; omega)
            simp only [asrt_iff, nle_t, band_t, ilt_t, ile_t, ofN_e, lenI_e]
            have e : s.step id = { s.bell with pc := s.bell.pc.set id.toNat 2 } := by unfold SR.step; rw [if_pos hc, if_neg hp', if_pos hp1']
            rw [e]
            have e2 := SR.wakes_setPc id 2 (allO s.fe s.l3) s.ring o1 o2
            refine ⟨le_big (by omega), ⟨hrf, c2, c3⟩, ⟨hrf, by omega⟩, ?_⟩
            show some (SR.av (SR.wakes (s.ring.setPc id 2) (allO s.fe s.l3) 0)) = some (SR.av _)
            refine congrArg (fun t => some (SR.av t)) ?_
            unfold SR.bell SR.wakes
            rw [List.drop_zero]
            exact e2
          · have hp1' : s.pc.getD id.toNat 0 ≠ 1 := by simpa [asrt_iff, br_iff, ieq_t, ieq_f, ine_t, ine_f, ilt_t, ilt_f, ile_t, ile_f, igt_t, igt_f, ige_t, ige_f, nlt_t, nlt_f, nle_t, nle_f, neq_t, neq_f, beq2_t, beq2_f, bnot_t, bnot_f, band_t, band_f, bite_t, bite_f, bimp_t, bimp_f, iadd_e, isub_e, imul_e, ofN_e, nOf_e, nAdd_e, nDiff_e, room_e, lenI_e, gI_e, gB_e, imin_e, imax_e, cat_e, pt_e, put_e, some_f] using hp1
            have k4 := wf.l4
            have k1 := allL_len s.ee s.l4
            have k2 := allO_len s.ee s.l4
            have e : s.step id = s.bell2.done id := by unfold SR.step; rw [if_pos hc, if_neg hp', if_neg hp1']
            rw [e]
            simp only [asrt_iff, nle_t, band_t, ilt_t, ile_t, ofN_e, lenI_e]
            have hg : gI s.st (nOf id) = 1 := hst1
            have z : thRuns 1 = 0 := rfl
            simp only [hg, z, invI, invB, if_true]
            have hrf : s.ring2.fit = true := (SR.fit_iff _).2 ⟨b1, by unfold SR.ring2; dsimp only; omega⟩
            have o1 := SR.ring2_ok c1
            have r1 := SR.ring2_rows wf
            refine ⟨le_big (by omega), ⟨hrf, c2, c3⟩, ⟨hrf, by omega⟩, ?_⟩
            show some (SR.av (SR.wakes (s.ring2.withT id 0 (gI s.ring2.kd (nOf id)) (gI s.ring2.vl (nOf id)) (gI s.ring2.un (nOf id)) 0 0 0 0 false (gI s.ring2.rs (nOf id)) (gI s.ring2.gt (nOf id))) (allO s.ee s.l4) 0)) = some (SR.av _)
            refine congrArg (fun t => some (SR.av t)) ?_
            rw [SR.done_with (u := s.ring2) hst1]
            unfold SR.bell2 SR.wakes
            rw [List.drop_zero]
            exact SR.wakes_done id c2 _ s.ring2 o1 r1 hst1 c3
    · cases h
  · cases h


def tabR10 : List (FuncId × Pure1) := [(11, FrStep)] ++ tabR9

theorem ok_tabR10 : ∀ p ∈ tabR10, PureOK Tryz.prog p.1 p.2 := by
  intro p hp
  simp only [tabR10, List.mem_append, List.mem_cons, List.not_mem_nil, or_false] at hp
  rcases hp with (rfl) | hp
  · exact ok_rStep
  · exact ok_tabR9 p hp


def LrSteps : Nat → Option LoopS := fun i => match i with
  | 0 => some (.unroll 4)
  | _ => none

theorem ok_LrSteps : ∀ i x, LrSteps i = some x → LoopHyp Tryz.prog 7 i x := by
  intro i s h
  unfold LrSteps at h
  split at h
  · cases h; trivial
  · cases h


def FrSteps : Pure1 := fun
  | [a_s, .int .i64 id, .int .i64 many] => (match asSR a_s with | some s => some (some (band (SR.fit s) (nle (nAdd s.nl 10) 1000000)), .tup [(SR.steps s id many).1.av, .int .i64 (SR.steps s id many).2]) | none => none)
  | _ => none

theorem vc_rSteps (s : SR) (id many : Int) (r : AV) : VC Tryz.prog (tabS tabR10) (oneL 7 LrSteps) false 7 [s.av, .int .i64 id, .int .i64 many] r = (
  asrt s.fit
    (br (bite (bite (ilt 0 many) true false) (s.runs id 3) false)
      (asrt (band s.fit (ilt (ofN s.37) 1000000))
        (asrt (s.step id).fit
          (br (bite (bite (ilt 1 many) true false) ((s.step id).runs id 3) false)
            (asrt (band (s.step id).fit (ilt (ofN (s.step id).37) 1000000))
              (asrt ((s.step id).step id).fit
                (br (bite (bite (ilt 2 many) true false) (((s.step id).step id).runs id 3) false)
                  (asrt (band ((s.step id).step id).fit (ilt (ofN ((s.step id).step id).37) 1000000))
                    (asrt (((s.step id).step id).step id).fit
                      (br (bite (bite (ilt 3 many) true false) ((((s.step id).step id).step id).runs id 3) false)
                        (asrt
                          (band (((s.step id).step id).step id).fit
                            (ilt (ofN (((s.step id).step id).step id).37) 1000000))
                          (asrt ((((s.step id).step id).step id).step id).fit False))
                        (some
                            (AV.tup
                              [AV.agg
                                  [AV.int IntKind.i64 (((s.step id).step id).step id).1,
                                    AV.int IntKind.i64 (((s.step id).step id).step id).2,
                                    AV.int IntKind.i64 (((s.step id).step id).step id).3,
                                    AV.int IntKind.i64 (((s.step id).step id).step id).4,
                                    AV.int IntKind.i64 (((s.step id).step id).step id).5,
                                    AV.int IntKind.i64 (((s.step id).step id).step id).6,
                                    AV.bool (((s.step id).step id).step id).7,
                                    AV.int IntKind.i64 (((s.step id).step id).step id).8,
                                    AV.int IntKind.i64 (((s.step id).step id).step id).9,
                                    AV.int IntKind.i64 (((s.step id).step id).step id).10,
                                    AV.sl (((s.step id).step id).step id).11
                                      [Col.int IntKind.i64 (((s.step id).step id).step id).12,
                                        Col.int IntKind.i64 (((s.step id).step id).step id).13],
                                    AV.sl (((s.step id).step id).step id).14
                                      [Col.int IntKind.i64 (((s.step id).step id).step id).15],
                                    AV.sl (((s.step id).step id).step id).16
                                      [Col.int IntKind.i64 (((s.step id).step id).step id).17],
                                    AV.int IntKind.i64 (((s.step id).step id).step id).18,
                                    AV.sl (((s.step id).step id).step id).19
                                      [Col.int IntKind.i64 (((s.step id).step id).step id).20],
                                    AV.int IntKind.i64 (((s.step id).step id).step id).21,
                                    AV.sl (((s.step id).step id).step id).22
                                      [Col.int IntKind.i64 (((s.step id).step id).step id).23],
                                    AV.int IntKind.i64 (((s.step id).step id).step id).24,
                                    AV.sl (((s.step id).step id).step id).25
                                      [Col.int IntKind.i64 (((s.step id).step id).step id).26,
                                        Col.int IntKind.i64 (((s.step id).step id).step id).27,
                                        Col.int IntKind.i64 (((s.step id).step id).step id).28,
                                        Col.int IntKind.i64 (((s.step id).step id).step id).29,
                                        Col.int IntKind.i64 (((s.step id).step id).step id).30,
                                        Col.int IntKind.i64 (((s.step id).step id).step id).31,
                                        Col.int IntKind.i64 (((s.step id).step id).step id).32,
                                        Col.int IntKind.i64 (((s.step id).step id).step id).33,
                                        Col.bool (((s.step id).step id).step id).34,
                                        Col.int IntKind.i64 (((s.step id).step id).step id).35,
                                        Col.int IntKind.i64 (((s.step id).step id).step id).36],
                                    AV.sl (((s.step id).step id).step id).37
                                      [Col.int IntKind.i64 (((s.step id).step id).step id).38,
                                        Col.int IntKind.i64 (((s.step id).step id).step id).39,
                                        Col.int IntKind.i64 (((s.step id).step id).step id).40,
                                        Col.int IntKind.i64 (((s.step id).step id).step id).41,
                                        Col.int IntKind.i64 (((s.step id).step id).step id).42]],
                                AV.int IntKind.i64 3]) =
                          some r))))
                  (some
                      (AV.tup
                        [AV.agg
                            [AV.int IntKind.i64 ((s.step id).step id).1, AV.int IntKind.i64 ((s.step id).step id).2,
                              AV.int IntKind.i64 ((s.step id).step id).3, AV.int IntKind.i64 ((s.step id).step id).4,
                              AV.int IntKind.i64 ((s.step id).step id).5, AV.int IntKind.i64 ((s.step id).step id).6,
                              AV.bool ((s.step id).step id).7, AV.int IntKind.i64 ((s.step id).step id).8,
                              AV.int IntKind.i64 ((s.step id).step id).9, AV.int IntKind.i64 ((s.step id).step id).10,
                              AV.sl ((s.step id).step id).11
                                [Col.int IntKind.i64 ((s.step id).step id).12,
                                  Col.int IntKind.i64 ((s.step id).step id).13],
                              AV.sl ((s.step id).step id).14 [Col.int IntKind.i64 ((s.step id).step id).15],
                              AV.sl ((s.step id).step id).16 [Col.int IntKind.i64 ((s.step id).step id).17],
                              AV.int IntKind.i64 ((s.step id).step id).18,
                              AV.sl ((s.step id).step id).19 [Col.int IntKind.i64 ((s.step id).step id).20],
                              AV.int IntKind.i64 ((s.step id).step id).21,
                              AV.sl ((s.step id).step id).22 [Col.int IntKind.i64 ((s.step id).step id).23],
                              AV.int IntKind.i64 ((s.step id).step id).24,
                              AV.sl ((s.step id).step id).25
                                [Col.int IntKind.i64 ((s.step id).step id).26,
                                  Col.int IntKind.i64 ((s.step id).step id).27,
                                  Col.int IntKind.i64 ((s.step id).step id).28,
                                  Col.int IntKind.i64 ((s.step id).step id).29,
                                  Col.int IntKind.i64 ((s.step id).step id).30,
                                  Col.int IntKind.i64 ((s.step id).step id).31,
                                  Col.int IntKind.i64 ((s.step id).step id).32,
                                  Col.int IntKind.i64 ((s.step id).step id).33, Col.bool ((s.step id).step id).34,
                                  Col.int IntKind.i64 ((s.step id).step id).35,
                                  Col.int IntKind.i64 ((s.step id).step id).36],
                              AV.sl ((s.step id).step id).37
                                [Col.int IntKind.i64 ((s.step id).step id).38,
                                  Col.int IntKind.i64 ((s.step id).step id).39,
                                  Col.int IntKind.i64 ((s.step id).step id).40,
                                  Col.int IntKind.i64 ((s.step id).step id).41,
                                  Col.int IntKind.i64 ((s.step id).step id).42]],
                          AV.int IntKind.i64 2]) =
                    some r))))
            (some
                (AV.tup
                  [AV.agg
                      [AV.int IntKind.i64 (s.step id).1, AV.int IntKind.i64 (s.step id).2,
                        AV.int IntKind.i64 (s.step id).3, AV.int IntKind.i64 (s.step id).4,
                        AV.int IntKind.i64 (s.step id).5, AV.int IntKind.i64 (s.step id).6, AV.bool (s.step id).7,
                        AV.int IntKind.i64 (s.step id).8, AV.int IntKind.i64 (s.step id).9,
                        AV.int IntKind.i64 (s.step id).10,
                        AV.sl (s.step id).11 [Col.int IntKind.i64 (s.step id).12, Col.int IntKind.i64 (s.step id).13],
                        AV.sl (s.step id).14 [Col.int IntKind.i64 (s.step id).15],
                        AV.sl (s.step id).16 [Col.int IntKind.i64 (s.step id).17], AV.int IntKind.i64 (s.step id).18,
                        AV.sl (s.step id).19 [Col.int IntKind.i64 (s.step id).20], AV.int IntKind.i64 (s.step id).21,
                        AV.sl (s.step id).22 [Col.int IntKind.i64 (s.step id).23], AV.int IntKind.i64 (s.step id).24,
                        AV.sl (s.step id).25
                          [Col.int IntKind.i64 (s.step id).26, Col.int IntKind.i64 (s.step id).27,
                            Col.int IntKind.i64 (s.step id).28, Col.int IntKind.i64 (s.step id).29,
                            Col.int IntKind.i64 (s.step id).30, Col.int IntKind.i64 (s.step id).31,
                            Col.int IntKind.i64 (s.step id).32, Col.int IntKind.i64 (s.step id).33,
                            Col.bool (s.step id).34, Col.int IntKind.i64 (s.step id).35,
                            Col.int IntKind.i64 (s.step id).36],
                        AV.sl (s.step id).37
                          [Col.int IntKind.i64 (s.step id).38, Col.int IntKind.i64 (s.step id).39,
                            Col.int IntKind.i64 (s.step id).40, Col.int IntKind.i64 (s.step id).41,
                            Col.int IntKind.i64 (s.step id).42]],
                    AV.int IntKind.i64 1]) =
              some r))))
      (some
          (AV.tup
            [AV.agg
                (SR.cells s),
              AV.int IntKind.i64 0]) =
        some r))) := by kernel_rfl

theorem ok_rSteps : PureOK Tryz.prog 7 FrSteps := by
  refine tab_loops mixed (l := tabR10) ok_tabR10 false LrSteps (by kernel_rfl) ok_LrSteps fun xs b r h hb wf => ?_
  unfold FrSteps at h
  split at h
  · rename_i a_s id many
    split at h
    · rename_i s h_s
      obtain rfl := asSR_some h_s
      cases h
      try rw [some_f] at hb
      simp only [WFL, WF, List.mem_cons, List.not_mem_nil, or_false, forall_eq_or_imp, forall_eq, Col.len, and_true, true_and, wf_av] at wf
      rw [vc_rSteps]
      simp only [SR.runs_closer]
      simp only [band_t, nle_t, nAdd_e] at hb
      obtain ⟨hf, hn⟩ := hb
      obtain ⟨f1, n1⟩ := SR.step_fit (k := 9) wf hf hn id
      have r1 := SR.step_rows wf id
      obtain ⟨f2, n2⟩ := SR.step_fit (k := 8) r1 f1 (by omega) id
      have r2 := SR.step_rows r1 id
      obtain ⟨f3, n3⟩ := SR.step_fit (k := 7) r2 f2 (by omega) id
      have r3 := SR.step_rows r2 id
      have l0 : ilt (ofN s.nl) 1000000 = true := by rw [ilt_t, ofN_e]; omega
      have l1 : ilt (ofN (s.step id).nl) 1000000 = true := by rw [ilt_t, ofN_e]; omega
      have l2 : ilt (ofN ((s.step id).step id).nl) 1000000 = true := by rw [ilt_t, ofN_e]; omega
      have hm : ∀ k : Int, k < 1000 → (k < imin many 1000 ↔ k < many) := fun k hk => by rw [imin_e]; omega
      have dF : ∀ (k : Int) (c : Bool), k < 1000 → ¬ (k < imin many 1000 ∧ c = true) → bite (bite (ilt k many) true false) c false = false := by
        intro k c hk h
        rw [hm k hk] at h
        rw [Bool.eq_false_iff]
        intro hh
        simp [asrt_iff, br_iff, ieq_t, ieq_f, ine_t, ine_f, ilt_t, ilt_f, ile_t, ile_f, igt_t, igt_f, ige_t, ige_f, nlt_t, nlt_f, nle_t, nle_f, neq_t, neq_f, beq2_t, beq2_f, bnot_t, bnot_f, band_t, band_f, bite_t, bite_f, bimp_t, bimp_f, iadd_e, isub_e, imul_e, ofN_e, nOf_e, nAdd_e, nDiff_e, room_e, lenI_e, gI_e, gB_e, imin_e, imax_e, cat_e, pt_e, put_e, some_f] at hh
        grind
      have dT : ∀ (k : Int) (c : Bool), k < 1000 → (k < imin many 1000 ∧ c = true) → bite (bite (ilt k many) true false) c false = true := by
        intro k c hk h
        rw [hm k hk] at h
        simp [asrt_iff, br_iff, ieq_t, ieq_f, ine_t, ine_f, ilt_t, ilt_f, ile_t, ile_f, igt_t, igt_f, ige_t, ige_f, nlt_t, nlt_f, nle_t, nle_f, neq_t, neq_f, beq2_t, beq2_f, bnot_t, bnot_f, band_t, band_f, bite_t, bite_f, bimp_t, bimp_f, iadd_e, isub_e, imul_e, ofN_e, nOf_e, nAdd_e, nDiff_e, room_e, lenI_e, gI_e, gB_e, imin_e, imax_e, cat_e, pt_e, put_e, some_f, h]
      by_cases c0 : 0 < imin many 1000 ∧ s.closer id = true
      · by_cases c1 : 1 < imin many 1000 ∧ (s.step id).closer id = true
        · by_cases c2 : 2 < imin many 1000 ∧ ((s.step id).step id).closer id = true
          · have c3 := SR.third wf c0.2 c1.2 c2.2 r1 r2
            have e : SR.steps s id many = (((s.step id).step id).step id, 3) := by
              unfold SR.steps SR.stepsN
              rw [if_pos c0]
              unfold SR.stepsN
              rw [if_pos (show (0 : Int) + 1 < imin many 1000 ∧ _ from c1)]
              unfold SR.stepsN
              rw [if_pos (show (0 : Int) + 1 + 1 < imin many 1000 ∧ _ from c2)]
              rfl
            rw [e, dT _ _ (by omega) c0, dT _ _ (by omega) c1, dT _ _ (by omega) c2, dF 3 _ (by omega) (by rw [c3]; simp)]
            simp only [hf, f1, f2, f3, l0, l1, l2]
            show some _ = some _
            rfl
          · have e : SR.steps s id many = ((s.step id).step id, 2) := by
              unfold SR.steps SR.stepsN
              rw [if_pos c0]
              unfold SR.stepsN
              rw [if_pos (show (0 : Int) + 1 < imin many 1000 ∧ _ from c1)]
              unfold SR.stepsN
              rw [if_neg (show ¬ ((0 : Int) + 1 + 1 < imin many 1000 ∧ _) from c2)]
              rfl
            rw [e, dT _ _ (by omega) c0, dT _ _ (by omega) c1, dF 2 _ (by omega) c2]
            simp only [hf, f1, f2, l0, l1, l2]
            show some _ = some _
            rfl
        · have e : SR.steps s id many = (s.step id, 1) := by
            unfold SR.steps SR.stepsN
            rw [if_pos c0]
            unfold SR.stepsN
            rw [if_neg (show ¬ ((0 : Int) + 1 < imin many 1000 ∧ _) from c1)]
            rfl
          rw [e, dT _ _ (by omega) c0, dF 1 _ (by omega) c1]
          simp only [hf, f1, l0, l1]
          show some _ = some _
          rfl
      · have e : SR.steps s id many = (s, 0) := by
          unfold SR.steps SR.stepsN
          rw [if_neg c0]
        rw [e, dF 0 _ (by omega) c0]
        simp only [hf]
        show some _ = some _
        rfl
    · cases h
  · cases h


def tabR11 : List (FuncId × Pure1) := [(7, FrSteps)] ++ tabR10

theorem ok_tabR11 : ∀ p ∈ tabR11, PureOK Tryz.prog p.1 p.2 := by
  intro p hp
  simp only [tabR11, List.mem_append, List.mem_cons, List.not_mem_nil, or_false] at hp
  rcases hp with (rfl) | hp
  · exact ok_rSteps
  · exact ok_tabR10 p hp


def FLCloseTells : Pure1 := fun
  | [a_s, .int .i64 id, .int .i64 many, .int .i64 kind, .int .i64 pc] => (match asSR a_s with | some s => some (some (in64 s.hd s.tl), .bool true) | none => none)
  | _ => none

theorem vc_LCloseTells (s : SR) (id many kind pc : Int) (r : AV) : VC Tryz.prog (tabS tabR11) noL false 3 [s.av, .int .i64 id, .int .i64 many, .int .i64 kind, .int .i64 pc] r = (
  br (bite (bnot s.few13) true (igt many 30)) (some (AV.bool true) = some r)
    (asrt (band s.fit (nle (nAdd s.37 10) 1000000))
      (asrt (band s.fit (nle (nAdd s.37 10) 1000000))
        (asrt s.fit
          (asrt (band s.fit (ilt (ofN s.37) 1000000))
            (asrt (band (s.step id).fit ((s.step id).same (s.step id)))
              (asrt (band (s.steps id many).1.fit ((s.steps id many).1.same (s.steps id many).1))
                (some
                    (AV.bool
                      (bite (bite (ieq (s.steps id many).2 (s.steps id many).2) (ieq (cmode kind) (cmode kind)) false)
                        (bite
                          (bite (bite (bite (ieq pc 1) (ieq (near1 pc) 1) false) (ieq (near2 pc) 2) false) true
                            (bite (bite (ieq pc 2) (ieq (near1 pc) 0) false) (ieq (near2 pc) 1) false))
                          true
                          (bite (bite (bite (ine pc 1) (ine pc 2) false) (ieq (near1 pc) 0) false) (ieq (near2 pc) 0)
                            false))
                        false)) =
                  some r)))))))) := by kernel_rfl

theorem ok_LCloseTells : PureOK Tryz.prog 3 FLCloseTells := by
  refine tab_plain mixed (l := tabR11) ok_tabR11 false (by kernel_rfl) fun xs b r h hb wf => ?_
  unfold FLCloseTells at h
  split at h
  · rename_i a_s id many kind pc
    split at h
    · rename_i s h_s
      obtain rfl := asSR_some h_s
      cases h
      try rw [some_f] at hb
      simp only [WFL, WF, List.mem_cons, List.not_mem_nil, or_false, forall_eq_or_imp, forall_eq, Col.len, and_true, true_and, wf_av] at wf
      rw [vc_LCloseTells]
      simp only [bite_and, bite_or]
      cases c0 : s.few13 with
      | false => simp [asrt_iff, br_iff, ieq_t, ieq_f, ine_t, ine_f, ilt_t, ilt_f, ile_t, ile_f, igt_t, igt_f, ige_t, ige_f, nlt_t, nlt_f, nle_t, nle_f, neq_t, neq_f, beq2_t, beq2_f, bnot_t, bnot_f, band_t, band_f, bite_t, bite_f, bimp_t, bimp_f, iadd_e, isub_e, imul_e, ofN_e, nOf_e, nAdd_e, nDiff_e, room_e, lenI_e, gI_e, gB_e, imin_e, imax_e, cat_e, pt_e, put_e, some_f, c0]
      | true =>
        by_cases c4 : 30 < many
        · simp [asrt_iff, br_iff, ieq_t, ieq_f, ine_t, ine_f, ilt_t, ilt_f, ile_t, ile_f, igt_t, igt_f, ige_t, ige_f, nlt_t, nlt_f, nle_t, nle_f, neq_t, neq_f, beq2_t, beq2_f, bnot_t, bnot_f, band_t, band_f, bite_t, bite_f, bimp_t, bimp_f, iadd_e, isub_e, imul_e, ofN_e, nOf_e, nAdd_e, nDiff_e, room_e, lenI_e, gI_e, gB_e, imin_e, imax_e, cat_e, pt_e, put_e, some_f, c0, c4]
          exact fun h => absurd h (by omega)
        · have hf := c0
          simp [SR.few13] at hf
          have hfit : s.fit = true := (SR.fit_iff s).2 ⟨hb, by omega⟩
          obtain ⟨f1, n1⟩ := SR.step_fit (k := 9) wf hfit (by omega) id
          obtain ⟨a1, a2, a3, a4, a5, a6, a7, a8⟩ := SR.stepsN_all id (imin many 1000) 7 3 s 0 wf hfit (by omega)
          have es : SR.stepsN 3 s id (imin many 1000) 0 = s.steps id many := rfl
          rw [es] at a2
          have hs : ∀ u : SR, u.same u = true := fun u => by simp [SR.same]
          by_cases p1 : pc = 1
          · simp [asrt_iff, br_iff, ieq_t, ieq_f, ine_t, ine_f, ilt_t, ilt_f, ile_t, ile_f, igt_t, igt_f, ige_t, ige_f, nlt_t, nlt_f, nle_t, nle_f, neq_t, neq_f, beq2_t, beq2_f, bnot_t, bnot_f, band_t, band_f, bite_t, bite_f, bimp_t, bimp_f, iadd_e, isub_e, imul_e, ofN_e, nOf_e, nAdd_e, nDiff_e, room_e, lenI_e, gI_e, gB_e, imin_e, imax_e, cat_e, pt_e, put_e, some_f, c0, c4, hfit, f1, a2, hs, near1, near2, p1]
            omega
          · by_cases p2 : pc = 2
            · simp [asrt_iff, br_iff, ieq_t, ieq_f, ine_t, ine_f, ilt_t, ilt_f, ile_t, ile_f, igt_t, igt_f, ige_t, ige_f, nlt_t, nlt_f, nle_t, nle_f, neq_t, neq_f, beq2_t, beq2_f, bnot_t, bnot_f, band_t, band_f, bite_t, bite_f, bimp_t, bimp_f, iadd_e, isub_e, imul_e, ofN_e, nOf_e, nAdd_e, nDiff_e, room_e, lenI_e, gI_e, gB_e, imin_e, imax_e, cat_e, pt_e, put_e, some_f, c0, c4, hfit, f1, a2, hs, near1, near2, p1, p2]
              omega
            · simp [asrt_iff, br_iff, ieq_t, ieq_f, ine_t, ine_f, ilt_t, ilt_f, ile_t, ile_f, igt_t, igt_f, ige_t, ige_f, nlt_t, nlt_f, nle_t, nle_f, neq_t, neq_f, beq2_t, beq2_f, bnot_t, bnot_f, band_t, band_f, bite_t, bite_f, bimp_t, bimp_f, iadd_e, isub_e, imul_e, ofN_e, nOf_e, nAdd_e, nDiff_e, room_e, lenI_e, gI_e, gB_e, imin_e, imax_e, cat_e, pt_e, put_e, some_f, c0, c4, hfit, f1, a2, hs, near1, near2, p1, p2]
              omega
    · cases h
  · cases h


theorem law_CloseTells (a0 : SR) (a1 a2 a3 a4 : Int) (h0 : in64 a0.hd a0.tl = true) (_ : (Lit.int .i64 a1).wf = true) (_ : (Lit.int .i64 a2).wf = true) (_ : (Lit.int .i64 a3).wf = true) (_ : (Lit.int .i64 a4).wf = true) :
    ∃ b, FLCloseTells [.agg a0.cells, .int .i64 a1, .int .i64 a2, .int .i64 a3, .int .i64 a4] = some (b, .bool true) ∧ b ≠ some false :=
  ⟨some (in64 a0.hd a0.tl), rfl, by simp [h0]⟩

end Go.Own
