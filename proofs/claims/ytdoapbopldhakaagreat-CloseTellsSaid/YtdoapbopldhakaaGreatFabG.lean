/- A new fabric; what is begun, told, and woken. -/
import Derived.Test.YtdoapbopldhakaaGreatFabF
namespace Go.Own
open Go Go.Proofs
set_option maxRecDepth 100000
set_option linter.unusedVariables false
set_option linter.unusedSimpArgs false

def SR.is (s : SR) (id : Int) : Bool := s.ok && decide (0 ≤ id ∧ id < s.nt)

def wakeSt (x : Int) : Int := if x = 2 then 1 else x

def SR.wake (s : SR) (id : Int) : SR := if s.is id then { s with st := s.st.set id.toNat (wakeSt (s.st.getD id.toNat 0)) } else s

def SR.invE (s : SR) (id kind ut : Int) : Int := if s.ok then (if mayE s.th s.sg id kind = 0 then Go.Own.invE (s.st.getD id.toNat 0) kind ut else mayE s.th s.sg id kind) else 20

def SR.inv (s : SR) (id kind val ut : Int) : SR := if s.invE id kind ut = 0 then { s with st := s.st.set id.toNat 1, kd := s.kd.set id.toNat kind, vl := s.vl.set id.toNat val, un := s.un.set id.toNat (invU kind ut), pc := s.pc.set id.toNat 0, rg := s.rg.set id.toNat 0, sn := s.sn.set id.toNat 0, tr := s.tr.set id.toNat 0, lt := s.lt.set id.toNat false, rs := s.rs.set id.toNat 0, gt := s.gt.set id.toNat 0 } else s

def SR.tell (s : SR) (id kind res got : Int) : SR := if s.is id then { s with rs := if kind = 9 then s.rs else s.rs.set id.toNat res, gt := if kind = 9 then s.gt else s.gt.set id.toNat got, nl := s.nl + 1, c0 := s.c0 ++ [id], ks := s.ks ++ [kind], vs := s.vs ++ [s.vl.getD id.toNat 0], rr := s.rr ++ [res], gs := s.gs ++ [got] } else s

def zeroSR : SR := ⟨0, 0, 0, 0, 0, 0, false, 0, 0, 0, 0, [], [], 0, [], 0, [], 0, 0, [], 0, 0, [], 0, 0, [], [], [], [], [], [], [], [], [], [], [], 0, [], [], [], [], []⟩

def newSR (lg th po wt sp yi : Int) (sg : Bool) : SR := if confE lg th po wt sp yi = 0 then ⟨lg, th, po, wt, sp, yi, sg, 0, 0, 0, slotN (roomOf lg th po wt sp yi), stamps0 (slotN (roomOf lg th po wt sp yi)), rI (slotN (roomOf lg th po wt sp yi)), 0, [], 0, [], 0, 0, [], 0, 0, [], 0, th.toNat, rI th.toNat, rI th.toNat, rI th.toNat, rI th.toNat, rI th.toNat, rI th.toNat, rI th.toNat, rI th.toNat, rB th.toNat, rI th.toNat, rI th.toNat, 0, [], [], [], [], []⟩ else zeroSR


theorem SR.ok_iff (s : SR) : s.ok = true ↔ roomOf s.lg s.th s.po s.wt s.sp s.yi ≠ 0 ∧ wordOk s.hd s.tl s.md (roomOf s.lg s.th s.po s.wt s.sp s.yi) = true ∧ (s.ns : Int) = roomOf s.lg s.th s.po s.wt s.sp s.yi ∧ slotsOk s.ns s.ss = true ∧ amOk s.th [s.l1, s.l2, s.l3, s.l4] = true ∧ evOk s.fe s.l3 = true ∧ evOk s.ee s.l4 = true ∧ (0 ≤ s.now ∧ s.now ≤ 1099511627776 ∧ (s.nt : Int) = s.th) ∧ badThAt s.nt s.st s.kd s.un s.pc s.rg s.sn s.tr s.lt s.rs 0 < 0 := by
  unfold SR.ok stOk
  simp only [Bool.and_eq_true, decide_eq_true_eq]
  constructor
  · rintro ⟨⟨⟨⟨⟨⟨⟨⟨h1, h2⟩, h3⟩, h4⟩, h5⟩, h6⟩, h7⟩, h8⟩, h9⟩
    exact ⟨h1, h2, h3, h4, h5, h6, h7, h8, h9⟩
  · rintro ⟨h1, h2, h3, h4, h5, h6, h7, h8, h9⟩
    exact ⟨⟨⟨⟨⟨⟨⟨⟨h1, h2⟩, h3⟩, h4⟩, h5⟩, h6⟩, h7⟩, h8⟩, h9⟩

theorem confE_th {lg th po wt sp yi : Int} (h : confE lg th po wt sp yi = 0) : 1 ≤ lg ∧ lg ≤ 6 ∧ 1 ≤ th ∧ th ≤ 16 := by
  unfold confE at h
  apply Classical.byContradiction
  intro hn
  rw [if_neg (fun hh => hn ⟨hh.1, hh.2.1, hh.2.2.1, hh.2.2.2.1⟩)] at h
  omega

theorem mayE_is {th id kind : Int} {sg : Bool} (h : mayE th sg id kind = 0) : 0 ≤ id ∧ id < th := by
  unfold mayE at h
  apply Classical.byContradiction
  intro hn
  rw [if_pos (by omega)] at h
  omega

theorem SR.ok_ns {s : SR} (h : s.ok = true) : 1 ≤ s.ns ∧ s.ns ≤ 64 := by
  have := ((SR.ok_iff s).1 h).2.2.2.1
  simp only [slotsOk, Bool.and_eq_true, decide_eq_true_eq] at this
  exact this.2

theorem SR.ok_nt {s : SR} (h : s.ok = true) : (s.nt : Int) = s.th := ((SR.ok_iff s).1 h).2.2.2.2.2.2.2.1.2.2

theorem SR.ok_conf {s : SR} (h : s.ok = true) : confE s.lg s.th s.po s.wt s.sp s.yi = 0 := by
  have := ((SR.ok_iff s).1 h).1
  unfold roomOf at this
  split at this
  · assumption
  · exact absurd rfl this

theorem SR.fit_few {s : SR} (h : s.fit = true) : s.few = true := by
  simp only [SR.fit, Bool.and_eq_true] at h
  exact h.2

theorem SR.few_le {s : SR} (h : s.few = true) : s.ns ≤ 1000000 ∧ s.n1 ≤ 1000000 ∧ s.n2 ≤ 1000000 ∧ s.n3 ≤ 1000000 ∧ s.n4 ≤ 1000000 ∧ s.nt ≤ 1000000 ∧ s.nl ≤ 1000000 := by
  simpa [SR.few, fewB] using h

theorem set_self {α : Type} {l : List α} {i : Nat} {x : α} (h : l[i]?.getD x = x) : True := trivial

theorem setI_self (l : List Int) (i : Nat) (h : i < l.length) : l.set i (l[i]?.getD 0) = l := by
  simp [h]

theorem setB_self (l : List Bool) (i : Nat) (h : i < l.length) : l.set i (l[i]?.getD false) = l := by
  simp [h]

def tabK3 : List (FuncId × Pure1) := [(35, Fconf), (37, Froom), (36, FslotNew), (38, Fchk), (45, FthWake), (43, FthInvoke), (39, Fmay), (87, FposPlace)] ++ tabK2

theorem ok_tabK3 : ∀ p ∈ tabK3, PureOK Tryz.prog p.1 p.2 := by
  intro p hp
  simp only [tabK3, List.mem_append, List.mem_cons, List.not_mem_nil, or_false] at hp
  rcases hp with (rfl | rfl | rfl | rfl | rfl | rfl | rfl | rfl) | hp
  · exact ok_conf
  · exact ok_room
  · exact ok_slotNew
  · exact ok_chk
  · exact ok_thWake
  · exact ok_thInvoke
  · exact ok_may
  · exact ok_posPlace
  · exact ok_tabK2 p hp


def Ffnew : Pure1 := fun
  | [.agg [.int .i64 lg, .int .i64 th, .int .i64 po, .int .i64 wt, .int .i64 sp, .int .i64 yi, .bool sg]] => some (none, .tup [SR.new (newSR lg th po wt sp yi sg), .int .i64 (confE lg th po wt sp yi)])
  | _ => none

theorem vc_fnew (lg th po wt sp yi : Int) (sg : Bool) (r : AV) : VC Tryz.prog (tabS tabK3) noL true 14 [.agg [.int .i64 lg, .int .i64 th, .int .i64 po, .int .i64 wt, .int .i64 sp, .int .i64 yi, .bool sg]] r = (
  br (ine (confE lg th po wt sp yi) 0)
    (some
        (AV.tup
          [AV.agg
              [AV.int IntKind.i64 0, AV.int IntKind.i64 0, AV.int IntKind.i64 0, AV.int IntKind.i64 0,
                AV.int IntKind.i64 0, AV.int IntKind.i64 0, AV.bool false, AV.int IntKind.i64 0, AV.int IntKind.i64 0,
                AV.int IntKind.i64 0, AV.own 87 0 [Col.int IntKind.i64 [], Col.int IntKind.i64 []],
                AV.own 3 0 [Col.int IntKind.i64 []], AV.own 3 0 [Col.int IntKind.i64 []], AV.int IntKind.i64 0,
                AV.own 3 0 [Col.int IntKind.i64 []], AV.int IntKind.i64 0, AV.own 3 0 [Col.int IntKind.i64 []],
                AV.int IntKind.i64 0,
                AV.own 49 0
                  [Col.int IntKind.i64 [], Col.int IntKind.i64 [], Col.int IntKind.i64 [], Col.int IntKind.i64 [],
                    Col.int IntKind.i64 [], Col.int IntKind.i64 [], Col.int IntKind.i64 [], Col.int IntKind.i64 [],
                    Col.bool [], Col.int IntKind.i64 [], Col.int IntKind.i64 []],
                AV.own 51 0
                  [Col.int IntKind.i64 [], Col.int IntKind.i64 [], Col.int IntKind.i64 [], Col.int IntKind.i64 [],
                    Col.int IntKind.i64 []]],
            AV.int IntKind.i64 (confE lg th po wt sp yi)]) =
      some r)
    (asrt (band (ile 0 th) (band (ile th 1073741824) (ieq th th)))
      (some
          (AV.tup
            [AV.agg
                [AV.int IntKind.i64 lg, AV.int IntKind.i64 th, AV.int IntKind.i64 po, AV.int IntKind.i64 wt,
                  AV.int IntKind.i64 sp, AV.int IntKind.i64 yi, AV.bool sg, AV.int IntKind.i64 0, AV.int IntKind.i64 0,
                  AV.int IntKind.i64 0,
                  AV.own 87 (slotN (roomOf lg th po wt sp yi))
                    [Col.int IntKind.i64 (stamps0 (slotN (roomOf lg th po wt sp yi))),
                      Col.int IntKind.i64 (rI (slotN (roomOf lg th po wt sp yi)))],
                  AV.own 3 0 [Col.int IntKind.i64 []], AV.own 3 0 [Col.int IntKind.i64 []], AV.int IntKind.i64 0,
                  AV.own 3 0 [Col.int IntKind.i64 []], AV.int IntKind.i64 0, AV.own 3 0 [Col.int IntKind.i64 []],
                  AV.int IntKind.i64 0,
                  AV.own 49 (nOf th)
                    [Col.int IntKind.i64 (rI (nOf th)), Col.int IntKind.i64 (rI (nOf th)),
                      Col.int IntKind.i64 (rI (nOf th)), Col.int IntKind.i64 (rI (nOf th)),
                      Col.int IntKind.i64 (rI (nOf th)), Col.int IntKind.i64 (rI (nOf th)),
                      Col.int IntKind.i64 (rI (nOf th)), Col.int IntKind.i64 (rI (nOf th)), Col.bool (rB (nOf th)),
                      Col.int IntKind.i64 (rI (nOf th)), Col.int IntKind.i64 (rI (nOf th))],
                  AV.own 51 0
                    [Col.int IntKind.i64 [], Col.int IntKind.i64 [], Col.int IntKind.i64 [], Col.int IntKind.i64 [],
                      Col.int IntKind.i64 []]],
              AV.int IntKind.i64 0]) =
        some r))) := by kernel_rfl

theorem ok_fnew : PureOK Tryz.prog 14 Ffnew := by
  refine tab_plain mixed (l := tabK3) ok_tabK3 true (by kernel_rfl) fun xs b r h hb wf => ?_
  unfold Ffnew at h
  split at h
  · rename_i lg th po wt sp yi sg
    cases h
    try rw [some_f] at hb
    try simp only [WFL, WF, List.mem_cons, List.not_mem_nil, or_false, forall_eq_or_imp, forall_eq, Col.len, and_true, true_and] at wf
    rw [vc_fnew]
    by_cases c : confE lg th po wt sp yi = 0
    · obtain ⟨_, _, q1, q2⟩ := confE_th c
      have q3 : 0 ≤ th := by omega
      have q4 : th ≤ 1073741824 := by omega
      simp [asrt_iff, br_iff, ieq_t, ieq_f, ine_t, ine_f, ilt_t, ilt_f, ile_t, ile_f, igt_t, igt_f, ige_t, ige_f, nlt_t, nlt_f, nle_t, nle_f, neq_t, neq_f, beq2_t, beq2_f, bnot_t, bnot_f, band_t, band_f, bite_t, bite_f, bimp_t, bimp_f, iadd_e, isub_e, imul_e, ofN_e, nOf_e, nAdd_e, nDiff_e, room_e, lenI_e, gI_e, gB_e, imin_e, imax_e, cat_e, pt_e, put_e, some_f, SR.fitW_fit, SR.wid_fit, c, q3, q4, newSR, SR.new]
    · simp [asrt_iff, br_iff, ieq_t, ieq_f, ine_t, ine_f, ilt_t, ilt_f, ile_t, ile_f, igt_t, igt_f, ige_t, ige_f, nlt_t, nlt_f, nle_t, nle_f, neq_t, neq_f, beq2_t, beq2_f, bnot_t, bnot_f, band_t, band_f, bite_t, bite_f, bimp_t, bimp_f, iadd_e, isub_e, imul_e, ofN_e, nOf_e, nAdd_e, nDiff_e, room_e, lenI_e, gI_e, gB_e, imin_e, imax_e, cat_e, pt_e, put_e, some_f, SR.fitW_fit, SR.wid_fit, c, newSR, zeroSR, SR.new]
  · cases h



def Ffwake : Pure1 := fun
  | [a_s, .int .i64 id] => (match asSR a_s with | some s => some (some (SR.fit s), SR.new (SR.wake s id)) | none => none)
  | _ => none

theorem vc_fwake (s : SR) (id : Int) (r : AV) : VC Tryz.prog (tabS tabK3) noL true 16 [s.av, .int .i64 id] r = (
  asrt s.wid
    (asrt s.fitW
      (br (bite (bite s.ok (ige id 0) false) (ilt id (ofN s.25)) false)
        (asrt (band (ile 0 id) (ilt id (ofN s.25)))
          (asrt (nlt (nOf id) s.25)
            (asrt (nlt (nOf id) s.25)
              (some
                  (AV.agg
                    [AV.int IntKind.i64 s.1, AV.int IntKind.i64 s.2, AV.int IntKind.i64 s.3, AV.int IntKind.i64 s.4,
                      AV.int IntKind.i64 s.5, AV.int IntKind.i64 s.6, AV.bool s.7, AV.int IntKind.i64 s.8,
                      AV.int IntKind.i64 s.9, AV.int IntKind.i64 s.10,
                      AV.own 87 s.11 [Col.int IntKind.i64 s.12, Col.int IntKind.i64 s.13],
                      AV.own 3 s.14 [Col.int IntKind.i64 s.15], AV.own 3 s.16 [Col.int IntKind.i64 s.17],
                      AV.int IntKind.i64 s.18, AV.own 3 s.19 [Col.int IntKind.i64 s.20], AV.int IntKind.i64 s.21,
                      AV.own 3 s.22 [Col.int IntKind.i64 s.23], AV.int IntKind.i64 s.24,
                      AV.own 49 s.25
                        [Col.int IntKind.i64 (put s.26 (nOf id) (iite (ieq (gI s.26 (nOf id)) 2) 1 (gI s.26 (nOf id)))),
                          Col.int IntKind.i64 (put s.27 (nOf id) (gI s.27 (nOf id))),
                          Col.int IntKind.i64 (put s.28 (nOf id) (gI s.28 (nOf id))),
                          Col.int IntKind.i64 (put s.29 (nOf id) (gI s.29 (nOf id))),
                          Col.int IntKind.i64 (put s.30 (nOf id) (gI s.30 (nOf id))),
                          Col.int IntKind.i64 (put s.31 (nOf id) (gI s.31 (nOf id))),
                          Col.int IntKind.i64 (put s.32 (nOf id) (gI s.32 (nOf id))),
                          Col.int IntKind.i64 (put s.33 (nOf id) (gI s.33 (nOf id))),
                          Col.bool (put s.34 (nOf id) (gB s.34 (nOf id))),
                          Col.int IntKind.i64 (put s.35 (nOf id) (gI s.35 (nOf id))),
                          Col.int IntKind.i64 (put s.36 (nOf id) (gI s.36 (nOf id)))],
                      AV.own 51 s.37
                        [Col.int IntKind.i64 s.38, Col.int IntKind.i64 s.39, Col.int IntKind.i64 s.40,
                          Col.int IntKind.i64 s.41, Col.int IntKind.i64 s.42]]) =
                some r))))
        (some
            (AV.agg
              [AV.int IntKind.i64 s.1, AV.int IntKind.i64 s.2, AV.int IntKind.i64 s.3, AV.int IntKind.i64 s.4,
                AV.int IntKind.i64 s.5, AV.int IntKind.i64 s.6, AV.bool s.7, AV.int IntKind.i64 s.8,
                AV.int IntKind.i64 s.9, AV.int IntKind.i64 s.10,
                AV.own 87 s.11 [Col.int IntKind.i64 s.12, Col.int IntKind.i64 s.13],
                AV.own 3 s.14 [Col.int IntKind.i64 s.15], AV.own 3 s.16 [Col.int IntKind.i64 s.17],
                AV.int IntKind.i64 s.18, AV.own 3 s.19 [Col.int IntKind.i64 s.20], AV.int IntKind.i64 s.21,
                AV.own 3 s.22 [Col.int IntKind.i64 s.23], AV.int IntKind.i64 s.24,
                AV.own 49 s.25
                  [Col.int IntKind.i64 s.26, Col.int IntKind.i64 s.27, Col.int IntKind.i64 s.28,
                    Col.int IntKind.i64 s.29, Col.int IntKind.i64 s.30, Col.int IntKind.i64 s.31,
                    Col.int IntKind.i64 s.32, Col.int IntKind.i64 s.33, Col.bool s.34, Col.int IntKind.i64 s.35,
                    Col.int IntKind.i64 s.36],
                AV.own 51 s.37
                  [Col.int IntKind.i64 s.38, Col.int IntKind.i64 s.39, Col.int IntKind.i64 s.40,
                    Col.int IntKind.i64 s.41, Col.int IntKind.i64 s.42]]) =
          some r)))) := by kernel_rfl

theorem ok_fwake : PureOK Tryz.prog 16 Ffwake := by
  refine tab_plain mixed (l := tabK3) ok_tabK3 true (by kernel_rfl) fun xs b r h hb wf => ?_
  unfold Ffwake at h
  split at h
  · rename_i a_s id
    split at h
    · rename_i s h_s
      obtain rfl := asSR_some h_s
      cases h
      try rw [some_f] at hb
      simp only [WFL, WF, List.mem_cons, List.not_mem_nil, or_false, forall_eq_or_imp, forall_eq, Col.len, and_true, true_and, wf_av] at wf
      rw [vc_fwake]
      have hf := SR.fit_few hb
      simp only [bite_and, bite_or]
      by_cases c1 : s.ok = true
      · by_cases c2 : 0 ≤ id
        · by_cases c3 : id < s.nt
          · have q : id.toNat < s.nt := by omega
            have w1 : id.toNat < s.st.length := by have := wf.st; omega
            have w2 : id.toNat < s.kd.length := by have := wf.kd; omega
            have w3 : id.toNat < s.vl.length := by have := wf.vl; omega
            have w4 : id.toNat < s.un.length := by have := wf.un; omega
            have w5 : id.toNat < s.pc.length := by have := wf.pc; omega
            have w6 : id.toNat < s.rg.length := by have := wf.rg; omega
            have w7 : id.toNat < s.sn.length := by have := wf.sn; omega
            have w8 : id.toNat < s.tr.length := by have := wf.tr; omega
            have w9 : id.toNat < s.lt.length := by have := wf.lt; omega
            have wa : id.toNat < s.rs.length := by have := wf.rs; omega
            have wb : id.toNat < s.gt.length := by have := wf.gt; omega
            have e : ∀ x : Int, iite (ieq x 2) 1 x = wakeSt x := fun x => by
              unfold iite ieq wakeSt
              by_cases h : x = 2
              · subst h; rfl
              · have h' : (x == 2) = false := by simpa using h
                rw [h']
                simp [h]
            simp [asrt_iff, br_iff, ieq_t, ieq_f, ine_t, ine_f, ilt_t, ilt_f, ile_t, ile_f, igt_t, igt_f, ige_t, ige_f, nlt_t, nlt_f, nle_t, nle_f, neq_t, neq_f, beq2_t, beq2_f, bnot_t, bnot_f, band_t, band_f, bite_t, bite_f, bimp_t, bimp_f, iadd_e, isub_e, imul_e, ofN_e, nOf_e, nAdd_e, nDiff_e, room_e, lenI_e, gI_e, gB_e, imin_e, imax_e, cat_e, pt_e, put_e, some_f, SR.fitW_fit, SR.wid_fit, hb, hf, c1, c2, c3, q, e, SR.wake, SR.is, SR.new, setI_self, setB_self, w1, w2, w3, w4, w5, w6, w7, w8, w9, wa, wb]
            intro hx
            exact absurd hx (by omega)
          · simp [asrt_iff, br_iff, ieq_t, ieq_f, ine_t, ine_f, ilt_t, ilt_f, ile_t, ile_f, igt_t, igt_f, ige_t, ige_f, nlt_t, nlt_f, nle_t, nle_f, neq_t, neq_f, beq2_t, beq2_f, bnot_t, bnot_f, band_t, band_f, bite_t, bite_f, bimp_t, bimp_f, iadd_e, isub_e, imul_e, ofN_e, nOf_e, nAdd_e, nDiff_e, room_e, lenI_e, gI_e, gB_e, imin_e, imax_e, cat_e, pt_e, put_e, some_f, SR.fitW_fit, SR.wid_fit, hb, hf, c1, c2, c3, SR.wake, SR.is, SR.new]
        · have c3 : id < s.nt := by omega
          simp [asrt_iff, br_iff, ieq_t, ieq_f, ine_t, ine_f, ilt_t, ilt_f, ile_t, ile_f, igt_t, igt_f, ige_t, ige_f, nlt_t, nlt_f, nle_t, nle_f, neq_t, neq_f, beq2_t, beq2_f, bnot_t, bnot_f, band_t, band_f, bite_t, bite_f, bimp_t, bimp_f, iadd_e, isub_e, imul_e, ofN_e, nOf_e, nAdd_e, nDiff_e, room_e, lenI_e, gI_e, gB_e, imin_e, imax_e, cat_e, pt_e, put_e, some_f, SR.fitW_fit, SR.wid_fit, hb, hf, c1, c2, c3, SR.wake, SR.is, SR.new]
      · simp [asrt_iff, br_iff, ieq_t, ieq_f, ine_t, ine_f, ilt_t, ilt_f, ile_t, ile_f, igt_t, igt_f, ige_t, ige_f, nlt_t, nlt_f, nle_t, nle_f, neq_t, neq_f, beq2_t, beq2_f, bnot_t, bnot_f, band_t, band_f, bite_t, bite_f, bimp_t, bimp_f, iadd_e, isub_e, imul_e, ofN_e, nOf_e, nAdd_e, nDiff_e, room_e, lenI_e, gI_e, gB_e, imin_e, imax_e, cat_e, pt_e, put_e, some_f, SR.fitW_fit, SR.wid_fit, hb, hf, c1, SR.wake, SR.is, SR.new]
    · cases h
  · cases h


def Fftell : Pure1 := fun
  | [a_s, .int .i64 id, .int .i64 kind, .int .i64 res, .int .i64 got] => (match asSR a_s with | some s => some (some (SR.fit s), SR.new (SR.tell s id kind res got)) | none => none)
  | _ => none

theorem vc_ftell (s : SR) (id kind res got : Int) (r : AV) : VC Tryz.prog (tabS tabK3) noL true 52 [s.av, .int .i64 id, .int .i64 kind, .int .i64 res, .int .i64 got] r = (
  asrt s.wid
    (asrt s.fitW
      (br (bite (bite s.ok (ige id 0) false) (ilt id (ofN s.25)) false)
        (asrt (band (ile 0 id) (ilt id (ofN s.25)))
          (asrt (nlt (nOf id) s.25)
            (br (ine kind 9)
              (asrt (nlt (nOf id) s.25)
                (asrt (nlt (nOf id) s.25)
                  (asrt (nle (nAdd s.37 1) 3518437208883)
                    (some
                        (AV.agg
                          [AV.int IntKind.i64 s.1, AV.int IntKind.i64 s.2, AV.int IntKind.i64 s.3,
                            AV.int IntKind.i64 s.4, AV.int IntKind.i64 s.5, AV.int IntKind.i64 s.6, AV.bool s.7,
                            AV.int IntKind.i64 s.8, AV.int IntKind.i64 s.9, AV.int IntKind.i64 s.10,
                            AV.own 87 s.11 [Col.int IntKind.i64 s.12, Col.int IntKind.i64 s.13],
                            AV.own 3 s.14 [Col.int IntKind.i64 s.15], AV.own 3 s.16 [Col.int IntKind.i64 s.17],
                            AV.int IntKind.i64 s.18, AV.own 3 s.19 [Col.int IntKind.i64 s.20], AV.int IntKind.i64 s.21,
                            AV.own 3 s.22 [Col.int IntKind.i64 s.23], AV.int IntKind.i64 s.24,
                            AV.own 49 s.25
                              [Col.int IntKind.i64 s.26, Col.int IntKind.i64 s.27, Col.int IntKind.i64 s.28,
                                Col.int IntKind.i64 s.29, Col.int IntKind.i64 s.30, Col.int IntKind.i64 s.31,
                                Col.int IntKind.i64 s.32, Col.int IntKind.i64 s.33, Col.bool s.34,
                                Col.int IntKind.i64 (put s.35 (nOf id) res),
                                Col.int IntKind.i64 (put s.36 (nOf id) got)],
                            AV.own 51 (nAdd s.37 1)
                              [Col.int IntKind.i64 (cat s.38 (cat [] [id])),
                                Col.int IntKind.i64 (cat s.39 (cat [] [kind])),
                                Col.int IntKind.i64 (cat s.40 (cat [] [gI s.28 (nOf id)])),
                                Col.int IntKind.i64 (cat s.41 (cat [] [res])),
                                Col.int IntKind.i64 (cat s.42 (cat [] [got]))]]) =
                      some r))))
              (asrt (nle (nAdd s.37 1) 3518437208883)
                (some
                    (AV.agg
                      [AV.int IntKind.i64 s.1, AV.int IntKind.i64 s.2, AV.int IntKind.i64 s.3, AV.int IntKind.i64 s.4,
                        AV.int IntKind.i64 s.5, AV.int IntKind.i64 s.6, AV.bool s.7, AV.int IntKind.i64 s.8,
                        AV.int IntKind.i64 s.9, AV.int IntKind.i64 s.10,
                        AV.own 87 s.11 [Col.int IntKind.i64 s.12, Col.int IntKind.i64 s.13],
                        AV.own 3 s.14 [Col.int IntKind.i64 s.15], AV.own 3 s.16 [Col.int IntKind.i64 s.17],
                        AV.int IntKind.i64 s.18, AV.own 3 s.19 [Col.int IntKind.i64 s.20], AV.int IntKind.i64 s.21,
                        AV.own 3 s.22 [Col.int IntKind.i64 s.23], AV.int IntKind.i64 s.24,
                        AV.own 49 s.25
                          [Col.int IntKind.i64 s.26, Col.int IntKind.i64 s.27, Col.int IntKind.i64 s.28,
                            Col.int IntKind.i64 s.29, Col.int IntKind.i64 s.30, Col.int IntKind.i64 s.31,
                            Col.int IntKind.i64 s.32, Col.int IntKind.i64 s.33, Col.bool s.34, Col.int IntKind.i64 s.35,
                            Col.int IntKind.i64 s.36],
                        AV.own 51 (nAdd s.37 1)
                          [Col.int IntKind.i64 (cat s.38 (cat [] [id])), Col.int IntKind.i64 (cat s.39 (cat [] [kind])),
                            Col.int IntKind.i64 (cat s.40 (cat [] [gI s.28 (nOf id)])),
                            Col.int IntKind.i64 (cat s.41 (cat [] [res])),
                            Col.int IntKind.i64 (cat s.42 (cat [] [got]))]]) =
                  some r)))))
        (asrt (nle (nAdd s.37 0) 3518437208883)
          (some
              (AV.agg
                [AV.int IntKind.i64 s.1, AV.int IntKind.i64 s.2, AV.int IntKind.i64 s.3, AV.int IntKind.i64 s.4,
                  AV.int IntKind.i64 s.5, AV.int IntKind.i64 s.6, AV.bool s.7, AV.int IntKind.i64 s.8,
                  AV.int IntKind.i64 s.9, AV.int IntKind.i64 s.10,
                  AV.own 87 s.11 [Col.int IntKind.i64 s.12, Col.int IntKind.i64 s.13],
                  AV.own 3 s.14 [Col.int IntKind.i64 s.15], AV.own 3 s.16 [Col.int IntKind.i64 s.17],
                  AV.int IntKind.i64 s.18, AV.own 3 s.19 [Col.int IntKind.i64 s.20], AV.int IntKind.i64 s.21,
                  AV.own 3 s.22 [Col.int IntKind.i64 s.23], AV.int IntKind.i64 s.24,
                  AV.own 49 s.25
                    [Col.int IntKind.i64 s.26, Col.int IntKind.i64 s.27, Col.int IntKind.i64 s.28,
                      Col.int IntKind.i64 s.29, Col.int IntKind.i64 s.30, Col.int IntKind.i64 s.31,
                      Col.int IntKind.i64 s.32, Col.int IntKind.i64 s.33, Col.bool s.34, Col.int IntKind.i64 s.35,
                      Col.int IntKind.i64 s.36],
                  AV.own 51 (nAdd s.37 0)
                    [Col.int IntKind.i64 (cat s.38 []), Col.int IntKind.i64 (cat s.39 []),
                      Col.int IntKind.i64 (cat s.40 []), Col.int IntKind.i64 (cat s.41 []),
                      Col.int IntKind.i64 (cat s.42 [])]]) =
            some r))))) := by kernel_rfl

theorem ok_ftell : PureOK Tryz.prog 52 Fftell := by
  refine tab_plain mixed (l := tabK3) ok_tabK3 true (by kernel_rfl) fun xs b r h hb wf => ?_
  unfold Fftell at h
  split at h
  · rename_i a_s id kind res got
    split at h
    · rename_i s h_s
      obtain rfl := asSR_some h_s
      cases h
      try rw [some_f] at hb
      simp only [WFL, WF, List.mem_cons, List.not_mem_nil, or_false, forall_eq_or_imp, forall_eq, Col.len, and_true, true_and, wf_av] at wf
      rw [vc_ftell]
      have hf := SR.fit_few hb
      have hl := (SR.few_le hf).2.2.2.2.2.2
      simp only [bite_and, bite_or]
      by_cases c1 : s.ok = true
      · by_cases c2 : 0 ≤ id
        · by_cases c3 : id < s.nt
          · have q : id.toNat < s.nt := by omega
            by_cases c4 : kind = 9
            · simp [asrt_iff, br_iff, ieq_t, ieq_f, ine_t, ine_f, ilt_t, ilt_f, ile_t, ile_f, igt_t, igt_f, ige_t, ige_f, nlt_t, nlt_f, nle_t, nle_f, neq_t, neq_f, beq2_t, beq2_f, bnot_t, bnot_f, band_t, band_f, bite_t, bite_f, bimp_t, bimp_f, iadd_e, isub_e, imul_e, ofN_e, nOf_e, nAdd_e, nDiff_e, room_e, lenI_e, gI_e, gB_e, imin_e, imax_e, cat_e, pt_e, put_e, some_f, SR.fitW_fit, SR.wid_fit, hb, hf, c1, c2, c3, c4, q, SR.tell, SR.is, SR.new]
              omega
            · simp [asrt_iff, br_iff, ieq_t, ieq_f, ine_t, ine_f, ilt_t, ilt_f, ile_t, ile_f, igt_t, igt_f, ige_t, ige_f, nlt_t, nlt_f, nle_t, nle_f, neq_t, neq_f, beq2_t, beq2_f, bnot_t, bnot_f, band_t, band_f, bite_t, bite_f, bimp_t, bimp_f, iadd_e, isub_e, imul_e, ofN_e, nOf_e, nAdd_e, nDiff_e, room_e, lenI_e, gI_e, gB_e, imin_e, imax_e, cat_e, pt_e, put_e, some_f, SR.fitW_fit, SR.wid_fit, hb, hf, c1, c2, c3, c4, q, SR.tell, SR.is, SR.new]
              omega
          · simp [asrt_iff, br_iff, ieq_t, ieq_f, ine_t, ine_f, ilt_t, ilt_f, ile_t, ile_f, igt_t, igt_f, ige_t, ige_f, nlt_t, nlt_f, nle_t, nle_f, neq_t, neq_f, beq2_t, beq2_f, bnot_t, bnot_f, band_t, band_f, bite_t, bite_f, bimp_t, bimp_f, iadd_e, isub_e, imul_e, ofN_e, nOf_e, nAdd_e, nDiff_e, room_e, lenI_e, gI_e, gB_e, imin_e, imax_e, cat_e, pt_e, put_e, some_f, SR.fitW_fit, SR.wid_fit, hb, hf, c1, c2, c3, SR.tell, SR.is, SR.new]
            omega
        · have c3 : id < s.nt := by omega
          simp [asrt_iff, br_iff, ieq_t, ieq_f, ine_t, ine_f, ilt_t, ilt_f, ile_t, ile_f, igt_t, igt_f, ige_t, ige_f, nlt_t, nlt_f, nle_t, nle_f, neq_t, neq_f, beq2_t, beq2_f, bnot_t, bnot_f, band_t, band_f, bite_t, bite_f, bimp_t, bimp_f, iadd_e, isub_e, imul_e, ofN_e, nOf_e, nAdd_e, nDiff_e, room_e, lenI_e, gI_e, gB_e, imin_e, imax_e, cat_e, pt_e, put_e, some_f, SR.fitW_fit, SR.wid_fit, hb, hf, c1, c2, c3, SR.tell, SR.is, SR.new]
          omega
      · simp [asrt_iff, br_iff, ieq_t, ieq_f, ine_t, ine_f, ilt_t, ilt_f, ile_t, ile_f, igt_t, igt_f, ige_t, ige_f, nlt_t, nlt_f, nle_t, nle_f, neq_t, neq_f, beq2_t, beq2_f, bnot_t, bnot_f, band_t, band_f, bite_t, bite_f, bimp_t, bimp_f, iadd_e, isub_e, imul_e, ofN_e, nOf_e, nAdd_e, nDiff_e, room_e, lenI_e, gI_e, gB_e, imin_e, imax_e, cat_e, pt_e, put_e, some_f, SR.fitW_fit, SR.wid_fit, hb, hf, c1, SR.tell, SR.is, SR.new]
        omega
    · cases h
  · cases h


def Ffinvoke : Pure1 := fun
  | [a_s, .int .i64 id, .int .i64 kind, .int .i64 val, .int .i64 ut] => (match asSR a_s with | some s => some (some (SR.fitW s), .tup [SR.new (SR.inv s id kind val ut), .int .i64 (SR.invE s id kind ut)]) | none => none)
  | _ => none

theorem vc_finvoke (s : SR) (id kind val ut : Int) (r : AV) : VC Tryz.prog (tabS tabK3) noL true 15 [s.av, .int .i64 id, .int .i64 kind, .int .i64 val, .int .i64 ut] r = (
  asrt s.fitW
    (br s.ok
      (br (ine (mayE s.2 s.7 id kind) 0)
        (asrt s.wid
          (some
              (AV.tup
                [AV.agg
                    [AV.int IntKind.i64 s.1, AV.int IntKind.i64 s.2, AV.int IntKind.i64 s.3, AV.int IntKind.i64 s.4,
                      AV.int IntKind.i64 s.5, AV.int IntKind.i64 s.6, AV.bool s.7, AV.int IntKind.i64 s.8,
                      AV.int IntKind.i64 s.9, AV.int IntKind.i64 s.10,
                      AV.own 87 s.11 [Col.int IntKind.i64 s.12, Col.int IntKind.i64 s.13],
                      AV.own 3 s.14 [Col.int IntKind.i64 s.15], AV.own 3 s.16 [Col.int IntKind.i64 s.17],
                      AV.int IntKind.i64 s.18, AV.own 3 s.19 [Col.int IntKind.i64 s.20], AV.int IntKind.i64 s.21,
                      AV.own 3 s.22 [Col.int IntKind.i64 s.23], AV.int IntKind.i64 s.24,
                      AV.own 49 s.25
                        [Col.int IntKind.i64 s.26, Col.int IntKind.i64 s.27, Col.int IntKind.i64 s.28,
                          Col.int IntKind.i64 s.29, Col.int IntKind.i64 s.30, Col.int IntKind.i64 s.31,
                          Col.int IntKind.i64 s.32, Col.int IntKind.i64 s.33, Col.bool s.34, Col.int IntKind.i64 s.35,
                          Col.int IntKind.i64 s.36],
                      AV.own 51 s.37
                        [Col.int IntKind.i64 s.38, Col.int IntKind.i64 s.39, Col.int IntKind.i64 s.40,
                          Col.int IntKind.i64 s.41, Col.int IntKind.i64 s.42]],
                  AV.int IntKind.i64 (mayE s.2 s.7 id kind)]) =
            some r))
        (asrt s.wid
          (asrt s.fitW
            (br (bite (bite s.ok (ige id 0) false) (ilt id (ofN s.25)) false)
              (asrt (band (ile 0 id) (ilt id (ofN s.25)))
                (asrt (nlt (nOf id) s.25)
                  (asrt (nlt (nOf id) s.25)
                    (some
                        (AV.tup
                          [AV.agg
                              [AV.int IntKind.i64 s.1, AV.int IntKind.i64 s.2, AV.int IntKind.i64 s.3,
                                AV.int IntKind.i64 s.4, AV.int IntKind.i64 s.5, AV.int IntKind.i64 s.6, AV.bool s.7,
                                AV.int IntKind.i64 s.8, AV.int IntKind.i64 s.9, AV.int IntKind.i64 s.10,
                                AV.own 87 s.11 [Col.int IntKind.i64 s.12, Col.int IntKind.i64 s.13],
                                AV.own 3 s.14 [Col.int IntKind.i64 s.15], AV.own 3 s.16 [Col.int IntKind.i64 s.17],
                                AV.int IntKind.i64 s.18, AV.own 3 s.19 [Col.int IntKind.i64 s.20],
                                AV.int IntKind.i64 s.21, AV.own 3 s.22 [Col.int IntKind.i64 s.23],
                                AV.int IntKind.i64 s.24,
                                AV.own 49 s.25
                                  [Col.int IntKind.i64
                                      (put s.26 (nOf id) (invI (invE (gI s.26 (nOf id)) kind ut) 1 (gI s.26 (nOf id)))),
                                    Col.int IntKind.i64
                                      (put s.27 (nOf id)
                                        (invI (invE (gI s.26 (nOf id)) kind ut) kind (gI s.27 (nOf id)))),
                                    Col.int IntKind.i64
                                      (put s.28 (nOf id)
                                        (invI (invE (gI s.26 (nOf id)) kind ut) val (gI s.28 (nOf id)))),
                                    Col.int IntKind.i64
                                      (put s.29 (nOf id)
                                        (invI (invE (gI s.26 (nOf id)) kind ut) (invU kind ut) (gI s.29 (nOf id)))),
                                    Col.int IntKind.i64
                                      (put s.30 (nOf id) (invI (invE (gI s.26 (nOf id)) kind ut) 0 (gI s.30 (nOf id)))),
                                    Col.int IntKind.i64
                                      (put s.31 (nOf id) (invI (invE (gI s.26 (nOf id)) kind ut) 0 (gI s.31 (nOf id)))),
                                    Col.int IntKind.i64
                                      (put s.32 (nOf id) (invI (invE (gI s.26 (nOf id)) kind ut) 0 (gI s.32 (nOf id)))),
                                    Col.int IntKind.i64
                                      (put s.33 (nOf id) (invI (invE (gI s.26 (nOf id)) kind ut) 0 (gI s.33 (nOf id)))),
                                    Col.bool
                                      (put s.34 (nOf id) (invB (invE (gI s.26 (nOf id)) kind ut) (gB s.34 (nOf id)))),
                                    Col.int IntKind.i64
                                      (put s.35 (nOf id) (invI (invE (gI s.26 (nOf id)) kind ut) 0 (gI s.35 (nOf id)))),
                                    Col.int IntKind.i64
                                      (put s.36 (nOf id)
                                        (invI (invE (gI s.26 (nOf id)) kind ut) 0 (gI s.36 (nOf id))))],
                                AV.own 51 s.37
                                  [Col.int IntKind.i64 s.38, Col.int IntKind.i64 s.39, Col.int IntKind.i64 s.40,
                                    Col.int IntKind.i64 s.41, Col.int IntKind.i64 s.42]],
                            AV.int IntKind.i64 (invE (gI s.26 (nOf id)) kind ut)]) =
                      some r))))
              (some
                  (AV.tup
                    [AV.agg
                        [AV.int IntKind.i64 s.1, AV.int IntKind.i64 s.2, AV.int IntKind.i64 s.3, AV.int IntKind.i64 s.4,
                          AV.int IntKind.i64 s.5, AV.int IntKind.i64 s.6, AV.bool s.7, AV.int IntKind.i64 s.8,
                          AV.int IntKind.i64 s.9, AV.int IntKind.i64 s.10,
                          AV.own 87 s.11 [Col.int IntKind.i64 s.12, Col.int IntKind.i64 s.13],
                          AV.own 3 s.14 [Col.int IntKind.i64 s.15], AV.own 3 s.16 [Col.int IntKind.i64 s.17],
                          AV.int IntKind.i64 s.18, AV.own 3 s.19 [Col.int IntKind.i64 s.20], AV.int IntKind.i64 s.21,
                          AV.own 3 s.22 [Col.int IntKind.i64 s.23], AV.int IntKind.i64 s.24,
                          AV.own 49 s.25
                            [Col.int IntKind.i64 s.26, Col.int IntKind.i64 s.27, Col.int IntKind.i64 s.28,
                              Col.int IntKind.i64 s.29, Col.int IntKind.i64 s.30, Col.int IntKind.i64 s.31,
                              Col.int IntKind.i64 s.32, Col.int IntKind.i64 s.33, Col.bool s.34,
                              Col.int IntKind.i64 s.35, Col.int IntKind.i64 s.36],
                          AV.own 51 s.37
                            [Col.int IntKind.i64 s.38, Col.int IntKind.i64 s.39, Col.int IntKind.i64 s.40,
                              Col.int IntKind.i64 s.41, Col.int IntKind.i64 s.42]],
                      AV.int IntKind.i64 (mayE s.2 s.7 id kind)]) =
                some r)))))
      (asrt s.wid
        (some
            (AV.tup
              [AV.agg
                  [AV.int IntKind.i64 s.1, AV.int IntKind.i64 s.2, AV.int IntKind.i64 s.3, AV.int IntKind.i64 s.4,
                    AV.int IntKind.i64 s.5, AV.int IntKind.i64 s.6, AV.bool s.7, AV.int IntKind.i64 s.8,
                    AV.int IntKind.i64 s.9, AV.int IntKind.i64 s.10,
                    AV.own 87 s.11 [Col.int IntKind.i64 s.12, Col.int IntKind.i64 s.13],
                    AV.own 3 s.14 [Col.int IntKind.i64 s.15], AV.own 3 s.16 [Col.int IntKind.i64 s.17],
                    AV.int IntKind.i64 s.18, AV.own 3 s.19 [Col.int IntKind.i64 s.20], AV.int IntKind.i64 s.21,
                    AV.own 3 s.22 [Col.int IntKind.i64 s.23], AV.int IntKind.i64 s.24,
                    AV.own 49 s.25
                      [Col.int IntKind.i64 s.26, Col.int IntKind.i64 s.27, Col.int IntKind.i64 s.28,
                        Col.int IntKind.i64 s.29, Col.int IntKind.i64 s.30, Col.int IntKind.i64 s.31,
                        Col.int IntKind.i64 s.32, Col.int IntKind.i64 s.33, Col.bool s.34, Col.int IntKind.i64 s.35,
                        Col.int IntKind.i64 s.36],
                    AV.own 51 s.37
                      [Col.int IntKind.i64 s.38, Col.int IntKind.i64 s.39, Col.int IntKind.i64 s.40,
                        Col.int IntKind.i64 s.41, Col.int IntKind.i64 s.42]],
                AV.int IntKind.i64 20]) =
          some r)))) := by kernel_rfl

theorem ok_finvoke : PureOK Tryz.prog 15 Ffinvoke := by
  refine tab_plain mixed (l := tabK3) ok_tabK3 true (by kernel_rfl) fun xs b r h hb wf => ?_
  unfold Ffinvoke at h
  split at h
  · rename_i a_s id kind val ut
    split at h
    · rename_i s h_s
      obtain rfl := asSR_some h_s
      cases h
      try rw [some_f] at hb
      simp only [WFL, WF, List.mem_cons, List.not_mem_nil, or_false, forall_eq_or_imp, forall_eq, Col.len, and_true, true_and, wf_av] at wf
      rw [vc_finvoke]
      have hf := SR.wid_fitW hb
      simp only [bite_and, bite_or]
      by_cases c1 : s.ok = true
      · have hn := SR.ok_nt c1
        by_cases c2 : mayE s.th s.sg id kind = 0
        · obtain ⟨q1, q2⟩ := mayE_is c2
          have q3 : id < s.nt := by omega
          have q4 : id.toNat < s.nt := by omega
          have w1 : id.toNat < s.st.length := by have := wf.st; omega
          have w2 : id.toNat < s.kd.length := by have := wf.kd; omega
          have w3 : id.toNat < s.vl.length := by have := wf.vl; omega
          have w4 : id.toNat < s.un.length := by have := wf.un; omega
          have w5 : id.toNat < s.pc.length := by have := wf.pc; omega
          have w6 : id.toNat < s.rg.length := by have := wf.rg; omega
          have w7 : id.toNat < s.sn.length := by have := wf.sn; omega
          have w8 : id.toNat < s.tr.length := by have := wf.tr; omega
          have w9 : id.toNat < s.lt.length := by have := wf.lt; omega
          have wa : id.toNat < s.rs.length := by have := wf.rs; omega
          have wb : id.toNat < s.gt.length := by have := wf.gt; omega
          have e : SR.invE s id kind ut = Go.Own.invE (s.st[id.toNat]?.getD 0) kind ut := by
            unfold SR.invE
            rw [if_pos c1, if_pos c2]
            rfl
          by_cases c3 : Go.Own.invE (s.st[id.toNat]?.getD 0) kind ut = 0
          · simp [asrt_iff, br_iff, ieq_t, ieq_f, ine_t, ine_f, ilt_t, ilt_f, ile_t, ile_f, igt_t, igt_f, ige_t, ige_f, nlt_t, nlt_f, nle_t, nle_f, neq_t, neq_f, beq2_t, beq2_f, bnot_t, bnot_f, band_t, band_f, bite_t, bite_f, bimp_t, bimp_f, iadd_e, isub_e, imul_e, ofN_e, nOf_e, nAdd_e, nDiff_e, room_e, lenI_e, gI_e, gB_e, imin_e, imax_e, cat_e, pt_e, put_e, some_f, SR.fitW_fit, SR.wid_fit, hb, hf, c1, c2, q1, q3, q4, e, c3, SR.inv, SR.new, invI, invB]
            intro hx
            exact absurd hx (by omega)
          · have ei : SR.inv s id kind val ut = s := by
              unfold SR.inv
              rw [e, if_neg c3]
            have eE : Go.Own.invE (gI s.st (nOf id)) kind ut = Go.Own.invE (s.st[id.toNat]?.getD 0) kind ut := rfl
            have e2 : ∀ x y, invI (Go.Own.invE (gI s.st (nOf id)) kind ut) x y = y := fun x y => by unfold invI; rw [eE, if_neg c3]
            have e3 : ∀ y, invB (Go.Own.invE (gI s.st (nOf id)) kind ut) y = y := fun y => by unfold invB; rw [eE, if_neg c3]
            rw [ei, e]
            simp only [e2, e3]
            rw [eE]
            generalize Go.Own.invE (s.st[id.toNat]?.getD 0) kind ut = E
            simp [asrt_iff, br_iff, ieq_t, ieq_f, ine_t, ine_f, ilt_t, ilt_f, ile_t, ile_f, igt_t, igt_f, ige_t, ige_f, nlt_t, nlt_f, nle_t, nle_f, neq_t, neq_f, beq2_t, beq2_f, bnot_t, bnot_f, band_t, band_f, bite_t, bite_f, bimp_t, bimp_f, iadd_e, isub_e, imul_e, ofN_e, nOf_e, nAdd_e, nDiff_e, room_e, lenI_e, gI_e, gB_e, imin_e, imax_e, cat_e, pt_e, put_e, some_f, SR.fitW_fit, SR.wid_fit, hb, hf, c1, c2, q1, q3, q4, SR.new, setI_self, setB_self, w1, w2, w3, w4, w5, w6, w7, w8, w9, wa, wb]
            intro hx
            exact absurd hx (by omega)
        · have e : SR.invE s id kind ut = mayE s.th s.sg id kind := by
            unfold SR.invE
            rw [if_pos c1, if_neg c2]
          simp [asrt_iff, br_iff, ieq_t, ieq_f, ine_t, ine_f, ilt_t, ilt_f, ile_t, ile_f, igt_t, igt_f, ige_t, ige_f, nlt_t, nlt_f, nle_t, nle_f, neq_t, neq_f, beq2_t, beq2_f, bnot_t, bnot_f, band_t, band_f, bite_t, bite_f, bimp_t, bimp_f, iadd_e, isub_e, imul_e, ofN_e, nOf_e, nAdd_e, nDiff_e, room_e, lenI_e, gI_e, gB_e, imin_e, imax_e, cat_e, pt_e, put_e, some_f, SR.fitW_fit, SR.wid_fit, hb, hf, c1, c2, e, SR.inv, SR.new]
      · have e : SR.invE s id kind ut = 20 := by
          unfold SR.invE
          rw [if_neg c1]
        simp [asrt_iff, br_iff, ieq_t, ieq_f, ine_t, ine_f, ilt_t, ilt_f, ile_t, ile_f, igt_t, igt_f, ige_t, ige_f, nlt_t, nlt_f, nle_t, nle_f, neq_t, neq_f, beq2_t, beq2_f, bnot_t, bnot_f, band_t, band_f, bite_t, bite_f, bimp_t, bimp_f, iadd_e, isub_e, imul_e, ofN_e, nOf_e, nAdd_e, nDiff_e, room_e, lenI_e, gI_e, gB_e, imin_e, imax_e, cat_e, pt_e, put_e, some_f, SR.fitW_fit, SR.wid_fit, hb, hf, c1, e, SR.inv, SR.new]
    · cases h
  · cases h


end Go.Own
