/- Some steps of who closes. -/
import Derived.Test.YtdoapbopldhakaaGreatCloB
namespace Go.Own
open Go Go.Proofs
set_option maxRecDepth 100000
set_option linter.unusedVariables false
set_option linter.unusedSimpArgs false

def SR.stepsN : Nat → SR → Int → Int → Int → SR × Int
  | 0, s, _, _, n => (s, n)
  | f + 1, s, id, lim, n => if n < lim ∧ s.closer id = true then SR.stepsN f (s.step id) id lim (n + 1) else (s, n)

def SR.steps (s : SR) (id many : Int) : SR × Int := SR.stepsN 3 s id (imin many 1000) 0

def near1 (pc : Int) : Int := if pc = 1 then 1 else 0

def near2 (pc : Int) : Int := if pc = 1 then 2 else if pc = 2 then 1 else 0


def Fnear : Pure1 := fun
  | [.int .i64 pc] => some (none, .tup [.int .i64 (near1 pc), .int .i64 (near2 pc)])
  | _ => none

theorem vc_near (pc : Int) (r : AV) : VC Tryz.prog (tabS tab0) noL false 8 [.int .i64 pc] r = (
  br (ieq pc 1) (some (AV.tup [AV.int IntKind.i64 1, AV.int IntKind.i64 2]) = some r)
    (br (ieq pc 2) (some (AV.tup [AV.int IntKind.i64 0, AV.int IntKind.i64 1]) = some r)
      (some (AV.tup [AV.int IntKind.i64 0, AV.int IntKind.i64 0]) = some r))) := by kernel_rfl

theorem ok_near : PureOK Tryz.prog 8 Fnear := by
  refine tab_plain mixed (l := tab0) ok_tab0 false (by kernel_rfl) fun xs b r h hb wf => ?_
  unfold Fnear at h
  split at h
  · rename_i pc
    cases h
    try rw [some_f] at hb
    try simp only [WFL, WF, List.mem_cons, List.not_mem_nil, or_false, forall_eq_or_imp, forall_eq, Col.len, and_true, true_and] at wf
    rw [vc_near]
    simp [asrt_iff, br_iff, ieq_t, ieq_f, ine_t, ine_f, ilt_t, ilt_f, ile_t, ile_f, igt_t, igt_f, ige_t, ige_f, nlt_t, nlt_f, nle_t, nle_f, neq_t, neq_f, beq2_t, beq2_f, bnot_t, bnot_f, band_t, band_f, bite_t, bite_f, bimp_t, bimp_f, iadd_e, isub_e, imul_e, ofN_e, nOf_e, nAdd_e, nDiff_e, room_e, lenI_e, gI_e, gB_e, imin_e, imax_e, cat_e, pt_e, put_e, some_f, SR.fitW_fit, SR.wid_fit, near1, near2]
    try grind
  · cases h


theorem SR.tell_pc (s : SR) (a b c d : Int) : (s.tell a b c d).pc = s.pc := by
  unfold SR.tell
  split <;> rfl

theorem SR.wake_pc (s : SR) (x : Int) : (s.wake x).pc = s.pc := by
  unfold SR.wake
  split <;> rfl

theorem SR.wakes_pc (l : List Int) (i : Nat) (s : SR) : (s.wakes l i).pc = s.pc := by
  unfold SR.wakes
  generalize l.drop i = m
  induction m generalizing s with
  | nil => rfl
  | cons x m ih => rw [List.foldl_cons, ih, SR.wake_pc]

/-- Who is not parked stays as it is. -/
theorem SR.wake_st (s : SR) (x : Int) (i : Nat) (h : s.st.getD i 0 ≠ 2) : (s.wake x).st.getD i 0 = s.st.getD i 0 := by
  unfold SR.wake
  split
  · show (s.st.set x.toNat (wakeSt (s.st.getD x.toNat 0))).getD i 0 = _
    by_cases e : x.toNat = i
    · subst e
      have : wakeSt (s.st.getD x.toNat 0) = s.st.getD x.toNat 0 := by unfold wakeSt; rw [if_neg h]
      rw [this]
      have := setI_any s.st x.toNat
      rw [← List.getD_eq_getElem?_getD] at this
      rw [this]
    · simp only [List.getD_eq_getElem?_getD, List.getElem?_set_ne e]
  · rfl

theorem SR.wakes_st (l : List Int) (i k : Nat) (s : SR) (h : s.st.getD i 0 ≠ 2) : (s.wakes l k).st.getD i 0 = s.st.getD i 0 := by
  unfold SR.wakes
  generalize l.drop k = m
  induction m generalizing s with
  | nil => rfl
  | cons x m ih =>
    have h1 := SR.wake_st s x i h
    rw [List.foldl_cons, ih _ (by rw [h1]; exact h), h1]

theorem SR.closer_is {s : SR} {id : Int} (h : s.closer id = true) : s.ok = true ∧ 0 ≤ id ∧ id < s.nt ∧ thRuns (s.st.getD id.toNat 0) = 0 ∧ opSide (s.kd.getD id.toNat 0) = 3 := by
  simp only [SR.closer, SR.is, Bool.and_eq_true, decide_eq_true_eq] at h
  exact ⟨h.1.1, h.1.2.1, h.1.2.2, h.2.1, h.2.2⟩

theorem SR.step_pc {s : SR} {id : Int} (h : s.closer id = true) (hr : s.rows) : (s.pc.getD id.toNat 0 = 0 → (s.step id).pc = s.pc.set id.toNat 1) ∧ (s.pc.getD id.toNat 0 = 1 → (s.step id).pc = s.pc.set id.toNat 2) := by
  constructor
  · intro p
    unfold SR.step
    rw [if_pos h, if_pos p]
    show (SR.tell _ _ _ _ _).pc.set _ _ = _
    rw [SR.tell_pc]
  · intro p
    unfold SR.step
    rw [if_pos h, if_neg (by omega), if_pos p]
    show (SR.wakes _ _ _).pc.set _ _ = _
    rw [SR.wakes_pc]

theorem SR.step_end {s : SR} {id : Int} (h : s.closer id = true) (hr : s.rows) (p0 : s.pc.getD id.toNat 0 ≠ 0) (p1 : s.pc.getD id.toNat 0 ≠ 1) : (s.step id).st.getD id.toNat 0 = 0 ∧ (s.step id).closer id = false := by
  obtain ⟨h1, h2, h3, h4, h5⟩ := SR.closer_is h
  have hn : s.st.getD id.toNat 0 ≠ 0 ∧ s.st.getD id.toNat 0 ≠ 2 := by
    unfold thRuns at h4
    constructor
    · intro e; rw [if_pos e] at h4; omega
    · intro e; rw [if_neg (by omega), if_pos e] at h4; omega
  have e : s.step id = s.bell2.done id := by unfold SR.step; rw [if_pos h, if_neg p0, if_neg p1]
  have eb : s.bell2.st.getD id.toNat 0 = s.st.getD id.toNat 0 := SR.wakes_st _ _ _ _ hn.2
  have hl : id.toNat < s.bell2.st.length := by
    apply Classical.byContradiction
    intro hh
    have : s.bell2.st.getD id.toNat 0 = 0 := by rw [List.getD_eq_getElem?_getD, List.getElem?_eq_none (by omega)]; rfl
    rw [eb] at this
    exact hn.1 this
  have z : (s.step id).st.getD id.toNat 0 = 0 := by
    rw [e]
    show (s.bell2.st.set id.toNat (invI (thRuns (s.bell2.st.getD id.toNat 0)) 0 (s.bell2.st.getD id.toNat 0))).getD id.toNat 0 = 0
    rw [eb, h4]
    simp [invI, hl]
  refine ⟨z, ?_⟩
  unfold SR.closer
  rw [z]
  simp [thRuns]

theorem getD_set_self {l : List Int} {i : Nat} {x : Int} (h : i < l.length) : (l.set i x).getD i 0 = x := by simp [h]

/-- After three steps nobody closes any more. -/
theorem SR.third {s : SR} {id : Int} (hr : s.rows) (h0 : s.closer id = true) (h1 : (s.step id).closer id = true) (h2 : ((s.step id).step id).closer id = true) (hr1 : (s.step id).rows) (hr2 : ((s.step id).step id).rows) : (((s.step id).step id).step id).closer id = false := by
  obtain ⟨a1, a2, a3, _⟩ := SR.closer_is h0
  have l0 : id.toNat < s.pc.length := by have := hr.pc; omega
  by_cases p0 : s.pc.getD id.toNat 0 = 0
  · have e1 := (SR.step_pc h0 hr).1 p0
    have p1 : (s.step id).pc.getD id.toNat 0 = 1 := by rw [e1]; exact getD_set_self l0
    have l1 : id.toNat < (s.step id).pc.length := by rw [e1]; simpa using l0
    have e2 := (SR.step_pc h1 hr1).2 p1
    have p2 : ((s.step id).step id).pc.getD id.toNat 0 = 2 := by rw [e2]; exact getD_set_self l1
    exact (SR.step_end h2 hr2 (by omega) (by omega)).2
  · by_cases p1 : s.pc.getD id.toNat 0 = 1
    · have e1 := (SR.step_pc h0 hr).2 p1
      have p2 : (s.step id).pc.getD id.toNat 0 = 2 := by rw [e1]; exact getD_set_self l0
      have := (SR.step_end h1 hr1 (by omega) (by omega)).2
      rw [this] at h2
      cases h2
    · have := (SR.step_end h0 hr p0 p1).2
      rw [this] at h1
      cases h1

theorem SR.wake_rows {s : SR} (h : s.rows) (x : Int) : (s.wake x).rows := by
  unfold SR.wake
  split
  · exact ⟨h.ss, h.sv, h.l1, h.l2, h.l3, h.l4, by simpa using h.st, h.kd, h.vl, h.un, h.pc, h.rg, h.sn, h.tr, h.lt, h.rs, h.gt, h.c0, h.ks, h.vs, h.rr, h.gs⟩
  · exact h

theorem SR.wakes_rows (l : List Int) (i : Nat) {s : SR} (h : s.rows) : (s.wakes l i).rows := by
  unfold SR.wakes
  generalize l.drop i = m
  induction m generalizing s with
  | nil => exact h
  | cons x m ih => exact ih (SR.wake_rows h x)

theorem SR.wakes_fit (l : List Int) (i : Nat) (s : SR) : (s.wakes l i).fit = s.fit ∧ (s.wakes l i).nl = s.nl := by
  unfold SR.wakes
  generalize l.drop i = m
  induction m generalizing s with
  | nil => exact ⟨rfl, rfl⟩
  | cons x m ih =>
    have h1 : (s.wake x).nl = s.nl := by unfold SR.wake; split <;> rfl
    rw [List.foldl_cons, (ih _).1, (ih _).2, SR.wake_fit, h1]
    exact ⟨rfl, rfl⟩

theorem SR.tell_rows {s : SR} (h : s.rows) (a b c d : Int) : (s.tell a b c d).rows := by
  unfold SR.tell
  split
  · refine ⟨h.ss, h.sv, h.l1, h.l2, h.l3, h.l4, h.st, h.kd, h.vl, h.un, h.pc, h.rg, h.sn, h.tr, h.lt, ?_, ?_, by simp [h.c0], by simp [h.ks], by simp [h.vs], by simp [h.rr], by simp [h.gs]⟩
    · show (if b = 9 then s.rs else s.rs.set a.toNat c).length = _
      split
      · exact h.rs
      · simpa using h.rs
    · show (if b = 9 then s.gt else s.gt.set a.toNat d).length = _
      split
      · exact h.gt
      · simpa using h.gt
  · exact h

theorem SR.ring_rows {s : SR} (h : s.rows) : ({ s with fe := comeE s.fe s.l3, n3 := (allL s.fe s.l3).length, l3 := allL s.fe s.l3 } : SR).rows := ⟨h.ss, h.sv, h.l1, h.l2, rfl, h.l4, h.st, h.kd, h.vl, h.un, h.pc, h.rg, h.sn, h.tr, h.lt, h.rs, h.gt, h.c0, h.ks, h.vs, h.rr, h.gs⟩

theorem SR.bell_rows {s : SR} (h : s.rows) : s.bell.rows := SR.wakes_rows _ _ (SR.ring_rows h)

theorem SR.ring2_rows {s : SR} (h : s.rows) : ({ s with ee := comeE s.ee s.l4, n4 := (allL s.ee s.l4).length, l4 := allL s.ee s.l4 } : SR).rows := ⟨h.ss, h.sv, h.l1, h.l2, h.l3, rfl, h.st, h.kd, h.vl, h.un, h.pc, h.rg, h.sn, h.tr, h.lt, h.rs, h.gt, h.c0, h.ks, h.vs, h.rr, h.gs⟩

theorem SR.bell2_rows {s : SR} (h : s.rows) : s.bell2.rows := SR.wakes_rows _ _ (SR.ring2_rows h)

theorem SR.step_rows {s : SR} (h : s.rows) (id : Int) : (s.step id).rows := by
  unfold SR.step
  split
  · split
    · have h1 : ({ s with md := closeM s.md (cmode (s.kd.getD id.toNat 0)) } : SR).rows := ⟨h.ss, h.sv, h.l1, h.l2, h.l3, h.l4, h.st, h.kd, h.vl, h.un, h.pc, h.rg, h.sn, h.tr, h.lt, h.rs, h.gt, h.c0, h.ks, h.vs, h.rr, h.gs⟩
      have h2 := SR.tell_rows h1 id (s.kd.getD id.toNat 0) 1 0
      exact ⟨h2.ss, h2.sv, h2.l1, h2.l2, h2.l3, h2.l4, h2.st, h2.kd, h2.vl, h2.un, (by show (List.set _ _ _).length = _; rw [List.length_set]; exact h2.pc), h2.rg, h2.sn, h2.tr, h2.lt, h2.rs, h2.gt, h2.c0, h2.ks, h2.vs, h2.rr, h2.gs⟩
    · split
      · have h2 := SR.bell_rows h
        exact ⟨h2.ss, h2.sv, h2.l1, h2.l2, h2.l3, h2.l4, h2.st, h2.kd, h2.vl, h2.un, (by simpa using h2.pc), h2.rg, h2.sn, h2.tr, h2.lt, h2.rs, h2.gt, h2.c0, h2.ks, h2.vs, h2.rr, h2.gs⟩
      · have h2 := SR.bell2_rows h
        exact ⟨h2.ss, h2.sv, h2.l1, h2.l2, h2.l3, h2.l4, (by simpa [SR.done] using h2.st), h2.kd, h2.vl, h2.un, (by simpa [SR.done] using h2.pc), (by simpa [SR.done] using h2.rg), (by simpa [SR.done] using h2.sn), (by simpa [SR.done] using h2.tr), (by simpa [SR.done] using h2.lt), h2.rs, h2.gt, h2.c0, h2.ks, h2.vs, h2.rr, h2.gs⟩
  · exact h

theorem SR.step_fit {s : SR} {k : Nat} (hr : s.rows) (h : s.fit = true) (hk : s.nl + (k + 1) ≤ 1000000) (id : Int) : (s.step id).fit = true ∧ (s.step id).nl + k ≤ 1000000 := by
  obtain ⟨b1, b2⟩ := (SR.fit_iff s).1 h
  have e3 := hr.l3
  have e4 := hr.l4
  unfold SR.step
  split
  · split
    · have ht : ∀ (t : SR) (a b c d : Int), t.fit = true → t.nl + (k + 1) ≤ 1000000 → (t.tell a b c d).fit = true ∧ (t.tell a b c d).nl + k ≤ 1000000 := by
        intro t a b c d ht hn
        unfold SR.tell
        split
        · obtain ⟨c1, c2⟩ := (SR.fit_iff t).1 ht
          refine ⟨(SR.fit_iff _).2 ⟨c1, ?_⟩, ?_⟩
          · dsimp only; omega
          · dsimp only; omega
        · exact ⟨ht, by omega⟩
      exact ht _ _ _ _ _ h hk
    · split
      · have q := SR.wakes_fit (allO s.fe s.l3) 0 { s with fe := comeE s.fe s.l3, n3 := (allL s.fe s.l3).length, l3 := allL s.fe s.l3 }
        have k1 := allL_len s.fe s.l3
        refine ⟨?_, ?_⟩
        · show s.bell.fit = true
          unfold SR.bell
          rw [q.1]
          exact (SR.fit_iff _).2 ⟨b1, by dsimp only; omega⟩
        · show s.bell.nl + k ≤ _
          unfold SR.bell
          rw [q.2]
          show s.nl + k ≤ _
          omega
      · have q := SR.wakes_fit (allO s.ee s.l4) 0 { s with ee := comeE s.ee s.l4, n4 := (allL s.ee s.l4).length, l4 := allL s.ee s.l4 }
        have k1 := allL_len s.ee s.l4
        refine ⟨?_, ?_⟩
        · show s.bell2.fit = true
          unfold SR.bell2
          rw [q.1]
          exact (SR.fit_iff _).2 ⟨b1, by dsimp only; omega⟩
        · show s.bell2.nl + k ≤ _
          unfold SR.bell2
          rw [q.2]
          show s.nl + k ≤ _
          omega
  · exact ⟨h, by omega⟩

def tabClo3 : List (FuncId × Pure1) := [(10, Fstep)] ++ tabClo2

theorem ok_tabClo3 : ∀ p ∈ tabClo3, PureOK Tryz.prog p.1 p.2 := by
  intro p hp
  simp only [tabClo3, List.mem_append, List.mem_cons, List.not_mem_nil, or_false] at hp
  rcases hp with (rfl) | hp
  · exact ok_step
  · exact ok_tabClo2 p hp


def Lsteps : Nat → Option LoopS := fun i => match i with
  | 5000 => some (.unroll 3)
  | _ => none

theorem ok_Lsteps : ∀ i x, Lsteps i = some x → LoopHyp Tryz.prog 6 i x := by
  intro i s h
  unfold Lsteps at h
  split at h
  · cases h; trivial
  · cases h


def Fsteps : Pure1 := fun
  | [a_s, .int .i64 id, .int .i64 many] => (match asSR a_s with | some s => some (some (band (SR.fit s) (nle (nAdd s.nl 10) 1000000)), .tup [SR.new (SR.steps s id many).1, .int .i64 (SR.steps s id many).2]) | none => none)
  | _ => none

theorem vc_steps (s : SR) (id many : Int) (r : AV) : VC Tryz.prog (tabS tabClo3) (oneL 6 Lsteps) true 6 [s.av, .int .i64 id, .int .i64 many] r = (
  asrt s.fit
    (asrt (bimp (ilt 0 (imin many 1000)) (s.wake (-1)).fit)
      (br (bite (ilt 0 (imin many 1000)) ((s.wake (-1)).closer id) false)
        (asrt (s.wake (-1)).fit
          (asrt (bimp (ilt 1 (imin many 1000)) ((s.wake (-1)).step id).fit)
            (br (bite (ilt 1 (imin many 1000)) (((s.wake (-1)).step id).closer id) false)
              (asrt ((s.wake (-1)).step id).fit
                (asrt (bimp (ilt 2 (imin many 1000)) (((s.wake (-1)).step id).step id).fit)
                  (br (bite (ilt 2 (imin many 1000)) ((((s.wake (-1)).step id).step id).closer id) false)
                    (asrt (((s.wake (-1)).step id).step id).fit
                      (asrt (bimp (ilt 3 (imin many 1000)) ((((s.wake (-1)).step id).step id).step id).fit)
                        (br
                          (bite (ilt 3 (imin many 1000)) (((((s.wake (-1)).step id).step id).step id).closer id) false)
                          (asrt ((((s.wake (-1)).step id).step id).step id).fit False)
                          (some
                              (AV.tup
                                [AV.agg
                                    [AV.int IntKind.i64 ((((s.wake (-1)).step id).step id).step id).1,
                                      AV.int IntKind.i64 ((((s.wake (-1)).step id).step id).step id).2,
                                      AV.int IntKind.i64 ((((s.wake (-1)).step id).step id).step id).3,
                                      AV.int IntKind.i64 ((((s.wake (-1)).step id).step id).step id).4,
                                      AV.int IntKind.i64 ((((s.wake (-1)).step id).step id).step id).5,
                                      AV.int IntKind.i64 ((((s.wake (-1)).step id).step id).step id).6,
                                      AV.bool ((((s.wake (-1)).step id).step id).step id).7,
                                      AV.int IntKind.i64 ((((s.wake (-1)).step id).step id).step id).8,
                                      AV.int IntKind.i64 ((((s.wake (-1)).step id).step id).step id).9,
                                      AV.int IntKind.i64 ((((s.wake (-1)).step id).step id).step id).10,
                                      AV.own 87 ((((s.wake (-1)).step id).step id).step id).11
                                        [Col.int IntKind.i64 ((((s.wake (-1)).step id).step id).step id).12,
                                          Col.int IntKind.i64 ((((s.wake (-1)).step id).step id).step id).13],
                                      AV.own 3 ((((s.wake (-1)).step id).step id).step id).14
                                        [Col.int IntKind.i64 ((((s.wake (-1)).step id).step id).step id).15],
                                      AV.own 3 ((((s.wake (-1)).step id).step id).step id).16
                                        [Col.int IntKind.i64 ((((s.wake (-1)).step id).step id).step id).17],
                                      AV.int IntKind.i64 ((((s.wake (-1)).step id).step id).step id).18,
                                      AV.own 3 ((((s.wake (-1)).step id).step id).step id).19
                                        [Col.int IntKind.i64 ((((s.wake (-1)).step id).step id).step id).20],
                                      AV.int IntKind.i64 ((((s.wake (-1)).step id).step id).step id).21,
                                      AV.own 3 ((((s.wake (-1)).step id).step id).step id).22
                                        [Col.int IntKind.i64 ((((s.wake (-1)).step id).step id).step id).23],
                                      AV.int IntKind.i64 ((((s.wake (-1)).step id).step id).step id).24,
                                      AV.own 49 ((((s.wake (-1)).step id).step id).step id).25
                                        [Col.int IntKind.i64 ((((s.wake (-1)).step id).step id).step id).26,
                                          Col.int IntKind.i64 ((((s.wake (-1)).step id).step id).step id).27,
                                          Col.int IntKind.i64 ((((s.wake (-1)).step id).step id).step id).28,
                                          Col.int IntKind.i64 ((((s.wake (-1)).step id).step id).step id).29,
                                          Col.int IntKind.i64 ((((s.wake (-1)).step id).step id).step id).30,
                                          Col.int IntKind.i64 ((((s.wake (-1)).step id).step id).step id).31,
                                          Col.int IntKind.i64 ((((s.wake (-1)).step id).step id).step id).32,
                                          Col.int IntKind.i64 ((((s.wake (-1)).step id).step id).step id).33,
                                          Col.bool ((((s.wake (-1)).step id).step id).step id).34,
                                          Col.int IntKind.i64 ((((s.wake (-1)).step id).step id).step id).35,
                                          Col.int IntKind.i64 ((((s.wake (-1)).step id).step id).step id).36],
                                      AV.own 51 ((((s.wake (-1)).step id).step id).step id).37
                                        [Col.int IntKind.i64 ((((s.wake (-1)).step id).step id).step id).38,
                                          Col.int IntKind.i64 ((((s.wake (-1)).step id).step id).step id).39,
                                          Col.int IntKind.i64 ((((s.wake (-1)).step id).step id).step id).40,
                                          Col.int IntKind.i64 ((((s.wake (-1)).step id).step id).step id).41,
                                          Col.int IntKind.i64 ((((s.wake (-1)).step id).step id).step id).42]],
                                  AV.int IntKind.i64 3]) =
                            some r))))
                    (some
                        (AV.tup
                          [AV.agg
                              [AV.int IntKind.i64 (((s.wake (-1)).step id).step id).1,
                                AV.int IntKind.i64 (((s.wake (-1)).step id).step id).2,
                                AV.int IntKind.i64 (((s.wake (-1)).step id).step id).3,
                                AV.int IntKind.i64 (((s.wake (-1)).step id).step id).4,
                                AV.int IntKind.i64 (((s.wake (-1)).step id).step id).5,
                                AV.int IntKind.i64 (((s.wake (-1)).step id).step id).6,
                                AV.bool (((s.wake (-1)).step id).step id).7,
                                AV.int IntKind.i64 (((s.wake (-1)).step id).step id).8,
                                AV.int IntKind.i64 (((s.wake (-1)).step id).step id).9,
                                AV.int IntKind.i64 (((s.wake (-1)).step id).step id).10,
                                AV.own 87 (((s.wake (-1)).step id).step id).11
                                  [Col.int IntKind.i64 (((s.wake (-1)).step id).step id).12,
                                    Col.int IntKind.i64 (((s.wake (-1)).step id).step id).13],
                                AV.own 3 (((s.wake (-1)).step id).step id).14
                                  [Col.int IntKind.i64 (((s.wake (-1)).step id).step id).15],
                                AV.own 3 (((s.wake (-1)).step id).step id).16
                                  [Col.int IntKind.i64 (((s.wake (-1)).step id).step id).17],
                                AV.int IntKind.i64 (((s.wake (-1)).step id).step id).18,
                                AV.own 3 (((s.wake (-1)).step id).step id).19
                                  [Col.int IntKind.i64 (((s.wake (-1)).step id).step id).20],
                                AV.int IntKind.i64 (((s.wake (-1)).step id).step id).21,
                                AV.own 3 (((s.wake (-1)).step id).step id).22
                                  [Col.int IntKind.i64 (((s.wake (-1)).step id).step id).23],
                                AV.int IntKind.i64 (((s.wake (-1)).step id).step id).24,
                                AV.own 49 (((s.wake (-1)).step id).step id).25
                                  [Col.int IntKind.i64 (((s.wake (-1)).step id).step id).26,
                                    Col.int IntKind.i64 (((s.wake (-1)).step id).step id).27,
                                    Col.int IntKind.i64 (((s.wake (-1)).step id).step id).28,
                                    Col.int IntKind.i64 (((s.wake (-1)).step id).step id).29,
                                    Col.int IntKind.i64 (((s.wake (-1)).step id).step id).30,
                                    Col.int IntKind.i64 (((s.wake (-1)).step id).step id).31,
                                    Col.int IntKind.i64 (((s.wake (-1)).step id).step id).32,
                                    Col.int IntKind.i64 (((s.wake (-1)).step id).step id).33,
                                    Col.bool (((s.wake (-1)).step id).step id).34,
                                    Col.int IntKind.i64 (((s.wake (-1)).step id).step id).35,
                                    Col.int IntKind.i64 (((s.wake (-1)).step id).step id).36],
                                AV.own 51 (((s.wake (-1)).step id).step id).37
                                  [Col.int IntKind.i64 (((s.wake (-1)).step id).step id).38,
                                    Col.int IntKind.i64 (((s.wake (-1)).step id).step id).39,
                                    Col.int IntKind.i64 (((s.wake (-1)).step id).step id).40,
                                    Col.int IntKind.i64 (((s.wake (-1)).step id).step id).41,
                                    Col.int IntKind.i64 (((s.wake (-1)).step id).step id).42]],
                            AV.int IntKind.i64 2]) =
                      some r))))
              (some
                  (AV.tup
                    [AV.agg
                        [AV.int IntKind.i64 ((s.wake (-1)).step id).1, AV.int IntKind.i64 ((s.wake (-1)).step id).2,
                          AV.int IntKind.i64 ((s.wake (-1)).step id).3, AV.int IntKind.i64 ((s.wake (-1)).step id).4,
                          AV.int IntKind.i64 ((s.wake (-1)).step id).5, AV.int IntKind.i64 ((s.wake (-1)).step id).6,
                          AV.bool ((s.wake (-1)).step id).7, AV.int IntKind.i64 ((s.wake (-1)).step id).8,
                          AV.int IntKind.i64 ((s.wake (-1)).step id).9, AV.int IntKind.i64 ((s.wake (-1)).step id).10,
                          AV.own 87 ((s.wake (-1)).step id).11
                            [Col.int IntKind.i64 ((s.wake (-1)).step id).12,
                              Col.int IntKind.i64 ((s.wake (-1)).step id).13],
                          AV.own 3 ((s.wake (-1)).step id).14 [Col.int IntKind.i64 ((s.wake (-1)).step id).15],
                          AV.own 3 ((s.wake (-1)).step id).16 [Col.int IntKind.i64 ((s.wake (-1)).step id).17],
                          AV.int IntKind.i64 ((s.wake (-1)).step id).18,
                          AV.own 3 ((s.wake (-1)).step id).19 [Col.int IntKind.i64 ((s.wake (-1)).step id).20],
                          AV.int IntKind.i64 ((s.wake (-1)).step id).21,
                          AV.own 3 ((s.wake (-1)).step id).22 [Col.int IntKind.i64 ((s.wake (-1)).step id).23],
                          AV.int IntKind.i64 ((s.wake (-1)).step id).24,
                          AV.own 49 ((s.wake (-1)).step id).25
                            [Col.int IntKind.i64 ((s.wake (-1)).step id).26,
                              Col.int IntKind.i64 ((s.wake (-1)).step id).27,
                              Col.int IntKind.i64 ((s.wake (-1)).step id).28,
                              Col.int IntKind.i64 ((s.wake (-1)).step id).29,
                              Col.int IntKind.i64 ((s.wake (-1)).step id).30,
                              Col.int IntKind.i64 ((s.wake (-1)).step id).31,
                              Col.int IntKind.i64 ((s.wake (-1)).step id).32,
                              Col.int IntKind.i64 ((s.wake (-1)).step id).33, Col.bool ((s.wake (-1)).step id).34,
                              Col.int IntKind.i64 ((s.wake (-1)).step id).35,
                              Col.int IntKind.i64 ((s.wake (-1)).step id).36],
                          AV.own 51 ((s.wake (-1)).step id).37
                            [Col.int IntKind.i64 ((s.wake (-1)).step id).38,
                              Col.int IntKind.i64 ((s.wake (-1)).step id).39,
                              Col.int IntKind.i64 ((s.wake (-1)).step id).40,
                              Col.int IntKind.i64 ((s.wake (-1)).step id).41,
                              Col.int IntKind.i64 ((s.wake (-1)).step id).42]],
                      AV.int IntKind.i64 1]) =
                some r))))
        (some
            (AV.tup
              [AV.agg
                  [AV.int IntKind.i64 (s.wake (-1)).1, AV.int IntKind.i64 (s.wake (-1)).2,
                    AV.int IntKind.i64 (s.wake (-1)).3, AV.int IntKind.i64 (s.wake (-1)).4,
                    AV.int IntKind.i64 (s.wake (-1)).5, AV.int IntKind.i64 (s.wake (-1)).6, AV.bool (s.wake (-1)).7,
                    AV.int IntKind.i64 (s.wake (-1)).8, AV.int IntKind.i64 (s.wake (-1)).9,
                    AV.int IntKind.i64 (s.wake (-1)).10,
                    AV.own 87 (s.wake (-1)).11
                      [Col.int IntKind.i64 (s.wake (-1)).12, Col.int IntKind.i64 (s.wake (-1)).13],
                    AV.own 3 (s.wake (-1)).14 [Col.int IntKind.i64 (s.wake (-1)).15],
                    AV.own 3 (s.wake (-1)).16 [Col.int IntKind.i64 (s.wake (-1)).17],
                    AV.int IntKind.i64 (s.wake (-1)).18,
                    AV.own 3 (s.wake (-1)).19 [Col.int IntKind.i64 (s.wake (-1)).20],
                    AV.int IntKind.i64 (s.wake (-1)).21,
                    AV.own 3 (s.wake (-1)).22 [Col.int IntKind.i64 (s.wake (-1)).23],
                    AV.int IntKind.i64 (s.wake (-1)).24,
                    AV.own 49 (s.wake (-1)).25
                      [Col.int IntKind.i64 (s.wake (-1)).26, Col.int IntKind.i64 (s.wake (-1)).27,
                        Col.int IntKind.i64 (s.wake (-1)).28, Col.int IntKind.i64 (s.wake (-1)).29,
                        Col.int IntKind.i64 (s.wake (-1)).30, Col.int IntKind.i64 (s.wake (-1)).31,
                        Col.int IntKind.i64 (s.wake (-1)).32, Col.int IntKind.i64 (s.wake (-1)).33,
                        Col.bool (s.wake (-1)).34, Col.int IntKind.i64 (s.wake (-1)).35,
                        Col.int IntKind.i64 (s.wake (-1)).36],
                    AV.own 51 (s.wake (-1)).37
                      [Col.int IntKind.i64 (s.wake (-1)).38, Col.int IntKind.i64 (s.wake (-1)).39,
                        Col.int IntKind.i64 (s.wake (-1)).40, Col.int IntKind.i64 (s.wake (-1)).41,
                        Col.int IntKind.i64 (s.wake (-1)).42]],
                AV.int IntKind.i64 0]) =
          some r)))) := by kernel_rfl

theorem ok_steps : PureOK Tryz.prog 6 Fsteps := by
  refine tab_loops mixed (l := tabClo3) ok_tabClo3 true Lsteps (by kernel_rfl) ok_Lsteps fun xs b r h hb wf => ?_
  unfold Fsteps at h
  split at h
  · rename_i a_s id many
    split at h
    · rename_i s h_s
      obtain rfl := asSR_some h_s
      cases h
      try rw [some_f] at hb
      simp only [WFL, WF, List.mem_cons, List.not_mem_nil, or_false, forall_eq_or_imp, forall_eq, Col.len, and_true, true_and, wf_av] at wf
      rw [vc_steps]
      simp only [SR.wake_neg, bite_and]
      simp only [band_t, nle_t, nAdd_e] at hb
      obtain ⟨hf, hn⟩ := hb
      obtain ⟨f1, n1⟩ := SR.step_fit (k := 9) wf hf hn id
      have r1 := SR.step_rows wf id
      obtain ⟨f2, n2⟩ := SR.step_fit (k := 8) r1 f1 (by omega) id
      have r2 := SR.step_rows r1 id
      obtain ⟨f3, n3⟩ := SR.step_fit (k := 7) r2 f2 (by omega) id
      have r3 := SR.step_rows r2 id
      have dF : ∀ (k : Int) (t : SR), ¬ (k < imin many 1000 ∧ t.closer id = true) → (ilt k (imin many 1000) && t.closer id) = false := by
        intro k t h
        rw [Bool.eq_false_iff]
        intro hh
        simp only [Bool.and_eq_true, ilt_t] at hh
        exact h hh
      have dT : ∀ (k : Int) (t : SR), (k < imin many 1000 ∧ t.closer id = true) → (ilt k (imin many 1000) && t.closer id) = true := by
        intro k t h
        simp only [Bool.and_eq_true, ilt_t]
        exact h
      have bt : ∀ c : Bool, bimp c true = true := by
        intro c
        cases c <;> rfl
      by_cases c0 : 0 < imin many 1000 ∧ s.closer id = true
      · by_cases c1 : 1 < imin many 1000 ∧ (s.step id).closer id = true
        · by_cases c2 : 2 < imin many 1000 ∧ ((s.step id).step id).closer id = true
          · have c3 := SR.third wf c0.2 c1.2 c2.2 r1 r2
            have e : SR.steps s id many = (((s.step id).step id).step id, 3) := by
              unfold SR.steps SR.stepsN
              rw [if_pos c0]
              unfold SR.stepsN
              rw [if_pos (show (0 : Int) + 1 < imin many 1000 ∧ _ from c1)]
              unfold SR.stepsN
              rw [if_pos (show (0 : Int) + 1 + 1 < imin many 1000 ∧ _ from c2)]
              rfl
            rw [e, dT _ _ c0, dT _ _ c1, dT _ _ c2, dF _ (((s.step id).step id).step id) (by rw [c3]; simp)]
            simp only [hf, f1, f2, f3, bt]
            show some _ = some _
            rfl
          · have e : SR.steps s id many = ((s.step id).step id, 2) := by
              unfold SR.steps SR.stepsN
              rw [if_pos c0]
              unfold SR.stepsN
              rw [if_pos (show (0 : Int) + 1 < imin many 1000 ∧ _ from c1)]
              unfold SR.stepsN
              rw [if_neg (show ¬ ((0 : Int) + 1 + 1 < imin many 1000 ∧ _) from c2)]
              rfl
            rw [e, dT _ _ c0, dT _ _ c1, dF _ _ c2]
            simp only [hf, f1, f2, bt]
            show some _ = some _
            rfl
        · have e : SR.steps s id many = (s.step id, 1) := by
            unfold SR.steps SR.stepsN
            rw [if_pos c0]
            unfold SR.stepsN
            rw [if_neg (show ¬ ((0 : Int) + 1 < imin many 1000 ∧ _) from c1)]
            rfl
          rw [e, dT _ _ c0, dF _ _ c1]
          simp only [hf, f1, bt]
          show some _ = some _
          rfl
      · have e : SR.steps s id many = (s, 0) := by
          unfold SR.steps SR.stepsN
          rw [if_neg c0]
        rw [e, dF _ _ c0]
        simp only [hf, bt]
        show some _ = some _
        rfl
    · cases h
  · cases h


end Go.Own
