/- Who begins to close is done after three steps: plain laws of states; and what the laws of who closes begin with. -/
import Derived.Test.YtdoapbopldhakaaGreatCloK
import Derived.Test.YtdoapbopldhakaaGreatFabN
namespace Go.Own
open Go Go.Proofs
set_option maxRecDepth 100000
set_option linter.unusedVariables false
set_option linter.unusedSimpArgs false

/-- What three steps lead to. -/
structure SR.Three (s t : SR) (id : Int) : Prop where
  ok : t.ok = true
  rows : t.rows
  md : t.md = closeM s.md (cmode (s.kd.getD id.toNat 0))
  nl : t.nl = s.nl + 1
  fe : t.fe = comeE s.fe s.l3
  ee : t.ee = comeE s.ee s.l4
  l3 : t.l3 = []
  l4 : t.l4 = []
  st : t.st.getD id.toNat 0 = 0
  rs : t.rs.getD id.toNat 0 = 1
  nt : t.nt = s.nt
  tl : t.tl = s.tl
  th : t.th = s.th
  sg : t.sg = s.sg
  fit : t.fit = true
  st2 : ∀ j, t.st.getD j 0 = 2 → s.st.getD j 0 = 2 ∧ (j : Int) ∉ s.l3 ∧ (j : Int) ∉ s.l4

theorem SR.wakes_same (l : List Int) (i : Nat) (s : SR) : s.wakes l i = { s with st := (s.wakes l i).st } := by
  unfold SR.wakes
  generalize l.drop i = m
  induction m generalizing s with
  | nil => rfl
  | cons x m ih =>
    have h1 : s.wake x = { s with st := (s.wake x).st } := by unfold SR.wake; split <;> rfl
    rw [List.foldl_cons, ih (s.wake x)]
    generalize ((m.foldl SR.wake (s.wake x)).st) = q
    rw [h1]

/-- Who is woken is not parked. -/
theorem SR.wake_no (s : SR) (hr : s.rows) (h : s.ok = true) (x : Int) (j : Nat) (hj : (s.wake x).st.getD j 0 = 2) : s.st.getD j 0 = 2 ∧ (j : Int) ≠ x := by
  unfold SR.wake at hj
  split at hj
  · rename_i hi
    simp only [SR.is, Bool.and_eq_true, decide_eq_true_eq] at hi
    dsimp only at hj
    rw [getD_set, hr.st] at hj
    split at hj
    · rename_i he
      unfold wakeSt at hj
      split at hj
      · omega
      · rename_i hn; exact absurd hj hn
    · rename_i he
      exact ⟨hj, fun e => he ⟨by omega, by omega⟩⟩
  · rename_i hi
    refine ⟨hj, fun e => hi ?_⟩
    simp only [SR.is, h, Bool.true_and, decide_eq_true_eq]
    refine ⟨by omega, ?_⟩
    apply Classical.byContradiction
    intro hn
    have : s.st.getD j 0 = 0 := by
      rw [List.getD_eq_getElem?_getD, List.getElem?_eq_none (by have := hr.st; omega)]
      rfl
    omega

theorem SR.wakes_no (l : List Int) (j : Nat) : ∀ (s : SR), s.rows → s.ok = true → (l.foldl SR.wake s).st.getD j 0 = 2 → s.st.getD j 0 = 2 ∧ (j : Int) ∉ l := by
  induction l with
  | nil => intro s _ _ h; exact ⟨h, by simp⟩
  | cons x l ih =>
    intro s hr ho h
    rw [List.foldl_cons] at h
    obtain ⟨h1, h2⟩ := ih (s.wake x) (SR.wake_rows hr x) (SR.wake_ok ho x) h
    obtain ⟨h3, h4⟩ := SR.wake_no s hr ho x j h1
    exact ⟨h3, by simp only [List.mem_cons, not_or]; exact ⟨h4, h2⟩⟩

theorem SR.tell_is {s : SR} {a : Int} (h : s.is a = true) (b c d : Int) (hb : b ≠ 9) : s.tell a b c d = { s with rs := s.rs.set a.toNat c, gt := s.gt.set a.toNat d, nl := s.nl + 1, c0 := s.c0 ++ [a], ks := s.ks ++ [b], vs := s.vs ++ [s.vl.getD a.toNat 0], rr := s.rr ++ [c], gs := s.gs ++ [d] } := by
  unfold SR.tell
  rw [if_pos h, if_neg hb, if_neg hb]

theorem SR.three {s : SR} {id many : Int} (hr : s.rows) (hf : s.fit = true) (hn : s.nl + 10 ≤ 1000000) (hc : s.closer id = true) (hp : s.pc.getD id.toNat 0 = 0) (hm : 3 ≤ many) : (s.steps id many).2 = 3 ∧ SR.Three s (s.steps id many).1 id := by
  obtain ⟨c1, c2, c3, c4, c5⟩ := SR.closer_is hc
  have hst : s.st.getD id.toNat 0 ≠ 0 ∧ s.st.getD id.toNat 0 ≠ 2 := by
    unfold thRuns at c4
    constructor
    · intro e; rw [if_pos e] at c4; omega
    · intro e; rw [if_neg (by omega), if_pos e] at c4; omega
  have hk9 : s.kd.getD id.toNat 0 ≠ 9 := by intro e; rw [e] at c5; simp [opSide] at c5
  -- the first step
  have e1 : s.step id = s.shut id := by unfold SR.step; rw [if_pos hc, if_pos hp]
  have o1 := SR.step_ok c1 hr id
  have r1 := SR.step_rows hr id
  obtain ⟨f1, n1⟩ := SR.step_fit (k := 8) hr hf (by omega) id
  have hmd := SR.md_ok c1 (s.kd.getD id.toNat 0)
  have is1 : ({ s with md := closeM s.md (cmode (s.kd.getD id.toNat 0)) } : SR).is id = true := by
    simp only [SR.is, hmd, Bool.true_and, decide_eq_true_eq]
    exact ⟨c2, c3⟩
  have x1 : s.step id = { s with md := closeM s.md (cmode (s.kd.getD id.toNat 0)), rs := s.rs.set id.toNat 1, gt := s.gt.set id.toNat 0, nl := s.nl + 1, c0 := s.c0 ++ [id], ks := s.ks ++ [s.kd.getD id.toNat 0], vs := s.vs ++ [s.vl.getD id.toNat 0], rr := s.rr ++ [1], gs := s.gs ++ [0], pc := s.pc.set id.toNat 1 } := by
    rw [e1]
    unfold SR.shut
    simp only [SR.tell_is is1 _ _ _ hk9]
  generalize hs1 : s.step id = s1 at *
  have q1 : s1.closer id = true := by
    unfold SR.closer SR.is
    rw [o1, x1]
    simp only [Bool.true_and, Bool.and_eq_true, decide_eq_true_eq]
    exact ⟨⟨c2, c3⟩, c4, c5⟩
  have lp : id.toNat < s.pc.length := by have := hr.pc; omega
  have p1 : s1.pc.getD id.toNat 0 = 1 := by rw [x1]; exact getD_set_self lp
  -- the second
  have e2 : s1.step id = { s1.bell with pc := s1.bell.pc.set id.toNat 2 } := by unfold SR.step; rw [if_pos q1, if_neg (by omega), if_pos p1]
  have o2 := SR.step_ok o1 r1 id
  have r2 := SR.step_rows r1 id
  obtain ⟨f2, n2⟩ := SR.step_fit (k := 7) r1 f1 (by omega) id
  have b1 := SR.wakes_same (allO s1.fe s1.l3) 0 { s1 with fe := comeE s1.fe s1.l3, n3 := (allL s1.fe s1.l3).length, l3 := allL s1.fe s1.l3 }
  generalize hs2 : s1.step id = s2 at *
  have x2 : s2 = { s1 with fe := comeE s1.fe s1.l3, n3 := (allL s1.fe s1.l3).length, l3 := allL s1.fe s1.l3, st := s1.bell.st, pc := s1.pc.set id.toNat 2 } := by
    rw [e2]
    unfold SR.bell at b1 ⊢
    rw [b1]
  have st1 : s1.st = s.st := by rw [x1]
  have w2 : s1.bell.st.getD id.toNat 0 = s.st.getD id.toNat 0 := by
    have : s1.bell.st.getD id.toNat 0 = s1.st.getD id.toNat 0 := SR.wakes_st _ _ _ _ (by show s1.st.getD id.toNat 0 ≠ 2; rw [st1]; exact hst.2)
    rw [this, st1]
  have q2 : s2.closer id = true := by
    unfold SR.closer SR.is
    rw [o2, x2]
    simp only [Bool.true_and, Bool.and_eq_true, decide_eq_true_eq]
    rw [w2]
    refine ⟨⟨c2, ?_⟩, c4, ?_⟩
    · rw [x1]; exact c3
    · rw [x1]; exact c5
  have lp1 : id.toNat < s1.pc.length := by rw [x1]; simpa using lp
  have p2 : s2.pc.getD id.toNat 0 = 2 := by rw [x2]; exact getD_set_self lp1
  -- the third
  have e3 : s2.step id = s2.bell2.done id := by unfold SR.step; rw [if_pos q2, if_neg (by omega), if_neg (by omega)]
  have o3 := SR.step_ok o2 r2 id
  have r3 := SR.step_rows r2 id
  obtain ⟨f3, n3⟩ := SR.step_fit (k := 6) r2 f2 (by omega) id
  obtain ⟨z3, _⟩ := SR.step_end q2 r2 (by omega) (by omega)
  have b2 := SR.wakes_same (allO s2.ee s2.l4) 0 { s2 with ee := comeE s2.ee s2.l4, n4 := (allL s2.ee s2.l4).length, l4 := allL s2.ee s2.l4 }
  have hv1 := ((SR.ok_iff2 s).1 c1).1.2.2.2.2.2.1
  have hv2 := ((SR.ok_iff2 s).1 c1).1.2.2.2.2.2.2.1
  have es : s.steps id many = (s2.step id, 3) := by
    unfold SR.steps
    have hl : 3 ≤ imin many 1000 := by rw [imin_e]; omega
    unfold SR.stepsN
    rw [if_pos ⟨by omega, hc⟩, hs1]
    unfold SR.stepsN
    rw [if_pos ⟨by omega, q1⟩, hs2]
    unfold SR.stepsN
    rw [if_pos ⟨by omega, q2⟩]
    rfl
  have x3 : ∃ a b c d e f, s2.step id = { s with md := closeM s.md (cmode (s.kd.getD id.toNat 0)), rs := s.rs.set id.toNat 1, gt := s.gt.set id.toNat 0, nl := s.nl + 1, c0 := s.c0 ++ [id], ks := s.ks ++ [s.kd.getD id.toNat 0], vs := s.vs ++ [s.vl.getD id.toNat 0], rr := s.rr ++ [1], gs := s.gs ++ [0], fe := comeE s.fe s.l3, n3 := 0, l3 := [], ee := comeE s.ee s.l4, n4 := 0, l4 := [], st := a, pc := b, rg := c, sn := d, tr := e, lt := f } := by
    refine ⟨(s2.bell2.done id).st, (s2.bell2.done id).pc, (s2.bell2.done id).rg, (s2.bell2.done id).sn, (s2.bell2.done id).tr, (s2.bell2.done id).lt, ?_⟩
    have a3 : allL s.fe s.l3 = [] := by unfold allL; rw [if_pos hv1]
    have a4 : allL s.ee s.l4 = [] := by unfold allL; rw [if_pos hv2]
    have y : s2.bell2.done id = { s2 with ee := comeE s2.ee s2.l4, n4 := (allL s2.ee s2.l4).length, l4 := allL s2.ee s2.l4, st := (s2.bell2.done id).st, pc := (s2.bell2.done id).pc, rg := (s2.bell2.done id).rg, sn := (s2.bell2.done id).sn, tr := (s2.bell2.done id).tr, lt := (s2.bell2.done id).lt } := by
      have z : ∀ t u : SR, t = { u with st := t.st } → t.done id = { u with st := (t.done id).st, pc := (t.done id).pc, rg := (t.done id).rg, sn := (t.done id).sn, tr := (t.done id).tr, lt := (t.done id).lt } := by
        intro t u h
        obtain ⟨q, hq⟩ : ∃ q, t = { u with st := q } := ⟨_, h⟩
        subst hq
        rfl
      exact z _ _ b2
    rw [e3]
    generalize (s2.bell2.done id).st = A at y ⊢
    generalize (s2.bell2.done id).pc = B at y ⊢
    generalize (s2.bell2.done id).rg = C at y ⊢
    generalize (s2.bell2.done id).sn = D at y ⊢
    generalize (s2.bell2.done id).tr = E at y ⊢
    generalize (s2.bell2.done id).lt = F at y ⊢
    rw [y]
    have l4e : s2.l4 = s.l4 := by rw [x2, x1]
    have eee : s2.ee = s.ee := by rw [x2, x1]
    rw [l4e, eee, a4]
    rw [x2]
    have l3e : s1.l3 = s.l3 := by rw [x1]
    have fee : s1.fe = s.fe := by rw [x1]
    rw [l3e, fee, a3]
    rw [x1]
    rfl
  have hs2' : ∀ j : Nat, (s2.step id).st.getD j 0 = 2 → s.st.getD j 0 = 2 ∧ (j : Int) ∉ s.l3 ∧ (j : Int) ∉ s.l4 := by
    intro j hj
    have d1 : s2.bell2.st.getD j 0 = 2 := by
      rw [e3] at hj
      have hj' : (s2.bell2.st.set id.toNat (invI (thRuns (s2.bell2.st.getD id.toNat 0)) 0 (s2.bell2.st.getD id.toNat 0))).getD j 0 = 2 := hj
      rw [getD_set] at hj'
      split at hj'
      · rename_i he
        unfold invI at hj'
        split at hj'
        · omega
        · rw [he.1] at hj'; exact hj'
      · exact hj'
    have l4e : s2.l4 = s.l4 := by rw [x2, x1]
    have eee : s2.ee = s.ee := by rw [x2, x1]
    have l3e : s1.l3 = s.l3 := by rw [x1]
    have fee : s1.fe = s.fe := by rw [x1]
    have ao4 : allO s2.ee s2.l4 = s.l4 := by rw [l4e, eee]; unfold allO; rw [if_pos hv2]
    have ao3 : allO s1.fe s1.l3 = s.l3 := by rw [l3e, fee]; unfold allO; rw [if_pos hv1]
    have u2 : ({ s2 with ee := comeE s2.ee s2.l4, n4 := (allL s2.ee s2.l4).length, l4 := allL s2.ee s2.l4 } : SR).ok = true ∧ ({ s2 with ee := comeE s2.ee s2.l4, n4 := (allL s2.ee s2.l4).length, l4 := allL s2.ee s2.l4 } : SR).rows := ⟨SR.ring2_ok o2, SR.ring2_rows r2⟩
    have d2 := SR.wakes_no (allO s2.ee s2.l4) j _ u2.2 u2.1 d1
    rw [ao4] at d2
    obtain ⟨d2, d3⟩ := d2
    have d4 : s1.bell.st.getD j 0 = 2 := by
      have : s2.st = s1.bell.st := by rw [x2]
      rw [← this]; exact d2
    have u1 : ({ s1 with fe := comeE s1.fe s1.l3, n3 := (allL s1.fe s1.l3).length, l3 := allL s1.fe s1.l3 } : SR).ok = true ∧ ({ s1 with fe := comeE s1.fe s1.l3, n3 := (allL s1.fe s1.l3).length, l3 := allL s1.fe s1.l3 } : SR).rows := ⟨SR.ring_ok o1, SR.ring_rows r1⟩
    have d5 := SR.wakes_no (allO s1.fe s1.l3) j _ u1.2 u1.1 d4
    rw [ao3] at d5
    obtain ⟨d5, d6⟩ := d5
    have d7 : s1.st.getD j 0 = 2 := d5
    rw [st1] at d7
    exact ⟨d7, d6, d3⟩
  rw [es]
  refine ⟨rfl, ?_⟩
  show SR.Three s (s2.step id) id
  obtain ⟨a, b, c, d, e, f, x3⟩ := x3
  have lr : id.toNat < s.rs.length := by have := hr.rs; omega
  refine ⟨o3, r3, ?_, ?_, ?_, ?_, ?_, ?_, z3, ?_, ?_, ?_, ?_, ?_, f3, hs2'⟩
  all_goals rw [x3]
  exact getD_set_self lr

theorem SR.inv_rows {s : SR} (h : s.rows) (id kind val ut : Int) : (s.inv id kind val ut).rows := by
  unfold SR.inv
  split
  · exact ⟨h.ss, h.sv, h.l1, h.l2, h.l3, h.l4, (by simpa using h.st), (by simpa using h.kd), (by simpa using h.vl), (by simpa using h.un), (by simpa using h.pc), (by simpa using h.rg), (by simpa using h.sn), (by simpa using h.tr), (by simpa using h.lt), (by simpa using h.rs), (by simpa using h.gt), h.c0, h.ks, h.vs, h.rr, h.gs⟩
  · exact h

theorem SR.inv_same (s : SR) (id kind val ut : Int) : (s.inv id kind val ut).fit = s.fit ∧ (s.inv id kind val ut).nl = s.nl ∧ (s.inv id kind val ut).md = s.md ∧ (s.inv id kind val ut).fe = s.fe ∧ (s.inv id kind val ut).ee = s.ee ∧ (s.inv id kind val ut).l3 = s.l3 ∧ (s.inv id kind val ut).l4 = s.l4 ∧ (s.inv id kind val ut).nt = s.nt ∧ (s.inv id kind val ut).tl = s.tl ∧ (s.inv id kind val ut).th = s.th ∧ (s.inv id kind val ut).sg = s.sg := by
  unfold SR.inv
  split <;> exact ⟨rfl, rfl, rfl, rfl, rfl, rfl, rfl, rfl, rfl, rfl, rfl⟩

/-- Who begins to close is done after three steps. -/
theorem SR.closes {s : SR} {id k many : Int} (hr : s.rows) (hf : s.fit = true) (hn : s.nl + 10 ≤ 1000000) (hk : k = 7 ∨ k = 8) (he : s.invE id k 0 = 0) (hm : 3 ≤ many) :
    ((s.inv id k 0 0).steps id many).2 = 3 ∧ SR.Three (s.inv id k 0 0) ((s.inv id k 0 0).steps id many).1 id ∧ (s.inv id k 0 0).kd.getD id.toNat 0 = k ∧ (∀ j, (s.inv id k 0 0).st.getD j 0 = 2 → s.st.getD j 0 = 2) := by
  obtain ⟨h1, h2, h3, h4, h5⟩ := SR.invE_zero he
  have hq : id.toNat < s.nt := by omega
  have ho := SR.inv_ok (val := 0) hr he
  obtain ⟨i1, i2, i3, i4, i5, i6, i7, i8, i9, i10, i11⟩ := SR.inv_same s id k 0 0
  have e : s.inv id k 0 0 = { s with st := s.st.set id.toNat 1, kd := s.kd.set id.toNat k, vl := s.vl.set id.toNat 0, un := s.un.set id.toNat (invU k 0), pc := s.pc.set id.toNat 0, rg := s.rg.set id.toNat 0, sn := s.sn.set id.toNat 0, tr := s.tr.set id.toNat 0, lt := s.lt.set id.toNat false, rs := s.rs.set id.toNat 0, gt := s.gt.set id.toNat 0 } := by
    unfold SR.inv
    rw [if_pos he]
  have ekd : (s.inv id k 0 0).kd.getD id.toNat 0 = k := by rw [e]; exact getD_set_self (by have := hr.kd; omega)
  have est : (s.inv id k 0 0).st.getD id.toNat 0 = 1 := by rw [e]; exact getD_set_self (by have := hr.st; omega)
  have epc : (s.inv id k 0 0).pc.getD id.toNat 0 = 0 := by rw [e]; exact getD_set_self (by have := hr.pc; omega)
  have hc : (s.inv id k 0 0).closer id = true := by
    unfold SR.closer SR.is
    rw [ho, ekd, est, i8]
    simp only [Bool.true_and, Bool.and_eq_true, decide_eq_true_eq]
    refine ⟨⟨h3, h4⟩, by decide, ?_⟩
    rcases hk with rfl | rfl <;> decide
  obtain ⟨q1, q2⟩ := SR.three (many := many) (SR.inv_rows hr id k 0 0) (by rw [i1]; exact hf) (by rw [i2]; exact hn) hc epc hm
  refine ⟨q1, q2, ekd, fun j hj => ?_⟩
  rw [e] at hj
  dsimp only at hj
  rw [getD_set] at hj
  split at hj
  · omega
  · exact hj

theorem newSR_rows {lg th po wt sp yi : Int} {sg : Bool} : (newSR lg th po wt sp yi sg).rows := by
  unfold newSR
  split
  · constructor <;> simp [stamps0, rI, rB]
  · unfold zeroSR
    constructor <;> rfl

end Go.Own
