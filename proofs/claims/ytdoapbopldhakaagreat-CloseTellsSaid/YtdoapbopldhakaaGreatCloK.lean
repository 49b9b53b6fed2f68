/- What may be stays so: plain laws of states. -/
import Derived.Test.YtdoapbopldhakaaGreatCloC
namespace Go.Own
open Go Go.Proofs
set_option maxRecDepth 100000
set_option linter.unusedVariables false
set_option linter.unusedSimpArgs false

/-- Whether the j-th thread may be. -/
def SR.thok (s : SR) (j : Nat) : Bool := thOk (s.st.getD j 0) (s.kd.getD j 0) (s.un.getD j 0) (s.pc.getD j 0) (s.rg.getD j 0) (s.sn.getD j 0) (s.tr.getD j 0) (s.lt.getD j false) (s.rs.getD j 0)

/-- All else that a state must be. -/
def SR.okA (s : SR) : Prop := roomOf s.lg s.th s.po s.wt s.sp s.yi ≠ 0 ∧ wordOk s.hd s.tl s.md (roomOf s.lg s.th s.po s.wt s.sp s.yi) = true ∧ (s.ns : Int) = roomOf s.lg s.th s.po s.wt s.sp s.yi ∧ slotsOk s.ns s.ss = true ∧ amOk s.th [s.l1, s.l2, s.l3, s.l4] = true ∧ evOk s.fe s.l3 = true ∧ evOk s.ee s.l4 = true ∧ (0 ≤ s.now ∧ s.now ≤ 1099511627776 ∧ (s.nt : Int) = s.th)

theorem thAt_iff {n : Nat} {st kd un pc rg sn tr : List Int} {lt : List Bool} {rs : List Int} : badThAt n st kd un pc rg sn tr lt rs 0 < 0 ↔ ∀ j, j < n → badTh st kd un pc rg sn tr lt rs j = false := by
  unfold badThAt
  rw [List.drop_zero]
  cases h : (List.range n).find? (badTh st kd un pc rg sn tr lt rs) with
  | none =>
    have := List.find?_eq_none.1 h
    simp only [List.mem_range, Bool.not_eq_true] at this
    simp only [Int.reduceNeg, Int.reduceLT, true_iff]
    exact this
  | some j =>
    simp only
    constructor
    · intro hlt; omega
    · intro hall
      have h1 := List.find?_some h
      have h2 := List.mem_of_find?_eq_some h
      rw [hall j (by simpa using h2)] at h1
      cases h1

theorem SR.ok_iff2 (s : SR) : s.ok = true ↔ s.okA ∧ ∀ j, j < s.nt → s.thok j = true := by
  rw [SR.ok_iff]
  unfold SR.okA
  constructor
  · rintro ⟨h1, h2, h3, h4, h5, h6, h7, h8, h9⟩
    refine ⟨⟨h1, h2, h3, h4, h5, h6, h7, h8⟩, fun j hj => ?_⟩
    have := thAt_iff.1 h9 j hj
    simpa [badTh, SR.thok] using this
  · rintro ⟨⟨h1, h2, h3, h4, h5, h6, h7, h8⟩, h9⟩
    refine ⟨h1, h2, h3, h4, h5, h6, h7, h8, thAt_iff.2 fun j hj => ?_⟩
    have := h9 j hj
    simpa [badTh, SR.thok] using this

theorem getD_set (l : List Int) (i j : Nat) (x : Int) : (l.set i x).getD j 0 = if i = j ∧ i < l.length then x else l.getD j 0 := by
  simp only [List.getD_eq_getElem?_getD, List.getElem?_set]
  by_cases h : i = j
  · subst h
    by_cases h2 : i < l.length
    · simp [h2]
    · simp [h2]
  · simp [h]

theorem getB_set (l : List Bool) (i j : Nat) (x : Bool) : (l.set i x).getD j false = if i = j ∧ i < l.length then x else l.getD j false := by
  simp only [List.getD_eq_getElem?_getD, List.getElem?_set]
  by_cases h : i = j
  · subst h
    by_cases h2 : i < l.length
    · simp [h2]
    · simp [h2]
  · simp [h]

theorem thOk_iff {st kd un pc rg sn tr : Int} {lt : Bool} {rs : Int} : thOk st kd un pc rg sn tr lt rs = true ↔ (0 ≤ st ∧ st ≤ 2) ∧ (0 ≤ rs ∧ rs ≤ 7) ∧ (0 < opSide kd ∨ (kd = 0 ∧ st = 0)) ∧ (0 ≤ un ∧ un ≤ 1099511627776) ∧ (opTimed kd = true ∨ (un = 0 ∧ lt = false)) ∧ (0 ≤ pc ∧ pc ≤ 11 ∧ 0 ≤ tr ∧ tr ≤ 1099511627776 ∧ 0 ≤ rg ∧ rg ≤ 1099511627776 ∧ -1 ≤ sn ∧ sn ≤ 1099511627776) ∧ (st ≠ 0 ∨ ((pc = 0 ∧ rg = 0 ∧ sn = 0 ∧ tr = 0) ∧ lt = false)) := by
  unfold thOk
  simp only [Bool.and_eq_true, Bool.or_eq_true, decide_eq_true_eq, Bool.not_eq_true']
  constructor
  · rintro ⟨⟨⟨⟨⟨h1, h2⟩, h3⟩, h4, h5⟩, h6⟩, h7⟩
    exact ⟨h1, h2, h3, h4, h5, h6, h7⟩
  · rintro ⟨h1, h2, h3, h4, h5, h6, h7⟩
    exact ⟨⟨⟨⟨⟨h1, h2⟩, h3⟩, h4, h5⟩, h6⟩, h7⟩

theorem SR.wake_okA {s : SR} (x : Int) : (s.wake x).okA ↔ s.okA := by
  unfold SR.wake
  split <;> exact Iff.rfl

theorem SR.wake_ok {s : SR} (h : s.ok = true) (x : Int) : (s.wake x).ok = true := by
  obtain ⟨h1, h2⟩ := (SR.ok_iff2 s).1 h
  refine (SR.ok_iff2 _).2 ⟨(SR.wake_okA x).2 h1, fun j hj => ?_⟩
  rw [SR.wake_nt] at hj
  have hj2 := h2 j hj
  unfold SR.wake
  split
  · unfold SR.thok at hj2 ⊢
    dsimp only
    rw [getD_set]
    split
    · rename_i he
      rw [he.1]
      unfold wakeSt
      split
      · rename_i h3
        rw [h3] at hj2
        rw [thOk_iff] at hj2 ⊢
        obtain ⟨a1, a2, a3, a4, a5, a6, a7⟩ := hj2
        exact ⟨by omega, a2, by omega, a4, a5, a6, .inl (by omega)⟩
      · exact hj2
    · exact hj2
  · exact hj2

theorem SR.wakes_ok (l : List Int) (i : Nat) {s : SR} (h : s.ok = true) : (s.wakes l i).ok = true := by
  unfold SR.wakes
  generalize l.drop i = m
  induction m generalizing s with
  | nil => exact h
  | cons x m ih => exact ih (SR.wake_ok h x)

theorem SR.tell_ok {s : SR} (h : s.ok = true) (a b c d : Int) (hc : 0 ≤ c ∧ c ≤ 7) : (s.tell a b c d).ok = true := by
  unfold SR.tell
  split
  · obtain ⟨h1, h2⟩ := (SR.ok_iff2 s).1 h
    refine (SR.ok_iff2 _).2 ⟨h1, fun j hj => ?_⟩
    have hj2 := h2 j hj
    unfold SR.thok at hj2 ⊢
    dsimp only
    by_cases hb : b = 9
    · rw [if_pos hb]
      exact hj2
    · rw [if_neg hb, getD_set]
      split
      · rw [thOk_iff] at hj2 ⊢
        exact ⟨hj2.1, hc, hj2.2.2⟩
      · exact hj2
  · exact h

theorem lineOk_nil0 : lineOk [] = true := by decide +kernel

theorem evOk_all {e : Int} {l : List Int} (h : evOk e l = true) : evOk (comeE e l) (allL e l) = true := by
  unfold comeE allL
  rw [if_pos h, if_pos h]
  unfold evOk at h ⊢
  simp only [Bool.and_eq_true, decide_eq_true_eq] at h ⊢
  refine ⟨?_, lineOk_nil0⟩
  have h0 := h.1
  simp only [imin_e]
  omega

theorem SR.ring_ok {s : SR} (h : s.ok = true) : ({ s with fe := comeE s.fe s.l3, n3 := (allL s.fe s.l3).length, l3 := allL s.fe s.l3 } : SR).ok = true := by
  obtain ⟨⟨q1, q2, q3, q4, q5, q6, q7, q8⟩, h2⟩ := (SR.ok_iff2 s).1 h
  refine (SR.ok_iff2 _).2 ⟨⟨q1, q2, q3, q4, ?_, evOk_all q6, q7, q8⟩, h2⟩
  show amOk s.th [s.l1, s.l2, allL s.fe s.l3, s.l4] = true
  unfold allL
  rw [if_pos q6]
  simp only [amOk, List.all_cons, List.all_nil, Bool.and_eq_true, Bool.and_true] at q5 ⊢
  exact ⟨q5.1, q5.2.1, ⟨lineOk_nil0, by simp [amBadAt]⟩, q5.2.2.2⟩

theorem SR.bell_ok {s : SR} (h : s.ok = true) : s.bell.ok = true := SR.wakes_ok _ _ (SR.ring_ok h)

theorem SR.ring2_ok {s : SR} (h : s.ok = true) : ({ s with ee := comeE s.ee s.l4, n4 := (allL s.ee s.l4).length, l4 := allL s.ee s.l4 } : SR).ok = true := by
  obtain ⟨⟨q1, q2, q3, q4, q5, q6, q7, q8⟩, h2⟩ := (SR.ok_iff2 s).1 h
  refine (SR.ok_iff2 _).2 ⟨⟨q1, q2, q3, q4, ?_, q6, evOk_all q7, q8⟩, h2⟩
  show amOk s.th [s.l1, s.l2, s.l3, allL s.ee s.l4] = true
  unfold allL
  rw [if_pos q7]
  simp only [amOk, List.all_cons, List.all_nil, Bool.and_eq_true, Bool.and_true] at q5 ⊢
  exact ⟨q5.1, q5.2.1, q5.2.2.1, ⟨lineOk_nil0, by simp [amBadAt]⟩⟩

theorem SR.bell2_ok {s : SR} (h : s.ok = true) : s.bell2.ok = true := SR.wakes_ok _ _ (SR.ring2_ok h)

theorem SR.pc_ok {s : SR} (h : s.ok = true) (i : Nat) (p : Int) (hp : 0 ≤ p ∧ p ≤ 11) (hst : s.st.getD i 0 ≠ 0) : ({ s with pc := s.pc.set i p } : SR).ok = true := by
  obtain ⟨h1, h2⟩ := (SR.ok_iff2 s).1 h
  refine (SR.ok_iff2 _).2 ⟨h1, fun j hj => ?_⟩
  have hj2 := h2 j hj
  unfold SR.thok at hj2 ⊢
  dsimp only
  rw [getD_set]
  split
  · rename_i he
    rw [he.1] at hst
    rw [thOk_iff] at hj2 ⊢
    obtain ⟨a1, a2, a3, a4, a5, a6, a7⟩ := hj2
    exact ⟨a1, a2, a3, a4, a5, by omega, .inl hst⟩
  · exact hj2

theorem SR.done_ok {s : SR} (h : s.ok = true) (hr : s.rows) (id : Int) : (s.done id).ok = true := by
  obtain ⟨h1, h2⟩ := (SR.ok_iff2 s).1 h
  refine (SR.ok_iff2 _).2 ⟨h1, fun j hj => ?_⟩
  have hj' : j < s.nt := hj
  have hj2 := h2 j hj
  unfold SR.thok at hj2 ⊢
  unfold SR.done
  dsimp only
  simp only [getD_set, getB_set, hr.st, hr.pc, hr.rg, hr.sn, hr.tr, hr.lt]
  by_cases he : id.toNat = j ∧ id.toNat < s.nt
  · rw [if_pos he, if_pos he, if_pos he, if_pos he, if_pos he, if_pos he, he.1]
    by_cases hz : thRuns (s.st.getD j 0) = 0
    · simp only [invI, invB, hz, if_true]
      rw [thOk_iff] at hj2 ⊢
      obtain ⟨a1, a2, a3, a4, a5, a6, a7⟩ := hj2
      have hst : s.st.getD j 0 ≠ 0 := by
        intro e; rw [e] at hz; simp [thRuns] at hz
      refine ⟨by omega, a2, by omega, a4, ?_, by omega, .inr ⟨⟨rfl, rfl, rfl, rfl⟩, rfl⟩⟩
      rcases a5 with a5 | a5
      · exact .inl a5
      · exact .inr ⟨a5.1, rfl⟩
    · simp only [invI, invB, hz, if_false]
      exact hj2
  · rw [if_neg he, if_neg he, if_neg he, if_neg he, if_neg he, if_neg he]
    exact hj2

theorem wordOk_md {hd tl md md' room : Int} (h : wordOk hd tl md room = true) (hm : 0 ≤ md' ∧ md' ≤ 2) : wordOk hd tl md' room = true := by
  simp only [wordOk, decide_eq_true_eq] at h ⊢
  obtain ⟨a1, a2, a3, a4, _⟩ := h
  exact ⟨a1, a2, a3, a4, hm⟩

theorem wordOk_in {hd tl md room : Int} (h : wordOk hd tl md room = true) : 0 ≤ md ∧ md ≤ 2 := by
  simp only [wordOk, decide_eq_true_eq] at h
  exact h.2.2.2.2

theorem closeM_in {md k : Int} (h : 0 ≤ md ∧ md ≤ 2) : 0 ≤ closeM md (cmode k) ∧ closeM md (cmode k) ≤ 2 := by
  unfold closeM cmode
  simp only [imax_e]
  repeat' split
  all_goals omega

theorem SR.md_ok {s : SR} (h : s.ok = true) (k : Int) : ({ s with md := closeM s.md (cmode k) } : SR).ok = true := by
  obtain ⟨⟨q1, q2, q3⟩, h2⟩ := (SR.ok_iff2 s).1 h
  exact (SR.ok_iff2 _).2 ⟨⟨q1, wordOk_md q2 (closeM_in (wordOk_in q2)), q3⟩, h2⟩

theorem SR.tell_st (s : SR) (a b c d : Int) : (s.tell a b c d).st = s.st := by
  unfold SR.tell
  split <;> rfl

theorem SR.step_ok {s : SR} (h : s.ok = true) (hr : s.rows) (id : Int) : (s.step id).ok = true := by
  unfold SR.step
  split
  · rename_i hc
    obtain ⟨h1, h2, h3, h4, h5⟩ := SR.closer_is hc
    have hn : s.st.getD id.toNat 0 ≠ 0 ∧ s.st.getD id.toNat 0 ≠ 2 := by
      unfold thRuns at h4
      constructor
      · intro e; rw [if_pos e] at h4; omega
      · intro e; rw [if_neg (by omega), if_pos e] at h4; omega
    split
    · refine SR.pc_ok (SR.tell_ok (SR.md_ok h _) _ _ _ _ (by omega)) _ _ (by omega) ?_
      rw [SR.tell_st]
      exact hn.1
    · split
      · refine SR.pc_ok (SR.bell_ok h) _ _ (by omega) ?_
        have : s.bell.st.getD id.toNat 0 = s.st.getD id.toNat 0 := SR.wakes_st _ _ _ _ hn.2
        rw [this]
        exact hn.1
      · exact SR.done_ok (SR.bell2_ok h) (SR.bell2_rows hr) id
  · exact h

theorem SR.step_not {s : SR} (h : s.ok = false) (id : Int) : s.step id = s := by
  unfold SR.step
  rw [if_neg]
  intro hc
  rw [(SR.closer_is hc).1] at h
  cases h

theorem SR.invE_zero {s : SR} {id kind ut : Int} (h : s.invE id kind ut = 0) : s.ok = true ∧ mayE s.th s.sg id kind = 0 ∧ 0 ≤ id ∧ id < s.nt ∧ Go.Own.invE (s.st.getD id.toNat 0) kind ut = 0 := by
  unfold SR.invE at h
  split at h
  · rename_i h1
    split at h
    · rename_i h2
      obtain ⟨q1, q2⟩ := mayE_is h2
      have := SR.ok_nt h1
      exact ⟨h1, h2, q1, by omega, h⟩
    · rename_i h2; exact absurd h h2
  · omega

theorem thInvE_zero {st kind ut : Int} (h : Go.Own.invE st kind ut = 0) : st = 0 ∧ opSide kind ≠ 0 ∧ (opTimed kind = true → 0 ≤ ut ∧ ut ≤ 1099511627776) := by
  unfold Go.Own.invE at h
  split at h
  · omega
  · rename_i h1
    split at h
    · omega
    · rename_i h2
      split at h
      · omega
      · rename_i h3
        refine ⟨by omega, h2, fun h4 => ?_⟩
        rw [h4] at h3
        simpa using h3

theorem opSide_nn (k : Int) : 0 ≤ opSide k := by unfold opSide; repeat' split <;> omega

theorem SR.inv_ok {s : SR} {id kind val ut : Int} (hr : s.rows) (h : s.invE id kind ut = 0) : (s.inv id kind val ut).ok = true := by
  obtain ⟨h1, h2, h3, h4, h5⟩ := SR.invE_zero h
  obtain ⟨k1, k2, k3⟩ := thInvE_zero h5
  have k4 := opSide_nn kind
  unfold SR.inv
  rw [if_pos h]
  obtain ⟨g1, g2⟩ := (SR.ok_iff2 s).1 h1
  refine (SR.ok_iff2 _).2 ⟨g1, fun j hj => ?_⟩
  have hj' : j < s.nt := hj
  have hj2 := g2 j hj
  unfold SR.thok at hj2 ⊢
  dsimp only
  simp only [getD_set, getB_set, hr.st, hr.kd, hr.un, hr.pc, hr.rg, hr.sn, hr.tr, hr.lt, hr.rs]
  by_cases he : id.toNat = j ∧ id.toNat < s.nt
  · rw [if_pos he, if_pos he, if_pos he, if_pos he, if_pos he, if_pos he, if_pos he, if_pos he, if_pos he]
    rw [thOk_iff]
    unfold invU
    cases hk : opTimed kind with
    | true =>
      have := k3 hk
      rw [if_pos rfl]
      exact ⟨by omega, by omega, by omega, by omega, .inl rfl, by omega, .inl (by omega)⟩
    | false =>
      rw [if_neg (by simp)]
      exact ⟨by omega, by omega, by omega, by omega, .inr ⟨rfl, rfl⟩, by omega, .inl (by omega)⟩
  · rw [if_neg he, if_neg he, if_neg he, if_neg he, if_neg he, if_neg he, if_neg he, if_neg he, if_neg he]
    exact hj2

theorem SR.stepsN_all (id lim : Int) (k : Nat) : ∀ (f : Nat) (s : SR) (n : Int), s.rows → s.fit = true → s.nl + (f + k) ≤ 1000000 →
    (SR.stepsN f s id lim n).1.rows ∧ (SR.stepsN f s id lim n).1.fit = true ∧ ((SR.stepsN f s id lim n).1.ok = s.ok) ∧ (s.ok = false → (SR.stepsN f s id lim n).1 = s) ∧ n ≤ (SR.stepsN f s id lim n).2 ∧ (SR.stepsN f s id lim n).2 ≤ n + f ∧ ((SR.stepsN f s id lim n).2 ≤ lim ∨ (SR.stepsN f s id lim n).2 = n) ∧ (SR.stepsN f s id lim n).1.nl + k ≤ 1000000
  | 0, s, n, h1, h2, h3 => by
    unfold SR.stepsN
    exact ⟨h1, h2, rfl, fun _ => rfl, Int.le_refl _, by simp, .inr rfl, by show s.nl + k ≤ 1000000; omega⟩
  | f + 1, s, n, h1, h2, h3 => by
    unfold SR.stepsN
    split
    · rename_i hc
      obtain ⟨g1, g2⟩ := SR.step_fit (k := f + k) h1 h2 (by omega) id
      have gr := SR.step_rows h1 id
      obtain ⟨a1, a2, a3, a4, a5, a6, a7, a8⟩ := SR.stepsN_all id lim k f (s.step id) (n + 1) gr g1 g2
      have ho := (SR.closer_is hc.2).1
      have ho2 := SR.step_ok ho h1 id
      refine ⟨a1, a2, (by rw [a3, ho, ho2]), (fun h => by rw [ho] at h; cases h), (by omega), (by omega), ?_, a8⟩
      rcases a7 with a7 | a7
      · exact .inl a7
      · exact .inl (by omega)
    · exact ⟨h1, h2, rfl, fun _ => rfl, Int.le_refl _, (by show n ≤ n + ((f + 1 : Nat) : Int); omega), .inr rfl, (by show s.nl + k ≤ 1000000; omega)⟩

end Go.Own
