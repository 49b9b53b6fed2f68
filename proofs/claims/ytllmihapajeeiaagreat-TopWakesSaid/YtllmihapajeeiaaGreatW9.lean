/- What stands behind it, part 9. -/
import Derived.Test.YtllmihapajeeiaaGreatW8
set_option linter.unusedVariables false
set_option linter.unusedSimpArgs false
section
namespace Go.Own
open Go Go.Proofs
set_option maxRecDepth 100000
def SR.thok (s : SR) (j : Nat) : Bool := thOk (s.st.getD j 0) (s.kd.getD j 0) (s.un.getD j 0) (s.pc.getD j 0) (s.rg.getD j 0) (s.sn.getD j 0) (s.tr.getD j 0) (s.lt.getD j false) (s.rs.getD j 0)
def SR.okA (s : SR) : Prop := roomOf s.lg s.th s.po s.wt s.sp s.yi ≠ 0 ∧ wordOk s.hd s.tl s.md (roomOf s.lg s.th s.po s.wt s.sp s.yi) = true ∧ (s.ns : Int) = roomOf s.lg s.th s.po s.wt s.sp s.yi ∧ slotsOk s.ns s.ss = true ∧ amOk s.th [s.l1, s.l2, s.l3, s.l4] = true ∧ evOk s.fe s.l3 = true ∧ evOk s.ee s.l4 = true ∧ (0 ≤ s.now ∧ s.now ≤ 1099511627776 ∧ (s.nt : Int) = s.th)
theorem thAt_iff {n : Nat} {st kd un pc rg sn tr : List Int} {lt : List Bool} {rs : List Int} : badThAt n st kd un pc rg sn tr lt rs 0 < 0 ↔ ∀ j, j < n → badTh st kd un pc rg sn tr lt rs j = false := by
 unfold badThAt
 rw [List.drop_zero]
 cases h : (List.range n).find? (badTh st kd un pc rg sn tr lt rs) with
 | none =>
  have := List.find?_eq_none.1 h
  simp only [List.mem_range, Bool.not_eq_true] at this
  simp only [Int.reduceNeg, Int.reduceLT, true_iff]
  exact this
 | some j =>
  simp only
  constructor
  ·intro hlt; omega
  ·intro hall
   have h1 := List.find?_some h
   have h2 := List.mem_of_find?_eq_some h
   rw [hall j (by simpa using h2)] at h1
   cases h1
theorem SR.ok_iff2 (s : SR) : s.ok = true ↔ s.okA ∧ ∀ j, j < s.nt → s.thok j = true := by
 rw [SR.ok_iff]
 unfold SR.okA
 constructor
 ·rintro ⟨h1, h2, h3, h4, h5, h6, h7, h8, h9⟩
  refine ⟨⟨h1, h2, h3, h4, h5, h6, h7, h8⟩, fun j hj => ?_⟩
  have := thAt_iff.1 h9 j hj
  simpa [badTh, SR.thok] using this
 ·rintro ⟨⟨h1, h2, h3, h4, h5, h6, h7, h8⟩, h9⟩
  refine ⟨h1, h2, h3, h4, h5, h6, h7, h8, thAt_iff.2 fun j hj => ?_⟩
  have := h9 j hj
  simpa [badTh, SR.thok] using this
theorem getD_set (l : List Int) (i j : Nat) (x : Int) : (l.set i x).getD j 0 = if i = j ∧ i < l.length then x else l.getD j 0 := by
 simp only [List.getD_eq_getElem?_getD, List.getElem?_set]
 by_cases h : i = j
 ·subst h
  by_cases h2 : i < l.length
  ·simp [h2]
  ·simp [h2]
 ·simp [h]
theorem getB_set (l : List Bool) (i j : Nat) (x : Bool) : (l.set i x).getD j false = if i = j ∧ i < l.length then x else l.getD j false := by
 simp only [List.getD_eq_getElem?_getD, List.getElem?_set]
 by_cases h : i = j
 ·subst h
  by_cases h2 : i < l.length
  ·simp [h2]
  ·simp [h2]
 ·simp [h]
theorem thOk_iff {st kd un pc rg sn tr : Int} {lt : Bool} {rs : Int} : thOk st kd un pc rg sn tr lt rs = true ↔ (0 ≤ st ∧ st ≤ 2) ∧ (0 ≤ rs ∧ rs ≤ 7) ∧ (0 < opSide kd ∨ (kd = 0 ∧ st = 0)) ∧ (0 ≤ un ∧ un ≤ 1099511627776) ∧ (opTimed kd = true ∨ (un = 0 ∧ lt = false)) ∧ (0 ≤ pc ∧ pc ≤ 11 ∧ 0 ≤ tr ∧ tr ≤ 1099511627776 ∧ 0 ≤ rg ∧ rg ≤ 1099511627776 ∧ -1 ≤ sn ∧ sn ≤ 1099511627776) ∧ (st ≠ 0 ∨ ((pc = 0 ∧ rg = 0 ∧ sn = 0 ∧ tr = 0) ∧ lt = false)) := by
 unfold thOk
 simp only [Bool.and_eq_true, Bool.or_eq_true, decide_eq_true_eq, Bool.not_eq_true']
 constructor
 ·rintro ⟨⟨⟨⟨⟨h1, h2⟩, h3⟩, h4, h5⟩, h6⟩, h7⟩
  exact ⟨h1, h2, h3, h4, h5, h6, h7⟩
 ·rintro ⟨h1, h2, h3, h4, h5, h6, h7⟩
  exact ⟨⟨⟨⟨⟨h1, h2⟩, h3⟩, h4, h5⟩, h6⟩, h7⟩
theorem SR.wake_okA {s : SR} (x : Int) : (s.wake x).okA ↔ s.okA := by
 unfold SR.wake
 split <;> exact Iff.rfl
theorem SR.wake_ok {s : SR} (h : s.ok = true) (x : Int) : (s.wake x).ok = true := by
 obtain ⟨h1, h2⟩ := (SR.ok_iff2 s).1 h
 refine (SR.ok_iff2 _).2 ⟨(SR.wake_okA x).2 h1, fun j hj => ?_⟩
 rw [SR.wake_nt] at hj
 have hj2 := h2 j hj
 unfold SR.wake
 split
 ·unfold SR.thok at hj2 ⊢
  dsimp only
  rw [getD_set]
  split
  ·rename_i he
   rw [he.1]
   unfold wakeSt
   split
   ·rename_i h3
    rw [h3] at hj2
    rw [thOk_iff] at hj2 ⊢
    obtain ⟨a1, a2, a3, a4, a5, a6, a7⟩ := hj2
    exact ⟨by omega, a2, by omega, a4, a5, a6, .inl (by omega)⟩
   ·exact hj2
  ·exact hj2
 ·exact hj2
theorem SR.wakes_ok (l : List Int) (i : Nat) {s : SR} (h : s.ok = true) : (s.wakes l i).ok = true := by
 unfold SR.wakes
 generalize l.drop i = m
 induction m generalizing s with
 | nil => exact h
 | cons x m ih => exact ih (SR.wake_ok h x)
theorem SR.tell_ok {s : SR} (h : s.ok = true) (a b c d : Int) (hc : 0 ≤ c ∧ c ≤ 7) : (s.tell a b c d).ok = true := by
 unfold SR.tell
 split
 ·obtain ⟨h1, h2⟩ := (SR.ok_iff2 s).1 h
  refine (SR.ok_iff2 _).2 ⟨h1, fun j hj => ?_⟩
  have hj2 := h2 j hj
  unfold SR.thok at hj2 ⊢
  dsimp only
  by_cases hb : b = 9
  ·rw [if_pos hb]
   exact hj2
  ·rw [if_neg hb, getD_set]
   split
   ·rw [thOk_iff] at hj2 ⊢
    exact ⟨hj2.1, hc, hj2.2.2⟩
   ·exact hj2
 ·exact h
theorem lineOk_nil0 : lineOk [] = true := by decide +kernel
theorem evOk_all {e : Int} {l : List Int} (h : evOk e l = true) : evOk (comeE e l) (allL e l) = true := by
 unfold comeE allL
 rw [if_pos h, if_pos h]
 unfold evOk at h ⊢
 simp only [Bool.and_eq_true, decide_eq_true_eq] at h ⊢
 refine ⟨?_, lineOk_nil0⟩
 have h0 := h.1
 simp only [imin_e]
 omega
theorem SR.ring_ok {s : SR} (h : s.ok = true) : ({ s with fe := comeE s.fe s.l3, n3 := (allL s.fe s.l3).length, l3 := allL s.fe s.l3 } : SR).ok = true := by
 obtain ⟨⟨q1, q2, q3, q4, q5, q6, q7, q8⟩, h2⟩ := (SR.ok_iff2 s).1 h
 refine (SR.ok_iff2 _).2 ⟨⟨q1, q2, q3, q4, ?_, evOk_all q6, q7, q8⟩, h2⟩
 show amOk s.th [s.l1, s.l2, allL s.fe s.l3, s.l4] = true
 unfold allL
 rw [if_pos q6]
 simp only [amOk, List.all_cons, List.all_nil, Bool.and_eq_true, Bool.and_true] at q5 ⊢
 exact ⟨q5.1, q5.2.1, ⟨lineOk_nil0, by simp [amBadAt]⟩, q5.2.2.2⟩
theorem SR.bell_ok {s : SR} (h : s.ok = true) : s.bell.ok = true := SR.wakes_ok _ _ (SR.ring_ok h)
theorem SR.ring2_ok {s : SR} (h : s.ok = true) : ({ s with ee := comeE s.ee s.l4, n4 := (allL s.ee s.l4).length, l4 := allL s.ee s.l4 } : SR).ok = true := by
 obtain ⟨⟨q1, q2, q3, q4, q5, q6, q7, q8⟩, h2⟩ := (SR.ok_iff2 s).1 h
 refine (SR.ok_iff2 _).2 ⟨⟨q1, q2, q3, q4, ?_, q6, evOk_all q7, q8⟩, h2⟩
 show amOk s.th [s.l1, s.l2, s.l3, allL s.ee s.l4] = true
 unfold allL
 rw [if_pos q7]
 simp only [amOk, List.all_cons, List.all_nil, Bool.and_eq_true, Bool.and_true] at q5 ⊢
 exact ⟨q5.1, q5.2.1, q5.2.2.1, ⟨lineOk_nil0, by simp [amBadAt]⟩⟩
theorem SR.bell2_ok {s : SR} (h : s.ok = true) : s.bell2.ok = true := SR.wakes_ok _ _ (SR.ring2_ok h)
theorem SR.pc_ok {s : SR} (h : s.ok = true) (i : Nat) (p : Int) (hp : 0 ≤ p ∧ p ≤ 11) (hst : s.st.getD i 0 ≠ 0) : ({ s with pc := s.pc.set i p } : SR).ok = true := by
 obtain ⟨h1, h2⟩ := (SR.ok_iff2 s).1 h
 refine (SR.ok_iff2 _).2 ⟨h1, fun j hj => ?_⟩
 have hj2 := h2 j hj
 unfold SR.thok at hj2 ⊢
 dsimp only
 rw [getD_set]
 split
 ·rename_i he
  rw [he.1] at hst
  rw [thOk_iff] at hj2 ⊢
  obtain ⟨a1, a2, a3, a4, a5, a6, a7⟩ := hj2
  exact ⟨a1, a2, a3, a4, a5, by omega, .inl hst⟩
 ·exact hj2
theorem SR.done_ok {s : SR} (h : s.ok = true) (hr : s.rows) (id : Int) : (s.done id).ok = true := by
 obtain ⟨h1, h2⟩ := (SR.ok_iff2 s).1 h
 refine (SR.ok_iff2 _).2 ⟨h1, fun j hj => ?_⟩
 have hj' : j < s.nt := hj
 have hj2 := h2 j hj
 unfold SR.thok at hj2 ⊢
 unfold SR.done
 dsimp only
 simp only [getD_set, getB_set, hr.st, hr.pc, hr.rg, hr.sn, hr.tr, hr.lt]
 by_cases he : id.toNat = j ∧ id.toNat < s.nt
 ·rw [if_pos he, if_pos he, if_pos he, if_pos he, if_pos he, if_pos he, he.1]
  by_cases hz : thRuns (s.st.getD j 0) = 0
  ·simp only [invI, invB, hz, if_true]
   rw [thOk_iff] at hj2 ⊢
   obtain ⟨a1, a2, a3, a4, a5, a6, a7⟩ := hj2
   have hst : s.st.getD j 0 ≠ 0 := by
    intro e; rw [e] at hz; simp [thRuns] at hz
   refine ⟨by omega, a2, by omega, a4, ?_, by omega, .inr ⟨⟨rfl, rfl, rfl, rfl⟩, rfl⟩⟩
   rcases a5 with a5 | a5
   ·exact .inl a5
   ·exact .inr ⟨a5.1, rfl⟩
  ·simp only [invI, invB, hz, if_false]
   exact hj2
 ·rw [if_neg he, if_neg he, if_neg he, if_neg he, if_neg he, if_neg he]
  exact hj2
theorem wordOk_md {hd tl md md' room : Int} (h : wordOk hd tl md room = true) (hm : 0 ≤ md' ∧ md' ≤ 2) : wordOk hd tl md' room = true := by
 simp only [wordOk, decide_eq_true_eq] at h ⊢
 obtain ⟨a1, a2, a3, a4, _⟩ := h
 exact ⟨a1, a2, a3, a4, hm⟩
theorem wordOk_in {hd tl md room : Int} (h : wordOk hd tl md room = true) : 0 ≤ md ∧ md ≤ 2 := by
 simp only [wordOk, decide_eq_true_eq] at h
 exact h.2.2.2.2
theorem closeM_in {md k : Int} (h : 0 ≤ md ∧ md ≤ 2) : 0 ≤ closeM md (cmode k) ∧ closeM md (cmode k) ≤ 2 := by
 unfold closeM cmode
 simp only [imax_e]
 repeat' split
 all_goals omega
theorem SR.md_ok {s : SR} (h : s.ok = true) (k : Int) : ({ s with md := closeM s.md (cmode k) } : SR).ok = true := by
 obtain ⟨⟨q1, q2, q3⟩, h2⟩ := (SR.ok_iff2 s).1 h
 exact (SR.ok_iff2 _).2 ⟨⟨q1, wordOk_md q2 (closeM_in (wordOk_in q2)), q3⟩, h2⟩
theorem SR.tell_st (s : SR) (a b c d : Int) : (s.tell a b c d).st = s.st := by
 unfold SR.tell
 split <;> rfl
theorem SR.step_ok {s : SR} (h : s.ok = true) (hr : s.rows) (id : Int) : (s.step id).ok = true := by
 unfold SR.step
 split
 ·rename_i hc
  obtain ⟨h1, h2, h3, h4, h5⟩ := SR.closer_is hc
  have hn : s.st.getD id.toNat 0 ≠ 0 ∧ s.st.getD id.toNat 0 ≠ 2 := by
   unfold thRuns at h4
   constructor
   ·intro e; rw [if_pos e] at h4; omega
   ·intro e; rw [if_neg (by omega), if_pos e] at h4; omega
  split
  ·refine SR.pc_ok (SR.tell_ok (SR.md_ok h _) _ _ _ _ (by omega)) _ _ (by omega) ?_
   rw [SR.tell_st]
   exact hn.1
  ·split
   ·refine SR.pc_ok (SR.bell_ok h) _ _ (by omega) ?_
    have : s.bell.st.getD id.toNat 0 = s.st.getD id.toNat 0 := SR.wakes_st _ _ _ _ hn.2
    rw [this]
    exact hn.1
   ·exact SR.done_ok (SR.bell2_ok h) (SR.bell2_rows hr) id
 ·exact h
theorem SR.invE_zero {s : SR} {id kind ut : Int} (h : s.invE id kind ut = 0) : s.ok = true ∧ mayE s.th s.sg id kind = 0 ∧ 0 ≤ id ∧ id < s.nt ∧ Go.Own.invE (s.st.getD id.toNat 0) kind ut = 0 := by
 unfold SR.invE at h
 split at h
 ·rename_i h1
  split at h
  ·rename_i h2
   obtain ⟨q1, q2⟩ := mayE_is h2
   have := SR.ok_nt h1
   exact ⟨h1, h2, q1, by omega, h⟩
  ·rename_i h2; exact absurd h h2
 ·omega
theorem thInvE_zero {st kind ut : Int} (h : Go.Own.invE st kind ut = 0) : st = 0 ∧ opSide kind ≠ 0 ∧ (opTimed kind = true → 0 ≤ ut ∧ ut ≤ 1099511627776) := by
 unfold Go.Own.invE at h
 split at h
 ·omega
 ·rename_i h1
  split at h
  ·omega
  ·rename_i h2
   split at h
   ·omega
   ·rename_i h3
    refine ⟨by omega, h2, fun h4 => ?_⟩
    rw [h4] at h3
    simpa using h3
theorem opSide_nn (k : Int) : 0 ≤ opSide k := by unfold opSide; repeat' split <;> omega
theorem SR.inv_ok {s : SR} {id kind val ut : Int} (hr : s.rows) (h : s.invE id kind ut = 0) : (s.inv id kind val ut).ok = true := by
 obtain ⟨h1, h2, h3, h4, h5⟩ := SR.invE_zero h
 obtain ⟨k1, k2, k3⟩ := thInvE_zero h5
 have k4 := opSide_nn kind
 unfold SR.inv
 rw [if_pos h]
 obtain ⟨g1, g2⟩ := (SR.ok_iff2 s).1 h1
 refine (SR.ok_iff2 _).2 ⟨g1, fun j hj => ?_⟩
 have hj' : j < s.nt := hj
 have hj2 := g2 j hj
 unfold SR.thok at hj2 ⊢
 dsimp only
 simp only [getD_set, getB_set, hr.st, hr.kd, hr.un, hr.pc, hr.rg, hr.sn, hr.tr, hr.lt, hr.rs]
 by_cases he : id.toNat = j ∧ id.toNat < s.nt
 ·rw [if_pos he, if_pos he, if_pos he, if_pos he, if_pos he, if_pos he, if_pos he, if_pos he, if_pos he]
  rw [thOk_iff]
  unfold invU
  cases hk : opTimed kind with
  | true =>
   have := k3 hk
   rw [if_pos rfl]
   exact ⟨by omega, by omega, by omega, by omega, .inl rfl, by omega, .inl (by omega)⟩
  | false =>
   rw [if_neg (by simp)]
   exact ⟨by omega, by omega, by omega, by omega, .inr ⟨rfl, rfl⟩, by omega, .inl (by omega)⟩
 ·rw [if_neg he, if_neg he, if_neg he, if_neg he, if_neg he, if_neg he, if_neg he, if_neg he, if_neg he]
  exact hj2
def haltB (hd tl md room : Int) : Bool := decide (md = 2) || !wordOk hd tl md room
def accR (hd tl md room : Int) : Int := if haltB hd tl md room then 7 else if md = 1 then 6 else if room ≤ wlen hd tl ∨ tl = 1099511627776 then 2 else 1
def accT (hd tl md room : Int) : Int := if accR hd tl md room = 1 then tl + 1 else tl
def accP (hd tl md room : Int) : Int := if accR hd tl md room = 1 then tl else 0
def takR (hd tl md room : Int) : Int := if haltB hd tl md room then 7 else if 0 < wlen hd tl then 1 else if md = 1 then 6 else 4
def takH (hd tl md room : Int) : Int := if takR hd tl md room = 1 then hd + 1 else hd
def takP (hd tl md room : Int) : Int := if takR hd tl md room = 1 then hd else 0
def evB (hd tl md room head : Int) : Bool := decide (hd = head ∧ md = 0 ∧ haltB hd tl md room = false ∧ room ≤ wlen hd tl ∧ wlen hd tl ≠ 0)
def evH (hd tl md room head : Int) : Int := if evB hd tl md room head then hd + 1 else hd
def readyB (n : Nat) (s : List Int) (p : Int) : Bool := decide (0 ≤ p ∧ slotsOk n s = true ∧ s.getD (placeOf p n).toNat 0 = p)
def wrV (n : Nat) (s v : List Int) (p x : Int) : List Int := if readyB n s p then v.set (placeOf p n).toNat x else v
def wrE (n : Nat) (s : List Int) (p : Int) (e : Int) : Int := if readyB n s p then 0 else if 0 ≤ p ∧ slotsOk n s = true then e else 40
def rdV (n : Nat) (s v : List Int) (p : Int) : Int := if readyB n s p then v.getD (placeOf p n).toNat 0 else 0
def relB (n : Nat) (s : List Int) (p : Int) : Bool := readyB n s p && decide (p ≤ 1099511627776)
def relS (n : Nat) (s : List Int) (p : Int) : List Int := if relB n s p then s.set (placeOf p n).toNat (s.getD (placeOf p n).toNat 0 + n) else s
def relE (n : Nat) (s : List Int) (p : Int) : Int := if relB n s p then 0 else 40
def phaseW (sp yi n : Int) : Int := if imax n 0 < sp then 0 else if imax n 0 < sp + yi then 1 else 2
def waitW (lg th po wt sp yi n : Int) : Int := if confE lg th po wt sp yi = 0 then (if wt = 0 then 0 else if wt = 1 then 1 else if wt = 2 then phaseW sp yi n else 2) else 0
theorem halt_in {hd tl md room : Int} (h : haltB hd tl md room = false) : 0 ≤ hd ∧ hd ≤ tl ∧ tl ≤ 1099511627776 := by
 unfold haltB at h
 rw [Bool.or_eq_false_iff, Bool.not_eq_false'] at h
 have := h.2
 unfold wordOk at this
 rw [decide_eq_true_eq] at this
 exact ⟨this.2.2.1, this.1, this.2.1⟩
theorem slots_n {n : Nat} {s : List Int} (h : slotsOk n s = true) : 1 ≤ n ∧ n ≤ 64 := by
 unfold slotsOk at h
 rw [Bool.and_eq_true, decide_eq_true_eq] at h
 exact h.2
theorem place_in {n : Nat} {p : Int} (h : 1 ≤ n) : 0 ≤ placeOf p n ∧ placeOf p n < n := by
 unfold placeOf
 split
 ·exact ⟨Int.emod_nonneg _ (by omega), Int.emod_lt_of_pos _ (by omega)⟩
 ·omega
theorem all_list (l : List Int) : ovr (rI l.length) 0 (pt l 0 (nMin l.length l.length)) = l := by
 simp [ovr, pt, nMin, rI]
theorem bad_slots {p : Int} {b : Bool} : bite (ilt p 0) true (bnot b) = !decide (0 ≤ p ∧ b = true) := by
 by_cases c : p < 0
 ·have : ilt p 0 = true := by rw [ilt_t]; exact c
  rw [this]
  have : ¬ (0 ≤ p ∧ b = true) := by omega
  rw [decide_eq_false this]
  rfl
 ·have : ilt p 0 = false := by rw [ilt_f]; omega
  rw [this]
  cases b <;> simp [bite, bnot] <;> omega
theorem ready_no {n : Nat} {s : List Int} {p : Int} (h : ¬ (0 ≤ p ∧ slotsOk n s = true)) : readyB n s p = false := by
 unfold readyB
 exact decide_eq_false fun hh => h ⟨hh.1, hh.2.1⟩
theorem conf_wt {lg th po wt sp yi : Int} (h : confE lg th po wt sp yi = 0) : 0 ≤ wt ∧ wt ≤ 3 ∧ 0 ≤ sp ∧ sp ≤ 8 ∧ 0 ≤ yi ∧ yi ≤ 8 := by
 unfold confE at h
 split at h
 ·split at * <;> omega
 ·omega
def tabW0 : List (FuncId × Pure1) := [(41, FposLen), (63, FposCheck), (42, FposPlace), (64, FslotChk), (21, Fconf), (75, FthRuns)]
theorem ok_tabW0 : ∀ p ∈ tabW0, PureOK Tryz.prog p.1 p.2 := by
 intro p hp
 simp only [tabW0, List.mem_cons, List.not_mem_nil, or_false] at hp
 rcases hp with rfl | rfl | rfl | rfl | rfl | rfl
 ·exact ok_posLen
 ·exact ok_posCheck
 ·exact ok_posPlace
 ·exact ok_slotChk
 ·exact ok_conf
 ·exact ok_thRuns
def Fhalted : Pure1 := fun
 | [.agg [.int .i64 hd, .int .i64 tl, .int .i64 md], .int .i64 room] => some (some (in64 hd tl), .bool (haltB hd tl md room))
 | _ => none
theorem vc_halted (hd tl md : Int) (room : Int) (r : AV) : VC Tryz.prog (tabS tabW0) noL false 100 [.agg [.int .i64 hd, .int .i64 tl, .int .i64 md], .int .i64 room] r = (
 asrt (bimp (bnot (ieq md 2)) (in64 hd tl)) (some (AV.bool (bite (ieq md 2) true (bnot (wordOk hd tl md room)))) = some r)) := by kernel_rfl
theorem ok_halted : PureOK Tryz.prog 100 Fhalted := by
 refine tab_plain mixed (l := tabW0) ok_tabW0 false (by kernel_rfl) fun xs b r h hb wf => ?_
 unfold Fhalted at h
 split at h
 ·rename_i hd tl md room
  cases h
  try rw [some_f] at hb
  try simp only [WFL, WF, List.mem_cons, List.not_mem_nil, or_false, forall_eq_or_imp, forall_eq, Col.len, and_true, true_and] at wf
  rw [vc_halted]
  cases h : ieq md 2 with
  | true =>
   have : md = 2 := by simpa [ieq] using h
   subst this
   simp [owl, haltB]
  | false =>
   have : md ≠ 2 := by simpa [ieq] using h
   simp [owl, haltB, hb, this]
   try rfl
 ·cases h
def FposFull : Pure1 := fun
 | [.agg [.int .i64 hd, .int .i64 tl, .int .i64 md], .int .i64 room] => some (some (in64 hd tl), .bool (ige (wlen hd tl) room))
 | _ => none
theorem vc_posFull (hd tl md : Int) (room : Int) (r : AV) : VC Tryz.prog (tabS tabW0) noL false 101 [.agg [.int .i64 hd, .int .i64 tl, .int .i64 md], .int .i64 room] r = (
asrt (in64 hd tl) (some (AV.bool (ige (wlen hd tl) room)) = some r)) := by kernel_rfl
theorem ok_posFull : PureOK Tryz.prog 101 FposFull := by
 refine tab_plain mixed (l := tabW0) ok_tabW0 false (by kernel_rfl) fun xs b r h hb wf => ?_
 unfold FposFull at h
 split at h
 ·rename_i hd tl md room
  cases h
  try rw [some_f] at hb
  try simp only [WFL, WF, List.mem_cons, List.not_mem_nil, or_false, forall_eq_or_imp, forall_eq, Col.len, and_true, true_and] at wf
  rw [vc_posFull]
  rw [hb]
  rfl
 ·cases h
def tabW1 : List (FuncId × Pure1) := [(100, Fhalted), (101, FposFull)] ++ tabW0
theorem ok_tabW1 : ∀ p ∈ tabW1, PureOK Tryz.prog p.1 p.2 := by
 intro p hp
 simp only [tabW1, List.mem_append, List.mem_cons, List.not_mem_nil, or_false] at hp
 rcases hp with (rfl | rfl) | hp
 ·exact ok_halted
 ·exact ok_posFull
 ·exact ok_tabW0 p hp
def Faccept : Pure1 := fun
 | [.agg [.int .i64 hd, .int .i64 tl, .int .i64 md], .int .i64 room] => some (some (in64 hd tl), .tup [.agg [.int .i64 hd, .int .i64 (accT hd tl md room), .int .i64 md], .int .i64 (accP hd tl md room), .int .i64 (accR hd tl md room)])
 | _ => none
theorem vc_accept (hd tl md : Int) (room : Int) (r : AV) : VC Tryz.prog (tabS tabW1) noL false 80 [.agg [.int .i64 hd, .int .i64 tl, .int .i64 md], .int .i64 room] r = (
 asrt (in64 hd tl) (br (haltB hd tl md room) (some (AV.tup [AV.agg [AV.int .i64 hd, AV.int .i64 tl, AV.int .i64 md], AV.int .i64 0, AV.int .i64 7]) = some r) (br (ieq md 1) (some
 (AV.tup [AV.agg [AV.int .i64 hd, AV.int .i64 tl, AV.int .i64 md], AV.int .i64 0, AV.int .i64 6]) = some r) (asrt (in64 hd tl) (br (bite (ige (wlen hd tl) room) true (ieq tl
 1099511627776)) (some (AV.tup [AV.agg [AV.int .i64 hd, AV.int .i64 tl, AV.int .i64 md], AV.int .i64 0, AV.int .i64 2]) = some r) (some (AV.tup [AV.agg [AV.int .i64 hd, AV.int .i64
 (iadd .i64 tl 1), AV.int .i64 md], AV.int .i64 tl, AV.int .i64 1]) = some r)))))) := by kernel_rfl
theorem ok_accept : PureOK Tryz.prog 80 Faccept := by
 refine tab_plain mixed (l := tabW1) ok_tabW1 false (by kernel_rfl) fun xs b r h hb wf => ?_
 unfold Faccept at h
 split at h
 ·rename_i hd tl md room
  cases h
  try rw [some_f] at hb
  try simp only [WFL, WF, List.mem_cons, List.not_mem_nil, or_false, forall_eq_or_imp, forall_eq, Col.len, and_true, true_and] at wf
  rw [vc_accept]
  rw [hb]
  unfold accT accP accR
  cases hh : haltB hd tl md room with
  | true => rfl
  | false =>
   have w := halt_in hh
   have hw : iadd .i64 tl 1 = tl + 1 := wr (by omega) (by omega)
   by_cases c1 : md = 1
   ·simp [owl, c1]
   ·by_cases c2 : room ≤ wlen hd tl ∨ tl = 1099511627776
    ·have e : bite (ige (wlen hd tl) room) true (ieq tl 1099511627776) = true := by
      simp only [bite_t, ige_t, ieq_t]
      refine ⟨fun _ => trivial, fun h => ?_⟩
      rw [ige_f] at h
      omega
     rw [e]
     simp [owl, c1, c2]
    ·have e : bite (ige (wlen hd tl) room) true (ieq tl 1099511627776) = false := by
      simp only [bite_f, ige_t, ige_f, ieq_f]
      exact ⟨fun h => absurd (Or.inl h) c2, fun _ h => c2 (Or.inr h)⟩
     rw [e, hw]
     simp [owl, c1, c2]
 ·cases h
def Fwtake : Pure1 := fun
 | [.agg [.int .i64 hd, .int .i64 tl, .int .i64 md], .int .i64 room] => some (some (in64 hd tl), .tup [.agg [.int .i64 (takH hd tl md room), .int .i64 tl, .int .i64 md], .int .i64 (takP hd tl md room), .int .i64 (takR hd tl md room)])
 | _ => none
theorem vc_wtake (hd tl md : Int) (room : Int) (r : AV) : VC Tryz.prog (tabS tabW1) noL false 81 [.agg [.int .i64 hd, .int .i64 tl, .int .i64 md], .int .i64 room] r = (
 asrt (in64 hd tl) (br (haltB hd tl md room) (some (AV.tup [AV.agg [AV.int .i64 hd, AV.int .i64 tl, AV.int .i64 md], AV.int .i64 0, AV.int .i64 7]) = some r) (asrt (in64 hd tl) (br
 (igt (wlen hd tl) 0) (some (AV.tup [AV.agg [AV.int .i64 (iadd .i64 hd 1), AV.int .i64 tl, AV.int .i64 md], AV.int .i64 hd, AV.int .i64 1]) = some r) (br (ieq md 1) (some (AV.tup
 [AV.agg [AV.int .i64 hd, AV.int .i64 tl, AV.int .i64 md], AV.int .i64 0, AV.int .i64 6]) = some r) (some (AV.tup [AV.agg [AV.int .i64 hd, AV.int .i64 tl, AV.int .i64 md], AV.int
 .i64 0, AV.int .i64 4]) = some r)))))) := by kernel_rfl
theorem ok_wtake : PureOK Tryz.prog 81 Fwtake := by
 refine tab_plain mixed (l := tabW1) ok_tabW1 false (by kernel_rfl) fun xs b r h hb wf => ?_
 unfold Fwtake at h
 split at h
 ·rename_i hd tl md room
  cases h
  try rw [some_f] at hb
  try simp only [WFL, WF, List.mem_cons, List.not_mem_nil, or_false, forall_eq_or_imp, forall_eq, Col.len, and_true, true_and] at wf
  rw [vc_wtake]
  rw [hb]
  unfold takH takP takR
  cases hh : haltB hd tl md room with
  | true => rfl
  | false =>
   have w := halt_in hh
   have hw : iadd .i64 hd 1 = hd + 1 := wr (by omega) (by omega)
   rw [hw]
   by_cases c1 : 0 < wlen hd tl
   ·simp [owl, c1]
   ·by_cases c2 : md = 1
    ·simp [owl, c1, c2]
    ·simp [owl, c1, c2]
 ·cases h
def Fwevict : Pure1 := fun
 | [.agg [.int .i64 hd, .int .i64 tl, .int .i64 md], .int .i64 room, .int .i64 head] => some (some (in64 hd tl), .tup [.agg [.int .i64 (evH hd tl md room head), .int .i64 tl, .int .i64 md], .bool (evB hd tl md room head)])
 | _ => none
theorem vc_wevict (hd tl md : Int) (room head : Int) (r : AV) : VC Tryz.prog (tabS tabW1) noL false 156 [.agg [.int .i64 hd, .int .i64 tl, .int .i64 md], .int .i64 room, .int .i64 head] r = (
 asrt (bimp (bnot (bnot (band (ieq hd head) (band (ieq tl tl) (band (ieq md 0) true))))) (in64 hd tl)) (asrt (bimp (bnot (bite (bnot (band (ieq hd head) (band (ieq tl tl) (band (ieq
 md 0) true)))) true (haltB hd tl md room))) (in64 hd tl)) (asrt (bimp (bnot (bite (bite (bnot (band (ieq hd head) (band (ieq tl tl) (band (ieq md 0) true)))) true (haltB hd tl md
 room)) true (bnot (ige (wlen hd tl) room)))) (in64 hd tl)) (br (bite (bite (bite (bnot (band (ieq hd head) (band (ieq tl tl) (band (ieq md 0) true)))) true (haltB hd tl md room))
 true (bnot (ige (wlen hd tl) room))) true (ieq (wlen hd tl) 0)) (some (AV.tup [AV.agg [AV.int .i64 hd, AV.int .i64 tl, AV.int .i64 md], AV.bool false]) = some r) (some (AV.tup
 [AV.agg [AV.int .i64 (iadd .i64 hd 1), AV.int .i64 tl, AV.int .i64 md], AV.bool true]) = some r))))) := by kernel_rfl
theorem ok_wevict : PureOK Tryz.prog 156 Fwevict := by
 refine tab_plain mixed (l := tabW1) ok_tabW1 false (by kernel_rfl) fun xs b r h hb wf => ?_
 unfold Fwevict at h
 split at h
 ·rename_i hd tl md room head
  cases h
  try rw [some_f] at hb
  try simp only [WFL, WF, List.mem_cons, List.not_mem_nil, or_false, forall_eq_or_imp, forall_eq, Col.len, and_true, true_and] at wf
  rw [vc_wevict]
  have e : bite (bite (bite (bnot (band (ieq hd head) (band (ieq tl tl) (band (ieq md 0) true)))) true (haltB hd tl md room)) true (bnot (ige (wlen hd tl) room))) true (ieq (wlen hd tl) 0) = !evB hd tl md room head := by
   unfold evB
   have e1 : ieq tl tl = true := by simp [ieq]
   rw [e1]
   cases haltB hd tl md room <;> by_cases c1 : hd = head <;> by_cases c2 : md = 0 <;> by_cases c3 : room ≤ wlen hd tl <;> by_cases c4 : wlen hd tl = 0 <;> (try simp [ieq, ige, bite, bnot, band, c1, c2, c3, c4]) <;> (try (cases hq : (wlen head tl == 0) <;> simp_all))
  rw [e, hb]
  have t : ∀ c, bimp c true = true := fun c => by cases c <;> rfl
  rw [t, t, t]
  unfold evH
  cases hv : evB hd tl md room head with
  | false => rfl
  | true =>
   have hv' := hv
   unfold evB at hv'
   rw [decide_eq_true_eq] at hv'
   have w := halt_in hv'.2.2.1
   have hw : iadd .i64 hd 1 = hd + 1 := wr (by omega) (by omega)
   rw [hw]
   rfl
 ·cases h
def tabW2 : List (FuncId × Pure1) := [(80, Faccept), (81, Fwtake)] ++ tabW1
theorem ok_tabW2 : ∀ p ∈ tabW2, PureOK Tryz.prog p.1 p.2 := by
 intro p hp
 simp only [tabW2, List.mem_append, List.mem_cons, List.not_mem_nil, or_false] at hp
 rcases hp with (rfl | rfl) | hp
 ·exact ok_accept
 ·exact ok_wtake
 ·exact ok_tabW1 p hp
def Fsees : Pure1 := fun
 | [.agg [.int .i64 hd, .int .i64 tl, .int .i64 md], .int .i64 room] => some (some (in64 hd tl), .tup [.int .i64 (accR hd tl md room), .int .i64 (takR hd tl md room)])
 | _ => none
theorem vc_sees (hd tl md : Int) (room : Int) (r : AV) : VC Tryz.prog (tabS tabW2) noL false 56 [.agg [.int .i64 hd, .int .i64 tl, .int .i64 md], .int .i64 room] r = (
 asrt (in64 hd tl) (asrt (in64 hd tl) (some (AV.tup [AV.int .i64 (accR hd tl md room), AV.int .i64 (takR hd tl md room)]) = some r))) := by kernel_rfl
theorem ok_sees : PureOK Tryz.prog 56 Fsees := by
 refine tab_plain mixed (l := tabW2) ok_tabW2 false (by kernel_rfl) fun xs b r h hb wf => ?_
 unfold Fsees at h
 split at h
 ·rename_i hd tl md room
  cases h
  try rw [some_f] at hb
  try simp only [WFL, WF, List.mem_cons, List.not_mem_nil, or_false, forall_eq_or_imp, forall_eq, Col.len, and_true, true_and] at wf
  rw [vc_sees]
  rw [hb]
  rfl
 ·cases h
def Fready : Pure1 := fun
 | [.sl n [.int .i64 s, .int .i64 v], .int .i64 p] => some (some (nle n 1000000), .bool (readyB n s p))
 | _ => none
theorem vc_ready (n : Nat) (s v : List Int) (p : Int) (r : AV) : VC Tryz.prog (tabS tabW0) noL false 204 [.sl n [.int .i64 s, .int .i64 v], .int .i64 p] r = (
 asrt (bimp (ige p 0) (nle n big)) (asrt (bimp (bite (ige p 0) (slotsOk n s) false) (band (ile 0 (placeOf p (ofN n))) (ilt (placeOf p (ofN n)) (ofN n)))) (some (AV.bool (bite (bite
 (ige p 0) (slotsOk n s) false) (ieq (gI s (nOf (placeOf p (ofN n)))) p) false)) = some r))) := by kernel_rfl
theorem ok_ready : PureOK Tryz.prog 204 Fready := by
 refine tab_plain mixed (l := tabW0) ok_tabW0 false (by kernel_rfl) fun xs b r h hb wf => ?_
 unfold Fready at h
 split at h
 ·rename_i n s v p
  cases h
  try rw [some_f] at hb
  try simp only [WFL, WF, List.mem_cons, List.not_mem_nil, or_false, forall_eq_or_imp, forall_eq, Col.len, and_true, true_and] at wf
  rw [vc_ready]
  rw [nle_t] at hb
  have q1 : nle n big = true := by rw [nle_t]; exact le_big (by omega)
  have e : bite (bite (ige p 0) (slotsOk n s) false) (ieq (gI s (nOf (placeOf p (ofN n)))) p) false = readyB n s p := by
   unfold readyB
   rw [Bool.eq_iff_iff]
   show _ ↔ decide (0 ≤ p ∧ slotsOk n s = true ∧ gI s (nOf (placeOf p (ofN n))) = p) = true
   by_cases c1 : 0 ≤ p <;> cases slotsOk n s <;> simp [bite, ige, ieq, c1]
  rw [e, q1]
  have t : ∀ c, bimp c true = true := fun c => by cases c <;> rfl
  rw [t]
  cases hs : slotsOk n s with
  | false =>
   have : bite (ige p 0) false false = false := by cases ige p 0 <;> rfl
   rw [this]
   rfl
  | true =>
   have hn := slots_n hs
   have := place_in (p := p) hn.1
   have q2 : band (ile 0 (placeOf p (ofN n))) (ilt (placeOf p (ofN n)) (ofN n)) = true := by rw [band_t, ile_t, ilt_t, ofN_e]; exact this
   rw [q2, t]
   rfl
 ·cases h
def tabW3 : List (FuncId × Pure1) := [(204, Fready)] ++ tabW0
theorem ok_tabW3 : ∀ p ∈ tabW3, PureOK Tryz.prog p.1 p.2 := by
 intro p hp
 simp only [tabW3, List.mem_append, List.mem_cons, List.not_mem_nil, or_false] at hp
 rcases hp with (rfl) | hp
 ·exact ok_ready
 ·exact ok_tabW0 p hp
def FslWrite : Pure1 := fun
 | [.sl n [.int .i64 s, .int .i64 v], .int .i64 p, .int .i64 x] => some (some (nle n 1000000), .tup [.own 88 n [.int .i64 s, .int .i64 (wrV n s v p x)], .int .i64 (wrE n s p 30)])
 | _ => none
def zq32 (n : Nat) (s : List Int) (v : List Int) : List Col :=
 [.int .i64 (ovr (rI (nOf (ofN n))) 0 (pt s 0 (nMin n (nOf (ofN n))))), .int .i64 (ovr (rI (nOf (ofN n))) 0 (pt v 0 (nMin n (nOf (ofN n)))))]
theorem vc_slWrite (n : Nat) (s v : List Int) (p x : Int) (r : AV) : VC Tryz.prog (tabS tabW3) noL true 149 [.sl n [.int .i64 s, .int .i64 v], .int .i64 p, .int .i64 x] r = (
 asrt (band (ile 0 (ofN n)) (band (ile (ofN n) 1073741824) (ieq (ofN n) (ofN n)))) (asrt (bimp (bnot (ilt p 0)) (nle n big)) (br (bite (ilt p 0) true (bnot (slotsOk n s))) (some
 (AV.tup [AV.own 88 (nOf (ofN n)) (zq32 n s v), AV.int .i64 40]) = some r) (asrt (nle n 1000000) (br (bnot (readyB n s p)) (some (AV.tup [AV.own 88 (nOf (ofN n)) (zq32 n s v), AV.int
 .i64 30]) = some r) (asrt (band (ile 0 (placeOf p (ofN n))) (ilt (placeOf p (ofN n)) (ofN (nOf (ofN n))))) (asrt (nlt (nOf (placeOf p (ofN n))) (nOf (ofN n))) (some (AV.tup [AV.own
 88 (nOf (ofN n)) [.int .i64 (ovr (rI (nOf (ofN n))) 0 (pt s 0 (nMin n (nOf (ofN n))))), .int .i64 (put (ovr (rI (nOf (ofN n))) 0 (pt v 0 (nMin n (nOf (ofN n))))) (nOf (placeOf p
 (ofN n))) x)], AV.int .i64 0]) = some r)))))))) := by kernel_rfl
theorem ok_slWrite : PureOK Tryz.prog 149 FslWrite := by
 refine tab_plain mixed (l := tabW3) ok_tabW3 true (by kernel_rfl) fun xs b r h hb wf => ?_
 unfold FslWrite at h
 split at h
 ·rename_i n s v p x
  cases h
  try rw [some_f] at hb
  try simp only [WFL, WF, List.mem_cons, List.not_mem_nil, or_false, forall_eq_or_imp, forall_eq, Col.len, and_true, true_and] at wf
  rw [vc_slWrite]
  dsimp only [zq32]
  obtain ⟨ws, wv⟩ := wf
  rw [nle_t] at hb
  have q1 : nle n big = true := by rw [nle_t]; exact le_big (by omega)
  have q2 : nle n 1000000 = true := by rw [nle_t]; omega
  have t : ∀ c, bimp c true = true := fun c => by cases c <;> rfl
  have q3 : band (ile 0 (ofN n)) (band (ile (ofN n) 1073741824) (ieq (ofN n) (ofN n))) = true := by simp only [band_t, ile_t, ieq_t, ofN_e, and_true]; omega
  have o1 : ovr (rI n) 0 (pt s 0 (nMin n n)) = s := by rw [← ws]; exact all_list s
  have o2 : ovr (rI n) 0 (pt v 0 (nMin n n)) = v := by rw [← wv]; exact all_list v
  have nn : nOf (ofN n) = n := nOf_n
  rw [nn, q1, q2, q3, t, o1, o2]
  unfold wrV wrE
  rw [bad_slots]
  by_cases c : 0 ≤ p ∧ slotsOk n s = true
  ·have hn := slots_n c.2
   have hp := place_in (p := p) hn.1
   have q4 : band (ile 0 (placeOf p (ofN n))) (ilt (placeOf p (ofN n)) (ofN n)) = true := by rw [band_t, ile_t, ilt_t, ofN_e]; exact hp
   have q5 : nlt (nOf (placeOf p (ofN n))) n = true := by rw [nlt_t, nOf_e, ofN_e]; omega
   rw [q4, q5, decide_eq_true c, if_pos c]
   cases readyB n s p <;> rfl
  ·rw [decide_eq_false c, ready_no c, if_neg c]
   rfl
 ·cases h
def FslRead : Pure1 := fun
 | [.sl n [.int .i64 s, .int .i64 v], .int .i64 p] => some (some (nle n 1000000), .tup [.int .i64 (rdV n s v p), .int .i64 (wrE n s p 40)])
 | _ => none
theorem vc_slRead (n : Nat) (s v : List Int) (p : Int) (r : AV) : VC Tryz.prog (tabS tabW3) noL false 168 [.sl n [.int .i64 s, .int .i64 v], .int .i64 p] r = (
 asrt (band (ile 0 (ofN n)) (band (ile (ofN n) 1073741824) (ieq (ofN n) (ofN n)))) (asrt (bimp (bnot (ilt p 0)) (nle n big)) (br (bite (ilt p 0) true (bnot (slotsOk n s))) (some
 (AV.tup [AV.int .i64 0, AV.int .i64 40]) = some r) (asrt (nle n 1000000) (br (bnot (readyB n s p)) (some (AV.tup [AV.int .i64 0, AV.int .i64 40]) = some r) (asrt (band (ile 0
 (placeOf p (ofN n))) (ilt (placeOf p (ofN n)) (ofN (nOf (ofN n))))) (asrt (nlt (nOf (placeOf p (ofN n))) (nOf (ofN n))) (some (AV.tup [AV.int .i64 (gI (ovr (rI (nOf (ofN n))) 0 (pt
 v 0 (nMin n (nOf (ofN n))))) (nOf (placeOf p (ofN n)))), AV.int .i64 0]) = some r)))))))) := by kernel_rfl
theorem ok_slRead : PureOK Tryz.prog 168 FslRead := by
 refine tab_plain mixed (l := tabW3) ok_tabW3 false (by kernel_rfl) fun xs b r h hb wf => ?_
 unfold FslRead at h
 split at h
 ·rename_i n s v p
  cases h
  try rw [some_f] at hb
  try simp only [WFL, WF, List.mem_cons, List.not_mem_nil, or_false, forall_eq_or_imp, forall_eq, Col.len, and_true, true_and] at wf
  rw [vc_slRead]
  obtain ⟨ws, wv⟩ := wf
  rw [nle_t] at hb
  have q1 : nle n big = true := by rw [nle_t]; exact le_big (by omega)
  have q2 : nle n 1000000 = true := by rw [nle_t]; omega
  have t : ∀ c, bimp c true = true := fun c => by cases c <;> rfl
  have q3 : band (ile 0 (ofN n)) (band (ile (ofN n) 1073741824) (ieq (ofN n) (ofN n))) = true := by simp only [band_t, ile_t, ieq_t, ofN_e, and_true]; omega
  have o2 : ovr (rI n) 0 (pt v 0 (nMin n n)) = v := by rw [← wv]; exact all_list v
  have nn : nOf (ofN n) = n := nOf_n
  rw [nn, q1, q2, q3, t, o2]
  unfold rdV wrE
  rw [bad_slots]
  by_cases c : 0 ≤ p ∧ slotsOk n s = true
  ·have hn := slots_n c.2
   have hp := place_in (p := p) hn.1
   have q4 : band (ile 0 (placeOf p (ofN n))) (ilt (placeOf p (ofN n)) (ofN n)) = true := by rw [band_t, ile_t, ilt_t, ofN_e]; exact hp
   have q5 : nlt (nOf (placeOf p (ofN n))) n = true := by rw [nlt_t, nOf_e, ofN_e]; omega
   rw [q4, q5, decide_eq_true c, if_pos c]
   cases readyB n s p <;> rfl
  ·rw [decide_eq_false c, ready_no c, if_neg c]
   rfl
 ·cases h
def FslRel : Pure1 := fun
 | [.sl n [.int .i64 s, .int .i64 v], .int .i64 p] => some (some (nle n 1000000), .tup [.own 88 n [.int .i64 (relS n s p), .int .i64 v], .int .i64 (relE n s p)])
 | _ => none
def zq33 (n : Nat) (s : List Int) (v : List Int) : List Col :=
 [.int .i64 (ovr (rI (nOf (ofN n))) 0 (pt s 0 (nMin n (nOf (ofN n))))), .int .i64 (ovr (rI (nOf (ofN n))) 0 (pt v 0 (nMin n (nOf (ofN n)))))]
def zq34 (n : Nat) (s : List Int) (v : List Int) : AV :=
 AV.tup [AV.own 88 (nOf (ofN n)) (zq33 n s v), AV.int .i64 (imax 0 40)]
theorem vc_slRel (n : Nat) (s v : List Int) (p : Int) (r : AV) : VC Tryz.prog (tabS tabW3) noL true 157 [.sl n [.int .i64 s, .int .i64 v], .int .i64 p] r = (
 asrt (band (ile 0 (ofN n)) (band (ile (ofN n) 1073741824) (ieq (ofN n) (ofN n)))) (asrt (bimp (bnot (ilt p 0)) (nle n big)) (br (bite (ilt p 0) true (bnot (slotsOk n s))) (some
 (zq34 n s v) = some r) (asrt (nle n 1000000) (br (bnot (readyB n s p)) (some (zq34 n s v) = some r) (asrt (band (ile 0 (placeOf p (ofN n))) (ilt (placeOf p (ofN n)) (ofN (nOf (ofN
 n))))) (br (igt p 1099511627776) (some (AV.tup [AV.own 88 (nOf (ofN n)) (zq33 n s v), AV.int .i64 (imax 40 0)]) = some r) (asrt (nlt (nOf (placeOf p (ofN n))) (nOf (ofN n))) (asrt
 (nlt (nOf (placeOf p (ofN n))) (nOf (ofN n))) (some (AV.tup [AV.own 88 (nOf (ofN n)) [.int .i64 (put (ovr (rI (nOf (ofN n))) 0 (pt s 0 (nMin n (nOf (ofN n))))) (nOf (placeOf p (ofN
 n))) (iadd .i64 (gI (ovr (rI (nOf (ofN n))) 0 (pt s 0 (nMin n (nOf (ofN n))))) (nOf (placeOf p (ofN n)))) (ofN n))), .int .i64 (ovr (rI (nOf (ofN n))) 0 (pt v 0 (nMin n (nOf (ofN
 n)))))], AV.int .i64 (imax 0 0)]) = some r)))))))))) := by kernel_rfl
theorem ok_slRel : PureOK Tryz.prog 157 FslRel := by
 refine tab_plain mixed (l := tabW3) ok_tabW3 true (by kernel_rfl) fun xs b r h hb wf => ?_
 unfold FslRel at h
 split at h
 ·rename_i n s v p
  cases h
  try rw [some_f] at hb
  try simp only [WFL, WF, List.mem_cons, List.not_mem_nil, or_false, forall_eq_or_imp, forall_eq, Col.len, and_true, true_and] at wf
  rw [vc_slRel]
  dsimp only [zq33, zq34]
  obtain ⟨ws, wv⟩ := wf
  rw [nle_t] at hb
  have q1 : nle n big = true := by rw [nle_t]; exact le_big (by omega)
  have q2 : nle n 1000000 = true := by rw [nle_t]; omega
  have t : ∀ c, bimp c true = true := fun c => by cases c <;> rfl
  have q3 : band (ile 0 (ofN n)) (band (ile (ofN n) 1073741824) (ieq (ofN n) (ofN n))) = true := by simp only [band_t, ile_t, ieq_t, ofN_e, and_true]; omega
  have o1 : ovr (rI n) 0 (pt s 0 (nMin n n)) = s := by rw [← ws]; exact all_list s
  have o2 : ovr (rI n) 0 (pt v 0 (nMin n n)) = v := by rw [← wv]; exact all_list v
  have nn : nOf (ofN n) = n := nOf_n
  rw [nn, q1, q2, q3, t, o1, o2]
  unfold relS relE relB
  rw [bad_slots]
  by_cases c : 0 ≤ p ∧ slotsOk n s = true
  ·have hn := slots_n c.2
   have hp := place_in (p := p) hn.1
   have q4 : band (ile 0 (placeOf p (ofN n))) (ilt (placeOf p (ofN n)) (ofN n)) = true := by rw [band_t, ile_t, ilt_t, ofN_e]; exact hp
   have q5 : nlt (nOf (placeOf p (ofN n))) n = true := by rw [nlt_t, nOf_e, ofN_e]; omega
   rw [q4, q5, decide_eq_true c]
   cases hr : readyB n s p with
   | false => rfl
   | true =>
    have hp2 : s.getD (placeOf p n).toNat 0 = p := by
     unfold readyB at hr
     rw [decide_eq_true_eq] at hr
     exact hr.2.2
    by_cases c3 : p ≤ 1099511627776
    ·have e1 : igt p 1099511627776 = false := by rw [igt_f]; exact c3
     have e2 : iadd .i64 (gI s (nOf (placeOf p (ofN n)))) (ofN n) = s.getD (placeOf p n).toNat 0 + n := by
      show iadd .i64 (s.getD (placeOf p n).toNat 0) (n : Int) = _
      rw [hp2]
      exact wr (by omega) (by omega)
     rw [e1, e2, decide_eq_true c3]
     rfl
    ·have e1 : igt p 1099511627776 = true := by rw [igt_t]; omega
     rw [e1, decide_eq_false c3]
     rfl
  ·rw [decide_eq_false c, ready_no c]
   rfl
 ·cases h
def Fwnext : Pure1 := fun
 | [.agg [.int .i64 lg, .int .i64 th, .int .i64 po, .int .i64 wt, .int .i64 sp, .int .i64 yi, .bool sg], .int .i64 n] => some (none, .int .i64 (waitW lg th po wt sp yi n))
 | _ => none
theorem vc_wnext (lg th po wt sp yi : Int) (sg : Bool) (n : Int) (r : AV) : VC Tryz.prog (tabS tabW0) noL false 187 [.agg [.int .i64 lg, .int .i64 th, .int .i64 po, .int .i64 wt, .int .i64 sp, .int .i64 yi, .bool sg], .int .i64 n] r = (
 br (ine (confE lg th po wt sp yi) 0) (some (AV.int .i64 0) = some r) (br (ieq wt 0) (some (AV.int .i64 0) = some r) (br (ieq wt 1) (some (AV.int .i64 1) = some r) (br (ieq wt 2) (br
 (ilt (imax n 0) sp) (some (AV.int .i64 0) = some r) (br (ilt (imax n 0) (iadd .i64 sp yi)) (some (AV.int .i64 1) = some r) (some (AV.int .i64 2) = some r))) (br (ieq wt 3) (some
 (AV.int .i64 2) = some r) False))))) := by kernel_rfl
theorem ok_wnext : PureOK Tryz.prog 187 Fwnext := by
 refine tab_plain mixed (l := tabW0) ok_tabW0 false (by kernel_rfl) fun xs b r h hb wf => ?_
 unfold Fwnext at h
 split at h
 ·rename_i lg th po wt sp yi sg n
  cases h
  try rw [some_f] at hb
  try simp only [WFL, WF, List.mem_cons, List.not_mem_nil, or_false, forall_eq_or_imp, forall_eq, Col.len, and_true, true_and] at wf
  rw [vc_wnext]
  unfold waitW phaseW
  by_cases c0 : confE lg th po wt sp yi = 0
  ·have hc := conf_wt c0
   have hw : iadd .i64 sp yi = sp + yi := wr (by omega) (by omega)
   rw [hw]
   have q : ine (confE lg th po wt sp yi) 0 = false := by rw [ine_f]; exact c0
   rw [q, if_pos c0]
   have hw4 : wt = 0 ∨ wt = 1 ∨ wt = 2 ∨ wt = 3 := by omega
   rcases hw4 with rfl | rfl | rfl | rfl
   ·rfl
   ·rfl
   ·by_cases c1 : imax n 0 < sp
    ·have e1 : ilt (imax n 0) sp = true := by rw [ilt_t]; exact c1
     rw [e1, if_pos c1]
     rfl
    ·have e1 : ilt (imax n 0) sp = false := by rw [ilt_f]; omega
     by_cases c2 : imax n 0 < sp + yi
     ·have e2 : ilt (imax n 0) (sp + yi) = true := by rw [ilt_t]; exact c2
      rw [e1, e2, if_neg c1, if_pos c2]
      rfl
     ·have e2 : ilt (imax n 0) (sp + yi) = false := by rw [ilt_f]; omega
      rw [e1, e2, if_neg c1, if_neg c2]
      rfl
   ·rfl
  ·have q : ine (confE lg th po wt sp yi) 0 = true := by rw [ine_t]; exact c0
   rw [q, if_neg c0]
   rfl
 ·cases h
def FthPark : Pure1 := fun
 | [.agg [.int .i64 st, .int .i64 kd, .int .i64 vl, .int .i64 un, .int .i64 pc, .int .i64 rg, .int .i64 sn, .int .i64 tr, .bool lt, .int .i64 rs, .int .i64 gt], .int .i64 q] => some (none, .tup [.agg [.int .i64 (invI (thRuns st) 2 st), .int .i64 kd, .int .i64 vl, .int .i64 un, .int .i64 (invI (thRuns st) q pc), .int .i64 rg, .int .i64 sn, .int .i64 (invI (thRuns st) 0 tr), .bool lt, .int .i64 rs, .int .i64 gt], .int .i64 (thRuns st)])
 | _ => none
theorem vc_thPark (st kd vl un pc rg sn tr : Int) (lt : Bool) (rs gt : Int) (q : Int) (r : AV) : VC Tryz.prog (tabS tabW0) noL false 154 [.agg [.int .i64 st, .int .i64 kd, .int .i64 vl, .int .i64 un, .int .i64 pc, .int .i64 rg, .int .i64 sn, .int .i64 tr, .bool lt, .int .i64 rs, .int .i64 gt], .int .i64 q] r = (
 br (ine (thRuns st) 0) (some (AV.tup [AV.agg [AV.int .i64 st, AV.int .i64 kd, AV.int .i64 vl, AV.int .i64 un, AV.int .i64 pc, AV.int .i64 rg, AV.int .i64 sn, AV.int .i64 tr, AV.bool
 lt, AV.int .i64 rs, AV.int .i64 gt], AV.int .i64 (thRuns st)]) = some r) (some (AV.tup [AV.agg [AV.int .i64 2, AV.int .i64 kd, AV.int .i64 vl, AV.int .i64 un, AV.int .i64 q, AV.int
 .i64 rg, AV.int .i64 sn, AV.int .i64 0, AV.bool lt, AV.int .i64 rs, AV.int .i64 gt], AV.int .i64 0]) = some r)) := by kernel_rfl
theorem ok_thPark : PureOK Tryz.prog 154 FthPark := by
 refine tab_plain mixed (l := tabW0) ok_tabW0 false (by kernel_rfl) fun xs b r h hb wf => ?_
 unfold FthPark at h
 split at h
 ·rename_i st kd vl un pc rg sn tr lt rs gt q
  cases h
  try rw [some_f] at hb
  try simp only [WFL, WF, List.mem_cons, List.not_mem_nil, or_false, forall_eq_or_imp, forall_eq, Col.len, and_true, true_and] at wf
  rw [vc_thPark]
  unfold invI
  by_cases c : thRuns st = 0
  ·have q : ine (thRuns st) 0 = false := by rw [ine_f]; exact c
   rw [q, c]
   rfl
  ·have q : ine (thRuns st) 0 = true := by rw [ine_t]; exact c
   rw [q, if_neg c, if_neg c, if_neg c]
   rfl
 ·cases h
def nthRegion : Code → Nat → Array Oper
 | .seq a b, n => match a, n with
  | .region _ ops _, 0 => ops
  | _, n + 1 => nthRegion b n
  | _, 0 => nthRegion b 0
 | .region _ ops _, _ => ops
 | _, _ => #[]
noncomputable def meOps : Array Oper := match Tryz.f123.body with
 | some c => nthRegion c 1
 | none => #[]
theorem me_call (H : Heap) (id : Nat) (Q : AV → Heap → Prop) : callN Tryz.prog (fun _ => none) noL 2 123 [.ptr id 0 0] H Q = drawOps Tryz.prog (fun _ => none) meOps H.length 0 meOps.toList ⟨[.ptr id 0 0, .top, .val (.pointer none), .top, .top, .top, .top, .top, .top, .top, .top, .top, .top], H⟩ [] (fun st => resultsOf Tryz.prog st Tryz.f123.results.toList fun vs => Q (oneOf vs) st.H) := by
 kernel_rfl
theorem drawOps_cons {P : Program} {S : FuncId → Option Summ} {ops : Array Oper} {base i : Nat} {o : Oper} {rest : List Oper} {st : St} {acc : List DEff} {Q : St → Prop} (e : Eff) (h1 : drawEff P S ops (base + offOp ops.toList i) o st = some e) (h2 : must e.obl True)
  (h3 : drawOps P S ops base (i + 1) rest (applyD (deffOf ops st.T o e) st) (acc ++ [deffOf ops st.T o e]) Q) : drawOps P S ops base i (o :: rest) st acc Q := by
 unfold drawOps
 rw [h1]
 obtain ⟨k1, _⟩ := must_iff.1 h2
 exact must_iff.2 ⟨k1, h3⟩
theorem drawOps_nil {P : Program} {S : FuncId → Option Summ} {ops : Array Oper} {base i : Nat} {st : St} {acc : List DEff} {Q : St → Prop} (h1 : drawOk base ops.toList acc = true) (h2 : Q st) : drawOps P S ops base i [] st acc Q := by
 unfold drawOps
 exact asrt_iff.2 ⟨h1, h2⟩
theorem readCells_one {H : Heap} {id : Nat} {cells : List AV} {k : Nat} {x : AV} (h : H.at id = some (.var cells)) (hx : cells.getD k .top = x) (hn : x ≠ .top) : readCells H 1 (.ptr id 0 k) = some (none, [x], [id]) := by
 have hk : k < cells.length := by
  apply Classical.byContradiction
  intro hk
  rw [List.getD_eq_getElem?_getD, List.getElem?_eq_none (by omega)] at hx
  exact hn hx.symm
 simp only [readCells, h, if_neg (show ¬ cells.length < k + 1 by omega)]
 have : (cells.drop k).take 1 = [x] := by
  rw [List.drop_eq_getElem_cons hk, List.take_succ_cons, List.take_zero]
  simp only [List.getD_eq_getElem?_getD, List.getElem?_eq_getElem hk, Option.getD_some] at hx
  rw [hx]
 rw [this]
theorem meOps_list : meOps.toList = [meOps.getD 0 default, meOps.getD 1 default, meOps.getD 2 default, meOps.getD 3 default, meOps.getD 4 default, meOps.getD 5 default, meOps.getD 6 default, meOps.getD 7 default, meOps.getD 8 default, meOps.getD 9 default, meOps.getD 10 default] := by kernel_rfl
theorem me_draw {H : Heap} {id r : Nat} {i : Int} {t : TypeId} {n : Nat} {cols : List Col} (rc1 : readCells H 1 (.ptr id 0 18) = some (none, [.full r], [id])) (rc2 : readCells H 1 (.ptr id 0 20) = some (none, [.int .i64 i], [id])) (h2 : H.at r = some (.row t n cols)) (hc : cols.length = 11) (hi : band (ile 0 i) (ilt i (ofN n)) = true) {B : Nat} {Q : St → Prop}
  (hQ : ∀ st : St, st.H = H → st.T.getD 2 .top = .ptr r (nOf i) 0 → Q st) : drawOps Tryz.prog (fun _ => none) meOps B 0 meOps.toList ⟨[.ptr id 0 0, .top, .val (.pointer none), .top, .top, .top, .top, .top, .top, .top, .top, .top, .top], H⟩ [] Q := by
 conv => arg 6; rw [meOps_list]
 refine drawOps_cons { obl := none, val := .ptr id 0 0 } (by kernel_rfl) trivial ?_
 refine drawOps_cons { obl := none, val := .ptr id 0 0 } (by kernel_rfl) trivial ?_
 refine drawOps_cons { obl := none, val := .ptr id 0 0 } (by kernel_rfl) trivial ?_
 refine drawOps_cons { obl := none, val := .ptr id 0 18 } (by kernel_rfl) trivial ?_
 refine drawOps_cons { obl := none, val := .full r, reads := [id] } ?_ trivial ?_
 ·refine Eq.trans (b := (match readCells H 1 (.ptr id 0 18) with
   | some (b, cs, rd) => (match wrap Tryz.prog 33 cs with
    | some v => some ({ obl := b, val := v, reads := rd } : Eff)
    | none => none)
   | none => none)) (by kernel_rfl) ?_
  rw [rc1]
  kernel_rfl
 refine drawOps_cons { obl := none, val := .ptr id 0 0 } (by kernel_rfl) trivial ?_
 refine drawOps_cons { obl := none, val := .ptr id 0 0 } (by kernel_rfl) trivial ?_
 refine drawOps_cons { obl := none, val := .ptr id 0 20 } (by kernel_rfl) trivial ?_
 refine drawOps_cons { obl := none, val := .int .i64 i, reads := [id] } ?_ trivial ?_
 ·refine Eq.trans (b := (match readCells H 1 (.ptr id 0 20) with
   | some (b, cs, rd) => (match wrap Tryz.prog 3 cs with
    | some v => some ({ obl := b, val := v, reads := rd } : Eff)
    | none => none)
   | none => none)) (by kernel_rfl) ?_
  rw [rc2]
  kernel_rfl
 refine drawOps_cons { obl := some (band (ile 0 i) (ilt i (ofN n))), val := .ptr r (nOf i) 0, reads := [r] } ?_ ?_ ?_
 ·refine Eq.trans (b := (match H.at r with
   | some (.row _ n cols) => if szOf Tryz.prog 51 = some cols.length then some ({ obl := some (band (ile 0 i) (ilt i (ofN n))), val := .ptr r (nOf i) 0, reads := [r] } : Eff) else none
   | _ => none)) (by kernel_rfl) ?_
  rw [h2]
  exact if_pos (by rw [hc]; kernel_rfl)
 ·rw [hi]; trivial
 refine drawOps_cons { obl := none, val := .ptr r (nOf i) 0 } (by kernel_rfl) trivial ?_
 refine drawOps_nil ?_ ?_
 ·kernel_rfl
 ·refine hQ _ ?_ ?_
  ·kernel_rfl
  ·kernel_rfl
theorem ok_me1 : SummOK Tryz.prog 123 (meSumm 18 20) := by
 refine ⟨enters_of (by kernel_rfl), ?_⟩
 intro w0 H c args vs fr e hh hr hf he ho
 obtain ⟨id, r, cells, i, t, n, cols, rfl, h1, h2, h3, h4, h5, rfl⟩ := meSumm_some he
 have hb : band (ile 0 i) (ilt i (ofN n)) = true := by
  cases hx : band (ile 0 i) (ilt i (ofN n)) with
  | true => rfl
  | false => exact absurd (congrArg some hx) ho
 have hcall : callN Tryz.prog (fun _ => none) noL 2 123 [.ptr id 0 0] H (fun v H' => v = .ptr r (nOf i) 0 ∧ H' = H) := by
  rw [me_call]
  refine me_draw (readCells_one h1 h2 (by simp)) (readCells_one h1 h3 (by simp)) h4 h5 hb (fun st e1 e2 => ?_)
  show (opd Tryz.prog st.T none 0 (.tmp 2) = .ptr r (nOf i) 0) ∧ st.H = H
  refine ⟨?_, e1⟩
  show plainUnder none (st.T.getD 2 .top) = _
  rw [e2]
  rfl
 refine Calls.mono ((callN_sound mixed (S := fun _ => none) (fun _ _ h => by cases h) (fun _ _ h => by cases h) (L := noL) (fun _ _ _ _ _ _ _ _ h => by cases h) 2 _ _ _ _ hcall).2 w0 c vs hh hr) ?_
 rintro en w' ⟨v, c', av, H', rfl, rfl, g1, g2, g3, rfl, rfl⟩
 exact ⟨v, c', rfl, rfl, g1, g2, g3⟩
noncomputable def selfOps : Array Oper := match Tryz.f126.body with
 | some c => nthRegion c 1
 | none => #[]
theorem self_call (H : Heap) (id : Nat) (Q : AV → Heap → Prop) : callN Tryz.prog (fun _ => none) noL 2 126 [.ptr id 0 0] H Q = drawOps Tryz.prog (fun _ => none) selfOps H.length 0 selfOps.toList ⟨[.ptr id 0 0, .top, .val (.pointer none), .top, .top, .top, .top, .top, .top, .top, .top, .top, .top], H⟩ [] (fun st => resultsOf Tryz.prog st Tryz.f126.results.toList fun vs => Q (oneOf vs) st.H) := by
 kernel_rfl
theorem selfOps_list : selfOps.toList = [selfOps.getD 0 default, selfOps.getD 1 default, selfOps.getD 2 default, selfOps.getD 3 default, selfOps.getD 4 default, selfOps.getD 5 default, selfOps.getD 6 default, selfOps.getD 7 default, selfOps.getD 8 default, selfOps.getD 9 default, selfOps.getD 10 default] := by kernel_rfl
theorem self_draw {H : Heap} {id r : Nat} {i : Int} {t : TypeId} {n : Nat} {cols : List Col} (rc1 : readCells H 1 (.ptr id 0 18) = some (none, [.full r], [id])) (rc2 : readCells H 1 (.ptr id 0 20) = some (none, [.int .i64 i], [id])) (h2 : H.at r = some (.row t n cols)) (hc : cols.length = 11) (hi : band (ile 0 i) (ilt i (ofN n)) = true) {B : Nat} {Q : St → Prop}
  (hQ : ∀ st : St, st.H = H → st.T.getD 2 .top = .ptr r (nOf i) 0 → Q st) : drawOps Tryz.prog (fun _ => none) selfOps B 0 selfOps.toList ⟨[.ptr id 0 0, .top, .val (.pointer none), .top, .top, .top, .top, .top, .top, .top, .top, .top, .top], H⟩ [] Q := by
 conv => arg 6; rw [selfOps_list]
 refine drawOps_cons { obl := none, val := .ptr id 0 0 } (by kernel_rfl) trivial ?_
 refine drawOps_cons { obl := none, val := .ptr id 0 0 } (by kernel_rfl) trivial ?_
 refine drawOps_cons { obl := none, val := .ptr id 0 0 } (by kernel_rfl) trivial ?_
 refine drawOps_cons { obl := none, val := .ptr id 0 18 } (by kernel_rfl) trivial ?_
 refine drawOps_cons { obl := none, val := .full r, reads := [id] } ?_ trivial ?_
 ·refine Eq.trans (b := (match readCells H 1 (.ptr id 0 18) with
   | some (b, cs, rd) => (match wrap Tryz.prog 33 cs with
    | some v => some ({ obl := b, val := v, reads := rd } : Eff)
    | none => none)
   | none => none)) (by kernel_rfl) ?_
  rw [rc1]
  kernel_rfl
 refine drawOps_cons { obl := none, val := .ptr id 0 0 } (by kernel_rfl) trivial ?_
 refine drawOps_cons { obl := none, val := .ptr id 0 0 } (by kernel_rfl) trivial ?_
 refine drawOps_cons { obl := none, val := .ptr id 0 20 } (by kernel_rfl) trivial ?_
 refine drawOps_cons { obl := none, val := .int .i64 i, reads := [id] } ?_ trivial ?_
 ·refine Eq.trans (b := (match readCells H 1 (.ptr id 0 20) with
   | some (b, cs, rd) => (match wrap Tryz.prog 3 cs with
    | some v => some ({ obl := b, val := v, reads := rd } : Eff)
    | none => none)
   | none => none)) (by kernel_rfl) ?_
  rw [rc2]
  kernel_rfl
 refine drawOps_cons { obl := some (band (ile 0 i) (ilt i (ofN n))), val := .ptr r (nOf i) 0, reads := [r] } ?_ ?_ ?_
 ·refine Eq.trans (b := (match H.at r with
   | some (.row _ n cols) => if szOf Tryz.prog 51 = some cols.length then some ({ obl := some (band (ile 0 i) (ilt i (ofN n))), val := .ptr r (nOf i) 0, reads := [r] } : Eff) else none
   | _ => none)) (by kernel_rfl) ?_
  rw [h2]
  exact if_pos (by rw [hc]; kernel_rfl)
 ·rw [hi]; trivial
 refine drawOps_cons { obl := none, val := .ptr r (nOf i) 0 } (by kernel_rfl) trivial ?_
 refine drawOps_nil ?_ ?_
 ·kernel_rfl
 ·refine hQ _ ?_ ?_
  ·kernel_rfl
  ·kernel_rfl
theorem ok_me2 : SummOK Tryz.prog 126 (meSumm 18 20) := by
 refine ⟨enters_of (by kernel_rfl), ?_⟩
 intro w0 H c args vs fr e hh hr hf he ho
 obtain ⟨id, r, cells, i, t, n, cols, rfl, h1, h2, h3, h4, h5, rfl⟩ := meSumm_some he
 have hb : band (ile 0 i) (ilt i (ofN n)) = true := by
  cases hx : band (ile 0 i) (ilt i (ofN n)) with
  | true => rfl
  | false => exact absurd (congrArg some hx) ho
 have hcall : callN Tryz.prog (fun _ => none) noL 2 126 [.ptr id 0 0] H (fun v H' => v = .ptr r (nOf i) 0 ∧ H' = H) := by
  rw [self_call]
  refine self_draw (readCells_one h1 h2 (by simp)) (readCells_one h1 h3 (by simp)) h4 h5 hb (fun st e1 e2 => ?_)
  show (opd Tryz.prog st.T none 0 (.tmp 2) = .ptr r (nOf i) 0) ∧ st.H = H
  refine ⟨?_, e1⟩
  show plainUnder none (st.T.getD 2 .top) = _
  rw [e2]
  rfl
 refine Calls.mono ((callN_sound mixed (S := fun _ => none) (fun _ _ h => by cases h) (fun _ _ h => by cases h) (L := noL) (fun _ _ _ _ _ _ _ _ h => by cases h) 2 _ _ _ _ hcall).2 w0 c vs hh hr) ?_
 rintro en w' ⟨v, c', av, H', rfl, rfl, g1, g2, g3, rfl, rfl⟩
 exact ⟨v, c', rfl, rfl, g1, g2, g3⟩
theorem ok_me : ∀ m ∈ [(123, 18, 20), (126, 18, 20)], SummOK Tryz.prog m.1 (meSumm m.2.1 m.2.2) := by
 intro m hm
 simp only [List.mem_cons, List.not_mem_nil, or_false] at hm
 rcases hm with rfl | rfl
 ·exact ok_me1
 ·exact ok_me2
end Go.Own
end
section
namespace Go.Own
open Go Go.Proofs
set_option maxRecDepth 100000
set_option maxHeartbeats 4000000
def SR.does (s : SR) (id : Int) (side : Int) : Bool := s.is id && decide (thRuns (s.st.getD id.toNat 0) = 0 ∧ opSide (s.kd.getD id.toNat 0) = side)
def SR.at (s : SR) (id : Int) (q : Int) : SR := { s with pc := s.pc.set id.toNat q }
def SR.tries (s : SR) (id : Int) : SR := { s with tr := s.tr.set id.toNat (imin (s.tr.getD id.toNat 0 + 1) 1099511627776) }
def SR.ends (s : SR) (id r : Int) : SR := (s.tell id (s.kd.getD id.toNat 0) r 0).at id 9
def SR.park (t : SR) (id : Int) (q : Int) : SR :=
 let e := thRuns (t.st.getD id.toNat 0)
 { t with st := t.st.set id.toNat (invI e 2 (t.st.getD id.toNat 0)), pc := t.pc.set id.toNat (invI e q (t.pc.getD id.toNat 0)), tr := t.tr.set id.toNat (invI e 0 (t.tr.getD id.toNat 0)) }
def SR.sEnter (s : SR) (id : Int) : SR := { s with n1 := lenI (enterL s.l1 id), l1 := enterL s.l1 id, pc := s.pc.set id.toNat 1 }
def SR.sFirst (s : SR) (id : Int) : SR := if placeAt s.l1 id = 0 then s.at id 2 else if s.lt.getD id.toNat false then s.ends id 5 else s.tries id
def SR.accR (s : SR) : Int := Go.Own.accR s.hd s.tl s.md s.ns
def SR.takR (s : SR) : Int := Go.Own.takR s.hd s.tl s.md s.ns
def SR.sFull (s : SR) (id : Int) : SR :=
 if s.po = 1 then s.ends id 3
 else if s.po = 2 then { s with rg := s.rg.set id.toNat s.hd, pc := s.pc.set id.toNat 10 }
 else if s.kd.getD id.toNat 0 = 2 then s.ends id 2
 else if s.lt.getD id.toNat false then s.ends id 5
 else if waitW s.lg s.th s.po s.wt s.sp s.yi (s.tr.getD id.toNat 0) = 2 then s.at id 5
 else s.tries id
def SR.sLook (s : SR) (id : Int) : SR :=
 if s.accR = 1 then { s with rg := s.rg.set id.toNat s.tl, pc := s.pc.set id.toNat 3 }
 else if s.accR = 2 then s.sFull id
 else s.ends id s.accR
def SR.sWrite (s : SR) (id : Int) : SR :=
 if wrE s.ns s.ss (s.rg.getD id.toNat 0) 30 = 0 then { s with sv := wrV s.ns s.ss s.sv (s.rg.getD id.toNat 0) (s.vl.getD id.toNat 0), pc := s.pc.set id.toNat 4 } else s
def SR.sAccept (s : SR) (id : Int) : SR :=
 if s.accR = 1 then (SR.tell { s with tl := accT s.hd s.tl s.md s.ns } id (s.kd.getD id.toNat 0) 1 0).at id 6
 else if s.accR = 2 then s.at id 2
 else s.ends id s.accR
def SR.sPrep (s : SR) (id : Int) : SR := { s with sn := s.sn.set id.toNat (prepE s.fe s.l3), pc := s.pc.set id.toNat 7 }
def SR.rungE (s : SR) : SR := { s with ee := comeE s.ee s.l4, n4 := lenI (oneL1 s.ee s.l4), l4 := oneL1 s.ee s.l4 }
def SR.sNotify (s : SR) (id : Int) : SR := (if oneB s.ee s.l4 then s.rungE.wake (tellV s.ee s.l4) else s.rungE).at id 9
def SR.sAgain (s : SR) (id : Int) : SR := if s.accR = 2 ∧ s.lt.getD id.toNat false = false then s.at id 8 else s.at id 2
def SR.sCommit (s : SR) (id : Int) : SR :=
 if s.lt.getD id.toNat false then s.at id 2
 else
  let t : SR := { s with n3 := lenI (commitL s.fe s.l3 (s.sn.getD id.toNat 0) id), l3 := commitL s.fe s.l3 (s.sn.getD id.toNat 0) id, pc := s.pc.set id.toNat 2 }
  if commitB s.fe s.l3 (s.sn.getD id.toNat 0) id then t.park id 2 else t
def SR.sLeave (s : SR) (id : Int) : SR := SR.done { s with n1 := lenI (leaveL s.l1 id), l1 := leaveL s.l1 id } id
def SR.value (s : SR) (p : Int) : Int := iite (band (SR.ok s) (ile 0 p)) (gI s.sv (nOf (placeOf p (ofN s.ns)))) 0
def SR.sEvict (s : SR) (id : Int) : SR :=
 if evB s.hd s.tl s.md s.ns (s.rg.getD id.toNat 0) then (SR.tell { s with hd := evH s.hd s.tl s.md s.ns (s.rg.getD id.toNat 0) } id 9 1 (s.value (s.rg.getD id.toNat 0))).at id 11
 else s.at id 2
def SR.sRelease (s : SR) (id : Int) : SR :=
 if relE s.ns s.ss (s.rg.getD id.toNat 0) = 0 then { s with ss := relS s.ns s.ss (s.rg.getD id.toNat 0), pc := s.pc.set id.toNat 2 } else s.at id 2
def SR.send (s : SR) (id : Int) : SR :=
 if s.does id 1 then
  match s.pc.getD id.toNat 0 with
  | 0 => s.sEnter id
  | 1 => s.sFirst id
  | 2 => s.sLook id
  | 3 => s.sWrite id
  | 4 => s.sAccept id
  | 5 => s.sPrep id
  | 6 => s.sNotify id
  | 7 => s.sAgain id
  | 8 => s.sCommit id
  | 9 => s.sLeave id
  | 10 => s.sEvict id
  | 11 => s.sRelease id
  | _ => s
 else s
def tabX0 : List (FuncId × Pure1) := [(100, Fhalted), (80, Faccept), (81, Fwtake), (156, Fwevict), (56, Fsees), (149, FslWrite), (168, FslRead), (157, FslRel), (187, Fwnext), (154, FthPark), (151, Fprepare), (153, Fcommit), (152, Fnotify), (98, Fcancel), (142, Fenter), (139, Fleave), (184, Fplace), (155, Ffvalue)] ++ tabClo2
theorem ok_tabX0 : ∀ p ∈ tabX0, PureOK Tryz.prog p.1 p.2 := by
 intro p hp
 simp only [tabX0, List.mem_append, List.mem_cons, List.not_mem_nil, or_false] at hp
 rcases hp with (rfl | rfl | rfl | rfl | rfl | rfl | rfl | rfl | rfl | rfl | rfl | rfl | rfl | rfl | rfl | rfl | rfl | rfl) | hp
 ·exact ok_halted
 ·exact ok_accept
 ·exact ok_wtake
 ·exact ok_wevict
 ·exact ok_sees
 ·exact ok_slWrite
 ·exact ok_slRead
 ·exact ok_slRel
 ·exact ok_wnext
 ·exact ok_thPark
 ·exact ok_prepare
 ·exact ok_commit
 ·exact ok_notify
 ·exact ok_cancel
 ·exact ok_enter
 ·exact ok_leave
 ·exact ok_place
 ·exact ok_fvalue
 ·exact ok_tabClo2 p hp
def Fsender : Pure1 := fun
 | [a_s, .int .i64 id] => (match asSR a_s with | some s => some (some (SR.fit s), .bool (SR.does s id 1)) | none => none)
 | _ => none
theorem vc_sender (s : SR) (id : Int) (r : AV) : VC Tryz.prog (tabS tabX0) noL false 110 [s.av, .int .i64 id] r = (
 asrt s.fitW (br (bite (bite (bnot s.ok) true (ilt id 0)) true (ige id (ofN s.25))) (some (AV.bool false) = some r) (asrt (band (ile 0 id) (ilt id (ofN s.25))) (some (AV.bool (bite
 (ieq (thRuns (gI s.26 (nOf id))) 0) (ieq (opSide (gI s.27 (nOf id))) 1) false)) = some r)))) := by kernel_rfl
theorem ok_sender : PureOK Tryz.prog 110 Fsender := by
 refine tab_plain mixed (l := tabX0) ok_tabX0 false (by kernel_rfl) fun xs b r h hb wf => ?_
 unfold Fsender at h
 split at h
 ·rename_i a_s id
  split at h
  ·rename_i s h_s
   obtain rfl := asSR_some h_s
   cases h
   try rw [some_f] at hb
   simp only [WFL, WF, List.mem_cons, List.not_mem_nil, or_false, forall_eq_or_imp, forall_eq, Col.len, and_true, true_and, wf_av] at wf
   rw [vc_sender]
   simp only [bite_and, bite_or]
   by_cases c1 : s.ok = true
   ·by_cases c2 : 0 ≤ id
    ·by_cases c3 : id < s.nt
     ·simp [owl, SR.fitW_fit, SR.wid_fit, hb, c1, c2, c3, SR.does, SR.is]
      first
       | (refine ⟨?_, fun hx => absurd hx (by omega)⟩; rw [Bool.eq_iff_iff]; simp [owl])
       | (refine ⟨fun hx => absurd hx (by omega), ?_⟩; rw [Bool.eq_iff_iff]; simp [owl])
     ·simp [owl, SR.fitW_fit, SR.wid_fit, hb, c1, c2, c3, SR.does, SR.is]
    ·have c3 : id < s.nt := by omega
     simp [owl, SR.fitW_fit, SR.wid_fit, hb, c1, c2, c3, SR.does, SR.is]
   ·simp [owl, SR.fitW_fit, SR.wid_fit, hb, c1, SR.does, SR.is]
  ·cases h
 ·cases h
def Flfirst : Pure1 := fun
 | [.sl n [.int .i64 l], .int .i64 x] => some (some (nle n room), .bool (ieq (placeAt l x) 0))
 | _ => none
theorem vc_lfirst (n : Nat) (l : List Int) (x : Int) (r : AV) : VC Tryz.prog (tabS tabX0) noL false 144 [.sl n [.int .i64 l], .int .i64 x] r = (
asrt (nle n 1073741824) (some (AV.bool (ieq (placeAt l x) 0)) = some r)) := by kernel_rfl
theorem ok_lfirst : PureOK Tryz.prog 144 Flfirst := by
 refine tab_plain mixed (l := tabX0) ok_tabX0 false (by kernel_rfl) fun xs b r h hb wf => ?_
 unfold Flfirst at h
 split at h
 ·rename_i n l x
  cases h
  try rw [some_f] at hb
  try simp only [WFL, WF, List.mem_cons, List.not_mem_nil, or_false, forall_eq_or_imp, forall_eq, Col.len, and_true, true_and] at wf
  rw [vc_lfirst]
  have q : nle n 1073741824 = true := hb
  rw [q]
  rfl
 ·cases h
def Fsroom : Pure1 := fun
 | [.ip [.int .i64 lg, .int .i64 th, .int .i64 po, .int .i64 wt, .int .i64 sp, .int .i64 yi, .bool sg, .int .i64 hd, .int .i64 tl, .int .i64 md, .sl ns [.int .i64 ss, .int .i64 sv], .sl n1 [.int .i64 l1], .sl n2 [.int .i64 l2], .int .i64 fe, .sl n3 [.int .i64 l3], .int .i64 ee, .sl n4 [.int .i64 l4], .int .i64 now, .sl nt [.int .i64 st, .int .i64 kd, .int .i64 vl, .int .i64 un, .int .i64 pc, .int .i64 rg, .int .i64 sn, .int .i64 tr, .bool lt, .int .i64 rs, .int .i64 gt], .sl nl [.int .i64 c0, .int .i64 ks, .int .i64 vs, .int .i64 rr, .int .i64 gs], .int .i64 id]] => some (none, .int .i64 (ofN ns))
 | _ => none
theorem vc_sroom (lg th po wt sp yi : Int) (sg : Bool) (hd tl md : Int) (ns : Nat) (ss sv : List Int) (n1 : Nat) (l1 : List Int) (n2 : Nat) (l2 : List Int) (fe : Int) (n3 : Nat) (l3 : List Int) (ee : Int) (n4 : Nat) (l4 : List Int) (now : Int) (nt : Nat) (st kd vl un pc rg sn tr : List Int) (lt : List Bool) (rs gt : List Int) (nl : Nat) (c0 ks vs rr gs : List Int) (id : Int) (r : AV) : VC Tryz.prog (tabS tabX0) noL false 147 [.ip [.int .i64 lg, .int .i64 th, .int .i64 po, .int .i64 wt, .int .i64 sp, .int .i64 yi, .bool sg, .int .i64 hd, .int .i64 tl, .int .i64 md, .sl ns [.int .i64 ss, .int .i64 sv], .sl n1 [.int .i64 l1], .sl n2 [.int .i64 l2], .int .i64 fe, .sl n3 [.int .i64 l3], .int .i64 ee, .sl n4 [.int .i64 l4], .int .i64 now, .sl nt [.int .i64 st, .int .i64 kd, .int .i64 vl, .int .i64 un, .int .i64 pc, .int .i64 rg, .int .i64 sn, .int .i64 tr, .bool lt, .int .i64 rs, .int .i64 gt], .sl nl [.int .i64 c0, .int .i64 ks, .int .i64 vs, .int .i64 rr, .int .i64 gs], .int .i64 id]] r = (
 some (AV.int .i64 (ofN ns)) = some r) := by kernel_rfl
theorem ok_sroom : PureOK Tryz.prog 147 Fsroom := by
 refine tab_plain mixed (l := tabX0) ok_tabX0 false (by kernel_rfl) fun xs b r h hb wf => ?_
 unfold Fsroom at h
 split at h
 ·rename_i lg th po wt sp yi sg hd tl md ns ss sv n1 l1 n2 l2 fe n3 l3 ee n4 l4 now nt st kd vl un pc rg sn tr lt rs gt nl c0 ks vs rr gs id
  cases h
  try rw [some_f] at hb
  try simp only [WFL, WF, List.mem_cons, List.not_mem_nil, or_false, forall_eq_or_imp, forall_eq, Col.len, and_true, true_and] at wf
  rw [vc_sroom]
  all_goals rfl
 ·cases h
def tabX1 : List (FuncId × Pure1) := [(110, Fsender), (144, Flfirst), (147, Fsroom)] ++ tabX0
theorem ok_tabX1 : ∀ p ∈ tabX1, PureOK Tryz.prog p.1 p.2 := by
 intro p hp
 simp only [tabX1, List.mem_append, List.mem_cons, List.not_mem_nil, or_false] at hp
 rcases hp with (rfl | rfl | rfl) | hp
 ·exact ok_sender
 ·exact ok_lfirst
 ·exact ok_sroom
 ·exact ok_tabX0 p hp
theorem asrt_tt (X : Prop) : asrt true X = X := rfl
theorem br_tt (X Y : Prop) : br true X Y = X := rfl
theorem br_ff (X Y : Prop) : br false X Y = Y := rfl
theorem ieq_d (a b : Int) : ieq a b = decide (a = b) := rfl
theorem gI_d (l : List Int) (i : Nat) : gI l i = l.getD i 0 := rfl
theorem gB_d (l : List Bool) (i : Nat) : gB l i = l.getD i false := rfl
theorem bimp_tt (x : Bool) : bimp true x = x := rfl
theorem bimp_ff (x : Bool) : bimp false x = true := rfl
theorem bite_tt (x y : Bool) : bite true x y = x := rfl
theorem bite_ff (x y : Bool) : bite false x y = y := rfl
theorem SR.fit_of {s t : SR} (h : s.fit = true) (h1 : in64 t.hd t.tl = true) (h2 : t.ns = s.ns) (h3 : t.n1 ≤ s.n1) (h4 : t.n2 ≤ s.n2) (h5 : t.n3 ≤ s.n3) (h6 : t.n4 ≤ s.n4) (h7 : t.nt = s.nt) (h8 : t.nl = s.nl) : t.fit = true := by
 obtain ⟨_, g⟩ := (SR.fit_iff s).1 h
 exact (SR.fit_iff t).2 ⟨h1, by omega⟩
theorem accT_in {hd tl md room r2 : Int} (h : wordOk hd tl md r2 = true) : in64 hd (accT hd tl md room) = true := by
 simp only [wordOk, decide_eq_true_eq] at h
 unfold accT in64
 split <;> simp <;> omega
theorem takH_in {hd tl md room r2 : Int} (h : wordOk hd tl md r2 = true) : in64 (takH hd tl md room) tl = true := by
 simp only [wordOk, decide_eq_true_eq] at h
 unfold takH in64
 split <;> simp <;> omega
theorem evH_in {hd tl md room r2 r : Int} (h : wordOk hd tl md r2 = true) : in64 (evH hd tl md room r) tl = true := by
 simp only [wordOk, decide_eq_true_eq] at h
 unfold evH in64
 split <;> simp <;> omega
theorem put_self (l : List Int) (i : Nat) : put l i (l.getD i 0) = l := by
 rw [List.getD_eq_getElem?_getD]; exact setI_any l i
theorem putB_self (l : List Bool) (i : Nat) : put l i (l.getD i false) = l := by
 rw [List.getD_eq_getElem?_getD]
 show l.set i _ = l
 by_cases h : i < l.length
 ·simp [h]
 ·exact List.set_eq_of_length_le (by omega)
theorem oneL1_len (e : Int) (l : List Int) : (oneL1 e l).length ≤ l.length := by
 unfold oneL1
 split <;> simp
def Fsend : Pure1 := fun
 | [a_s, .int .i64 id] => (match asSR a_s with | some s => some (some (SR.fit s), SR.new (SR.send s id)) | none => none)
 | _ => none
def zq35 (s : SR) (id : Int) : Bool :=
 band (ile 0 id) (ilt id (ofN (s.wake (-1)).25))
def zq36 (s : SR) (id : Int) : Bool :=
 nlt (nOf id) (s.wake (-1)).25
def zq37 (s : SR) (id : Int) : Int :=
 gI (s.wake (-1)).27 (nOf id)
def zq38 (s : SR) (id : Int) : Int :=
 gI (s.wake (-1)).31 (nOf id)
def zq39 (s : SR) : Bool :=
 ieq (accR (s.wake (-1)).8 (s.wake (-1)).9 (s.wake (-1)).10 (ofN (s.wake (-1)).11)) 2
def zq40 (s : SR) (id : Int) : Bool :=
 band (ile 0 id) (ilt id (ofN ({ (s.wake (-1)) with tl := accT (s.wake (-1)).8 (s.wake (-1)).9 (s.wake (-1)).10 (ofN (s.wake (-1)).11) }.tell id (zq37 s id) (accR (s.wake (-1)).8
 (s.wake (-1)).9 (s.wake (-1)).10 (ofN (s.wake (-1)).11)) 0).25))
def zq41 (s : SR) (id : Int) : Int :=
 gI (s.wake (-1)).30 (nOf id)
def zq42 (s : SR) (id : Int) : Bool :=
 nlt (nOf id) ({ (s.wake (-1)) with tl := accT (s.wake (-1)).8 (s.wake (-1)).9 (s.wake (-1)).10 (ofN (s.wake (-1)).11) }.tell id (zq37 s id) (accR (s.wake (-1)).8 (s.wake (-1)).9
 (s.wake (-1)).10 (ofN (s.wake (-1)).11)) 0).25
def zq43 (s : SR) (id : Int) : AV :=
 AV.agg (SR.nw { (s.wake (-1)) with pc := (put (s.wake (-1)).30 (nOf id) 2) })
def zq44 (s : SR) (id : Int) : Int :=
 gI (s.wake (-1)).26 (nOf id)
def zq45 (s : SR) (id : Int) : Int :=
 gI (s.wake (-1)).13 (nOf (placeOf (zq38 s id) (ofN (s.wake (-1)).11)))
def zq46 (s : SR) (id : Int) : AV :=
 AV.agg (SR.nw { (s.wake (-1)) with tr := (put (s.wake (-1)).33 (nOf id) (imin (iadd .i64 (gI (s.wake (-1)).33 (nOf id)) 1) 1099511627776)) })
def zq47 (s : SR) (id : Int) : AV :=
 AV.agg (SR.nw { ((s.wake (-1)).tell id (zq37 s id) 5 0) with pc := (put ((s.wake (-1)).tell id (zq37 s id) 5 0).30 (nOf id) 9) })
def zq48 (s : SR) (id : Int) : Int :=
 gI (s.wake (-1)).32 (nOf id)
def zq49 (s : SR) (id : Int) : List Int :=
 put (s.wake (-1)).30 (nOf id) 2
def zq50 (s : SR) (id : Int) : Bool :=
 band (s.wake (-1)).ok (ile 0 (zq38 s id))
def zq51 (s : SR) (id : Int) : List Int :=
 put (s.wake (-1)).33 (nOf id) (invI (thRuns (zq44 s id)) 0 (gI (s.wake (-1)).33 (nOf id)))
def zq52 (s : SR) : Bool :=
 ieq (accR (s.wake (-1)).8 (s.wake (-1)).9 (s.wake (-1)).10 (ofN (s.wake (-1)).11)) 1
def zq53 (s : SR) (id : Int) : Bool :=
 band (ile 0 id) (ilt id (ofN ((s.wake (-1)).tell id (zq37 s id) 5 0).25))
theorem vc_send (s : SR) (id : Int) (r : AV) : VC Tryz.prog (meTab [(123, 18, 20), (126, 18, 20)] tabX1) noL true 92 [s.av, .int .i64 id] r = (
 asrt s.fit (asrt s.fit (br (bnot (s.does id 1)) (some (AV.agg (SR.nw (s.wake (-1)))) = some r) (asrt (zq35 s id) (asrt (zq36 s id) (br (ieq (zq41 s id) 0) (asrt (nlt (s.wake
 (-1)).14 1073741824) (asrt (zq35 s id) (asrt (zq36 s id) (some (AV.agg (SR.nw
 { (s.wake (-1)) with n1 := (lenI (enterL (s.wake (-1)).15 id)), l1 := (enterL (s.wake (-1)).15 id), pc := (put (s.wake (-1)).30 (nOf id) 1) })) = some r)))) (br (ieq (zq41 s id) 1)
 (asrt (nle (s.wake (-1)).14 1073741824) (br (ieq (placeAt (s.wake (-1)).15 id) 0) (asrt (zq35 s id) (asrt (zq36 s id) (some (zq43 s id) = some r))) (asrt (zq35 s id) (asrt (zq36 s
 id) (br (gB (s.wake (-1)).34 (nOf id)) (asrt (zq35 s id) (asrt (zq36 s id) (asrt (s.wake (-1)).fit (asrt (zq53 s id) (asrt (nlt (nOf id) ((s.wake (-1)).tell id (zq37 s id) 5 0).25)
 (some (zq47 s id) = some r)))))) (asrt (zq35 s id) (asrt (zq35 s id) (asrt (zq36 s id) (asrt (zq36 s id) (some (zq46 s id) = some r)))))))))) (br (ieq (zq41 s id) 2) (asrt (in64
 (s.wake (-1)).8 (s.wake (-1)).9) (br (zq52 s) (asrt (zq35 s id) (asrt (zq36 s id) (asrt (zq35 s id) (asrt (zq36 s id) (some (AV.agg (SR.nw
 { (s.wake (-1)) with pc := (put (s.wake (-1)).30 (nOf id) 3), rg := (put (s.wake (-1)).31 (nOf id) (s.wake (-1)).9) })) = some r))))) (br (zq39 s) (asrt (zq35 s id) (br (ieq (s.wake
 (-1)).3 1) (asrt (zq35 s id) (asrt (zq36 s id) (asrt (s.wake (-1)).fit (asrt (band (ile 0 id) (ilt id (ofN ((s.wake (-1)).tell id (zq37 s id) 3 0).25))) (asrt (nlt (nOf id) ((s.wake
 (-1)).tell id (zq37 s id) 3 0).25) (some (AV.agg (SR.nw { ((s.wake (-1)).tell id (zq37 s id) 3 0) with pc := (put ((s.wake (-1)).tell id (zq37 s id) 3 0).30 (nOf id) 9) })) = some
 r)))))) (br (ieq (s.wake (-1)).3 2) (asrt (zq36 s id) (asrt (zq35 s id) (asrt (zq36 s id) (some (AV.agg (SR.nw
 { (s.wake (-1)) with pc := (put (s.wake (-1)).30 (nOf id) 10), rg := (put (s.wake (-1)).31 (nOf id) (s.wake (-1)).8) })) = some r)))) (asrt (zq36 s id) (br (ieq (zq37 s id) 2) (asrt
 (zq35 s id) (asrt (zq36 s id) (asrt (s.wake (-1)).fit (asrt (band (ile 0 id) (ilt id (ofN ((s.wake (-1)).tell id (zq37 s id) 2 0).25))) (asrt (nlt (nOf id) ((s.wake (-1)).tell id
 (zq37 s id) 2 0).25) (some (AV.agg (SR.nw { ((s.wake (-1)).tell id (zq37 s id) 2 0) with pc := (put ((s.wake (-1)).tell id (zq37 s id) 2 0).30 (nOf id) 9) })) = some r)))))) (asrt
 (zq36 s id) (br (gB (s.wake (-1)).34 (nOf id)) (asrt (zq35 s id) (asrt (zq36 s id) (asrt (s.wake (-1)).fit (asrt (zq53 s id) (asrt (nlt (nOf id) ((s.wake (-1)).tell id (zq37 s id) 5
 0).25) (some (zq47 s id) = some r)))))) (asrt (zq36 s id) (br (ieq (waitW (s.wake (-1)).1 (s.wake (-1)).2 (s.wake (-1)).3 (s.wake (-1)).4 (s.wake (-1)).5 (s.wake (-1)).6 (gI (s.wake
 (-1)).33 (nOf id))) 2) (asrt (zq35 s id) (asrt (zq36 s id) (some (AV.agg (SR.nw { (s.wake (-1)) with pc := (put (s.wake (-1)).30 (nOf id) 5) })) = some r))) (asrt (zq35 s id) (asrt
 (zq35 s id) (asrt (zq36 s id) (asrt (zq36 s id) (some (zq46 s id) = some r)))))))))))))) (asrt (zq35 s id) (asrt (zq36 s id) (asrt (s.wake (-1)).fit (asrt (band (ile 0 id) (ilt id
 (ofN ((s.wake (-1)).tell id (zq37 s id) (accR (s.wake (-1)).8 (s.wake (-1)).9 (s.wake (-1)).10 (ofN (s.wake (-1)).11)) 0).25))) (asrt (nlt (nOf id) ((s.wake (-1)).tell id (zq37 s
 id) (accR (s.wake (-1)).8 (s.wake (-1)).9 (s.wake (-1)).10 (ofN (s.wake (-1)).11)) 0).25) (some (AV.agg (SR.nw
 { ((s.wake (-1)).tell id (zq37 s id) (accR (s.wake (-1)).8 (s.wake (-1)).9 (s.wake (-1)).10 (ofN (s.wake (-1)).11)) 0) with pc := (put ((s.wake (-1)).tell id (zq37 s id) (accR (s.wake (-1)).8 (s.wake (-1)).9 (s.wake (-1)).10 (ofN (s.wake (-1)).11)) 0).30 (nOf id) 9) }))
 = some r))))))))) (br (ieq (zq41 s id) 3) (asrt (zq35 s id) (asrt (zq36 s id) (asrt (zq36 s id) (asrt (nle (s.wake (-1)).11 1000000) (br (ieq (wrE (s.wake (-1)).11 (s.wake (-1)).12
 (zq38 s id) 30) 0) (asrt (zq35 s id) (asrt (zq36 s id) (some (AV.agg (SR.nw
 { (s.wake (-1)) with sv := (wrV (s.wake (-1)).11 (s.wake (-1)).12 (s.wake (-1)).13 (zq38 s id) (gI (s.wake (-1)).28 (nOf id))), pc := (put (s.wake (-1)).30 (nOf id) 4) })) = some
 r))) (some (AV.agg (SR.nw (s.wake (-1)))) = some r)))))) (br (ieq (zq41 s id) 4) (asrt (in64 (s.wake (-1)).8 (s.wake (-1)).9) (br (zq52 s) (asrt (zq35 s id) (asrt (zq36 s id) (asrt
 { (s.wake (-1)) with tl := accT (s.wake (-1)).8 (s.wake (-1)).9 (s.wake (-1)).10 (ofN (s.wake (-1)).11) }.fit (asrt (zq40 s id) (asrt (zq42 s id) (some (AV.agg (SR.nw
 { ({ (s.wake (-1)) with tl := accT (s.wake (-1)).8 (s.wake (-1)).9 (s.wake (-1)).10 (ofN (s.wake (-1)).11) }.tell id (zq37 s id) (accR (s.wake (-1)).8 (s.wake (-1)).9 (s.wake (-1)).10 (ofN (s.wake (-1)).11)) 0) with pc := (put ({ (s.wake (-1)) with tl := accT (s.wake (-1)).8 (s.wake (-1)).9 (s.wake (-1)).10 (ofN (s.wake (-1)).11) }.tell id (zq37 s id) (accR (s.wake (-1)).8 (s.wake (-1)).9 (s.wake (-1)).10 (ofN (s.wake (-1)).11)) 0).30 (nOf id) 6) }))
 = some r)))))) (br (zq39 s) (asrt (zq35 s id) (asrt (zq36 s id) (some (AV.agg (SR.nw
 { (s.wake (-1)) with tl := (accT (s.wake (-1)).8 (s.wake (-1)).9 (s.wake (-1)).10 (ofN (s.wake (-1)).11)), pc := (zq49 s id) })) = some r))) (asrt (zq35 s id) (asrt (zq36 s id)
 (asrt { (s.wake (-1)) with tl := accT (s.wake (-1)).8 (s.wake (-1)).9 (s.wake (-1)).10 (ofN (s.wake (-1)).11) }.fit (asrt (zq40 s id) (asrt (zq42 s id) (some (AV.agg (SR.nw
 { ({ (s.wake (-1)) with tl := accT (s.wake (-1)).8 (s.wake (-1)).9 (s.wake (-1)).10 (ofN (s.wake (-1)).11) }.tell id (zq37 s id) (accR (s.wake (-1)).8 (s.wake (-1)).9 (s.wake (-1)).10 (ofN (s.wake (-1)).11)) 0) with pc := (put ({ (s.wake (-1)) with tl := accT (s.wake (-1)).8 (s.wake (-1)).9 (s.wake (-1)).10 (ofN (s.wake (-1)).11) }.tell id (zq37 s id) (accR (s.wake (-1)).8 (s.wake (-1)).9 (s.wake (-1)).10 (ofN (s.wake (-1)).11)) 0).30 (nOf id) 9) }))
 = some r))))))))) (br (ieq (zq41 s id) 5) (asrt (zq35 s id) (asrt (nle (s.wake (-1)).19 1073741824) (asrt (zq36 s id) (asrt (zq35 s id) (asrt (zq36 s id) (some (AV.agg (SR.nw
 { (s.wake (-1)) with pc := (put (s.wake (-1)).30 (nOf id) 7), sn := (put (s.wake (-1)).32 (nOf id) (prepE (s.wake (-1)).18 (s.wake (-1)).20)) })) = some r)))))) (br (ieq (zq41 s id)
 6) (asrt (nle (s.wake (-1)).22 1073741824) (br (oneB (s.wake (-1)).21 (s.wake (-1)).23) (asrt
 { (s.wake (-1)) with ee := comeE (s.wake (-1)).21 (s.wake (-1)).23, n4 := lenI (oneL1 (s.wake (-1)).21 (s.wake (-1)).23), l4 := oneL1 (s.wake (-1)).21 (s.wake (-1)).23 }.fit (asrt
 (band (ile 0 id) (ilt id (ofN
 ({ (s.wake (-1)) with ee := comeE (s.wake (-1)).21 (s.wake (-1)).23, n4 := lenI (oneL1 (s.wake (-1)).21 (s.wake (-1)).23), l4 := oneL1 (s.wake (-1)).21 (s.wake (-1)).23 }.wake
 (tellV (s.wake (-1)).21 (s.wake (-1)).23)).25))) (asrt (nlt (nOf id)
 ({ (s.wake (-1)) with ee := comeE (s.wake (-1)).21 (s.wake (-1)).23, n4 := lenI (oneL1 (s.wake (-1)).21 (s.wake (-1)).23), l4 := oneL1 (s.wake (-1)).21 (s.wake (-1)).23 }.wake
 (tellV (s.wake (-1)).21 (s.wake (-1)).23)).25) (some (AV.agg (SR.nw
 { ({ (s.wake (-1)) with ee := comeE (s.wake (-1)).21 (s.wake (-1)).23, n4 := lenI (oneL1 (s.wake (-1)).21 (s.wake (-1)).23), l4 := oneL1 (s.wake (-1)).21 (s.wake (-1)).23 }.wake (tellV (s.wake (-1)).21 (s.wake (-1)).23)) with pc := (put ({ (s.wake (-1)) with ee := comeE (s.wake (-1)).21 (s.wake (-1)).23, n4 := lenI (oneL1 (s.wake (-1)).21 (s.wake (-1)).23), l4 := oneL1 (s.wake (-1)).21 (s.wake (-1)).23 }.wake (tellV (s.wake (-1)).21 (s.wake (-1)).23)).30 (nOf id) 9) }))
 = some r)))) (asrt (zq35 s id) (asrt (zq36 s id) (some (AV.agg (SR.nw
 { (s.wake (-1)) with ee := (comeE (s.wake (-1)).21 (s.wake (-1)).23), n4 := (lenI (oneL1 (s.wake (-1)).21 (s.wake (-1)).23)), l4 := (oneL1 (s.wake (-1)).21 (s.wake (-1)).23), pc := (put (s.wake (-1)).30 (nOf id) 9) }))
 = some r))))) (br (ieq (zq41 s id) 7) (asrt (in64 (s.wake (-1)).8 (s.wake (-1)).9) (asrt (bimp (zq39 s) (zq35 s id)) (asrt (bimp (zq39 s) (zq36 s id)) (br (bite (zq39 s) (bnot (gB
 (s.wake (-1)).34 (nOf id))) false) (asrt (zq35 s id) (asrt (zq36 s id) (some (AV.agg (SR.nw { (s.wake (-1)) with pc := (put (s.wake (-1)).30 (nOf id) 8) })) = some r))) (asrt (zq35
 s id) (asrt (zq36 s id) (some (zq43 s id) = some r))))))) (br (ieq (zq41 s id) 8) (asrt (zq35 s id) (asrt (zq36 s id) (asrt (zq35 s id) (asrt (zq36 s id) (br (gB (s.wake (-1)).34
 (nOf id)) (some (zq43 s id) = some r) (asrt (zq35 s id) (asrt (zq36 s id) (asrt (nlt (s.wake (-1)).19 1073741824) (br (commitB (s.wake (-1)).18 (s.wake (-1)).20 (zq48 s id) id)
 (asrt (zq35 s id) (asrt (zq35 s id) (asrt (zq36 s id) (asrt (zq36 s id) (some (AV.agg (SR.nw
 { (s.wake (-1)) with n3 := (lenI (commitL (s.wake (-1)).18 (s.wake (-1)).20 (zq48 s id) id)), l3 := (commitL (s.wake (-1)).18 (s.wake (-1)).20 (zq48 s id) id), st := (put (s.wake (-1)).26 (nOf id) (invI (thRuns (zq44 s id)) 2 (zq44 s id))), kd := (put (s.wake (-1)).27 (nOf id) (zq37 s id)), vl := (put (s.wake (-1)).28 (nOf id) (gI (s.wake (-1)).28 (nOf id))), un := (put (s.wake (-1)).29 (nOf id) (gI (s.wake (-1)).29 (nOf id))), pc := (put (zq49 s id) (nOf id) (invI (thRuns (zq44 s id)) 2 (gI (zq49 s id) (nOf id)))), rg := (put (s.wake (-1)).31 (nOf id) (zq38 s id)), sn := (put (s.wake (-1)).32 (nOf id) (zq48 s id)), tr := (zq51 s id), lt := (put (s.wake (-1)).34 (nOf id) (gB (s.wake (-1)).34 (nOf id))), rs := (put (s.wake (-1)).35 (nOf id) (gI (s.wake (-1)).35 (nOf id))), gt := (put (s.wake (-1)).36 (nOf id) (gI (s.wake (-1)).36 (nOf id))) }))
 = some r))))) (some (AV.agg (SR.nw
 { (s.wake (-1)) with n3 := (lenI (commitL (s.wake (-1)).18 (s.wake (-1)).20 (zq48 s id) id)), l3 := (commitL (s.wake (-1)).18 (s.wake (-1)).20 (zq48 s id) id), pc := (zq49 s id) }))
 = some r)))))))))) (br (ieq (zq41 s id) 9) (asrt (nle (s.wake (-1)).14 1073741824) (asrt (zq35 s id) (asrt (zq35 s id) (asrt (zq36 s id) (asrt (zq36 s id) (some (AV.agg (SR.nw
 { (s.wake (-1)) with n1 := (lenI (leaveL (s.wake (-1)).15 id)), l1 := (leaveL (s.wake (-1)).15 id), st := (put (s.wake (-1)).26 (nOf id) (invI (thRuns (zq44 s id)) 0 (zq44 s id))), kd := (put (s.wake (-1)).27 (nOf id) (zq37 s id)), vl := (put (s.wake (-1)).28 (nOf id) (gI (s.wake (-1)).28 (nOf id))), un := (put (s.wake (-1)).29 (nOf id) (gI (s.wake (-1)).29 (nOf id))), pc := (put (s.wake (-1)).30 (nOf id) (invI (thRuns (zq44 s id)) 0 (zq41 s id))), rg := (put (s.wake (-1)).31 (nOf id) (invI (thRuns (zq44 s id)) 0 (zq38 s id))), sn := (put (s.wake (-1)).32 (nOf id) (invI (thRuns (zq44 s id)) 0 (zq48 s id))), tr := (zq51 s id), lt := (put (s.wake (-1)).34 (nOf id) (invB (thRuns (zq44 s id)) (gB (s.wake (-1)).34 (nOf id)))), rs := (put (s.wake (-1)).35 (nOf id) (gI (s.wake (-1)).35 (nOf id))), gt := (put (s.wake (-1)).36 (nOf id) (gI (s.wake (-1)).36 (nOf id))) }))
 = some r)))))) (br (ieq (zq41 s id) 10) (asrt (zq35 s id) (asrt (zq36 s id) (asrt (s.wake (-1)).fit (asrt (in64 (s.wake (-1)).8 (s.wake (-1)).9) (br (bnot (evB (s.wake (-1)).8
 (s.wake (-1)).9 (s.wake (-1)).10 (ofN (s.wake (-1)).11) (zq38 s id))) (asrt (zq35 s id) (asrt (zq36 s id) (some (AV.agg (SR.nw
 { (s.wake (-1)) with hd := (evH (s.wake (-1)).8 (s.wake (-1)).9 (s.wake (-1)).10 (ofN (s.wake (-1)).11) (zq38 s id)), pc := (zq49 s id) })) = some r))) (asrt
 { (s.wake (-1)) with hd := evH (s.wake (-1)).8 (s.wake (-1)).9 (s.wake (-1)).10 (ofN (s.wake (-1)).11) (zq38 s id) }.fit (asrt (band (ile 0 id) (ilt id (ofN
 ({ (s.wake (-1)) with hd := evH (s.wake (-1)).8 (s.wake (-1)).9 (s.wake (-1)).10 (ofN (s.wake (-1)).11) (zq38 s id) }.tell id 9 1 (iite (zq50 s id) (zq45 s id) 0)).25))) (asrt (nlt
 (nOf id) ({ (s.wake (-1)) with hd := evH (s.wake (-1)).8 (s.wake (-1)).9 (s.wake (-1)).10 (ofN (s.wake (-1)).11) (zq38 s id) }.tell id 9 1 (iite (zq50 s id) (zq45 s id) 0)).25)
 (some (AV.agg (SR.nw
 { ({ (s.wake (-1)) with hd := evH (s.wake (-1)).8 (s.wake (-1)).9 (s.wake (-1)).10 (ofN (s.wake (-1)).11) (zq38 s id) }.tell id 9 1 (iite (zq50 s id) (zq45 s id) 0)) with pc := (put ({ (s.wake (-1)) with hd := evH (s.wake (-1)).8 (s.wake (-1)).9 (s.wake (-1)).10 (ofN (s.wake (-1)).11) (zq38 s id) }.tell id 9 1 (iite (zq50 s id) (zq45 s id) 0)).30 (nOf id) 11) }))
 = some r))))))))) (br (ieq (zq41 s id) 11) (asrt (zq35 s id) (asrt (zq36 s id) (asrt (nle (s.wake (-1)).11 1000000) (br (ieq (relE (s.wake (-1)).11 (s.wake (-1)).12 (zq38 s id)) 0)
 (asrt (zq35 s id) (asrt (zq36 s id) (some (AV.agg (SR.nw { (s.wake (-1)) with ss := (relS (s.wake (-1)).11 (s.wake (-1)).12 (zq38 s id)), pc := (zq49 s id) })) = some r))) (asrt
 (zq35 s id) (asrt (zq36 s id) (some (zq43 s id) = some r))))))) False))))))))))))))))) := by kernel_rfl
theorem ok_send : PureOK Tryz.prog 92 Fsend := by
 refine meTab_plain mixed (l := tabX1) ok_tabX1 ok_me true (by kernel_rfl) fun xs b r h hb wf => ?_
 unfold Fsend at h
 split at h
 ·rename_i a_s id
  split at h
  ·rename_i s h_s
   obtain rfl := asSR_some h_s
   cases h
   try rw [some_f] at hb
   simp only [WFL, WF, List.mem_cons, List.not_mem_nil, or_false, forall_eq_or_imp, forall_eq, Col.len, and_true, true_and, wf_av] at wf
   rw [vc_send]
   dsimp only [SR.nw, zq35, zq36, zq37, zq38, zq39, zq40, zq41, zq42, zq43, zq44, zq45, zq46, zq47, zq48, zq49, zq50, zq51, zq52, zq53]
   simp only [SR.wake_neg]
   obtain ⟨hi, hz1, hz2, hz3, hz4, hz5, hz6, hz7⟩ := (SR.fit_iff s).1 hb
   cases c : s.does id 1 with
   | false =>
    have e : SR.send s id = s := by unfold SR.send; rw [if_neg (by rw [c]; simp)]
    rw [e, hb]
    rfl
   | true =>
    have hc := c
    simp only [SR.does, SR.is, Bool.and_eq_true, decide_eq_true_eq] at hc
    obtain ⟨⟨c1, c2, c3⟩, c4, c5⟩ := hc
    have q : id.toNat < s.nt := by omega
    have b1 : band (ile 0 id) (ilt id (ofN s.nt)) = true := by simp only [band_t, ile_t, ilt_t, ofN_e]; exact ⟨c2, c3⟩
    have b2 : nlt (nOf id) s.nt = true := by simp only [nlt_t, nOf_e]; exact q
    have m1 : nlt s.n1 1073741824 = true := by simp only [nlt_t]; omega
    have m2 : nle s.n1 1073741824 = true := by simp only [nle_t]; omega
    have m3 : nlt s.n3 1073741824 = true := by simp only [nlt_t]; omega
    have m4 : nle s.n3 1073741824 = true := by simp only [nle_t]; omega
    have m5 : nle s.n4 1073741824 = true := by simp only [nle_t]; omega
    have m6 : nle s.ns 1000000 = true := by simp only [nle_t]; omega
    obtain ⟨k1, k2⟩ := (SR.ok_iff2 s).1 c1
    obtain ⟨_, kw, _⟩ := k1
    have f1 : ({ s with tl := accT s.hd s.tl s.md (ofN s.ns) } : SR).fit = true := SR.fit_of hb (accT_in kw) rfl (Nat.le_refl _) (Nat.le_refl _) (Nat.le_refl _) (Nat.le_refl _) rfl rfl
    have f2 : ({ s with hd := evH s.hd s.tl s.md (ofN s.ns) (gI s.rg (nOf id)) } : SR).fit = true := SR.fit_of hb (evH_in kw) rfl (Nat.le_refl _) (Nat.le_refl _) (Nat.le_refl _) (Nat.le_refl _) rfl rfl
    have f3 : ({ s with ee := comeE s.ee s.l4, n4 := lenI (oneL1 s.ee s.l4), l4 := oneL1 s.ee s.l4 } : SR).fit = true := SR.fit_of hb hi rfl (Nat.le_refl _) (Nat.le_refl _) (Nat.le_refl _) (by show (oneL1 s.ee s.l4).length ≤ s.n4; rw [← wf.l4]; exact oneL1_len _ _) rfl rfl
    have nn : bnot true = false := rfl
    have bt1 : ∀ (t : SR) (a b c d : Int), band (ile 0 id) (ilt id (ofN (t.tell a b c d).nt)) = band (ile 0 id) (ilt id (ofN t.nt)) := fun t a b c d => by rw [SR.tell_nt]
    have bt2 : ∀ (t : SR) (a b c d : Int), nlt (nOf id) (t.tell a b c d).nt = nlt (nOf id) t.nt := fun t a b c d => by rw [SR.tell_nt]
    have bw1 : ∀ (t : SR) (a : Int), band (ile 0 id) (ilt id (ofN (t.wake a).nt)) = band (ile 0 id) (ilt id (ofN t.nt)) := fun t a => by rw [SR.wake_nt]
    have bw2 : ∀ (t : SR) (a : Int), nlt (nOf id) (t.wake a).nt = nlt (nOf id) t.nt := fun t a => by rw [SR.wake_nt]
    have hp := thOk_iff.1 (k2 id.toNat q)
    obtain ⟨_, _, _, _, _, ⟨p0, p1, p2, p3, _⟩, _⟩ := hp
    have htr : iadd .i64 (gI s.tr (nOf id)) 1 = gI s.tr (nOf id) + 1 := by
     have : gI s.tr (nOf id) = s.tr.getD id.toNat 0 := rfl
     rw [iadd_e, wr (by omega) (by omega)]
    simp only [c, hb, hi, b1, b2, nn, m1, m2, m3, m4, m5, m6, f1, f2, f3, bt1, bt2, bw1, bw2, htr, asrt_tt, br_ff]
    have hp : s.pc.getD id.toNat 0 = 0 ∨ s.pc.getD id.toNat 0 = 1 ∨ s.pc.getD id.toNat 0 = 2 ∨ s.pc.getD id.toNat 0 = 3 ∨ s.pc.getD id.toNat 0 = 4 ∨ s.pc.getD id.toNat 0 = 5 ∨ s.pc.getD id.toNat 0 = 6 ∨ s.pc.getD id.toNat 0 = 7 ∨ s.pc.getD id.toNat 0 = 8 ∨ s.pc.getD id.toNat 0 = 9 ∨ s.pc.getD id.toNat 0 = 10 ∨ s.pc.getD id.toNat 0 = 11 := by omega
    rcases hp with hp | hp | hp | hp | hp | hp | hp | hp | hp | hp | hp | hp
    all_goals
     have hp' : gI s.pc (nOf id) = _ := hp
     simp only [hp', ieq_d, Int.reduceEq, decide_true, decide_false, br_tt, br_ff]
    ·have e : SR.send s id = s.sEnter id := by unfold SR.send; rw [if_pos c, hp]; rfl
     rw [e]; rfl
    ·have e : SR.send s id = s.sFirst id := by unfold SR.send; rw [if_pos c, hp]; rfl
     rw [e]; unfold SR.sFirst
     by_cases h1 : placeAt s.l1 id = 0
     ·simp only [h1, decide_true, br_tt, if_true]; rfl
     ·simp only [h1, decide_false, br_ff, if_false]
      cases h2 : s.lt.getD id.toNat false with
      | true =>
       have h2' : gB s.lt (nOf id) = true := h2
       simp only [h2', br_tt, if_true]; rfl
      | false =>
       have h2' : gB s.lt (nOf id) = false := h2
       simp only [h2', br_ff, Bool.false_eq_true, if_false]
       rfl
    ·have e : SR.send s id = s.sLook id := by unfold SR.send; rw [if_pos c, hp]; rfl
     rw [e]; unfold SR.sLook
     have ha : accR s.hd s.tl s.md (ofN s.ns) = s.accR := rfl
     simp only [ha]
     by_cases h1 : s.accR = 1
     ·simp only [h1, decide_true, br_tt, if_true]; rfl
     ·simp only [h1, decide_false, br_ff, if_false]
      by_cases h2 : s.accR = 2
      ·simp only [h2, decide_true, br_tt, if_true]
       unfold SR.sFull
       by_cases h3 : s.po = 1
       ·simp only [h3, decide_true, br_tt, if_true]; rfl
       ·simp only [h3, decide_false, br_ff, if_false]
        by_cases h4 : s.po = 2
        ·simp only [h4, decide_true, br_tt, if_true]; rfl
        ·simp only [h4, decide_false, br_ff, if_false, gI_d, gB_d, nOf_e]
         by_cases h5 : s.kd.getD id.toNat 0 = 2
         ·simp only [h5, decide_true, br_tt, if_true, SR.ends]; rfl
         ·simp only [h5, decide_false, br_ff, if_false]
          cases h6 : s.lt.getD id.toNat false with
          | true => simp only [br_tt, if_true]; rfl
          | false =>
           simp only [br_ff, Bool.false_eq_true, if_false]
           by_cases h7 : waitW s.lg s.th s.po s.wt s.sp s.yi (s.tr.getD id.toNat 0) = 2
           ·simp only [h7, decide_true, br_tt, if_true]; rfl
           ·simp only [h7, decide_false, br_ff, if_false]; rfl
      ·simp only [h2, decide_false, br_ff, if_false]; rfl
    ·have e : SR.send s id = s.sWrite id := by unfold SR.send; rw [if_pos c, hp]; rfl
     rw [e]; unfold SR.sWrite
     simp only [gI_d, nOf_e]
     by_cases h1 : wrE s.ns s.ss (s.rg.getD id.toNat 0) 30 = 0
     ·simp only [h1, decide_true, br_tt, if_true]; rfl
     ·simp only [h1, decide_false, br_ff, if_false]; rfl
    ·have e : SR.send s id = s.sAccept id := by unfold SR.send; rw [if_pos c, hp]; rfl
     rw [e]; unfold SR.sAccept
     have ha : accR s.hd s.tl s.md (ofN s.ns) = s.accR := rfl
     simp only [ha]
     by_cases h1 : s.accR = 1
     ·simp only [h1, decide_true, br_tt, if_true]; rfl
     ·have ht : accT s.hd s.tl s.md (ofN s.ns) = s.tl := by unfold accT; exact if_neg h1
      simp only [h1, decide_false, br_ff, if_false, ht]
      by_cases h2 : s.accR = 2
      ·simp only [h2, decide_true, br_tt, if_true]; rfl
      ·simp only [h2, decide_false, br_ff, if_false]; rfl
    ·have e : SR.send s id = s.sPrep id := by unfold SR.send; rw [if_pos c, hp]; rfl
     rw [e]; rfl
    ·have e : SR.send s id = s.sNotify id := by unfold SR.send; rw [if_pos c, hp]; rfl
     rw [e]; unfold SR.sNotify
     cases h1 : oneB s.ee s.l4 with
     | true => simp only [br_tt, if_true]; rfl
     | false => simp only [br_ff, Bool.false_eq_true, if_false]; rfl
    ·have e : SR.send s id = s.sAgain id := by unfold SR.send; rw [if_pos c, hp]; rfl
     rw [e]; unfold SR.sAgain
     have ha : accR s.hd s.tl s.md (ofN s.ns) = s.accR := rfl
     simp only [ha, gI_d, gB_d, nOf_e]
     by_cases h1 : s.accR = 2
     ·simp only [h1, decide_true, bimp_tt, bite_tt, asrt_tt, true_and]
      cases h2 : s.lt.getD id.toNat false with
      | true => simp only [nn, br_ff, Bool.true_eq_false, if_false]; rfl
      | false => simp only [show bnot false = true from rfl, br_tt, if_true]; rfl
     ·simp only [h1, decide_false, bimp_ff, bite_ff, asrt_tt, br_ff, false_and, if_false]; rfl
    ·have e : SR.send s id = s.sCommit id := by unfold SR.send; rw [if_pos c, hp]; rfl
     rw [e]; unfold SR.sCommit
     simp only [gI_d, gB_d, nOf_e]
     cases h2 : s.lt.getD id.toNat false with
     | true => simp only [br_tt, if_true]; rfl
     | false =>
      simp only [br_ff, Bool.false_eq_true, if_false]
      cases h3 : commitB s.fe s.l3 (s.sn.getD id.toNat 0) id with
      | true =>
       have h4 : put s.lt id.toNat false = s.lt := by have := putB_self s.lt id.toNat; rw [h2] at this; exact this
       simp only [br_tt, if_true, put_self, h4]; rfl
      | false => simp only [br_ff, Bool.false_eq_true, if_false]; rfl
    ·have e : SR.send s id = s.sLeave id := by unfold SR.send; rw [if_pos c, hp]; rfl
     rw [e]; unfold SR.sLeave SR.done
     simp only [gI_d, gB_d, nOf_e, put_self, hp]
     rfl
    ·have e : SR.send s id = s.sEvict id := by unfold SR.send; rw [if_pos c, hp]; rfl
     rw [e]; unfold SR.sEvict
     simp only [gI_d, gB_d, nOf_e]
     have ha : evB s.hd s.tl s.md (ofN s.ns) (s.rg.getD id.toNat 0) = evB s.hd s.tl s.md s.ns (s.rg.getD id.toNat 0) := rfl
     simp only [ha]
     cases h1 : evB s.hd s.tl s.md s.ns (s.rg.getD id.toNat 0) with
     | true => simp only [nn, br_ff, if_true]; rfl
     | false =>
      have ht : evH s.hd s.tl s.md (ofN s.ns) (s.rg.getD id.toNat 0) = s.hd := by unfold evH; rw [ha, h1]; rfl
      simp only [show bnot false = true from rfl, br_tt, Bool.false_eq_true, if_false, ht]; rfl
    ·have e : SR.send s id = s.sRelease id := by unfold SR.send; rw [if_pos c, hp]; rfl
     rw [e]; unfold SR.sRelease
     simp only [gI_d, gB_d, nOf_e]
     by_cases h1 : relE s.ns s.ss (s.rg.getD id.toNat 0) = 0
     ·simp only [h1, decide_true, br_tt, if_true]; rfl
     ·simp only [h1, decide_false, br_ff, if_false]; rfl
  ·cases h
 ·cases h
def SR.rEnter (s : SR) (id : Int) : SR := { s with n2 := lenI (enterL s.l2 id), l2 := enterL s.l2 id, pc := s.pc.set id.toNat 1 }
def SR.rFirst (s : SR) (id : Int) : SR := if placeAt s.l2 id = 0 then s.at id 2 else if s.lt.getD id.toNat false then s.ends id 5 else s.tries id
def SR.rVain (s : SR) (id : Int) : SR :=
 if s.kd.getD id.toNat 0 = 5 then s.ends id 4
 else if s.lt.getD id.toNat false then s.ends id 5
 else if waitW s.lg s.th s.po s.wt s.sp s.yi (s.tr.getD id.toNat 0) = 2 then s.at id 5
 else s.tries id
def SR.rLook (s : SR) (id : Int) : SR := if s.takR = 1 then s.at id 3 else if s.takR = 4 then s.rVain id else s.ends id s.takR
def SR.rTake (s : SR) (id : Int) : SR :=
 if s.takR = 1 then (SR.tell { s with hd := takH s.hd s.tl s.md s.ns, rg := s.rg.set id.toNat (takP s.hd s.tl s.md s.ns) } id (s.kd.getD id.toNat 0) 1 (s.value (takP s.hd s.tl s.md s.ns))).at id 4
 else if s.takR = 4 then s.at id 2
 else s.ends id s.takR
def SR.rRead (s : SR) (id : Int) : SR := { s with gt := s.gt.set id.toNat (rdV s.ns s.ss s.sv (s.rg.getD id.toNat 0)), ss := relS s.ns s.ss (s.rg.getD id.toNat 0), pc := s.pc.set id.toNat 6 }
def SR.rPrep (s : SR) (id : Int) : SR := { s with sn := s.sn.set id.toNat (prepE s.ee s.l4), pc := s.pc.set id.toNat 7 }
def SR.rungF (s : SR) : SR := { s with fe := comeE s.fe s.l3, n3 := lenI (oneL1 s.fe s.l3), l3 := oneL1 s.fe s.l3 }
def SR.rNotify (s : SR) (id : Int) : SR := (if oneB s.fe s.l3 then s.rungF.wake (tellV s.fe s.l3) else s.rungF).at id 9
def SR.rAgain (s : SR) (id : Int) : SR := if s.takR = 4 ∧ s.lt.getD id.toNat false = false then s.at id 8 else s.at id 2
def SR.rCommit (s : SR) (id : Int) : SR :=
 if s.lt.getD id.toNat false then s.at id 2
 else
  let t : SR := { s with n4 := lenI (commitL s.ee s.l4 (s.sn.getD id.toNat 0) id), l4 := commitL s.ee s.l4 (s.sn.getD id.toNat 0) id, pc := s.pc.set id.toNat 2 }
  if commitB s.ee s.l4 (s.sn.getD id.toNat 0) id then t.park id 2 else t
def SR.rLeave (s : SR) (id : Int) : SR := SR.done { s with n2 := lenI (leaveL s.l2 id), l2 := leaveL s.l2 id } id
def SR.recv (s : SR) (id : Int) : SR :=
 if s.does id 2 then
  match s.pc.getD id.toNat 0 with
  | 0 => s.rEnter id
  | 1 => s.rFirst id
  | 2 => s.rLook id
  | 3 => s.rTake id
  | 4 => s.rRead id
  | 5 => s.rPrep id
  | 6 => s.rNotify id
  | 7 => s.rAgain id
  | 8 => s.rCommit id
  | _ => s.rLeave id
 else s
def Frecvr : Pure1 := fun
 | [a_s, .int .i64 id] => (match asSR a_s with | some s => some (some (SR.fit s), .bool (SR.does s id 2)) | none => none)
 | _ => none
theorem vc_recvr (s : SR) (id : Int) (r : AV) : VC Tryz.prog (tabS tabX0) noL false 124 [s.av, .int .i64 id] r = (
 asrt s.fitW (asrt (bimp (bite (bite s.ok (ige id 0) false) (ilt id (ofN s.25)) false) (band (ile 0 id) (ilt id (ofN s.25)))) (asrt (bimp (bite (bite (bite s.ok (ige id 0) false)
 (ilt id (ofN s.25)) false) (ieq (thRuns (gI s.26 (nOf id))) 0) false) (band (ile 0 id) (ilt id (ofN s.25)))) (some (AV.bool (bite (bite (bite (bite s.ok (ige id 0) false) (ilt id
 (ofN s.25)) false) (ieq (thRuns (gI s.26 (nOf id))) 0) false) (ieq (opSide (gI s.27 (nOf id))) 2) false)) = some r)))) := by kernel_rfl
theorem ok_recvr : PureOK Tryz.prog 124 Frecvr := by
 refine tab_plain mixed (l := tabX0) ok_tabX0 false (by kernel_rfl) fun xs b r h hb wf => ?_
 unfold Frecvr at h
 split at h
 ·rename_i a_s id
  split at h
  ·rename_i s h_s
   obtain rfl := asSR_some h_s
   cases h
   try rw [some_f] at hb
   simp only [WFL, WF, List.mem_cons, List.not_mem_nil, or_false, forall_eq_or_imp, forall_eq, Col.len, and_true, true_and, wf_av] at wf
   rw [vc_recvr]
   simp only [bite_and, bite_or]
   by_cases c1 : s.ok = true
   ·by_cases c2 : 0 ≤ id
    ·by_cases c3 : id < s.nt
     ·simp [owl, SR.fitW_fit, SR.wid_fit, hb, c1, c2, c3, SR.does, SR.is]
      try (rw [Bool.eq_iff_iff]; simp [owl])
      try (intros; omega)
     ·simp [owl, SR.fitW_fit, SR.wid_fit, hb, c1, c2, c3, SR.does, SR.is]
    ·have c3 : id < s.nt := by omega
     simp [owl, SR.fitW_fit, SR.wid_fit, hb, c1, c2, c3, SR.does, SR.is]
   ·simp [owl, SR.fitW_fit, SR.wid_fit, hb, c1, SR.does, SR.is]
  ·cases h
 ·cases h
def Frsees : Pure1 := fun
 | [.ip [.int .i64 lg, .int .i64 th, .int .i64 po, .int .i64 wt, .int .i64 sp, .int .i64 yi, .bool sg, .int .i64 hd, .int .i64 tl, .int .i64 md, .sl ns [.int .i64 ss, .int .i64 sv], .sl n1 [.int .i64 l1], .sl n2 [.int .i64 l2], .int .i64 fe, .sl n3 [.int .i64 l3], .int .i64 ee, .sl n4 [.int .i64 l4], .int .i64 now, .sl nt [.int .i64 st, .int .i64 kd, .int .i64 vl, .int .i64 un, .int .i64 pc, .int .i64 rg, .int .i64 sn, .int .i64 tr, .bool lt, .int .i64 rs, .int .i64 gt], .sl nl [.int .i64 c0, .int .i64 ks, .int .i64 vs, .int .i64 rr, .int .i64 gs], .int .i64 id]] => some (some (in64 hd tl), .int .i64 (Go.Own.takR hd tl md ns))
 | _ => none
theorem vc_rsees (lg th po wt sp yi : Int) (sg : Bool) (hd tl md : Int) (ns : Nat) (ss sv : List Int) (n1 : Nat) (l1 : List Int) (n2 : Nat) (l2 : List Int) (fe : Int) (n3 : Nat) (l3 : List Int) (ee : Int) (n4 : Nat) (l4 : List Int) (now : Int) (nt : Nat) (st kd vl un pc rg sn tr : List Int) (lt : List Bool) (rs gt : List Int) (nl : Nat) (c0 ks vs rr gs : List Int) (id : Int) (r : AV) : VC Tryz.prog (tabS tabX0) noL false 164 [.ip [.int .i64 lg, .int .i64 th, .int .i64 po, .int .i64 wt, .int .i64 sp, .int .i64 yi, .bool sg, .int .i64 hd, .int .i64 tl, .int .i64 md, .sl ns [.int .i64 ss, .int .i64 sv], .sl n1 [.int .i64 l1], .sl n2 [.int .i64 l2], .int .i64 fe, .sl n3 [.int .i64 l3], .int .i64 ee, .sl n4 [.int .i64 l4], .int .i64 now, .sl nt [.int .i64 st, .int .i64 kd, .int .i64 vl, .int .i64 un, .int .i64 pc, .int .i64 rg, .int .i64 sn, .int .i64 tr, .bool lt, .int .i64 rs, .int .i64 gt], .sl nl [.int .i64 c0, .int .i64 ks, .int .i64 vs, .int .i64 rr, .int .i64 gs], .int .i64 id]] r = (
 asrt (in64 hd tl) (some (AV.int .i64 (takR hd tl md (ofN ns))) = some r)) := by kernel_rfl
theorem ok_rsees : PureOK Tryz.prog 164 Frsees := by
 refine tab_plain mixed (l := tabX0) ok_tabX0 false (by kernel_rfl) fun xs b r h hb wf => ?_
 unfold Frsees at h
 split at h
 ·rename_i lg th po wt sp yi sg hd tl md ns ss sv n1 l1 n2 l2 fe n3 l3 ee n4 l4 now nt st kd vl un pc rg sn tr lt rs gt nl c0 ks vs rr gs id
  cases h
  try rw [some_f] at hb
  try simp only [WFL, WF, List.mem_cons, List.not_mem_nil, or_false, forall_eq_or_imp, forall_eq, Col.len, and_true, true_and] at wf
  rw [vc_rsees]
  rw [hb]
  rfl
 ·cases h
def tabX2 : List (FuncId × Pure1) := [(124, Frecvr), (164, Frsees)] ++ tabX1
theorem ok_tabX2 : ∀ p ∈ tabX2, PureOK Tryz.prog p.1 p.2 := by
 intro p hp
 simp only [tabX2, List.mem_append, List.mem_cons, List.not_mem_nil, or_false] at hp
 rcases hp with (rfl | rfl) | hp
 ·exact ok_recvr
 ·exact ok_rsees
 ·exact ok_tabX1 p hp
def Frecv : Pure1 := fun
 | [a_s, .int .i64 id] => (match asSR a_s with | some s => some (some (SR.fit s), SR.new (SR.recv s id)) | none => none)
 | _ => none
def zq54 (s : SR) (id : Int) : Bool :=
 band (ile 0 id) (ilt id (ofN (s.wake (-1)).25))
def zq55 (s : SR) (id : Int) : Bool :=
 nlt (nOf id) (s.wake (-1)).25
def zq56 (s : SR) (id : Int) : Int :=
 gI (s.wake (-1)).27 (nOf id)
def zq57 (s : SR) : Int :=
 gI (s.wake (-1)).13 (nOf (placeOf (takP (s.wake (-1)).8 (s.wake (-1)).9 (s.wake (-1)).10 (ofN (s.wake (-1)).11)) (ofN (s.wake (-1)).11)))
def zq58 (s : SR) : Bool :=
 band (s.wake (-1)).ok (ile 0 (takP (s.wake (-1)).8 (s.wake (-1)).9 (s.wake (-1)).10 (ofN (s.wake (-1)).11)))
def zq59 (s : SR) : Bool :=
 ieq (takR (s.wake (-1)).8 (s.wake (-1)).9 (s.wake (-1)).10 (Int.ofNat (s.wake (-1)).11)) 4
def zq60 (s : SR) (id : Int) : AV :=
 AV.agg (SR.nw { (s.wake (-1)) with pc := (put (s.wake (-1)).30 (nOf id) 2) })
def zq61 (s : SR) (id : Int) : Int :=
 gI (s.wake (-1)).26 (nOf id)
def zq62 (s : SR) (id : Int) : Int :=
 gI (s.wake (-1)).30 (nOf id)
def zq63 (s : SR) (id : Int) : AV :=
 AV.agg (SR.nw { (s.wake (-1)) with tr := (put (s.wake (-1)).33 (nOf id) (imin (iadd .i64 (gI (s.wake (-1)).33 (nOf id)) 1) 1099511627776)) })
def zq64 (s : SR) (id : Int) : AV :=
 AV.agg (SR.nw { ((s.wake (-1)).tell id (zq56 s id) 5 0) with pc := (put ((s.wake (-1)).tell id (zq56 s id) 5 0).30 (nOf id) 9) })
def zq65 (s : SR) (id : Int) : Int :=
 gI (s.wake (-1)).32 (nOf id)
def zq66 (s : SR) (id : Int) : List Int :=
 put (s.wake (-1)).33 (nOf id) (invI (thRuns (zq61 s id)) 0 (gI (s.wake (-1)).33 (nOf id)))
def zq67 (s : SR) (id : Int) : Bool :=
 band (ile 0 id) (ilt id (ofN ((s.wake (-1)).tell id (zq56 s id) 5 0).25))
def zq68 (s : SR) (id : Int) : List Int :=
 put (s.wake (-1)).30 (nOf id) 2
theorem vc_recv (s : SR) (id : Int) (r : AV) : VC Tryz.prog (meTab [(123, 18, 20), (126, 18, 20)] tabX2) noL true 93 [s.av, .int .i64 id] r = (
 asrt s.fit (asrt s.fit (br (bnot (s.does id 2)) (some (AV.agg (SR.nw (s.wake (-1)))) = some r) (asrt (zq54 s id) (asrt (zq55 s id) (br (ieq (zq62 s id) 0) (asrt (nlt (s.wake
 (-1)).16 1073741824) (asrt (zq54 s id) (asrt (zq55 s id) (some (AV.agg (SR.nw
 { (s.wake (-1)) with n2 := (lenI (enterL (s.wake (-1)).17 id)), l2 := (enterL (s.wake (-1)).17 id), pc := (put (s.wake (-1)).30 (nOf id) 1) })) = some r)))) (br (ieq (zq62 s id) 1)
 (asrt (nle (s.wake (-1)).16 1073741824) (br (ieq (placeAt (s.wake (-1)).17 id) 0) (asrt (zq54 s id) (asrt (zq55 s id) (some (zq60 s id) = some r))) (asrt (zq54 s id) (asrt (zq55 s
 id) (br (gB (s.wake (-1)).34 (nOf id)) (asrt (zq54 s id) (asrt (zq55 s id) (asrt (s.wake (-1)).fit (asrt (zq67 s id) (asrt (nlt (nOf id) ((s.wake (-1)).tell id (zq56 s id) 5 0).25)
 (some (zq64 s id) = some r)))))) (asrt (zq54 s id) (asrt (zq54 s id) (asrt (zq55 s id) (asrt (zq55 s id) (some (zq63 s id) = some r)))))))))) (br (ieq (zq62 s id) 2) (asrt (in64
 (s.wake (-1)).8 (s.wake (-1)).9) (br (ieq (takR (s.wake (-1)).8 (s.wake (-1)).9 (s.wake (-1)).10 (Int.ofNat (s.wake (-1)).11)) 1) (asrt (zq54 s id) (asrt (zq55 s id) (some (AV.agg
 (SR.nw { (s.wake (-1)) with pc := (put (s.wake (-1)).30 (nOf id) 3) })) = some r))) (br (zq59 s) (asrt (zq54 s id) (asrt (zq55 s id) (br (ieq (zq56 s id) 5) (asrt (zq54 s id) (asrt
 (zq55 s id) (asrt (s.wake (-1)).fit (asrt (band (ile 0 id) (ilt id (ofN ((s.wake (-1)).tell id (zq56 s id) 4 0).25))) (asrt (nlt (nOf id) ((s.wake (-1)).tell id (zq56 s id) 4 0).25)
 (some (AV.agg (SR.nw { ((s.wake (-1)).tell id (zq56 s id) 4 0) with pc := (put ((s.wake (-1)).tell id (zq56 s id) 4 0).30 (nOf id) 9) })) = some r)))))) (asrt (zq55 s id) (br (gB
 (s.wake (-1)).34 (nOf id)) (asrt (zq54 s id) (asrt (zq55 s id) (asrt (s.wake (-1)).fit (asrt (zq67 s id) (asrt (nlt (nOf id) ((s.wake (-1)).tell id (zq56 s id) 5 0).25) (some (zq64
 s id) = some r)))))) (asrt (zq55 s id) (br (ieq (waitW (s.wake (-1)).1 (s.wake (-1)).2 (s.wake (-1)).3 (s.wake (-1)).4 (s.wake (-1)).5 (s.wake (-1)).6 (gI (s.wake (-1)).33 (nOf
 id))) 2) (asrt (zq54 s id) (asrt (zq55 s id) (some (AV.agg (SR.nw { (s.wake (-1)) with pc := (put (s.wake (-1)).30 (nOf id) 5) })) = some r))) (asrt (zq54 s id) (asrt (zq54 s id)
 (asrt (zq55 s id) (asrt (zq55 s id) (some (zq63 s id) = some r)))))))))))) (asrt (zq54 s id) (asrt (zq55 s id) (asrt (s.wake (-1)).fit (asrt (band (ile 0 id) (ilt id (ofN ((s.wake
 (-1)).tell id (zq56 s id) (takR (s.wake (-1)).8 (s.wake (-1)).9 (s.wake (-1)).10 (Int.ofNat (s.wake (-1)).11)) 0).25))) (asrt (nlt (nOf id) ((s.wake (-1)).tell id (zq56 s id) (takR
 (s.wake (-1)).8 (s.wake (-1)).9 (s.wake (-1)).10 (Int.ofNat (s.wake (-1)).11)) 0).25) (some (AV.agg (SR.nw
 { ((s.wake (-1)).tell id (zq56 s id) (takR (s.wake (-1)).8 (s.wake (-1)).9 (s.wake (-1)).10 (Int.ofNat (s.wake (-1)).11)) 0) with pc := (put ((s.wake (-1)).tell id (zq56 s id) (takR (s.wake (-1)).8 (s.wake (-1)).9 (s.wake (-1)).10 (Int.ofNat (s.wake (-1)).11)) 0).30 (nOf id) 9) }))
 = some r))))))))) (br (ieq (zq62 s id) 3) (asrt (in64 (s.wake (-1)).8 (s.wake (-1)).9) (br (ieq (takR (s.wake (-1)).8 (s.wake (-1)).9 (s.wake (-1)).10 (ofN (s.wake (-1)).11)) 1)
 (asrt (s.wake (-1)).fit (asrt (zq54 s id) (asrt (zq55 s id) (asrt (zq54 s id) (asrt (zq55 s id) (asrt
 { (s.wake (-1)) with hd := takH (s.wake (-1)).8 (s.wake (-1)).9 (s.wake (-1)).10 (ofN (s.wake (-1)).11), rg := put (s.wake (-1)).31 (nOf id) (takP (s.wake (-1)).8 (s.wake (-1)).9 (s.wake (-1)).10 (ofN (s.wake (-1)).11)) }.fit
 (asrt (band (ile 0 id) (ilt id (ofN
 ({ (s.wake (-1)) with hd := takH (s.wake (-1)).8 (s.wake (-1)).9 (s.wake (-1)).10 (ofN (s.wake (-1)).11), rg := put (s.wake (-1)).31 (nOf id) (takP (s.wake (-1)).8 (s.wake (-1)).9 (s.wake (-1)).10 (ofN (s.wake (-1)).11)) }.tell
 id (zq56 s id) (takR (s.wake (-1)).8 (s.wake (-1)).9 (s.wake (-1)).10 (ofN (s.wake (-1)).11)) (iite (zq58 s) (zq57 s) 0)).25))) (asrt (nlt (nOf id)
 ({ (s.wake (-1)) with hd := takH (s.wake (-1)).8 (s.wake (-1)).9 (s.wake (-1)).10 (ofN (s.wake (-1)).11), rg := put (s.wake (-1)).31 (nOf id) (takP (s.wake (-1)).8 (s.wake (-1)).9 (s.wake (-1)).10 (ofN (s.wake (-1)).11)) }.tell
 id (zq56 s id) (takR (s.wake (-1)).8 (s.wake (-1)).9 (s.wake (-1)).10 (ofN (s.wake (-1)).11)) (iite (zq58 s) (zq57 s) 0)).25) (some (AV.agg (SR.nw
 { ({ (s.wake (-1)) with hd := takH (s.wake (-1)).8 (s.wake (-1)).9 (s.wake (-1)).10 (ofN (s.wake (-1)).11), rg := put (s.wake (-1)).31 (nOf id) (takP (s.wake (-1)).8 (s.wake (-1)).9 (s.wake (-1)).10 (ofN (s.wake (-1)).11)) }.tell id (zq56 s id) (takR (s.wake (-1)).8 (s.wake (-1)).9 (s.wake (-1)).10 (ofN (s.wake (-1)).11)) (iite (zq58 s) (zq57 s) 0)) with pc := (put ({ (s.wake (-1)) with hd := takH (s.wake (-1)).8 (s.wake (-1)).9 (s.wake (-1)).10 (ofN (s.wake (-1)).11), rg := put (s.wake (-1)).31 (nOf id) (takP (s.wake (-1)).8 (s.wake (-1)).9 (s.wake (-1)).10 (ofN (s.wake (-1)).11)) }.tell id (zq56 s id) (takR (s.wake (-1)).8 (s.wake (-1)).9 (s.wake (-1)).10 (ofN (s.wake (-1)).11)) (iite (zq58 s) (zq57 s) 0)).30 (nOf id) 4) }))
 = some r))))))))) (br (ieq (takR (s.wake (-1)).8 (s.wake (-1)).9 (s.wake (-1)).10 (ofN (s.wake (-1)).11)) 4) (asrt (zq54 s id) (asrt (zq55 s id) (some (zq60 s id) = some r))) (asrt
 (zq54 s id) (asrt (zq55 s id) (asrt (s.wake (-1)).fit (asrt (band (ile 0 id) (ilt id (ofN ((s.wake (-1)).tell id (zq56 s id) (takR (s.wake (-1)).8 (s.wake (-1)).9 (s.wake (-1)).10
 (ofN (s.wake (-1)).11)) 0).25))) (asrt (nlt (nOf id) ((s.wake (-1)).tell id (zq56 s id) (takR (s.wake (-1)).8 (s.wake (-1)).9 (s.wake (-1)).10 (ofN (s.wake (-1)).11)) 0).25) (some
 (AV.agg (SR.nw
 { ((s.wake (-1)).tell id (zq56 s id) (takR (s.wake (-1)).8 (s.wake (-1)).9 (s.wake (-1)).10 (ofN (s.wake (-1)).11)) 0) with pc := (put ((s.wake (-1)).tell id (zq56 s id) (takR (s.wake (-1)).8 (s.wake (-1)).9 (s.wake (-1)).10 (ofN (s.wake (-1)).11)) 0).30 (nOf id) 9) }))
 = some r))))))))) (br (ieq (zq62 s id) 4) (asrt (zq54 s id) (asrt (zq55 s id) (asrt (nle (s.wake (-1)).11 1000000) (asrt (zq55 s id) (asrt (zq55 s id) (asrt (nle (s.wake (-1)).11
 1000000) (asrt (zq54 s id) (asrt (zq55 s id) (some (AV.agg (SR.nw
 { (s.wake (-1)) with ss := (relS (s.wake (-1)).11 (s.wake (-1)).12 (gI (s.wake (-1)).31 (nOf id))), pc := (put (s.wake (-1)).30 (nOf id) 6), gt := (put (s.wake (-1)).36 (nOf id) (rdV (s.wake (-1)).11 (s.wake (-1)).12 (s.wake (-1)).13 (gI (s.wake (-1)).31 (nOf id)))) }))
 = some r))))))))) (br (ieq (zq62 s id) 5) (asrt (zq54 s id) (asrt (nle (s.wake (-1)).22 1073741824) (asrt (zq55 s id) (asrt (zq54 s id) (asrt (zq55 s id) (some (AV.agg (SR.nw
 { (s.wake (-1)) with pc := (put (s.wake (-1)).30 (nOf id) 7), sn := (put (s.wake (-1)).32 (nOf id) (prepE (s.wake (-1)).21 (s.wake (-1)).23)) })) = some r)))))) (br (ieq (zq62 s id)
 6) (asrt (nle (s.wake (-1)).19 1073741824) (br (oneB (s.wake (-1)).18 (s.wake (-1)).20) (asrt
 { (s.wake (-1)) with fe := comeE (s.wake (-1)).18 (s.wake (-1)).20, n3 := lenI (oneL1 (s.wake (-1)).18 (s.wake (-1)).20), l3 := oneL1 (s.wake (-1)).18 (s.wake (-1)).20 }.fit (asrt
 (band (ile 0 id) (ilt id (ofN
 ({ (s.wake (-1)) with fe := comeE (s.wake (-1)).18 (s.wake (-1)).20, n3 := lenI (oneL1 (s.wake (-1)).18 (s.wake (-1)).20), l3 := oneL1 (s.wake (-1)).18 (s.wake (-1)).20 }.wake
 (tellV (s.wake (-1)).18 (s.wake (-1)).20)).25))) (asrt (nlt (nOf id)
 ({ (s.wake (-1)) with fe := comeE (s.wake (-1)).18 (s.wake (-1)).20, n3 := lenI (oneL1 (s.wake (-1)).18 (s.wake (-1)).20), l3 := oneL1 (s.wake (-1)).18 (s.wake (-1)).20 }.wake
 (tellV (s.wake (-1)).18 (s.wake (-1)).20)).25) (some (AV.agg (SR.nw
 { ({ (s.wake (-1)) with fe := comeE (s.wake (-1)).18 (s.wake (-1)).20, n3 := lenI (oneL1 (s.wake (-1)).18 (s.wake (-1)).20), l3 := oneL1 (s.wake (-1)).18 (s.wake (-1)).20 }.wake (tellV (s.wake (-1)).18 (s.wake (-1)).20)) with pc := (put ({ (s.wake (-1)) with fe := comeE (s.wake (-1)).18 (s.wake (-1)).20, n3 := lenI (oneL1 (s.wake (-1)).18 (s.wake (-1)).20), l3 := oneL1 (s.wake (-1)).18 (s.wake (-1)).20 }.wake (tellV (s.wake (-1)).18 (s.wake (-1)).20)).30 (nOf id) 9) }))
 = some r)))) (asrt (zq54 s id) (asrt (zq55 s id) (some (AV.agg (SR.nw
 { (s.wake (-1)) with fe := (comeE (s.wake (-1)).18 (s.wake (-1)).20), n3 := (lenI (oneL1 (s.wake (-1)).18 (s.wake (-1)).20)), l3 := (oneL1 (s.wake (-1)).18 (s.wake (-1)).20), pc := (put (s.wake (-1)).30 (nOf id) 9) }))
 = some r))))) (br (ieq (zq62 s id) 7) (asrt (zq54 s id) (asrt (zq55 s id) (asrt (in64 (s.wake (-1)).8 (s.wake (-1)).9) (asrt (bimp (zq59 s) (zq54 s id)) (asrt (bimp (zq59 s) (zq55 s
 id)) (br (bite (zq59 s) (bnot (gB (s.wake (-1)).34 (nOf id))) false) (asrt (zq54 s id) (asrt (zq55 s id) (some (AV.agg (SR.nw
 { (s.wake (-1)) with pc := (put (zq68 s id) (nOf id) 8) })) = some r))) (some (zq60 s id) = some r))))))) (br (ieq (zq62 s id) 8) (asrt (zq54 s id) (asrt (zq55 s id) (asrt (zq54 s
 id) (asrt (zq55 s id) (br (gB (s.wake (-1)).34 (nOf id)) (some (zq60 s id) = some r) (asrt (zq54 s id) (asrt (zq55 s id) (asrt (nlt (s.wake (-1)).22 1073741824) (br (commitB (s.wake
 (-1)).21 (s.wake (-1)).23 (zq65 s id) id) (asrt (zq54 s id) (asrt (zq54 s id) (asrt (zq55 s id) (asrt (zq55 s id) (some (AV.agg (SR.nw
 { (s.wake (-1)) with n4 := (lenI (commitL (s.wake (-1)).21 (s.wake (-1)).23 (zq65 s id) id)), l4 := (commitL (s.wake (-1)).21 (s.wake (-1)).23 (zq65 s id) id), st := (put (s.wake (-1)).26 (nOf id) (invI (thRuns (zq61 s id)) 2 (zq61 s id))), kd := (put (s.wake (-1)).27 (nOf id) (zq56 s id)), vl := (put (s.wake (-1)).28 (nOf id) (gI (s.wake (-1)).28 (nOf id))), un := (put (s.wake (-1)).29 (nOf id) (gI (s.wake (-1)).29 (nOf id))), pc := (put (zq68 s id) (nOf id) (invI (thRuns (zq61 s id)) 2 (gI (zq68 s id) (nOf id)))), rg := (put (s.wake (-1)).31 (nOf id) (gI (s.wake (-1)).31 (nOf id))), sn := (put (s.wake (-1)).32 (nOf id) (zq65 s id)), tr := (zq66 s id), lt := (put (s.wake (-1)).34 (nOf id) (gB (s.wake (-1)).34 (nOf id))), rs := (put (s.wake (-1)).35 (nOf id) (gI (s.wake (-1)).35 (nOf id))), gt := (put (s.wake (-1)).36 (nOf id) (gI (s.wake (-1)).36 (nOf id))) }))
 = some r))))) (some (AV.agg (SR.nw
 { (s.wake (-1)) with n4 := (lenI (commitL (s.wake (-1)).21 (s.wake (-1)).23 (zq65 s id) id)), l4 := (commitL (s.wake (-1)).21 (s.wake (-1)).23 (zq65 s id) id), pc := (zq68 s id) }))
 = some r)))))))))) (asrt (nle (s.wake (-1)).16 1073741824) (asrt (zq54 s id) (asrt (zq54 s id) (asrt (zq55 s id) (asrt (zq55 s id) (some (AV.agg (SR.nw
 { (s.wake (-1)) with n2 := (lenI (leaveL (s.wake (-1)).17 id)), l2 := (leaveL (s.wake (-1)).17 id), st := (put (s.wake (-1)).26 (nOf id) (invI (thRuns (zq61 s id)) 0 (zq61 s id))), kd := (put (s.wake (-1)).27 (nOf id) (zq56 s id)), vl := (put (s.wake (-1)).28 (nOf id) (gI (s.wake (-1)).28 (nOf id))), un := (put (s.wake (-1)).29 (nOf id) (gI (s.wake (-1)).29 (nOf id))), pc := (put (s.wake (-1)).30 (nOf id) (invI (thRuns (zq61 s id)) 0 (zq62 s id))), rg := (put (s.wake (-1)).31 (nOf id) (invI (thRuns (zq61 s id)) 0 (gI (s.wake (-1)).31 (nOf id)))), sn := (put (s.wake (-1)).32 (nOf id) (invI (thRuns (zq61 s id)) 0 (zq65 s id))), tr := (zq66 s id), lt := (put (s.wake (-1)).34 (nOf id) (invB (thRuns (zq61 s id)) (gB (s.wake (-1)).34 (nOf id)))), rs := (put (s.wake (-1)).35 (nOf id) (gI (s.wake (-1)).35 (nOf id))), gt := (put (s.wake (-1)).36 (nOf id) (gI (s.wake (-1)).36 (nOf id))) }))
 = some r)))))))))))))))))))) := by kernel_rfl
theorem ok_recv : PureOK Tryz.prog 93 Frecv := by
 refine meTab_plain mixed (l := tabX2) ok_tabX2 ok_me true (by kernel_rfl) fun xs b r h hb wf => ?_
 unfold Frecv at h
 split at h
 ·rename_i a_s id
  split at h
  ·rename_i s h_s
   obtain rfl := asSR_some h_s
   cases h
   try rw [some_f] at hb
   simp only [WFL, WF, List.mem_cons, List.not_mem_nil, or_false, forall_eq_or_imp, forall_eq, Col.len, and_true, true_and, wf_av] at wf
   rw [vc_recv]
   dsimp only [SR.nw, zq54, zq55, zq56, zq57, zq58, zq59, zq60, zq61, zq62, zq63, zq64, zq65, zq66, zq67, zq68]
   simp only [SR.wake_neg]
   obtain ⟨hi, hz1, hz2, hz3, hz4, hz5, hz6, hz7⟩ := (SR.fit_iff s).1 hb
   cases c : s.does id 2 with
   | false =>
    have e : SR.recv s id = s := by unfold SR.recv; rw [if_neg (by rw [c]; simp)]
    rw [e, hb]
    rfl
   | true =>
    have hc := c
    simp only [SR.does, SR.is, Bool.and_eq_true, decide_eq_true_eq] at hc
    obtain ⟨⟨c1, c2, c3⟩, c4, c5⟩ := hc
    have q : id.toNat < s.nt := by omega
    have b1 : band (ile 0 id) (ilt id (ofN s.nt)) = true := by simp only [band_t, ile_t, ilt_t, ofN_e]; exact ⟨c2, c3⟩
    have b2 : nlt (nOf id) s.nt = true := by simp only [nlt_t, nOf_e]; exact q
    have m1 : nlt s.n2 1073741824 = true := by simp only [nlt_t]; omega
    have m2 : nle s.n2 1073741824 = true := by simp only [nle_t]; omega
    have m3 : nlt s.n4 1073741824 = true := by simp only [nlt_t]; omega
    have m4 : nle s.n4 1073741824 = true := by simp only [nle_t]; omega
    have m5 : nle s.n3 1073741824 = true := by simp only [nle_t]; omega
    have m6 : nle s.ns 1000000 = true := by simp only [nle_t]; omega
    obtain ⟨k1, k2⟩ := (SR.ok_iff2 s).1 c1
    obtain ⟨_, kw, _⟩ := k1
    have f1 : ({ s with hd := takH s.hd s.tl s.md (ofN s.ns), rg := put s.rg (nOf id) (takP s.hd s.tl s.md (ofN s.ns)) } : SR).fit = true := SR.fit_of hb (takH_in kw) rfl (Nat.le_refl _) (Nat.le_refl _) (Nat.le_refl _) (Nat.le_refl _) rfl rfl
    have f3 : ({ s with fe := comeE s.fe s.l3, n3 := lenI (oneL1 s.fe s.l3), l3 := oneL1 s.fe s.l3 } : SR).fit = true := SR.fit_of hb hi rfl (Nat.le_refl _) (Nat.le_refl _) (by show (oneL1 s.fe s.l3).length ≤ s.n3; rw [← wf.l3]; exact oneL1_len _ _) (Nat.le_refl _) rfl rfl
    have nn : bnot true = false := rfl
    have bt1 : ∀ (t : SR) (a b c d : Int), band (ile 0 id) (ilt id (ofN (t.tell a b c d).nt)) = band (ile 0 id) (ilt id (ofN t.nt)) := fun t a b c d => by rw [SR.tell_nt]
    have bt2 : ∀ (t : SR) (a b c d : Int), nlt (nOf id) (t.tell a b c d).nt = nlt (nOf id) t.nt := fun t a b c d => by rw [SR.tell_nt]
    have bw1 : ∀ (t : SR) (a : Int), band (ile 0 id) (ilt id (ofN (t.wake a).nt)) = band (ile 0 id) (ilt id (ofN t.nt)) := fun t a => by rw [SR.wake_nt]
    have bw2 : ∀ (t : SR) (a : Int), nlt (nOf id) (t.wake a).nt = nlt (nOf id) t.nt := fun t a => by rw [SR.wake_nt]
    have hp := thOk_iff.1 (k2 id.toNat q)
    obtain ⟨_, _, _, _, _, ⟨p0, p1, p2, p3, _⟩, _⟩ := hp
    have htr : iadd .i64 (gI s.tr (nOf id)) 1 = gI s.tr (nOf id) + 1 := by
     have : gI s.tr (nOf id) = s.tr.getD id.toNat 0 := rfl
     rw [iadd_e, wr (by omega) (by omega)]
    have hof : ∀ n : Nat, Int.ofNat n = ofN n := fun _ => rfl
    simp only [c, hb, hi, b1, b2, nn, m1, m2, m3, m4, m5, m6, f1, f3, bt1, bt2, bw1, bw2, htr, hof, asrt_tt, br_ff]
    have hp : s.pc.getD id.toNat 0 = 0 ∨ s.pc.getD id.toNat 0 = 1 ∨ s.pc.getD id.toNat 0 = 2 ∨ s.pc.getD id.toNat 0 = 3 ∨ s.pc.getD id.toNat 0 = 4 ∨ s.pc.getD id.toNat 0 = 5 ∨ s.pc.getD id.toNat 0 = 6 ∨ s.pc.getD id.toNat 0 = 7 ∨ s.pc.getD id.toNat 0 = 8 ∨ s.pc.getD id.toNat 0 = 9 ∨ s.pc.getD id.toNat 0 = 10 ∨ s.pc.getD id.toNat 0 = 11 := by omega
    have ha : takR s.hd s.tl s.md (ofN s.ns) = s.takR := rfl
    rcases hp with hp | hp | hp | hp | hp | hp | hp | hp | hp | hp | hp | hp
    all_goals
     have hp' : gI s.pc (nOf id) = _ := hp
     simp only [hp', ieq_d, Int.reduceEq, decide_true, decide_false, br_tt, br_ff, ha]
    ·have e : SR.recv s id = s.rEnter id := by unfold SR.recv; rw [if_pos c, hp]; rfl
     rw [e]; rfl
    ·have e : SR.recv s id = s.rFirst id := by unfold SR.recv; rw [if_pos c, hp]; rfl
     rw [e]; unfold SR.rFirst
     by_cases h1 : placeAt s.l2 id = 0
     ·simp only [h1, decide_true, br_tt, if_true]; rfl
     ·simp only [h1, decide_false, br_ff, if_false, gB_d, nOf_e]
      cases h2 : s.lt.getD id.toNat false with
      | true => simp only [br_tt, if_true]; rfl
      | false => simp only [br_ff, Bool.false_eq_true, if_false]; rfl
    ·have e : SR.recv s id = s.rLook id := by unfold SR.recv; rw [if_pos c, hp]; rfl
     rw [e]; unfold SR.rLook
     by_cases h1 : s.takR = 1
     ·simp only [h1, decide_true, br_tt, if_true]; rfl
     ·simp only [h1, decide_false, br_ff, if_false]
      by_cases h2 : s.takR = 4
      ·simp only [h2, decide_true, br_tt, if_true]
       unfold SR.rVain
       simp only [gI_d, gB_d, nOf_e]
       by_cases h5 : s.kd.getD id.toNat 0 = 5
       ·simp only [h5, decide_true, br_tt, if_true, SR.ends]; rfl
       ·simp only [h5, decide_false, br_ff, if_false]
        cases h6 : s.lt.getD id.toNat false with
        | true => simp only [br_tt, if_true]; rfl
        | false =>
         simp only [br_ff, Bool.false_eq_true, if_false]
         by_cases h7 : waitW s.lg s.th s.po s.wt s.sp s.yi (s.tr.getD id.toNat 0) = 2
         ·simp only [h7, decide_true, br_tt, if_true]; rfl
         ·simp only [h7, decide_false, br_ff, if_false]; rfl
      ·simp only [h2, decide_false, br_ff, if_false]; rfl
    ·have e : SR.recv s id = s.rTake id := by unfold SR.recv; rw [if_pos c, hp]; rfl
     rw [e]; unfold SR.rTake
     by_cases h1 : s.takR = 1
     ·simp only [h1, decide_true, br_tt, if_true]; rfl
     ·simp only [h1, decide_false, br_ff, if_false]
      by_cases h2 : s.takR = 4
      ·simp only [h2, decide_true, br_tt, if_true]; rfl
      ·simp only [h2, decide_false, br_ff, if_false]; rfl
    ·have e : SR.recv s id = s.rRead id := by unfold SR.recv; rw [if_pos c, hp]; rfl
     rw [e]; rfl
    ·have e : SR.recv s id = s.rPrep id := by unfold SR.recv; rw [if_pos c, hp]; rfl
     rw [e]; rfl
    ·have e : SR.recv s id = s.rNotify id := by unfold SR.recv; rw [if_pos c, hp]; rfl
     rw [e]; unfold SR.rNotify
     cases h1 : oneB s.fe s.l3 with
     | true => simp only [br_tt, if_true]; rfl
     | false => simp only [br_ff, Bool.false_eq_true, if_false]; rfl
    ·have e : SR.recv s id = s.rAgain id := by unfold SR.recv; rw [if_pos c, hp]; rfl
     rw [e]; unfold SR.rAgain
     simp only [gI_d, gB_d, nOf_e, put_e, List.set_set]
     by_cases h1 : s.takR = 4
     ·simp only [h1, decide_true, bimp_tt, bite_tt, asrt_tt, true_and]
      cases h2 : s.lt.getD id.toNat false with
      | true => simp only [nn, br_ff, Bool.true_eq_false, if_false]; rfl
      | false => simp only [show bnot false = true from rfl, br_tt, if_true]; rfl
     ·simp only [h1, decide_false, bimp_ff, bite_ff, asrt_tt, br_ff, false_and, if_false]; rfl
    ·have e : SR.recv s id = s.rCommit id := by unfold SR.recv; rw [if_pos c, hp]; rfl
     rw [e]; unfold SR.rCommit
     simp only [gI_d, gB_d, nOf_e]
     cases h2 : s.lt.getD id.toNat false with
     | true => simp only [br_tt, if_true]; rfl
     | false =>
      simp only [br_ff, Bool.false_eq_true, if_false]
      cases h3 : commitB s.ee s.l4 (s.sn.getD id.toNat 0) id with
      | true =>
       have h4 : put s.lt id.toNat false = s.lt := by have := putB_self s.lt id.toNat; rw [h2] at this; exact this
       simp only [br_tt, if_true, put_self, h4]; rfl
      | false => simp only [br_ff, Bool.false_eq_true, if_false]; rfl
    all_goals
     have e : SR.recv s id = s.rLeave id := by unfold SR.recv; rw [if_pos c, hp]; rfl
     rw [e]; unfold SR.rLeave SR.done
     simp only [gI_d, gB_d, nOf_e, put_self, hp]
     rfl
  ·cases h
 ·cases h
end Go.Own
end
