/- What stands behind it, part 14. -/
import Derived.Test.YtllmihapajeeiaaGreatW13
set_option linter.unusedVariables false
set_option linter.unusedSimpArgs false
section
namespace Go.Own
open Go Go.Proofs
set_option maxRecDepth 100000
set_option maxHeartbeats 1000000
def SR.vw (s : SR) : Vw := { st := fun i => s.st.getD i 0, pc := fun i => s.pc.getD i 0, sd := fun i => opSide (s.kd.getD i 0), sn := fun i => s.sn.getD i 0, l1 := s.l1, l2 := s.l2, l3 := s.l3, l4 := s.l4, fe := s.fe, ee := s.ee, full := s.accR = 2, empty := s.takR = 4 }
structure SR.Held (s : SR) (k : Nat) : Prop where
 inv : s.vw.Inv
 nl : s.nl ≤ k
 fe : s.fe ≤ k
 ee : s.ee ≤ k
theorem getD_upd {l : List Int} {i : Nat} {x : Int} (h : i < l.length) (j : Nat) : (l.set i x).getD j 0 = if j = i then x else l.getD j 0 := by
 rw [getD_set]
 by_cases e : i = j
 ·subst e; rw [if_pos ⟨rfl, h⟩, if_pos rfl]
 ·rw [if_neg (fun hh => e hh.1), if_neg (fun hh => e hh.symm)]
theorem getD_same (l : List Int) (i j : Nat) : l.getD j 0 = if j = i then l.getD i 0 else l.getD j 0 := by
 by_cases e : j = i
 ·subst e; rw [if_pos rfl]
 ·rw [if_neg e]
theorem SR.vw_move {s t : SR} {i : Nat} {p v : Int} (h0 : t.st = s.st) (h1 : t.kd = s.kd) (h2 : t.l1 = s.l1) (h3 : t.l2 = s.l2) (h4 : t.l3 = s.l3) (h5 : t.l4 = s.l4) (h6 : t.fe = s.fe) (h7 : t.ee = s.ee)
  (hp : ∀ j, t.pc.getD j 0 = if j = i then p else s.pc.getD j 0) (hv : ∀ j, t.sn.getD j 0 = if j = i then v else s.sn.getD j 0) : t.vw = s.vw.move i p v (t.accR = 2) (t.takR = 4) := by
 unfold SR.vw Vw.move
 rw [h0, h1, h2, h3, h4, h5, h6, h7]
 have e1 : (fun j => t.pc.getD j 0) = upd (fun j => s.pc.getD j 0) i p := funext fun j => by rw [hp]; rfl
 have e2 : (fun j => t.sn.getD j 0) = upd (fun j => s.sn.getD j 0) i v := funext fun j => by rw [hv]; rfl
 rw [e1, e2]
theorem Vw.send_move {s : Vw} {i : Nat} {p v : Int} {f e : Prop} (h : s.Inv) (hi : s.st i = 1) (hd : s.sd i = 1)
  (hl : 2 ≤ p → p ≠ 9 → s.l1.head? = some (i : Int)) (hs : p = 7 ∨ p = 8 → v ≤ s.fe) (hf : p = 8 → f)
  (hF : (2 ≤ s.pc i ∧ s.pc i ≠ 9) ∨ (s.full → f)) (hE : s.empty → e ∨ p = 6) (hW : s.pc i ≠ 6 ∨ ∀ j, ¬ s.nE j) : (s.move i p v f e).Inv := by
 refine Vw.move_inv h hi (fun _ => hl) (fun c => by omega) (fun _ => hs) (fun c => by omega) (fun _ => hf) (fun c => by omega) ?_ ?_
 ·intro j hj hn
  refine ⟨fun hfull => ?_, fun hw => ?_⟩
  ·rcases hF with ⟨q1, q2⟩ | q
   ·exfalso
    obtain ⟨a1, a2, a3, a4⟩ := Vw.nF_at h hn
    exact hj (Vw.oneS h (by omega) hd q1 q2 a1 a2 a3 a4).symm
   ·exact .inl (q hfull)
  ·exfalso
   obtain ⟨_, hw⟩ := hw
   omega
 ·intro j hj hn
  refine ⟨fun hem => ?_, fun hw => ?_⟩
  ·rcases hE hem with q | q
   ·exact .inl q
   ·refine .inr ⟨hi, .inl ⟨hd, ?_⟩⟩
    simp [Vw.move, upd_at, q]
  ·exfalso
   obtain ⟨_, hw⟩ := hw
   rcases hW with q | q
   ·omega
   ·exact q j hn
theorem Vw.recv_move {s : Vw} {i : Nat} {p v : Int} {f e : Prop} (h : s.Inv) (hi : s.st i = 1) (hd : s.sd i = 2)
  (hl : 2 ≤ p → p ≤ 8 → s.l2.head? = some (i : Int)) (hs : p = 7 ∨ p = 8 → v ≤ s.ee) (hf : p = 8 → e)
  (hE : (2 ≤ s.pc i ∧ s.pc i ≤ 8) ∨ (s.empty → e)) (hF : s.full → f ∨ p = 4 ∨ p = 6) (hW : (s.pc i ≠ 6 ∧ (s.pc i = 4 → p = 4 ∨ p = 6)) ∨ ∀ j, ¬ s.nF j) : (s.move i p v f e).Inv := by
 refine Vw.move_inv h hi (fun c => by omega) (fun _ => hl) (fun c => by omega) (fun _ => hs) (fun c => by omega) (fun _ => hf) ?_ ?_
 ·intro j hj hn
  refine ⟨fun hfull => ?_, fun hw => ?_⟩
  ·rcases hF hfull with q | q
   ·exact .inl q
   ·refine .inr ⟨hi, .inl ⟨hd, ?_⟩⟩
    simpa [Vw.move, upd_at] using q
  ·obtain ⟨_, hw⟩ := hw
   rcases hW with ⟨q1, q2⟩ | q
   ·have hp : p = 4 ∨ p = 6 := by
     rcases hw with ⟨_, hw⟩ | ⟨hw, _⟩
     ·rcases hw with hw | hw
      ·exact q2 hw
      ·exact absurd hw q1
     ·omega
    refine .inr ⟨hi, .inl ⟨hd, ?_⟩⟩
    simpa [Vw.move, upd_at] using hp
   ·exact absurd hn (q j)
 ·intro j hj hn
  refine ⟨fun hem => ?_, fun hw => ?_⟩
  ·rcases hE with ⟨q1, q2⟩ | q
   ·exfalso
    obtain ⟨a1, a2, a3, a4⟩ := Vw.nE_at h hn
    exact hj (Vw.oneR h (by omega) hd q1 q2 a1 a2 a3 a4).symm
   ·exact .inl (q hem)
  ·exfalso
   obtain ⟨_, hw⟩ := hw
   omega
theorem place_head {l : List Int} {x : Int} (h : placeAt l x = 0) : l.head? = some x := by
 unfold placeAt at h
 split at h
 ·rcases idxAt_cases l x with ⟨h1, _⟩ | ⟨j, hj, h1, h2, _⟩
  ·omega
  ·have : j = 0 := by omega
   subst this
   cases l with
   | nil => simp at hj
   | cons y l => simp only [List.getElem_cons_zero] at h2; rw [h2]; rfl
 ·omega
theorem enter_head {l : List Int} {x : Int} {j : Nat} (h : l.head? = some (j : Int)) : (enterL l x).head? = some (j : Int) := by
 unfold enterL
 split
 ·cases l with
  | nil => simp at h
  | cons y l => simpa using h
 ·exact h
theorem leave_head {l : List Int} {x : Int} {j : Nat} (hj : (j : Int) ≠ x) (h : l.head? = some (j : Int)) : (leaveL l x).head? = some (j : Int) := by
 unfold leaveL
 split
 ·exact h
 ·rename_i hp
  cases l with
  | nil => simp at h
  | cons y l =>
   simp only [List.head?_cons, Option.some.injEq] at h
   subst h
   have h0 : placeAt ((j : Int) :: l) x ≠ 0 := by
    intro e
    have := place_head e
    simp only [List.head?_cons, Option.some.injEq] at this
    exact hj this
   obtain ⟨m, hm⟩ : ∃ m, (placeAt ((j : Int) :: l) x).toNat = m + 1 := ⟨(placeAt ((j : Int) :: l) x).toNat - 1, by omega⟩
   rw [hm]
   simp
theorem Vw.one3 {s : Vw} (h : s.Inv) : s.l3 = [] ∨ ∃ i : Nat, s.l3 = [(i : Int)] ∧ s.st i = 2 ∧ s.sd i = 1 := by
 have hall : ∀ x ∈ s.l3, ∃ i : Nat, x = i ∧ s.st i = 2 ∧ s.sd i = 1 := fun x hx => (h.inF x).1 hx
 cases hl : s.l3 with
 | nil => exact .inl rfl
 | cons x l =>
  obtain ⟨i, rfl, h1, h2⟩ := hall x (by rw [hl]; simp)
  refine .inr ⟨i, ?_, h1, h2⟩
  cases l with
  | nil => rfl
  | cons y l =>
   exfalso
   obtain ⟨j, rfl, g1, g2⟩ := hall y (by rw [hl]; simp)
   have p1 := (h.park i h1).1
   have p2 := (h.park j g1).1
   have e := Vw.oneS h (i := i) (j := j) (by omega) h2 (by omega) (by omega) (by omega) g2 (by omega) (by omega)
   subst e
   have := h.ndF
   rw [hl] at this
   simp at this
theorem Vw.one4 {s : Vw} (h : s.Inv) : s.l4 = [] ∨ ∃ i : Nat, s.l4 = [(i : Int)] ∧ s.st i = 2 ∧ s.sd i = 2 := by
 have hall : ∀ x ∈ s.l4, ∃ i : Nat, x = i ∧ s.st i = 2 ∧ s.sd i = 2 := fun x hx => (h.inE x).1 hx
 cases hl : s.l4 with
 | nil => exact .inl rfl
 | cons x l =>
  obtain ⟨i, rfl, h1, h2⟩ := hall x (by rw [hl]; simp)
  refine .inr ⟨i, ?_, h1, h2⟩
  cases l with
  | nil => rfl
  | cons y l =>
   exfalso
   obtain ⟨j, rfl, g1, g2⟩ := hall y (by rw [hl]; simp)
   have p1 := (h.park i h1).1
   have p2 := (h.park j g1).1
   have e := Vw.oneR h (i := i) (j := j) (by omega) h2 (by omega) (by omega) (by omega) g2 (by omega) (by omega)
   subst e
   have := h.ndE
   rw [hl] at this
   simp at this
theorem SR.st_lt {s : SR} (hr : s.rows) {i : Nat} (h : s.st.getD i 0 ≠ 0) : i < s.nt := by
 apply Classical.byContradiction
 intro hn
 apply h
 rw [List.getD_eq_getElem?_getD, List.getElem?_eq_none (by have := hr.st; omega)]
 rfl
theorem come_up {e : Int} {l : List Int} (h : evOk e l = true) (hb : e < 1099511627776) : comeE e l = e + 1 := by
 unfold comeE
 rw [if_pos h, imin_e]
 omega
theorem SR.ringF_vw {s t : SR} (h : s.ok = true) (hr : s.rows) (hI : s.vw.Inv) (hb : s.fe < 1099511627776) (ht : t = { s with fe := comeE s.fe s.l3, n3 := t.n3, l3 := [] }) :
  (s.l3 = [] → t.vw = s.vw.ringF) ∧ ∀ i : Nat, s.l3 = [(i : Int)] → (t.wake (i : Int)).vw = s.vw.ringF := by
 have hev := (SR.ok_ev h).2.2.1
 have hup := come_up hev hb
 have hok : t.ok = true := by
  rw [ht]
  obtain ⟨L1, L2, L3, L4⟩ := SR.ok_lines h
  obtain ⟨E1, E2, E3, E4⟩ := SR.ok_ev h
  exact SR.lines_ok h L1 L2 ⟨by simp, by simp⟩ L4 (comeE_in E1) E2
 constructor
 ·intro hl
  rw [ht]
  unfold SR.vw Vw.ringF
  simp only [hup]
  have e1 : (fun i => s.st.getD i 0) = fun j => if s.st.getD j 0 = 2 ∧ opSide (s.kd.getD j 0) = 1 then 1 else s.st.getD j 0 := by
   funext j
   split
   ·rename_i hc
    have : (j : Int) ∈ s.l3 := (hI.inF _).2 ⟨j, rfl, hc.1, hc.2⟩
    rw [hl] at this
    cases this
   ·rfl
  rw [← e1]
  rfl
 ·intro i hl
  obtain ⟨i', e, h1, h2⟩ := (hI.inF (i : Int)).1 (by show (i : Int) ∈ s.l3; rw [hl]; simp)
  have : i' = i := by omega
  subst this
  have hst : t.st = s.st := by rw [ht]
  have hrt : t.st.length = s.nt := by rw [hst]; exact hr.st
  have hi : s.st.getD i' 0 = 2 := h1
  have hlt : i' < s.nt := SR.st_lt hr (by omega)
  have his : t.is (i' : Int) = true := by
   simp only [SR.is, hok, Bool.true_and, decide_eq_true_eq]
   have : t.nt = s.nt := by rw [ht]
   omega
  have hw : (t.wake (i' : Int)) = { t with st := s.st.set i' 1 } := by
   unfold SR.wake
   rw [if_pos his, Int.toNat_natCast, hst, hi]
   rfl
  rw [hw, ht]
  unfold SR.vw Vw.ringF
  simp only [hup]
  have e1 : (fun j => (s.st.set i' 1).getD j 0) = fun j => if s.st.getD j 0 = 2 ∧ opSide (s.kd.getD j 0) = 1 then 1 else s.st.getD j 0 := by
   funext j
   rw [getD_upd (by rw [hr.st]; exact hlt)]
   by_cases e : j = i'
   ·subst e
    rw [if_pos rfl, if_pos ⟨h1, h2⟩]
   ·rw [if_neg e, if_neg]
    intro hc
    have : (j : Int) ∈ s.l3 := (hI.inF _).2 ⟨j, rfl, hc.1, hc.2⟩
    rw [hl] at this
    simp at this
    omega
  rw [e1]
  rfl
theorem SR.ringE_vw {s t : SR} (h : s.ok = true) (hr : s.rows) (hI : s.vw.Inv) (hb : s.ee < 1099511627776) (ht : t = { s with ee := comeE s.ee s.l4, n4 := t.n4, l4 := [] }) :
  (s.l4 = [] → t.vw = s.vw.ringE) ∧ ∀ i : Nat, s.l4 = [(i : Int)] → (t.wake (i : Int)).vw = s.vw.ringE := by
 have hev := (SR.ok_ev h).2.2.2
 have hup := come_up hev hb
 have hok : t.ok = true := by
  rw [ht]
  obtain ⟨L1, L2, L3, L4⟩ := SR.ok_lines h
  obtain ⟨E1, E2, E3, E4⟩ := SR.ok_ev h
  exact SR.lines_ok h L1 L2 L3 ⟨by simp, by simp⟩ E1 (comeE_in E2)
 constructor
 ·intro hl
  rw [ht]
  unfold SR.vw Vw.ringE
  simp only [hup]
  have e1 : (fun i => s.st.getD i 0) = fun j => if s.st.getD j 0 = 2 ∧ opSide (s.kd.getD j 0) = 2 then 1 else s.st.getD j 0 := by
   funext j
   split
   ·rename_i hc
    have : (j : Int) ∈ s.l4 := (hI.inE _).2 ⟨j, rfl, hc.1, hc.2⟩
    rw [hl] at this
    cases this
   ·rfl
  rw [← e1]
  rfl
 ·intro i hl
  obtain ⟨i', e, h1, h2⟩ := (hI.inE (i : Int)).1 (by show (i : Int) ∈ s.l4; rw [hl]; simp)
  have : i' = i := by omega
  subst this
  have hst : t.st = s.st := by rw [ht]
  have hi : s.st.getD i' 0 = 2 := h1
  have hlt : i' < s.nt := SR.st_lt hr (by omega)
  have his : t.is (i' : Int) = true := by
   simp only [SR.is, hok, Bool.true_and, decide_eq_true_eq]
   have : t.nt = s.nt := by rw [ht]
   omega
  have hw : (t.wake (i' : Int)) = { t with st := s.st.set i' 1 } := by
   unfold SR.wake
   rw [if_pos his, Int.toNat_natCast, hst, hi]
   rfl
  rw [hw, ht]
  unfold SR.vw Vw.ringE
  simp only [hup]
  have e1 : (fun j => (s.st.set i' 1).getD j 0) = fun j => if s.st.getD j 0 = 2 ∧ opSide (s.kd.getD j 0) = 2 then 1 else s.st.getD j 0 := by
   funext j
   rw [getD_upd (by rw [hr.st]; exact hlt)]
   by_cases e : j = i'
   ·subst e
    rw [if_pos rfl, if_pos ⟨h1, h2⟩]
   ·rw [if_neg e, if_neg]
    intro hc
    have : (j : Int) ∈ s.l4 := (hI.inE _).2 ⟨j, rfl, hc.1, hc.2⟩
    rw [hl] at this
    simp at this
    omega
  rw [e1]
  rfl
theorem SR.rungF_vw {s : SR} (h : s.ok = true) (hr : s.rows) (hI : s.vw.Inv) (hb : s.fe < 1099511627776) : (if oneB s.fe s.l3 then s.rungF.wake (Go.Own.tellV s.fe s.l3) else s.rungF).vw = s.vw.ringF := by
 have hev := (SR.ok_ev h).2.2.1
 rcases Vw.one3 hI with hl | ⟨i, hl, _⟩
 ·have hl : s.l3 = [] := hl
  have e : s.rungF = { s with fe := comeE s.fe s.l3, n3 := s.rungF.n3, l3 := [] } := by unfold SR.rungF oneL1; rw [hl]; simp
  rw [if_neg (by simp [oneB, hl])]
  exact (SR.ringF_vw h hr hI hb e).1 hl
 ·have hl : s.l3 = [(i : Int)] := hl
  have e : s.rungF = { s with fe := comeE s.fe s.l3, n3 := s.rungF.n3, l3 := [] } := by unfold SR.rungF oneL1; rw [if_pos hev, hl]; rfl
  rw [if_pos (by simp [oneB, hl, hl ▸ hev])]
  have e2 : Go.Own.tellV s.fe s.l3 = (i : Int) := by unfold Go.Own.tellV; rw [if_pos hev, hl]; rfl
  rw [e2]
  exact (SR.ringF_vw h hr hI hb e).2 i hl
theorem SR.rungE_vw {s : SR} (h : s.ok = true) (hr : s.rows) (hI : s.vw.Inv) (hb : s.ee < 1099511627776) : (if oneB s.ee s.l4 then s.rungE.wake (Go.Own.tellV s.ee s.l4) else s.rungE).vw = s.vw.ringE := by
 have hev := (SR.ok_ev h).2.2.2
 rcases Vw.one4 hI with hl | ⟨i, hl, _⟩
 ·have hl : s.l4 = [] := hl
  have e : s.rungE = { s with ee := comeE s.ee s.l4, n4 := s.rungE.n4, l4 := [] } := by unfold SR.rungE oneL1; rw [hl]; simp
  rw [if_neg (by simp [oneB, hl])]
  exact (SR.ringE_vw h hr hI hb e).1 hl
 ·have hl : s.l4 = [(i : Int)] := hl
  have e : s.rungE = { s with ee := comeE s.ee s.l4, n4 := s.rungE.n4, l4 := [] } := by unfold SR.rungE oneL1; rw [if_pos hev, hl]; rfl
  rw [if_pos (by simp [oneB, hl, hl ▸ hev])]
  have e2 : Go.Own.tellV s.ee s.l4 = (i : Int) := by unfold Go.Own.tellV; rw [if_pos hev, hl]; rfl
  rw [e2]
  exact (SR.ringE_vw h hr hI hb e).2 i hl
theorem SR.bell_vw {s : SR} (h : s.ok = true) (hr : s.rows) (hI : s.vw.Inv) (hb : s.fe < 1099511627776) : s.bell.vw = s.vw.ringF := by
 have hev := (SR.ok_ev h).2.2.1
 have e : ∀ n, ({ s with fe := comeE s.fe s.l3, n3 := (allL s.fe s.l3).length, l3 := allL s.fe s.l3 } : SR) = { s with fe := comeE s.fe s.l3, n3 := n, l3 := [] } → True := fun _ _ => trivial
 have e0 : ({ s with fe := comeE s.fe s.l3, n3 := (allL s.fe s.l3).length, l3 := allL s.fe s.l3 } : SR) = { s with fe := comeE s.fe s.l3, n3 := 0, l3 := [] } := by unfold allL; rw [if_pos hev]; rfl
 unfold SR.bell
 rw [e0]
 have ea : allO s.fe s.l3 = s.l3 := by unfold allO; rw [if_pos hev]
 rw [ea]
 have hh := SR.ringF_vw (t := { s with fe := comeE s.fe s.l3, n3 := 0, l3 := [] }) h hr hI hb rfl
 rcases Vw.one3 hI with hl | ⟨i, hl, _⟩
 ·have hl : s.l3 = [] := hl
  have := hh.1 hl
  unfold SR.wakes
  rw [hl]
  simpa [hl] using this
 ·have hl : s.l3 = [(i : Int)] := hl
  have := hh.2 i hl
  unfold SR.wakes
  rw [hl]
  simpa [hl] using this
theorem SR.bell2_vw {s : SR} (h : s.ok = true) (hr : s.rows) (hI : s.vw.Inv) (hb : s.ee < 1099511627776) : s.bell2.vw = s.vw.ringE := by
 have hev := (SR.ok_ev h).2.2.2
 have e0 : ({ s with ee := comeE s.ee s.l4, n4 := (allL s.ee s.l4).length, l4 := allL s.ee s.l4 } : SR) = { s with ee := comeE s.ee s.l4, n4 := 0, l4 := [] } := by unfold allL; rw [if_pos hev]; rfl
 unfold SR.bell2
 rw [e0]
 have ea : allO s.ee s.l4 = s.l4 := by unfold allO; rw [if_pos hev]
 rw [ea]
 have hh := SR.ringE_vw (t := { s with ee := comeE s.ee s.l4, n4 := 0, l4 := [] }) h hr hI hb rfl
 rcases Vw.one4 hI with hl | ⟨i, hl, _⟩
 ·have hl : s.l4 = [] := hl
  have := hh.1 hl
  unfold SR.wakes
  rw [hl]
  simpa [hl] using this
 ·have hl : s.l4 = [(i : Int)] := hl
  have := hh.2 i hl
  unfold SR.wakes
  rw [hl]
  simpa [hl] using this
theorem SR.send_to {s t : SR} {i : Nat} {p v : Int} (hI : s.vw.Inv) (hi : s.st.getD i 0 = 1) (hd : opSide (s.kd.getD i 0) = 1)
  (h0 : t.st = s.st) (h1 : t.kd = s.kd) (h2 : t.l1 = s.l1) (h3 : t.l2 = s.l2) (h4 : t.l3 = s.l3) (h5 : t.l4 = s.l4) (h6 : t.fe = s.fe) (h7 : t.ee = s.ee)
  (hp : ∀ j, t.pc.getD j 0 = if j = i then p else s.pc.getD j 0) (hv : ∀ j, t.sn.getD j 0 = if j = i then v else s.sn.getD j 0)
  (hl : 2 ≤ p → p ≠ 9 → s.l1.head? = some (i : Int)) (hs : p = 7 ∨ p = 8 → v ≤ s.fe) (hf : p = 8 → t.accR = 2)
  (hF : (2 ≤ s.pc.getD i 0 ∧ s.pc.getD i 0 ≠ 9) ∨ (s.accR = 2 → t.accR = 2)) (hE : s.takR = 4 → t.takR = 4 ∨ p = 6) (hW : s.pc.getD i 0 ≠ 6 ∨ ∀ j, ¬ s.vw.nE j) : t.vw.Inv := by
 rw [SR.vw_move h0 h1 h2 h3 h4 h5 h6 h7 hp hv]
 exact Vw.send_move hI hi hd hl hs hf hF hE hW
theorem SR.recv_to {s t : SR} {i : Nat} {p v : Int} (hI : s.vw.Inv) (hi : s.st.getD i 0 = 1) (hd : opSide (s.kd.getD i 0) = 2)
  (h0 : t.st = s.st) (h1 : t.kd = s.kd) (h2 : t.l1 = s.l1) (h3 : t.l2 = s.l2) (h4 : t.l3 = s.l3) (h5 : t.l4 = s.l4) (h6 : t.fe = s.fe) (h7 : t.ee = s.ee)
  (hp : ∀ j, t.pc.getD j 0 = if j = i then p else s.pc.getD j 0) (hv : ∀ j, t.sn.getD j 0 = if j = i then v else s.sn.getD j 0)
  (hl : 2 ≤ p → p ≤ 8 → s.l2.head? = some (i : Int)) (hs : p = 7 ∨ p = 8 → v ≤ s.ee) (hf : p = 8 → t.takR = 4)
  (hE : (2 ≤ s.pc.getD i 0 ∧ s.pc.getD i 0 ≤ 8) ∨ (s.takR = 4 → t.takR = 4)) (hF : s.accR = 2 → t.accR = 2 ∨ p = 4 ∨ p = 6) (hW : (s.pc.getD i 0 ≠ 6 ∧ (s.pc.getD i 0 = 4 → p = 4 ∨ p = 6)) ∨ ∀ j, ¬ s.vw.nF j) : t.vw.Inv := by
 rw [SR.vw_move h0 h1 h2 h3 h4 h5 h6 h7 hp hv]
 exact Vw.recv_move hI hi hd hl hs hf hE hF hW
theorem SR.tell_same (s : SR) (a b c d : Int) : (s.tell a b c d).st = s.st ∧ (s.tell a b c d).kd = s.kd ∧ (s.tell a b c d).l1 = s.l1 ∧ (s.tell a b c d).l2 = s.l2 ∧ (s.tell a b c d).l3 = s.l3 ∧ (s.tell a b c d).l4 = s.l4 ∧ (s.tell a b c d).fe = s.fe ∧ (s.tell a b c d).ee = s.ee ∧ (s.tell a b c d).pc = s.pc ∧ (s.tell a b c d).sn = s.sn ∧ (s.tell a b c d).accR = s.accR ∧ (s.tell a b c d).takR = s.takR := by
 unfold SR.tell
 split <;> exact ⟨rfl, rfl, rfl, rfl, rfl, rfl, rfl, rfl, rfl, rfl, rfl, rfl⟩
structure SR.AtS (s : SR) (id : Int) : Prop where
 ok : s.ok = true
 rows : s.rows
 inv : s.vw.Inv
 i0 : 0 ≤ id
 lt : id.toNat < s.nt
 st : s.st.getD id.toNat 0 = 1
theorem SR.AtS.lp {s : SR} {id : Int} (h : s.AtS id) : id.toNat < s.pc.length := by rw [h.rows.pc]; exact h.lt
theorem SR.AtS.ls {s : SR} {id : Int} (h : s.AtS id) : id.toNat < s.sn.length := by rw [h.rows.sn]; exact h.lt
theorem SR.AtS.headS {s : SR} {id : Int} (h : s.AtS id) (hd : opSide (s.kd.getD id.toNat 0) = 1) (h1 : 2 ≤ s.pc.getD id.toNat 0) (h2 : s.pc.getD id.toNat 0 ≠ 9) : s.l1.head? = some (id.toNat : Int) := h.inv.headS id.toNat (by show s.st.getD id.toNat 0 ≠ 0; have := h.st; omega) hd h1 h2
theorem SR.AtS.headR {s : SR} {id : Int} (h : s.AtS id) (hd : opSide (s.kd.getD id.toNat 0) = 2) (h1 : 2 ≤ s.pc.getD id.toNat 0) (h2 : s.pc.getD id.toNat 0 ≤ 8) : s.l2.head? = some (id.toNat : Int) := h.inv.headR id.toNat (by show s.st.getD id.toNat 0 ≠ 0; have := h.st; omega) hd h1 h2
theorem SR.at_inv {s : SR} {id p : Int} (h : s.AtS id) (hd : opSide (s.kd.getD id.toNat 0) = 1) (hl : 2 ≤ p → p ≠ 9 → s.l1.head? = some (id.toNat : Int)) (hs : p ≠ 7) (hf : p = 8 → s.accR = 2 ∧ s.sn.getD id.toNat 0 ≤ s.fe) (hW : s.pc.getD id.toNat 0 ≠ 6) : (s.at id p).vw.Inv :=
 SR.send_to (s := s) (t := s.at id p) (v := s.sn.getD id.toNat 0) h.inv h.st hd rfl rfl rfl rfl rfl rfl rfl rfl (getD_upd h.lp) (getD_same _ _) hl (fun c => by rcases c with c | c; exact absurd c hs; exact (hf c).2) (fun c => (hf c).1) (.inr fun c => c) (fun c => .inl c) (.inl hW)
theorem SR.at_invR {s : SR} {id p : Int} (h : s.AtS id) (hd : opSide (s.kd.getD id.toNat 0) = 2) (hl : 2 ≤ p → p ≤ 8 → s.l2.head? = some (id.toNat : Int)) (hs : p ≠ 7) (hf : p = 8 → s.takR = 4 ∧ s.sn.getD id.toNat 0 ≤ s.ee) (hW : s.pc.getD id.toNat 0 ≠ 6 ∧ s.pc.getD id.toNat 0 ≠ 4) : (s.at id p).vw.Inv :=
 SR.recv_to (s := s) (t := s.at id p) (v := s.sn.getD id.toNat 0) h.inv h.st hd rfl rfl rfl rfl rfl rfl rfl rfl (getD_upd h.lp) (getD_same _ _) hl (fun c => by rcases c with c | c; exact absurd c hs; exact (hf c).2) (fun c => (hf c).1) (.inr fun c => c) (fun c => .inl c) (.inl ⟨hW.1, fun c => absurd c hW.2⟩)
theorem SR.ends_inv {s : SR} {id r : Int} (h : s.AtS id) (hd : opSide (s.kd.getD id.toNat 0) = 1) (hW : s.pc.getD id.toNat 0 ≠ 6) : (s.ends id r).vw.Inv := by
 obtain ⟨e1, e2, e3, e4, e5, e6, e7, e8, e9, e10, e11, e12⟩ := SR.tell_same s id (s.kd.getD id.toNat 0) r 0
 refine SR.send_to (s := s) (t := s.ends id r) (p := 9) (v := s.sn.getD id.toNat 0) h.inv h.st hd e1 e2 e3 e4 e5 e6 e7 e8 ?_ ?_ (fun _ c => absurd rfl c) (fun c => by omega) (fun c => by omega) (.inr fun c => e11.trans c) (fun c => .inl (e12.trans c)) (.inl hW)
 ·intro j
  show ((s.tell _ _ _ _).pc.set _ _).getD j 0 = _
  rw [e9]
  exact getD_upd h.lp j
 ·intro j
  show (s.tell _ _ _ _).sn.getD j 0 = _
  rw [e10]
  exact getD_same _ _ j
theorem SR.ends_invR {s : SR} {id r : Int} (h : s.AtS id) (hd : opSide (s.kd.getD id.toNat 0) = 2) (hW : s.pc.getD id.toNat 0 ≠ 6 ∧ s.pc.getD id.toNat 0 ≠ 4) : (s.ends id r).vw.Inv := by
 obtain ⟨e1, e2, e3, e4, e5, e6, e7, e8, e9, e10, e11, e12⟩ := SR.tell_same s id (s.kd.getD id.toNat 0) r 0
 refine SR.recv_to (s := s) (t := s.ends id r) (p := 9) (v := s.sn.getD id.toNat 0) h.inv h.st hd e1 e2 e3 e4 e5 e6 e7 e8 ?_ ?_ (fun _ c => by omega) (fun c => by omega) (fun c => by omega) (.inr fun c => e12.trans c) (fun c => .inl (e11.trans c)) (.inl ⟨hW.1, fun c => absurd c hW.2⟩)
 ·intro j
  show ((s.tell _ _ _ _).pc.set _ _).getD j 0 = _
  rw [e9]
  exact getD_upd h.lp j
 ·intro j
  show (s.tell _ _ _ _).sn.getD j 0 = _
  rw [e10]
  exact getD_same _ _ j
theorem SR.tries_inv {s : SR} {id : Int} (h : s.AtS id) : (s.tries id).vw.Inv := h.inv
theorem Vw.same_inv {s t : Vw} (h : s.Inv) (e : t = s) : t.Inv := e ▸ h
theorem SR.done_inv {s : SR} {id : Int} (h : s.AtS id) (l1 l2 : List Int) (n1 n2 : Nat)
  (c1 : ∀ j, j ≠ id.toNat → s.l1.head? = some (j : Int) → l1.head? = some (j : Int)) (c2 : ∀ j, j ≠ id.toNat → s.l2.head? = some (j : Int) → l2.head? = some (j : Int))
  (dF : (∃ j, s.vw.nF j) → ¬ s.vw.wF id.toNat) (dE : (∃ j, s.vw.nE j) → ¬ s.vw.wE id.toNat) : (({ s with n1 := n1, l1 := l1, n2 := n2, l2 := l2 } : SR).done id).vw.Inv := by
 have hz : thRuns (s.st.getD id.toNat 0) = 0 := by rw [h.st]; rfl
 have e : (({ s with n1 := n1, l1 := l1, n2 := n2, l2 := l2 } : SR).done id).vw = s.vw.rest id.toNat 0 0 l1 l2 := by
  unfold SR.done SR.vw Vw.rest
  simp only [hz, invI, if_true]
  have e1 : (fun j => (s.st.set id.toNat 0).getD j 0) = upd (fun j => s.st.getD j 0) id.toNat 0 := funext fun j => getD_upd (by rw [h.rows.st]; exact h.lt) j
  have e2 : (fun j => (s.pc.set id.toNat 0).getD j 0) = upd (fun j => s.pc.getD j 0) id.toNat 0 := funext fun j => getD_upd h.lp j
  have e3 : (fun j => (s.sn.set id.toNat 0).getD j 0) = upd (fun j => s.sn.getD j 0) id.toNat 0 := funext fun j => getD_upd h.ls j
  rw [e1, e2, e3]
  rfl
 rw [e]
 exact Vw.rest_inv h.inv h.st c1 c2 dF dE
theorem SR.AtS.id_eq {s : SR} {id : Int} (h : s.AtS id) : (id.toNat : Int) = id := by have := h.i0; omega
theorem commit_is {e v id : Int} {l : List Int} (h : commitB e l v id = true) : v = e ∧ commitL e l v id = l ++ [id] := by
 refine ⟨?_, by unfold commitL; rw [if_pos h]⟩
 simp only [commitB, Bool.and_eq_true, decide_eq_true_eq] at h
 exact h.2.symm
theorem SR.send_inv {s : SR} {id : Int} (h : s.AtS id) (hd : s.does id 1 = true) (hfe : s.fe < 1099511627776) (hee : s.ee < 1099511627776) : (s.send id).vw.Inv := by
 obtain ⟨_, c2, c3, q, hst1, hsd⟩ := SR.does_is hd
 have hid := h.id_eq
 unfold SR.send
 rw [if_pos hd]
 split
 ·rename_i hp
  have hI : ({ s with n1 := lenI (enterL s.l1 id), l1 := enterL s.l1 id } : SR).vw.Inv := Vw.lines_inv (l1 := enterL s.l1 id) (l2 := s.l2) h.inv (fun j hj => enter_head hj) (fun j hj => hj)
  have hr : ({ s with n1 := lenI (enterL s.l1 id), l1 := enterL s.l1 id } : SR).rows := (SR.l1_keep s _).rows h.rows
  exact SR.send_to (s := { s with n1 := lenI (enterL s.l1 id), l1 := enterL s.l1 id }) (t := s.sEnter id) (p := 1) (v := s.sn.getD id.toNat 0) hI hst1 hsd rfl rfl rfl rfl rfl rfl rfl rfl (getD_upd h.lp) (getD_same _ _) (fun c => by omega) (fun c => by omega) (fun c => by omega) (.inr fun c => c) (fun c => .inl c) (.inl (by show s.pc.getD id.toNat 0 ≠ 6; omega))
 ·rename_i hp
  unfold SR.sFirst
  split
  ·rename_i hpl
   exact SR.at_inv h hsd (fun _ _ => by rw [hid]; exact place_head hpl) (by omega) (fun c => by omega) (by omega)
  ·split
   ·exact SR.ends_inv h hsd (by omega)
   ·exact SR.tries_inv h
 ·rename_i hp
  have hh := h.headS hsd (by omega) (by omega)
  unfold SR.sLook
  split
  ·exact SR.send_to (s := s) (t := { s with rg := s.rg.set id.toNat s.tl, pc := s.pc.set id.toNat 3 }) (p := 3) (v := s.sn.getD id.toNat 0) h.inv hst1 hsd rfl rfl rfl rfl rfl rfl rfl rfl (getD_upd h.lp) (getD_same _ _) (fun _ _ => hh) (fun c => by omega) (fun c => by omega) (.inr fun c => c) (fun c => .inl c) (.inl (by omega))
  ·split
   ·unfold SR.sFull
    split
    ·exact SR.ends_inv h hsd (by omega)
    ·split
     ·exact SR.send_to (s := s) (t := { s with rg := s.rg.set id.toNat s.hd, pc := s.pc.set id.toNat 10 }) (p := 10) (v := s.sn.getD id.toNat 0) h.inv hst1 hsd rfl rfl rfl rfl rfl rfl rfl rfl (getD_upd h.lp) (getD_same _ _) (fun _ _ => hh) (fun c => by omega) (fun c => by omega) (.inr fun c => c) (fun c => .inl c) (.inl (by omega))
     ·split
      ·exact SR.ends_inv h hsd (by omega)
      ·split
       ·exact SR.ends_inv h hsd (by omega)
       ·split
        ·exact SR.at_inv h hsd (fun _ _ => hh) (by omega) (fun c => by omega) (by omega)
        ·exact SR.tries_inv h
   ·exact SR.ends_inv h hsd (by omega)
 ·rename_i hp
  have hh := h.headS hsd (by omega) (by omega)
  unfold SR.sWrite
  split
  ·exact SR.send_to (s := s) (t := { s with sv := wrV s.ns s.ss s.sv (s.rg.getD id.toNat 0) (s.vl.getD id.toNat 0), pc := s.pc.set id.toNat 4 }) (p := 4) (v := s.sn.getD id.toNat 0) h.inv hst1 hsd rfl rfl rfl rfl rfl rfl rfl rfl (getD_upd h.lp) (getD_same _ _) (fun _ _ => hh) (fun c => by omega) (fun c => by omega) (.inr fun c => c) (fun c => .inl c) (.inl (by omega))
  ·exact h.inv
 ·rename_i hp
  have hh := h.headS hsd (by omega) (by omega)
  unfold SR.sAccept
  split
  ·obtain ⟨e1, e2, e3, e4, e5, e6, e7, e8, e9, e10, e11, e12⟩ := SR.tell_same { s with tl := accT s.hd s.tl s.md s.ns } id (s.kd.getD id.toNat 0) 1 0
   refine SR.send_to (s := s) (p := 6) (v := s.sn.getD id.toNat 0) h.inv hst1 hsd e1 e2 e3 e4 e5 e6 e7 e8 ?_ ?_ (fun _ _ => hh) (fun c => by omega) (fun c => by omega) (.inl (by omega)) (fun c => .inr rfl) (.inl (by omega))
   ·intro j
    show ((SR.tell _ _ _ _ _).pc.set _ _).getD j 0 = _
    rw [e9]
    exact getD_upd h.lp j
   ·intro j
    show (SR.tell _ _ _ _ _).sn.getD j 0 = _
    rw [e10]
    exact getD_same _ _ j
  ·split
   ·exact SR.at_inv h hsd (fun _ _ => hh) (by omega) (fun c => by omega) (by omega)
   ·exact SR.ends_inv h hsd (by omega)
 ·rename_i hp
  have hh := h.headS hsd (by omega) (by omega)
  exact SR.send_to (s := s) (t := s.sPrep id) (p := 7) (v := prepE s.fe s.l3) h.inv hst1 hsd rfl rfl rfl rfl rfl rfl rfl rfl (getD_upd h.lp) (getD_upd h.ls) (fun _ _ => hh) (fun _ => by unfold prepE; split <;> have := (SR.ok_ev h.ok).1 <;> omega) (fun c => by omega) (.inr fun c => c) (fun c => .inl c) (.inl (by omega))
 ·rename_i hp
  have hrv := SR.rungE_vw h.ok h.rows h.inv hee
  have hI := Vw.ringE_inv h.inv
  rw [← hrv] at hI
  unfold SR.sNotify
  have hst : (if oneB s.ee s.l4 then s.rungE.wake (Go.Own.tellV s.ee s.l4) else s.rungE).st.getD id.toNat 0 = 1 := by
   have : (if oneB s.ee s.l4 then s.rungE.wake (Go.Own.tellV s.ee s.l4) else s.rungE).vw.st id.toNat = s.vw.ringE.st id.toNat := by rw [hrv]
   refine Eq.trans this ?_
   show (if s.st.getD id.toNat 0 = 2 ∧ opSide (s.kd.getD id.toNat 0) = 2 then 1 else s.st.getD id.toNat 0) = 1
   rw [hst1]
   rfl
  have hk : SR.Keep 0 s (if oneB s.ee s.l4 then s.rungE.wake (Go.Own.tellV s.ee s.l4) else s.rungE) := by
   split
   ·exact (SR.f4_keep s _ _).trans (SR.wake_keep _ _)
   ·exact SR.f4_keep s _ _
  have hnone : ∀ j, ¬ (if oneB s.ee s.l4 then s.rungE.wake (Go.Own.tellV s.ee s.l4) else s.rungE).vw.nE j := by
   intro j
   rw [hrv]
   exact Vw.ringE_none h.inv j
  generalize (if oneB s.ee s.l4 then s.rungE.wake (Go.Own.tellV s.ee s.l4) else s.rungE) = t at hI hst hk hnone
  have hr := hk.rows h.rows
  exact SR.send_to (s := t) (t := t.at id 9) (p := 9) (v := t.sn.getD id.toNat 0) hI hst (by rw [hk.kd]; exact hsd) rfl rfl rfl rfl rfl rfl rfl rfl (getD_upd (by rw [hr.pc, hk.nt]; exact q)) (getD_same _ _) (fun _ c => absurd rfl c) (fun c => by omega) (fun c => by omega) (.inr fun c => c) (fun c => .inl c) (.inr hnone)
 ·rename_i hp
  have hh := h.headS hsd (by omega) (by omega)
  unfold SR.sAgain
  split
  ·rename_i hc
   exact SR.at_inv h hsd (fun _ _ => hh) (by omega) (fun _ => ⟨hc.1, h.inv.seenS id.toNat (by show s.st.getD id.toNat 0 ≠ 0; omega) hsd (.inl hp)⟩) (by omega)
  ·exact SR.at_inv h hsd (fun _ _ => hh) (by omega) (fun c => by omega) (by omega)
 ·rename_i hp
  have hh := h.headS hsd (by omega) (by omega)
  unfold SR.sCommit
  split
  ·exact SR.at_inv h hsd (fun _ _ => hh) (by omega) (fun c => by omega) (by omega)
  ·dsimp only
   cases hc : commitB s.fe s.l3 (s.sn.getD id.toNat 0) id with
   | true =>
    obtain ⟨k1, k2⟩ := commit_is hc
    rw [if_pos rfl, k2]
    have hz : thRuns (s.st.getD id.toNat 0) = 0 := by rw [hst1]; rfl
    refine Vw.same_inv (Vw.parkF_inv (i := id.toNat) h.inv hst1 hsd hp k1) ?_
    unfold SR.park SR.vw Vw.parkF
    simp only [hz, invI, if_true, List.set_set]
    have e1 : (fun j => (s.st.set id.toNat 2).getD j 0) = upd (fun j => s.st.getD j 0) id.toNat 2 := funext fun j => getD_upd (by rw [h.rows.st]; exact h.lt) j
    have e2 : (fun j => (s.pc.set id.toNat 2).getD j 0) = upd (fun j => s.pc.getD j 0) id.toNat 2 := funext fun j => getD_upd h.lp j
    rw [e1, e2, hid]
    rfl
   | false =>
    rw [if_neg (by simp)]
    have e : commitL s.fe s.l3 (s.sn.getD id.toNat 0) id = s.l3 := by unfold commitL; rw [if_neg (by rw [hc]; simp)]
    rw [e]
    exact SR.send_to (s := s) (t := { s with n3 := lenI s.l3, l3 := s.l3, pc := s.pc.set id.toNat 2 }) (p := 2) (v := s.sn.getD id.toNat 0) h.inv hst1 hsd rfl rfl rfl rfl rfl rfl rfl rfl (getD_upd h.lp) (getD_same _ _) (fun _ _ => hh) (fun c => by omega) (fun c => by omega) (.inr fun c => c) (fun c => .inl c) (.inl (by omega))
 ·rename_i hp
  refine SR.done_inv h (leaveL s.l1 id) s.l2 (lenI (leaveL s.l1 id)) s.n2 (fun j hj hl => leave_head (by omega) hl) (fun j _ hl => hl) ?_ ?_
  ·rintro _ ⟨_, hw⟩
   have hsd : s.vw.sd id.toNat = 1 := hsd
   omega
  ·rintro _ ⟨_, hw⟩
   have hsd : s.vw.sd id.toNat = 1 := hsd
   have hp : s.vw.pc id.toNat = 9 := hp
   omega
 ·rename_i hp
  have hh := h.headS hsd (by omega) (by omega)
  unfold SR.sEvict
  split
  ·rename_i hev
   have hev' := (SR.evB_ok h.ok).1 hev
   obtain ⟨e1, e2, e3, e4, e5, e6, e7, e8, e9, e10, e11, e12⟩ := SR.tell_same { s with hd := evH s.hd s.tl s.md s.ns (s.rg.getD id.toNat 0) } id 9 1 (s.value (s.rg.getD id.toNat 0))
   refine SR.send_to (s := s) (p := 11) (v := s.sn.getD id.toNat 0) h.inv hst1 hsd e1 e2 e3 e4 e5 e6 e7 e8 ?_ ?_ (fun _ _ => hh) (fun c => by omega) (fun c => by omega) (.inl (by omega)) (fun c => ?_) (.inl (by omega))
   ·intro j
    show ((SR.tell _ _ _ _ _).pc.set _ _).getD j 0 = _
    rw [e9]
    exact getD_upd h.lp j
   ·intro j
    show (SR.tell _ _ _ _ _).sn.getD j 0 = _
    rw [e10]
    exact getD_same _ _ j
   ·exfalso
    rw [SR.takR_ok h.ok] at c
    have := SR.ok_ns h.ok
    rw [if_neg (by omega), if_pos (by omega)] at c
    omega
  ·exact SR.at_inv h hsd (fun _ _ => hh) (by omega) (fun c => by omega) (by omega)
 ·rename_i hp
  have hh := h.headS hsd (by omega) (by omega)
  unfold SR.sRelease
  split
  ·exact SR.send_to (s := s) (t := { s with ss := relS s.ns s.ss (s.rg.getD id.toNat 0), pc := s.pc.set id.toNat 2 }) (p := 2) (v := s.sn.getD id.toNat 0) h.inv hst1 hsd rfl rfl rfl rfl rfl rfl rfl rfl (getD_upd h.lp) (getD_same _ _) (fun _ _ => hh) (fun c => by omega) (fun c => by omega) (.inr fun c => c) (fun c => .inl c) (.inl (by omega))
  ·exact SR.at_inv h hsd (fun _ _ => hh) (by omega) (fun c => by omega) (by omega)
 ·exact h.inv
theorem SR.recv_inv {s : SR} {id : Int} (h : s.AtS id) (hd : s.does id 2 = true) (hfe : s.fe < 1099511627776) (hee : s.ee < 1099511627776) : (s.recv id).vw.Inv := by
 obtain ⟨_, c2, c3, q, hst1, hsd⟩ := SR.does_is hd
 have hid := h.id_eq
 unfold SR.recv
 rw [if_pos hd]
 split
 ·rename_i hp
  have hI : ({ s with n2 := lenI (enterL s.l2 id), l2 := enterL s.l2 id } : SR).vw.Inv := Vw.lines_inv (l1 := s.l1) (l2 := enterL s.l2 id) h.inv (fun j hj => hj) (fun j hj => enter_head hj)
  exact SR.recv_to (s := { s with n2 := lenI (enterL s.l2 id), l2 := enterL s.l2 id }) (t := s.rEnter id) (p := 1) (v := s.sn.getD id.toNat 0) hI hst1 hsd rfl rfl rfl rfl rfl rfl rfl rfl (getD_upd h.lp) (getD_same _ _) (fun c => by omega) (fun c => by omega) (fun c => by omega) (.inr fun c => c) (fun c => .inl c) (.inl ⟨by show s.pc.getD id.toNat 0 ≠ 6; omega, fun c => by have c : s.pc.getD id.toNat 0 = 4 := c; omega⟩)
 ·rename_i hp
  unfold SR.rFirst
  split
  ·rename_i hpl
   exact SR.at_invR h hsd (fun _ _ => by rw [hid]; exact place_head hpl) (by omega) (fun c => by omega) (by omega)
  ·split
   ·exact SR.ends_invR h hsd (by omega)
   ·exact SR.tries_inv h
 ·rename_i hp
  have hh := h.headR hsd (by omega) (by omega)
  unfold SR.rLook
  split
  ·exact SR.at_invR h hsd (fun _ _ => hh) (by omega) (fun c => by omega) (by omega)
  ·split
   ·unfold SR.rVain
    split
    ·exact SR.ends_invR h hsd (by omega)
    ·split
     ·exact SR.ends_invR h hsd (by omega)
     ·split
      ·exact SR.at_invR h hsd (fun _ _ => hh) (by omega) (fun c => by omega) (by omega)
      ·exact SR.tries_inv h
   ·exact SR.ends_invR h hsd (by omega)
 ·rename_i hp
  have hh := h.headR hsd (by omega) (by omega)
  unfold SR.rTake
  split
  ·obtain ⟨e1, e2, e3, e4, e5, e6, e7, e8, e9, e10, e11, e12⟩ := SR.tell_same { s with hd := takH s.hd s.tl s.md s.ns, rg := s.rg.set id.toNat (takP s.hd s.tl s.md s.ns) } id (s.kd.getD id.toNat 0) 1 (s.value (takP s.hd s.tl s.md s.ns))
   refine SR.recv_to (s := s) (p := 4) (v := s.sn.getD id.toNat 0) h.inv hst1 hsd e1 e2 e3 e4 e5 e6 e7 e8 ?_ ?_ (fun _ _ => hh) (fun c => by omega) (fun c => by omega) (.inl (by omega)) (fun c => .inr (.inl rfl)) (.inl ⟨by omega, fun c => by omega⟩)
   ·intro j
    show ((SR.tell _ _ _ _ _).pc.set _ _).getD j 0 = _
    rw [e9]
    exact getD_upd h.lp j
   ·intro j
    show (SR.tell _ _ _ _ _).sn.getD j 0 = _
    rw [e10]
    exact getD_same _ _ j
  ·split
   ·exact SR.at_invR h hsd (fun _ _ => hh) (by omega) (fun c => by omega) (by omega)
   ·exact SR.ends_invR h hsd (by omega)
 ·rename_i hp
  have hh := h.headR hsd (by omega) (by omega)
  exact SR.recv_to (s := s) (t := s.rRead id) (p := 6) (v := s.sn.getD id.toNat 0) h.inv hst1 hsd rfl rfl rfl rfl rfl rfl rfl rfl (getD_upd h.lp) (getD_same _ _) (fun _ _ => hh) (fun c => by omega) (fun c => by omega) (.inr fun c => c) (fun c => .inl c) (.inl ⟨by omega, fun c => .inr rfl⟩)
 ·rename_i hp
  have hh := h.headR hsd (by omega) (by omega)
  exact SR.recv_to (s := s) (t := s.rPrep id) (p := 7) (v := prepE s.ee s.l4) h.inv hst1 hsd rfl rfl rfl rfl rfl rfl rfl rfl (getD_upd h.lp) (getD_upd h.ls) (fun _ _ => hh) (fun _ => by unfold prepE; split <;> have := (SR.ok_ev h.ok).2.1 <;> omega) (fun c => by omega) (.inr fun c => c) (fun c => .inl c) (.inl ⟨by omega, fun c => by omega⟩)
 ·rename_i hp
  have hrv := SR.rungF_vw h.ok h.rows h.inv hfe
  have hI := Vw.ringF_inv h.inv
  rw [← hrv] at hI
  unfold SR.rNotify
  have hst : (if oneB s.fe s.l3 then s.rungF.wake (Go.Own.tellV s.fe s.l3) else s.rungF).st.getD id.toNat 0 = 1 := by
   have : (if oneB s.fe s.l3 then s.rungF.wake (Go.Own.tellV s.fe s.l3) else s.rungF).vw.st id.toNat = s.vw.ringF.st id.toNat := by rw [hrv]
   refine Eq.trans this ?_
   show (if s.st.getD id.toNat 0 = 2 ∧ opSide (s.kd.getD id.toNat 0) = 1 then 1 else s.st.getD id.toNat 0) = 1
   rw [hst1]
   rfl
  have hk : SR.Keep 0 s (if oneB s.fe s.l3 then s.rungF.wake (Go.Own.tellV s.fe s.l3) else s.rungF) := by
   split
   ·exact (SR.f3_keep s _ _).trans (SR.wake_keep _ _)
   ·exact SR.f3_keep s _ _
  have hnone : ∀ j, ¬ (if oneB s.fe s.l3 then s.rungF.wake (Go.Own.tellV s.fe s.l3) else s.rungF).vw.nF j := by
   intro j
   rw [hrv]
   exact Vw.ringF_none h.inv j
  generalize (if oneB s.fe s.l3 then s.rungF.wake (Go.Own.tellV s.fe s.l3) else s.rungF) = t at hI hst hk hnone
  have hr := hk.rows h.rows
  exact SR.recv_to (s := t) (t := t.at id 9) (p := 9) (v := t.sn.getD id.toNat 0) hI hst (by rw [hk.kd]; exact hsd) rfl rfl rfl rfl rfl rfl rfl rfl (getD_upd (by rw [hr.pc, hk.nt]; exact q)) (getD_same _ _) (fun _ c => by omega) (fun c => by omega) (fun c => by omega) (.inr fun c => c) (fun c => .inl c) (.inr hnone)
 ·rename_i hp
  have hh := h.headR hsd (by omega) (by omega)
  unfold SR.rAgain
  split
  ·rename_i hc
   exact SR.at_invR h hsd (fun _ _ => hh) (by omega) (fun _ => ⟨hc.1, h.inv.seenR id.toNat (by show s.st.getD id.toNat 0 ≠ 0; omega) hsd (.inl hp)⟩) (by omega)
  ·exact SR.at_invR h hsd (fun _ _ => hh) (by omega) (fun c => by omega) (by omega)
 ·rename_i hp
  have hh := h.headR hsd (by omega) (by omega)
  unfold SR.rCommit
  split
  ·exact SR.at_invR h hsd (fun _ _ => hh) (by omega) (fun c => by omega) (by omega)
  ·dsimp only
   cases hc : commitB s.ee s.l4 (s.sn.getD id.toNat 0) id with
   | true =>
    obtain ⟨k1, k2⟩ := commit_is hc
    rw [if_pos rfl, k2]
    have hz : thRuns (s.st.getD id.toNat 0) = 0 := by rw [hst1]; rfl
    refine Vw.same_inv (Vw.parkE_inv (i := id.toNat) h.inv hst1 hsd hp k1) ?_
    unfold SR.park SR.vw Vw.parkE
    simp only [hz, invI, if_true, List.set_set]
    have e1 : (fun j => (s.st.set id.toNat 2).getD j 0) = upd (fun j => s.st.getD j 0) id.toNat 2 := funext fun j => getD_upd (by rw [h.rows.st]; exact h.lt) j
    have e2 : (fun j => (s.pc.set id.toNat 2).getD j 0) = upd (fun j => s.pc.getD j 0) id.toNat 2 := funext fun j => getD_upd h.lp j
    rw [e1, e2, hid]
    rfl
   | false =>
    rw [if_neg (by simp)]
    have e : commitL s.ee s.l4 (s.sn.getD id.toNat 0) id = s.l4 := by unfold commitL; rw [if_neg (by rw [hc]; simp)]
    rw [e]
    exact SR.recv_to (s := s) (t := { s with n4 := lenI s.l4, l4 := s.l4, pc := s.pc.set id.toNat 2 }) (p := 2) (v := s.sn.getD id.toNat 0) h.inv hst1 hsd rfl rfl rfl rfl rfl rfl rfl rfl (getD_upd h.lp) (getD_same _ _) (fun _ _ => hh) (fun c => by omega) (fun c => by omega) (.inr fun c => c) (fun c => .inl c) (.inl ⟨by omega, fun c => by omega⟩)
 ·rename_i h0 h1 h2 h3 h4 h5 h6 h7 h8
  have hp4 : s.pc.getD id.toNat 0 ≠ 4 := fun e => h4 e
  have hp6 : s.pc.getD id.toNat 0 ≠ 6 := fun e => h6 e
  refine SR.done_inv h s.l1 (leaveL s.l2 id) s.n1 (lenI (leaveL s.l2 id)) (fun j _ hl => hl) (fun j hj hl => leave_head (by omega) hl) ?_ ?_
  ·rintro _ ⟨_, hw⟩
   have hsd : s.vw.sd id.toNat = 2 := hsd
   have a4 : s.vw.pc id.toNat ≠ 4 := hp4
   have a6 : s.vw.pc id.toNat ≠ 6 := hp6
   omega
  ·rintro _ ⟨_, hw⟩
   have hsd : s.vw.sd id.toNat = 2 := hsd
   omega
theorem SR.step_inv {s : SR} {id : Int} (h : s.AtS id) (hd : s.closer id = true) (hfe : s.fe < 1099511627776) (hee : s.ee < 1099511627776) : (s.step id).vw.Inv := by
 obtain ⟨_, c2, c3, c4, hsd⟩ := SR.closer_is hd
 have hst1 := h.st
 have hsd' : s.vw.sd id.toNat = 3 := hsd
 unfold SR.step
 rw [if_pos hd]
 split
 ·rename_i hp
  unfold SR.shut
  obtain ⟨e1, e2, e3, e4, e5, e6, e7, e8, e9, e10, e11, e12⟩ := SR.tell_same { s with md := closeM s.md (cmode (s.kd.getD id.toNat 0)) } id (s.kd.getD id.toNat 0) 1 0
  dsimp only
  generalize (SR.tell { s with md := closeM s.md (cmode (s.kd.getD id.toNat 0)) } id (s.kd.getD id.toNat 0) 1 0) = t at e1 e2 e3 e4 e5 e6 e7 e8 e9 e10 e11 e12
  have ev := SR.vw_move (s := s) (t := { t with pc := t.pc.set id.toNat 1 }) (i := id.toNat) (p := 1) (v := s.sn.getD id.toNat 0) e1 e2 e3 e4 e5 e6 e7 e8 (fun j => by
   show (t.pc.set id.toNat 1).getD j 0 = _
   rw [e9]
   exact getD_upd h.lp j) (fun j => by
   show t.sn.getD j 0 = _
   rw [e10]
   exact getD_same _ _ j)
  rw [ev]
  refine Vw.move_inv h.inv hst1 (fun c => by omega) (fun c => by omega) (fun c => by omega) (fun c => by omega) (fun c => by omega) (fun c => by omega) ?_ ?_
  ·intro j hj hn
   have : (s.vw.move id.toNat 1 (s.sn.getD id.toNat 0) (({ t with pc := t.pc.set id.toNat 1 } : SR).accR = 2) (({ t with pc := t.pc.set id.toNat 1 } : SR).takR = 4)).wF id.toNat := ⟨hst1, .inr ⟨hsd, by simp [Vw.move, upd_at]⟩⟩
   exact ⟨fun _ => .inr this, fun _ => .inr this⟩
  ·intro j hj hn
   have : (s.vw.move id.toNat 1 (s.sn.getD id.toNat 0) (({ t with pc := t.pc.set id.toNat 1 } : SR).accR = 2) (({ t with pc := t.pc.set id.toNat 1 } : SR).takR = 4)).wE id.toNat := ⟨hst1, .inr ⟨hsd, .inl (by simp [Vw.move, upd_at])⟩⟩
   exact ⟨fun _ => .inr this, fun _ => .inr this⟩
 ·rename_i hp0
  split
  ·rename_i hp
   have hbv := SR.bell_vw h.ok h.rows h.inv hfe
   have hI := Vw.ringF_inv h.inv
   have hnone := Vw.ringF_none h.inv
   rw [← hbv] at hI hnone
   have hk : SR.Keep 0 s s.bell := (SR.f3_keep s _ _).trans (SR.wakes_keep _ _ _)
   have hst : s.bell.st.getD id.toNat 0 = 1 := by
    rw [← hst1]
    exact SR.wakes_st _ _ _ _ (by show s.st.getD id.toNat 0 ≠ 2; omega)
   have hpc : s.bell.pc = s.pc := SR.wakes_pc _ _ _
   generalize s.bell = t at hI hnone hk hst hpc
   have hr := hk.rows h.rows
   have ev := SR.vw_move (s := t) (t := { t with pc := t.pc.set id.toNat 2 }) (i := id.toNat) (p := 2) (v := t.sn.getD id.toNat 0) rfl rfl rfl rfl rfl rfl rfl rfl (getD_upd (by rw [hr.pc, hk.nt]; exact h.lt)) (getD_same _ _)
   rw [ev]
   have hsdt : t.vw.sd id.toNat = 3 := by show opSide (t.kd.getD id.toNat 0) = 3; rw [hk.kd]; exact hsd
   refine Vw.move_inv hI hst (fun c => by omega) (fun c => by omega) (fun c => by omega) (fun c => by omega) (fun c => by omega) (fun c => by omega) (fun j hj hn => absurd hn (hnone j)) ?_
   intro j hj hn
   refine ⟨fun c => .inl c, fun c => .inr ⟨hst, .inr ⟨hsdt, .inr (by simp [Vw.move, upd_at])⟩⟩⟩
  ·rename_i hp
   have hbv := SR.bell2_vw h.ok h.rows h.inv hee
   have hI := Vw.ringE_inv h.inv
   have hnone := Vw.ringE_none h.inv
   rw [← hbv] at hI hnone
   have hk : SR.Keep 0 s s.bell2 := (SR.f4_keep s _ _).trans (SR.wakes_keep _ _ _)
   have hst : s.bell2.st.getD id.toNat 0 = 1 := by
    rw [← hst1]
    exact SR.wakes_st _ _ _ _ (by show s.st.getD id.toNat 0 ≠ 2; omega)
   have hpc : s.bell2.pc = s.pc := SR.wakes_pc _ _ _
   have hok : s.bell2.ok = true := SR.bell2_ok h.ok
   generalize s.bell2 = t at hI hnone hk hst hpc hok
   have hr := hk.rows h.rows
   have hsdt : t.vw.sd id.toNat = 3 := by show opSide (t.kd.getD id.toNat 0) = 3; rw [hk.kd]; exact hsd
   refine SR.done_inv (s := t) ⟨hok, hr, hI, c2, by rw [hk.nt]; exact h.lt, hst⟩ t.l1 t.l2 t.n1 t.n2 (fun _ _ hl => hl) (fun _ _ hl => hl) ?_ (fun ⟨j, hj⟩ => absurd hj (hnone j))
   rintro _ ⟨_, hw⟩
   have a1 : t.vw.pc id.toNat ≠ 1 := by show t.pc.getD id.toNat 0 ≠ 1; rw [hpc]; exact hp
   omega
theorem SR.runs_one {s : SR} (h : s.ok = true) {i : Nat} (hi : i < s.nt) (hr : thRuns (s.st.getD i 0) = 0) : s.st.getD i 0 = 1 := by
 have := (thOk_iff.1 (((SR.ok_iff2 s).1 h).2 i hi)).1
 unfold thRuns at hr
 split at hr
 ·omega
 ·split at hr <;> omega
theorem SR.pickE_zero {s : SR} {id : Int} (h : s.pickE id = 0) : s.ok = true ∧ 0 ≤ id ∧ id < s.nt ∧ thRuns (s.st.getD id.toNat 0) = 0 := by
 unfold SR.pickE at h
 split at h
 ·rename_i h1
  split at h
  ·omega
  ·rename_i h2
   exact ⟨h1, by omega, by omega, h⟩
 ·omega
theorem SR.pick_inv {s : SR} (hr : s.rows) (hI : s.vw.Inv) (hfe : s.fe < 1099511627776) (hee : s.ee < 1099511627776) (id : Int) : (s.pick id).vw.Inv := by
 unfold SR.pick
 split
 ·rename_i hp
  obtain ⟨h1, h2, h3, h4⟩ := SR.pickE_zero hp
  have hlt : id.toNat < s.nt := by omega
  have hat : s.AtS id := ⟨h1, hr, hI, h2, hlt, SR.runs_one h1 hlt h4⟩
  have his : s.is id = true := by simp only [SR.is, h1, Bool.true_and, decide_eq_true_eq]; exact ⟨h2, h3⟩
  unfold SR.turn
  split
  ·rename_i hs
   exact SR.send_inv hat (by unfold SR.does; rw [his]; simp only [Bool.true_and, decide_eq_true_eq]; exact ⟨h4, hs⟩) hfe hee
  ·split
   ·rename_i hs
    exact SR.recv_inv hat (by unfold SR.does; rw [his]; simp only [Bool.true_and, decide_eq_true_eq]; exact ⟨h4, hs⟩) hfe hee
   ·rename_i hs1 hs2
    have hs3 : opSide (s.kd.getD id.toNat 0) = 3 := by
     have ht := (thOk_iff.1 (((SR.ok_iff2 s).1 h1).2 id.toNat hlt)).2.2.1
     have := opSide_in (s.kd.getD id.toNat 0)
     have := hat.st
     omega
    exact SR.step_inv hat (by unfold SR.closer; rw [his]; simp only [Bool.true_and, decide_eq_true_eq]; exact ⟨h4, hs3⟩) hfe hee
 ·exact hI
theorem comeE_le (e : Int) (l : List Int) : comeE e l ≤ e + 1 := by
 unfold comeE
 split
 ·rw [imin_e]; omega
 ·omega
def SR.Ep (s t : SR) : Prop := t.fe ≤ s.fe + 1 ∧ t.ee ≤ s.ee + 1
theorem SR.ep_of {s t : SR} (h1 : t.fe = s.fe) (h2 : t.ee = s.ee) : SR.Ep s t := ⟨by omega, by omega⟩
theorem SR.ends_ep (s : SR) (id r : Int) : SR.Ep s (s.ends id r) := by
 obtain ⟨e1, e2, e3, e4, e5, e6, e7, e8, _⟩ := SR.tell_same s id (s.kd.getD id.toNat 0) r 0
 exact SR.ep_of e7 e8
theorem SR.tell_at_ep {s u : SR} (h1 : u.fe = s.fe) (h2 : u.ee = s.ee) (a b c d id q : Int) : SR.Ep s ((u.tell a b c d).at id q) := by
 obtain ⟨e1, e2, e3, e4, e5, e6, e7, e8, _⟩ := SR.tell_same u a b c d
 exact SR.ep_of (e7.trans h1) (e8.trans h2)
theorem SR.wake_ep (s : SR) (x : Int) : (s.wake x).fe = s.fe ∧ (s.wake x).ee = s.ee := by
 unfold SR.wake
 split <;> exact ⟨rfl, rfl⟩
theorem SR.wakes_ep (l : List Int) (i : Nat) (s : SR) : (s.wakes l i).fe = s.fe ∧ (s.wakes l i).ee = s.ee := by
 unfold SR.wakes
 generalize l.drop i = m
 induction m generalizing s with
 | nil => exact ⟨rfl, rfl⟩
 | cons x m ih => exact ⟨(ih (s.wake x)).1.trans (SR.wake_ep s x).1, (ih (s.wake x)).2.trans (SR.wake_ep s x).2⟩
theorem SR.send_ep (s : SR) (id : Int) : SR.Ep s (s.send id) := by
 unfold SR.send
 split
 ·split
  ·exact SR.ep_of rfl rfl
  ·unfold SR.sFirst
   split
   ·exact SR.ep_of rfl rfl
   ·split
    ·exact SR.ends_ep s _ _
    ·exact SR.ep_of rfl rfl
  ·unfold SR.sLook
   split
   ·exact SR.ep_of rfl rfl
   ·split
    ·unfold SR.sFull
     split
     ·exact SR.ends_ep s _ _
     ·split
      ·exact SR.ep_of rfl rfl
      ·split
       ·exact SR.ends_ep s _ _
       ·split
        ·exact SR.ends_ep s _ _
        ·split <;> exact SR.ep_of rfl rfl
    ·exact SR.ends_ep s _ _
  ·unfold SR.sWrite
   split <;> exact SR.ep_of rfl rfl
  ·unfold SR.sAccept
   split
   ·exact SR.tell_at_ep rfl rfl _ _ _ _ _ _
   ·split
    ·exact SR.ep_of rfl rfl
    ·exact SR.ends_ep s _ _
  ·exact SR.ep_of rfl rfl
  ·unfold SR.sNotify
   split
   ·have h := SR.wake_ep s.rungE (Go.Own.tellV s.ee s.l4)
    refine ⟨?_, ?_⟩
    ·show (s.rungE.wake _).fe ≤ _
     rw [h.1]
     show s.fe ≤ _
     omega
    ·show (s.rungE.wake _).ee ≤ _
     rw [h.2]
     exact comeE_le _ _
   ·exact ⟨by show s.fe ≤ _; omega, comeE_le _ _⟩
  ·unfold SR.sAgain
   split <;> exact SR.ep_of rfl rfl
  ·unfold SR.sCommit
   split
   ·exact SR.ep_of rfl rfl
   ·dsimp only
    split <;> exact SR.ep_of rfl rfl
  ·exact SR.ep_of rfl rfl
  ·unfold SR.sEvict
   split
   ·exact SR.tell_at_ep rfl rfl _ _ _ _ _ _
   ·exact SR.ep_of rfl rfl
  ·unfold SR.sRelease
   split <;> exact SR.ep_of rfl rfl
  ·exact SR.ep_of rfl rfl
 ·exact SR.ep_of rfl rfl
theorem SR.recv_ep (s : SR) (id : Int) : SR.Ep s (s.recv id) := by
 unfold SR.recv
 split
 ·split
  ·exact SR.ep_of rfl rfl
  ·unfold SR.rFirst
   split
   ·exact SR.ep_of rfl rfl
   ·split
    ·exact SR.ends_ep s _ _
    ·exact SR.ep_of rfl rfl
  ·unfold SR.rLook
   split
   ·exact SR.ep_of rfl rfl
   ·split
    ·unfold SR.rVain
     split
     ·exact SR.ends_ep s _ _
     ·split
      ·exact SR.ends_ep s _ _
      ·split <;> exact SR.ep_of rfl rfl
    ·exact SR.ends_ep s _ _
  ·unfold SR.rTake
   split
   ·exact SR.tell_at_ep rfl rfl _ _ _ _ _ _
   ·split
    ·exact SR.ep_of rfl rfl
    ·exact SR.ends_ep s _ _
  ·exact SR.ep_of rfl rfl
  ·exact SR.ep_of rfl rfl
  ·unfold SR.rNotify
   split
   ·have h := SR.wake_ep s.rungF (Go.Own.tellV s.fe s.l3)
    refine ⟨?_, ?_⟩
    ·show (s.rungF.wake _).fe ≤ _
     rw [h.1]
     exact comeE_le _ _
    ·show (s.rungF.wake _).ee ≤ _
     rw [h.2]
     show s.ee ≤ _
     omega
   ·exact ⟨comeE_le _ _, by show s.ee ≤ _; omega⟩
  ·unfold SR.rAgain
   split <;> exact SR.ep_of rfl rfl
  ·unfold SR.rCommit
   split
   ·exact SR.ep_of rfl rfl
   ·dsimp only
    split <;> exact SR.ep_of rfl rfl
  ·exact SR.ep_of rfl rfl
 ·exact SR.ep_of rfl rfl
theorem SR.step_ep (s : SR) (id : Int) : SR.Ep s (s.step id) := by
 unfold SR.step
 split
 ·split
  ·exact SR.tell_at_ep (u := { s with md := closeM s.md (cmode (s.kd.getD id.toNat 0)) }) rfl rfl id (s.kd.getD id.toNat 0) 1 0 id 1
  ·split
   ·have h := SR.wakes_ep (allO s.fe s.l3) 0 { s with fe := comeE s.fe s.l3, n3 := (allL s.fe s.l3).length, l3 := allL s.fe s.l3 }
    refine ⟨?_, ?_⟩
    ·show s.bell.fe ≤ _
     unfold SR.bell
     rw [h.1]
     exact comeE_le _ _
    ·show s.bell.ee ≤ _
     unfold SR.bell
     rw [h.2]
     show s.ee ≤ _
     omega
   ·have h := SR.wakes_ep (allO s.ee s.l4) 0 { s with ee := comeE s.ee s.l4, n4 := (allL s.ee s.l4).length, l4 := allL s.ee s.l4 }
    refine ⟨?_, ?_⟩
    ·show s.bell2.fe ≤ _
     unfold SR.bell2
     rw [h.1]
     show s.fe ≤ _
     omega
    ·show s.bell2.ee ≤ _
     unfold SR.bell2
     rw [h.2]
     exact comeE_le _ _
 ·exact SR.ep_of rfl rfl
theorem SR.pick_ep (s : SR) (id : Int) : SR.Ep s (s.pick id) := by
 unfold SR.pick
 split
 ·unfold SR.turn
  split
  ·exact SR.send_ep s id
  ·split
   ·exact SR.recv_ep s id
   ·exact SR.step_ep s id
 ·exact SR.ep_of rfl rfl
theorem SR.start_inv {s : SR} {id kind val ut : Int} (hr : s.rows) (hI : s.vw.Inv) : (s.inv id kind val ut).vw.Inv := by
 unfold SR.inv
 split
 ·rename_i h
  obtain ⟨h1, h2, h3, h4, h5⟩ := SR.invE_zero h
  obtain ⟨k1, k2, k3⟩ := thInvE_zero h5
  have hlt : id.toNat < s.nt := by omega
  refine Vw.same_inv (Vw.start_inv (i := id.toNat) (d := opSide kind) hI k1) ?_
  unfold SR.vw Vw.start
  have e1 : (fun j => (s.st.set id.toNat 1).getD j 0) = upd (fun j => s.st.getD j 0) id.toNat 1 := funext fun j => getD_upd (by rw [hr.st]; exact hlt) j
  have e2 : (fun j => (s.pc.set id.toNat 0).getD j 0) = upd (fun j => s.pc.getD j 0) id.toNat 0 := funext fun j => getD_upd (by rw [hr.pc]; exact hlt) j
  have e3 : (fun j => (s.sn.set id.toNat 0).getD j 0) = upd (fun j => s.sn.getD j 0) id.toNat 0 := funext fun j => getD_upd (by rw [hr.sn]; exact hlt) j
  have e4 : (fun j => opSide ((s.kd.set id.toNat kind).getD j 0)) = upd (fun j => opSide (s.kd.getD j 0)) id.toNat (opSide kind) := funext fun j => by
   rw [getD_upd (by rw [hr.kd]; exact hlt)]
   by_cases e : j = id.toNat
   ·rw [if_pos e, upd_at, if_pos e]
   ·rw [if_neg e, upd_at, if_neg e]
  simp only
  rw [e1, e2, e3, e4]
  rfl
 ·exact hI
theorem cancel_mem {e x : Int} {l : List Int} (hl : okL x l) (hev : evOk e l = true) (id : Int) : (cancelL e l id).Nodup ∧ ∀ y, y ∈ cancelL e l id ↔ y ∈ l ∧ y ≠ id := by
 refine ⟨(okL_cancel hl).2, fun y => ?_⟩
 unfold cancelL
 split
 ·rename_i hc
  simp only [cancelB, hev, Bool.true_and, List.contains_eq_mem, decide_eq_true_eq] at hc
  have hlo : lineOk l = true := (evOk_line hev).1
  unfold placeAt
  rw [if_pos hlo]
  rcases idxAt_cases l id with ⟨h1, h2⟩ | ⟨j, hj, h1, h2, h3⟩
  ·exact absurd hc h2
  ·have e1 : (idxAt l id 0).toNat = j := by omega
   rw [e1]
   have hmem : ∀ y, y ∈ l.eraseIdx j ↔ ∃ i, i ≠ j ∧ l[i]? = some y := fun y => List.mem_eraseIdx_iff_getElem?
   rw [hmem]
   constructor
   ·rintro ⟨i, hij, hi⟩
    obtain ⟨hil, hiy⟩ := List.getElem?_eq_some_iff.1 hi
    refine ⟨List.mem_of_getElem? hi, fun e => hij ?_⟩
    rw [e, ← h2] at hiy
    exact (List.getElem_inj hl.2).1 hiy
   ·rintro ⟨h4, h5⟩
    obtain ⟨i, hil, hiy⟩ := List.getElem_of_mem h4
    refine ⟨i, fun e => h5 ?_, by rw [List.getElem?_eq_getElem hil, hiy]⟩
    subst e
    rw [← hiy, h2]
 ·rename_i hc
  simp only [cancelB, hev, Bool.true_and, List.contains_eq_mem, decide_eq_true_eq] at hc
  exact ⟨fun h => ⟨h, fun e => hc (e ▸ h)⟩, fun h => h.1⟩
theorem SR.late1_all {s : SR} {j : Nat} (h : s.ok = true) (hr : s.rows) (hj : j < s.nt) (hs : s.st.getD j 0 ≠ 0) (ht : opTimed (s.kd.getD j 0) = true) :
  (s.late1 (j : Int)).ok = true ∧ SR.Keep 0 s (s.late1 (j : Int)) ∧ (∀ i, s.st.getD i 0 ≠ 0 → (s.late1 (j : Int)).st.getD i 0 ≠ 0) ∧ (s.vw.Inv → (s.late1 (j : Int)).vw.Inv) ∧ (s.late1 (j : Int)).fe = s.fe ∧ (s.late1 (j : Int)).ee = s.ee := by
 obtain ⟨L1, L2, L3, L4⟩ := SR.ok_lines h
 obtain ⟨E1, E2, E3, E4⟩ := SR.ok_ev h
 have hlt : ∀ (u : SR), u.ok = true → u.nt = s.nt → u.rows → u.st.getD j 0 ≠ 0 → u.kd = s.kd → ({ u with lt := u.lt.set j true } : SR).ok = true := by
  intro u hu hn hru hsu hku
  refine SR.th_ok hu ((SR.ok_iff2 u).1 hu).1 rfl j (fun i hi => ?_) (fun hh => ?_)
  ·unfold SR.thok
   dsimp only
   rw [getB_set, if_neg (fun e => hi e.1.symm)]
  ·unfold SR.thok at hh ⊢
   dsimp only
   rw [thOk_iff] at hh ⊢
   obtain ⟨a1, a2, a3, a4, a5, a6, a7⟩ := hh
   exact ⟨a1, a2, a3, a4, .inl (by rw [hku]; exact ht), a6, .inl hsu⟩
 unfold SR.late1
 simp only [Int.toNat_natCast]
 split
 ·rename_i h2
  have k1 : SR.Keep 0 s ({ s with lt := s.lt.set j true } : SR) := SR.lt_keep s j true
  have k2 : SR.Keep 0 s ({ s with lt := s.lt.set j true, n3 := lenI (cancelL s.fe s.l3 (j : Int)), l3 := cancelL s.fe s.l3 (j : Int), n4 := lenI (cancelL s.ee s.l4 (j : Int)), l4 := cancelL s.ee s.l4 (j : Int), st := s.st.set j 1 } : SR) :=
   ((k1.trans (SR.f3_keep _ s.fe (cancelL s.fe s.l3 (j : Int)))).trans (SR.f4_keep _ s.ee (cancelL s.ee s.l4 (j : Int)))).trans (SR.st_keep _ j 1)
  have o1 := hlt s h rfl hr hs rfl
  have o2 : ({ s with lt := s.lt.set j true, n3 := lenI (cancelL s.fe s.l3 (j : Int)), l3 := cancelL s.fe s.l3 (j : Int), n4 := lenI (cancelL s.ee s.l4 (j : Int)), l4 := cancelL s.ee s.l4 (j : Int) } : SR).ok = true := SR.lines_ok o1 L1 L2 (okL_cancel L3) (okL_cancel L4) E1 E2
  have o3 : ({ s with lt := s.lt.set j true, n3 := lenI (cancelL s.fe s.l3 (j : Int)), l3 := cancelL s.fe s.l3 (j : Int), n4 := lenI (cancelL s.ee s.l4 (j : Int)), l4 := cancelL s.ee s.l4 (j : Int), st := s.st.set j 1 } : SR).ok = true := by
   have hw := SR.wake_ok o2 (j : Int)
   unfold SR.wake at hw
   rw [if_pos (by simp only [SR.is, o2, Bool.true_and, decide_eq_true_eq]; exact ⟨by omega, by show (j : Int) < s.nt; omega⟩)] at hw
   simp only [Int.toNat_natCast, h2] at hw
   exact hw
  refine ⟨o3, k2, fun i hi => ?_, fun hI => ?_, rfl, rfl⟩
  ·show (s.st.set j 1).getD i 0 ≠ 0
   rw [getD_upd (by rw [hr.st]; exact hj)]
   split
   ·omega
   ·exact hi
  ·obtain ⟨n3, m3⟩ := cancel_mem L3 E3 (j : Int)
   obtain ⟨n4, m4⟩ := cancel_mem L4 E4 (j : Int)
   refine Vw.same_inv (Vw.stir_inv (i := j) hI h2 n3 n4 m3 m4) ?_
   unfold SR.vw Vw.stir
   have e1 : (fun i => (s.st.set j 1).getD i 0) = upd (fun i => s.st.getD i 0) j 1 := funext fun i => getD_upd (by rw [hr.st]; exact hj) i
   simp only
   rw [e1]
   rfl
 ·exact ⟨hlt s h rfl hr hs rfl, SR.lt_keep s j true, fun _ hi => hi, fun hI => hI, rfl, rfl⟩
theorem SR.lates_all (k0 : List Int) : ∀ (l : List Int) (s : SR), s.ok = true → s.rows → (∀ x ∈ l, ∃ j : Nat, x = j ∧ j < s.nt ∧ s.st.getD j 0 ≠ 0 ∧ opTimed (s.kd.getD j 0) = true) →
  (s.lates l 0).ok = true ∧ SR.Keep 0 s (s.lates l 0) ∧ (s.vw.Inv → (s.lates l 0).vw.Inv) ∧ (s.lates l 0).fe = s.fe ∧ (s.lates l 0).ee = s.ee
 | [], s, h, hr, hl => ⟨h, SR.Keep.refl s, fun h => h, rfl, rfl⟩
 | x :: l, s, h, hr, hl => by
  obtain ⟨j, rfl, hj, hs, ht⟩ := hl x (by simp)
  obtain ⟨g1, g2, g3, g4, g5, g6⟩ := SR.late1_all h hr hj hs ht
  obtain ⟨q1, q2, q3, q4, q5⟩ := SR.lates_all k0 l (s.late1 (j : Int)) g1 (g2.rows hr) (fun y hy => by
   obtain ⟨i, e, i1, i2, i3⟩ := hl y (by simp [hy])
   exact ⟨i, e, by rw [g2.nt]; exact i1, g3 i i2, by rw [g2.kd]; exact i3⟩)
  exact ⟨q1, g2.trans q2, fun hI => q3 (g4 hI), q4.trans g5, q5.trans g6⟩
theorem SR.tick_all {s : SR} (h : s.ok = true) (hr : s.rows) (n : Int) : (s.tick n).ok = true ∧ (s.tick n).rows ∧ (s.vw.Inv → (s.tick n).vw.Inv) ∧ (s.tick n).fe = s.fe ∧ (s.tick n).ee = s.ee ∧ (s.tick n).nl ≤ s.nl := by
 unfold SR.tick
 split
 ·rename_i he
  have hn : 0 ≤ n ∧ s.now + n ≤ 1099511627776 := by
   unfold SR.tickE at he
   rw [if_pos h] at he
   split at he
   ·omega
   ·omega
  have o1 : ({ s with now := s.now + n } : SR).ok = true := by
   obtain ⟨⟨q1, q2, q3, q4, q5, q6, q7, q8, q9, q10⟩, k2⟩ := (SR.ok_iff2 s).1 h
   exact (SR.ok_iff2 _).2 ⟨⟨q1, q2, q3, q4, q5, q6, q7, by show 0 ≤ s.now + n; omega, by show s.now + n ≤ _; omega, q10⟩, k2⟩
  have r1 : ({ s with now := s.now + n } : SR).rows := ⟨hr.ss, hr.sv, hr.l1, hr.l2, hr.l3, hr.l4, hr.st, hr.kd, hr.vl, hr.un, hr.pc, hr.rg, hr.sn, hr.tr, hr.lt, hr.rs, hr.gt, hr.c0, hr.ks, hr.vs, hr.rr, hr.gs⟩
  obtain ⟨q1, q2, q3, q4, q5⟩ := SR.lates_all [] (s.lateI n) { s with now := s.now + n } o1 r1 (fun x hx => by
   unfold SR.lateI at hx
   rw [if_pos he] at hx
   obtain ⟨j, g1, ⟨g2, g3, g4⟩, _, g5⟩ := SR.late_mem hx
   exact ⟨j, g5, g1, g2, g3⟩)
  exact ⟨q1, q2.rows r1, fun hI => q3 hI, q4, q5, by have := q2.nl; exact this⟩
 ·exact ⟨h, hr, fun hI => hI, rfl, rfl, Nat.le_refl _⟩
theorem SR.begun_rows {s : SR} (hr : s.rows) (id kind val ut : Int) : (s.inv id kind val ut).rows := by
 unfold SR.inv
 split
 ·constructor <;> simp [hr.ss, hr.sv, hr.l1, hr.l2, hr.l3, hr.l4, hr.st, hr.kd, hr.vl, hr.un, hr.pc, hr.rg, hr.sn, hr.tr, hr.lt, hr.rs, hr.gt, hr.c0, hr.ks, hr.vs, hr.rr, hr.gs]
 ·exact hr
theorem SR.call_held {s : SR} {k : Nat} (h : s.ok = true) (hr : s.rows) (hh : s.Held k) (hk : k ≤ 100000) (a b c d : Int) : (s.callS a b c d).ok = true ∧ (s.callS a b c d).rows ∧ (s.callS a b c d).Held (k + 1) := by
 have hfe := hh.fe
 have hee := hh.ee
 have hnl := hh.nl
 unfold SR.callS
 split
 ·split
  ·obtain ⟨q1, q2, q3, q4, q5, q6⟩ := SR.tick_all h hr c
   exact ⟨q1, q2, q3 hh.inv, by omega, by omega, by omega⟩
  ·split
   ·have hkp := SR.pick_keep s b
    have he := SR.pick_ep s b
    refine ⟨SR.pick_ok h hr b, hkp.rows hr, SR.pick_inv hr hh.inv (by omega) (by omega) b, ?_, ?_, ?_⟩
    ·have := hkp.nl; omega
    ·have := he.1; omega
    ·have := he.2; omega
   ·have hi := SR.inv_same s b a c (iadd .i64 s.now d)
    refine ⟨?_, SR.begun_rows hr _ _ _ _, SR.start_inv hr hh.inv, ?_, ?_, ?_⟩
    ·by_cases e : s.invE b a (iadd .i64 s.now d) = 0
     ·exact SR.inv_ok hr e
     ·unfold SR.inv; rw [if_neg e]; exact h
    ·rw [hi.2.1]; omega
    ·rw [hi.2.2.2.1]; omega
    ·rw [hi.2.2.2.2.1]; omega
 ·exact ⟨h, hr, hh.inv, by omega, by omega, by omega⟩
theorem SR.safe_of {s : SR} (h : s.ok = true) (hr : s.rows) (hI : s.vw.Inv) : s.safeFrom 0 = true := by
 unfold SR.safeFrom
 rw [List.drop_zero, List.all_eq_true]
 intro i hi
 have hi : i < s.nt := by simpa using hi
 unfold SR.calm
 cases hp : s.parkedB (i : Int) with
 | false => simp
 | true =>
  have hst : s.st.getD i 0 = 2 := by
   have := hp
   simp only [SR.parkedB, Bool.and_eq_true, decide_eq_true_eq, Int.toNat_natCast] at this
   exact this.2
  have hpk := hI.park i hst
  have hwak : ∀ k, s.vw.st k = 1 → 0 < wayN (opSide (s.kd.getD i 0)) (opSide (s.kd.getD k 0)) (s.pc.getD k 0) → (s.wakersL (i : Int)).length ≠ 0 := by
   intro k hk1 hk2
   have hkn : k < s.nt := SR.st_lt hr (by have : s.st.getD k 0 = 1 := hk1; omega)
   have hb : wakeB (opSide (s.kd.getD i 0)) s.st s.kd s.pc k = true := by
    unfold wakeB wayS
    simp only [decide_eq_true_eq]
    exact ⟨by have : s.st.getD k 0 = 1 := hk1; rw [this]; rfl, hk2⟩
   unfold SR.wakersL
   rw [if_pos hp, Int.toNat_natCast]
   unfold wakL
   rw [List.nil_append, List.length_map, List.drop_zero]
   intro e
   have := List.filter_eq_nil_iff.1 (List.length_eq_zero_iff.1 e) k (by simpa using hkn)
   exact this hb
  rcases hpk.2 with hsd | hsd
  ·have hsd' : opSide (s.kd.getD i 0) = 1 := hsd
   rcases hI.qS i ⟨hsd, .inl hst⟩ with q | ⟨k, q1, q2⟩
   ·have : s.waitsB (i : Int) = true := by
     unfold SR.waitsB
     rw [hp, Int.toNat_natCast]
     simp only [Bool.true_and, decide_eq_true_eq]
     exact .inl ⟨hsd', q⟩
    simp [this]
   ·have := hwak k q1 (by
     rw [hsd']
     unfold wayN
     rcases q2 with ⟨g1, g2⟩ | ⟨g1, g2⟩
     ·have g1 : opSide (s.kd.getD k 0) = 2 := g1
      rcases g2 with g2 | g2
      ·have g2 : s.pc.getD k 0 = 4 := g2
       rw [g1, g2]; decide
      ·have g2 : s.pc.getD k 0 = 6 := g2
       rw [g1, g2]; decide
     ·have g1 : opSide (s.kd.getD k 0) = 3 := g1
      have g2 : s.pc.getD k 0 = 1 := g2
      rw [g1, g2]; decide)
    simp [this]
  ·have hsd' : opSide (s.kd.getD i 0) = 2 := hsd
   rcases hI.qR i ⟨hsd, .inl hst⟩ with q | ⟨k, q1, q2⟩
   ·have : s.waitsB (i : Int) = true := by
     unfold SR.waitsB
     rw [hp, Int.toNat_natCast]
     simp only [Bool.true_and, decide_eq_true_eq]
     exact .inr ⟨hsd', q⟩
    simp [this]
   ·have := hwak k q1 (by
     rw [hsd']
     unfold wayN
     rcases q2 with ⟨g1, g2⟩ | ⟨g1, g2⟩
     ·have g1 : opSide (s.kd.getD k 0) = 1 := g1
      have g2 : s.pc.getD k 0 = 6 := g2
      rw [g1, g2]; decide
     ·have g1 : opSide (s.kd.getD k 0) = 3 := g1
      rcases g2 with g2 | g2
      ·have g2 : s.pc.getD k 0 = 1 := g2
       rw [g1, g2]; decide
      ·have g2 : s.pc.getD k 0 = 2 := g2
       rw [g1, g2]; decide)
    simp [this]
end Go.Own
end
section
namespace Go.Own
open Go Go.Proofs
set_option maxRecDepth 100000
set_option maxHeartbeats 4000000
def GoodW (s : SR) (k : Nat) : Prop := s.ok = true ∧ s.rows ∧ s.Held k
theorem new_good {lg th po wt sp yi : Int} {sg : Bool} (h : confE lg th po wt sp yi = 0) : GoodW (newSR lg th po wt sp yi sg) 0 := by
 have e : ∀ i, (newSR lg th po wt sp yi sg).st.getD i 0 = 0 := by
  intro i
  unfold newSR
  rw [if_pos h]
  show (rI th.toNat).getD i 0 = 0
  unfold rI
  simp [List.getElem?_replicate]
  split <;> rfl
 have e2 : (newSR lg th po wt sp yi sg).l3 = [] ∧ (newSR lg th po wt sp yi sg).l4 = [] ∧ (newSR lg th po wt sp yi sg).fe = 0 ∧ (newSR lg th po wt sp yi sg).ee = 0 ∧ (newSR lg th po wt sp yi sg).nl = 0 := by
  unfold newSR
  rw [if_pos h]
  exact ⟨rfl, rfl, rfl, rfl, rfl⟩
 obtain ⟨e3, e4, e5, e6, e7⟩ := e2
 refine ⟨(newSR_ok h).2.1, newSR_rows, ⟨?_, by rw [e7]; omega, by rw [e5]; omega, by rw [e6]; omega⟩⟩
 refine ⟨fun i => .inl (e i), fun i hi => absurd (e i) hi, fun i hi => absurd (e i) hi, ?_, by have : (newSR lg th po wt sp yi sg).l3.Nodup := (by rw [e3]; exact List.nodup_nil); exact this, by have : (newSR lg th po wt sp yi sg).l4.Nodup := (by rw [e4]; exact List.nodup_nil); exact this, ?_, ?_, fun i hi => absurd (e i) hi, fun i hi => absurd (e i) hi, ?_, ?_⟩
 ·intro i hi
  have := (e i).symm.trans hi
  omega
 ·intro x
  show x ∈ (newSR lg th po wt sp yi sg).l3 ↔ _
  rw [e3]
  constructor
  ·intro hx; cases hx
  ·rintro ⟨i, _, hi, _⟩
   have := (e i).symm.trans hi
   omega
 ·intro x
  show x ∈ (newSR lg th po wt sp yi sg).l4 ↔ _
  rw [e4]
  constructor
  ·intro hx; cases hx
  ·rintro ⟨i, _, hi, _⟩
   have := (e i).symm.trans hi
   omega
 ·rintro i ⟨_, hi | ⟨hi, _⟩⟩
  ·have := (e i).symm.trans hi
   omega
  ·have := (e i).symm.trans hi
   omega
 ·rintro i ⟨_, hi | ⟨hi, _⟩⟩
  ·have := (e i).symm.trans hi
   omega
  ·have := (e i).symm.trans hi
   omega
def tabJ : List (FuncId × Pure1) := [(6, Fawake24)] ++ tabI0
theorem ok_tabJ : ∀ p ∈ tabJ, PureOK Tryz.prog p.1 p.2 := by
 intro p hp
 simp only [tabJ, List.mem_append, List.mem_cons, List.not_mem_nil, or_false] at hp
 rcases hp with (rfl) | hp
 ·exact ok_awake24
 ·exact ok_tabI0 p hp
def spec_wakes : LoopSpec := { n := 53, keep := [1, 5, 6, 8], srcs := [.tmp 6], keepE := [4, 5], srcsE := [], goes := fun vals objs Q => match vals, objs with
 | [.sl n [.ints .i64 ll], .bool up, .ptr 0 0 0, .int .i64 i], [some (.var c_s)] => (match asSR (.agg c_s) with | some s => (GoodW s (nOf i) ∧ asrt (band (nle n 40) (band (ile 0 i) (ile i (ofN n)))) (Q (.exit 0) [.top, .bool up] [])) | none => False)
 | _, _ => False }
def zq182 (ll : List (List Int)) (i : Int) : Nat :=
 lenI (gL ll (nOf i))
def zq183 (n : Nat) (ll : List (List Int)) (up : Bool) (i : Int) : List AV :=
 [AV.sl n [Col.ints .i64 ll], AV.bool up, AV.ptr 0 0 0, AV.int .i64 (iadd .i64 i 1)]
def zq184 (n : Nat) (i : Int) : Bool :=
 band (nle n 40) (band (ile 0 (iadd .i64 i 1)) (ile (iadd .i64 i 1) (ofN n)))
def zq185 (n : Nat) (ll : List (List Int)) (up : Bool) (i : Int) : List AV :=
 [AV.sl n [Col.ints .i64 ll], AV.bool up, AV.ptr 0 0 0, AV.int .i64 i]
theorem lp_wakes (n : Nat) (ll : List (List Int)) (up : Bool) (i : Int) (s : SR) (mu : List AV → Heap → Nat) (Q : Ex → List AV → Heap → Prop) : runCode Tryz.prog (tabS tabJ) (callN Tryz.prog (tabS tabJ) noL 11) (fun _ => none) (bodyOf Tryz.prog 3 0) 0 ⟨mkT (spec_wakes).keep [.sl n [.ints .i64 ll], .bool up, .ptr 0 0 0, .int .i64 i] (spec_wakes).n 0, [some (.var s.cells)]⟩ ((spec_wakes).ends mu [.sl n [.ints .i64 ll], .bool up, .ptr 0 0 0, .int .i64 i] ([some (.var s.cells)]) Q) = (
 br (ilt i (ofN n)) (asrt (band (ile 0 i) (ilt i (ofN n))) (br (ine (decE (zq182 ll i) (gL ll (nOf i))) 0) ((mu (zq183 n ll up i) [some (AObj.var (SR.cells s))]).succ.le (mu (zq185 n
 ll up i) [some (AObj.var (SR.cells s))]) ∧ GoodW s (nOf (iadd .i64 i 1)) ∧ asrt (zq184 n i) (Q (Ex.exit 0) [AV.top, AV.bool up] [])) (asrt s.fit (asrt (s.callS (decI (zq182 ll i)
 (gL ll (nOf i)) 0) (decI (zq182 ll i) (gL ll (nOf i)) 1) (decI (zq182 ll i) (gL ll (nOf i)) 2) (decI (zq182 ll i) (gL ll (nOf i)) 3)).fit (br (bnot ((s.callS (decI (zq182 ll i) (gL
 ll (nOf i)) 0) (decI (zq182 ll i) (gL ll (nOf i)) 1) (decI (zq182 ll i) (gL ll (nOf i)) 2) (decI (zq182 ll i) (gL ll (nOf i)) 3)).safeFrom 0)) (Q Ex.ret [AV.bool false, AV.bool up]
 []) ((mu (zq183 n ll up i) [some (AObj.var (SR.cl (s.callS (decI (zq182 ll i) (gL ll (nOf i)) 0) (decI (zq182 ll i) (gL ll (nOf i)) 1) (decI (zq182 ll i) (gL ll (nOf i)) 2) (decI
 (zq182 ll i) (gL ll (nOf i)) 3))))]).succ.le (mu (zq185 n ll up i) [some (AObj.var (SR.cells s))]) ∧ GoodW (s.callS (decI (zq182 ll i) (gL ll (nOf i)) 0) (decI (zq182 ll i) (gL ll
 (nOf i)) 1) (decI (zq182 ll i) (gL ll (nOf i)) 2) (decI (zq182 ll i) (gL ll (nOf i)) 3)) (nOf (iadd .i64 i 1)) ∧ asrt (zq184 n i) (Q (Ex.exit 0) [AV.top, AV.bool up] []))))))) (Q
 (Ex.exit 0) [AV.top, AV.bool up] [])) := by kernel_rfl
theorem loop_wakes : LoopOK Tryz.prog (bodyOf Tryz.prog 3 0) spec_wakes.summ := by
 refine tab_loop mixed (l := tabJ) ok_tabJ (i := 0) spec_wakes (fun vals objs => match vals, objs with
  | [.sl n [.ints .i64 ll], .bool up, .ptr 0 0 0, .int .i64 i], [some (.var c_s)] => (n - i).toNat
  | _, _ => 0) fun vals objs Q h1 h2 wf wo hg => ?_
 unfold spec_wakes at hg
 simp only at hg
 split at hg
 ·rename_i n ll up i c_s
  clear h1 h2
  have h_s := asSR_cases hg
  obtain ⟨s, h_s⟩ := h_s
  obtain rfl := cells_of h_s
  rw [h_s] at hg
  simp only at hg
  try simp only [WFL, WF, List.mem_cons, List.not_mem_nil, or_false, forall_eq_or_imp, forall_eq, Col.len, and_true, true_and] at wf
  rw [lp_wakes]
  dsimp only [SR.cl, zq182, zq183, zq184, zq185]
  obtain ⟨⟨o1, r1, h1⟩, hg⟩ := hg
  simp only [asrt_iff, band_t, nle_t, ile_t, ofN_e] at hg
  obtain ⟨⟨hn, h0, hi⟩, hg⟩ := hg
  obtain ⟨j, rfl⟩ := Int.eq_ofNat_of_zero_le h0
  have e6 : nOf (j : Int) = j := by rw [nOf_e]; omega
  rw [e6] at h1
  rw [br_iff, ilt_t, ilt_f]
  refine ⟨fun hj => ?_, fun hj => hg⟩
  rw [ofN_e] at hj
  have hw : iadd .i64 (j : Int) 1 = (j : Int) + 1 := by rw [iadd_e, wr (by omega) (by omega)]
  have e4 : nOf ((j : Int) + 1) = j + 1 := by rw [nOf_e]; omega
  have b1 : band (ile 0 (j : Int)) (ilt (j : Int) (ofN n)) = true := by simp only [band_t, ile_t, ilt_t, ofN_e]; omega
  have b2 : band (nle n 40) (band (ile 0 ((j : Int) + 1)) (ile ((j : Int) + 1) (ofN n))) = true := by
   simp only [band_t, nle_t, ile_t, ofN_e]
   exact ⟨hn, by omega, by omega⟩
  have hmu : ((n : Int) - ((j : Int) + 1)).toNat.succ.le ((n : Int) - (j : Int)).toNat := Nat.succ_le_of_lt (by omega)
  have hf := SR.ok_fit o1 r1 (by have := h1.nl; omega)
  simp only [hw, e4, e6, b1, b2, hf, asrt_tt]
  generalize decI (lenI (gL ll j)) (gL ll j) 0 = a
  generalize decI (lenI (gL ll j)) (gL ll j) 1 = b
  generalize decI (lenI (gL ll j)) (gL ll j) 2 = c
  generalize decI (lenI (gL ll j)) (gL ll j) 3 = d
  obtain ⟨o2, r2, h2⟩ := SR.call_held o1 r1 h1 (by omega) a b c d
  have hf2 := SR.ok_fit o2 r2 (by have := h2.nl; omega)
  have hs2 := SR.safe_of o2 r2 h2.inv
  rw [br_iff]
  refine ⟨fun _ => ?_, fun _ => ?_⟩
  ·exact ⟨hmu, ⟨o1, r1, ⟨h1.inv, by have := h1.nl; omega, by have := h1.fe; omega, by have := h1.ee; omega⟩⟩, hg⟩
  ·rw [hf2, hs2]
   exact ⟨hmu, ⟨o2, r2, h2⟩, hg⟩
 ·exact hg.elim
def Lwakes : Nat → Option LoopS := fun i => match i with
 | 0 => some (.summ spec_wakes.summ)
 | _ => none
theorem ok_Lwakes : ∀ i x, Lwakes i = some x → LoopHyp Tryz.prog 3 i x := by
 intro i s h
 unfold Lwakes at h
 split at h
 ·cases h; exact ⟨by kernel_rfl, loop_wakes⟩
 ·cases h
def FLTopWakes : Pure1 := fun
 | [.agg [.int .i64 lg, .int .i64 th, .int .i64 po, .int .i64 wt, .int .i64 sp, .int .i64 yi, .bool sg], .sl n [.ints .i64 ll]] => some (some (maxB n), .bool true)
 | _ => none
theorem vc_LTopWakes (lg th po wt sp yi : Int) (sg : Bool) (n : Nat) (ll : List (List Int)) (r : AV) : VC Tryz.prog (tabS tabJ) (oneL 3 Lwakes) false 3 [.agg [.int .i64 lg, .int .i64 th, .int .i64 po, .int .i64 wt, .int .i64 sp, .int .i64 yi, .bool sg], .sl n [.ints .i64 ll]] r = (
 asrt (maxB n) (br (bnot (fewRaw n ll 40)) (some (AV.bool true) = some r) (br (ine (confE lg th po wt sp yi) 0) (some (AV.bool true) = some r) (GoodW (newSR lg th po wt sp yi sg) 0 ∧
 asrt (band (nle n 40) (ile 0 (ofN n))) (some (AV.bool true) = some r))))) := by kernel_rfl
theorem ok_LTopWakes : PureOK Tryz.prog 3 FLTopWakes := by
 refine tab_loops mixed (l := tabJ) ok_tabJ false Lwakes (by kernel_rfl) ok_Lwakes fun xs b r h hb wf => ?_
 unfold FLTopWakes at h
 split at h
 ·rename_i lg th po wt sp yi sg n ll
  cases h
  try rw [some_f] at hb
  try simp only [WFL, WF, List.mem_cons, List.not_mem_nil, or_false, forall_eq_or_imp, forall_eq, Col.len, and_true, true_and] at wf
  rw [vc_LTopWakes]
  rw [hb, asrt_tt]
  cases hq : fewRaw n ll 40 with
  | false => rfl
  | true =>
   have hn : n ≤ 40 := by
    simp only [fewRaw, Bool.and_eq_true, decide_eq_true_eq] at hq
    omega
   simp only [show bnot true = false from rfl, br_ff]
   rw [br_iff, ine_f]
   refine ⟨fun _ => trivial, fun hc => ?_⟩
   have b2 : band (nle n 40) (ile 0 (ofN n)) = true := by
    simp only [band_t, nle_t, ile_t, ofN_e]
    exact ⟨hn, by omega⟩
   rw [b2]
   exact ⟨new_good hc, trivial⟩
 ·cases h
theorem law_TopWakes (a0 : Int × Int × Int × Int × Int × Int × Bool) (a1 : List (List Int)) (_ : True) (h1 : a1.length ≤ maxLen ∧ ∀ x ∈ a1, x.length ≤ maxLen ∧ ∀ y ∈ x, (Lit.int .i64 y).wf = true) :
  ∃ b, FLTopWakes [.agg [.int .i64 a0.1, .int .i64 a0.2.1, .int .i64 a0.2.2.1, .int .i64 a0.2.2.2.1, .int .i64 a0.2.2.2.2.1, .int .i64 a0.2.2.2.2.2.1, .bool a0.2.2.2.2.2.2], .sl a1.length [.ints .i64 a1]] = some (b, .bool true) ∧ b ≠ some false :=
 ⟨some (maxB a1.length), rfl, by rw [some_f]; simp only [maxB, decide_eq_true_eq]; have := h1.1; unfold maxLen at this; omega⟩
end Go.Own
end
