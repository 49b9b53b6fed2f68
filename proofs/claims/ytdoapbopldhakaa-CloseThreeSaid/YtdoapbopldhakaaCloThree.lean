/- A law of who closes: who begins to close is done after three steps. -/
import Derived.Test.YtdoapbopldhakaaCloLaw
import Derived.Test.YtdoapbopldhakaaFabOpen
namespace Go.Own
open Go Go.Proofs
set_option maxRecDepth 100000
set_option linter.unusedVariables false
set_option linter.unusedSimpArgs false

/-- The threads that stand in a line of two, from the i-th on, are there, and not parked. -/
def waitOk (t : SR) (l : List Int) (i : Nat) : Bool := (l.drop i).all fun w => decide (0 ≤ w ∧ w < t.nt) && decide (t.st.getD w.toNat 0 ≠ 2)


theorem waitOk_lt {t : SR} {l : List Int} {k : Nat} (h : k < l.length) (hw : waitOk t l k = true) : 0 ≤ l[k]?.getD 0 ∧ l[k]?.getD 0 < t.nt ∧ t.st[(l[k]?.getD 0).toNat]?.getD 0 ≠ 2 ∧ waitOk t l (k + 1) = true := by
  unfold waitOk at hw ⊢
  rw [List.drop_eq_getElem_cons h, List.all_cons, Bool.and_eq_true, Bool.and_eq_true, decide_eq_true_eq, decide_eq_true_eq, List.getD_eq_getElem?_getD] at hw
  have e : l[k]?.getD 0 = l[k] := by simp [h]
  rw [e]
  exact ⟨hw.1.1.1, hw.1.1.2, hw.1.2, hw.2⟩

def spec_three : LoopSpec := { n := 159, keep := [3, 11, 13, 1, 7, 8, 12], srcs := [.tmp 3, .tmp 11], keepE := [3, 11, 13, 1, 7, 8, 12], srcsE := [.tmp 3, .tmp 11], goes := fun vals objs Q => match vals, objs with
  | [.ptr 0 0 0, .ptr 1 0 0, .int .i64 i, .int .i64 id, .bool up, .int .i64 k, .int .i64 m], [some (.var c_s), some (.var c_t)] => (match asSR (.agg c_s) with | some s => (match asSR (.agg c_t) with | some t => asrt (band (SR.fit s) (band (ile 0 i) (band (ile i (ofN (nAdd s.n3 s.n4))) (waitOk t (cat s.l3 s.l4) (nOf i))))) (Q (.exit 0) [.ptr 0 0 0, .ptr 1 0 0, .int .i64 (ofN (nAdd s.n3 s.n4)), .int .i64 id, .bool up, .int .i64 k, .int .i64 m] [some (.var s.cells), some (.var t.cells)]) | none => False) | none => False)
  | _, _ => False }

theorem lp_three (i id : Int) (up : Bool) (k m : Int) (s t : SR) (mu : List AV → Heap → Nat) (Q : Ex → List AV → Heap → Prop) : runCode Try.prog (tabS tabH) (callN Try.prog (tabS tabH) noL 11) (fun _ => none) (bodyOf Try.prog 5 0) 0 ⟨mkT (spec_three).keep [.ptr 0 0 0, .ptr 1 0 0, .int .i64 i, .int .i64 id, .bool up, .int .i64 k, .int .i64 m] (spec_three).n 0, [some (.var s.cells), some (.var t.cells)]⟩ ((spec_three).ends mu [.ptr 0 0 0, .ptr 1 0 0, .int .i64 i, .int .i64 id, .bool up, .int .i64 k, .int .i64 m] ([some (.var s.cells), some (.var t.cells)]) Q) = (
  br (ilt i (iadd IntKind.i64 (ofN s.19) (ofN s.22)))
    (br (ilt i (ofN s.19))
      (asrt (band (ile 0 i) (ilt i (ofN s.19)))
        (asrt
          (bimp (bnot (bite (ilt (gI s.20 (nOf i)) 0) true (ige (gI s.20 (nOf i)) (ofN t.25))))
            (band (ile 0 (gI s.20 (nOf i))) (ilt (gI s.20 (nOf i)) (ofN t.25))))
          (br
            (bite (bite (ilt (gI s.20 (nOf i)) 0) true (ige (gI s.20 (nOf i)) (ofN t.25))) true
              (ieq (gI t.26 (nOf (gI s.20 (nOf i)))) 2))
            (Q Ex.ret
              [AV.ptr 0 0 0, AV.ptr 1 0 0, AV.int IntKind.i64 i, AV.int IntKind.i64 id, AV.bool up,
                AV.int IntKind.i64 k, AV.int IntKind.i64 m]
              [some
                  (AObj.var
                    (SR.cells s)),
                some
                  (AObj.var
                    (SR.cells t))])
            ((mu
                      [AV.ptr 0 0 0, AV.ptr 1 0 0, AV.int IntKind.i64 (iadd IntKind.i64 i 1), AV.int IntKind.i64 id,
                        AV.bool up, AV.int IntKind.i64 k, AV.int IntKind.i64 m]
                      [some
                          (AObj.var
                            (SR.cells s)),
                        some
                          (AObj.var
                            (SR.cells t))]).succ.le
                (mu
                  [AV.ptr 0 0 0, AV.ptr 1 0 0, AV.int IntKind.i64 i, AV.int IntKind.i64 id, AV.bool up,
                    AV.int IntKind.i64 k, AV.int IntKind.i64 m]
                  [some
                      (AObj.var
                        (SR.cells s)),
                    some
                      (AObj.var
                        (SR.cells t))]) ∧
              asrt
                (band s.fit
                  (band (ile 0 (iadd IntKind.i64 i 1))
                    (band (ile (iadd IntKind.i64 i 1) (ofN (nAdd s.19 s.22)))
                      (waitOk t (cat s.20 s.23) (nOf (iadd IntKind.i64 i 1))))))
                (Q (Ex.exit 0)
                  [AV.ptr 0 0 0, AV.ptr 1 0 0, AV.int IntKind.i64 (ofN (nAdd s.19 s.22)), AV.int IntKind.i64 id,
                    AV.bool up, AV.int IntKind.i64 k, AV.int IntKind.i64 m]
                  [some
                      (AObj.var
                        (SR.cells s)),
                    some
                      (AObj.var
                        (SR.cells t))])))))
      (asrt (band (ile 0 (isub IntKind.i64 i (ofN s.19))) (ilt (isub IntKind.i64 i (ofN s.19)) (ofN s.22)))
        (asrt
          (bimp
            (bnot
              (bite (ilt (gI s.23 (nOf (isub IntKind.i64 i (ofN s.19)))) 0) true
                (ige (gI s.23 (nOf (isub IntKind.i64 i (ofN s.19)))) (ofN t.25))))
            (band (ile 0 (gI s.23 (nOf (isub IntKind.i64 i (ofN s.19)))))
              (ilt (gI s.23 (nOf (isub IntKind.i64 i (ofN s.19)))) (ofN t.25))))
          (br
            (bite
              (bite (ilt (gI s.23 (nOf (isub IntKind.i64 i (ofN s.19)))) 0) true
                (ige (gI s.23 (nOf (isub IntKind.i64 i (ofN s.19)))) (ofN t.25)))
              true (ieq (gI t.26 (nOf (gI s.23 (nOf (isub IntKind.i64 i (ofN s.19)))))) 2))
            (Q Ex.ret
              [AV.ptr 0 0 0, AV.ptr 1 0 0, AV.int IntKind.i64 i, AV.int IntKind.i64 id, AV.bool up,
                AV.int IntKind.i64 k, AV.int IntKind.i64 m]
              [some
                  (AObj.var
                    (SR.cells s)),
                some
                  (AObj.var
                    (SR.cells t))])
            ((mu
                      [AV.ptr 0 0 0, AV.ptr 1 0 0, AV.int IntKind.i64 (iadd IntKind.i64 i 1), AV.int IntKind.i64 id,
                        AV.bool up, AV.int IntKind.i64 k, AV.int IntKind.i64 m]
                      [some
                          (AObj.var
                            (SR.cells s)),
                        some
                          (AObj.var
                            (SR.cells t))]).succ.le
                (mu
                  [AV.ptr 0 0 0, AV.ptr 1 0 0, AV.int IntKind.i64 i, AV.int IntKind.i64 id, AV.bool up,
                    AV.int IntKind.i64 k, AV.int IntKind.i64 m]
                  [some
                      (AObj.var
                        (SR.cells s)),
                    some
                      (AObj.var
                        (SR.cells t))]) ∧
              asrt
                (band s.fit
                  (band (ile 0 (iadd IntKind.i64 i 1))
                    (band (ile (iadd IntKind.i64 i 1) (ofN (nAdd s.19 s.22)))
                      (waitOk t (cat s.20 s.23) (nOf (iadd IntKind.i64 i 1))))))
                (Q (Ex.exit 0)
                  [AV.ptr 0 0 0, AV.ptr 1 0 0, AV.int IntKind.i64 (ofN (nAdd s.19 s.22)), AV.int IntKind.i64 id,
                    AV.bool up, AV.int IntKind.i64 k, AV.int IntKind.i64 m]
                  [some
                      (AObj.var
                        (SR.cells s)),
                    some
                      (AObj.var
                        (SR.cells t))]))))))
    (Q (Ex.exit 0)
      [AV.ptr 0 0 0, AV.ptr 1 0 0, AV.int IntKind.i64 i, AV.int IntKind.i64 id, AV.bool up, AV.int IntKind.i64 k,
        AV.int IntKind.i64 m]
      [some
          (AObj.var
            (SR.cells s)),
        some
          (AObj.var
            (SR.cells t))])) := by kernel_rfl

theorem loop_three : LoopOK Try.prog (bodyOf Try.prog 5 0) spec_three.summ := by
  refine tab_loop mixed (l := tabH) ok_tabH (i := 0) spec_three (fun vals objs => match vals, objs with
    | [.ptr 0 0 0, .ptr 1 0 0, .int .i64 i, .int .i64 id, .bool up, .int .i64 k, .int .i64 m], [some (.var c_s), some (.var c_t)] => (match asSR (.agg c_s) with | some s => (ofN (nAdd s.n3 s.n4) - i).toNat | none => 0)
    | _, _ => 0) fun vals objs Q h1 h2 wf wo hg => ?_
  unfold spec_three at hg
  simp only at hg
  split at hg
  · rename_i i id up k m c_s c_t
    clear h1 h2
    have hh : ∃ s t, asSR (.agg c_s) = some s ∧ asSR (.agg c_t) = some t := by
      cases e_s : asSR (.agg c_s) with
      | none => rw [e_s] at hg; exact hg.elim
      | some s =>
        rw [e_s] at hg; simp only at hg
        cases e_t : asSR (.agg c_t) with
        | none => rw [e_t] at hg; exact hg.elim
        | some t =>
          rw [e_t] at hg; simp only at hg
          exact ⟨s, t, rfl, rfl⟩
    obtain ⟨s, t, h_s, h_t⟩ := hh
    have e_s := cells_of h_s
    have e_t := cells_of h_t
    rw [h_s] at hg; simp only at hg
    rw [h_t] at hg; simp only at hg
    subst e_s
    subst e_t
    try simp only [WFL, WF, List.mem_cons, List.not_mem_nil, or_false, forall_eq_or_imp, forall_eq, Col.len, and_true, true_and] at wf
    rw [lp_three]
    have ws : s.rows := (wf_av s).1 (by have h : WFO (.var s.cells) := wo (some (.var s.cells)) (by simp) _ rfl; simpa only [SR.av, WF, WFO] using h)
    simp only [asrt_iff, band_t, ile_t, ofN_e, nAdd_e, cat_e, nOf_e] at hg
    obtain ⟨⟨hf, h0, hn, hw⟩, hg⟩ := hg
    obtain ⟨b1, b2⟩ := (SR.fit_iff s).1 hf
    have k1 := ws.l3
    have k2 := ws.l4
    obtain ⟨j, rfl⟩ := Int.eq_ofNat_of_zero_le h0
    have e1 : (j : Int).toNat = j := by omega
    rw [e1] at hw
    have w1 : IntKind.i64.wrap ((s.n3 : Int) + (s.n4 : Int)) = (s.n3 : Int) + (s.n4 : Int) := wr (by omega) (by omega)
    have w2 : IntKind.i64.wrap ((j : Int) + 1) = (j : Int) + 1 := wr (by omega) (by omega)
    have w3 : IntKind.i64.wrap ((j : Int) - (s.n3 : Int)) = (j : Int) - (s.n3 : Int) := wr (by omega) (by omega)
    have e2 : ((j : Int) + 1).toNat = j + 1 := by omega
    have e4 : ∀ x : SR, asSR (.agg x.cells) = some x := fun x => rfl
    by_cases hk : (j : Int) < (s.n3 : Int) + s.n4
    · by_cases h3 : (j : Int) < s.n3
      · have e5 : (s.l3 ++ s.l4)[j]? = s.l3[j]? := by rw [List.getElem?_append_left (by omega)]
        obtain ⟨a1, a2, a3, a4⟩ := waitOk_lt (k := j) (by simp; omega) hw
        rw [e5] at a1 a2 a3
        have c1 : ¬ s.l3[j]?.getD 0 < 0 := by omega
        have c2 : ¬ (t.nt : Int) ≤ s.l3[j]?.getD 0 := by omega
        simp [asrt_iff, br_iff, ieq_t, ieq_f, ine_t, ine_f, ilt_t, ilt_f, ile_t, ile_f, igt_t, igt_f, ige_t, ige_f, nlt_t, nlt_f, nle_t, nle_f, neq_t, neq_f, beq2_t, beq2_f, bnot_t, bnot_f, band_t, band_f, bite_t, bite_f, bimp_t, bimp_f, iadd_e, isub_e, imul_e, ofN_e, nOf_e, nAdd_e, nDiff_e, room_e, lenI_e, gI_e, gB_e, imin_e, imax_e, cat_e, pt_e, put_e, some_f, w1, w2, w3, e2, hk, h3, a1, a2, a3, a4, c1, c2, hf, e4]
        refine ⟨⟨⟨by omega, by omega, by simpa using hg⟩, fun h => absurd h (by omega)⟩, fun h => absurd h (by omega)⟩
      · obtain ⟨q, hq⟩ : ∃ q : Nat, (j : Int) - s.n3 = q := ⟨j - s.n3, by omega⟩
        have hq' : j = s.l3.length + q := by omega
        have e5 : (s.l3 ++ s.l4)[j]? = s.l4[q]? := by rw [List.getElem?_append_right (by omega), hq']; congr 1; omega
        obtain ⟨a1, a2, a3, a4⟩ := waitOk_lt (k := j) (by simp; omega) hw
        rw [e5] at a1 a2 a3
        have c1 : ¬ s.l4[q]?.getD 0 < 0 := by omega
        have c2 : ¬ (t.nt : Int) ≤ s.l4[q]?.getD 0 := by omega
        have e6 : (q : Int).toNat = q := by omega
        have c3 : (q : Int) < s.n4 := by omega
        have w4 : IntKind.i64.wrap (q : Int) = (q : Int) := wr (by omega) (by omega)
        simp [asrt_iff, br_iff, ieq_t, ieq_f, ine_t, ine_f, ilt_t, ilt_f, ile_t, ile_f, igt_t, igt_f, ige_t, ige_f, nlt_t, nlt_f, nle_t, nle_f, neq_t, neq_f, beq2_t, beq2_f, bnot_t, bnot_f, band_t, band_f, bite_t, bite_f, bimp_t, bimp_f, iadd_e, isub_e, imul_e, ofN_e, nOf_e, nAdd_e, nDiff_e, room_e, lenI_e, gI_e, gB_e, imin_e, imax_e, cat_e, pt_e, put_e, some_f, w1, w2, w4, e2, hk, h3, hq, e6, c3, a1, a2, a3, a4, c1, c2, hf, e4]
        refine ⟨fun _ => ⟨by omega, by omega, by simpa using hg⟩, fun h => absurd h (by omega)⟩
    · have ej : (j : Int) = (s.n3 : Int) + s.n4 := by omega
      simp [asrt_iff, br_iff, ieq_t, ieq_f, ine_t, ine_f, ilt_t, ilt_f, ile_t, ile_f, igt_t, igt_f, ige_t, ige_f, nlt_t, nlt_f, nle_t, nle_f, neq_t, neq_f, beq2_t, beq2_f, bnot_t, bnot_f, band_t, band_f, bite_t, bite_f, bimp_t, bimp_f, iadd_e, isub_e, imul_e, ofN_e, nOf_e, nAdd_e, nDiff_e, room_e, lenI_e, gI_e, gB_e, imin_e, imax_e, cat_e, pt_e, put_e, some_f, w1, w2, w3, e2, hk]
      rw [ej]
      simpa using hg
  · exact hg.elim


def Lthree : Nat → Option LoopS := fun i => match i with
  | 0 => some (.summ spec_three.summ)
  | _ => none

theorem ok_Lthree : ∀ i x, Lthree i = some x → LoopHyp Try.prog 5 i x := by
  intro i s h
  unfold Lthree at h
  split at h
  · cases h; exact ⟨by kernel_rfl, loop_three⟩
  · cases h


theorem amBad_in {th : Int} {l : List Int} (h : amBadAt th l 0 < 0) : ∀ x ∈ l, 0 ≤ x ∧ x < th := by
  intro x hx
  unfold amBadAt at h
  rw [List.drop_zero] at h
  cases hf : l.findIdx? (amBad th) with
  | some j => rw [hf] at h; simp only at h; omega
  | none =>
    have := List.findIdx?_eq_none_iff.1 hf x hx
    simp only [amBad, decide_eq_false_iff_not] at this
    omega

theorem SR.lines_in {s : SR} (h : s.ok = true) : ∀ x ∈ s.l3 ++ s.l4, 0 ≤ x ∧ x < s.nt := by
  have h1 := ((SR.ok_iff2 s).1 h).1
  have h2 := h1.2.2.2.2.1
  have h3 := SR.ok_nt h
  unfold amOk at h2
  simp only [List.all_cons, List.all_nil, Bool.and_eq_true, Bool.and_true, decide_eq_true_eq] at h2
  obtain ⟨_, _, g3, g4⟩ := h2
  intro x hx
  rw [h3]
  rcases List.mem_append.1 hx with hx | hx
  · exact amBad_in g3.2 x hx
  · exact amBad_in g4.2 x hx

theorem closer_facts {s : SR} {id k : Int} (wf : s.rows) (hf : s.fit = true) (hn : s.nl + 10 ≤ 1000000) (hk : k = 7 ∨ k = 8) (he : s.invE id k 0 = 0) :
    (s.inv id k 0 0).fit = true ∧ (s.inv id k 0 0).nl + 10 ≤ 1000000 ∧ ((s.inv id k 0 0).steps id 100).1.nt = s.nt ∧ 0 ≤ id ∧ id < s.nt ∧ waitOk ((s.inv id k 0 0).steps id 100).1 (s.l3 ++ s.l4) 0 = true ∧ ((s.inv id k 0 0).steps id 100).2 = 3 ∧ ((s.inv id k 0 0).steps id 100).1.md = imax s.md (cmode k) ∧ ((s.inv id k 0 0).steps id 100).1.n3 = 0 ∧ ((s.inv id k 0 0).steps id 100).1.n4 = 0 ∧ ((s.inv id k 0 0).steps id 100).1.st.getD id.toNat 0 = 0 ∧ ((s.inv id k 0 0).steps id 100).1.rs.getD id.toNat 0 = 1 := by
  obtain ⟨h1, h2, h3, h4, h5⟩ := SR.invE_zero he
  obtain ⟨q1, q2, q3, q4⟩ := SR.closes (many := 100) wf hf hn hk he (by omega)
  obtain ⟨i1, i2, i3, i4, i5, i6, i7, i8, i9, i10, i11⟩ := SR.inv_same s id k 0 0
  have hl := SR.lines_in h1
  refine ⟨by rw [i1]; exact hf, by rw [i2]; exact hn, by rw [q2.nt, i8], h3, h4, ?_, q1, ?_, ?_, ?_, q2.st, q2.rs⟩
  · unfold waitOk
    rw [List.drop_zero, List.all_eq_true]
    intro w hw
    obtain ⟨g1, g2⟩ := hl w hw
    have e : (((s.inv id k 0 0).steps id 100).1.nt : Int) = s.nt := by rw [q2.nt, i8]
    simp only [Bool.and_eq_true, decide_eq_true_eq]
    refine ⟨⟨g1, by rw [e]; exact g2⟩, fun h => ?_⟩
    obtain ⟨_, z2, z3⟩ := q2.st2 _ h
    have e2 : ((w.toNat : Nat) : Int) = w := by omega
    rw [e2, i6] at z2
    rw [e2, i7] at z3
    rcases List.mem_append.1 hw with hw | hw
    · exact z2 hw
    · exact z3 hw
  · rw [q2.md, q3, i3]
    unfold closeM
    rcases hk with rfl | rfl <;> simp [cmode]
  · have := q2.rows.l3
    rw [q2.l3] at this
    exact this.symm
  · have := q2.rows.l4
    rw [q2.l4] at this
    exact this.symm

def FLCloseThree : Pure1 := fun
  | [a_s, .int .i64 id, .bool halt] => (match asSR a_s with | some s => some (some (SR.fitW s), .bool true) | none => none)
  | _ => none

theorem vc_LCloseThree (s : SR) (id : Int) (halt : Bool) (r : AV) : VC Try.prog (tabS tabH) (oneL 5 Lthree) false 5 [s.av, .int .i64 id, .bool halt] r = (
  br halt
    (asrt s.fitW
      (br (bite (bnot s.few13) true (ine (s.invE id 8 0) 0)) (some (AV.bool true) = some r)
        (asrt (band (s.inv id 8 0 0).fit (nle (nAdd (s.inv id 8 0 0).37 10) 1000000))
          (br
            (bite (bite (ine (ofN ((s.inv id 8 0 0).steps id 100).1.25) (ofN s.25)) true (ilt id 0)) true
              (ige id (ofN s.25)))
            (some (AV.bool false) = some r)
            (asrt
              (band s.fit
                (band (ile 0 (ofN (nAdd s.19 s.22))) (waitOk ((s.inv id 8 0 0).steps id 100).1 (cat s.20 s.23) 0)))
              (asrt
                (bimp
                  (bite
                    (bite
                      (bite (ieq ((s.inv id 8 0 0).steps id 100).2 3)
                        (ieq ((s.inv id 8 0 0).steps id 100).1.10 (imax s.10 (cmode 8))) false)
                      (ieq (ofN ((s.inv id 8 0 0).steps id 100).1.19) 0) false)
                    (ieq (ofN ((s.inv id 8 0 0).steps id 100).1.22) 0) false)
                  (band (ile 0 id) (ilt id (ofN ((s.inv id 8 0 0).steps id 100).1.25))))
                (asrt
                  (bimp
                    (bite
                      (bite
                        (bite
                          (bite (ieq ((s.inv id 8 0 0).steps id 100).2 3)
                            (ieq ((s.inv id 8 0 0).steps id 100).1.10 (imax s.10 (cmode 8))) false)
                          (ieq (ofN ((s.inv id 8 0 0).steps id 100).1.19) 0) false)
                        (ieq (ofN ((s.inv id 8 0 0).steps id 100).1.22) 0) false)
                      (ieq (gI ((s.inv id 8 0 0).steps id 100).1.26 (nOf id)) 0) false)
                    (band (ile 0 id) (ilt id (ofN ((s.inv id 8 0 0).steps id 100).1.25))))
                  (some
                      (AV.bool
                        (bite
                          (bite
                            (bite
                              (bite
                                (bite (ieq ((s.inv id 8 0 0).steps id 100).2 3)
                                  (ieq ((s.inv id 8 0 0).steps id 100).1.10 (imax s.10 (cmode 8))) false)
                                (ieq (ofN ((s.inv id 8 0 0).steps id 100).1.19) 0) false)
                              (ieq (ofN ((s.inv id 8 0 0).steps id 100).1.22) 0) false)
                            (ieq (gI ((s.inv id 8 0 0).steps id 100).1.26 (nOf id)) 0) false)
                          (ieq (gI ((s.inv id 8 0 0).steps id 100).1.35 (nOf id)) 1) false)) =
                    some r))))))))
    (asrt s.fitW
      (br (bite (bnot s.few13) true (ine (s.invE id 7 0) 0)) (some (AV.bool true) = some r)
        (asrt (band (s.inv id 7 0 0).fit (nle (nAdd (s.inv id 7 0 0).37 10) 1000000))
          (br
            (bite (bite (ine (ofN ((s.inv id 7 0 0).steps id 100).1.25) (ofN s.25)) true (ilt id 0)) true
              (ige id (ofN s.25)))
            (some (AV.bool false) = some r)
            (asrt
              (band s.fit
                (band (ile 0 (ofN (nAdd s.19 s.22))) (waitOk ((s.inv id 7 0 0).steps id 100).1 (cat s.20 s.23) 0)))
              (asrt
                (bimp
                  (bite
                    (bite
                      (bite (ieq ((s.inv id 7 0 0).steps id 100).2 3)
                        (ieq ((s.inv id 7 0 0).steps id 100).1.10 (imax s.10 (cmode 7))) false)
                      (ieq (ofN ((s.inv id 7 0 0).steps id 100).1.19) 0) false)
                    (ieq (ofN ((s.inv id 7 0 0).steps id 100).1.22) 0) false)
                  (band (ile 0 id) (ilt id (ofN ((s.inv id 7 0 0).steps id 100).1.25))))
                (asrt
                  (bimp
                    (bite
                      (bite
                        (bite
                          (bite (ieq ((s.inv id 7 0 0).steps id 100).2 3)
                            (ieq ((s.inv id 7 0 0).steps id 100).1.10 (imax s.10 (cmode 7))) false)
                          (ieq (ofN ((s.inv id 7 0 0).steps id 100).1.19) 0) false)
                        (ieq (ofN ((s.inv id 7 0 0).steps id 100).1.22) 0) false)
                      (ieq (gI ((s.inv id 7 0 0).steps id 100).1.26 (nOf id)) 0) false)
                    (band (ile 0 id) (ilt id (ofN ((s.inv id 7 0 0).steps id 100).1.25))))
                  (some
                      (AV.bool
                        (bite
                          (bite
                            (bite
                              (bite
                                (bite (ieq ((s.inv id 7 0 0).steps id 100).2 3)
                                  (ieq ((s.inv id 7 0 0).steps id 100).1.10 (imax s.10 (cmode 7))) false)
                                (ieq (ofN ((s.inv id 7 0 0).steps id 100).1.19) 0) false)
                              (ieq (ofN ((s.inv id 7 0 0).steps id 100).1.22) 0) false)
                            (ieq (gI ((s.inv id 7 0 0).steps id 100).1.26 (nOf id)) 0) false)
                          (ieq (gI ((s.inv id 7 0 0).steps id 100).1.35 (nOf id)) 1) false)) =
                    some r))))))))) := by kernel_rfl

theorem ok_LCloseThree : PureOK Try.prog 5 FLCloseThree := by
  refine tab_loops mixed (l := tabH) ok_tabH false Lthree (by kernel_rfl) ok_Lthree fun xs b r h hb wf => ?_
  unfold FLCloseThree at h
  split at h
  · rename_i a_s id halt
    split at h
    · rename_i s h_s
      obtain rfl := asSR_some h_s
      cases h
      try rw [some_f] at hb
      simp only [WFL, WF, List.mem_cons, List.not_mem_nil, or_false, forall_eq_or_imp, forall_eq, Col.len, and_true, true_and, wf_av] at wf
      rw [vc_LCloseThree]
      cases c0 : s.few13 with
      | false => cases halt <;> simp [asrt_iff, br_iff, ieq_t, ieq_f, ine_t, ine_f, ilt_t, ilt_f, ile_t, ile_f, igt_t, igt_f, ige_t, ige_f, nlt_t, nlt_f, nle_t, nle_f, neq_t, neq_f, beq2_t, beq2_f, bnot_t, bnot_f, band_t, band_f, bite_t, bite_f, bimp_t, bimp_f, iadd_e, isub_e, imul_e, ofN_e, nOf_e, nAdd_e, nDiff_e, room_e, lenI_e, gI_e, gB_e, imin_e, imax_e, cat_e, pt_e, put_e, some_f, hb, c0]
      | true =>
        have hf := c0
        simp [SR.few13] at hf
        have h64 : in64 s.hd s.tl = true := by
          simp only [SR.fitW, Bool.and_eq_true] at hb
          exact hb.1
        have hfit : s.fit = true := (SR.fit_iff s).2 ⟨h64, by omega⟩
        cases halt with
        | true =>
          by_cases he : s.invE id 8 0 = 0
          · obtain ⟨f1, f2, f3, f4, f5, f6, f7, f8, f9, f10, f11, f12⟩ := closer_facts wf hfit (by omega) (.inr rfl) he
            rw [List.getD_eq_getElem?_getD] at f11 f12
            have g1 : ¬ id < 0 := by omega
            have g2 : ¬ (s.nt : Int) ≤ id := by omega
            have g3 : (0 : Int) ≤ (s.n3 : Int) + s.n4 := by omega
            simp [asrt_iff, br_iff, ieq_t, ieq_f, ine_t, ine_f, ilt_t, ilt_f, ile_t, ile_f, igt_t, igt_f, ige_t, ige_f, nlt_t, nlt_f, nle_t, nle_f, neq_t, neq_f, beq2_t, beq2_f, bnot_t, bnot_f, band_t, band_f, bite_t, bite_f, bimp_t, bimp_f, iadd_e, isub_e, imul_e, ofN_e, nOf_e, nAdd_e, nDiff_e, room_e, lenI_e, gI_e, gB_e, imin_e, imax_e, cat_e, pt_e, put_e, some_f, hb, c0, he, f1, f2, f3, f4, f5, f6, f7, f8, f9, f10, f11, f12, hfit, g1, g2, g3]
          · simp [asrt_iff, br_iff, ieq_t, ieq_f, ine_t, ine_f, ilt_t, ilt_f, ile_t, ile_f, igt_t, igt_f, ige_t, ige_f, nlt_t, nlt_f, nle_t, nle_f, neq_t, neq_f, beq2_t, beq2_f, bnot_t, bnot_f, band_t, band_f, bite_t, bite_f, bimp_t, bimp_f, iadd_e, isub_e, imul_e, ofN_e, nOf_e, nAdd_e, nDiff_e, room_e, lenI_e, gI_e, gB_e, imin_e, imax_e, cat_e, pt_e, put_e, some_f, hb, c0, he]
        | false =>
          by_cases he : s.invE id 7 0 = 0
          · obtain ⟨f1, f2, f3, f4, f5, f6, f7, f8, f9, f10, f11, f12⟩ := closer_facts wf hfit (by omega) (.inl rfl) he
            rw [List.getD_eq_getElem?_getD] at f11 f12
            have g1 : ¬ id < 0 := by omega
            have g2 : ¬ (s.nt : Int) ≤ id := by omega
            have g3 : (0 : Int) ≤ (s.n3 : Int) + s.n4 := by omega
            simp [asrt_iff, br_iff, ieq_t, ieq_f, ine_t, ine_f, ilt_t, ilt_f, ile_t, ile_f, igt_t, igt_f, ige_t, ige_f, nlt_t, nlt_f, nle_t, nle_f, neq_t, neq_f, beq2_t, beq2_f, bnot_t, bnot_f, band_t, band_f, bite_t, bite_f, bimp_t, bimp_f, iadd_e, isub_e, imul_e, ofN_e, nOf_e, nAdd_e, nDiff_e, room_e, lenI_e, gI_e, gB_e, imin_e, imax_e, cat_e, pt_e, put_e, some_f, hb, c0, he, f1, f2, f3, f4, f5, f6, f7, f8, f9, f10, f11, f12, hfit, g1, g2, g3]
          · simp [asrt_iff, br_iff, ieq_t, ieq_f, ine_t, ine_f, ilt_t, ilt_f, ile_t, ile_f, igt_t, igt_f, ige_t, ige_f, nlt_t, nlt_f, nle_t, nle_f, neq_t, neq_f, beq2_t, beq2_f, bnot_t, bnot_f, band_t, band_f, bite_t, bite_f, bimp_t, bimp_f, iadd_e, isub_e, imul_e, ofN_e, nOf_e, nAdd_e, nDiff_e, room_e, lenI_e, gI_e, gB_e, imin_e, imax_e, cat_e, pt_e, put_e, some_f, hb, c0, he]
    · cases h
  · cases h


theorem law_CloseThree (a0 : SR) (a1 : Int) (a2 : Bool) (h0 : a0.fitW = true) (_ : (Lit.int .i64 a1).wf = true) (_ : True) :
    ∃ b, FLCloseThree [.agg a0.cells, .int .i64 a1, .bool a2] = some (b, .bool true) ∧ b ≠ some false :=
  ⟨some a0.fitW, rfl, by simp [h0]⟩

end Go.Own
