/- What a fabric is told by. -/
import Derived.Test.YtdoapbopldhakaaFabR
namespace Go.Own
open Go Go.Proofs
set_option maxRecDepth 100000
set_option linter.unusedVariables false
set_option linter.unusedSimpArgs false

/-- The values from the i-th on. -/
def SR.qfrom (s : SR) (i : Nat) : List Int := ((List.range (s.tl - s.hd).toNat).drop i).map fun j : Nat => s.sv.getD (placeOf (s.hd + (j : Int)) s.ns).toNat 0

def SR.qv (s : SR) : List Int := if s.ok then s.qfrom 0 else []


theorem SR.ok_word {s : SR} (h : s.ok = true) : 0 ≤ s.hd ∧ s.hd ≤ s.tl ∧ s.tl ≤ 1099511627776 ∧ s.tl - s.hd ≤ s.ns := by
  obtain ⟨_, h1, h2, _⟩ := (SR.ok_iff s).1 h
  rw [← h2] at h1
  simp only [wordOk, decide_eq_true_eq] at h1
  obtain ⟨a1, a2, a3, a4, _⟩ := h1
  unfold wlen at a4
  refine ⟨a3, a1, a2, ?_⟩
  split at a4
  · omega
  · rw [if_neg (by omega)] at a4
    exact a4

theorem SR.qfrom_lt (s : SR) {i : Nat} (h : i < (s.tl - s.hd).toNat) : s.qfrom i = (s.sv.getD (placeOf (s.hd + (i : Int)) s.ns).toNat 0) :: s.qfrom (i + 1) := by
  unfold SR.qfrom
  rw [List.drop_eq_getElem_cons (by simpa using h)]
  simp

theorem SR.qfrom_ge (s : SR) {i : Nat} (h : (s.tl - s.hd).toNat ≤ i) : s.qfrom i = [] := by
  unfold SR.qfrom
  rw [List.drop_eq_nil_of_le (by simpa using h)]
  rfl

def tabQ : List (FuncId × Pure1) := [(49, FposLen)] ++ tabK3

theorem ok_tabQ : ∀ p ∈ tabQ, PureOK Try.prog p.1 p.2 := by
  intro p hp
  simp only [tabQ, List.mem_append, List.mem_cons, List.not_mem_nil, or_false] at hp
  rcases hp with (rfl) | hp
  · exact ok_posLen
  · exact ok_tabK3 p hp


def spec_queue : LoopSpec := { n := 46, keep := [1, 2, 3, 21, 22], srcs := [.tmp 1, .tmp 2, .tmp 3, .cell 2 0], keepE := [2, 3], srcsE := [.tmp 2, .tmp 3, .cell 1 0], goes := fun vals objs Q => match vals, objs with
  | [.ptr 0 0 0, .ptr 1 0 0, .ptr 2 0 0, .int .i64 m, .int .i64 i], [some (.var c_s), some (.var [.sl 0 [.int .i64 z], .int .i64 a, .int .i64 b, .int .i64 c]), some (.var [.full 3, .int .i64 cp, .int .i64 pl, .int .i64 mo]), some (.row 3 k [.int .i64 out])] => (match asSR (.agg c_s) with | some s => asrt (band (SR.ok s) (band (ieq m (isub .i64 s.tl s.hd)) (band (ile 0 i) (band (ile i m) (ieq i (ofN k)))))) (Q (.exit 0) [.ptr 0 0 0, .ptr 1 0 0] [some (.var [.sl 0 [.int .i64 z], .int .i64 a, .int .i64 b, .int .i64 c]), some (.var [.full 2, .int .i64 cp, .int .i64 pl, .int .i64 mo]), some (.row 3 (lenI (cat out (SR.qfrom s (nOf i)))) [.int .i64 (cat out (SR.qfrom s (nOf i)))])]) | none => False)
  | _, _ => False }

theorem lp_queue (s : SR) (m i : Int) (z : List Int) (a b c cp pl mo : Int) (k : Nat) (out : List Int) (mu : List AV → Heap → Nat) (Q : Ex → List AV → Heap → Prop) : runCode Try.prog (tabS tabQ) (callN Try.prog (tabS tabQ) noL 11) (fun _ => none) (bodyOf Try.prog 20 0) 0 ⟨mkT (spec_queue).keep [.ptr 0 0 0, .ptr 1 0 0, .ptr 2 0 0, .int .i64 m, .int .i64 i] (spec_queue).n 0, [some (.var s.cells), some (.var [.sl 0 [.int .i64 z], .int .i64 a, .int .i64 b, .int .i64 c]), some (.var [.full 3, .int .i64 cp, .int .i64 pl, .int .i64 mo]), some (.row 3 k [.int .i64 out])]⟩ ((spec_queue).ends mu [.ptr 0 0 0, .ptr 1 0 0, .ptr 2 0 0, .int .i64 m, .int .i64 i] ([some (.var s.cells), some (.var [.sl 0 [.int .i64 z], .int .i64 a, .int .i64 b, .int .i64 c]), some (.var [.full 3, .int .i64 cp, .int .i64 pl, .int .i64 mo]), some (.row 3 k [.int .i64 out])]) Q) = (
  br (ilt i m)
    (asrt
      (band (ile 0 (placeOf (iadd IntKind.i64 s.8 i) (ofN s.11)))
        (ilt (placeOf (iadd IntKind.i64 s.8 i) (ofN s.11)) (ofN s.11)))
      (asrt (nle (nAdd k 1) 17592186044416)
        ((mu [AV.ptr 0 0 0, AV.ptr 1 0 0, AV.ptr 2 0 0, AV.int IntKind.i64 m, AV.int IntKind.i64 (iadd IntKind.i64 i 1)]
                  [some
                      (AObj.var
                        [AV.int IntKind.i64 s.1, AV.int IntKind.i64 s.2, AV.int IntKind.i64 s.3, AV.int IntKind.i64 s.4,
                          AV.int IntKind.i64 s.5, AV.int IntKind.i64 s.6, AV.bool s.7, AV.int IntKind.i64 s.8,
                          AV.int IntKind.i64 s.9, AV.int IntKind.i64 s.10,
                          AV.sl s.11 [Col.int IntKind.i64 s.12, Col.int IntKind.i64 s.13],
                          AV.sl s.14 [Col.int IntKind.i64 s.15], AV.sl s.16 [Col.int IntKind.i64 s.17],
                          AV.int IntKind.i64 s.18, AV.sl s.19 [Col.int IntKind.i64 s.20], AV.int IntKind.i64 s.21,
                          AV.sl s.22 [Col.int IntKind.i64 s.23], AV.int IntKind.i64 s.24,
                          AV.sl s.25
                            [Col.int IntKind.i64 s.26, Col.int IntKind.i64 s.27, Col.int IntKind.i64 s.28,
                              Col.int IntKind.i64 s.29, Col.int IntKind.i64 s.30, Col.int IntKind.i64 s.31,
                              Col.int IntKind.i64 s.32, Col.int IntKind.i64 s.33, Col.bool s.34,
                              Col.int IntKind.i64 s.35, Col.int IntKind.i64 s.36],
                          AV.sl s.37
                            [Col.int IntKind.i64 s.38, Col.int IntKind.i64 s.39, Col.int IntKind.i64 s.40,
                              Col.int IntKind.i64 s.41, Col.int IntKind.i64 s.42]]),
                    some
                      (AObj.var
                        [AV.sl 0 [Col.int IntKind.i64 z], AV.int IntKind.i64 a, AV.int IntKind.i64 b,
                          AV.int IntKind.i64 c]),
                    some (AObj.var [AV.full 3, AV.int IntKind.i64 cp, AV.int IntKind.i64 pl, AV.int IntKind.i64 mo]),
                    some
                      (AObj.row 3 (nAdd k 1)
                        [Col.int IntKind.i64
                            (cat out [gI s.13 (nOf (placeOf (iadd IntKind.i64 s.8 i) (ofN s.11)))])])]).succ.le
            (mu [AV.ptr 0 0 0, AV.ptr 1 0 0, AV.ptr 2 0 0, AV.int IntKind.i64 m, AV.int IntKind.i64 i]
              [some
                  (AObj.var
                    [AV.int IntKind.i64 s.1, AV.int IntKind.i64 s.2, AV.int IntKind.i64 s.3, AV.int IntKind.i64 s.4,
                      AV.int IntKind.i64 s.5, AV.int IntKind.i64 s.6, AV.bool s.7, AV.int IntKind.i64 s.8,
                      AV.int IntKind.i64 s.9, AV.int IntKind.i64 s.10,
                      AV.sl s.11 [Col.int IntKind.i64 s.12, Col.int IntKind.i64 s.13],
                      AV.sl s.14 [Col.int IntKind.i64 s.15], AV.sl s.16 [Col.int IntKind.i64 s.17],
                      AV.int IntKind.i64 s.18, AV.sl s.19 [Col.int IntKind.i64 s.20], AV.int IntKind.i64 s.21,
                      AV.sl s.22 [Col.int IntKind.i64 s.23], AV.int IntKind.i64 s.24,
                      AV.sl s.25
                        [Col.int IntKind.i64 s.26, Col.int IntKind.i64 s.27, Col.int IntKind.i64 s.28,
                          Col.int IntKind.i64 s.29, Col.int IntKind.i64 s.30, Col.int IntKind.i64 s.31,
                          Col.int IntKind.i64 s.32, Col.int IntKind.i64 s.33, Col.bool s.34, Col.int IntKind.i64 s.35,
                          Col.int IntKind.i64 s.36],
                      AV.sl s.37
                        [Col.int IntKind.i64 s.38, Col.int IntKind.i64 s.39, Col.int IntKind.i64 s.40,
                          Col.int IntKind.i64 s.41, Col.int IntKind.i64 s.42]]),
                some
                  (AObj.var
                    [AV.sl 0 [Col.int IntKind.i64 z], AV.int IntKind.i64 a, AV.int IntKind.i64 b,
                      AV.int IntKind.i64 c]),
                some (AObj.var [AV.full 3, AV.int IntKind.i64 cp, AV.int IntKind.i64 pl, AV.int IntKind.i64 mo]),
                some (AObj.row 3 k [Col.int IntKind.i64 out])]) ∧
          asrt
            (band s.ok
              (band (ieq m (isub IntKind.i64 s.9 s.8))
                (band (ile 0 (iadd IntKind.i64 i 1))
                  (band (ile (iadd IntKind.i64 i 1) m) (ieq (iadd IntKind.i64 i 1) (ofN (nAdd k 1)))))))
            (Q (Ex.exit 0) [AV.ptr 0 0 0, AV.ptr 1 0 0]
              [some
                  (AObj.var
                    [AV.sl 0 [Col.int IntKind.i64 z], AV.int IntKind.i64 a, AV.int IntKind.i64 b,
                      AV.int IntKind.i64 c]),
                some (AObj.var [AV.full 2, AV.int IntKind.i64 cp, AV.int IntKind.i64 pl, AV.int IntKind.i64 mo]),
                some
                  (AObj.row 3
                    (lenI
                      (cat (cat out [gI s.13 (nOf (placeOf (iadd IntKind.i64 s.8 i) (ofN s.11)))])
                        (s.qfrom (nOf (iadd IntKind.i64 i 1)))))
                    [Col.int IntKind.i64
                        (cat (cat out [gI s.13 (nOf (placeOf (iadd IntKind.i64 s.8 i) (ofN s.11)))])
                          (s.qfrom (nOf (iadd IntKind.i64 i 1))))])]))))
    (Q (Ex.exit 0) [AV.ptr 0 0 0, AV.ptr 1 0 0]
      [some
          (AObj.var
            [AV.sl 0 [Col.int IntKind.i64 z], AV.int IntKind.i64 a, AV.int IntKind.i64 b, AV.int IntKind.i64 c]),
        some (AObj.var [AV.full 2, AV.int IntKind.i64 cp, AV.int IntKind.i64 pl, AV.int IntKind.i64 mo]),
        some (AObj.row 3 k [Col.int IntKind.i64 out])])) := by kernel_rfl

theorem loop_queue : LoopOK Try.prog (bodyOf Try.prog 20 0) spec_queue.summ := by
  refine tab_loop mixed (l := tabQ) ok_tabQ (i := 0) spec_queue (fun vals objs => match vals, objs with
    | [.ptr 0 0 0, .ptr 1 0 0, .ptr 2 0 0, .int .i64 m, .int .i64 i], [some (.var c_s), some (.var [.sl 0 [.int .i64 z], .int .i64 a, .int .i64 b, .int .i64 c]), some (.var [.full 3, .int .i64 cp, .int .i64 pl, .int .i64 mo]), some (.row 3 k [.int .i64 out])] => (m - i).toNat
    | _, _ => 0) fun vals objs Q h1 h2 wf wo hg => ?_
  unfold spec_queue at hg
  simp only at hg
  split at hg
  · rename_i m i c_s z a b c cp pl mo k out
    clear h1 h2
    have h_s := asSR_cases hg
    obtain ⟨s, h_s⟩ := h_s
    obtain rfl := cells_of h_s
    rw [h_s] at hg
    simp only at hg
    try simp only [WFL, WF, List.mem_cons, List.not_mem_nil, or_false, forall_eq_or_imp, forall_eq, Col.len, and_true, true_and] at wf
    rw [lp_queue]
    have wk : out.length = k := by simpa [WFO, Col.len] using wo (some (.row 3 k [.int .i64 out])) (by simp) _ rfl
    simp only [asrt_iff, band_t, ieq_t, ile_t, ofN_e, isub_e] at hg
    obtain ⟨⟨c1, hm, h0, hi, hk⟩, hg⟩ := hg
    obtain ⟨k1, k2, k3, k4⟩ := SR.ok_word c1
    obtain ⟨n1, n2⟩ := SR.ok_ns c1
    rw [wr (by omega) (by omega)] at hm
    subst hm hk
    have w1 : IntKind.i64.wrap ((k : Int) + 1) = (k : Int) + 1 := wr (by omega) (by omega)
    have w2 : IntKind.i64.wrap (s.hd + (k : Int)) = s.hd + (k : Int) := wr (by omega) (by omega)
    have w3 : IntKind.i64.wrap (s.tl - s.hd) = s.tl - s.hd := wr (by omega) (by omega)
    have e2 : ((k : Int) + 1).toNat = k + 1 := by omega
    have e3 : (k : Int).toNat = k := by omega
    simp [asrt_iff, br_iff, ieq_t, ieq_f, ine_t, ine_f, ilt_t, ilt_f, ile_t, ile_f, igt_t, igt_f, ige_t, ige_f, nlt_t, nlt_f, nle_t, nle_f, neq_t, neq_f, beq2_t, beq2_f, bnot_t, bnot_f, band_t, band_f, bite_t, bite_f, bimp_t, bimp_f, iadd_e, isub_e, imul_e, ofN_e, nOf_e, nAdd_e, nDiff_e, room_e, lenI_e, gI_e, gB_e, imin_e, imax_e, cat_e, pt_e, put_e, some_f, SR.fitW_fit, SR.wid_fit, w1, w2, w3, e2, c1] at hg ⊢
    refine ⟨fun hlt => ?_, fun hge => ?_⟩
    · have e : placeOf (s.hd + (k : Int)) s.ns = (s.hd + (k : Int)) % s.ns := by unfold placeOf; rw [if_pos (by omega)]
      have q3 : 0 ≤ (s.hd + (k : Int)) % (s.ns : Int) := Int.emod_nonneg _ (by omega)
      have q4 : (s.hd + (k : Int)) % (s.ns : Int) < s.ns := Int.emod_lt_of_pos _ (by omega)
      have q5 := SR.qfrom_lt s (i := k) (by omega)
      rw [q5] at hg
      simp only [e, List.getD_eq_getElem?_getD] at hg ⊢
      refine ⟨⟨q3, q4⟩, by omega, by omega, ⟨by omega, by omega⟩, ?_⟩
      simpa using hg
    · rw [SR.qfrom_ge s (by omega)] at hg
      simpa [wk] using hg
  · exact hg.elim


def Lqueue : Nat → Option LoopS := fun i => match i with
  | 0 => some (.summ spec_queue.summ)
  | _ => none

theorem ok_Lqueue : ∀ i x, Lqueue i = some x → LoopHyp Try.prog 20 i x := by
  intro i s h
  unfold Lqueue at h
  split at h
  · cases h; exact ⟨by kernel_rfl, loop_queue⟩
  · cases h


def Fqueue : Pure1 := fun
  | [a_s] => (match asSR a_s with | some s => some (some (SR.fit s), .agg [.own 3 (lenI (SR.qv s)) [.int .i64 (SR.qv s)], .int .i64 (iite (SR.ok s) (ofN s.ns) 0), .int .i64 (iite (SR.ok s) s.po 0), .int .i64 (iite (SR.ok s) s.md 0)]) | none => none)
  | _ => none

theorem vc_queue (s : SR) (r : AV) : VC Try.prog (tabS tabQ) (oneL 20 Lqueue) true 20 [s.av] r = (
  asrt s.fitW
    (br (bnot s.ok)
      (some
          (AV.agg
            [AV.own 3 0 [Col.int IntKind.i64 []], AV.int IntKind.i64 0, AV.int IntKind.i64 0, AV.int IntKind.i64 0]) =
        some r)
      (asrt (in64 s.8 s.9)
        (asrt (band s.ok (band (ieq (wlen s.8 s.9) (isub IntKind.i64 s.9 s.8)) (band (ile 0 (wlen s.8 s.9)) true)))
          (some
              (AV.agg
                [AV.own 3 (lenI (cat [] (s.qfrom 0))) [Col.int IntKind.i64 (cat [] (s.qfrom 0))],
                  AV.int IntKind.i64 (ofN s.11), AV.int IntKind.i64 s.3, AV.int IntKind.i64 s.10]) =
            some r))))) := by kernel_rfl

theorem ok_queue : PureOK Try.prog 20 Fqueue := by
  refine tab_loops mixed (l := tabQ) ok_tabQ true Lqueue (by kernel_rfl) ok_Lqueue fun xs b r h hb wf => ?_
  unfold Fqueue at h
  split at h
  · rename_i a_s
    split at h
    · rename_i s h_s
      obtain rfl := asSR_some h_s
      cases h
      try rw [some_f] at hb
      simp only [WFL, WF, List.mem_cons, List.not_mem_nil, or_false, forall_eq_or_imp, forall_eq, Col.len, and_true, true_and, wf_av] at wf
      rw [vc_queue]
      have h64 : in64 s.hd s.tl = true := by
        simp only [SR.fit, Bool.and_eq_true] at hb
        exact hb.1
      cases c1 : s.ok with
      | false => simp [asrt_iff, br_iff, ieq_t, ieq_f, ine_t, ine_f, ilt_t, ilt_f, ile_t, ile_f, igt_t, igt_f, ige_t, ige_f, nlt_t, nlt_f, nle_t, nle_f, neq_t, neq_f, beq2_t, beq2_f, bnot_t, bnot_f, band_t, band_f, bite_t, bite_f, bimp_t, bimp_f, iadd_e, isub_e, imul_e, ofN_e, nOf_e, nAdd_e, nDiff_e, room_e, lenI_e, gI_e, gB_e, imin_e, imax_e, cat_e, pt_e, put_e, some_f, SR.fitW_fit, SR.wid_fit, hb, c1, SR.qv, iite]
      | true =>
        obtain ⟨k1, k2, k3, k4⟩ := SR.ok_word c1
        have w3 : IntKind.i64.wrap (s.tl - s.hd) = s.tl - s.hd := wr (by omega) (by omega)
        have e : wlen s.hd s.tl = s.tl - s.hd := by
          unfold wlen
          split
          · omega
          · rw [if_neg (by omega)]
        simp [asrt_iff, br_iff, ieq_t, ieq_f, ine_t, ine_f, ilt_t, ilt_f, ile_t, ile_f, igt_t, igt_f, ige_t, ige_f, nlt_t, nlt_f, nle_t, nle_f, neq_t, neq_f, beq2_t, beq2_f, bnot_t, bnot_f, band_t, band_f, bite_t, bite_f, bimp_t, bimp_f, iadd_e, isub_e, imul_e, ofN_e, nOf_e, nAdd_e, nDiff_e, room_e, lenI_e, gI_e, gB_e, imin_e, imax_e, cat_e, pt_e, put_e, some_f, SR.fitW_fit, SR.wid_fit, hb, c1, h64, SR.qv, iite, e, w3]
        omega
    · cases h
  · cases h


end Go.Own
