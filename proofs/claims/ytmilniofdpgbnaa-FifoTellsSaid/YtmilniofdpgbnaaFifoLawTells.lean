/- A law of queues. -/
import Derived.Test.YtmilniofdpgbnaaFifoRef
namespace Go.Own
open Go Go.Proofs
set_option maxRecDepth 100000
set_option linter.unusedVariables false
set_option linter.unusedSimpArgs false

def tellOk (k n : Nat) (i : Int) : Bool := decide (k ≤ 100) && decide (0 ≤ i) && decide (i ≤ n) && decide (n ≤ 100)


def spec_qtell : LoopSpec := { n := 98, keep := [1, 2, 3, 7, 8], srcs := [.tmp 3], keepE := [1, 2, 3, 7], srcsE := [.tmp 3], goes := fun vals objs Q => match vals, objs with
  | [.sl n [.int .i64 c0, .int .i64 ks, .int .i64 vs, .int .i64 rs, .int .i64 gs], .int .i64 kind, .ptr 0 0 0, .bool up, .int .i64 i], [some (.var [.sl k [.int .i64 x], .int .i64 a, .int .i64 b, .int .i64 c])] => asrt (tellOk k n i) (Q (.exit 0) [.sl n [.int .i64 c0, .int .i64 ks, .int .i64 vs, .int .i64 rs, .int .i64 gs], .int .i64 kind, .ptr 0 0 0, .bool up] [some (.var [.sl k [.int .i64 x], .int .i64 a, .int .i64 b, .int .i64 c])])
  | _, _ => False }

theorem lp_qtell (n : Nat) (c0 ks vs rs gs : List Int) (kind : Int) (up : Bool) (i : Int) (k : Nat) (x : List Int) (a b c : Int) (mu : List AV → Heap → Nat) (Q : Ex → List AV → Heap → Prop) : runCode Try.prog (tabS tabH) (callN Try.prog (tabS tabH) noL 11) (fun _ => none) (bodyOf Try.prog 3 0) 0 ⟨mkT (spec_qtell).keep [.sl n [.int .i64 c0, .int .i64 ks, .int .i64 vs, .int .i64 rs, .int .i64 gs], .int .i64 kind, .ptr 0 0 0, .bool up, .int .i64 i] (spec_qtell).n 0, [some (.var [.sl k [.int .i64 x], .int .i64 a, .int .i64 b, .int .i64 c])]⟩ ((spec_qtell).ends mu [.sl n [.int .i64 c0, .int .i64 ks, .int .i64 vs, .int .i64 rs, .int .i64 gs], .int .i64 kind, .ptr 0 0 0, .bool up, .int .i64 i] [some (.var [.sl k [.int .i64 x], .int .i64 a, .int .i64 b, .int .i64 c])] Q) = (
  br (ilt i (ofN n))
    (asrt (band (ile 0 i) (ilt i (ofN n)))
      (asrt (nlt k 1073741824)
        (asrt (band (ile 0 i) (ilt i (ofN n)))
          (asrt (nlt k 1073741824)
            (asrt (nle (lenI (valS x a b c (gI ks (nOf i)) (gI vs (nOf i)) (gI rs (nOf i)) (gI gs (nOf i)))) big)
              (br
                (bite
                  (bnot
                    (band
                      (sameI (valS x a b c (gI ks (nOf i)) (gI vs (nOf i)) (gI rs (nOf i)) (gI gs (nOf i)))
                        (valS x a b c (gI ks (nOf i)) (gI vs (nOf i)) (gI rs (nOf i)) (gI gs (nOf i))))
                      (band (ieq a a)
                        (band (ieq b b)
                          (ieq (modeS x a b c (gI ks (nOf i)) (gI vs (nOf i)) (gI rs (nOf i)) (gI gs (nOf i)))
                            (modeS x a b c (gI ks (nOf i)) (gI vs (nOf i)) (gI rs (nOf i)) (gI gs (nOf i))))))))
                  true
                  (bnot
                    (beq2 (mayS x a b c (gI ks (nOf i)) (gI vs (nOf i)) (gI rs (nOf i)) (gI gs (nOf i)))
                      (mayS x a b c (gI ks (nOf i)) (gI vs (nOf i)) (gI rs (nOf i)) (gI gs (nOf i))))))
                (Q Ex.ret
                  [AV.sl n
                      [Col.int IntKind.i64 c0, Col.int IntKind.i64 ks, Col.int IntKind.i64 vs, Col.int IntKind.i64 rs,
                        Col.int IntKind.i64 gs],
                    AV.int IntKind.i64 kind, AV.ptr 0 0 0, AV.bool up]
                  [some
                      (AObj.var
                        [AV.sl k [Col.int IntKind.i64 x], AV.int IntKind.i64 a, AV.int IntKind.i64 b,
                          AV.int IntKind.i64 c])])
                ((mu
                          [AV.sl n
                              [Col.int IntKind.i64 c0, Col.int IntKind.i64 ks, Col.int IntKind.i64 vs,
                                Col.int IntKind.i64 rs, Col.int IntKind.i64 gs],
                            AV.int IntKind.i64 kind, AV.ptr 0 0 0, AV.bool up,
                            AV.int IntKind.i64 (iadd IntKind.i64 i 1)]
                          [some
                              (AObj.var
                                [AV.sl k [Col.int IntKind.i64 x], AV.int IntKind.i64 a, AV.int IntKind.i64 b,
                                  AV.int IntKind.i64 c])]).succ.le
                    (mu
                      [AV.sl n
                          [Col.int IntKind.i64 c0, Col.int IntKind.i64 ks, Col.int IntKind.i64 vs,
                            Col.int IntKind.i64 rs, Col.int IntKind.i64 gs],
                        AV.int IntKind.i64 kind, AV.ptr 0 0 0, AV.bool up, AV.int IntKind.i64 i]
                      [some
                          (AObj.var
                            [AV.sl k [Col.int IntKind.i64 x], AV.int IntKind.i64 a, AV.int IntKind.i64 b,
                              AV.int IntKind.i64 c])]) ∧
                  asrt (tellOk k n (iadd IntKind.i64 i 1))
                    (Q (Ex.exit 0)
                      [AV.sl n
                          [Col.int IntKind.i64 c0, Col.int IntKind.i64 ks, Col.int IntKind.i64 vs,
                            Col.int IntKind.i64 rs, Col.int IntKind.i64 gs],
                        AV.int IntKind.i64 kind, AV.ptr 0 0 0, AV.bool up]
                      [some
                          (AObj.var
                            [AV.sl k [Col.int IntKind.i64 x], AV.int IntKind.i64 a, AV.int IntKind.i64 b,
                              AV.int IntKind.i64 c])]))))))))
    (Q (Ex.exit 0)
      [AV.sl n
          [Col.int IntKind.i64 c0, Col.int IntKind.i64 ks, Col.int IntKind.i64 vs, Col.int IntKind.i64 rs,
            Col.int IntKind.i64 gs],
        AV.int IntKind.i64 kind, AV.ptr 0 0 0, AV.bool up]
      [some
          (AObj.var
            [AV.sl k [Col.int IntKind.i64 x], AV.int IntKind.i64 a, AV.int IntKind.i64 b, AV.int IntKind.i64 c])])) := by kernel_rfl

theorem loop_qtell : LoopOK Try.prog (bodyOf Try.prog 3 0) spec_qtell.summ := by
  refine tab_loop mixed (l := tabH) ok_tabH (i := 0) spec_qtell (fun vals objs => match vals, objs with
    | [.sl n [.int .i64 c0, .int .i64 ks, .int .i64 vs, .int .i64 rs, .int .i64 gs], .int .i64 kind, .ptr 0 0 0, .bool up, .int .i64 i], [some (.var [.sl k [.int .i64 x], .int .i64 a, .int .i64 b, .int .i64 c])] => (n - i).toNat
    | _, _ => 0) fun vals objs Q h1 h2 wf wo hg => ?_
  unfold spec_qtell at hg
  simp only at hg
  split at hg
  · rename_i n c0 ks vs rs gs kind up i k x a b c
    clear h1 h2
    try simp only [WFL, WF, List.mem_cons, List.not_mem_nil, or_false, forall_eq, Col.len, and_true, true_and] at wf
    rw [lp_qtell]
    rw [asrt_iff] at hg
    obtain ⟨hinv, hg⟩ := hg
    have hinv' := hinv
    simp [tellOk] at hinv'
    obtain ⟨⟨⟨i1, i2⟩, i3⟩, i4⟩ := hinv'
    have hw : IntKind.i64.wrap (i + 1) = i + 1 := wr (by omega) (by omega)
    have hx : x.length = k := by simpa [WFH, WFO, Col.len, WFL, WF] using wo
    generalize gI ks (nOf i) = e1
    generalize gI vs (nOf i) = e2
    generalize gI rs (nOf i) = e3
    generalize gI gs (nOf i) = e4
    have v1 := valS_le x a b c e1 e2 e3 e4
    have b1 : (valS x a b c e1 e2 e3 e4).length ≤ big := le_big (by omega)
    have b2 : k < 1073741824 := by omega
    have s1 : ∀ y : List Int, sameI y y = true := fun y => by simp [sameI]
    have ok : i < n → tellOk k n (i + 1) = true := by
      intro h
      simp [tellOk]
      omega
    simp only [bite_and, bite_or]
    simp [asrt_iff, br_iff, ieq_t, ieq_f, ine_t, ine_f, ilt_t, ilt_f, ile_t, ile_f, igt_t, igt_f, ige_t, ige_f, nlt_t, nlt_f, nle_t, nle_f, neq_t, neq_f, beq2_t, beq2_f, bnot_t, bnot_f, band_t, band_f, bite_t, bite_f, bimp_t, bimp_f, iadd_e, isub_e, imul_e, ofN_e, nOf_e, nAdd_e, nDiff_e, room_e, lenI_e, gI_e, gB_e, imin_e, imax_e, cat_e, pt_e, put_e, some_f, hw, b1, b2, s1, hg, i2]
    exact fun h => ⟨h, by omega, ok h⟩
  · exact hg.elim


def Lqtell : Nat → Option LoopS := fun i => match i with
  | 0 => some (.summ spec_qtell.summ)
  | _ => none

theorem ok_Lqtell : ∀ i s, Lqtell i = some (.summ s) → onlyLoop Try.prog 3 i = true ∧ LoopOK Try.prog (bodyOf Try.prog 3 i) s := by
  intro i s h
  unfold Lqtell at h
  split at h
  · cases h; exact ⟨by kernel_rfl, loop_qtell⟩
  · cases h


def FLFifoTells : Pure1 := fun
  | [.agg [.sl k [.int .i64 x], .int .i64 a, .int .i64 b, .int .i64 c], .sl n [.int .i64 c0, .int .i64 ks, .int .i64 vs, .int .i64 rs, .int .i64 gs], .int .i64 kind] => some (none, .bool true)
  | _ => none

theorem vc_LFifoTells (k : Nat) (x : List Int) (a b c : Int) (n : Nat) (c0 ks vs rs gs : List Int) (kind : Int) (r : AV) : VC Try.prog (tabS tabH) (oneL 3 Lqtell) false 3 [.agg [.sl k [.int .i64 x], .int .i64 a, .int .i64 b, .int .i64 c], .sl n [.int .i64 c0, .int .i64 ks, .int .i64 vs, .int .i64 rs, .int .i64 gs], .int .i64 kind] r = (
  br (bite (igt (ofN k) 100) true (igt (ofN n) 100)) (some (AV.bool true) = some r)
    (asrt (tellOk k n 0)
      (asrt (runOk k n 0)
        (asrt (runOk k n 0)
          (asrt (nle (lenI (runV x a b c ks vs rs gs 0)) big)
            (some
                (AV.bool
                  (bite
                    (bite
                      (bite
                        (band (sameI (runV x a b c ks vs rs gs 0) (runV x a b c ks vs rs gs 0))
                          (band (ieq a a)
                            (band (ieq b b) (ieq (runM x a b c ks vs rs gs 0) (runM x a b c ks vs rs gs 0)))))
                        (ieq (runC x a b c ks vs rs gs 0) (runC x a b c ks vs rs gs 0)) false)
                      (beq2 (sendsB kind) (sendsB kind)) false)
                    (beq2 (recvsB kind) (recvsB kind)) false)) =
              some r)))))) := by kernel_rfl

theorem ok_LFifoTells : PureOK Try.prog 3 FLFifoTells := by
  refine tab_loops mixed (l := tabH) ok_tabH false Lqtell (by kernel_rfl) ok_Lqtell fun xs b r h hb wf => ?_
  unfold FLFifoTells at h
  split at h
  · rename_i k x a b c n c0 ks vs rs gs kind
    cases h
    try rw [some_f] at hb
    try simp only [WFL, WF, List.mem_cons, List.not_mem_nil, or_false, forall_eq, Col.len, and_true, true_and] at wf
    rw [vc_LFifoTells]
    simp only [bite_and, bite_or]
    obtain ⟨w1, w2, w3, w4, w5⟩ : c0.length = n ∧ ks.length = n ∧ vs.length = n ∧ rs.length = n ∧ gs.length = n := by simp [WFL, WF, Col.len] at wf; exact wf.2
    have hx : x.length = k := by simp [WFL, WF, Col.len] at wf; exact wf.1
    have l1 := run_le a b (ens ks vs rs gs) x c
    have hE := ens_len ks vs rs gs (by omega) (by omega) (by omega)
    have rv : (runV x a b c ks vs rs gs 0).length ≤ k + n := by simp [runV]; omega
    have s1 : ∀ y : List Int, sameI y y = true := fun y => by simp [sameI]
    rw [br_iff]
    refine ⟨fun _ => trivial, fun hg => ?_⟩
    simp only [Bool.or_eq_false_iff, igt_f, ofN_e] at hg
    have ok1 : runOk k n 0 = true := by simp [runOk]; omega
    have ok2 : tellOk k n 0 = true := by simp [tellOk]; omega
    have b1 : (runV x a b c ks vs rs gs 0).length ≤ big := le_big (by omega)
    simp [asrt_iff, br_iff, ieq_t, ieq_f, ine_t, ine_f, ilt_t, ilt_f, ile_t, ile_f, igt_t, igt_f, ige_t, ige_f, nlt_t, nlt_f, nle_t, nle_f, neq_t, neq_f, beq2_t, beq2_f, bnot_t, bnot_f, band_t, band_f, bite_t, bite_f, bimp_t, bimp_f, iadd_e, isub_e, imul_e, ofN_e, nOf_e, nAdd_e, nDiff_e, room_e, lenI_e, gI_e, gB_e, imin_e, imax_e, cat_e, pt_e, put_e, some_f, ok1, ok2, s1, b1]
  · cases h


theorem law_FifoTells (a0 : Qu) (a1 : List Ent) (a2 : Int) (_ : (a0.1.length ≤ maxLen ∧ ∀ x ∈ a0.1, (Lit.int .i64 x).wf = true) ∧ (Lit.int .i64 a0.2.1).wf = true ∧ (Lit.int .i64 a0.2.2.1).wf = true ∧ (Lit.int .i64 a0.2.2.2).wf = true) (_ : a1.length ≤ maxLen) (_ : (Lit.int .i64 a2).wf = true) :
    ∃ b, FLFifoTells [.agg [.sl a0.1.length [.int .i64 a0.1], .int .i64 a0.2.1, .int .i64 a0.2.2.1, .int .i64 a0.2.2.2], .sl a1.length [.int .i64 (a1.map (·.1)), .int .i64 (a1.map (·.2.1)), .int .i64 (a1.map (·.2.2.1)), .int .i64 (a1.map (·.2.2.2.1)), .int .i64 (a1.map (·.2.2.2.2))], .int .i64 a2] = some (b, .bool true) ∧ b ≠ some false := ⟨none, rfl, by simp⟩

end Go.Own
