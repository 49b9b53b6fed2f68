/- A law of queues. -/
import Derived.Test.YtmilniofdpgbnaaFifoLaw
namespace Go.Own
open Go Go.Proofs
set_option maxRecDepth 100000
set_option linter.unusedVariables false
set_option linter.unusedSimpArgs false

def roomInv (k : Nat) (a : Int) (n : Nat) (i : Int) : Bool := decide ((k : Int) ≤ a) && decide (k ≤ 10000) && decide ((k : Int) + n - i ≤ 1000) && decide (0 ≤ i) && decide (i ≤ n) && decide (n ≤ 100)


def spec_qroom : LoopSpec := { n := 75, keep := [1, 2, 5, 6], srcs := [.tmp 2], keepE := [5], srcsE := [], goes := fun vals objs Q => match vals, objs with
  | [.sl n [.int .i64 c0, .int .i64 ks, .int .i64 vs, .int .i64 rs, .int .i64 gs], .ptr 0 0 0, .bool up, .int .i64 i], [some (.var [.sl k [.int .i64 x], .int .i64 a, .int .i64 b, .int .i64 c])] => asrt (roomInv k a n i) (Q (.exit 0) [.bool up] [])
  | _, _ => False }

theorem lp_qroom (n : Nat) (c0 ks vs rs gs : List Int) (up : Bool) (i : Int) (k : Nat) (x : List Int) (a b c : Int) (mu : List AV → Heap → Nat) (Q : Ex → List AV → Heap → Prop) : runCode Try.prog (tabS tabF3) (callN Try.prog (tabS tabF3) noL 11) (fun _ => none) (bodyOf Try.prog 5 0) 0 ⟨mkT (spec_qroom).keep [.sl n [.int .i64 c0, .int .i64 ks, .int .i64 vs, .int .i64 rs, .int .i64 gs], .ptr 0 0 0, .bool up, .int .i64 i] (spec_qroom).n 0, [some (.var [.sl k [.int .i64 x], .int .i64 a, .int .i64 b, .int .i64 c])]⟩ ((spec_qroom).ends mu [.sl n [.int .i64 c0, .int .i64 ks, .int .i64 vs, .int .i64 rs, .int .i64 gs], .ptr 0 0 0, .bool up, .int .i64 i] [some (.var [.sl k [.int .i64 x], .int .i64 a, .int .i64 b, .int .i64 c])] Q) = (
  br (ilt i (ofN n))
    (asrt (band (ile 0 i) (ilt i (ofN n)))
      (asrt (nlt k 1073741824)
        (asrt
          (bimp
            (band
              (bnot (igt (ofN (lenI (valS x a b c (gI ks (nOf i)) (gI vs (nOf i)) (gI rs (nOf i)) (gI gs (nOf i))))) a))
              (bnot (mayS x a b c (gI ks (nOf i)) (gI vs (nOf i)) (gI rs (nOf i)) (gI gs (nOf i)))))
            (nle (lenI (valS x a b c (gI ks (nOf i)) (gI vs (nOf i)) (gI rs (nOf i)) (gI gs (nOf i)))) big))
          (br
            (bite
              (bite (igt (ofN (lenI (valS x a b c (gI ks (nOf i)) (gI vs (nOf i)) (gI rs (nOf i)) (gI gs (nOf i))))) a)
                true
                (bite (bnot (mayS x a b c (gI ks (nOf i)) (gI vs (nOf i)) (gI rs (nOf i)) (gI gs (nOf i))))
                  (bnot
                    (band (sameI (valS x a b c (gI ks (nOf i)) (gI vs (nOf i)) (gI rs (nOf i)) (gI gs (nOf i))) x)
                      (band (ieq a a)
                        (band (ieq b b)
                          (ieq (modeS x a b c (gI ks (nOf i)) (gI vs (nOf i)) (gI rs (nOf i)) (gI gs (nOf i))) c)))))
                  false))
              true
              (bite (ine c 0)
                (igt (ofN (lenI (valS x a b c (gI ks (nOf i)) (gI vs (nOf i)) (gI rs (nOf i)) (gI gs (nOf i)))))
                  (ofN k))
                false))
            (Q Ex.ret [AV.bool up] [])
            ((mu
                      [AV.sl n
                          [Col.int IntKind.i64 c0, Col.int IntKind.i64 ks, Col.int IntKind.i64 vs,
                            Col.int IntKind.i64 rs, Col.int IntKind.i64 gs],
                        AV.ptr 0 0 0, AV.bool up, AV.int IntKind.i64 (iadd IntKind.i64 i 1)]
                      [some
                          (AObj.var
                            [AV.sl (lenI (valS x a b c (gI ks (nOf i)) (gI vs (nOf i)) (gI rs (nOf i)) (gI gs (nOf i))))
                                [Col.int IntKind.i64
                                    (valS x a b c (gI ks (nOf i)) (gI vs (nOf i)) (gI rs (nOf i)) (gI gs (nOf i)))],
                              AV.int IntKind.i64 a, AV.int IntKind.i64 b,
                              AV.int IntKind.i64
                                (modeS x a b c (gI ks (nOf i)) (gI vs (nOf i)) (gI rs (nOf i))
                                  (gI gs (nOf i)))])]).succ.le
                (mu
                  [AV.sl n
                      [Col.int IntKind.i64 c0, Col.int IntKind.i64 ks, Col.int IntKind.i64 vs, Col.int IntKind.i64 rs,
                        Col.int IntKind.i64 gs],
                    AV.ptr 0 0 0, AV.bool up, AV.int IntKind.i64 i]
                  [some
                      (AObj.var
                        [AV.sl k [Col.int IntKind.i64 x], AV.int IntKind.i64 a, AV.int IntKind.i64 b,
                          AV.int IntKind.i64 c])]) ∧
              asrt
                (roomInv (lenI (valS x a b c (gI ks (nOf i)) (gI vs (nOf i)) (gI rs (nOf i)) (gI gs (nOf i)))) a n
                  (iadd IntKind.i64 i 1))
                (Q (Ex.exit 0) [AV.bool up] []))))))
    (Q (Ex.exit 0) [AV.bool up] [])) := by kernel_rfl

theorem loop_qroom : LoopOK Try.prog (bodyOf Try.prog 5 0) spec_qroom.summ := by
  refine tab_loop mixed (l := tabF3) ok_tabF3 (i := 0) spec_qroom (fun vals objs => match vals, objs with
    | [.sl n [.int .i64 c0, .int .i64 ks, .int .i64 vs, .int .i64 rs, .int .i64 gs], .ptr 0 0 0, .bool up, .int .i64 i], [some (.var [.sl k [.int .i64 x], .int .i64 a, .int .i64 b, .int .i64 c])] => (n - i).toNat
    | _, _ => 0) fun vals objs Q h1 h2 wf wo hg => ?_
  unfold spec_qroom at hg
  simp only at hg
  split at hg
  · rename_i n c0 ks vs rs gs up i k x a b c
    clear h1 h2
    try simp only [WFL, WF, List.mem_cons, List.not_mem_nil, or_false, forall_eq, Col.len, and_true, true_and] at wf
    rw [lp_qroom]
    rw [asrt_iff] at hg
    obtain ⟨hinv, hg⟩ := hg
    have hinv' := hinv
    simp [roomInv] at hinv'
    obtain ⟨⟨⟨⟨⟨i1, i2⟩, i3⟩, i4⟩, i5⟩, i6⟩ := hinv'
    have hx : x.length = k := by simpa [WFH, WFO, Col.len, WFL, WF] using wo
    subst hx
    simp only [bite_and, bite_or]
    generalize gI ks (nOf i) = e1
    generalize gI vs (nOf i) = e2
    generalize gI rs (nOf i) = e3
    generalize gI gs (nOf i) = e4
    have v1 := valS_le x a b c e1 e2 e3 e4
    have v2 := @valS_grow x a b c e1 e2 e3 e4
    have hw : IntKind.i64.wrap (i + 1) = i + 1 := wr (by omega) (by omega)
    have b1 : (valS x a b c e1 e2 e3 e4).length ≤ big := le_big (by omega)
    have b2 : x.length < 1073741824 := by omega
    have b3 : ¬ a < ((valS x a b c e1 e2 e3 e4).length : Int) := by
      intro h
      by_cases h2 : x.length < (valS x a b c e1 e2 e3 e4).length
      · have := v2 h2; omega
      · omega
    have b4 : ¬ c = 0 → ¬ x.length < (valS x a b c e1 e2 e3 e4).length := fun h h2 => h (v2 h2).1
    have b5 : i < n → roomInv (valS x a b c e1 e2 e3 e4).length a n (i + 1) = true := by
      intro h
      simp [roomInv]
      by_cases h2 : x.length < (valS x a b c e1 e2 e3 e4).length
      · have := v2 h2; omega
      · omega
    have s1 : sameI x x = true := by simp [sameI]
    cases hm : mayS x a b c e1 e2 e3 e4 with
    | false =>
      obtain ⟨w1, w2⟩ := valS_no hm
      rw [w1] at b3 b5 b1
      simp [asrt_iff, br_iff, ieq_t, ieq_f, ine_t, ine_f, ilt_t, ilt_f, ile_t, ile_f, igt_t, igt_f, ige_t, ige_f, nlt_t, nlt_f, nle_t, nle_f, neq_t, neq_f, beq2_t, beq2_f, bnot_t, bnot_f, band_t, band_f, bite_t, bite_f, bimp_t, bimp_f, iadd_e, isub_e, imul_e, ofN_e, nOf_e, nAdd_e, nDiff_e, room_e, lenI_e, gI_e, gB_e, imin_e, imax_e, cat_e, pt_e, put_e, some_f, hm, w1, w2, s1, hw, b1, b2, b3, hg, i4]
      intro h
      first
        | exact ⟨h, by omega, b5 h⟩
        | exact ⟨h, fun _ => ⟨by omega, b5 h⟩⟩
        | exact ⟨h, fun _ _ => ⟨by omega, b5 h⟩⟩
        | trace_state
    | true =>
      simp [asrt_iff, br_iff, ieq_t, ieq_f, ine_t, ine_f, ilt_t, ilt_f, ile_t, ile_f, igt_t, igt_f, ige_t, ige_f, nlt_t, nlt_f, nle_t, nle_f, neq_t, neq_f, beq2_t, beq2_f, bnot_t, bnot_f, band_t, band_f, bite_t, bite_f, bimp_t, bimp_f, iadd_e, isub_e, imul_e, ofN_e, nOf_e, nAdd_e, nDiff_e, room_e, lenI_e, gI_e, gB_e, imin_e, imax_e, cat_e, pt_e, put_e, some_f, hm, hw, b1, b2, b3, hg, i4]
      intro h
      exact ⟨h, fun hc h2 => absurd h2 (b4 hc), fun _ _ => ⟨by omega, b5 h⟩⟩
  · exact hg.elim


def Lqroom : Nat → Option LoopS := fun i => match i with
  | 0 => some (.summ spec_qroom.summ)
  | _ => none

theorem ok_Lqroom : ∀ i s, Lqroom i = some (.summ s) → onlyLoop Try.prog 5 i = true ∧ LoopOK Try.prog (bodyOf Try.prog 5 i) s := by
  intro i s h
  unfold Lqroom at h
  split at h
  · cases h; exact ⟨by kernel_rfl, loop_qroom⟩
  · cases h


def FLFifoRoom : Pure1 := fun
  | [.agg [.sl k [.int .i64 x], .int .i64 a, .int .i64 b, .int .i64 c], .sl n [.int .i64 c0, .int .i64 ks, .int .i64 vs, .int .i64 rs, .int .i64 gs]] => some (none, .bool true)
  | _ => none

theorem vc_LFifoRoom (k : Nat) (x : List Int) (a b c : Int) (n : Nat) (c0 ks vs rs gs : List Int) (r : AV) : VC Try.prog (tabS tabF3) (oneL 5 Lqroom) false 5 [.agg [.sl k [.int .i64 x], .int .i64 a, .int .i64 b, .int .i64 c], .sl n [.int .i64 c0, .int .i64 ks, .int .i64 vs, .int .i64 rs, .int .i64 gs]] r = (
  br (bite (bite (igt (ofN k) 100) true (igt (ofN n) 100)) true (igt (ofN k) a)) (some (AV.bool true) = some r)
    (asrt (roomInv k a n 0) (some (AV.bool true) = some r))) := by kernel_rfl

theorem ok_LFifoRoom : PureOK Try.prog 5 FLFifoRoom := by
  refine tab_loops mixed (l := tabF3) ok_tabF3 false Lqroom (by kernel_rfl) ok_Lqroom fun xs b r h hb wf => ?_
  unfold FLFifoRoom at h
  split at h
  · rename_i k x a b c n c0 ks vs rs gs
    cases h
    try rw [some_f] at hb
    try simp only [WFL, WF, List.mem_cons, List.not_mem_nil, or_false, forall_eq, Col.len, and_true, true_and] at wf
    rw [vc_LFifoRoom]
    simp only [bite_and, bite_or]
    have hr : ¬ (k : Int) > 100 → ¬ (n : Int) > 100 → ¬ (k : Int) > a → roomInv k a n 0 = true := by
      intro h1 h2 h3
      simp [roomInv]
      omega
    simp [asrt_iff, br_iff, ieq_t, ieq_f, ine_t, ine_f, ilt_t, ilt_f, ile_t, ile_f, igt_t, igt_f, ige_t, ige_f, nlt_t, nlt_f, nle_t, nle_f, neq_t, neq_f, beq2_t, beq2_f, bnot_t, bnot_f, band_t, band_f, bite_t, bite_f, bimp_t, bimp_f, iadd_e, isub_e, imul_e, ofN_e, nOf_e, nAdd_e, nDiff_e, room_e, lenI_e, gI_e, gB_e, imin_e, imax_e, cat_e, pt_e, put_e, some_f]
    intro h1 h2 h3
    exact hr (by omega) (by omega) (by omega)
  · cases h


theorem law_FifoRoom (a0 : Qu) (a1 : List Ent) (_ : (a0.1.length ≤ maxLen ∧ ∀ x ∈ a0.1, (Lit.int .i64 x).wf = true) ∧ (Lit.int .i64 a0.2.1).wf = true ∧ (Lit.int .i64 a0.2.2.1).wf = true ∧ (Lit.int .i64 a0.2.2.2).wf = true) (_ : a1.length ≤ maxLen) :
    ∃ b, FLFifoRoom [.agg [.sl a0.1.length [.int .i64 a0.1], .int .i64 a0.2.1, .int .i64 a0.2.2.1, .int .i64 a0.2.2.2], .sl a1.length [.int .i64 (a1.map (·.1)), .int .i64 (a1.map (·.2.1)), .int .i64 (a1.map (·.2.2.1)), .int .i64 (a1.map (·.2.2.2.1)), .int .i64 (a1.map (·.2.2.2.2))]] = some (b, .bool true) ∧ b ≠ some false := ⟨none, rfl, by simp⟩


end Go.Own
