/- Law: it does not matter in which order two are put. -/
import Derived.Test.YtmilniofdpgbnaaDueOpen
namespace Go.Own
open Go Go.Proofs
set_option maxRecDepth 100000
set_option linter.unusedVariables false
set_option linter.unusedSimpArgs false

theorem ord_E {P : Prs} {c d : Int × Int} (h : c.2 ≠ d.2) : putE2 (putP P c) d = putE2 P d := by
  by_cases ho : okP P
  · rw [putE_ok (okP_putP.2 ho), putE_ok ho]
    have e : d.2 ∈ pi (putP P c) ↔ d.2 ∈ pi P := by
      unfold putP
      split
      · rw [(pi_perm (srt_perm (P ++ [c]))).mem_iff]
        unfold pi
        simp only [List.map_append, List.map_cons, List.map_nil, List.mem_append, List.mem_singleton]
        exact ⟨fun hh => hh.elim id fun e => absurd e.symm h, Or.inl⟩
      · exact Iff.rfl
    simp only [e]
  · rw [putE_bad ho, putE_bad (fun hh => ho (okP_putP.1 hh))]

theorem ord_P {P : Prs} {c d : Int × Int} (h : c.2 ≠ d.2) : putP (putP P c) d = putP (putP P d) c := by
  have e1 := ord_E (P := P) h
  have e2 := ord_E (P := P) (Ne.symm h)
  by_cases hc : putE2 P c = 0 <;> by_cases hd : putE2 P d = 0
  · rw [putP_ok (P := putP P c) (e1.trans hd), putP_ok (P := putP P d) (e2.trans hc), putP_ok hc, putP_ok hd]
    apply srt_congr
    refine ((srt_perm _).append_right _).trans (List.Perm.trans ?_ ((srt_perm _).append_right _).symm)
    rw [List.append_assoc, List.append_assoc]
    exact List.Perm.append_left _ (List.Perm.swap _ _ _)
  · rw [putP_no (P := putP P c) (fun h => hd (e1.symm.trans h)), putP_no (P := P) (p := d) hd]
  · rw [putP_no (P := putP P d) (fun h => hc (e2.symm.trans h)), putP_no (P := P) (p := c) hc]
  · have r1 := putP_no hc
    have r2 := putP_no hd
    rw [r1, r2, r1]

def FLDueOrder : Pure1 := fun
  | [.sl n [.int .i64 a, .int .i64 d], .agg [.int .i64 x, .int .i64 y], .agg [.int .i64 z, .int .i64 w]] => some (none, .bool true)
  | _ => none

theorem vc_LDueOrder (n : Nat) (a d : List Int) (x y z w : Int) (r : AV) : VC Try.prog (tabS tabDH) noL false 12 [.sl n [.int .i64 a, .int .i64 d], .agg [.int .i64 x, .int .i64 y], .agg [.int .i64 z, .int .i64 w]] r = (
  br (bite (igt (ofN n) 100) true (ieq y w)) (some (AV.bool true) = some r)
    (asrt (nle n 900000)
      (asrt (nle (putN n a d x y) 900000)
        (asrt (nle n 900000)
          (asrt (nle (putN n a d z w) 900000)
            (asrt
              (band (nle (putN (putN n a d x y) (putA a d x y) (putI a d x y) z w) big)
                (duEq (putN (putN n a d x y) (putA a d x y) (putI a d x y) z w) (putA (putA a d x y) (putI a d x y) z w)
                  (putI (putA a d x y) (putI a d x y) z w) (putN (putN n a d z w) (putA a d z w) (putI a d z w) x y)
                  (putA (putA a d z w) (putI a d z w) x y) (putI (putA a d z w) (putI a d z w) x y)))
              (some
                  (AV.bool
                    (bite (ieq (putE a d x y) (putE (putA a d z w) (putI a d z w) x y))
                      (ieq (putE (putA a d x y) (putI a d x y) z w) (putE a d z w)) false)) =
                some r))))))) := by kernel_rfl

theorem ok_LDueOrder : PureOK Try.prog 12 FLDueOrder := by
  refine tab_plain mixed (l := tabDH) ok_tabDH false (by kernel_rfl) fun xs b r h hb wf => ?_
  unfold FLDueOrder at h
  split at h
  · rename_i n a d x y z w
    cases h
    try rw [some_f] at hb
    try simp only [WFL, WF, List.mem_cons, List.not_mem_nil, or_false, forall_eq_or_imp, forall_eq, Col.len, and_true, true_and] at wf
    rw [vc_LDueOrder]
    obtain ⟨wa, wd⟩ : a.length = n ∧ d.length = n := by simpa using wf
    obtain ⟨P, rfl, rfl, rfl⟩ := as_P wa wd
    simp only [bite_and, bite_or]
    simp only [putN_P, putA_P, putI_P, putE_P]
    have hle := putP_le P (x, y)
    have hle2 := putP_le P (z, w)
    by_cases hlen : P.length ≤ 100
    · have g1 : igt (ofN P.length) 100 = false := by rw [igt_f, ofN_e]; omega
      have q1 : nle P.length 1000000 = true := by rw [nle_t]; omega
      have q2 : nle P.length 900000 = true := by rw [nle_t]; omega
      have q3 : nle (putP P (x, y)).length 900000 = true := by rw [nle_t]; omega
      have q4 : nle (putP P (z, w)).length 900000 = true := by rw [nle_t]; omega
      by_cases hyw : y = w
      · have g2 : ieq y w = true := by rw [ieq_t]; exact hyw
        rw [g1, g2]
        trivial
      · have g2 : ieq y w = false := by rw [ieq_f]; exact hyw
        have hle3 := putP_le (putP P (z, w)) (x, y)
        have q5 : nle (putP (putP P (z, w)) (x, y)).length big = true := big_le (by omega)
        have e1 := ord_E (P := P) (c := (x, y)) (d := (z, w)) hyw
        have e2 := ord_E (P := P) (c := (z, w)) (d := (x, y)) (Ne.symm hyw)
        have e3 := ord_P (P := P) (c := (x, y)) (d := (z, w)) hyw
        have f : ∀ n : Int, ieq n n = true := fun n => by rw [ieq_t]
        rw [g1, g2, q2, q3, q4, e3, q5, duEq_self, e1, e2, f, f]
        rfl
    · have g1 : igt (ofN P.length) 100 = true := by rw [igt_t, ofN_e]; omega
      rw [g1]
      trivial
  · cases h


theorem law_DueOrder (a0 : List (Int × Int)) (a1 a2 : Int × Int) (_ : True) (_ : (Lit.int .i64 a1.1).wf = true ∧ (Lit.int .i64 a1.2).wf = true) (_ : (Lit.int .i64 a2.1).wf = true ∧ (Lit.int .i64 a2.2).wf = true) :
    ∃ b, FLDueOrder [.sl a0.length [.int .i64 (a0.map fun e => e.1), .int .i64 (a0.map fun e => e.2)], .agg [.int .i64 a1.1, .int .i64 a1.2], .agg [.int .i64 a2.1, .int .i64 a2.2]] = some (b, .bool true) ∧ b ≠ some false := ⟨_, rfl, by simp⟩

end Go.Own
