/- Law: who was put, and dropped, leaves the others as they were. -/
import Derived.Test.YtmilniofdpgbnaaDueOpen
namespace Go.Own
open Go Go.Proofs
set_option maxRecDepth 100000
set_option linter.unusedVariables false
set_option linter.unusedSimpArgs false

theorem back_drop {P : Prs} {p : Int × Int} (h : putE2 P p = 0) : dropB (pa (putP P p)) (pi (putP P p)) p.2 = true ∧ dropP (putP P p) p.2 = P ∧ putE2 (putP P p) p = 60 ∧ (putP P p).length = P.length + 1 := by
  obtain ⟨ho, h1, h2, hn⟩ := putE_zero h
  have hok := okP_put h
  have hperm : (putP P p).Perm (P ++ [p]) := by
    unfold putP
    rw [if_pos h]
    exact srt_perm _
  have hin : p.2 ∈ pi (putP P p) := (pi_perm hperm).symm.subset (by simp [pi])
  have hb : dropB (pa (putP P p)) (pi (putP P p)) p.2 = true := by
    rw [dropB_P hok]
    simpa using hin
  refine ⟨hb, ?_, ?_, ?_⟩
  · unfold dropP
    rw [if_pos hb]
    have hf := hperm.filter fun q => q.2 != p.2
    have e : (P ++ [p]).filter (fun q => q.2 != p.2) = P := by
      rw [List.filter_append, List.filter_cons_of_neg (by simp), List.filter_nil, List.append_nil, List.filter_eq_self]
      intro q hq
      simp
      exact fun e => hn (e ▸ List.mem_map_of_mem hq)
    rw [e] at hf
    exact order_eq (in_of (okP_filter _ hok).2.1) (in_of ho.2.1) hf
  · rw [putE_ok hok, if_pos h1, if_pos h2, if_pos hin]
  · rw [hperm.length_eq]
    simp

def FLDueBack : Pure1 := fun
  | [.sl n [.int .i64 a, .int .i64 d], .agg [.int .i64 x, .int .i64 y]] => some (none, .bool true)
  | _ => none

theorem vc_LDueBack (n : Nat) (a d : List Int) (x y : Int) (r : AV) : VC Try.prog (tabS tabDH) noL false 10 [.sl n [.int .i64 a, .int .i64 d], .agg [.int .i64 x, .int .i64 y]] r = (
  asrt (bimp (bnot (igt (ofN n) 100)) (nle n 1000000))
    (br (bite (igt (ofN n) 100) true (bnot (dueOk a d))) (some (AV.bool true) = some r)
      (asrt (nle n 900000)
        (br (ine (putE a d x y) 0)
          (asrt (band (nle (putN n a d x y) big) (duEq (putN n a d x y) (putA a d x y) (putI a d x y) n a d))
            (some (AV.bool true) = some r))
          (asrt (nle (putN n a d x y) 900000)
            (asrt (nle (putN n a d x y) 900000)
              (asrt
                (bimp (ieq (dropE (putA a d x y) (putI a d x y) y) 0)
                  (band (nle (dropN (putN n a d x y) (putA a d x y) (putI a d x y) y) big)
                    (duEq (dropN (putN n a d x y) (putA a d x y) (putI a d x y) y)
                      (dropA (putA a d x y) (putI a d x y) y) (dropI (putA a d x y) (putI a d x y) y) n a d)))
                (asrt
                  (bimp (bite (ieq (dropE (putA a d x y) (putI a d x y) y) 0) true false)
                    (nle (putN n a d x y) 1000000))
                  (some
                      (AV.bool
                        (bite
                          (bite
                            (bite (bite (ieq (dropE (putA a d x y) (putI a d x y) y) 0) true false)
                              (dueOk (putA a d x y) (putI a d x y)) false)
                            (ieq (ofN (putN n a d x y)) (iadd IntKind.i64 (ofN n) 1)) false)
                          (ieq (putE (putA a d x y) (putI a d x y) x y) 60) false)) =
                    some r))))))))) := by kernel_rfl

theorem ok_LDueBack : PureOK Try.prog 10 FLDueBack := by
  refine tab_plain mixed (l := tabDH) ok_tabDH false (by kernel_rfl) fun xs b r h hb wf => ?_
  unfold FLDueBack at h
  split at h
  · rename_i n a d x y
    cases h
    try rw [some_f] at hb
    try simp only [WFL, WF, List.mem_cons, List.not_mem_nil, or_false, forall_eq_or_imp, forall_eq, Col.len, and_true, true_and] at wf
    rw [vc_LDueBack]
    obtain ⟨wa, wd⟩ : a.length = n ∧ d.length = n := by simpa using wf
    obtain ⟨P, rfl, rfl, rfl⟩ := as_P wa wd
    simp only [bite_and, bite_or]
    simp only [putN_P, putA_P, putI_P, dropN_P, dropA_P, dropI_P, putE_P]
    have hle := putP_le P (x, y)
    by_cases hlen : P.length ≤ 100
    · have g1 : igt (ofN P.length) 100 = false := by rw [igt_f, ofN_e]; omega
      have q1 : nle P.length 1000000 = true := by rw [nle_t]; omega
      have q2 : nle P.length 900000 = true := by rw [nle_t]; omega
      have q3 : nle (putP P (x, y)).length 900000 = true := by rw [nle_t]; omega
      have q4 : nle (putP P (x, y)).length 1000000 = true := by rw [nle_t]; omega
      have q5 : nle P.length big = true := big_le (by omega)
      rw [g1, q1, q2, q3, q4]
      cases hok : dueOk (pa P) (pi P) with
      | false => trivial
      | true =>
        by_cases he : putE2 P (x, y) = 0
        · obtain ⟨b1, b2, b3, b4⟩ := back_drop he
          simp only at b1 b2 b3
          have hok' := (dueOk_P _).2 (okP_put he)
          have d0 : dropE (pa (putP P (x, y))) (pi (putP P (x, y))) y = 0 := by unfold dropE; rw [b1]; rfl
          have w : iadd .i64 (ofN P.length) 1 = ofN (P.length + 1) := by
            rw [iadd_e, ofN_e, ofN_e, wr (by omega) (by omega)]
            omega
          have f1 : ieq (ofN (P.length + 1)) (ofN (P.length + 1)) = true := by rw [ieq_t]
          rw [he, d0, b2, q5, duEq_self, hok', b3, b4, w, f1]
          rfl
        · have hp : putP P (x, y) = P := by unfold putP; rw [if_neg he]
          have f1 : ine (putE2 P (x, y)) 0 = true := by rw [ine_t]; exact he
          rw [f1, hp, q5, duEq_self]
          trivial
    · have g1 : igt (ofN P.length) 100 = true := by rw [igt_t, ofN_e]; omega
      rw [g1]
      trivial
  · cases h


theorem law_DueBack (a0 : List (Int × Int)) (a1 : Int × Int) (_ : True) (_ : (Lit.int .i64 a1.1).wf = true ∧ (Lit.int .i64 a1.2).wf = true) :
    ∃ b, FLDueBack [.sl a0.length [.int .i64 (a0.map fun e => e.1), .int .i64 (a0.map fun e => e.2)], .agg [.int .i64 a1.1, .int .i64 a1.2]] = some (b, .bool true) ∧ b ≠ some false := ⟨_, rfl, by simp⟩

end Go.Own
