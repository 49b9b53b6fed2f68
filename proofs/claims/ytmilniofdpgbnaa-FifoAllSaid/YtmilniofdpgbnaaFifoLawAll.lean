/- A law of queues. -/
import Derived.Test.YtmilniofdpgbnaaFifoLaw
namespace Go.Own
open Go Go.Proofs
set_option maxRecDepth 100000
set_option linter.unusedVariables false
set_option linter.unusedSimpArgs false

def u8ok (n : Int) : Bool := decide (0 ≤ n) && decide (n < 256)


theorem run_take (a b : Int) : ∀ (es : List En) (l : List Int) (c : Int) (m : Nat), m ≤ es.length →
    ((run a b l c (es.take m)).2.2 < m → run a b l c es = run a b l c (es.take m)) ∧
    (¬ (run a b l c (es.take m)).2.2 < m → (run a b l c (es.take m)).2.2 = m ∧ run a b l c es = ((run a b (run a b l c (es.take m)).1 (run a b l c (es.take m)).2.1 (es.drop m)).1, (run a b (run a b l c (es.take m)).1 (run a b l c (es.take m)).2.1 (es.drop m)).2.1, m + (run a b (run a b l c (es.take m)).1 (run a b l c (es.take m)).2.1 (es.drop m)).2.2)) := by
  intro es
  induction es with
  | nil =>
    intro l c m hm
    have : m = 0 := by simpa using hm
    subst this
    simp [run]
  | cons e es ih =>
    intro l c m hm
    cases m with
    | zero => simp [run]
    | succ m =>
      simp only [List.take_succ_cons, List.drop_succ_cons]
      simp only [List.length_cons] at hm
      cases h : mayS l a b c e.k e.v e.r e.g with
      | false =>
        rw [run_none es h, run_none (es.take m) h]
        simp
      | true =>
        rw [run_some es h, run_some (es.take m) h]
        simp only
        obtain ⟨h1, h2⟩ := ih (valS l a b c e.k e.v e.r e.g) (modeS l a b c e.k e.v e.r e.g) m (by omega)
        refine ⟨fun hlt => ?_, fun hge => ?_⟩
        · rw [h1 (by omega)]
        · obtain ⟨h3, h4⟩ := h2 (by omega)
          refine ⟨by omega, ?_⟩
          rw [h4]
          simp only [Prod.mk.injEq, true_and]
          omega

theorem run_stop (a b : Int) : ∀ (es : List En) (l : List Int) (c : Int) (e : En), es[(run a b l c es).2.2]? = some e → mayS (run a b l c es).1 a b (run a b l c es).2.1 e.k e.v e.r e.g = false := by
  intro es
  induction es with
  | nil => intro l c e h; simp at h
  | cons e0 es ih =>
    intro l c e
    cases h : mayS l a b c e0.k e0.v e0.r e0.g with
    | false =>
      rw [run_none es h]
      intro h2
      simp at h2
      subst h2
      exact h
    | true =>
      rw [run_some es h]
      intro h2
      simp at h2
      exact ih _ _ _ h2

def FLFifoAll : Pure1 := fun
  | [.agg [.sl k [.int .i64 x], .int .i64 a, .int .i64 b, .int .i64 c], .sl n [.int .i64 c0, .int .i64 ks, .int .i64 vs, .int .i64 rs, .int .i64 gs], .int .u8 cut] => some (some (u8ok cut), .bool true)
  | _ => none

theorem vc_LFifoAll (k : Nat) (x : List Int) (a b c : Int) (n : Nat) (c0 ks vs rs gs : List Int) (cut : Int) (r : AV) : VC Try.prog (tabS tabF3) noL false 7 [.agg [.sl k [.int .i64 x], .int .i64 a, .int .i64 b, .int .i64 c], .sl n [.int .i64 c0, .int .i64 ks, .int .i64 vs, .int .i64 rs, .int .i64 gs], .int .u8 cut] r = (
  br (bite (igt (ofN k) 100) true (igt (ofN n) 100)) (some (AV.bool true) = some r)
    (asrt (ine (iadd IntKind.i64 (ofN n) 1) 0)
      (asrt (runOk k n 0)
        (asrt
          (band (ile 0 (irem (icnv IntKind.i64 cut) (iadd IntKind.i64 (ofN n) 1)))
            (ile (irem (icnv IntKind.i64 cut) (iadd IntKind.i64 (ofN n) 1)) (ofN n)))
          (asrt (runOk k (nDiff (irem (icnv IntKind.i64 cut) (iadd IntKind.i64 (ofN n) 1)) 0) 0)
            (br
              (ilt
                (runC x a b c (pt ks 0 (nDiff (irem (icnv IntKind.i64 cut) (iadd IntKind.i64 (ofN n) 1)) 0))
                  (pt vs 0 (nDiff (irem (icnv IntKind.i64 cut) (iadd IntKind.i64 (ofN n) 1)) 0))
                  (pt rs 0 (nDiff (irem (icnv IntKind.i64 cut) (iadd IntKind.i64 (ofN n) 1)) 0))
                  (pt gs 0 (nDiff (irem (icnv IntKind.i64 cut) (iadd IntKind.i64 (ofN n) 1)) 0)) 0)
                (irem (icnv IntKind.i64 cut) (iadd IntKind.i64 (ofN n) 1)))
              (asrt
                (bimp
                  (ieq (runC x a b c ks vs rs gs 0)
                    (runC x a b c (pt ks 0 (nDiff (irem (icnv IntKind.i64 cut) (iadd IntKind.i64 (ofN n) 1)) 0))
                      (pt vs 0 (nDiff (irem (icnv IntKind.i64 cut) (iadd IntKind.i64 (ofN n) 1)) 0))
                      (pt rs 0 (nDiff (irem (icnv IntKind.i64 cut) (iadd IntKind.i64 (ofN n) 1)) 0))
                      (pt gs 0 (nDiff (irem (icnv IntKind.i64 cut) (iadd IntKind.i64 (ofN n) 1)) 0)) 0))
                  (nle (lenI (runV x a b c ks vs rs gs 0)) big))
                (some
                    (AV.bool
                      (bite
                        (ieq (runC x a b c ks vs rs gs 0)
                          (runC x a b c (pt ks 0 (nDiff (irem (icnv IntKind.i64 cut) (iadd IntKind.i64 (ofN n) 1)) 0))
                            (pt vs 0 (nDiff (irem (icnv IntKind.i64 cut) (iadd IntKind.i64 (ofN n) 1)) 0))
                            (pt rs 0 (nDiff (irem (icnv IntKind.i64 cut) (iadd IntKind.i64 (ofN n) 1)) 0))
                            (pt gs 0 (nDiff (irem (icnv IntKind.i64 cut) (iadd IntKind.i64 (ofN n) 1)) 0)) 0))
                        (band
                          (sameI (runV x a b c ks vs rs gs 0)
                            (runV x a b c (pt ks 0 (nDiff (irem (icnv IntKind.i64 cut) (iadd IntKind.i64 (ofN n) 1)) 0))
                              (pt vs 0 (nDiff (irem (icnv IntKind.i64 cut) (iadd IntKind.i64 (ofN n) 1)) 0))
                              (pt rs 0 (nDiff (irem (icnv IntKind.i64 cut) (iadd IntKind.i64 (ofN n) 1)) 0))
                              (pt gs 0 (nDiff (irem (icnv IntKind.i64 cut) (iadd IntKind.i64 (ofN n) 1)) 0)) 0))
                          (band (ieq a a)
                            (band (ieq b b)
                              (ieq (runM x a b c ks vs rs gs 0)
                                (runM x a b c
                                  (pt ks 0 (nDiff (irem (icnv IntKind.i64 cut) (iadd IntKind.i64 (ofN n) 1)) 0))
                                  (pt vs 0 (nDiff (irem (icnv IntKind.i64 cut) (iadd IntKind.i64 (ofN n) 1)) 0))
                                  (pt rs 0 (nDiff (irem (icnv IntKind.i64 cut) (iadd IntKind.i64 (ofN n) 1)) 0))
                                  (pt gs 0 (nDiff (irem (icnv IntKind.i64 cut) (iadd IntKind.i64 (ofN n) 1)) 0)) 0)))))
                        false)) =
                  some r))
              (asrt
                (band (ile 0 (irem (icnv IntKind.i64 cut) (iadd IntKind.i64 (ofN n) 1)))
                  (band (ile (irem (icnv IntKind.i64 cut) (iadd IntKind.i64 (ofN n) 1)) (ofN n)) (ile (ofN n) (ofN n))))
                (asrt
                  (runOk
                    (lenI
                      (runV x a b c (pt ks 0 (nDiff (irem (icnv IntKind.i64 cut) (iadd IntKind.i64 (ofN n) 1)) 0))
                        (pt vs 0 (nDiff (irem (icnv IntKind.i64 cut) (iadd IntKind.i64 (ofN n) 1)) 0))
                        (pt rs 0 (nDiff (irem (icnv IntKind.i64 cut) (iadd IntKind.i64 (ofN n) 1)) 0))
                        (pt gs 0 (nDiff (irem (icnv IntKind.i64 cut) (iadd IntKind.i64 (ofN n) 1)) 0)) 0))
                    (nDiff (ofN n) (irem (icnv IntKind.i64 cut) (iadd IntKind.i64 (ofN n) 1))) 0)
                  (br (bite (ige (runC x a b c ks vs rs gs 0) 0) (ilt (runC x a b c ks vs rs gs 0) (ofN n)) false)
                    (asrt (band (ile 0 (runC x a b c ks vs rs gs 0)) (ilt (runC x a b c ks vs rs gs 0) (ofN n)))
                      (asrt (nlt (lenI (runV x a b c ks vs rs gs 0)) 1073741824)
                        (asrt
                          (bimp
                            (ieq (runC x a b c ks vs rs gs 0)
                              (iadd IntKind.i64 (irem (icnv IntKind.i64 cut) (iadd IntKind.i64 (ofN n) 1))
                                (runC
                                  (runV x a b c
                                    (pt ks 0 (nDiff (irem (icnv IntKind.i64 cut) (iadd IntKind.i64 (ofN n) 1)) 0))
                                    (pt vs 0 (nDiff (irem (icnv IntKind.i64 cut) (iadd IntKind.i64 (ofN n) 1)) 0))
                                    (pt rs 0 (nDiff (irem (icnv IntKind.i64 cut) (iadd IntKind.i64 (ofN n) 1)) 0))
                                    (pt gs 0 (nDiff (irem (icnv IntKind.i64 cut) (iadd IntKind.i64 (ofN n) 1)) 0)) 0)
                                  a b
                                  (runM x a b c
                                    (pt ks 0 (nDiff (irem (icnv IntKind.i64 cut) (iadd IntKind.i64 (ofN n) 1)) 0))
                                    (pt vs 0 (nDiff (irem (icnv IntKind.i64 cut) (iadd IntKind.i64 (ofN n) 1)) 0))
                                    (pt rs 0 (nDiff (irem (icnv IntKind.i64 cut) (iadd IntKind.i64 (ofN n) 1)) 0))
                                    (pt gs 0 (nDiff (irem (icnv IntKind.i64 cut) (iadd IntKind.i64 (ofN n) 1)) 0)) 0)
                                  (pt ks (nOf (irem (icnv IntKind.i64 cut) (iadd IntKind.i64 (ofN n) 1)))
                                    (nDiff (ofN n) (irem (icnv IntKind.i64 cut) (iadd IntKind.i64 (ofN n) 1))))
                                  (pt vs (nOf (irem (icnv IntKind.i64 cut) (iadd IntKind.i64 (ofN n) 1)))
                                    (nDiff (ofN n) (irem (icnv IntKind.i64 cut) (iadd IntKind.i64 (ofN n) 1))))
                                  (pt rs (nOf (irem (icnv IntKind.i64 cut) (iadd IntKind.i64 (ofN n) 1)))
                                    (nDiff (ofN n) (irem (icnv IntKind.i64 cut) (iadd IntKind.i64 (ofN n) 1))))
                                  (pt gs (nOf (irem (icnv IntKind.i64 cut) (iadd IntKind.i64 (ofN n) 1)))
                                    (nDiff (ofN n) (irem (icnv IntKind.i64 cut) (iadd IntKind.i64 (ofN n) 1))))
                                  0)))
                            (nle (lenI (runV x a b c ks vs rs gs 0)) big))
                          (some
                              (AV.bool
                                (bite
                                  (bite
                                    (ieq (runC x a b c ks vs rs gs 0)
                                      (iadd IntKind.i64 (irem (icnv IntKind.i64 cut) (iadd IntKind.i64 (ofN n) 1))
                                        (runC
                                          (runV x a b c
                                            (pt ks 0
                                              (nDiff (irem (icnv IntKind.i64 cut) (iadd IntKind.i64 (ofN n) 1)) 0))
                                            (pt vs 0
                                              (nDiff (irem (icnv IntKind.i64 cut) (iadd IntKind.i64 (ofN n) 1)) 0))
                                            (pt rs 0
                                              (nDiff (irem (icnv IntKind.i64 cut) (iadd IntKind.i64 (ofN n) 1)) 0))
                                            (pt gs 0
                                              (nDiff (irem (icnv IntKind.i64 cut) (iadd IntKind.i64 (ofN n) 1)) 0))
                                            0)
                                          a b
                                          (runM x a b c
                                            (pt ks 0
                                              (nDiff (irem (icnv IntKind.i64 cut) (iadd IntKind.i64 (ofN n) 1)) 0))
                                            (pt vs 0
                                              (nDiff (irem (icnv IntKind.i64 cut) (iadd IntKind.i64 (ofN n) 1)) 0))
                                            (pt rs 0
                                              (nDiff (irem (icnv IntKind.i64 cut) (iadd IntKind.i64 (ofN n) 1)) 0))
                                            (pt gs 0
                                              (nDiff (irem (icnv IntKind.i64 cut) (iadd IntKind.i64 (ofN n) 1)) 0))
                                            0)
                                          (pt ks (nOf (irem (icnv IntKind.i64 cut) (iadd IntKind.i64 (ofN n) 1)))
                                            (nDiff (ofN n) (irem (icnv IntKind.i64 cut) (iadd IntKind.i64 (ofN n) 1))))
                                          (pt vs (nOf (irem (icnv IntKind.i64 cut) (iadd IntKind.i64 (ofN n) 1)))
                                            (nDiff (ofN n) (irem (icnv IntKind.i64 cut) (iadd IntKind.i64 (ofN n) 1))))
                                          (pt rs (nOf (irem (icnv IntKind.i64 cut) (iadd IntKind.i64 (ofN n) 1)))
                                            (nDiff (ofN n) (irem (icnv IntKind.i64 cut) (iadd IntKind.i64 (ofN n) 1))))
                                          (pt gs (nOf (irem (icnv IntKind.i64 cut) (iadd IntKind.i64 (ofN n) 1)))
                                            (nDiff (ofN n) (irem (icnv IntKind.i64 cut) (iadd IntKind.i64 (ofN n) 1))))
                                          0)))
                                    (band
                                      (sameI (runV x a b c ks vs rs gs 0)
                                        (runV
                                          (runV x a b c
                                            (pt ks 0
                                              (nDiff (irem (icnv IntKind.i64 cut) (iadd IntKind.i64 (ofN n) 1)) 0))
                                            (pt vs 0
                                              (nDiff (irem (icnv IntKind.i64 cut) (iadd IntKind.i64 (ofN n) 1)) 0))
                                            (pt rs 0
                                              (nDiff (irem (icnv IntKind.i64 cut) (iadd IntKind.i64 (ofN n) 1)) 0))
                                            (pt gs 0
                                              (nDiff (irem (icnv IntKind.i64 cut) (iadd IntKind.i64 (ofN n) 1)) 0))
                                            0)
                                          a b
                                          (runM x a b c
                                            (pt ks 0
                                              (nDiff (irem (icnv IntKind.i64 cut) (iadd IntKind.i64 (ofN n) 1)) 0))
                                            (pt vs 0
                                              (nDiff (irem (icnv IntKind.i64 cut) (iadd IntKind.i64 (ofN n) 1)) 0))
                                            (pt rs 0
                                              (nDiff (irem (icnv IntKind.i64 cut) (iadd IntKind.i64 (ofN n) 1)) 0))
                                            (pt gs 0
                                              (nDiff (irem (icnv IntKind.i64 cut) (iadd IntKind.i64 (ofN n) 1)) 0))
                                            0)
                                          (pt ks (nOf (irem (icnv IntKind.i64 cut) (iadd IntKind.i64 (ofN n) 1)))
                                            (nDiff (ofN n) (irem (icnv IntKind.i64 cut) (iadd IntKind.i64 (ofN n) 1))))
                                          (pt vs (nOf (irem (icnv IntKind.i64 cut) (iadd IntKind.i64 (ofN n) 1)))
                                            (nDiff (ofN n) (irem (icnv IntKind.i64 cut) (iadd IntKind.i64 (ofN n) 1))))
                                          (pt rs (nOf (irem (icnv IntKind.i64 cut) (iadd IntKind.i64 (ofN n) 1)))
                                            (nDiff (ofN n) (irem (icnv IntKind.i64 cut) (iadd IntKind.i64 (ofN n) 1))))
                                          (pt gs (nOf (irem (icnv IntKind.i64 cut) (iadd IntKind.i64 (ofN n) 1)))
                                            (nDiff (ofN n) (irem (icnv IntKind.i64 cut) (iadd IntKind.i64 (ofN n) 1))))
                                          0))
                                      (band (ieq a a)
                                        (band (ieq b b)
                                          (ieq (runM x a b c ks vs rs gs 0)
                                            (runM
                                              (runV x a b c
                                                (pt ks 0
                                                  (nDiff (irem (icnv IntKind.i64 cut) (iadd IntKind.i64 (ofN n) 1)) 0))
                                                (pt vs 0
                                                  (nDiff (irem (icnv IntKind.i64 cut) (iadd IntKind.i64 (ofN n) 1)) 0))
                                                (pt rs 0
                                                  (nDiff (irem (icnv IntKind.i64 cut) (iadd IntKind.i64 (ofN n) 1)) 0))
                                                (pt gs 0
                                                  (nDiff (irem (icnv IntKind.i64 cut) (iadd IntKind.i64 (ofN n) 1)) 0))
                                                0)
                                              a b
                                              (runM x a b c
                                                (pt ks 0
                                                  (nDiff (irem (icnv IntKind.i64 cut) (iadd IntKind.i64 (ofN n) 1)) 0))
                                                (pt vs 0
                                                  (nDiff (irem (icnv IntKind.i64 cut) (iadd IntKind.i64 (ofN n) 1)) 0))
                                                (pt rs 0
                                                  (nDiff (irem (icnv IntKind.i64 cut) (iadd IntKind.i64 (ofN n) 1)) 0))
                                                (pt gs 0
                                                  (nDiff (irem (icnv IntKind.i64 cut) (iadd IntKind.i64 (ofN n) 1)) 0))
                                                0)
                                              (pt ks (nOf (irem (icnv IntKind.i64 cut) (iadd IntKind.i64 (ofN n) 1)))
                                                (nDiff (ofN n)
                                                  (irem (icnv IntKind.i64 cut) (iadd IntKind.i64 (ofN n) 1))))
                                              (pt vs (nOf (irem (icnv IntKind.i64 cut) (iadd IntKind.i64 (ofN n) 1)))
                                                (nDiff (ofN n)
                                                  (irem (icnv IntKind.i64 cut) (iadd IntKind.i64 (ofN n) 1))))
                                              (pt rs (nOf (irem (icnv IntKind.i64 cut) (iadd IntKind.i64 (ofN n) 1)))
                                                (nDiff (ofN n)
                                                  (irem (icnv IntKind.i64 cut) (iadd IntKind.i64 (ofN n) 1))))
                                              (pt gs (nOf (irem (icnv IntKind.i64 cut) (iadd IntKind.i64 (ofN n) 1)))
                                                (nDiff (ofN n)
                                                  (irem (icnv IntKind.i64 cut) (iadd IntKind.i64 (ofN n) 1))))
                                              0)))))
                                    false)
                                  (bnot
                                    (mayS (runV x a b c ks vs rs gs 0) a b (runM x a b c ks vs rs gs 0)
                                      (gI ks (nOf (runC x a b c ks vs rs gs 0)))
                                      (gI vs (nOf (runC x a b c ks vs rs gs 0)))
                                      (gI rs (nOf (runC x a b c ks vs rs gs 0)))
                                      (gI gs (nOf (runC x a b c ks vs rs gs 0)))))
                                  false)) =
                            some r))))
                    (asrt
                      (bimp
                        (ieq (runC x a b c ks vs rs gs 0)
                          (iadd IntKind.i64 (irem (icnv IntKind.i64 cut) (iadd IntKind.i64 (ofN n) 1))
                            (runC
                              (runV x a b c
                                (pt ks 0 (nDiff (irem (icnv IntKind.i64 cut) (iadd IntKind.i64 (ofN n) 1)) 0))
                                (pt vs 0 (nDiff (irem (icnv IntKind.i64 cut) (iadd IntKind.i64 (ofN n) 1)) 0))
                                (pt rs 0 (nDiff (irem (icnv IntKind.i64 cut) (iadd IntKind.i64 (ofN n) 1)) 0))
                                (pt gs 0 (nDiff (irem (icnv IntKind.i64 cut) (iadd IntKind.i64 (ofN n) 1)) 0)) 0)
                              a b
                              (runM x a b c
                                (pt ks 0 (nDiff (irem (icnv IntKind.i64 cut) (iadd IntKind.i64 (ofN n) 1)) 0))
                                (pt vs 0 (nDiff (irem (icnv IntKind.i64 cut) (iadd IntKind.i64 (ofN n) 1)) 0))
                                (pt rs 0 (nDiff (irem (icnv IntKind.i64 cut) (iadd IntKind.i64 (ofN n) 1)) 0))
                                (pt gs 0 (nDiff (irem (icnv IntKind.i64 cut) (iadd IntKind.i64 (ofN n) 1)) 0)) 0)
                              (pt ks (nOf (irem (icnv IntKind.i64 cut) (iadd IntKind.i64 (ofN n) 1)))
                                (nDiff (ofN n) (irem (icnv IntKind.i64 cut) (iadd IntKind.i64 (ofN n) 1))))
                              (pt vs (nOf (irem (icnv IntKind.i64 cut) (iadd IntKind.i64 (ofN n) 1)))
                                (nDiff (ofN n) (irem (icnv IntKind.i64 cut) (iadd IntKind.i64 (ofN n) 1))))
                              (pt rs (nOf (irem (icnv IntKind.i64 cut) (iadd IntKind.i64 (ofN n) 1)))
                                (nDiff (ofN n) (irem (icnv IntKind.i64 cut) (iadd IntKind.i64 (ofN n) 1))))
                              (pt gs (nOf (irem (icnv IntKind.i64 cut) (iadd IntKind.i64 (ofN n) 1)))
                                (nDiff (ofN n) (irem (icnv IntKind.i64 cut) (iadd IntKind.i64 (ofN n) 1))))
                              0)))
                        (nle (lenI (runV x a b c ks vs rs gs 0)) big))
                      (some
                          (AV.bool
                            (bite
                              (bite
                                (ieq (runC x a b c ks vs rs gs 0)
                                  (iadd IntKind.i64 (irem (icnv IntKind.i64 cut) (iadd IntKind.i64 (ofN n) 1))
                                    (runC
                                      (runV x a b c
                                        (pt ks 0 (nDiff (irem (icnv IntKind.i64 cut) (iadd IntKind.i64 (ofN n) 1)) 0))
                                        (pt vs 0 (nDiff (irem (icnv IntKind.i64 cut) (iadd IntKind.i64 (ofN n) 1)) 0))
                                        (pt rs 0 (nDiff (irem (icnv IntKind.i64 cut) (iadd IntKind.i64 (ofN n) 1)) 0))
                                        (pt gs 0 (nDiff (irem (icnv IntKind.i64 cut) (iadd IntKind.i64 (ofN n) 1)) 0))
                                        0)
                                      a b
                                      (runM x a b c
                                        (pt ks 0 (nDiff (irem (icnv IntKind.i64 cut) (iadd IntKind.i64 (ofN n) 1)) 0))
                                        (pt vs 0 (nDiff (irem (icnv IntKind.i64 cut) (iadd IntKind.i64 (ofN n) 1)) 0))
                                        (pt rs 0 (nDiff (irem (icnv IntKind.i64 cut) (iadd IntKind.i64 (ofN n) 1)) 0))
                                        (pt gs 0 (nDiff (irem (icnv IntKind.i64 cut) (iadd IntKind.i64 (ofN n) 1)) 0))
                                        0)
                                      (pt ks (nOf (irem (icnv IntKind.i64 cut) (iadd IntKind.i64 (ofN n) 1)))
                                        (nDiff (ofN n) (irem (icnv IntKind.i64 cut) (iadd IntKind.i64 (ofN n) 1))))
                                      (pt vs (nOf (irem (icnv IntKind.i64 cut) (iadd IntKind.i64 (ofN n) 1)))
                                        (nDiff (ofN n) (irem (icnv IntKind.i64 cut) (iadd IntKind.i64 (ofN n) 1))))
                                      (pt rs (nOf (irem (icnv IntKind.i64 cut) (iadd IntKind.i64 (ofN n) 1)))
                                        (nDiff (ofN n) (irem (icnv IntKind.i64 cut) (iadd IntKind.i64 (ofN n) 1))))
                                      (pt gs (nOf (irem (icnv IntKind.i64 cut) (iadd IntKind.i64 (ofN n) 1)))
                                        (nDiff (ofN n) (irem (icnv IntKind.i64 cut) (iadd IntKind.i64 (ofN n) 1))))
                                      0)))
                                (band
                                  (sameI (runV x a b c ks vs rs gs 0)
                                    (runV
                                      (runV x a b c
                                        (pt ks 0 (nDiff (irem (icnv IntKind.i64 cut) (iadd IntKind.i64 (ofN n) 1)) 0))
                                        (pt vs 0 (nDiff (irem (icnv IntKind.i64 cut) (iadd IntKind.i64 (ofN n) 1)) 0))
                                        (pt rs 0 (nDiff (irem (icnv IntKind.i64 cut) (iadd IntKind.i64 (ofN n) 1)) 0))
                                        (pt gs 0 (nDiff (irem (icnv IntKind.i64 cut) (iadd IntKind.i64 (ofN n) 1)) 0))
                                        0)
                                      a b
                                      (runM x a b c
                                        (pt ks 0 (nDiff (irem (icnv IntKind.i64 cut) (iadd IntKind.i64 (ofN n) 1)) 0))
                                        (pt vs 0 (nDiff (irem (icnv IntKind.i64 cut) (iadd IntKind.i64 (ofN n) 1)) 0))
                                        (pt rs 0 (nDiff (irem (icnv IntKind.i64 cut) (iadd IntKind.i64 (ofN n) 1)) 0))
                                        (pt gs 0 (nDiff (irem (icnv IntKind.i64 cut) (iadd IntKind.i64 (ofN n) 1)) 0))
                                        0)
                                      (pt ks (nOf (irem (icnv IntKind.i64 cut) (iadd IntKind.i64 (ofN n) 1)))
                                        (nDiff (ofN n) (irem (icnv IntKind.i64 cut) (iadd IntKind.i64 (ofN n) 1))))
                                      (pt vs (nOf (irem (icnv IntKind.i64 cut) (iadd IntKind.i64 (ofN n) 1)))
                                        (nDiff (ofN n) (irem (icnv IntKind.i64 cut) (iadd IntKind.i64 (ofN n) 1))))
                                      (pt rs (nOf (irem (icnv IntKind.i64 cut) (iadd IntKind.i64 (ofN n) 1)))
                                        (nDiff (ofN n) (irem (icnv IntKind.i64 cut) (iadd IntKind.i64 (ofN n) 1))))
                                      (pt gs (nOf (irem (icnv IntKind.i64 cut) (iadd IntKind.i64 (ofN n) 1)))
                                        (nDiff (ofN n) (irem (icnv IntKind.i64 cut) (iadd IntKind.i64 (ofN n) 1))))
                                      0))
                                  (band (ieq a a)
                                    (band (ieq b b)
                                      (ieq (runM x a b c ks vs rs gs 0)
                                        (runM
                                          (runV x a b c
                                            (pt ks 0
                                              (nDiff (irem (icnv IntKind.i64 cut) (iadd IntKind.i64 (ofN n) 1)) 0))
                                            (pt vs 0
                                              (nDiff (irem (icnv IntKind.i64 cut) (iadd IntKind.i64 (ofN n) 1)) 0))
                                            (pt rs 0
                                              (nDiff (irem (icnv IntKind.i64 cut) (iadd IntKind.i64 (ofN n) 1)) 0))
                                            (pt gs 0
                                              (nDiff (irem (icnv IntKind.i64 cut) (iadd IntKind.i64 (ofN n) 1)) 0))
                                            0)
                                          a b
                                          (runM x a b c
                                            (pt ks 0
                                              (nDiff (irem (icnv IntKind.i64 cut) (iadd IntKind.i64 (ofN n) 1)) 0))
                                            (pt vs 0
                                              (nDiff (irem (icnv IntKind.i64 cut) (iadd IntKind.i64 (ofN n) 1)) 0))
                                            (pt rs 0
                                              (nDiff (irem (icnv IntKind.i64 cut) (iadd IntKind.i64 (ofN n) 1)) 0))
                                            (pt gs 0
                                              (nDiff (irem (icnv IntKind.i64 cut) (iadd IntKind.i64 (ofN n) 1)) 0))
                                            0)
                                          (pt ks (nOf (irem (icnv IntKind.i64 cut) (iadd IntKind.i64 (ofN n) 1)))
                                            (nDiff (ofN n) (irem (icnv IntKind.i64 cut) (iadd IntKind.i64 (ofN n) 1))))
                                          (pt vs (nOf (irem (icnv IntKind.i64 cut) (iadd IntKind.i64 (ofN n) 1)))
                                            (nDiff (ofN n) (irem (icnv IntKind.i64 cut) (iadd IntKind.i64 (ofN n) 1))))
                                          (pt rs (nOf (irem (icnv IntKind.i64 cut) (iadd IntKind.i64 (ofN n) 1)))
                                            (nDiff (ofN n) (irem (icnv IntKind.i64 cut) (iadd IntKind.i64 (ofN n) 1))))
                                          (pt gs (nOf (irem (icnv IntKind.i64 cut) (iadd IntKind.i64 (ofN n) 1)))
                                            (nDiff (ofN n) (irem (icnv IntKind.i64 cut) (iadd IntKind.i64 (ofN n) 1))))
                                          0)))))
                                false)
                              (ieq (runC x a b c ks vs rs gs 0) (ofN n)) false)) =
                        some r))))))))))) := by kernel_rfl

theorem ok_LFifoAll : PureOK Try.prog 7 FLFifoAll := by
  refine tab_plain mixed (l := tabF3) ok_tabF3 false (by kernel_rfl) fun xs b r h hb wf => ?_
  unfold FLFifoAll at h
  split at h
  · rename_i k x a b c n c0 ks vs rs gs cut
    cases h
    try rw [some_f] at hb
    try simp only [WFL, WF, List.mem_cons, List.not_mem_nil, or_false, forall_eq, Col.len, and_true, true_and] at wf
    rw [vc_LFifoAll]
    have hr : room = 1073741824 := rfl
    simp only [bite_and, bite_or]
    obtain ⟨w1, w2, w3, w4, w5⟩ : c0.length = n ∧ ks.length = n ∧ vs.length = n ∧ rs.length = n ∧ gs.length = n := by simp [WFL, WF, Col.len] at wf; exact wf.2
    have hx : x.length = k := by simp [WFL, WF, Col.len] at wf; exact wf.1
    simp [u8ok] at hb
    rw [br_iff]
    refine ⟨fun _ => trivial, fun hg => ?_⟩
    simp only [Bool.or_eq_false_iff, igt_f, ofN_e] at hg
    obtain ⟨g1, g2⟩ := hg
    have hn1 : iadd .i64 (ofN n) 1 = ofN (n + 1) := iadd1 (by omega)
    obtain ⟨M, hM, hMn⟩ : ∃ M : Nat, irem (icnv .i64 cut) (ofN (n + 1)) = ofN M ∧ M ≤ n := by
      refine ⟨(cut.toNat % (n + 1)), ?_, by have := Nat.mod_lt cut.toNat (show n + 1 > 0 by omega); omega⟩
      have : icnv .i64 cut = cut := by unfold icnv; exact wr (by omega) (by omega)
      rw [this]
      obtain ⟨q, rfl⟩ := Int.eq_ofNat_of_zero_le hb.1
      simp only [irem, ofN, Int.ofNat_eq_natCast, Int.toNat_natCast]
      rw [Int.tmod_eq_emod_of_nonneg (by omega)]
      omega
    have d1 : nDiff (ofN M) 0 = M := by simp [nDiff, ofN]
    have d2 : nDiff (ofN n) (ofN M) = n - M := by simp only [nDiff, ofN]; omega
    have p1 : ∀ l : List Int, pt l 0 M = l.take M := fun l => by simp [pt]
    have p2 : ∀ l : List Int, l.length = n → pt l M (n - M) = l.drop M := fun l hl => by unfold pt; rw [List.take_of_length_le (by simp; omega)]
    simp only [hn1, hM, d1, d2, nOf_ofN, p1, p2 ks w2, p2 vs w3, p2 rs w4, p2 gs w5]
    have hE := ens_len ks vs rs gs (by omega) (by omega) (by omega)
    have hT := ens_take M ks vs rs gs
    have hD := ens_tail M ks vs rs gs (by omega) (by omega) (by omega)
    have l1 := run_le a b (ens ks vs rs gs) x c
    have l2 := run_le a b ((ens ks vs rs gs).take M) x c
    have t1 := run_take a b (ens ks vs rs gs) x c M (by omega)
    have st := run_stop a b (ens ks vs rs gs) x c
    have rv : ∀ (y : List Int) (d : Int) (q1 q2 q3 q4 : List Int), runV y a b d q1 q2 q3 q4 0 = (run a b y d (ens q1 q2 q3 q4)).1 ∧ runM y a b d q1 q2 q3 q4 0 = (run a b y d (ens q1 q2 q3 q4)).2.1 ∧ runC y a b d q1 q2 q3 q4 0 = ((run a b y d (ens q1 q2 q3 q4)).2.2 : Int) := by
      intro y d q1 q2 q3 q4
      simp [runV, runM, runC]
    simp only [(rv _ _ _ _ _ _).1, (rv _ _ _ _ _ _).2.1, (rv _ _ _ _ _ _).2.2, hT, hD]
    have get := fun (h : (run a b x c (ens ks vs rs gs)).2.2 < n) => ens_get ks vs rs gs (run a b x c (ens ks vs rs gs)).2.2 (by omega) (by omega) (by omega) (by omega)
    have l3 := run_le a b ((ens ks vs rs gs).drop M) (run a b x c ((ens ks vs rs gs).take M)).1 (run a b x c ((ens ks vs rs gs).take M)).2.1
    simp only [List.length_take, List.length_drop, hE, hx] at l1 l2 l3
    generalize run a b x c (ens ks vs rs gs) = R at *
    generalize run a b x c ((ens ks vs rs gs).take M) = Pf at *
    generalize run a b Pf.1 Pf.2.1 ((ens ks vs rs gs).drop M) = Sf at *
    have si : ∀ y : List Int, sameI y y = true := fun y => by simp [sameI]
    have m1 : R.2.2 < n → mayS R.1 a b R.2.1 (gI ks R.2.2) (gI vs R.2.2) (gI rs R.2.2) (gI gs R.2.2) = false := by
      intro h
      have := st _ (get h)
      simpa [gI] using this
    have bR : R.1.length ≤ big := le_big (by omega)
    have bR2 : R.1.length < 1073741824 := by omega
    have o1 : runOk k n 0 = true := by simp [runOk]; omega
    have o2 : runOk k M 0 = true := by simp [runOk]; omega
    have o3 : runOk Pf.1.length (n - M) 0 = true := by simp [runOk]; omega
    by_cases hlt : Pf.2.2 < M
    · have e := t1.1 hlt
      subst e
      have hlt' : ((R.2.2 : Nat) : Int) < (M : Int) := by omega
      simp [asrt_iff, br_iff, ieq_t, ieq_f, ine_t, ine_f, ilt_t, ilt_f, ile_t, ile_f, igt_t, igt_f, ige_t, ige_f, nlt_t, nlt_f, nle_t, nle_f, neq_t, neq_f, beq2_t, beq2_f, bnot_t, bnot_f, band_t, band_f, bite_t, bite_f, bimp_t, bimp_f, iadd_e, isub_e, imul_e, ofN_e, nOf_e, nAdd_e, nDiff_e, room_e, lenI_e, gI_e, gB_e, imin_e, imax_e, cat_e, pt_e, put_e, some_f, o1, o2, si, bR, hlt', ieq]
      omega
    · obtain ⟨e1, e2⟩ := t1.2 hlt
      have hge : ¬ ((Pf.2.2 : Nat) : Int) < (M : Int) := by omega
      have r1 : R.1 = Sf.1 := by rw [e2]
      have r2 : R.2.1 = Sf.2.1 := by rw [e2]
      have r3 : R.2.2 = M + Sf.2.2 := by rw [e2]
      have wS : IntKind.i64.wrap ((M : Int) + (Sf.2.2 : Int)) = (M : Int) + (Sf.2.2 : Int) := wr (by omega) (by omega)
      have r3' : ((R.2.2 : Nat) : Int) = (M : Int) + (Sf.2.2 : Int) := by omega
      by_cases hR : R.2.2 < n
      · have hR' : ((R.2.2 : Nat) : Int) < (n : Int) := by omega
        have mm := m1 hR
        have hq : ¬ ((R.2.2 : Nat) : Int) = (n : Int) := by omega
        simp only [gI_e] at mm
        rw [← r1, ← r2]
        have wR : IntKind.i64.wrap ((R.2.2 : Nat) : Int) = ((R.2.2 : Nat) : Int) := wr (by omega) (by omega)
        simp [asrt_iff, br_iff, ieq_t, ieq_f, ine_t, ine_f, ilt_t, ilt_f, ile_t, ile_f, igt_t, igt_f, ige_t, ige_f, nlt_t, nlt_f, nle_t, nle_f, neq_t, neq_f, beq2_t, beq2_f, bnot_t, bnot_f, band_t, band_f, bite_t, bite_f, bimp_t, bimp_f, iadd_e, isub_e, imul_e, ofN_e, nOf_e, nAdd_e, nDiff_e, room_e, lenI_e, gI_e, gB_e, imin_e, imax_e, cat_e, pt_e, put_e, some_f, o1, o2, o3, si, bR, bR2, hge, hR', wS, ← r3', mm, hq]
        exact ⟨by omega, hMn, fun _ => ⟨hMn, wR.symm, hR⟩⟩
      · have hR' : ¬ ((R.2.2 : Nat) : Int) < (n : Int) := by omega
        have hq : ((R.2.2 : Nat) : Int) = (n : Int) := by omega
        rw [← r1, ← r2]
        have wR : IntKind.i64.wrap (n : Int) = (n : Int) := wr (by omega) (by omega)
        simp [asrt_iff, br_iff, ieq_t, ieq_f, ine_t, ine_f, ilt_t, ilt_f, ile_t, ile_f, igt_t, igt_f, ige_t, ige_f, nlt_t, nlt_f, nle_t, nle_f, neq_t, neq_f, beq2_t, beq2_f, bnot_t, bnot_f, band_t, band_f, bite_t, bite_f, bimp_t, bimp_f, iadd_e, isub_e, imul_e, ofN_e, nOf_e, nAdd_e, nDiff_e, room_e, lenI_e, gI_e, gB_e, imin_e, imax_e, cat_e, pt_e, put_e, some_f, o1, o2, o3, si, bR, bR2, hge, hR', wS, ← r3', hq]
        exact ⟨by omega, hMn, fun _ => ⟨hMn, wR.symm⟩⟩
  · cases h


theorem law_FifoAll (a0 : Qu) (a1 : List Ent) (a2 : Int) (_ : (a0.1.length ≤ maxLen ∧ ∀ x ∈ a0.1, (Lit.int .i64 x).wf = true) ∧ (Lit.int .i64 a0.2.1).wf = true ∧ (Lit.int .i64 a0.2.2.1).wf = true ∧ (Lit.int .i64 a0.2.2.2).wf = true) (_ : a1.length ≤ maxLen) (h2 : (Lit.int .u8 a2).wf = true) :
    ∃ b, FLFifoAll [.agg [.sl a0.1.length [.int .i64 a0.1], .int .i64 a0.2.1, .int .i64 a0.2.2.1, .int .i64 a0.2.2.2], .sl a1.length [.int .i64 (a1.map (·.1)), .int .i64 (a1.map (·.2.1)), .int .i64 (a1.map (·.2.2.1)), .int .i64 (a1.map (·.2.2.2.1)), .int .i64 (a1.map (·.2.2.2.2))], .int .u8 a2] = some (b, .bool true) ∧ b ≠ some false := by
  refine ⟨_, rfl, ?_⟩
  have : 0 ≤ a2 ∧ a2 < 256 := by
    simp [Lit.wf, IntKind.min, IntKind.max, IntKind.signed, IntKind.bits] at h2
    omega
  simp [u8ok, this]


end Go.Own
