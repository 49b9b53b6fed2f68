/- A law of queues. -/
import Derived.Test.YtmilniofdpgbnaaFifoLaw
namespace Go.Own
open Go Go.Proofs
set_option maxRecDepth 100000
set_option linter.unusedVariables false
set_option linter.unusedSimpArgs false

def insE (es : List En) : List Int := es.filterMap fun e => if sendsB e.k && e.r == 1 then some e.v else none

def outsE (es : List En) : List Int := es.filterMap fun e => if (recvsB e.k || e.k == 9) && e.r == 1 then some e.g else none

def insF (ks vs rs gs : List Int) (i N : Int) : List Int := insE (((ens ks vs rs gs).drop i.toNat).take (N - i).toNat)

def outsF (ks vs rs gs : List Int) (i N : Int) : List Int := outsE (((ens ks vs rs gs).drop i.toNat).take (N - i).toNat)

def ordOk (n : Nat) (N i : Int) (p q : Nat) : Bool := decide (0 ≤ i) && decide (i ≤ N) && decide (N ≤ n) && decide (n ≤ 100) && decide ((p : Int) ≤ 1000 + i) && decide ((q : Int) ≤ 1000 + i)


theorem br_t {X Y : Prop} : br true X Y = X := rfl

theorem br_f {X Y : Prop} : br false X Y = Y := rfl

theorem insE_cons (e : En) (es : List En) : insE (e :: es) = (if sendsB e.k && ieq e.r 1 then [e.v] else []) ++ insE es := by
  have : (e.r == 1) = ieq e.r 1 := rfl
  unfold insE
  rw [List.filterMap_cons, this]
  cases sendsB e.k && ieq e.r 1 <;> simp

theorem outsE_cons (e : En) (es : List En) : outsE (e :: es) = (if (recvsB e.k || ieq e.k 9) && ieq e.r 1 then [e.g] else []) ++ outsE es := by
  have h1 : (e.r == 1) = ieq e.r 1 := rfl
  have h2 : (e.k == 9) = ieq e.k 9 := rfl
  unfold outsE
  rw [List.filterMap_cons, h1, h2]
  cases (recvsB e.k || ieq e.k 9) && ieq e.r 1 <;> simp

theorem ord_step {ks vs rs gs : List Int} {i N : Int} (h1 : vs.length = ks.length) (h2 : rs.length = ks.length) (h3 : gs.length = ks.length) (h0 : 0 ≤ i) (hN : i < N) (hn : N ≤ ks.length) :
    insF ks vs rs gs i N = (if sendsB (gI ks (nOf i)) && ieq (gI rs (nOf i)) 1 then [gI vs (nOf i)] else []) ++ insF ks vs rs gs (i + 1) N ∧
    outsF ks vs rs gs i N = (if (recvsB (gI ks (nOf i)) || ieq (gI ks (nOf i)) 9) && ieq (gI rs (nOf i)) 1 then [gI gs (nOf i)] else []) ++ outsF ks vs rs gs (i + 1) N := by
  obtain ⟨j, rfl⟩ := Int.eq_ofNat_of_zero_le h0
  have hd := ens_drop ks vs rs gs j h1 h2 h3 (by omega)
  have e1 : (j : Int).toNat = j := by omega
  have e2 : ((j : Int) + 1).toNat = j + 1 := by omega
  have e3 : (N - (j : Int)).toNat = (N - ((j : Int) + 1)).toNat + 1 := by omega
  unfold insF outsF
  rw [e1, e2, e3, hd, List.take_succ_cons, insE_cons, outsE_cons]
  simp only [gI_e, nOf_e, e1]
  exact ⟨trivial, trivial⟩

theorem ord_end {ks vs rs gs : List Int} {i N : Int} (h : ¬ i < N) : insF ks vs rs gs i N = [] ∧ outsF ks vs rs gs i N = [] := by
  have e3 : (N - i).toNat = 0 := by omega
  unfold insF outsF
  rw [e3]
  simp [insE, outsE]

theorem val_bal {l : List Int} {a b c e1 e2 e3 e4 : Int} (hm : mayS l a b c e1 e2 e3 e4 = true) :
    (if (recvsB e1 || ieq e1 9) && ieq e3 1 then [e4] else []) ++ valS l a b c e1 e2 e3 e4 = l ++ (if sendsB e1 && ieq e3 1 then [e2] else []) ∧ (c ≤ 2 → c ≤ modeS l a b c e1 e2 e3 e4) := by
  have hd : ∀ {x : Int}, l.head? = some x → x :: l.tail = l := by
    intro x h
    cases l with
    | nil => simp at h
    | cons y l => simp at h; simp [h]
  by_cases c9 : e1 = 9
  · subst c9
    have h := hm
    simp [mayS, evictB] at h
    obtain ⟨q1, rfl, q3⟩ := h
    simp [valS, modeS, hm, evictV, q1, recvsB, sendsB, ieq, hd q1]
  by_cases c7 : e1 = 7
  · subst c7
    simp [valS, modeS, hm, recvsB, sendsB, ieq, drainM]
    split <;> omega
  by_cases c8 : e1 = 8
  · subst c8
    simp [valS, modeS, hm, recvsB, sendsB, ieq]
  by_cases cs : 1 ≤ e1 ∧ e1 ≤ 3
  · have cr : ¬ (4 ≤ e1 ∧ e1 ≤ 6) := by omega
    by_cases h3 : e3 = 1
    · subst h3
      simp [valS, modeS, hm, c9, c7, c8, cs, cr, sendV, recvsB, sendsB, ieq]
    · simp [valS, modeS, hm, c9, c7, c8, cs, cr, sendV, h3, recvsB, sendsB, ieq]
  by_cases cr : 4 ≤ e1 ∧ e1 ≤ 6
  · by_cases h3 : e3 = 1
    · have h := hm
      subst h3
      simp [mayS, c9, c7, c8, cs, cr, recvB] at h
      obtain ⟨q1, q2⟩ := h
      simp [valS, modeS, hm, c9, c7, c8, cs, cr, recvV, recvsB, sendsB, ieq, q1, hd q1]
    · simp [valS, modeS, hm, c9, c7, c8, cs, cr, recvV, h3, recvsB, sendsB, ieq]
  · exfalso
    simp [mayS, c9, c7, c8, cs, cr] at hm

theorem run_bal (a b : Int) : ∀ (es : List En) (l : List Int) (c : Int), outsE (es.take (run a b l c es).2.2) ++ (run a b l c es).1 = l ++ insE (es.take (run a b l c es).2.2) ∧ (c ≤ 2 → c ≤ (run a b l c es).2.1) := by
  intro es
  induction es with
  | nil => intro l c; simp [run, insE, outsE]
  | cons e es ih =>
    intro l c
    cases h : mayS l a b c e.k e.v e.r e.g with
    | false => rw [run_none es h]; simp [insE, outsE]
    | true =>
      rw [run_some es h]
      obtain ⟨i1, i2⟩ := ih (valS l a b c e.k e.v e.r e.g) (modeS l a b c e.k e.v e.r e.g)
      obtain ⟨v1, v2⟩ := val_bal h
      simp only [List.take_succ_cons, insE_cons, outsE_cons]
      refine ⟨?_, fun hc => ?_⟩
      · rw [List.append_assoc, i1, ← List.append_assoc, v1, List.append_assoc]
      · have h2 := v2 hc
        have hm2 : modeS l a b c e.k e.v e.r e.g ≤ 2 := by
          unfold modeS drainM
          repeat' split
          all_goals omega
        have := i2 hm2
        omega

theorem outs_le (es : List En) : (outsE es).length ≤ es.length ∧ (insE es).length ≤ es.length := ⟨List.length_filterMap_le _ _, List.length_filterMap_le _ _⟩

def spec_qord : LoopSpec := { n := 132, keep := [1, 2, 5, 6, 7, 8, 9, 10], srcs := [.tmp 2, .tmp 6, .tmp 8, .tmp 9], keepE := [2, 5, 6, 8, 9], srcsE := [.tmp 2, .tmp 6, .tmp 8, .tmp 9], goes := fun vals objs Q => match vals, objs with
  | [.sl n [.int .i64 c0, .int .i64 ks, .int .i64 vs, .int .i64 rs, .int .i64 gs], .ptr 0 0 0, .bool up, .ptr 1 0 0, .int .i64 N, .full 2, .full 3, .int .i64 i], [some (.var [.sl k [.int .i64 x], .int .i64 a, .int .i64 b, .int .i64 c]), some (.var [.sl xk [.int .i64 xl], .int .i64 xa, .int .i64 xb, .int .i64 xc]), some (.row 3 p [.int .i64 inn]), some (.row 3 q [.int .i64 out])] => asrt (ordOk n N i p q) (Q (.exit 0) [.ptr 0 0 0, .bool up, .ptr 1 0 0, .full 2, .full 3] [some (.var [.sl k [.int .i64 x], .int .i64 a, .int .i64 b, .int .i64 c]), some (.var [.sl xk [.int .i64 xl], .int .i64 xa, .int .i64 xb, .int .i64 xc]), some (.row 3 (lenI (cat inn (insF ks vs rs gs i N))) [.int .i64 (cat inn (insF ks vs rs gs i N))]), some (.row 3 (lenI (cat out (outsF ks vs rs gs i N))) [.int .i64 (cat out (outsF ks vs rs gs i N))])])
  | _, _ => False }

theorem lp_qord (n : Nat) (c0 ks vs rs gs : List Int) (up : Bool) (N i : Int) (k : Nat) (x : List Int) (a b c : Int) (xk : Nat) (xl : List Int) (xa xb xc : Int) (p : Nat) (inn : List Int) (q : Nat) (out : List Int) (mu : List AV → Heap → Nat) (Q : Ex → List AV → Heap → Prop) : runCode Try.prog (tabS tabF3) (callN Try.prog (tabS tabF3) noL 11) (fun _ => none) (bodyOf Try.prog 4 0) 0 ⟨mkT (spec_qord).keep [.sl n [.int .i64 c0, .int .i64 ks, .int .i64 vs, .int .i64 rs, .int .i64 gs], .ptr 0 0 0, .bool up, .ptr 1 0 0, .int .i64 N, .full 2, .full 3, .int .i64 i] (spec_qord).n 0, [some (.var [.sl k [.int .i64 x], .int .i64 a, .int .i64 b, .int .i64 c]), some (.var [.sl xk [.int .i64 xl], .int .i64 xa, .int .i64 xb, .int .i64 xc]), some (.row 3 p [.int .i64 inn]), some (.row 3 q [.int .i64 out])]⟩ ((spec_qord).ends mu [.sl n [.int .i64 c0, .int .i64 ks, .int .i64 vs, .int .i64 rs, .int .i64 gs], .ptr 0 0 0, .bool up, .ptr 1 0 0, .int .i64 N, .full 2, .full 3, .int .i64 i] [some (.var [.sl k [.int .i64 x], .int .i64 a, .int .i64 b, .int .i64 c]), some (.var [.sl xk [.int .i64 xl], .int .i64 xa, .int .i64 xb, .int .i64 xc]), some (.row 3 p [.int .i64 inn]), some (.row 3 q [.int .i64 out])] Q) = (
  br (ilt i N)
    (asrt (band (ile 0 i) (ilt i (ofN n)))
      (asrt (bimp (sendsB (gI ks (nOf i))) (band (ile 0 i) (ilt i (ofN n))))
        (br (bite (sendsB (gI ks (nOf i))) (ieq (gI rs (nOf i)) 1) false)
          (asrt (band (ile 0 i) (ilt i (ofN n)))
            (asrt (nle (nAdd p 1) 1073741824)
              (asrt (band (ile 0 i) (ilt i (ofN n)))
                (asrt (bimp (bnot (recvsB (gI ks (nOf i)))) (band (ile 0 i) (ilt i (ofN n))))
                  (asrt
                    (bimp (bite (recvsB (gI ks (nOf i))) true (ieq (gI ks (nOf i)) 9)) (band (ile 0 i) (ilt i (ofN n))))
                    (br
                      (bite (bite (recvsB (gI ks (nOf i))) true (ieq (gI ks (nOf i)) 9)) (ieq (gI rs (nOf i)) 1) false)
                      (asrt (band (ile 0 i) (ilt i (ofN n)))
                        (asrt (nle (nAdd q 1) 1073741824)
                          ((mu
                                    [AV.sl n
                                        [Col.int IntKind.i64 c0, Col.int IntKind.i64 ks, Col.int IntKind.i64 vs,
                                          Col.int IntKind.i64 rs, Col.int IntKind.i64 gs],
                                      AV.ptr 0 0 0, AV.bool up, AV.ptr 1 0 0, AV.int IntKind.i64 N, AV.full 2,
                                      AV.full 3, AV.int IntKind.i64 (iadd IntKind.i64 i 1)]
                                    [some
                                        (AObj.var
                                          [AV.sl k [Col.int IntKind.i64 x], AV.int IntKind.i64 a, AV.int IntKind.i64 b,
                                            AV.int IntKind.i64 c]),
                                      some
                                        (AObj.var
                                          [AV.sl xk [Col.int IntKind.i64 xl], AV.int IntKind.i64 xa,
                                            AV.int IntKind.i64 xb, AV.int IntKind.i64 xc]),
                                      some (AObj.row 3 (nAdd p 1) [Col.int IntKind.i64 (cat inn [gI vs (nOf i)])]),
                                      some
                                        (AObj.row 3 (nAdd q 1)
                                          [Col.int IntKind.i64 (cat out [gI gs (nOf i)])])]).succ.le
                              (mu
                                [AV.sl n
                                    [Col.int IntKind.i64 c0, Col.int IntKind.i64 ks, Col.int IntKind.i64 vs,
                                      Col.int IntKind.i64 rs, Col.int IntKind.i64 gs],
                                  AV.ptr 0 0 0, AV.bool up, AV.ptr 1 0 0, AV.int IntKind.i64 N, AV.full 2, AV.full 3,
                                  AV.int IntKind.i64 i]
                                [some
                                    (AObj.var
                                      [AV.sl k [Col.int IntKind.i64 x], AV.int IntKind.i64 a, AV.int IntKind.i64 b,
                                        AV.int IntKind.i64 c]),
                                  some
                                    (AObj.var
                                      [AV.sl xk [Col.int IntKind.i64 xl], AV.int IntKind.i64 xa, AV.int IntKind.i64 xb,
                                        AV.int IntKind.i64 xc]),
                                  some (AObj.row 3 p [Col.int IntKind.i64 inn]),
                                  some (AObj.row 3 q [Col.int IntKind.i64 out])]) ∧
                            asrt (ordOk n N (iadd IntKind.i64 i 1) (nAdd p 1) (nAdd q 1))
                              (Q (Ex.exit 0) [AV.ptr 0 0 0, AV.bool up, AV.ptr 1 0 0, AV.full 2, AV.full 3]
                                [some
                                    (AObj.var
                                      [AV.sl k [Col.int IntKind.i64 x], AV.int IntKind.i64 a, AV.int IntKind.i64 b,
                                        AV.int IntKind.i64 c]),
                                  some
                                    (AObj.var
                                      [AV.sl xk [Col.int IntKind.i64 xl], AV.int IntKind.i64 xa, AV.int IntKind.i64 xb,
                                        AV.int IntKind.i64 xc]),
                                  some
                                    (AObj.row 3
                                      (lenI (cat (cat inn [gI vs (nOf i)]) (insF ks vs rs gs (iadd IntKind.i64 i 1) N)))
                                      [Col.int IntKind.i64
                                          (cat (cat inn [gI vs (nOf i)]) (insF ks vs rs gs (iadd IntKind.i64 i 1) N))]),
                                  some
                                    (AObj.row 3
                                      (lenI
                                        (cat (cat out [gI gs (nOf i)]) (outsF ks vs rs gs (iadd IntKind.i64 i 1) N)))
                                      [Col.int IntKind.i64
                                          (cat (cat out [gI gs (nOf i)])
                                            (outsF ks vs rs gs (iadd IntKind.i64 i 1) N))])]))))
                      ((mu
                                [AV.sl n
                                    [Col.int IntKind.i64 c0, Col.int IntKind.i64 ks, Col.int IntKind.i64 vs,
                                      Col.int IntKind.i64 rs, Col.int IntKind.i64 gs],
                                  AV.ptr 0 0 0, AV.bool up, AV.ptr 1 0 0, AV.int IntKind.i64 N, AV.full 2, AV.full 3,
                                  AV.int IntKind.i64 (iadd IntKind.i64 i 1)]
                                [some
                                    (AObj.var
                                      [AV.sl k [Col.int IntKind.i64 x], AV.int IntKind.i64 a, AV.int IntKind.i64 b,
                                        AV.int IntKind.i64 c]),
                                  some
                                    (AObj.var
                                      [AV.sl xk [Col.int IntKind.i64 xl], AV.int IntKind.i64 xa, AV.int IntKind.i64 xb,
                                        AV.int IntKind.i64 xc]),
                                  some (AObj.row 3 (nAdd p 1) [Col.int IntKind.i64 (cat inn [gI vs (nOf i)])]),
                                  some (AObj.row 3 q [Col.int IntKind.i64 out])]).succ.le
                          (mu
                            [AV.sl n
                                [Col.int IntKind.i64 c0, Col.int IntKind.i64 ks, Col.int IntKind.i64 vs,
                                  Col.int IntKind.i64 rs, Col.int IntKind.i64 gs],
                              AV.ptr 0 0 0, AV.bool up, AV.ptr 1 0 0, AV.int IntKind.i64 N, AV.full 2, AV.full 3,
                              AV.int IntKind.i64 i]
                            [some
                                (AObj.var
                                  [AV.sl k [Col.int IntKind.i64 x], AV.int IntKind.i64 a, AV.int IntKind.i64 b,
                                    AV.int IntKind.i64 c]),
                              some
                                (AObj.var
                                  [AV.sl xk [Col.int IntKind.i64 xl], AV.int IntKind.i64 xa, AV.int IntKind.i64 xb,
                                    AV.int IntKind.i64 xc]),
                              some (AObj.row 3 p [Col.int IntKind.i64 inn]),
                              some (AObj.row 3 q [Col.int IntKind.i64 out])]) ∧
                        asrt (ordOk n N (iadd IntKind.i64 i 1) (nAdd p 1) q)
                          (Q (Ex.exit 0) [AV.ptr 0 0 0, AV.bool up, AV.ptr 1 0 0, AV.full 2, AV.full 3]
                            [some
                                (AObj.var
                                  [AV.sl k [Col.int IntKind.i64 x], AV.int IntKind.i64 a, AV.int IntKind.i64 b,
                                    AV.int IntKind.i64 c]),
                              some
                                (AObj.var
                                  [AV.sl xk [Col.int IntKind.i64 xl], AV.int IntKind.i64 xa, AV.int IntKind.i64 xb,
                                    AV.int IntKind.i64 xc]),
                              some
                                (AObj.row 3
                                  (lenI (cat (cat inn [gI vs (nOf i)]) (insF ks vs rs gs (iadd IntKind.i64 i 1) N)))
                                  [Col.int IntKind.i64
                                      (cat (cat inn [gI vs (nOf i)]) (insF ks vs rs gs (iadd IntKind.i64 i 1) N))]),
                              some
                                (AObj.row 3 (lenI (cat out (outsF ks vs rs gs (iadd IntKind.i64 i 1) N)))
                                  [Col.int IntKind.i64 (cat out (outsF ks vs rs gs (iadd IntKind.i64 i 1) N))])]))))))))
          (asrt (band (ile 0 i) (ilt i (ofN n)))
            (asrt (bimp (bnot (recvsB (gI ks (nOf i)))) (band (ile 0 i) (ilt i (ofN n))))
              (asrt (bimp (bite (recvsB (gI ks (nOf i))) true (ieq (gI ks (nOf i)) 9)) (band (ile 0 i) (ilt i (ofN n))))
                (br (bite (bite (recvsB (gI ks (nOf i))) true (ieq (gI ks (nOf i)) 9)) (ieq (gI rs (nOf i)) 1) false)
                  (asrt (band (ile 0 i) (ilt i (ofN n)))
                    (asrt (nle (nAdd q 1) 1073741824)
                      ((mu
                                [AV.sl n
                                    [Col.int IntKind.i64 c0, Col.int IntKind.i64 ks, Col.int IntKind.i64 vs,
                                      Col.int IntKind.i64 rs, Col.int IntKind.i64 gs],
                                  AV.ptr 0 0 0, AV.bool up, AV.ptr 1 0 0, AV.int IntKind.i64 N, AV.full 2, AV.full 3,
                                  AV.int IntKind.i64 (iadd IntKind.i64 i 1)]
                                [some
                                    (AObj.var
                                      [AV.sl k [Col.int IntKind.i64 x], AV.int IntKind.i64 a, AV.int IntKind.i64 b,
                                        AV.int IntKind.i64 c]),
                                  some
                                    (AObj.var
                                      [AV.sl xk [Col.int IntKind.i64 xl], AV.int IntKind.i64 xa, AV.int IntKind.i64 xb,
                                        AV.int IntKind.i64 xc]),
                                  some (AObj.row 3 p [Col.int IntKind.i64 inn]),
                                  some (AObj.row 3 (nAdd q 1) [Col.int IntKind.i64 (cat out [gI gs (nOf i)])])]).succ.le
                          (mu
                            [AV.sl n
                                [Col.int IntKind.i64 c0, Col.int IntKind.i64 ks, Col.int IntKind.i64 vs,
                                  Col.int IntKind.i64 rs, Col.int IntKind.i64 gs],
                              AV.ptr 0 0 0, AV.bool up, AV.ptr 1 0 0, AV.int IntKind.i64 N, AV.full 2, AV.full 3,
                              AV.int IntKind.i64 i]
                            [some
                                (AObj.var
                                  [AV.sl k [Col.int IntKind.i64 x], AV.int IntKind.i64 a, AV.int IntKind.i64 b,
                                    AV.int IntKind.i64 c]),
                              some
                                (AObj.var
                                  [AV.sl xk [Col.int IntKind.i64 xl], AV.int IntKind.i64 xa, AV.int IntKind.i64 xb,
                                    AV.int IntKind.i64 xc]),
                              some (AObj.row 3 p [Col.int IntKind.i64 inn]),
                              some (AObj.row 3 q [Col.int IntKind.i64 out])]) ∧
                        asrt (ordOk n N (iadd IntKind.i64 i 1) p (nAdd q 1))
                          (Q (Ex.exit 0) [AV.ptr 0 0 0, AV.bool up, AV.ptr 1 0 0, AV.full 2, AV.full 3]
                            [some
                                (AObj.var
                                  [AV.sl k [Col.int IntKind.i64 x], AV.int IntKind.i64 a, AV.int IntKind.i64 b,
                                    AV.int IntKind.i64 c]),
                              some
                                (AObj.var
                                  [AV.sl xk [Col.int IntKind.i64 xl], AV.int IntKind.i64 xa, AV.int IntKind.i64 xb,
                                    AV.int IntKind.i64 xc]),
                              some
                                (AObj.row 3 (lenI (cat inn (insF ks vs rs gs (iadd IntKind.i64 i 1) N)))
                                  [Col.int IntKind.i64 (cat inn (insF ks vs rs gs (iadd IntKind.i64 i 1) N))]),
                              some
                                (AObj.row 3
                                  (lenI (cat (cat out [gI gs (nOf i)]) (outsF ks vs rs gs (iadd IntKind.i64 i 1) N)))
                                  [Col.int IntKind.i64
                                      (cat (cat out [gI gs (nOf i)])
                                        (outsF ks vs rs gs (iadd IntKind.i64 i 1) N))])]))))
                  ((mu
                            [AV.sl n
                                [Col.int IntKind.i64 c0, Col.int IntKind.i64 ks, Col.int IntKind.i64 vs,
                                  Col.int IntKind.i64 rs, Col.int IntKind.i64 gs],
                              AV.ptr 0 0 0, AV.bool up, AV.ptr 1 0 0, AV.int IntKind.i64 N, AV.full 2, AV.full 3,
                              AV.int IntKind.i64 (iadd IntKind.i64 i 1)]
                            [some
                                (AObj.var
                                  [AV.sl k [Col.int IntKind.i64 x], AV.int IntKind.i64 a, AV.int IntKind.i64 b,
                                    AV.int IntKind.i64 c]),
                              some
                                (AObj.var
                                  [AV.sl xk [Col.int IntKind.i64 xl], AV.int IntKind.i64 xa, AV.int IntKind.i64 xb,
                                    AV.int IntKind.i64 xc]),
                              some (AObj.row 3 p [Col.int IntKind.i64 inn]),
                              some (AObj.row 3 q [Col.int IntKind.i64 out])]).succ.le
                      (mu
                        [AV.sl n
                            [Col.int IntKind.i64 c0, Col.int IntKind.i64 ks, Col.int IntKind.i64 vs,
                              Col.int IntKind.i64 rs, Col.int IntKind.i64 gs],
                          AV.ptr 0 0 0, AV.bool up, AV.ptr 1 0 0, AV.int IntKind.i64 N, AV.full 2, AV.full 3,
                          AV.int IntKind.i64 i]
                        [some
                            (AObj.var
                              [AV.sl k [Col.int IntKind.i64 x], AV.int IntKind.i64 a, AV.int IntKind.i64 b,
                                AV.int IntKind.i64 c]),
                          some
                            (AObj.var
                              [AV.sl xk [Col.int IntKind.i64 xl], AV.int IntKind.i64 xa, AV.int IntKind.i64 xb,
                                AV.int IntKind.i64 xc]),
                          some (AObj.row 3 p [Col.int IntKind.i64 inn]),
                          some (AObj.row 3 q [Col.int IntKind.i64 out])]) ∧
                    asrt (ordOk n N (iadd IntKind.i64 i 1) p q)
                      (Q (Ex.exit 0) [AV.ptr 0 0 0, AV.bool up, AV.ptr 1 0 0, AV.full 2, AV.full 3]
                        [some
                            (AObj.var
                              [AV.sl k [Col.int IntKind.i64 x], AV.int IntKind.i64 a, AV.int IntKind.i64 b,
                                AV.int IntKind.i64 c]),
                          some
                            (AObj.var
                              [AV.sl xk [Col.int IntKind.i64 xl], AV.int IntKind.i64 xa, AV.int IntKind.i64 xb,
                                AV.int IntKind.i64 xc]),
                          some
                            (AObj.row 3 (lenI (cat inn (insF ks vs rs gs (iadd IntKind.i64 i 1) N)))
                              [Col.int IntKind.i64 (cat inn (insF ks vs rs gs (iadd IntKind.i64 i 1) N))]),
                          some
                            (AObj.row 3 (lenI (cat out (outsF ks vs rs gs (iadd IntKind.i64 i 1) N)))
                              [Col.int IntKind.i64 (cat out (outsF ks vs rs gs (iadd IntKind.i64 i 1) N))])])))))))))
    (Q (Ex.exit 0) [AV.ptr 0 0 0, AV.bool up, AV.ptr 1 0 0, AV.full 2, AV.full 3]
      [some
          (AObj.var
            [AV.sl k [Col.int IntKind.i64 x], AV.int IntKind.i64 a, AV.int IntKind.i64 b, AV.int IntKind.i64 c]),
        some
          (AObj.var
            [AV.sl xk [Col.int IntKind.i64 xl], AV.int IntKind.i64 xa, AV.int IntKind.i64 xb, AV.int IntKind.i64 xc]),
        some (AObj.row 3 p [Col.int IntKind.i64 inn]), some (AObj.row 3 q [Col.int IntKind.i64 out])])) := by kernel_rfl

theorem loop_qord : LoopOK Try.prog (bodyOf Try.prog 4 0) spec_qord.summ := by
  refine tab_loop mixed (l := tabF3) ok_tabF3 (i := 0) spec_qord (fun vals objs => match vals, objs with
    | [.sl n [.int .i64 c0, .int .i64 ks, .int .i64 vs, .int .i64 rs, .int .i64 gs], .ptr 0 0 0, .bool up, .ptr 1 0 0, .int .i64 N, .full 2, .full 3, .int .i64 i], [some (.var [.sl k [.int .i64 x], .int .i64 a, .int .i64 b, .int .i64 c]), some (.var [.sl xk [.int .i64 xl], .int .i64 xa, .int .i64 xb, .int .i64 xc]), some (.row 3 p [.int .i64 inn]), some (.row 3 q [.int .i64 out])] => (N - i).toNat
    | _, _ => 0) fun vals objs Q h1 h2 wf wo hg => ?_
  unfold spec_qord at hg
  simp only at hg
  split at hg
  · rename_i n c0 ks vs rs gs up N i k x a b c xk xl xa xb xc p inn q out
    clear h1 h2
    try simp only [WFL, WF, List.mem_cons, List.not_mem_nil, or_false, forall_eq, Col.len, and_true, true_and] at wf
    rw [lp_qord]
    rw [asrt_iff] at hg
    obtain ⟨hinv, hg⟩ := hg
    have hinv' := hinv
    simp [ordOk] at hinv'
    obtain ⟨⟨⟨⟨⟨i1, i2⟩, i3⟩, i4⟩, i5⟩, i6⟩ := hinv'
    obtain ⟨w1, w2, w3, w4, w5⟩ : c0.length = n ∧ ks.length = n ∧ vs.length = n ∧ rs.length = n ∧ gs.length = n := by simp [WFL, WF, Col.len] at wf; exact wf
    obtain ⟨z1, z2⟩ : inn.length = p ∧ out.length = q := by
      have w6 := wo _ (show _ ∈ _ from List.mem_cons_of_mem _ (List.mem_cons_of_mem _ List.mem_cons_self)) _ rfl
      have w7 := wo _ (show _ ∈ _ from List.mem_cons_of_mem _ (List.mem_cons_of_mem _ (List.mem_cons_of_mem _ List.mem_cons_self))) _ rfl
      simp [WFO, Col.len] at w6 w7
      exact ⟨w6, w7⟩
    clear wo wf
    have hw : iadd .i64 i 1 = i + 1 := by rw [iadd_e]; exact wr (by omega) (by omega)
    simp only [bite_and, bite_or, hw]
    rw [br_iff]
    refine ⟨fun hlt => ?_, fun hge => ?_⟩
    · simp only [ilt_t] at hlt
      obtain ⟨s1, s2⟩ := ord_step (ks := ks) (vs := vs) (rs := rs) (gs := gs) (by omega) (by omega) (by omega) i1 hlt (by omega)
      rw [s1, s2] at hg
      have ok : ∀ p' q' : Nat, p' ≤ p + 1 → q' ≤ q + 1 → ordOk n N (i + 1) p' q' = true := by
        intro p' q' h1 h2
        simp [ordOk]
        omega
      have ms : ((N - (i + 1)).toNat).succ.le (N - i).toNat := by show _ + 1 ≤ _; omega
      have q1 : (0 ≤ i ∧ i < (n : Int)) := by omega
      have q2 : p + 1 ≤ 1073741824 := by omega
      have q3 : q + 1 ≤ 1073741824 := by omega
      cases hS : (sendsB (gI ks (nOf i)) && ieq (gI rs (nOf i)) 1) <;> cases hR : ((recvsB (gI ks (nOf i)) || ieq (gI ks (nOf i)) 9) && ieq (gI rs (nOf i)) 1) <;> simp only [hS, hR, if_true, if_false, Bool.false_eq_true, List.nil_append] at hg
      all_goals simp only [hS, hR, br_t, br_f, asrt_iff, band_t, bimp_t, ile_t, ilt_t, nle_t, ofN_e, nAdd_e, q1.1, q1.2, q2, q3, ms, true_and, and_true, implies_true, ok _ _ (Nat.le_refl _) (Nat.le_refl _), ok _ _ (Nat.le_succ _) (Nat.le_refl _), ok _ _ (Nat.le_refl _) (Nat.le_succ _), ok _ _ (Nat.le_succ _) (Nat.le_succ _)]
      all_goals first | exact hg | simpa [cat_e, lenI_e, List.append_assoc] using hg
    · simp only [ilt_f] at hge
      obtain ⟨s1, s2⟩ := ord_end (ks := ks) (vs := vs) (rs := rs) (gs := gs) (i := i) (N := N) (by omega)
      rw [s1, s2] at hg
      simpa [cat_e, lenI_e, z1, z2] using hg
  · exact hg.elim


def Lqord : Nat → Option LoopS := fun i => match i with
  | 0 => some (.summ spec_qord.summ)
  | _ => none

theorem ok_Lqord : ∀ i s, Lqord i = some (.summ s) → onlyLoop Try.prog 4 i = true ∧ LoopOK Try.prog (bodyOf Try.prog 4 i) s := by
  intro i s h
  unfold Lqord at h
  split at h
  · cases h; exact ⟨by kernel_rfl, loop_qord⟩
  · cases h


def FLFifoOrder : Pure1 := fun
  | [.agg [.sl k [.int .i64 x], .int .i64 a, .int .i64 b, .int .i64 c], .sl n [.int .i64 c0, .int .i64 ks, .int .i64 vs, .int .i64 rs, .int .i64 gs]] => some (none, .bool true)
  | _ => none

theorem vc_LFifoOrder (k : Nat) (x : List Int) (a b c : Int) (n : Nat) (c0 ks vs rs gs : List Int) (r : AV) : VC Try.prog (tabS tabF3) (oneL 4 Lqord) false 4 [.agg [.sl k [.int .i64 x], .int .i64 a, .int .i64 b, .int .i64 c], .sl n [.int .i64 c0, .int .i64 ks, .int .i64 vs, .int .i64 rs, .int .i64 gs]] r = (
  br (bite (igt (ofN k) 100) true (igt (ofN n) 100)) (some (AV.bool true) = some r)
    (asrt (runOk k n 0)
      (br (bite (ilt (runC x a b c ks vs rs gs 0) 0) true (igt (runC x a b c ks vs rs gs 0) (ofN n)))
        (some (AV.bool false) = some r)
        (asrt (nle (nAdd 0 k) 1073741824)
          (asrt (ordOk n (runC x a b c ks vs rs gs 0) 0 (nAdd 0 k) 0)
            (asrt
              (nle
                (nAdd (lenI (cat [] (outsF ks vs rs gs 0 (runC x a b c ks vs rs gs 0))))
                  (lenI (runV x a b c ks vs rs gs 0)))
                1073741824)
              (asrt
                (nle
                  (nAdd (lenI (cat [] (outsF ks vs rs gs 0 (runC x a b c ks vs rs gs 0))))
                    (lenI (runV x a b c ks vs rs gs 0)))
                  big)
                (some
                    (AV.bool
                      (bite
                        (bite
                          (bite
                            (sameI
                              (cat (cat [] (outsF ks vs rs gs 0 (runC x a b c ks vs rs gs 0)))
                                (runV x a b c ks vs rs gs 0))
                              (cat (cat [] x) (insF ks vs rs gs 0 (runC x a b c ks vs rs gs 0))))
                            (ieq a a) false)
                          (ieq b b) false)
                        (bite (igt c 2) true (ige (runM x a b c ks vs rs gs 0) c)) false)) =
                  some r)))))))) := by kernel_rfl

theorem ok_LFifoOrder : PureOK Try.prog 4 FLFifoOrder := by
  refine tab_loops mixed (l := tabF3) ok_tabF3 false Lqord (by kernel_rfl) ok_Lqord fun xs b r h hb wf => ?_
  unfold FLFifoOrder at h
  split at h
  · rename_i k x a b c n c0 ks vs rs gs
    cases h
    try rw [some_f] at hb
    try simp only [WFL, WF, List.mem_cons, List.not_mem_nil, or_false, forall_eq, Col.len, and_true, true_and] at wf
    rw [vc_LFifoOrder]
    simp only [bite_and, bite_or]
    obtain ⟨w1, w2, w3, w4, w5⟩ : c0.length = n ∧ ks.length = n ∧ vs.length = n ∧ rs.length = n ∧ gs.length = n := by simp [WFL, WF, Col.len] at wf; exact wf.2
    have hx : x.length = k := by simp [WFL, WF, Col.len] at wf; exact wf.1
    rw [br_iff]
    refine ⟨fun _ => trivial, fun hg => ?_⟩
    simp only [Bool.or_eq_false_iff, igt_f, ofN_e] at hg
    obtain ⟨g1, g2⟩ := hg
    have hE := ens_len ks vs rs gs (by omega) (by omega) (by omega)
    have l1 := run_le a b (ens ks vs rs gs) x c
    obtain ⟨b1, b2⟩ := run_bal a b (ens ks vs rs gs) x c
    have rv : runV x a b c ks vs rs gs 0 = (run a b x c (ens ks vs rs gs)).1 := by simp [runV]
    have rm : runM x a b c ks vs rs gs 0 = (run a b x c (ens ks vs rs gs)).2.1 := by simp [runM]
    have rc : runC x a b c ks vs rs gs 0 = ((run a b x c (ens ks vs rs gs)).2.2 : Int) := by simp [runC]
    have fi : insF ks vs rs gs 0 ((run a b x c (ens ks vs rs gs)).2.2 : Int) = insE ((ens ks vs rs gs).take (run a b x c (ens ks vs rs gs)).2.2) := by simp [insF]
    have fo : outsF ks vs rs gs 0 ((run a b x c (ens ks vs rs gs)).2.2 : Int) = outsE ((ens ks vs rs gs).take (run a b x c (ens ks vs rs gs)).2.2) := by simp [outsF]
    have ol := (outs_le ((ens ks vs rs gs).take (run a b x c (ens ks vs rs gs)).2.2)).1
    have tl : ((ens ks vs rs gs).take (run a b x c (ens ks vs rs gs)).2.2).length ≤ n := by simp; omega
    simp only [rv, rm, rc, fi, fo]
    generalize run a b x c (ens ks vs rs gs) = R at *
    generalize outsE ((ens ks vs rs gs).take R.2.2) = O at *
    generalize insE ((ens ks vs rs gs).take R.2.2) = I at *
    have ok1 : runOk k n 0 = true := by simp [runOk]; omega
    have ok2 : ordOk n (R.2.2 : Int) 0 k 0 = true := by simp [ordOk]; omega
    have si : sameI (O ++ R.1) (x ++ I) = true := by rw [b1]; simp [sameI]
    have c1 : ¬ ((R.2.2 : Nat) : Int) < 0 := by omega
    have c2 : ¬ (n : Int) < ((R.2.2 : Nat) : Int) := by omega
    have c3 : k ≤ 1073741824 := by omega
    have c4 : O.length + R.1.length ≤ 1073741824 := by omega
    have c5 := le_big c4
    simp [asrt_iff, br_iff, ieq_t, ieq_f, ine_t, ine_f, ilt_t, ilt_f, ile_t, ile_f, igt_t, igt_f, ige_t, ige_f, nlt_t, nlt_f, nle_t, nle_f, neq_t, neq_f, beq2_t, beq2_f, bnot_t, bnot_f, band_t, band_f, bite_t, bite_f, bimp_t, bimp_f, iadd_e, isub_e, imul_e, ofN_e, nOf_e, nAdd_e, nDiff_e, room_e, lenI_e, gI_e, gB_e, imin_e, imax_e, cat_e, pt_e, put_e, some_f, ok1, ok2, si, c1, c2, c3, c4, c5]
    try omega
  · cases h


theorem law_FifoOrder (a0 : Qu) (a1 : List Ent) (_ : (a0.1.length ≤ maxLen ∧ ∀ x ∈ a0.1, (Lit.int .i64 x).wf = true) ∧ (Lit.int .i64 a0.2.1).wf = true ∧ (Lit.int .i64 a0.2.2.1).wf = true ∧ (Lit.int .i64 a0.2.2.2).wf = true) (_ : a1.length ≤ maxLen) :
    ∃ b, FLFifoOrder [.agg [.sl a0.1.length [.int .i64 a0.1], .int .i64 a0.2.1, .int .i64 a0.2.2.1, .int .i64 a0.2.2.2], .sl a1.length [.int .i64 (a1.map (·.1)), .int .i64 (a1.map (·.2.1)), .int .i64 (a1.map (·.2.2.1)), .int .i64 (a1.map (·.2.2.2.1)), .int .i64 (a1.map (·.2.2.2.2))]] = some (b, .bool true) ∧ b ≠ some false := ⟨none, rfl, by simp⟩

end Go.Own
