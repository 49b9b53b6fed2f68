/- Law: who is late is so by the time, and later on there are no fewer. -/
import Derived.Test.YtmilniofdpgbnaaDueOpen
namespace Go.Own
open Go Go.Proofs
set_option maxRecDepth 100000
set_option linter.unusedVariables false
set_option linter.unusedSimpArgs false

/-- All are above. -/
def aboveB (x : Int) (l : List Int) : Bool := l.all fun v => decide (x < v)


theorem late_split {t u : Int} (h : t ≤ u) : ∀ {P : Prs}, P.Pairwise lt2 → P.filter (fun p => decide (p.1 ≤ t)) ++ (P.filter fun p => decide (¬ p.1 ≤ t)).filter (fun p => decide (p.1 ≤ u)) = P.filter fun p => decide (p.1 ≤ u)
  | [], _ => rfl
  | p :: P, hs => by
    obtain ⟨h1, h2⟩ := List.pairwise_cons.1 hs
    by_cases hp : p.1 ≤ t
    · have hu : p.1 ≤ u := by omega
      rw [List.filter_cons_of_pos (by simpa using hp), List.filter_cons_of_neg (by simpa using hp), List.filter_cons_of_pos (by simpa using hu), List.cons_append, late_split h h2]
    · have e1 : P.filter (fun p => decide (p.1 ≤ t)) = [] := by
        rw [List.filter_eq_nil_iff]
        intro q hq
        have := h1 q hq
        unfold lt2 at this
        simp
        omega
      have e2 : P.filter (fun p => decide (¬ p.1 ≤ t)) = P := by
        rw [List.filter_eq_self]
        intro q hq
        have := h1 q hq
        unfold lt2 at this
        simp
        omega
      rw [List.filter_cons_of_neg (by simpa using hp), List.filter_cons_of_pos (by simpa using hp), e1, e2, List.nil_append]

theorem late_len (t : Int) : ∀ P : Prs, (P.filter fun p => decide (p.1 ≤ t)).length + (P.filter fun p => decide (¬ p.1 ≤ t)).length = P.length
  | [] => rfl
  | p :: P => by
    have := late_len t P
    by_cases hp : p.1 ≤ t
    · rw [List.filter_cons_of_pos (by simpa using hp), List.filter_cons_of_neg (by simpa using hp)]
      simp only [List.length_cons]
      omega
    · rw [List.filter_cons_of_neg (by simpa using hp), List.filter_cons_of_pos (by simpa using hp)]
      simp only [List.length_cons]
      omega

theorem late_rest {t u : Int} (h : t ≤ u) (P : Prs) : (P.filter fun p => decide (¬ p.1 ≤ t)).filter (fun p => decide (¬ p.1 ≤ u)) = P.filter fun p => decide (¬ p.1 ≤ u) := by
  rw [List.filter_filter]
  congr 1
  funext p
  rw [Bool.eq_iff_iff]
  simp
  omega

def spec_restl : LoopSpec := { n := 89, keep := [0, 1, 2, 7, 8, 9, 10, 11, 12, 13, 14], srcs := [], keepE := [0, 7, 8, 9, 10, 11, 12, 13], srcsE := [], goes := fun vals objs Q => match vals, objs with
  | [.sl n [.int .i64 a, .int .i64 d], .int .i64 x, .int .i64 y, .bool up, .sl n1 [.int .i64 L1], .sl k [.int .i64 ra, .int .i64 rd], .sl n2 [.int .i64 L2], .sl k2 [.int .i64 ra2, .int .i64 rd2], .sl n3 [.int .i64 L3], .sl k3 [.int .i64 ra3, .int .i64 rd3], .int .i64 i], [] => asrt (band (nle k 1000000) (band (ile 0 i) (band (ile i (ofN k)) (aboveB (imin x y) ra)))) (Q (.exit 0) [.sl n [.int .i64 a, .int .i64 d], .bool up, .sl n1 [.int .i64 L1], .sl k [.int .i64 ra, .int .i64 rd], .sl n2 [.int .i64 L2], .sl k2 [.int .i64 ra2, .int .i64 rd2], .sl n3 [.int .i64 L3], .sl k3 [.int .i64 ra3, .int .i64 rd3]] [])
  | _, _ => False }

theorem lp_restl (n : Nat) (a d : List Int) (x y : Int) (up : Bool) (n1 : Nat) (L1 : List Int) (k : Nat) (ra rd : List Int) (n2 : Nat) (L2 : List Int) (k2 : Nat) (ra2 rd2 : List Int) (n3 : Nat) (L3 : List Int) (k3 : Nat) (ra3 rd3 : List Int) (i : Int) (mu : List AV → Heap → Nat) (Q : Ex → List AV → Heap → Prop) : runCode Try.prog (tabS tabDH) (callN Try.prog (tabS tabDH) noL 11) (fun _ => none) (bodyOf Try.prog 11 0) 0 ⟨mkT (spec_restl).keep [.sl n [.int .i64 a, .int .i64 d], .int .i64 x, .int .i64 y, .bool up, .sl n1 [.int .i64 L1], .sl k [.int .i64 ra, .int .i64 rd], .sl n2 [.int .i64 L2], .sl k2 [.int .i64 ra2, .int .i64 rd2], .sl n3 [.int .i64 L3], .sl k3 [.int .i64 ra3, .int .i64 rd3], .int .i64 i] (spec_restl).n 0, []⟩ ((spec_restl).ends mu [.sl n [.int .i64 a, .int .i64 d], .int .i64 x, .int .i64 y, .bool up, .sl n1 [.int .i64 L1], .sl k [.int .i64 ra, .int .i64 rd], .sl n2 [.int .i64 L2], .sl k2 [.int .i64 ra2, .int .i64 rd2], .sl n3 [.int .i64 L3], .sl k3 [.int .i64 ra3, .int .i64 rd3], .int .i64 i] ([]) Q) = (
  br (ilt i (ofN k))
    (asrt (band (ile 0 i) (ilt i (ofN k)))
      (br (ile (gI ra (nOf i)) (imin x y))
        (Q Ex.ret
          [AV.sl n [Col.int IntKind.i64 a, Col.int IntKind.i64 d], AV.bool up, AV.sl n1 [Col.int IntKind.i64 L1],
            AV.sl k [Col.int IntKind.i64 ra, Col.int IntKind.i64 rd], AV.sl n2 [Col.int IntKind.i64 L2],
            AV.sl k2 [Col.int IntKind.i64 ra2, Col.int IntKind.i64 rd2], AV.sl n3 [Col.int IntKind.i64 L3],
            AV.sl k3 [Col.int IntKind.i64 ra3, Col.int IntKind.i64 rd3]]
          [])
        ((mu
                  [AV.sl n [Col.int IntKind.i64 a, Col.int IntKind.i64 d], AV.int IntKind.i64 x, AV.int IntKind.i64 y,
                    AV.bool up, AV.sl n1 [Col.int IntKind.i64 L1],
                    AV.sl k [Col.int IntKind.i64 ra, Col.int IntKind.i64 rd], AV.sl n2 [Col.int IntKind.i64 L2],
                    AV.sl k2 [Col.int IntKind.i64 ra2, Col.int IntKind.i64 rd2], AV.sl n3 [Col.int IntKind.i64 L3],
                    AV.sl k3 [Col.int IntKind.i64 ra3, Col.int IntKind.i64 rd3],
                    AV.int IntKind.i64 (iadd IntKind.i64 i 1)]
                  []).succ.le
            (mu
              [AV.sl n [Col.int IntKind.i64 a, Col.int IntKind.i64 d], AV.int IntKind.i64 x, AV.int IntKind.i64 y,
                AV.bool up, AV.sl n1 [Col.int IntKind.i64 L1], AV.sl k [Col.int IntKind.i64 ra, Col.int IntKind.i64 rd],
                AV.sl n2 [Col.int IntKind.i64 L2], AV.sl k2 [Col.int IntKind.i64 ra2, Col.int IntKind.i64 rd2],
                AV.sl n3 [Col.int IntKind.i64 L3], AV.sl k3 [Col.int IntKind.i64 ra3, Col.int IntKind.i64 rd3],
                AV.int IntKind.i64 i]
              []) ∧
          asrt
            (band (nle k 1000000)
              (band (ile 0 (iadd IntKind.i64 i 1)) (band (ile (iadd IntKind.i64 i 1) (ofN k)) (aboveB (imin x y) ra))))
            (Q (Ex.exit 0)
              [AV.sl n [Col.int IntKind.i64 a, Col.int IntKind.i64 d], AV.bool up, AV.sl n1 [Col.int IntKind.i64 L1],
                AV.sl k [Col.int IntKind.i64 ra, Col.int IntKind.i64 rd], AV.sl n2 [Col.int IntKind.i64 L2],
                AV.sl k2 [Col.int IntKind.i64 ra2, Col.int IntKind.i64 rd2], AV.sl n3 [Col.int IntKind.i64 L3],
                AV.sl k3 [Col.int IntKind.i64 ra3, Col.int IntKind.i64 rd3]]
              []))))
    (Q (Ex.exit 0)
      [AV.sl n [Col.int IntKind.i64 a, Col.int IntKind.i64 d], AV.bool up, AV.sl n1 [Col.int IntKind.i64 L1],
        AV.sl k [Col.int IntKind.i64 ra, Col.int IntKind.i64 rd], AV.sl n2 [Col.int IntKind.i64 L2],
        AV.sl k2 [Col.int IntKind.i64 ra2, Col.int IntKind.i64 rd2], AV.sl n3 [Col.int IntKind.i64 L3],
        AV.sl k3 [Col.int IntKind.i64 ra3, Col.int IntKind.i64 rd3]]
      [])) := by kernel_rfl

theorem loop_restl : LoopOK Try.prog (bodyOf Try.prog 11 0) spec_restl.summ := by
  refine tab_loop mixed (l := tabDH) ok_tabDH (i := 0) spec_restl (fun vals objs => match vals, objs with
    | [.sl n [.int .i64 a, .int .i64 d], .int .i64 x, .int .i64 y, .bool up, .sl n1 [.int .i64 L1], .sl k [.int .i64 ra, .int .i64 rd], .sl n2 [.int .i64 L2], .sl k2 [.int .i64 ra2, .int .i64 rd2], .sl n3 [.int .i64 L3], .sl k3 [.int .i64 ra3, .int .i64 rd3], .int .i64 i], [] => (k - i).toNat
    | _, _ => 0) fun vals objs Q h1 h2 wf wo hg => ?_
  unfold spec_restl at hg
  simp only at hg
  split at hg
  · rename_i n a d x y up n1 L1 k ra rd n2 L2 k2 ra2 rd2 n3 L3 k3 ra3 rd3 i
    clear h1 h2
    try simp only [WFL, WF, List.mem_cons, List.not_mem_nil, or_false, forall_eq_or_imp, forall_eq, Col.len, and_true, true_and] at wf
    rw [lp_restl]
    have wra : ra.length = k := by
      grind
    simp only [asrt_iff, band_t, nle_t, ile_t, ofN_e] at hg
    obtain ⟨⟨hb, h0, hn, ha⟩, hg⟩ := hg
    obtain ⟨j, rfl⟩ := Int.eq_ofNat_of_zero_le h0
    have hw : IntKind.i64.wrap ((j : Int) + 1) = (j : Int) + 1 := wr (by omega) (by omega)
    have e4 : iadd .i64 (j : Int) 1 = (j : Int) + 1 := by rw [iadd_e, hw]
    have e6 : nOf (j : Int) = j := nOf_n
    rw [br_iff, ilt_t, ilt_f, ofN_e, e6]
    refine ⟨fun hk => ?_, fun hk => ?_⟩
    · have q1 : band (ile 0 (j : Int)) (ilt (j : Int) k) = true := by rw [band_t, ile_t, ilt_t]; omega
      have hmem : gI ra j ∈ ra := by
        show ra.getD j 0 ∈ ra
        rw [List.getD_eq_getElem?_getD, List.getElem?_eq_getElem (by omega)]
        exact List.getElem_mem _
      have hlt : imin x y < gI ra j := by
        unfold aboveB at ha
        rw [List.all_eq_true] at ha
        simpa using ha _ hmem
      have q2 : ile (gI ra j) (imin x y) = false := by rw [ile_f]; exact hlt
      rw [q1, q2, e4]
      refine ⟨?_, ?_⟩
      · show ((k : Int) - ((j : Int) + 1)).toNat + 1 ≤ ((k : Int) - (j : Int)).toNat
        omega
      · rw [asrt_iff]
        refine ⟨?_, hg⟩
        simp only [band_t, nle_t, ile_t, ha, and_true]
        omega
    · exact hg
  · exact hg.elim


def Lrestl : Nat → Option LoopS := fun i => match i with
  | 0 => some (.summ spec_restl.summ)
  | _ => none

theorem ok_Lrestl : ∀ i x, Lrestl i = some x → LoopHyp Try.prog 11 i x := by
  intro i s h
  unfold Lrestl at h
  split at h
  · cases h; exact ⟨by kernel_rfl, loop_restl⟩
  · cases h


def FLDueLate : Pure1 := fun
  | [.sl n [.int .i64 a, .int .i64 d], .int .i64 x, .int .i64 y] => some (none, .bool true)
  | _ => none

theorem vc_LDueLate (n : Nat) (a d : List Int) (x y : Int) (r : AV) : VC Try.prog (tabS tabDH) (oneL 11 Lrestl) false 11 [.sl n [.int .i64 a, .int .i64 d], .int .i64 x, .int .i64 y] r = (
  asrt (bimp (bnot (igt (ofN n) 100)) (nle n 1000000))
    (br (bite (igt (ofN n) 100) true (bnot (dueOk a d))) (some (AV.bool true) = some r)
      (asrt (nle n 900000)
        (asrt (nle n 900000)
          (asrt (nle (lateN n a d (imin x y)) 900000)
            (asrt
              (band (nle (lateN n a d (imin x y)) 1000000)
                (band (ile 0 (ofN (lateN n a d (imin x y)))) (aboveB (imin x y) (lateA a d (imin x y)))))
              (asrt (nle (nAdd 0 (lenI (lateL a d (imin x y)))) 17592186044416)
                (asrt
                  (nle
                    (nAdd (nAdd 0 (lenI (lateL a d (imin x y))))
                      (lenI (lateL (lateA a d (imin x y)) (lateI a d (imin x y)) (imax x y))))
                    17592186044416)
                  (asrt
                    (nle
                      (nAdd (nAdd 0 (lenI (lateL a d (imin x y))))
                        (lenI (lateL (lateA a d (imin x y)) (lateI a d (imin x y)) (imax x y))))
                      big)
                    (asrt
                      (bimp
                        (sameI
                          (cat (cat [] (lateL a d (imin x y)))
                            (lateL (lateA a d (imin x y)) (lateI a d (imin x y)) (imax x y)))
                          (lateL a d (imax x y)))
                        (band
                          (nle (lateN (lateN n a d (imin x y)) (lateA a d (imin x y)) (lateI a d (imin x y)) (imax x y))
                            big)
                          (duEq
                            (lateN (lateN n a d (imin x y)) (lateA a d (imin x y)) (lateI a d (imin x y)) (imax x y))
                            (lateA (lateA a d (imin x y)) (lateI a d (imin x y)) (imax x y))
                            (lateI (lateA a d (imin x y)) (lateI a d (imin x y)) (imax x y)) (lateN n a d (imax x y))
                            (lateA a d (imax x y)) (lateI a d (imax x y)))))
                      (some
                          (AV.bool
                            (bite
                              (bite
                                (sameI
                                  (cat (cat [] (lateL a d (imin x y)))
                                    (lateL (lateA a d (imin x y)) (lateI a d (imin x y)) (imax x y)))
                                  (lateL a d (imax x y)))
                                true false)
                              (ieq (iadd IntKind.i64 (ofN (lenI (lateL a d (imin x y)))) (ofN (lateN n a d (imin x y))))
                                (ofN n))
                              false)) =
                        some r))))))))))) := by kernel_rfl

theorem ok_LDueLate : PureOK Try.prog 11 FLDueLate := by
  refine tab_loops mixed (l := tabDH) ok_tabDH false Lrestl (by kernel_rfl) ok_Lrestl fun xs b r h hb wf => ?_
  unfold FLDueLate at h
  split at h
  · rename_i n a d x y
    cases h
    try rw [some_f] at hb
    try simp only [WFL, WF, List.mem_cons, List.not_mem_nil, or_false, forall_eq_or_imp, forall_eq, Col.len, and_true, true_and] at wf
    rw [vc_LDueLate]
    obtain ⟨wa, wd⟩ : a.length = n ∧ d.length = n := by simpa using wf
    obtain ⟨P, rfl, rfl, rfl⟩ := as_P wa wd
    simp only [bite_and, bite_or]
    simp only [lateN_P, lateA_P, lateI_P, lateL_P]
    by_cases hlen : P.length ≤ 100
    · have g1 : igt (ofN P.length) 100 = false := by rw [igt_f, ofN_e]; omega
      have q1 : nle P.length 1000000 = true := by rw [nle_t]; omega
      have q2 : nle P.length 900000 = true := by rw [nle_t]; omega
      rw [g1, q1, q2]
      cases hok : dueOk (pa P) (pi P) with
      | false => trivial
      | true =>
        have ho := (dueOk_P P).1 hok
        have ho2 : dueOk (pa (P.filter fun p => decide (¬ p.1 ≤ imin x y))) (pi (P.filter fun p => decide (¬ p.1 ≤ imin x y))) = true := (dueOk_P _).2 (okP_filter _ ho)
        have hmm : imin x y ≤ imax x y := by rw [imin_e, imax_e]; omega
        have r1 : ∀ t, restP P t = P.filter fun p => decide (¬ p.1 ≤ t) := fun t => by unfold restP; rw [hok]; rfl
        have r2 : ∀ t, lateP P t = pi (P.filter fun p => decide (p.1 ≤ t)) := fun t => by unfold lateP; rw [hok]; rfl
        have r3 : restP (P.filter fun p => decide (¬ p.1 ≤ imin x y)) (imax x y) = P.filter fun p => decide (¬ p.1 ≤ imax x y) := by
          unfold restP
          rw [if_pos ho2, late_rest hmm]
        have r4 : lateP (P.filter fun p => decide (¬ p.1 ≤ imin x y)) (imax x y) = pi ((P.filter fun p => decide (¬ p.1 ≤ imin x y)).filter fun p => decide (p.1 ≤ imax x y)) := by
          unfold lateP
          rw [if_pos ho2]
        have r5 : pi (P.filter fun p => decide (p.1 ≤ imin x y)) ++ pi ((P.filter fun p => decide (¬ p.1 ≤ imin x y)).filter fun p => decide (p.1 ≤ imax x y)) = pi (P.filter fun p => decide (p.1 ≤ imax x y)) := by
          have := congrArg pi (late_split hmm ho.2.1)
          unfold pi at this ⊢
          rw [List.map_append] at this
          exact this
        have l1 := late_len (imin x y) P
        have l2 := late_len (imax x y) (P.filter fun p => decide (¬ p.1 ≤ imin x y))
        have l3 := late_len (imax x y) P
        have q3 : nle (P.filter fun p => decide (¬ p.1 ≤ imin x y)).length 900000 = true := by rw [nle_t]; omega
        have q4 : nle (P.filter fun p => decide (¬ p.1 ≤ imin x y)).length 1000000 = true := by rw [nle_t]; omega
        have q5 : ile 0 (ofN (P.filter fun p => decide (¬ p.1 ≤ imin x y)).length) = true := by rw [ile_t, ofN_e]; omega
        have q6 : aboveB (imin x y) (pa (P.filter fun p => decide (¬ p.1 ≤ imin x y))) = true := by
          unfold aboveB pa
          rw [List.all_eq_true]
          intro v hv
          obtain ⟨p, hp, rfl⟩ := List.mem_map.1 hv
          have := (List.mem_filter.1 hp).2
          simp at this ⊢
          exact this
        have q7 : nle (nAdd 0 (pi (P.filter fun p => decide (p.1 ≤ imin x y))).length) 17592186044416 = true := by rw [nle_t, nAdd_e, pi_len]; omega
        have q8 : nle (nAdd (nAdd 0 (pi (P.filter fun p => decide (p.1 ≤ imin x y))).length) (pi ((P.filter fun p => decide (¬ p.1 ≤ imin x y)).filter fun p => decide (p.1 ≤ imax x y))).length) 17592186044416 = true := by rw [nle_t, nAdd_e, nAdd_e, pi_len, pi_len]; omega
        have q9 : nle (nAdd (nAdd 0 (pi (P.filter fun p => decide (p.1 ≤ imin x y))).length) (pi ((P.filter fun p => decide (¬ p.1 ≤ imin x y)).filter fun p => decide (p.1 ≤ imax x y))).length) big = true := by rw [nAdd_e, nAdd_e, pi_len, pi_len]; exact big_le (by omega)
        have q10 : nle (P.filter fun p => decide (¬ p.1 ≤ imax x y)).length big = true := big_le (by omega)
        have w : ieq (iadd .i64 (ofN (pi (P.filter fun p => decide (p.1 ≤ imin x y))).length) (ofN (P.filter fun p => decide (¬ p.1 ≤ imin x y)).length)) (ofN P.length) = true := by
          rw [ieq_t, iadd_e, ofN_e, ofN_e, ofN_e, pi_len, wr (by omega) (by omega)]
          omega
        have s1 : ∀ l : List Int, sameI l l = true := fun l => by simp [sameI]
        simp only [cat_e, List.nil_append, lenI_e]
        rw [r1 (imin x y), r1 (imax x y), r2 (imin x y), r2 (imax x y), r3, r4, r5, q3, q4, q5, q6, q7, q8, q9, q10, w, s1, duEq_self]
        rfl
    · have g1 : igt (ofN P.length) 100 = true := by rw [igt_t, ofN_e]; omega
      rw [g1]
      trivial
  · cases h


theorem law_DueLate (a0 : List (Int × Int)) (a1 a2 : Int) (_ : True) (_ : (Lit.int .i64 a1).wf = true) (_ : (Lit.int .i64 a2).wf = true) :
    ∃ b, FLDueLate [.sl a0.length [.int .i64 (a0.map fun e => e.1), .int .i64 (a0.map fun e => e.2)], .int .i64 a1, .int .i64 a2] = some (b, .bool true) ∧ b ≠ some false := ⟨_, rfl, by simp⟩

end Go.Own
