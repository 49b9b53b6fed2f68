/- Law: dues that are all put so much later are in the same order. -/
import Derived.Test.YtmilniofdpgbnaaDueOpen
namespace Go.Own
open Go Go.Proofs
set_option maxRecDepth 100000
set_option linter.unusedVariables false
set_option linter.unusedSimpArgs false

/-- Two lists of dues, of which the second one is so much later; of at most m. -/
def laterB (b : Int) (k : Nat) (ka kd : List Int) (l : Nat) (la ld : List Int) (m : Int) : Bool := dueOk ka kd && decide (la = ka.map (· + b) ∧ ld = kd ∧ l = k ∧ ka.length = k ∧ kd.length = k ∧ (k : Int) ≤ m ∧ 0 ≤ b ∧ b < 4294967296) && ka.all fun v => decide (0 ≤ v ∧ v < 4294967296)

def inU (n : Int) : Bool := decide (0 ≤ n ∧ n < 4294967296)


def shift (b : Int) (P : Prs) : Prs := P.map fun p => (p.1 + b, p.2)

def bnd (P : Prs) : Prop := ∀ p ∈ P, 0 ≤ p.1 ∧ p.1 < 4294967296

theorem pa_shift (b : Int) (P : Prs) : pa (shift b P) = (pa P).map (· + b) := by simp [pa, shift]
theorem pi_shift (b : Int) (P : Prs) : pi (shift b P) = pi P := by simp [pi, shift]
theorem len_shift (b : Int) (P : Prs) : (shift b P).length = P.length := by simp [shift]

theorem lt2_shift {b : Int} {p q : Int × Int} : lt2 (p.1 + b, p.2) (q.1 + b, q.2) ↔ lt2 p q := by
  unfold lt2
  simp only
  omega

theorem srt_shift (b : Int) (P : Prs) : srt (shift b P) = shift b (srt P) := by
  apply srt_of
  · unfold inOrder shift
    rw [List.pairwise_map]
    exact (srt_order P).imp fun h hh => h (lt2_shift.1 hh)
  · exact (srt_perm P).map _

theorem ok_shift {b : Int} {P : Prs} (h : okP P) (hb : bnd P) (h0 : 0 ≤ b) (h1 : b < 4294967296) : okP (shift b P) := by
  refine ⟨fun p hp => ?_, ?_, ?_⟩
  · obtain ⟨q, hq, rfl⟩ := List.mem_map.1 hp
    refine ⟨?_, (h.1 q hq).2⟩
    have := hb q hq
    unfold dtime
    rw [decide_eq_true_eq]
    simp only
    omega
  · unfold shift
    rw [List.pairwise_map]
    exact h.2.1.imp fun hh => lt2_shift.2 hh
  · rw [pi_shift]
    exact h.2.2

theorem putE_shift {b x y : Int} {K : Prs} (h : okP K) (hb : bnd K) (h0 : 0 ≤ b) (h1 : b < 4294967296) (x0 : 0 ≤ x) (x1 : x < 4294967296) : putE2 (shift b K) (x + b, y) = putE2 K (x, y) := by
  rw [putE_ok (ok_shift h hb h0 h1), putE_ok h, pi_shift]
  have d1 : dtime x = true := by
    unfold dtime
    rw [decide_eq_true_eq]
    omega
  have d2 : dtime (x + b) = true := by
    unfold dtime
    rw [decide_eq_true_eq]
    omega
  simp only [d1, d2]

theorem putP_shift {b x y : Int} {K : Prs} (h : okP K) (hb : bnd K) (h0 : 0 ≤ b) (h1 : b < 4294967296) (x0 : 0 ≤ x) (x1 : x < 4294967296) : putP (shift b K) (x + b, y) = shift b (putP K (x, y)) := by
  have e := putE_shift (y := y) h hb h0 h1 x0 x1
  by_cases he : putE2 K (x, y) = 0
  · rw [putP_ok he, putP_ok (e.trans he), ← srt_shift]
    unfold shift
    rw [List.map_append]
    rfl
  · rw [putP_no he, putP_no fun hh => he (e.symm.trans hh)]

theorem bnd_put {x y : Int} {K : Prs} (hb : bnd K) (x0 : 0 ≤ x) (x1 : x < 4294967296) : bnd (putP K (x, y)) := by
  unfold putP
  split
  · intro p hp
    have := (srt_perm _).subset hp
    rcases List.mem_append.1 this with hh | hh
    · exact hb p hh
    · simp at hh
      subst hh
      exact ⟨x0, x1⟩
  · exact hb

theorem lateP_shift {b t : Int} {K : Prs} (h : okP K) (hb : bnd K) (h0 : 0 ≤ b) (h1 : b < 4294967296) : lateP (shift b K) (t + b) = lateP K t := by
  unfold lateP
  rw [(dueOk_P _).2 h, (dueOk_P _).2 (ok_shift h hb h0 h1), if_pos rfl, if_pos rfl]
  unfold shift pi
  rw [List.filter_map, List.map_map]
  have : (fun p : Int × Int => decide (p.1 ≤ t + b)) ∘ (fun p : Int × Int => (p.1 + b, p.2)) = fun p => decide (p.1 ≤ t) := by
    funext p
    rw [Bool.eq_iff_iff]
    simp
  rw [this]
  rfl

theorem later_of {b : Int} {k : Nat} {ka kd : List Int} {l : Nat} {la ld : List Int} {m : Int} (h : laterB b k ka kd l la ld m = true) : ∃ K : Prs, okP K ∧ bnd K ∧ ka = pa K ∧ kd = pi K ∧ k = K.length ∧ la = pa (shift b K) ∧ ld = pi (shift b K) ∧ l = (shift b K).length ∧ (K.length : Int) ≤ m ∧ 0 ≤ b ∧ b < 4294967296 := by
  unfold laterB at h
  rw [Bool.and_eq_true, Bool.and_eq_true, decide_eq_true_eq] at h
  obtain ⟨⟨hok, rfl, rfl, rfl, h1, h2, h3, h4, h5⟩, h6⟩ := h
  obtain ⟨K, rfl, rfl, rfl⟩ := as_P h1 h2
  refine ⟨K, (dueOk_P K).1 hok, ?_, rfl, rfl, rfl, (pa_shift b K).symm, (pi_shift b K).symm, (len_shift b K).symm, h3, h4, h5⟩
  intro p hp
  rw [List.all_eq_true] at h6
  simpa using h6 p.1 (List.mem_map_of_mem hp)

theorem later_mk {b : Int} {K : Prs} {m : Int} (h : okP K) (hb : bnd K) (hm : (K.length : Int) ≤ m) (h0 : 0 ≤ b) (h1 : b < 4294967296) : laterB b K.length (pa K) (pi K) (shift b K).length (pa (shift b K)) (pi (shift b K)) m = true := by
  unfold laterB
  rw [Bool.and_eq_true, Bool.and_eq_true, decide_eq_true_eq]
  refine ⟨⟨(dueOk_P K).2 h, pa_shift b K, pi_shift b K, len_shift b K, pa_len K, pi_len K, hm, h0, h1⟩, ?_⟩
  rw [List.all_eq_true]
  intro v hv
  obtain ⟨p, hp, rfl⟩ := List.mem_map.1 hv
  simpa using hb p hp

def spec_later : LoopSpec := { n := 108, keep := [0, 1, 2, 7, 8, 9, 10], srcs := [], keepE := [1, 2, 6, 7, 8, 9], srcsE := [], goes := fun vals objs Q => match vals, objs with
  | [.sl n [.int .i64 a, .int .i64 d], .int .u32 b, .int .u32 now, .bool up, .sl k [.int .i64 ka, .int .i64 kd], .sl l [.int .i64 la, .int .i64 ld], .int .i64 i], [] => asrt (band (nle n 100) (band (ile 0 i) (band (ile i (ofN n)) (laterB b k ka kd l la ld i)))) ((∀ (k' : Nat) (ka' kd' : List Int) (l' : Nat) (la' ld' : List Int), laterB b k' ka' kd' l' la' ld' 100 = true → Q (.exit 0) [.int .u32 b, .int .u32 now, .top, .bool up, .sl k' [.int .i64 ka', .int .i64 kd'], .sl l' [.int .i64 la', .int .i64 ld']] []) ∧ (∀ (k' : Nat) (ka' kd' : List Int) (l' : Nat) (la' ld' : List Int), Q .ret [.int .u32 b, .int .u32 now, .bool up, .bool up, .sl k' [.int .i64 ka', .int .i64 kd'], .sl l' [.int .i64 la', .int .i64 ld']] []))
  | _, _ => False }

theorem lp_later (n : Nat) (a d : List Int) (b now : Int) (up : Bool) (k : Nat) (ka kd : List Int) (l : Nat) (la ld : List Int) (i : Int) (mu : List AV → Heap → Nat) (Q : Ex → List AV → Heap → Prop) : runCode Try.prog (tabS tabDH) (callN Try.prog (tabS tabDH) noL 11) (fun _ => none) (bodyOf Try.prog 14 0) 0 ⟨mkT (spec_later).keep [.sl n [.int .i64 a, .int .i64 d], .int .u32 b, .int .u32 now, .bool up, .sl k [.int .i64 ka, .int .i64 kd], .sl l [.int .i64 la, .int .i64 ld], .int .i64 i] (spec_later).n 0, []⟩ ((spec_later).ends mu [.sl n [.int .i64 a, .int .i64 d], .int .u32 b, .int .u32 now, .bool up, .sl k [.int .i64 ka, .int .i64 kd], .sl l [.int .i64 la, .int .i64 ld], .int .i64 i] ([]) Q) = (
  br (ilt i (ofN n))
    (asrt (band (ile 0 i) (ilt i (ofN n)))
      (asrt (bimp (bnot (ilt (gI a (nOf i)) 0)) (band (ile 0 i) (ilt i (ofN n))))
        (br (bite (ilt (gI a (nOf i)) 0) true (ige (gI a (nOf i)) 4294967296))
          (Q Ex.ret
            [AV.int IntKind.u32 b, AV.int IntKind.u32 now, AV.bool up, AV.bool up,
              AV.sl k [Col.int IntKind.i64 ka, Col.int IntKind.i64 kd],
              AV.sl l [Col.int IntKind.i64 la, Col.int IntKind.i64 ld]]
            [])
          (asrt (band (ile 0 i) (ilt i (ofN n)))
            (asrt (nle k 900000)
              (asrt (band (ile 0 i) (ilt i (ofN n)))
                (asrt (band (ile 0 i) (ilt i (ofN n)))
                  (asrt (nle l 900000)
                    (br
                      (ine (putE ka kd (gI a (nOf i)) (gI d (nOf i)))
                        (putE la ld (iadd IntKind.i64 (gI a (nOf i)) (icnv IntKind.i64 b)) (gI d (nOf i))))
                      (Q Ex.ret
                        [AV.int IntKind.u32 b, AV.int IntKind.u32 now, AV.bool false, AV.bool up,
                          AV.sl (putN k ka kd (gI a (nOf i)) (gI d (nOf i)))
                            [Col.int IntKind.i64 (putA ka kd (gI a (nOf i)) (gI d (nOf i))),
                              Col.int IntKind.i64 (putI ka kd (gI a (nOf i)) (gI d (nOf i)))],
                          AV.sl (putN l la ld (iadd IntKind.i64 (gI a (nOf i)) (icnv IntKind.i64 b)) (gI d (nOf i)))
                            [Col.int IntKind.i64
                                (putA la ld (iadd IntKind.i64 (gI a (nOf i)) (icnv IntKind.i64 b)) (gI d (nOf i))),
                              Col.int IntKind.i64
                                (putI la ld (iadd IntKind.i64 (gI a (nOf i)) (icnv IntKind.i64 b)) (gI d (nOf i)))]]
                        [])
                      ((mu
                                [AV.sl n [Col.int IntKind.i64 a, Col.int IntKind.i64 d], AV.int IntKind.u32 b,
                                  AV.int IntKind.u32 now, AV.bool up,
                                  AV.sl (putN k ka kd (gI a (nOf i)) (gI d (nOf i)))
                                    [Col.int IntKind.i64 (putA ka kd (gI a (nOf i)) (gI d (nOf i))),
                                      Col.int IntKind.i64 (putI ka kd (gI a (nOf i)) (gI d (nOf i)))],
                                  AV.sl
                                    (putN l la ld (iadd IntKind.i64 (gI a (nOf i)) (icnv IntKind.i64 b)) (gI d (nOf i)))
                                    [Col.int IntKind.i64
                                        (putA la ld (iadd IntKind.i64 (gI a (nOf i)) (icnv IntKind.i64 b))
                                          (gI d (nOf i))),
                                      Col.int IntKind.i64
                                        (putI la ld (iadd IntKind.i64 (gI a (nOf i)) (icnv IntKind.i64 b))
                                          (gI d (nOf i)))],
                                  AV.int IntKind.i64 (iadd IntKind.i64 i 1)]
                                []).succ.le
                          (mu
                            [AV.sl n [Col.int IntKind.i64 a, Col.int IntKind.i64 d], AV.int IntKind.u32 b,
                              AV.int IntKind.u32 now, AV.bool up,
                              AV.sl k [Col.int IntKind.i64 ka, Col.int IntKind.i64 kd],
                              AV.sl l [Col.int IntKind.i64 la, Col.int IntKind.i64 ld], AV.int IntKind.i64 i]
                            []) ∧
                        asrt
                          (band (nle n 100)
                            (band (ile 0 (iadd IntKind.i64 i 1))
                              (band (ile (iadd IntKind.i64 i 1) (ofN n))
                                (laterB b (putN k ka kd (gI a (nOf i)) (gI d (nOf i)))
                                  (putA ka kd (gI a (nOf i)) (gI d (nOf i))) (putI ka kd (gI a (nOf i)) (gI d (nOf i)))
                                  (putN l la ld (iadd IntKind.i64 (gI a (nOf i)) (icnv IntKind.i64 b)) (gI d (nOf i)))
                                  (putA la ld (iadd IntKind.i64 (gI a (nOf i)) (icnv IntKind.i64 b)) (gI d (nOf i)))
                                  (putI la ld (iadd IntKind.i64 (gI a (nOf i)) (icnv IntKind.i64 b)) (gI d (nOf i)))
                                  (iadd IntKind.i64 i 1)))))
                          ((∀ (k' : Nat) (ka' kd' : List Int) (l' : Nat) (la' ld' : List Int),
                              laterB b k' ka' kd' l' la' ld' 100 = true →
                                Q (Ex.exit 0)
                                  [AV.int IntKind.u32 b, AV.int IntKind.u32 now, AV.top, AV.bool up,
                                    AV.sl k' [Col.int IntKind.i64 ka', Col.int IntKind.i64 kd'],
                                    AV.sl l' [Col.int IntKind.i64 la', Col.int IntKind.i64 ld']]
                                  []) ∧
                            ∀ (k' : Nat) (ka' kd' : List Int) (l' : Nat) (la' ld' : List Int),
                              Q Ex.ret
                                [AV.int IntKind.u32 b, AV.int IntKind.u32 now, AV.bool up, AV.bool up,
                                  AV.sl k' [Col.int IntKind.i64 ka', Col.int IntKind.i64 kd'],
                                  AV.sl l' [Col.int IntKind.i64 la', Col.int IntKind.i64 ld']]
                                [])))))))))))
    (Q (Ex.exit 0)
      [AV.int IntKind.u32 b, AV.int IntKind.u32 now, AV.top, AV.bool up,
        AV.sl k [Col.int IntKind.i64 ka, Col.int IntKind.i64 kd],
        AV.sl l [Col.int IntKind.i64 la, Col.int IntKind.i64 ld]]
      [])) := by kernel_rfl

theorem loop_later : LoopOK Try.prog (bodyOf Try.prog 14 0) spec_later.summ := by
  refine tab_loop mixed (l := tabDH) ok_tabDH (i := 0) spec_later (fun vals objs => match vals, objs with
    | [.sl n [.int .i64 a, .int .i64 d], .int .u32 b, .int .u32 now, .bool up, .sl k [.int .i64 ka, .int .i64 kd], .sl l [.int .i64 la, .int .i64 ld], .int .i64 i], [] => (n - i).toNat
    | _, _ => 0) fun vals objs Q h1 h2 wf wo hg => ?_
  unfold spec_later at hg
  simp only at hg
  split at hg
  · rename_i n a d b now up k ka kd l la ld i
    clear h1 h2
    try simp only [WFL, WF, List.mem_cons, List.not_mem_nil, or_false, forall_eq_or_imp, forall_eq, Col.len, and_true, true_and] at wf
    rw [lp_later]
    have wa : a.length = n := by grind
    have wd : d.length = n := by grind
    clear wf wo
    obtain ⟨P, rfl, rfl, rfl⟩ := as_P wa wd
    simp only [asrt_iff, band_t, nle_t, ile_t, ofN_e] at hg
    obtain ⟨⟨hlen, h0, hn, hl⟩, hg1, hg2⟩ := hg
    obtain ⟨K, ho, hb, rfl, rfl, rfl, rfl, rfl, rfl, hm, b0, b1⟩ := later_of hl
    obtain ⟨j, rfl⟩ := Int.eq_ofNat_of_zero_le h0
    have hw : IntKind.i64.wrap ((j : Int) + 1) = (j : Int) + 1 := wr (by omega) (by omega)
    have e4 : iadd .i64 (j : Int) 1 = (j : Int) + 1 := by rw [iadd_e, hw]
    have e6 : nOf (j : Int) = j := nOf_n
    rw [br_iff, ilt_t, ilt_f, ofN_e, e6]
    refine ⟨fun hk => ?_, fun hk => ?_⟩
    · have q1 : band (ile 0 (j : Int)) (ilt (j : Int) P.length) = true := by rw [band_t, ile_t, ilt_t]; omega
      have g0 : gI (pa P) j = (P[j]).1 := pa_get (by omega)
      have g2 : gI (pi P) j = (P[j]).2 := pi_get (by omega)
      rw [q1, g0, g2]
      rw [asrt_iff, asrt_iff, br_iff]
      refine ⟨rfl, by simp [asrt_iff, br_iff, ieq_t, ieq_f, ine_t, ine_f, ilt_t, ilt_f, ile_t, ile_f, igt_t, igt_f, ige_t, ige_f, nlt_t, nlt_f, nle_t, nle_f, neq_t, neq_f, beq2_t, beq2_f, bnot_t, bnot_f, band_t, band_f, bite_t, bite_f, bimp_t, bimp_f, iadd_e, isub_e, imul_e, ofN_e, nOf_e, nAdd_e, nDiff_e, room_e, lenI_e, gI_e, gB_e, imin_e, imax_e, cat_e, pt_e, put_e, some_f], fun _ => hg2 _ _ _ _ _ _, fun hr => ?_⟩
      have hx : 0 ≤ (P[j]).1 ∧ (P[j]).1 < 4294967296 := by
        simp only [bite_f, ilt_t, ilt_f, ige_t, ige_f] at hr
        by_cases hx : (P[j]).1 < 0
        · exact absurd (hr.1 hx) (by simp)
        · exact ⟨by omega, hr.2 (by omega)⟩
      have c : icnv .i64 b = b := wr (by omega) (by omega)
      have c2 : iadd .i64 (P[j]).1 b = (P[j]).1 + b := wr (by omega) (by omega)
      have hle := putP_le K ((P[j]).1, (P[j]).2)
      have q2 : nle K.length 900000 = true := by rw [nle_t]; omega
      have q3 : nle (shift b K).length 900000 = true := by rw [nle_t, len_shift]; omega
      have f : ∀ n : Int, ine n n = false := fun n => by rw [ine_f]
      rw [c, c2, q2, q3]
      simp only [putN_P, putA_P, putI_P, putE_P]
      rw [putE_shift ho hb b0 b1 hx.1 hx.2, putP_shift ho hb b0 b1 hx.1 hx.2, f, e4]
      refine ⟨?_, ?_⟩
      · show ((P.length : Int) - ((j : Int) + 1)).toNat + 1 ≤ ((P.length : Int) - (j : Int)).toNat
        omega
      · simp only [asrt_iff, band_t, nle_t, ile_t, ofN_e]
        refine ⟨⟨hlen, by omega, by omega, later_mk (okP_putP.2 ho) (bnd_put hb hx.1 hx.2) (by omega) b0 b1⟩, hg1, hg2⟩
    · exact hg1 _ _ _ _ _ _ (later_mk ho hb (by omega) b0 b1)
  · exact hg.elim


def Llater : Nat → Option LoopS := fun i => match i with
  | 0 => some (.summ spec_later.summ)
  | _ => none

theorem ok_Llater : ∀ i x, Llater i = some x → LoopHyp Try.prog 14 i x := by
  intro i s h
  unfold Llater at h
  split at h
  · cases h; exact ⟨by kernel_rfl, loop_later⟩
  · cases h


def FLDueLater : Pure1 := fun
  | [.sl n [.int .i64 a, .int .i64 d], .int .u32 b, .int .u32 now] => some (some (band (inU b) (inU now)), .bool true)
  | _ => none

theorem vc_LDueLater (n : Nat) (a d : List Int) (b now : Int) (r : AV) : VC Try.prog (tabS tabDH) (oneL 14 Llater) false 14 [.sl n [.int .i64 a, .int .i64 d], .int .u32 b, .int .u32 now] r = (
  br (igt (ofN n) 100) (some (AV.bool true) = some r)
    (asrt (band (nle n 100) (band (ile 0 (ofN n)) (laterB b 0 [] [] 0 [] [] 0)))
      ((∀ (k' : Nat) (ka' kd' : List Int) (l' : Nat) (la' ld' : List Int),
          laterB b k' ka' kd' l' la' ld' 100 = true →
            asrt (nle k' 900000)
              (asrt (nle l' 900000)
                (asrt (nle (lenI (lateL ka' kd' (icnv IntKind.i64 now))) big)
                  (some
                      (AV.bool
                        (bite
                          (sameI (lateL ka' kd' (icnv IntKind.i64 now))
                            (lateL la' ld' (iadd IntKind.i64 (icnv IntKind.i64 now) (icnv IntKind.i64 b))))
                          (ieq (ofN k') (ofN l')) false)) =
                    some r)))) ∧
        ∀ (k' : Nat) (ka' kd' : List Int) (l' : Nat) (la' ld' : List Int), some (AV.bool true) = some r))) := by kernel_rfl

theorem ok_LDueLater : PureOK Try.prog 14 FLDueLater := by
  refine tab_loops mixed (l := tabDH) ok_tabDH false Llater (by kernel_rfl) ok_Llater fun xs b r h hb wf => ?_
  unfold FLDueLater at h
  split at h
  · rename_i n a d b now
    cases h
    try rw [some_f] at hb
    try simp only [WFL, WF, List.mem_cons, List.not_mem_nil, or_false, forall_eq_or_imp, forall_eq, Col.len, and_true, true_and] at wf
    rw [vc_LDueLater]
    obtain ⟨wa, wd⟩ : a.length = n ∧ d.length = n := by grind
    obtain ⟨P, rfl, rfl, rfl⟩ := as_P wa wd
    simp only [bite_and, bite_or]
    unfold inU at hb
    simp only [band_t, decide_eq_true_eq] at hb
    obtain ⟨⟨b0, b1⟩, n0, n1⟩ := hb
    rw [br_iff, igt_t, igt_f, ofN_e]
    refine ⟨fun _ => trivial, fun hlen => ?_⟩
    have hnil : bnd [] := fun p hp => (List.not_mem_nil hp).elim
    have onil : okP [] := ⟨fun p hp => (List.not_mem_nil hp).elim, List.Pairwise.nil, List.Pairwise.nil⟩
    have h0 := later_mk (b := b) (K := []) (m := 0) onil hnil (by simp) b0 b1
    rw [asrt_iff]
    refine ⟨?_, fun k ka kd l la ld hl => ?_, fun _ _ _ _ _ _ => trivial⟩
    · simp only [band_t, nle_t, ile_t]
      exact ⟨by omega, by omega, h0⟩
    · obtain ⟨K, ho, hb, rfl, rfl, rfl, rfl, rfl, rfl, hm, _, _⟩ := later_of hl
      have c : icnv .i64 b = b := wr (by omega) (by omega)
      have c1 : icnv .i64 now = now := wr (by omega) (by omega)
      have c2 : iadd .i64 now b = now + b := wr (by omega) (by omega)
      have q2 : nle K.length 900000 = true := by rw [nle_t]; omega
      have q3 : nle (shift b K).length 900000 = true := by rw [nle_t, len_shift]; omega
      have s1 : ∀ l : List Int, sameI l l = true := fun l => by simp [sameI]
      have f : ieq (ofN K.length) (ofN K.length) = true := by rw [ieq_t]
      have q4 : nle (lenI (lateP K now)) big = true := by
        refine big_le ?_
        unfold lateP
        split
        · rw [lenI_e, pi_len]
          have := List.length_filter_le (fun p : Int × Int => decide (p.1 ≤ now)) K
          omega
        · exact Nat.zero_le _
      simp only [lateL_P]
      rw [c, c1, c2, q2, q3, lateP_shift ho hb b0 b1, q4, s1, len_shift, f]
      rfl
  · cases h


theorem in_u32 {n : Int} (h : (Lit.int .u32 n).wf = true) : 0 ≤ n ∧ n < 4294967296 := by
  simp [Lit.wf, IntKind.min, IntKind.max, IntKind.signed, IntKind.bits] at h
  omega

theorem law_DueLater (a0 : List (Int × Int)) (a1 a2 : Int) (_ : True) (h1 : (Lit.int .u32 a1).wf = true) (h2 : (Lit.int .u32 a2).wf = true) :
    ∃ b, FLDueLater [.sl a0.length [.int .i64 (a0.map fun e => e.1), .int .i64 (a0.map fun e => e.2)], .int .u32 a1, .int .u32 a2] = some (b, .bool true) ∧ b ≠ some false := ⟨_, rfl, by simp [inU, band, in_u32 h1, in_u32 h2]⟩

end Go.Own
