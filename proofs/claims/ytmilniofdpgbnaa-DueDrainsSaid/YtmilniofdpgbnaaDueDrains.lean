/- Law: dues whose first one is taken out come in order, till none is left. -/
import Derived.Test.YtmilniofdpgbnaaDueOpen
namespace Go.Own
open Go Go.Proofs
set_option maxRecDepth 100000
set_option linter.unusedVariables false
set_option linter.unusedSimpArgs false

/-- What is left when the first i are gone. -/
def leftB (n : Nat) (a d : List Int) (k : Nat) (ra rd : List Int) (i : Int) : Bool := dueOk a d && decide (0 ≤ i ∧ i ≤ n ∧ n ≤ 100 ∧ k = n - i.toNat ∧ ra = a.drop i.toNat ∧ rd = d.drop i.toNat)


theorem okP_sub {P Q : Prs} (h : okP P) (hs : Q.Sublist P) : okP Q := ⟨fun p hp => h.1 p (hs.subset hp), h.2.1.sublist hs, h.2.2.sublist (hs.map _)⟩

theorem drop_first {p : Int × Int} {R : Prs} (h : okP (p :: R)) : dropB (pa (p :: R)) (pi (p :: R)) p.2 = true ∧ dropP (p :: R) p.2 = R := by
  have hb : dropB (pa (p :: R)) (pi (p :: R)) p.2 = true := by
    rw [dropB_P h]
    simp [pi]
  refine ⟨hb, ?_⟩
  unfold dropP
  rw [if_pos hb, List.filter_cons_of_neg (by simp), List.filter_eq_self]
  intro q hq
  have h' := List.nodup_cons.1 (show (p.2 :: pi R).Nodup from h.2.2)
  simp
  exact fun e => h'.1 (e ▸ List.mem_map_of_mem hq)

def spec_drains : LoopSpec := { n := 71, keep := [0, 3, 4, 5], srcs := [], keepE := [3, 4], srcsE := [], goes := fun vals objs Q => match vals, objs with
  | [.sl n [.int .i64 a, .int .i64 d], .bool up, .sl k [.int .i64 ra, .int .i64 rd], .int .i64 i], [] => asrt (leftB n a d k ra rd i) (Q (.exit 0) [.bool up, .sl 0 [.int .i64 [], .int .i64 []]] [])
  | _, _ => False }

theorem lp_drains (n : Nat) (a d : List Int) (up : Bool) (k : Nat) (ra rd : List Int) (i : Int) (mu : List AV → Heap → Nat) (Q : Ex → List AV → Heap → Prop) : runCode Try.prog (tabS tabDH) (callN Try.prog (tabS tabDH) noL 11) (fun _ => none) (bodyOf Try.prog 13 0) 0 ⟨mkT (spec_drains).keep [.sl n [.int .i64 a, .int .i64 d], .bool up, .sl k [.int .i64 ra, .int .i64 rd], .int .i64 i] (spec_drains).n 0, []⟩ ((spec_drains).ends mu [.sl n [.int .i64 a, .int .i64 d], .bool up, .sl k [.int .i64 ra, .int .i64 rd], .int .i64 i] ([]) Q) = (
  br (ilt i (ofN n))
    (asrt (nle k 900000)
      (asrt (nle k 900000)
        (asrt (bimp (bnot (bnot (firB ra rd))) (band (ile 0 i) (ilt i (ofN n))))
          (br
            (bite
              (bite (bnot (firB ra rd)) true
                (bnot (band (ieq (firA ra rd) (gI a (nOf i))) (band (ieq (firI ra rd) (gI d (nOf i))) true))))
              true (ine (dropE ra rd (firI ra rd)) 0))
            (Q Ex.ret [AV.bool up, AV.sl k [Col.int IntKind.i64 ra, Col.int IntKind.i64 rd]] [])
            ((mu
                      [AV.sl n [Col.int IntKind.i64 a, Col.int IntKind.i64 d], AV.bool up,
                        AV.sl (dropN k ra rd (firI ra rd))
                          [Col.int IntKind.i64 (dropA ra rd (firI ra rd)),
                            Col.int IntKind.i64 (dropI ra rd (firI ra rd))],
                        AV.int IntKind.i64 (iadd IntKind.i64 i 1)]
                      []).succ.le
                (mu
                  [AV.sl n [Col.int IntKind.i64 a, Col.int IntKind.i64 d], AV.bool up,
                    AV.sl k [Col.int IntKind.i64 ra, Col.int IntKind.i64 rd], AV.int IntKind.i64 i]
                  []) ∧
              asrt
                (leftB n a d (dropN k ra rd (firI ra rd)) (dropA ra rd (firI ra rd)) (dropI ra rd (firI ra rd))
                  (iadd IntKind.i64 i 1))
                (Q (Ex.exit 0) [AV.bool up, AV.sl 0 [Col.int IntKind.i64 [], Col.int IntKind.i64 []]] []))))))
    (Q (Ex.exit 0) [AV.bool up, AV.sl k [Col.int IntKind.i64 ra, Col.int IntKind.i64 rd]] [])) := by kernel_rfl

theorem loop_drains : LoopOK Try.prog (bodyOf Try.prog 13 0) spec_drains.summ := by
  refine tab_loop mixed (l := tabDH) ok_tabDH (i := 0) spec_drains (fun vals objs => match vals, objs with
    | [.sl n [.int .i64 a, .int .i64 d], .bool up, .sl k [.int .i64 ra, .int .i64 rd], .int .i64 i], [] => (n - i).toNat
    | _, _ => 0) fun vals objs Q h1 h2 wf wo hg => ?_
  unfold spec_drains at hg
  simp only at hg
  split at hg
  · rename_i n a d up k ra rd i
    clear h1 h2
    try simp only [WFL, WF, List.mem_cons, List.not_mem_nil, or_false, forall_eq_or_imp, forall_eq, Col.len, and_true, true_and] at wf
    rw [lp_drains]
    have wa : a.length = n := by grind
    have wd : d.length = n := by grind
    clear wf wo
    obtain ⟨P, rfl, rfl, rfl⟩ := as_P wa wd
    have eP := wa
    rw [asrt_iff] at hg
    obtain ⟨hl, hg⟩ := hg
    have hl' := hl
    unfold leftB at hl
    rw [Bool.and_eq_true, decide_eq_true_eq] at hl
    obtain ⟨hok, h0, hn, hh, rfl, rfl, rfl⟩ := hl
    have ho := (dueOk_P P).1 hok
    obtain ⟨j, rfl⟩ := Int.eq_ofNat_of_zero_le h0
    have hw : IntKind.i64.wrap ((j : Int) + 1) = (j : Int) + 1 := wr (by omega) (by omega)
    have e4 : iadd .i64 (j : Int) 1 = (j : Int) + 1 := by rw [iadd_e, hw]
    have e6 : nOf (j : Int) = j := nOf_n
    have e7 : (j : Int).toNat = j := Int.toNat_natCast j
    have ea : (pa P).drop j = pa (P.drop j) := by unfold pa; rw [List.map_drop]
    have ed : (pi P).drop j = pi (P.drop j) := by unfold pi; rw [List.map_drop]
    rw [br_iff, ilt_t, ilt_f, ofN_e, e6, e7, ea, ed]
    refine ⟨fun hk => ?_, fun hk => ?_⟩
    · have hj : j < P.length := by omega
      have hc : P.drop j = P[j] :: P.drop (j + 1) := List.drop_eq_getElem_cons hj
      have hlen : P.length - j = (P[j] :: P.drop (j + 1)).length := by simp only [List.length_cons, List.length_drop]; omega
      have hop : okP (P[j] :: P.drop (j + 1)) := by
        rw [← hc]
        exact okP_sub ho (List.drop_sublist _ _)
      obtain ⟨f1, f2, f3⟩ := firA_P hop
      obtain ⟨b1, b2⟩ := drop_first hop
      have d0 : dropE (pa (P[j] :: P.drop (j + 1))) (pi (P[j] :: P.drop (j + 1))) (P[j]).2 = 0 := by unfold dropE; rw [b1]; rfl
      have g1 : gI (pa P) j = (P[j]).1 := pa_get hj
      have g2 : gI (pi P) j = (P[j]).2 := pi_get hj
      have q1 : nle (P[j] :: P.drop (j + 1)).length 900000 = true := by rw [nle_t, ← hlen]; omega
      have q2 : band (ile 0 (j : Int)) (ilt (j : Int) P.length) = true := by rw [band_t, ile_t, ilt_t]; omega
      have f : ∀ n : Int, ieq n n = true := fun n => by rw [ieq_t]
      rw [hc, hlen, f1, f2, f3, g1, g2, f, f, d0, q1, q2, e4, dropN_P, dropA_P, dropI_P, b2]
      refine ⟨?_, ?_⟩
      · show ((P.length : Int) - ((j : Int) + 1)).toNat + 1 ≤ ((P.length : Int) - (j : Int)).toNat
        omega
      · rw [asrt_iff]
        refine ⟨?_, hg⟩
        unfold leftB
        rw [hok, Bool.true_and, decide_eq_true_eq]
        have e8 : ((j : Int) + 1).toNat = j + 1 := by omega
        rw [e8]
        refine ⟨by omega, by omega, hh, by simp, ?_, ?_⟩
        · unfold pa; rw [List.map_drop]
        · unfold pi; rw [List.map_drop]
    · have hj : P.length = j := by omega
      have hc : P.drop j = [] := List.drop_eq_nil_of_le (by omega)
      have hz : P.length - j = 0 := by omega
      rw [hc, hz]
      exact hg
  · exact hg.elim


def Ldrains : Nat → Option LoopS := fun i => match i with
  | 0 => some (.summ spec_drains.summ)
  | _ => none

theorem ok_Ldrains : ∀ i x, Ldrains i = some x → LoopHyp Try.prog 13 i x := by
  intro i s h
  unfold Ldrains at h
  split at h
  · cases h; exact ⟨by kernel_rfl, loop_drains⟩
  · cases h


def FLDueDrains : Pure1 := fun
  | [.sl n [.int .i64 a, .int .i64 d]] => some (none, .bool true)
  | _ => none

theorem vc_LDueDrains (n : Nat) (a d : List Int) (r : AV) : VC Try.prog (tabS tabDH) (oneL 13 Ldrains) false 13 [.sl n [.int .i64 a, .int .i64 d]] r = (
  asrt (bimp (bnot (igt (ofN n) 100)) (nle n 1000000))
    (br (bite (igt (ofN n) 100) true (bnot (dueOk a d))) (some (AV.bool true) = some r)
      (asrt (leftB n a d n a d 0) (some (AV.bool (bnot (firB [] []))) = some r)))) := by kernel_rfl

theorem ok_LDueDrains : PureOK Try.prog 13 FLDueDrains := by
  refine tab_loops mixed (l := tabDH) ok_tabDH false Ldrains (by kernel_rfl) ok_Ldrains fun xs b r h hb wf => ?_
  unfold FLDueDrains at h
  split at h
  · rename_i n a d
    cases h
    try rw [some_f] at hb
    try simp only [WFL, WF, List.mem_cons, List.not_mem_nil, or_false, forall_eq_or_imp, forall_eq, Col.len, and_true, true_and] at wf
    rw [vc_LDueDrains]
    obtain ⟨wa, wd⟩ : a.length = n ∧ d.length = n := by simpa using wf
    obtain ⟨P, rfl, rfl, rfl⟩ := as_P wa wd
    simp only [bite_and, bite_or]
    by_cases hlen : P.length ≤ 100
    · have g1 : igt (ofN P.length) 100 = false := by rw [igt_f, ofN_e]; omega
      have q1 : nle P.length 1000000 = true := by rw [nle_t]; omega
      rw [g1, q1]
      cases hok : dueOk (pa P) (pi P) with
      | false => trivial
      | true =>
        have hl : leftB P.length (pa P) (pi P) P.length (pa P) (pi P) 0 = true := by
          unfold leftB
          rw [hok]
          simp
          omega
        rw [hl]
        rfl
    · have g1 : igt (ofN P.length) 100 = true := by rw [igt_t, ofN_e]; omega
      rw [g1]
      trivial
  · cases h


theorem law_DueDrains (a0 : List (Int × Int)) (_ : True) :
    ∃ b, FLDueDrains [.sl a0.length [.int .i64 (a0.map fun e => e.1), .int .i64 (a0.map fun e => e.2)]] = some (b, .bool true) ∧ b ≠ some false := ⟨_, rfl, by simp⟩

end Go.Own
