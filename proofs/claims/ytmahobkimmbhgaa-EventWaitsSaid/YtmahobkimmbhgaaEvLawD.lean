/- A law of events. -/
import Derived.Test.YtmahobkimmbhgaaEvLawC
namespace Go.Own
open Go Go.Proofs
set_option maxRecDepth 100000
set_option linter.unusedVariables false
set_option linter.unusedSimpArgs false

def waitInv (ep : Int) (n : Nat) (l : List Int) (id at_ : Int) (xe : Int) (x : List Int) (i : Int) : Bool := decide (0 ≤ i) && decide (i ≤ n + 1) && decide (n ≤ 100) && evOk ep l && decide (at_ = placeAt l id) && decide (xe = endE ep i) && (x == l.drop i.toNat)


def spec_evWait : LoopSpec := { n := 60, keep := [1, 2, 5, 6, 7, 8], srcs := [.tmp 2, .tmp 7], keepE := [1, 5, 7], srcsE := [.tmp 7], goes := fun vals objs Q => match vals, objs with
  | [.int .i64 id, .ptr 0 0 0, .bool up, .int .i64 at_, .ptr 1 0 0, .int .i64 i], [some (.var [.int .i64 ep, .sl n [.int .i64 l]]), some (.var [.int .i64 xe, .sl k [.int .i64 x]])] => asrt (waitInv ep n l id at_ xe x i) (Q (.exit 0) [.int .i64 id, .bool up, .ptr 0 0 0] [some (.var [.int .i64 (endE ep (ofN (nAdd n 1))), .sl 0 [.int .i64 []]])])
  | _, _ => False }

theorem lp_evWait (id : Int) (up : Bool) (at_ i : Int) (ep : Int) (n : Nat) (l : List Int) (xe : Int) (k : Nat) (x : List Int) (mu : List AV → Heap → Nat) (Q : Ex → List AV → Heap → Prop) : runCode Try.prog (tabS tabE5) (callN Try.prog (tabS tabE5) noL 11) (fun _ => none) (bodyOf Try.prog 6 0) 0 ⟨mkT (spec_evWait).keep [.int .i64 id, .ptr 0 0 0, .bool up, .int .i64 at_, .ptr 1 0 0, .int .i64 i] (spec_evWait).n 0, [some (.var [.int .i64 ep, .sl n [.int .i64 l]]), some (.var [.int .i64 xe, .sl k [.int .i64 x]])]⟩ ((spec_evWait).ends mu [.int .i64 id, .ptr 0 0 0, .bool up, .int .i64 at_, .ptr 1 0 0, .int .i64 i] [some (.var [.int .i64 ep, .sl n [.int .i64 l]]), some (.var [.int .i64 xe, .sl k [.int .i64 x]])] Q) = (
  br (ile i (ofN n))
    (asrt (nle k 1073741824)
      (br (bite (oneB xe x) (bnot (beq2 (ieq (tellV xe x) id) (ieq i at_))) false)
        (Q Ex.ret [AV.int IntKind.i64 id, AV.bool up, AV.ptr 0 0 0]
          [some (AObj.var [AV.int IntKind.i64 xe, AV.sl k [Col.int IntKind.i64 x]])])
        ((mu
                  [AV.int IntKind.i64 id, AV.ptr 0 0 0, AV.bool up, AV.int IntKind.i64 at_, AV.ptr 1 0 0,
                    AV.int IntKind.i64 (iadd IntKind.i64 i 1)]
                  [some (AObj.var [AV.int IntKind.i64 ep, AV.sl n [Col.int IntKind.i64 l]]),
                    some
                      (AObj.var
                        [AV.int IntKind.i64 (comeE xe x),
                          AV.sl (lenI (oneL1 xe x)) [Col.int IntKind.i64 (oneL1 xe x)]])]).succ.le
            (mu
              [AV.int IntKind.i64 id, AV.ptr 0 0 0, AV.bool up, AV.int IntKind.i64 at_, AV.ptr 1 0 0,
                AV.int IntKind.i64 i]
              [some (AObj.var [AV.int IntKind.i64 ep, AV.sl n [Col.int IntKind.i64 l]]),
                some (AObj.var [AV.int IntKind.i64 xe, AV.sl k [Col.int IntKind.i64 x]])]) ∧
          asrt (waitInv ep n l id at_ (comeE xe x) (oneL1 xe x) (iadd IntKind.i64 i 1))
            (Q (Ex.exit 0) [AV.int IntKind.i64 id, AV.bool up, AV.ptr 0 0 0]
              [some (AObj.var [AV.int IntKind.i64 (endE ep (ofN (nAdd n 1))), AV.sl 0 [Col.int IntKind.i64 []]])]))))
    (Q (Ex.exit 0) [AV.int IntKind.i64 id, AV.bool up, AV.ptr 0 0 0]
      [some (AObj.var [AV.int IntKind.i64 xe, AV.sl k [Col.int IntKind.i64 x]])])) := by kernel_rfl

theorem loop_evWait : LoopOK Try.prog (bodyOf Try.prog 6 0) spec_evWait.summ := by
  refine tab_loop mixed (l := tabE5) ok_tabE5 (i := 0) spec_evWait (fun vals objs => match vals, objs with
    | [.int .i64 id, .ptr 0 0 0, .bool up, .int .i64 at_, .ptr 1 0 0, .int .i64 i], [some (.var [.int .i64 ep, .sl n [.int .i64 l]]), some (.var [.int .i64 xe, .sl k [.int .i64 x]])] => (n + 1 - i).toNat
    | _, _ => 0) fun vals objs Q h1 h2 wf wo hg => ?_
  unfold spec_evWait at hg
  simp only at hg
  split at hg
  · rename_i id up at_ i ep n l xe k x
    clear h1 h2
    try simp only [WFL, WF, List.mem_cons, List.not_mem_nil, or_false, forall_eq, Col.len, and_true, true_and] at wf
    rw [lp_evWait]
    simp [asrt_iff, br_iff, ieq_t, ieq_f, ine_t, ine_f, ilt_t, ilt_f, ile_t, ile_f, igt_t, igt_f, ige_t, ige_f, nlt_t, nlt_f, nle_t, nle_f, neq_t, neq_f, beq2_t, beq2_f, bnot_t, bnot_f, band_t, band_f, bite_t, bite_f, bimp_t, bimp_f, iadd_e, isub_e, imul_e, ofN_e, nOf_e, nAdd_e, nDiff_e, room_e, lenI_e, gI_e, gB_e, imin_e, imax_e, cat_e, pt_e, put_e, some_f] at hg ⊢
    simp [WFH, WFO, Col.len, WFL, WF] at wo
    obtain ⟨hinv, hg⟩ := hg
    simp [waitInv, and_assoc] at hinv
    obtain ⟨h0, hn, hc, hk, e1, e2, e3⟩ := hinv
    subst e1 e2 e3
    obtain ⟨hl, p0, p1⟩ := evOk_line hk
    obtain ⟨j, rfl⟩ := Int.eq_ofNat_of_zero_le h0
    have hj : (j : Int).toNat = j := by omega
    simp only [hj] at wo hg ⊢
    obtain ⟨w1, w2⟩ := wo
    refine ⟨fun hlt => ?_, fun hge => ?_⟩
    · have hok := evOk_drop hk j
      have o2 := come_end hk j
      have o3 := one_end hk j
      have o6 : IntKind.i64.wrap ((j : Int) + 1) = (j : Int) + 1 := wr (by omega) (by omega)
      have e5 : ((j : Int) + 1).toNat = j + 1 := by omega
      have hinv2 : waitInv ep n l id (placeAt l id) (endE ep ((j : Int) + 1)) (l.drop (j + 1)) ((j : Int) + 1) = true := by
        simp only [waitInv, e5, hk, Bool.and_eq_true, decide_eq_true_eq, beq_iff_eq]
        exact ⟨⟨⟨⟨⟨⟨by omega, by omega⟩, by omega⟩, trivial⟩, trivial⟩, trivial⟩, trivial⟩
      have key : oneB (endE ep j) (l.drop j) = true → (tellV (endE ep j) (l.drop j) = id ↔ (j : Int) = placeAt l id) := by
        intro ho
        have hlt' : j < l.length := by
          rcases Nat.lt_or_ge j l.length with h | h
          · exact h
          · rw [List.drop_eq_nil_of_le h] at ho; simp [oneB] at ho
        have hd : l.drop j = l[j] :: l.drop (j + 1) := List.drop_eq_getElem_cons hlt'
        have hh : (l.drop j).headD 0 = l[j] := by rw [hd]; rfl
        simp only [tellV, hok, if_true, hh]
        unfold placeAt
        rw [if_pos hl]
        have hnd := ((lineOk_iff l).1 hl).2
        rcases idxAt_cases l id with ⟨q1, q2⟩ | ⟨m, hm, q1, q2, q3⟩
        · rw [q1]
          exact ⟨fun h => absurd (h ▸ List.getElem_mem hlt') q2, fun h => by omega⟩
        · rw [q1]
          constructor
          · intro h
            have := (List.getElem_inj hnd).1 (h.trans q2.symm)
            omega
          · intro h
            have : j = m := by omega
            subst this
            exact q2
      simp only [o2, o3, o6, hinv2]
      simp at w2
      have key2 : oneB (endE ep j) (l.drop j) = true → ieq (tellV (endE ep j) (l.drop j)) id = ieq (j : Int) (placeAt l id) := fun ho => by
        rw [Bool.eq_iff_iff, ieq_t, ieq_t]; exact key ho
      exact ⟨by omega, fun h ho => absurd (key2 ho) (h ho), fun _ => ⟨by omega, trivial, hg⟩⟩
    · have hjn : j = n + 1 := by omega
      have hd : l.drop j = [] := List.drop_eq_nil_of_le (by omega)
      rw [hd] at w2 ⊢
      simp at w2
      subst w2
      subst hjn
      simpa using hg
  · exact hg.elim


def LevWait : Nat → Option LoopS := fun i => match i with
  | 0 => some (.summ spec_evWait.summ)
  | _ => none

theorem ok_LevWait : ∀ i s, LevWait i = some (.summ s) → onlyLoop Try.prog 6 i = true ∧ LoopOK Try.prog (bodyOf Try.prog 6 i) s := by
  intro i s h
  unfold LevWait at h
  split at h
  · cases h; exact ⟨by kernel_rfl, loop_evWait⟩
  · cases h


def FLEventWaits : Pure1 := fun
  | [.agg [.int .i64 ep, .sl n [.int .i64 l]], .int .i64 id] => some (none, .bool true)
  | _ => none

theorem vc_LEventWaits (ep : Int) (n : Nat) (l : List Int) (id : Int) (r : AV) : VC Try.prog (tabS tabE5) (oneL 6 LevWait) false 6 [.agg [.int .i64 ep, .sl n [.int .i64 l]], .int .i64 id] r = (
  asrt (bimp (bnot (igt (ofN n) 100)) (nle n 1073741824))
    (br (bite (igt (ofN n) 100) true (bnot (evOk ep l))) (some (AV.bool true) = some r)
      (asrt (nle n 1073741824)
        (asrt (waitInv ep n l id (placeAt l id) ep l 0)
          (asrt (bimp true (nle 0 1073741824))
            (some (AV.bool (bite true (ieq (placeAt [] id) (-1)) false)) = some r)))))) := by kernel_rfl

theorem ok_LEventWaits : PureOK Try.prog 6 FLEventWaits := by
  refine tab_loops mixed (l := tabE5) ok_tabE5 false LevWait (by kernel_rfl) ok_LevWait fun xs b r h hb wf => ?_
  unfold FLEventWaits at h
  split at h
  · rename_i ep n l id
    cases h
    try rw [some_f] at hb
    try simp only [WFL, WF, List.mem_cons, List.not_mem_nil, or_false, forall_eq, Col.len, and_true, true_and] at wf
    rw [vc_LEventWaits]
    by_cases hn : n ≤ 100
    · have b1 : n ≤ 1073741824 := by omega
      have b3 : ¬ (100 : Int) < (n : Int) := by omega
      have b0 : (n : Int) ≤ 100 := by omega
      cases hk : evOk ep l with
      | false => simp [asrt_iff, br_iff, ieq_t, ieq_f, ine_t, ine_f, ilt_t, ilt_f, ile_t, ile_f, igt_t, igt_f, ige_t, ige_f, nlt_t, nlt_f, nle_t, nle_f, neq_t, neq_f, beq2_t, beq2_f, bnot_t, bnot_f, band_t, band_f, bite_t, bite_f, bimp_t, bimp_f, iadd_e, isub_e, imul_e, ofN_e, nOf_e, nAdd_e, nDiff_e, room_e, lenI_e, gI_e, gB_e, imin_e, imax_e, cat_e, pt_e, put_e, some_f, hk, b1, b3, b0]
      | true =>
        obtain ⟨hl, h0, h1⟩ := evOk_line hk
        have i1 : waitInv ep n l id (placeAt l id) ep l 0 = true := by
          simp [waitInv, and_assoc, hk, hn, endE_e]
          omega
        have s2 : placeAt [] id = -1 := by simp [placeAt, lineOk_nil, idxAt]
        simp [asrt_iff, br_iff, ieq_t, ieq_f, ine_t, ine_f, ilt_t, ilt_f, ile_t, ile_f, igt_t, igt_f, ige_t, ige_f, nlt_t, nlt_f, nle_t, nle_f, neq_t, neq_f, beq2_t, beq2_f, bnot_t, bnot_f, band_t, band_f, bite_t, bite_f, bimp_t, bimp_f, iadd_e, isub_e, imul_e, ofN_e, nOf_e, nAdd_e, nDiff_e, room_e, lenI_e, gI_e, gB_e, imin_e, imax_e, cat_e, pt_e, put_e, some_f, hk, b1, b3, b0, i1, s2, wf]
    · have b3 : (100 : Int) < (n : Int) := by omega
      have b0 : ¬ (n : Int) ≤ 100 := by omega
      simp [asrt_iff, br_iff, ieq_t, ieq_f, ine_t, ine_f, ilt_t, ilt_f, ile_t, ile_f, igt_t, igt_f, ige_t, ige_f, nlt_t, nlt_f, nle_t, nle_f, neq_t, neq_f, beq2_t, beq2_f, bnot_t, bnot_f, band_t, band_f, bite_t, bite_f, bimp_t, bimp_f, iadd_e, isub_e, imul_e, ofN_e, nOf_e, nAdd_e, nDiff_e, room_e, lenI_e, gI_e, gB_e, imin_e, imax_e, cat_e, pt_e, put_e, some_f, b3, b0]
  · cases h


theorem law_EventWaits (a0 : Int × List Int) (a1 : Int) (_ : ((Lit.int .i64 a0.1).wf = true ∧ a0.2.length ≤ maxLen ∧ ∀ x ∈ a0.2, (Lit.int .i64 x).wf = true)) (_ : (Lit.int .i64 a1).wf = true) : ∃ b, FLEventWaits [.agg [.int .i64 a0.1, .sl a0.2.length [.int .i64 a0.2]], .int .i64 a1] = some (b, .bool true) ∧ b ≠ some false := ⟨none, rfl, by simp⟩

end Go.Own
