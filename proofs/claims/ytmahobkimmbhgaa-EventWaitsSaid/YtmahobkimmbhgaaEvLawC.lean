/- A law of events. -/
import Derived.Test.YtmahobkimmbhgaaEvLaw
namespace Go.Own
open Go Go.Proofs
set_option maxRecDepth 100000
set_option linter.unusedVariables false
set_option linter.unusedSimpArgs false

def endE (ep i : Int) : Int := imin (ep + i) 1099511627776

def oneInv (ep : Int) (n : Nat) (l : List Int) (xe : Int) (x told : List Int) (i : Int) : Bool := decide (0 ≤ i) && decide (i ≤ n) && decide (n ≤ 100) && evOk ep l && decide (xe = endE ep i) && (x == l.drop i.toNat) && (told == l.take i.toNat)


theorem lineOk_drop {l : List Int} (h : lineOk l = true) (j : Nat) : lineOk (l.drop j) = true := by
  rw [lineOk_iff] at h ⊢
  exact ⟨fun x hx => h.1 x (List.mem_of_mem_drop hx), h.2.sublist (List.drop_sublist _ _)⟩

theorem endE_e (ep i : Int) : endE ep i = min (ep + i) 1099511627776 := by simp [endE, imin_e]

theorem evOk_drop {ep : Int} {l : List Int} (h : evOk ep l = true) (j : Nat) : evOk (endE ep j) (l.drop j) = true := by
  obtain ⟨h1, h2, h3⟩ := evOk_line h
  exact evOk_of (by rw [endE_e]; omega) (by rw [endE_e]; omega) (lineOk_drop h1 j)

theorem come_end {ep : Int} {l : List Int} (h : evOk ep l = true) (j : Nat) : comeE (endE ep j) (l.drop j) = endE ep ((j : Int) + 1) := by
  obtain ⟨h1, h2, h3⟩ := evOk_line h
  have r0 := endE_e ep j
  have r1 := endE_e ep ((j : Int) + 1)
  simp only [comeE, evOk_drop h j, if_true, imin_e]
  omega

theorem one_end {ep : Int} {l : List Int} (h : evOk ep l = true) (j : Nat) : oneL1 (endE ep j) (l.drop j) = l.drop (j + 1) := by
  simp [oneL1, evOk_drop h j]

def spec_evOne : LoopSpec := { n := 83, keep := [1, 3, 5, 6, 7, 8], srcs := [.tmp 1, .tmp 6, .tmp 7], keepE := [1, 3, 5, 6, 7], srcsE := [.tmp 1, .tmp 6, .tmp 7], goes := fun vals objs Q => match vals, objs with
  | [.ptr 0 0 0, .bool up, .sl q [.int .i64 al], .ptr 1 0 0, .full 2, .int .i64 i], [some (.var [.int .i64 ep, .sl n [.int .i64 l]]), some (.var [.int .i64 xe, .sl k [.int .i64 x]]), some (.row 3 k' [.int .i64 told])] => asrt (oneInv ep n l xe x told i) (Q (.exit 0) [.ptr 0 0 0, .bool up, .sl q [.int .i64 al], .ptr 1 0 0, .full 2] [some (.var [.int .i64 ep, .sl n [.int .i64 l]]), some (.var [.int .i64 (endE ep (ofN n)), .sl 0 [.int .i64 []]]), some (.row 3 n [.int .i64 l])])
  | _, _ => False }

theorem lp_evOne (up : Bool) (q : Nat) (al : List Int) (i : Int) (ep : Int) (n : Nat) (l : List Int) (xe : Int) (k : Nat) (x : List Int) (k' : Nat) (told : List Int) (mu : List AV → Heap → Nat) (Q : Ex → List AV → Heap → Prop) : runCode Try.prog (tabS tabE5) (callN Try.prog (tabS tabE5) noL 11) (fun _ => none) (bodyOf Try.prog 4 0) 0 ⟨mkT (spec_evOne).keep [.ptr 0 0 0, .bool up, .sl q [.int .i64 al], .ptr 1 0 0, .full 2, .int .i64 i] (spec_evOne).n 0, [some (.var [.int .i64 ep, .sl n [.int .i64 l]]), some (.var [.int .i64 xe, .sl k [.int .i64 x]]), some (.row 3 k' [.int .i64 told])]⟩ ((spec_evOne).ends mu [.ptr 0 0 0, .bool up, .sl q [.int .i64 al], .ptr 1 0 0, .full 2, .int .i64 i] [some (.var [.int .i64 ep, .sl n [.int .i64 l]]), some (.var [.int .i64 xe, .sl k [.int .i64 x]]), some (.row 3 k' [.int .i64 told])] Q) = (
  br (ilt i (ofN n))
    (asrt (nle k 1073741824)
      (br (bite (bnot (oneB xe x)) true (ine (comeE xe x) (imin (iadd IntKind.i64 xe 1) 1099511627776)))
        (Q Ex.ret [AV.ptr 0 0 0, AV.bool up, AV.sl q [Col.int IntKind.i64 al], AV.ptr 1 0 0, AV.full 2]
          [some (AObj.var [AV.int IntKind.i64 ep, AV.sl n [Col.int IntKind.i64 l]]),
            some (AObj.var [AV.int IntKind.i64 xe, AV.sl k [Col.int IntKind.i64 x]]),
            some (AObj.row 3 k' [Col.int IntKind.i64 told])])
        (asrt (nle (nAdd k' 1) 1073741824)
          ((mu
                    [AV.ptr 0 0 0, AV.bool up, AV.sl q [Col.int IntKind.i64 al], AV.ptr 1 0 0, AV.full 2,
                      AV.int IntKind.i64 (iadd IntKind.i64 i 1)]
                    [some (AObj.var [AV.int IntKind.i64 ep, AV.sl n [Col.int IntKind.i64 l]]),
                      some
                        (AObj.var
                          [AV.int IntKind.i64 (comeE xe x),
                            AV.sl (lenI (oneL1 xe x)) [Col.int IntKind.i64 (oneL1 xe x)]]),
                      some (AObj.row 3 (nAdd k' 1) [Col.int IntKind.i64 (cat told [tellV xe x])])]).succ.le
              (mu
                [AV.ptr 0 0 0, AV.bool up, AV.sl q [Col.int IntKind.i64 al], AV.ptr 1 0 0, AV.full 2,
                  AV.int IntKind.i64 i]
                [some (AObj.var [AV.int IntKind.i64 ep, AV.sl n [Col.int IntKind.i64 l]]),
                  some (AObj.var [AV.int IntKind.i64 xe, AV.sl k [Col.int IntKind.i64 x]]),
                  some (AObj.row 3 k' [Col.int IntKind.i64 told])]) ∧
            asrt (oneInv ep n l (comeE xe x) (oneL1 xe x) (cat told [tellV xe x]) (iadd IntKind.i64 i 1))
              (Q (Ex.exit 0) [AV.ptr 0 0 0, AV.bool up, AV.sl q [Col.int IntKind.i64 al], AV.ptr 1 0 0, AV.full 2]
                [some (AObj.var [AV.int IntKind.i64 ep, AV.sl n [Col.int IntKind.i64 l]]),
                  some (AObj.var [AV.int IntKind.i64 (endE ep (ofN n)), AV.sl 0 [Col.int IntKind.i64 []]]),
                  some (AObj.row 3 n [Col.int IntKind.i64 l])])))))
    (Q (Ex.exit 0) [AV.ptr 0 0 0, AV.bool up, AV.sl q [Col.int IntKind.i64 al], AV.ptr 1 0 0, AV.full 2]
      [some (AObj.var [AV.int IntKind.i64 ep, AV.sl n [Col.int IntKind.i64 l]]),
        some (AObj.var [AV.int IntKind.i64 xe, AV.sl k [Col.int IntKind.i64 x]]),
        some (AObj.row 3 k' [Col.int IntKind.i64 told])])) := by kernel_rfl

theorem loop_evOne : LoopOK Try.prog (bodyOf Try.prog 4 0) spec_evOne.summ := by
  refine tab_loop mixed (l := tabE5) ok_tabE5 (i := 0) spec_evOne (fun vals objs => match vals, objs with
    | [.ptr 0 0 0, .bool up, .sl q [.int .i64 al], .ptr 1 0 0, .full 2, .int .i64 i], [some (.var [.int .i64 ep, .sl n [.int .i64 l]]), some (.var [.int .i64 xe, .sl k [.int .i64 x]]), some (.row 3 k' [.int .i64 told])] => (n - i).toNat
    | _, _ => 0) fun vals objs Q h1 h2 wf wo hg => ?_
  unfold spec_evOne at hg
  simp only at hg
  split at hg
  · rename_i up q al i ep n l xe k x k' told
    clear h1 h2
    try simp only [WFL, WF, List.mem_cons, List.not_mem_nil, or_false, forall_eq, Col.len, and_true, true_and] at wf
    rw [lp_evOne]
    simp [asrt_iff, br_iff, ieq_t, ieq_f, ine_t, ine_f, ilt_t, ilt_f, ile_t, ile_f, igt_t, igt_f, ige_t, ige_f, nlt_t, nlt_f, nle_t, nle_f, neq_t, neq_f, beq2_t, beq2_f, bnot_t, bnot_f, band_t, band_f, bite_t, bite_f, bimp_t, bimp_f, iadd_e, isub_e, imul_e, ofN_e, nOf_e, nAdd_e, nDiff_e, room_e, lenI_e, gI_e, gB_e, imin_e, imax_e, cat_e, pt_e, put_e, some_f] at hg ⊢
    simp [WFH, WFO, Col.len, WFL, WF] at wo
    obtain ⟨hinv, hg⟩ := hg
    simp [oneInv, and_assoc] at hinv
    obtain ⟨h0, hn, hc, hk, e1, e2, e3⟩ := hinv
    subst e1 e2 e3
    obtain ⟨hl, p0, p1⟩ := evOk_line hk
    obtain ⟨j, rfl⟩ := Int.eq_ofNat_of_zero_le h0
    have hj : (j : Int).toNat = j := by omega
    simp only [hj] at wo hg ⊢
    obtain ⟨w1, w2, w3⟩ := wo
    refine ⟨fun hlt => ?_, fun hge => ?_⟩
    · have hlt' : j < l.length := by omega
      have hd : l.drop j = l[j] :: l.drop (j + 1) := List.drop_eq_getElem_cons hlt'
      have hok := evOk_drop hk j
      have o1 : oneB (endE ep j) (l.drop j) = true := by
        have hne : (l.drop j).isEmpty = false := by rw [hd]; rfl
        simp only [oneB, hok, hne]; rfl
      have o2 := come_end hk j
      have o3 := one_end hk j
      have o4 : tellV (endE ep j) (l.drop j) = l[j] := by
        have hh : (l.drop j).headD 0 = l[j] := by rw [hd]; rfl
        simp only [tellV, hok, if_true, hh]
      have r0 := endE_e ep j
      have r1 := endE_e ep ((j : Int) + 1)
      have o5 : min (IntKind.i64.wrap (endE ep j + 1)) 1099511627776 = endE ep ((j : Int) + 1) := by
        rw [wr (by omega) (by omega)]; omega
      have o6 : IntKind.i64.wrap ((j : Int) + 1) = (j : Int) + 1 := wr (by omega) (by omega)
      have e5 : ((j : Int) + 1).toNat = j + 1 := by omega
      have hinv2 : oneInv ep n l (endE ep ((j : Int) + 1)) (l.drop (j + 1)) (l.take j ++ [l[j]]) ((j : Int) + 1) = true := by
        simp only [oneInv, e5, hk, Bool.and_eq_true, decide_eq_true_eq, beq_iff_eq]
        refine ⟨⟨⟨⟨⟨⟨by omega, by omega⟩, by omega⟩, trivial⟩, trivial⟩, trivial⟩, ?_⟩
        rw [List.take_succ_eq_append_getElem hlt']
      simp only [o1, o2, o3, o4, o5, o6, hinv2]
      simp at w2 w3
      exact ⟨by omega, fun h => absurd trivial (h trivial), fun _ _ => ⟨by omega, by omega, trivial, hg⟩⟩
    · have hjn : j = n := by omega
      have hd : l.drop j = [] := List.drop_eq_nil_of_le (by omega)
      have ht : l.take j = l := List.take_of_length_le (by omega)
      rw [hd] at w2 ⊢
      rw [ht] at w3 ⊢
      simp at w2
      subst w2
      subst hjn
      have hkj : k' = j := by omega
      subst hkj
      exact hg
  · exact hg.elim


def LevOne : Nat → Option LoopS := fun i => match i with
  | 0 => some (.summ spec_evOne.summ)
  | _ => none

theorem ok_LevOne : ∀ i s, LevOne i = some (.summ s) → onlyLoop Try.prog 4 i = true ∧ LoopOK Try.prog (bodyOf Try.prog 4 i) s := by
  intro i s h
  unfold LevOne at h
  split at h
  · cases h; exact ⟨by kernel_rfl, loop_evOne⟩
  · cases h


def FLEventOne : Pure1 := fun
  | [.agg [.int .i64 ep, .sl n [.int .i64 l]]] => some (none, .bool true)
  | _ => none

theorem vc_LEventOne (ep : Int) (n : Nat) (l : List Int) (r : AV) : VC Try.prog (tabS tabE5) (oneL 4 LevOne) false 4 [.agg [.int .i64 ep, .sl n [.int .i64 l]]] r = (
  asrt (bimp (bnot (igt (ofN n) 100)) (nle n 1073741824))
    (br (bite (igt (ofN n) 100) true (bnot (evOk ep l))) (some (AV.bool true) = some r)
      (asrt (nle n 1073741824)
        (asrt (oneInv ep n l ep l [] 0)
          (asrt (nle 0 1073741824)
            (asrt (bimp true (nle (lenI (allO ep l)) big))
              (asrt (bimp (bite true (sameI (allO ep l) l) false) (nle n big))
                (some
                    (AV.bool
                      (bite (bite (bite true (sameI (allO ep l) l) false) (sameI l l) false)
                        (bnot (oneB (endE ep (ofN n)) [])) false)) =
                  some r)))))))) := by kernel_rfl

theorem ok_LEventOne : PureOK Try.prog 4 FLEventOne := by
  refine tab_loops mixed (l := tabE5) ok_tabE5 false LevOne (by kernel_rfl) ok_LevOne fun xs b r h hb wf => ?_
  unfold FLEventOne at h
  split at h
  · rename_i ep n l
    cases h
    try rw [some_f] at hb
    try simp only [WFL, WF, List.mem_cons, List.not_mem_nil, or_false, forall_eq, Col.len, and_true, true_and] at wf
    rw [vc_LEventOne]
    by_cases hn : n ≤ 100
    · have b1 : n ≤ 1073741824 := by omega
      have b3 : ¬ (100 : Int) < (n : Int) := by omega
      have b0 : (n : Int) ≤ 100 := by omega
      have b4 : n ≤ big := le_big b1
      cases hk : evOk ep l with
      | false => simp [asrt_iff, br_iff, ieq_t, ieq_f, ine_t, ine_f, ilt_t, ilt_f, ile_t, ile_f, igt_t, igt_f, ige_t, ige_f, nlt_t, nlt_f, nle_t, nle_f, neq_t, neq_f, beq2_t, beq2_f, bnot_t, bnot_f, band_t, band_f, bite_t, bite_f, bimp_t, bimp_f, iadd_e, isub_e, imul_e, ofN_e, nOf_e, nAdd_e, nDiff_e, room_e, lenI_e, gI_e, gB_e, imin_e, imax_e, cat_e, pt_e, put_e, some_f, hk, b1, b3, b0]
      | true =>
        obtain ⟨hl, h0, h1⟩ := evOk_line hk
        have a1 : allO ep l = l := by simp [allO, hk]
        have i1 : oneInv ep n l ep l [] 0 = true := by
          simp [oneInv, and_assoc, hk, hn, endE_e]
          omega
        have s1 : sameI l l = true := by simp [sameI]
        have s2 : oneB (endE ep n) [] = false := by simp [oneB]
        simp [asrt_iff, br_iff, ieq_t, ieq_f, ine_t, ine_f, ilt_t, ilt_f, ile_t, ile_f, igt_t, igt_f, ige_t, ige_f, nlt_t, nlt_f, nle_t, nle_f, neq_t, neq_f, beq2_t, beq2_f, bnot_t, bnot_f, band_t, band_f, bite_t, bite_f, bimp_t, bimp_f, iadd_e, isub_e, imul_e, ofN_e, nOf_e, nAdd_e, nDiff_e, room_e, lenI_e, gI_e, gB_e, imin_e, imax_e, cat_e, pt_e, put_e, some_f, hk, b1, b3, b0, b4, a1, i1, s1, s2, wf]
    · have b3 : (100 : Int) < (n : Int) := by omega
      have b0 : ¬ (n : Int) ≤ 100 := by omega
      simp [asrt_iff, br_iff, ieq_t, ieq_f, ine_t, ine_f, ilt_t, ilt_f, ile_t, ile_f, igt_t, igt_f, ige_t, ige_f, nlt_t, nlt_f, nle_t, nle_f, neq_t, neq_f, beq2_t, beq2_f, bnot_t, bnot_f, band_t, band_f, bite_t, bite_f, bimp_t, bimp_f, iadd_e, isub_e, imul_e, ofN_e, nOf_e, nAdd_e, nDiff_e, room_e, lenI_e, gI_e, gB_e, imin_e, imax_e, cat_e, pt_e, put_e, some_f, b3, b0]
  · cases h


theorem law_EventOne (a0 : Int × List Int) (_ : ((Lit.int .i64 a0.1).wf = true ∧ a0.2.length ≤ maxLen ∧ ∀ x ∈ a0.2, (Lit.int .i64 x).wf = true)) : ∃ b, FLEventOne [.agg [.int .i64 a0.1, .sl a0.2.length [.int .i64 a0.2]]] = some (b, .bool true) ∧ b ≠ some false := ⟨none, rfl, by simp⟩

end Go.Own
