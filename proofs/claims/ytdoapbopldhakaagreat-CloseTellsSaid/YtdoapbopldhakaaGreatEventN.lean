/- Events. -/
import Derived.Test.YtdoapbopldhakaaGreatLineN
namespace Go.Own
open Go Go.Proofs
set_option maxRecDepth 100000
set_option linter.unusedVariables false
set_option linter.unusedSimpArgs false

def evOk (ep : Int) (l : List Int) : Bool := decide (0 ≤ ep) && decide (ep ≤ 1099511627776) && lineOk l

def prepE (ep : Int) (l : List Int) : Int := if evOk ep l then ep else -1

def commitB (ep : Int) (l : List Int) (seen id : Int) : Bool := evOk ep l && enterOk l id && decide (ep = seen)

def commitL (ep : Int) (l : List Int) (seen id : Int) : List Int := if commitB ep l seen id then l ++ [id] else l

def commitE (ep : Int) (l : List Int) (id : Int) : Int := if evOk ep l then enterE l id else 40

def comeE (ep : Int) (l : List Int) : Int := if evOk ep l then imin (ep + 1) 1099511627776 else ep

def oneL1 (ep : Int) (l : List Int) : List Int := if evOk ep l then l.tail else l

def oneO (ep : Int) (l : List Int) : List Int := if evOk ep l then l.take 1 else []

def tellV (ep : Int) (l : List Int) : Int := if evOk ep l then l.headD 0 else 0

def oneB (ep : Int) (l : List Int) : Bool := evOk ep l && !l.isEmpty

def allL (ep : Int) (l : List Int) : List Int := if evOk ep l then [] else l

def allO (ep : Int) (l : List Int) : List Int := if evOk ep l then l else []

def cancelB (ep : Int) (l : List Int) (id : Int) : Bool := evOk ep l && l.contains id

def cancelL (ep : Int) (l : List Int) (id : Int) : List Int := if cancelB ep l id then l.eraseIdx (placeAt l id).toNat else l


theorem enterE_zero (l : List Int) (id : Int) : enterE l id = 0 ↔ enterOk l id = true := by
  unfold enterE enterOk
  cases lineOk l <;> cases badId id <;> cases l.contains id <;> simp

theorem evOk_line {ep : Int} {l : List Int} (h : evOk ep l = true) : lineOk l = true ∧ 0 ≤ ep ∧ ep ≤ 1099511627776 := by
  unfold evOk at h
  simp at h
  exact ⟨h.2, h.1.1, h.1.2⟩

theorem leaveE_zero (l : List Int) (id : Int) : leaveE l id = 0 ↔ lineOk l = true ∧ l.contains id = true := by
  unfold leaveE
  cases h : lineOk l with
  | true =>
    have := place_has id h
    split <;> simp at this ⊢ <;> grind
  | false =>
    simp [placeAt, h]

def tabE0 : List (FuncId × Pure1) := [(89, Fcheck), (107, Fnext), (70, Fclone), (20, Fints)]

theorem ok_tabE0 : ∀ p ∈ tabE0, PureOK Tryz.prog p.1 p.2 := by
  intro p hp
  simp only [tabE0, List.mem_cons, List.not_mem_nil, or_false] at hp
  rcases hp with rfl | rfl | rfl | rfl
  · exact ok_check
  · exact ok_next
  · exact ok_clone
  · exact ok_ints


def FevCheck : Pure1 := fun
  | [.agg [.int .i64 ep, .sl n [.int .i64 l]]] => some (some (nle n room), .bool (evOk ep l))
  | _ => none

theorem vc_evCheck (ep : Int) (n : Nat) (l : List Int) (r : AV) : VC Tryz.prog (tabS tabE0) noL false 66 [.agg [.int .i64 ep, .sl n [.int .i64 l]]] r = (
  asrt (bimp (bite (ige ep 0) (ile ep 1099511627776) false) (nle n 1073741824))
    (some (AV.bool (bite (bite (ige ep 0) (ile ep 1099511627776) false) (lineOk l) false)) = some r)) := by kernel_rfl

theorem ok_evCheck : PureOK Tryz.prog 66 FevCheck := by
  refine tab_plain mixed (l := tabE0) ok_tabE0 false (by kernel_rfl) fun xs b r h hb wf => ?_
  unfold FevCheck at h
  split at h
  · rename_i ep n l
    cases h
    try rw [some_f] at hb
    try simp only [WFL, WF, List.mem_cons, List.not_mem_nil, or_false, forall_eq_or_imp, forall_eq, Col.len, and_true, true_and] at wf
    rw [vc_evCheck]
    simp [asrt_iff, br_iff, ieq_t, ieq_f, ine_t, ine_f, ilt_t, ilt_f, ile_t, ile_f, igt_t, igt_f, ige_t, ige_f, nlt_t, nlt_f, nle_t, nle_f, neq_t, neq_f, beq2_t, beq2_f, bnot_t, bnot_f, band_t, band_f, bite_t, bite_f, bimp_t, bimp_f, iadd_e, isub_e, imul_e, ofN_e, nOf_e, nAdd_e, nDiff_e, room_e, lenI_e, gI_e, gB_e, imin_e, imax_e, cat_e, pt_e, put_e, some_f] at hb ⊢
    grind [evOk, ieq, ine, ilt, ile, igt, ige, nlt, nle, neq, beq2, bnot, band, bite, bimp, le_big]
  · cases h


def FevOwn : Pure1 := fun
  | [.agg [.int .i64 ep, .sl n [.int .i64 l]]] => some (some (nle n room), .agg [.int .i64 ep, .own 3 n [.int .i64 l]])
  | _ => none

theorem vc_evOwn (ep : Int) (n : Nat) (l : List Int) (r : AV) : VC Tryz.prog (tabS tabE0) noL true 97 [.agg [.int .i64 ep, .sl n [.int .i64 l]]] r = (
  asrt (nle n 1073741824) (some (AV.agg [AV.int IntKind.i64 ep, AV.own 3 n [Col.int IntKind.i64 l]]) = some r)) := by kernel_rfl

theorem ok_evOwn : PureOK Tryz.prog 97 FevOwn := by
  refine tab_plain mixed (l := tabE0) ok_tabE0 true (by kernel_rfl) fun xs b r h hb wf => ?_
  unfold FevOwn at h
  split at h
  · rename_i ep n l
    cases h
    try rw [some_f] at hb
    try simp only [WFL, WF, List.mem_cons, List.not_mem_nil, or_false, forall_eq_or_imp, forall_eq, Col.len, and_true, true_and] at wf
    rw [vc_evOwn]
    simp [asrt_iff, br_iff, ieq_t, ieq_f, ine_t, ine_f, ilt_t, ilt_f, ile_t, ile_f, igt_t, igt_f, ige_t, ige_f, nlt_t, nlt_f, nle_t, nle_f, neq_t, neq_f, beq2_t, beq2_f, bnot_t, bnot_f, band_t, band_f, bite_t, bite_f, bimp_t, bimp_f, iadd_e, isub_e, imul_e, ofN_e, nOf_e, nAdd_e, nDiff_e, room_e, lenI_e, gI_e, gB_e, imin_e, imax_e, cat_e, pt_e, put_e, some_f] at hb ⊢
    grind
  · cases h


def FevSame : Pure1 := fun
  | [.agg [.int .i64 ep, .sl n [.int .i64 l]], .agg [.int .i64 ep', .sl n' [.int .i64 l']]] => some (some (nle n big), .bool (band (sameI l l') (ieq ep ep')))
  | _ => none

theorem vc_evSame (ep : Int) (n : Nat) (l : List Int) (ep' : Int) (n' : Nat) (l' : List Int) (r : AV) : VC Tryz.prog (tabS tabE0) noL false 21 [.agg [.int .i64 ep, .sl n [.int .i64 l]], .agg [.int .i64 ep', .sl n' [.int .i64 l']]] r = (
asrt (nle n big) (some (AV.bool (bite (sameI l l') (ieq ep ep') false)) = some r)) := by kernel_rfl

theorem ok_evSame : PureOK Tryz.prog 21 FevSame := by
  refine tab_plain mixed (l := tabE0) ok_tabE0 false (by kernel_rfl) fun xs b r h hb wf => ?_
  unfold FevSame at h
  split at h
  · rename_i ep n l ep' n' l'
    cases h
    try rw [some_f] at hb
    try simp only [WFL, WF, List.mem_cons, List.not_mem_nil, or_false, forall_eq_or_imp, forall_eq, Col.len, and_true, true_and] at wf
    rw [vc_evSame]
    simp [asrt_iff, br_iff, ieq_t, ieq_f, ine_t, ine_f, ilt_t, ilt_f, ile_t, ile_f, igt_t, igt_f, ige_t, ige_f, nlt_t, nlt_f, nle_t, nle_f, neq_t, neq_f, beq2_t, beq2_f, bnot_t, bnot_f, band_t, band_f, bite_t, bite_f, bimp_t, bimp_f, iadd_e, isub_e, imul_e, ofN_e, nOf_e, nAdd_e, nDiff_e, room_e, lenI_e, gI_e, gB_e, imin_e, imax_e, cat_e, pt_e, put_e, some_f] at hb ⊢
    grind [ieq, ine, ilt, ile, igt, ige, nlt, nle, neq, beq2, bnot, band, bite, bimp, le_big]
  · cases h


def tabE1 : List (FuncId × Pure1) := [(66, FevCheck), (97, FevOwn), (21, FevSame)] ++ tabE0

theorem ok_tabE1 : ∀ p ∈ tabE1, PureOK Tryz.prog p.1 p.2 := by
  intro p hp
  simp only [tabE1, List.mem_append, List.mem_cons, List.not_mem_nil, or_false] at hp
  rcases hp with (rfl | rfl | rfl) | hp
  · exact ok_evCheck
  · exact ok_evOwn
  · exact ok_evSame
  · exact ok_tabE0 p hp





def Lone : Nat → Option LoopS := fun i => match i with
  | 0 => some (.unroll 2)
  | _ => none

theorem ok_Lone : ∀ i x, Lone i = some x → LoopHyp Tryz.prog 77 i x := by
  intro i s h
  unfold Lone at h
  split at h
  · cases h; trivial
  · cases h



def tabE2 : List (FuncId × Pure1) := [] ++ tabE1

theorem ok_tabE2 : ∀ p ∈ tabE2, PureOK Tryz.prog p.1 p.2 := by
  intro p hp
  exact ok_tabE1 p (by simpa [tabE2] using hp)



def spec_comeAll : LoopSpec := { n := 45, keep := [1, 4, 6, 7, 8], srcs := [.tmp 4, .tmp 6, .cell 1 1, .tmp 7], keepE := [4, 6, 7], srcsE := [.tmp 4, .tmp 6, .cell 1 1, .tmp 7], goes := fun vals objs Q => match vals, objs with
  | [.fn (.func 78) [] [], .ptr 0 0 0, .ptr 1 0 0, .full 3, .fn (.func 98) [.ptr 1 0 0] []], [some (.var [.int .i64 z, .sl q [.int .i64 zl]]), some (.var [.int .i64 ep, .full 2]), some (.row 3 k [.int .i64 l]), some (.row 3 k' [.int .i64 out])] => asrt (band (lineOk l) (nle (nAdd k k') room)) (Q (.exit 0) [.ptr 0 0 0, .ptr 1 0 0, .full 3] [some (.var [.int .i64 z, .sl q [.int .i64 zl]]), some (.var [.int .i64 ep, .full 2]), some (.row 3 0 [.int .i64 []]), some (.row 3 (lenI (cat out l)) [.int .i64 (cat out l)])])
  | _, _ => False }

theorem lp_comeAll (z : Int) (q : Nat) (zl : List Int) (ep : Int) (k : Nat) (l : List Int) (k' : Nat) (out : List Int) (mu : List AV → Heap → Nat) (Q : Ex → List AV → Heap → Prop) : runCode Tryz.prog (tabS tabE1) (callN Tryz.prog (tabS tabE1) noL 11) (fun _ => none) (bodyOf Tryz.prog 77 0) 0 ⟨mkT (spec_comeAll).keep [.fn (.func 78) [] [], .ptr 0 0 0, .ptr 1 0 0, .full 3, .fn (.func 98) [.ptr 1 0 0] []] (spec_comeAll).n 0, [some (.var [.int .i64 z, .sl q [.int .i64 zl]]), some (.var [.int .i64 ep, .full 2]), some (.row 3 k [.int .i64 l]), some (.row 3 k' [.int .i64 out])]⟩ ((spec_comeAll).ends mu [.fn (.func 78) [] [], .ptr 0 0 0, .ptr 1 0 0, .full 3, .fn (.func 98) [.ptr 1 0 0] []] ([some (.var [.int .i64 z, .sl q [.int .i64 zl]]), some (.var [.int .i64 ep, .full 2]), some (.row 3 k [.int .i64 l]), some (.row 3 k' [.int .i64 out])]) Q) = (
  asrt (nle k 1073741824)
    (br (bnot (nextB l))
      (Q (Ex.exit 0) [AV.ptr 0 0 0, AV.ptr 1 0 0, AV.full 3]
        [some (AObj.var [AV.int IntKind.i64 z, AV.sl q [Col.int IntKind.i64 zl]]),
          some (AObj.var [AV.int IntKind.i64 ep, AV.full 2]),
          some (AObj.row 3 (lenI (nextL l)) [Col.int IntKind.i64 (nextL l)]),
          some (AObj.row 3 k' [Col.int IntKind.i64 out])])
      (asrt (nle (nAdd k' 1) 17592186044416)
        ((mu [AV.fn (Fn.func 78) [] [], AV.ptr 0 0 0, AV.ptr 1 0 0, AV.full 3, AV.fn (Fn.func 98) [AV.ptr 1 0 0] []]
                  [some (AObj.var [AV.int IntKind.i64 z, AV.sl q [Col.int IntKind.i64 zl]]),
                    some (AObj.var [AV.int IntKind.i64 ep, AV.full 2]),
                    some (AObj.row 3 (lenI (nextL l)) [Col.int IntKind.i64 (nextL l)]),
                    some (AObj.row 3 (nAdd k' 1) [Col.int IntKind.i64 (cat out [nextV l])])]).succ.le
            (mu [AV.fn (Fn.func 78) [] [], AV.ptr 0 0 0, AV.ptr 1 0 0, AV.full 3, AV.fn (Fn.func 98) [AV.ptr 1 0 0] []]
              [some (AObj.var [AV.int IntKind.i64 z, AV.sl q [Col.int IntKind.i64 zl]]),
                some (AObj.var [AV.int IntKind.i64 ep, AV.full 2]), some (AObj.row 3 k [Col.int IntKind.i64 l]),
                some (AObj.row 3 k' [Col.int IntKind.i64 out])]) ∧
          asrt (band (lineOk (nextL l)) (nle (nAdd (lenI (nextL l)) (nAdd k' 1)) 1073741824))
            (Q (Ex.exit 0) [AV.ptr 0 0 0, AV.ptr 1 0 0, AV.full 3]
              [some (AObj.var [AV.int IntKind.i64 z, AV.sl q [Col.int IntKind.i64 zl]]),
                some (AObj.var [AV.int IntKind.i64 ep, AV.full 2]), some (AObj.row 3 0 [Col.int IntKind.i64 []]),
                some
                  (AObj.row 3 (lenI (cat (cat out [nextV l]) (nextL l)))
                    [Col.int IntKind.i64 (cat (cat out [nextV l]) (nextL l))])]))))) := by kernel_rfl

theorem loop_comeAll : LoopOK Tryz.prog (bodyOf Tryz.prog 77 0) spec_comeAll.summ := by
  refine tab_loop mixed (l := tabE1) ok_tabE1 (i := 0) spec_comeAll (fun vals objs => match vals, objs with
    | [.fn (.func 78) [] [], .ptr 0 0 0, .ptr 1 0 0, .full 3, .fn (.func 98) [.ptr 1 0 0] []], [some (.var [.int .i64 z, .sl q [.int .i64 zl]]), some (.var [.int .i64 ep, .full 2]), some (.row 3 k [.int .i64 l]), some (.row 3 k' [.int .i64 out])] => k
    | _, _ => 0) fun vals objs Q h1 h2 wf wo hg => ?_
  unfold spec_comeAll at hg
  simp only at hg
  split at hg
  · rename_i z q zl ep k l k' out
    clear h1 h2
    try simp only [WFL, WF, List.mem_cons, List.not_mem_nil, or_false, forall_eq_or_imp, forall_eq, Col.len, and_true, true_and] at wf
    rw [lp_comeAll]
    have wo' := wo
    simp [WFH, WFO, Col.len] at wo'
    obtain ⟨_, _, rfl, rfl⟩ := wo'
    simp [asrt_iff, br_iff, ieq_t, ieq_f, ine_t, ine_f, ilt_t, ilt_f, ile_t, ile_f, igt_t, igt_f, ige_t, ige_f, nlt_t, nlt_f, nle_t, nle_f, neq_t, neq_f, beq2_t, beq2_f, bnot_t, bnot_f, band_t, band_f, bite_t, bite_f, bimp_t, bimp_f, iadd_e, isub_e, imul_e, ofN_e, nOf_e, nAdd_e, nDiff_e, room_e, lenI_e, gI_e, gB_e, imin_e, imax_e, cat_e, pt_e, put_e, some_f] at hg ⊢
    obtain ⟨⟨hl, hn⟩, hg⟩ := hg
    cases l with
    | nil => simpa [nextB, nextL] using hg
    | cons x l =>
      have hB : nextB (x :: l) = true := by simp [nextB, hl]
      have hl2 : lineOk l = true := by
        rw [lineOk_iff] at hl ⊢
        exact ⟨fun y hy => hl.1 y (by simp [hy]), (List.nodup_cons.1 hl.2).2⟩
      simp at hn
      simp [hB, nextL, nextV, hl2]
      refine ⟨by omega, by omega, by omega, ?_⟩
      simpa using hg
  · exact hg.elim


def LcomeAll : Nat → Option LoopS := fun i => match i with
  | 0 => some (.summ spec_comeAll.summ)
  | _ => none

theorem ok_LcomeAll : ∀ i x, LcomeAll i = some x → LoopHyp Tryz.prog 77 i x := by
  intro i s h
  unfold LcomeAll at h
  split at h
  · cases h; exact ⟨by kernel_rfl, loop_comeAll⟩
  · cases h


def FcomeAll : Pure1 := fun
  | [.agg [.int .i64 ep, .sl n [.int .i64 l]], .fn (.func 78) [] []] => some (some (nle n room), .tup [.agg [.int .i64 (comeE ep l), .own 3 (lenI (allL ep l)) [.int .i64 (allL ep l)]], .own 3 (lenI (allO ep l)) [.int .i64 (allO ep l)]])
  | _ => none

theorem vc_comeAll (ep : Int) (n : Nat) (l : List Int) (r : AV) : VC Tryz.prog (tabS tabE1) (oneL 77 LcomeAll) true 77 [.agg [.int .i64 ep, .sl n [.int .i64 l]], .fn (.func 78) [] []] r = (
  asrt (nle n 1073741824)
    (asrt (nle n 1073741824)
      (br (bnot (evOk ep l))
        (some
            (AV.tup
              [AV.agg [AV.int IntKind.i64 ep, AV.own 3 n [Col.int IntKind.i64 l]],
                AV.own 3 0 [Col.int IntKind.i64 []]]) =
          some r)
        (asrt (band (lineOk l) (nle (nAdd n 0) 1073741824))
          (some
              (AV.tup
                [AV.agg
                    [AV.int IntKind.i64 (imin (iadd IntKind.i64 ep 1) 1099511627776),
                      AV.own 3 0 [Col.int IntKind.i64 []]],
                  AV.own 3 (lenI (cat [] l)) [Col.int IntKind.i64 (cat [] l)]]) =
            some r))))) := by kernel_rfl

theorem ok_comeAll : PureOK Tryz.prog 77 FcomeAll := by
  refine tab_loops mixed (l := tabE1) ok_tabE1 true LcomeAll (by kernel_rfl) ok_LcomeAll fun xs b r h hb wf => ?_
  unfold FcomeAll at h
  split at h
  · rename_i ep n l
    cases h
    try rw [some_f] at hb
    try simp only [WFL, WF, List.mem_cons, List.not_mem_nil, or_false, forall_eq_or_imp, forall_eq, Col.len, and_true, true_and] at wf
    rw [vc_comeAll]
    simp [asrt_iff, br_iff, ieq_t, ieq_f, ine_t, ine_f, ilt_t, ilt_f, ile_t, ile_f, igt_t, igt_f, ige_t, ige_f, nlt_t, nlt_f, nle_t, nle_f, neq_t, neq_f, beq2_t, beq2_f, bnot_t, bnot_f, band_t, band_f, bite_t, bite_f, bimp_t, bimp_f, iadd_e, isub_e, imul_e, ofN_e, nOf_e, nAdd_e, nDiff_e, room_e, lenI_e, gI_e, gB_e, imin_e, imax_e, cat_e, pt_e, put_e, some_f] at hb ⊢
    refine ⟨hb, fun hk => ?_, fun hk => ?_⟩
    · simp [comeE, allL, allO, hk, wf]
    · obtain ⟨hl, h0, h1⟩ := evOk_line hk
      rw [wr (by omega) (by omega)]
      simp [comeE, allL, allO, hk, hb, hl, imin_e]
  · cases h


def tabE3 : List (FuncId × Pure1) := [(77, FcomeAll)] ++ tabE1

theorem ok_tabE3 : ∀ p ∈ tabE3, PureOK Tryz.prog p.1 p.2 := by
  intro p hp
  simp only [tabE3, List.mem_append, List.mem_cons, List.not_mem_nil, or_false] at hp
  rcases hp with (rfl) | hp
  · exact ok_comeAll
  · exact ok_tabE1 p hp


def FnotifyAll : Pure1 := fun
  | [.agg [.int .i64 ep, .sl n [.int .i64 l]]] => some (some (nle n room), .tup [.agg [.int .i64 (comeE ep l), .own 3 (lenI (allL ep l)) [.int .i64 (allL ep l)]], .own 3 (lenI (allO ep l)) [.int .i64 (allO ep l)]])
  | _ => none

theorem vc_notifyAll (ep : Int) (n : Nat) (l : List Int) (r : AV) : VC Tryz.prog (tabS tabE3) noL true 53 [.agg [.int .i64 ep, .sl n [.int .i64 l]]] r = (
  asrt (nle n 1073741824)
    (some
        (AV.tup
          [AV.agg [AV.int IntKind.i64 (comeE ep l), AV.own 3 (lenI (allL ep l)) [Col.int IntKind.i64 (allL ep l)]],
            AV.own 3 (lenI (allO ep l)) [Col.int IntKind.i64 (allO ep l)]]) =
      some r)) := by kernel_rfl

theorem ok_notifyAll : PureOK Tryz.prog 53 FnotifyAll := by
  refine tab_plain mixed (l := tabE3) ok_tabE3 true (by kernel_rfl) fun xs b r h hb wf => ?_
  unfold FnotifyAll at h
  split at h
  · rename_i ep n l
    cases h
    try rw [some_f] at hb
    try simp only [WFL, WF, List.mem_cons, List.not_mem_nil, or_false, forall_eq_or_imp, forall_eq, Col.len, and_true, true_and] at wf
    rw [vc_notifyAll]
    simp [asrt_iff, br_iff, ieq_t, ieq_f, ine_t, ine_f, ilt_t, ilt_f, ile_t, ile_f, igt_t, igt_f, ige_t, ige_f, nlt_t, nlt_f, nle_t, nle_f, neq_t, neq_f, beq2_t, beq2_f, bnot_t, bnot_f, band_t, band_f, bite_t, bite_f, bimp_t, bimp_f, iadd_e, isub_e, imul_e, ofN_e, nOf_e, nAdd_e, nDiff_e, room_e, lenI_e, gI_e, gB_e, imin_e, imax_e, cat_e, pt_e, put_e, some_f] at hb ⊢
    exact hb
  · cases h


end Go.Own
