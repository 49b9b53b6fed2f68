/- The document's answer for what is the same: told where it is. -/
import Derived.Test.YtdoapbopldhakaaGreatFabG
namespace Go.Own
open Go Go.Proofs
set_option maxRecDepth 100000
set_option linter.unusedVariables false
set_option linter.unusedSimpArgs false

def slEq (n : Nat) (ss sv : List Int) (n' : Nat) (ss' sv' : List Int) : Bool := decide (n = n' ∧ ss = ss' ∧ sv = sv')

def thEq (n : Nat) (st kd vl un pc rg sn tr : List Int) (lt : List Bool) (rs gt : List Int) (n' : Nat) (st' kd' vl' un' pc' rg' sn' tr' : List Int) (lt' : List Bool) (rs' gt' : List Int) : Bool := decide (n = n' ∧ st = st' ∧ kd = kd' ∧ vl = vl' ∧ un = un' ∧ pc = pc' ∧ rg = rg' ∧ sn = sn' ∧ tr = tr' ∧ lt = lt' ∧ rs = rs' ∧ gt = gt')

def loEq (n : Nat) (c0 ks vs rr gs : List Int) (n' : Nat) (c0' ks' vs' rr' gs' : List Int) : Bool := decide (n = n' ∧ c0 = c0' ∧ ks = ks' ∧ vs = vs' ∧ rr = rr' ∧ gs = gs')

def SR.few13 (s : SR) : Bool := decide (s.ns ≤ 100 ∧ s.nt ≤ 100 ∧ s.n1 ≤ 100 ∧ s.n2 ≤ 100 ∧ s.n3 ≤ 100 ∧ s.n4 ≤ 100 ∧ s.nl ≤ 200)

def SR.same (s t : SR) : Bool := decide (s = t)


def spec_slSame : LoopSpec := { n := 26, keep := [0, 1, 5], srcs := [], keepE := [], srcsE := [], goes := fun vals objs Q => match vals, objs with
  | [.sl n [.int .i64 ss, .int .i64 sv], .sl n' [.int .i64 ss', .int .i64 sv'], .int .i64 i], [] => asrt (band (nle n big) (band (ile 0 i) (band (ile i (ofN n)) (slEq n ss sv n' ss' sv')))) (Q (.exit 0) [] [])
  | _, _ => False }

theorem lp_slSame (n : Nat) (ss sv : List Int) (n' : Nat) (ss' sv' : List Int) (i : Int) (mu : List AV → Heap → Nat) (Q : Ex → List AV → Heap → Prop) : runCode Tryz.prog (tabS tab0) (callN Tryz.prog (tabS tab0) noL 11) (fun _ => none) (bodyOf Tryz.prog 19 0) 0 ⟨mkT (spec_slSame).keep [.sl n [.int .i64 ss, .int .i64 sv], .sl n' [.int .i64 ss', .int .i64 sv'], .int .i64 i] (spec_slSame).n 0, []⟩ ((spec_slSame).ends mu [.sl n [.int .i64 ss, .int .i64 sv], .sl n' [.int .i64 ss', .int .i64 sv'], .int .i64 i] ([]) Q) = (
  br (ilt i (ofN n))
    (asrt (band (ile 0 i) (ilt i (ofN n)))
      (asrt (band (ile 0 i) (ilt i (ofN n')))
        (br (bnot (band (ieq (gI ss (nOf i)) (gI ss' (nOf i))) (band (ieq (gI sv (nOf i)) (gI sv' (nOf i))) true)))
          (Q Ex.ret [] [])
          ((mu
                    [AV.sl n [Col.int IntKind.i64 ss, Col.int IntKind.i64 sv],
                      AV.sl n' [Col.int IntKind.i64 ss', Col.int IntKind.i64 sv'],
                      AV.int IntKind.i64 (iadd IntKind.i64 i 1)]
                    []).succ.le
              (mu
                [AV.sl n [Col.int IntKind.i64 ss, Col.int IntKind.i64 sv],
                  AV.sl n' [Col.int IntKind.i64 ss', Col.int IntKind.i64 sv'], AV.int IntKind.i64 i]
                []) ∧
            asrt
              (band (nle n big)
                (band (ile 0 (iadd IntKind.i64 i 1))
                  (band (ile (iadd IntKind.i64 i 1) (ofN n)) (slEq n ss sv n' ss' sv'))))
              (Q (Ex.exit 0) [] [])))))
    (Q (Ex.exit 0) [] [])) := by kernel_rfl

theorem loop_slSame : LoopOK Tryz.prog (bodyOf Tryz.prog 19 0) spec_slSame.summ := by
  refine tab_loop mixed (l := tab0) ok_tab0 (i := 0) spec_slSame (fun vals objs => match vals, objs with
    | [.sl n [.int .i64 ss, .int .i64 sv], .sl n' [.int .i64 ss', .int .i64 sv'], .int .i64 i], [] => (n - i).toNat
    | _, _ => 0) fun vals objs Q h1 h2 wf wo hg => ?_
  unfold spec_slSame at hg
  simp only at hg
  split at hg
  · rename_i n ss sv n' ss' sv' i
    clear h1 h2
    try simp only [WFL, WF, List.mem_cons, List.not_mem_nil, or_false, forall_eq_or_imp, forall_eq, Col.len, and_true, true_and] at wf
    rw [lp_slSame]
    simp only [asrt_iff, band_t, nle_t, ile_t, ofN_e, slEq, decide_eq_true_eq] at hg
    obtain ⟨⟨hb, h0, hn, he⟩, hg⟩ := hg
    obtain ⟨rfl, rfl, rfl⟩ := he
    obtain ⟨k, rfl⟩ := Int.eq_ofNat_of_zero_le h0
    have hb' : n ≤ 2 ^ 50 := by simpa [big] using hb
    have hw : IntKind.i64.wrap ((k : Int) + 1) = (k : Int) + 1 := wr (by simp at hn; omega) (by simp at hn; omega)
    simp at hn
    simp [asrt_iff, br_iff, ieq_t, ieq_f, ine_t, ine_f, ilt_t, ilt_f, ile_t, ile_f, igt_t, igt_f, ige_t, ige_f, nlt_t, nlt_f, nle_t, nle_f, neq_t, neq_f, beq2_t, beq2_f, bnot_t, bnot_f, band_t, band_f, bite_t, bite_f, bimp_t, bimp_f, iadd_e, isub_e, imul_e, ofN_e, nOf_e, nAdd_e, nDiff_e, room_e, lenI_e, gI_e, gB_e, imin_e, imax_e, cat_e, pt_e, put_e, some_f, SR.fitW_fit, SR.wid_fit, hw, hb, hg, slEq]
    omega
  · exact hg.elim


def LslSame : Nat → Option LoopS := fun i => match i with
  | 0 => some (.summ spec_slSame.summ)
  | _ => none

theorem ok_LslSame : ∀ i x, LslSame i = some x → LoopHyp Tryz.prog 19 i x := by
  intro i s h
  unfold LslSame at h
  split at h
  · cases h; exact ⟨by kernel_rfl, loop_slSame⟩
  · cases h


def FslSame : Pure1 := fun
  | [.sl n [.int .i64 ss, .int .i64 sv], .sl n' [.int .i64 ss', .int .i64 sv']] => some (some (band (nle n big) (slEq n ss sv n' ss' sv')), .bool true)
  | _ => none

theorem vc_slSame (n : Nat) (ss sv : List Int) (n' : Nat) (ss' sv' : List Int) (r : AV) : VC Tryz.prog (tabS tab0) (oneL 19 LslSame) false 19 [.sl n [.int .i64 ss, .int .i64 sv], .sl n' [.int .i64 ss', .int .i64 sv']] r = (
  br (ine (ofN n) (ofN n')) (some (AV.bool false) = some r)
    (asrt (band (nle n big) (band (ile 0 (ofN n)) (slEq n ss sv n' ss' sv'))) (some (AV.bool true) = some r))) := by kernel_rfl

theorem ok_slSame : PureOK Tryz.prog 19 FslSame := by
  refine tab_loops mixed (l := tab0) ok_tab0 false LslSame (by kernel_rfl) ok_LslSame fun xs b r h hb wf => ?_
  unfold FslSame at h
  split at h
  · rename_i n ss sv n' ss' sv'
    cases h
    try rw [some_f] at hb
    try simp only [WFL, WF, List.mem_cons, List.not_mem_nil, or_false, forall_eq_or_imp, forall_eq, Col.len, and_true, true_and] at wf
    rw [vc_slSame]
    simp only [band_t, slEq, decide_eq_true_eq] at hb
    obtain ⟨hn, he⟩ := hb
    obtain ⟨rfl, rfl, rfl⟩ := he
    simp [asrt_iff, br_iff, ieq_t, ieq_f, ine_t, ine_f, ilt_t, ilt_f, ile_t, ile_f, igt_t, igt_f, ige_t, ige_f, nlt_t, nlt_f, nle_t, nle_f, neq_t, neq_f, beq2_t, beq2_f, bnot_t, bnot_f, band_t, band_f, bite_t, bite_f, bimp_t, bimp_f, iadd_e, isub_e, imul_e, ofN_e, nOf_e, nAdd_e, nDiff_e, room_e, lenI_e, gI_e, gB_e, imin_e, imax_e, cat_e, pt_e, put_e, some_f, SR.fitW_fit, SR.wid_fit, slEq] at hn ⊢
    exact hn
  · cases h


def spec_thSame : LoopSpec := { n := 26, keep := [0, 1, 5], srcs := [], keepE := [], srcsE := [], goes := fun vals objs Q => match vals, objs with
  | [.sl n [.int .i64 st, .int .i64 kd, .int .i64 vl, .int .i64 un, .int .i64 pc, .int .i64 rg, .int .i64 sn, .int .i64 tr, .bool lt, .int .i64 rs, .int .i64 gt], .sl n' [.int .i64 st', .int .i64 kd', .int .i64 vl', .int .i64 un', .int .i64 pc', .int .i64 rg', .int .i64 sn', .int .i64 tr', .bool lt', .int .i64 rs', .int .i64 gt'], .int .i64 i], [] => asrt (band (nle n big) (band (ile 0 i) (band (ile i (ofN n)) (thEq n st kd vl un pc rg sn tr lt rs gt n' st' kd' vl' un' pc' rg' sn' tr' lt' rs' gt')))) (Q (.exit 0) [] [])
  | _, _ => False }

theorem lp_thSame (n : Nat) (st kd vl un pc rg sn tr : List Int) (lt : List Bool) (rs gt : List Int) (n' : Nat) (st' kd' vl' un' pc' rg' sn' tr' : List Int) (lt' : List Bool) (rs' gt' : List Int) (i : Int) (mu : List AV → Heap → Nat) (Q : Ex → List AV → Heap → Prop) : runCode Tryz.prog (tabS tab0) (callN Tryz.prog (tabS tab0) noL 11) (fun _ => none) (bodyOf Tryz.prog 22 0) 0 ⟨mkT (spec_thSame).keep [.sl n [.int .i64 st, .int .i64 kd, .int .i64 vl, .int .i64 un, .int .i64 pc, .int .i64 rg, .int .i64 sn, .int .i64 tr, .bool lt, .int .i64 rs, .int .i64 gt], .sl n' [.int .i64 st', .int .i64 kd', .int .i64 vl', .int .i64 un', .int .i64 pc', .int .i64 rg', .int .i64 sn', .int .i64 tr', .bool lt', .int .i64 rs', .int .i64 gt'], .int .i64 i] (spec_thSame).n 0, []⟩ ((spec_thSame).ends mu [.sl n [.int .i64 st, .int .i64 kd, .int .i64 vl, .int .i64 un, .int .i64 pc, .int .i64 rg, .int .i64 sn, .int .i64 tr, .bool lt, .int .i64 rs, .int .i64 gt], .sl n' [.int .i64 st', .int .i64 kd', .int .i64 vl', .int .i64 un', .int .i64 pc', .int .i64 rg', .int .i64 sn', .int .i64 tr', .bool lt', .int .i64 rs', .int .i64 gt'], .int .i64 i] ([]) Q) = (
  br (ilt i (ofN n))
    (asrt (band (ile 0 i) (ilt i (ofN n)))
      (asrt (band (ile 0 i) (ilt i (ofN n')))
        (br
          (bnot
            (band (ieq (gI st (nOf i)) (gI st' (nOf i)))
              (band (ieq (gI kd (nOf i)) (gI kd' (nOf i)))
                (band (ieq (gI vl (nOf i)) (gI vl' (nOf i)))
                  (band (ieq (gI un (nOf i)) (gI un' (nOf i)))
                    (band (ieq (gI pc (nOf i)) (gI pc' (nOf i)))
                      (band (ieq (gI rg (nOf i)) (gI rg' (nOf i)))
                        (band (ieq (gI sn (nOf i)) (gI sn' (nOf i)))
                          (band (ieq (gI tr (nOf i)) (gI tr' (nOf i)))
                            (band (beq2 (gB lt (nOf i)) (gB lt' (nOf i)))
                              (band (ieq (gI rs (nOf i)) (gI rs' (nOf i)))
                                (band (ieq (gI gt (nOf i)) (gI gt' (nOf i))) true))))))))))))
          (Q Ex.ret [] [])
          ((mu
                    [AV.sl n
                        [Col.int IntKind.i64 st, Col.int IntKind.i64 kd, Col.int IntKind.i64 vl, Col.int IntKind.i64 un,
                          Col.int IntKind.i64 pc, Col.int IntKind.i64 rg, Col.int IntKind.i64 sn,
                          Col.int IntKind.i64 tr, Col.bool lt, Col.int IntKind.i64 rs, Col.int IntKind.i64 gt],
                      AV.sl n'
                        [Col.int IntKind.i64 st', Col.int IntKind.i64 kd', Col.int IntKind.i64 vl',
                          Col.int IntKind.i64 un', Col.int IntKind.i64 pc', Col.int IntKind.i64 rg',
                          Col.int IntKind.i64 sn', Col.int IntKind.i64 tr', Col.bool lt', Col.int IntKind.i64 rs',
                          Col.int IntKind.i64 gt'],
                      AV.int IntKind.i64 (iadd IntKind.i64 i 1)]
                    []).succ.le
              (mu
                [AV.sl n
                    [Col.int IntKind.i64 st, Col.int IntKind.i64 kd, Col.int IntKind.i64 vl, Col.int IntKind.i64 un,
                      Col.int IntKind.i64 pc, Col.int IntKind.i64 rg, Col.int IntKind.i64 sn, Col.int IntKind.i64 tr,
                      Col.bool lt, Col.int IntKind.i64 rs, Col.int IntKind.i64 gt],
                  AV.sl n'
                    [Col.int IntKind.i64 st', Col.int IntKind.i64 kd', Col.int IntKind.i64 vl', Col.int IntKind.i64 un',
                      Col.int IntKind.i64 pc', Col.int IntKind.i64 rg', Col.int IntKind.i64 sn',
                      Col.int IntKind.i64 tr', Col.bool lt', Col.int IntKind.i64 rs', Col.int IntKind.i64 gt'],
                  AV.int IntKind.i64 i]
                []) ∧
            asrt
              (band (nle n big)
                (band (ile 0 (iadd IntKind.i64 i 1))
                  (band (ile (iadd IntKind.i64 i 1) (ofN n))
                    (thEq n st kd vl un pc rg sn tr lt rs gt n' st' kd' vl' un' pc' rg' sn' tr' lt' rs' gt'))))
              (Q (Ex.exit 0) [] [])))))
    (Q (Ex.exit 0) [] [])) := by kernel_rfl

theorem loop_thSame : LoopOK Tryz.prog (bodyOf Tryz.prog 22 0) spec_thSame.summ := by
  refine tab_loop mixed (l := tab0) ok_tab0 (i := 0) spec_thSame (fun vals objs => match vals, objs with
    | [.sl n [.int .i64 st, .int .i64 kd, .int .i64 vl, .int .i64 un, .int .i64 pc, .int .i64 rg, .int .i64 sn, .int .i64 tr, .bool lt, .int .i64 rs, .int .i64 gt], .sl n' [.int .i64 st', .int .i64 kd', .int .i64 vl', .int .i64 un', .int .i64 pc', .int .i64 rg', .int .i64 sn', .int .i64 tr', .bool lt', .int .i64 rs', .int .i64 gt'], .int .i64 i], [] => (n - i).toNat
    | _, _ => 0) fun vals objs Q h1 h2 wf wo hg => ?_
  unfold spec_thSame at hg
  simp only at hg
  split at hg
  · rename_i n st kd vl un pc rg sn tr lt rs gt n' st' kd' vl' un' pc' rg' sn' tr' lt' rs' gt' i
    clear h1 h2
    try simp only [WFL, WF, List.mem_cons, List.not_mem_nil, or_false, forall_eq_or_imp, forall_eq, Col.len, and_true, true_and] at wf
    rw [lp_thSame]
    simp only [asrt_iff, band_t, nle_t, ile_t, ofN_e, thEq, decide_eq_true_eq] at hg
    obtain ⟨⟨hb, h0, hn, he⟩, hg⟩ := hg
    obtain ⟨rfl, rfl, rfl, rfl, rfl, rfl, rfl, rfl, rfl, rfl, rfl, rfl⟩ := he
    obtain ⟨k, rfl⟩ := Int.eq_ofNat_of_zero_le h0
    have hb' : n ≤ 2 ^ 50 := by simpa [big] using hb
    have hw : IntKind.i64.wrap ((k : Int) + 1) = (k : Int) + 1 := wr (by simp at hn; omega) (by simp at hn; omega)
    simp at hn
    simp [asrt_iff, br_iff, ieq_t, ieq_f, ine_t, ine_f, ilt_t, ilt_f, ile_t, ile_f, igt_t, igt_f, ige_t, ige_f, nlt_t, nlt_f, nle_t, nle_f, neq_t, neq_f, beq2_t, beq2_f, bnot_t, bnot_f, band_t, band_f, bite_t, bite_f, bimp_t, bimp_f, iadd_e, isub_e, imul_e, ofN_e, nOf_e, nAdd_e, nDiff_e, room_e, lenI_e, gI_e, gB_e, imin_e, imax_e, cat_e, pt_e, put_e, some_f, SR.fitW_fit, SR.wid_fit, hw, hb, hg, thEq]
    omega
  · exact hg.elim


def LthSame : Nat → Option LoopS := fun i => match i with
  | 0 => some (.summ spec_thSame.summ)
  | _ => none

theorem ok_LthSame : ∀ i x, LthSame i = some x → LoopHyp Tryz.prog 22 i x := by
  intro i s h
  unfold LthSame at h
  split at h
  · cases h; exact ⟨by kernel_rfl, loop_thSame⟩
  · cases h


def FthSame : Pure1 := fun
  | [.sl n [.int .i64 st, .int .i64 kd, .int .i64 vl, .int .i64 un, .int .i64 pc, .int .i64 rg, .int .i64 sn, .int .i64 tr, .bool lt, .int .i64 rs, .int .i64 gt], .sl n' [.int .i64 st', .int .i64 kd', .int .i64 vl', .int .i64 un', .int .i64 pc', .int .i64 rg', .int .i64 sn', .int .i64 tr', .bool lt', .int .i64 rs', .int .i64 gt']] => some (some (band (nle n big) (thEq n st kd vl un pc rg sn tr lt rs gt n' st' kd' vl' un' pc' rg' sn' tr' lt' rs' gt')), .bool true)
  | _ => none

theorem vc_thSame (n : Nat) (st kd vl un pc rg sn tr : List Int) (lt : List Bool) (rs gt : List Int) (n' : Nat) (st' kd' vl' un' pc' rg' sn' tr' : List Int) (lt' : List Bool) (rs' gt' : List Int) (r : AV) : VC Tryz.prog (tabS tab0) (oneL 22 LthSame) false 22 [.sl n [.int .i64 st, .int .i64 kd, .int .i64 vl, .int .i64 un, .int .i64 pc, .int .i64 rg, .int .i64 sn, .int .i64 tr, .bool lt, .int .i64 rs, .int .i64 gt], .sl n' [.int .i64 st', .int .i64 kd', .int .i64 vl', .int .i64 un', .int .i64 pc', .int .i64 rg', .int .i64 sn', .int .i64 tr', .bool lt', .int .i64 rs', .int .i64 gt']] r = (
  br (ine (ofN n) (ofN n')) (some (AV.bool false) = some r)
    (asrt
      (band (nle n big)
        (band (ile 0 (ofN n)) (thEq n st kd vl un pc rg sn tr lt rs gt n' st' kd' vl' un' pc' rg' sn' tr' lt' rs' gt')))
      (some (AV.bool true) = some r))) := by kernel_rfl

theorem ok_thSame : PureOK Tryz.prog 22 FthSame := by
  refine tab_loops mixed (l := tab0) ok_tab0 false LthSame (by kernel_rfl) ok_LthSame fun xs b r h hb wf => ?_
  unfold FthSame at h
  split at h
  · rename_i n st kd vl un pc rg sn tr lt rs gt n' st' kd' vl' un' pc' rg' sn' tr' lt' rs' gt'
    cases h
    try rw [some_f] at hb
    try simp only [WFL, WF, List.mem_cons, List.not_mem_nil, or_false, forall_eq_or_imp, forall_eq, Col.len, and_true, true_and] at wf
    rw [vc_thSame]
    simp only [band_t, thEq, decide_eq_true_eq] at hb
    obtain ⟨hn, he⟩ := hb
    obtain ⟨rfl, rfl, rfl, rfl, rfl, rfl, rfl, rfl, rfl, rfl, rfl, rfl⟩ := he
    simp [asrt_iff, br_iff, ieq_t, ieq_f, ine_t, ine_f, ilt_t, ilt_f, ile_t, ile_f, igt_t, igt_f, ige_t, ige_f, nlt_t, nlt_f, nle_t, nle_f, neq_t, neq_f, beq2_t, beq2_f, bnot_t, bnot_f, band_t, band_f, bite_t, bite_f, bimp_t, bimp_f, iadd_e, isub_e, imul_e, ofN_e, nOf_e, nAdd_e, nDiff_e, room_e, lenI_e, gI_e, gB_e, imin_e, imax_e, cat_e, pt_e, put_e, some_f, SR.fitW_fit, SR.wid_fit, thEq] at hn ⊢
    exact hn
  · cases h


def spec_loSame : LoopSpec := { n := 26, keep := [0, 1, 5], srcs := [], keepE := [], srcsE := [], goes := fun vals objs Q => match vals, objs with
  | [.sl n [.int .i64 c0, .int .i64 ks, .int .i64 vs, .int .i64 rr, .int .i64 gs], .sl n' [.int .i64 c0', .int .i64 ks', .int .i64 vs', .int .i64 rr', .int .i64 gs'], .int .i64 i], [] => asrt (band (nle n big) (band (ile 0 i) (band (ile i (ofN n)) (loEq n c0 ks vs rr gs n' c0' ks' vs' rr' gs')))) (Q (.exit 0) [] [])
  | _, _ => False }

theorem lp_loSame (n : Nat) (c0 ks vs rr gs : List Int) (n' : Nat) (c0' ks' vs' rr' gs' : List Int) (i : Int) (mu : List AV → Heap → Nat) (Q : Ex → List AV → Heap → Prop) : runCode Tryz.prog (tabS tab0) (callN Tryz.prog (tabS tab0) noL 11) (fun _ => none) (bodyOf Tryz.prog 23 0) 0 ⟨mkT (spec_loSame).keep [.sl n [.int .i64 c0, .int .i64 ks, .int .i64 vs, .int .i64 rr, .int .i64 gs], .sl n' [.int .i64 c0', .int .i64 ks', .int .i64 vs', .int .i64 rr', .int .i64 gs'], .int .i64 i] (spec_loSame).n 0, []⟩ ((spec_loSame).ends mu [.sl n [.int .i64 c0, .int .i64 ks, .int .i64 vs, .int .i64 rr, .int .i64 gs], .sl n' [.int .i64 c0', .int .i64 ks', .int .i64 vs', .int .i64 rr', .int .i64 gs'], .int .i64 i] ([]) Q) = (
  br (ilt i (ofN n))
    (asrt (band (ile 0 i) (ilt i (ofN n)))
      (asrt (band (ile 0 i) (ilt i (ofN n')))
        (br
          (bnot
            (band (ieq (gI c0 (nOf i)) (gI c0' (nOf i)))
              (band (ieq (gI ks (nOf i)) (gI ks' (nOf i)))
                (band (ieq (gI vs (nOf i)) (gI vs' (nOf i)))
                  (band (ieq (gI rr (nOf i)) (gI rr' (nOf i))) (band (ieq (gI gs (nOf i)) (gI gs' (nOf i))) true))))))
          (Q Ex.ret [] [])
          ((mu
                    [AV.sl n
                        [Col.int IntKind.i64 c0, Col.int IntKind.i64 ks, Col.int IntKind.i64 vs, Col.int IntKind.i64 rr,
                          Col.int IntKind.i64 gs],
                      AV.sl n'
                        [Col.int IntKind.i64 c0', Col.int IntKind.i64 ks', Col.int IntKind.i64 vs',
                          Col.int IntKind.i64 rr', Col.int IntKind.i64 gs'],
                      AV.int IntKind.i64 (iadd IntKind.i64 i 1)]
                    []).succ.le
              (mu
                [AV.sl n
                    [Col.int IntKind.i64 c0, Col.int IntKind.i64 ks, Col.int IntKind.i64 vs, Col.int IntKind.i64 rr,
                      Col.int IntKind.i64 gs],
                  AV.sl n'
                    [Col.int IntKind.i64 c0', Col.int IntKind.i64 ks', Col.int IntKind.i64 vs', Col.int IntKind.i64 rr',
                      Col.int IntKind.i64 gs'],
                  AV.int IntKind.i64 i]
                []) ∧
            asrt
              (band (nle n big)
                (band (ile 0 (iadd IntKind.i64 i 1))
                  (band (ile (iadd IntKind.i64 i 1) (ofN n)) (loEq n c0 ks vs rr gs n' c0' ks' vs' rr' gs'))))
              (Q (Ex.exit 0) [] [])))))
    (Q (Ex.exit 0) [] [])) := by kernel_rfl

theorem loop_loSame : LoopOK Tryz.prog (bodyOf Tryz.prog 23 0) spec_loSame.summ := by
  refine tab_loop mixed (l := tab0) ok_tab0 (i := 0) spec_loSame (fun vals objs => match vals, objs with
    | [.sl n [.int .i64 c0, .int .i64 ks, .int .i64 vs, .int .i64 rr, .int .i64 gs], .sl n' [.int .i64 c0', .int .i64 ks', .int .i64 vs', .int .i64 rr', .int .i64 gs'], .int .i64 i], [] => (n - i).toNat
    | _, _ => 0) fun vals objs Q h1 h2 wf wo hg => ?_
  unfold spec_loSame at hg
  simp only at hg
  split at hg
  · rename_i n c0 ks vs rr gs n' c0' ks' vs' rr' gs' i
    clear h1 h2
    try simp only [WFL, WF, List.mem_cons, List.not_mem_nil, or_false, forall_eq_or_imp, forall_eq, Col.len, and_true, true_and] at wf
    rw [lp_loSame]
    simp only [asrt_iff, band_t, nle_t, ile_t, ofN_e, loEq, decide_eq_true_eq] at hg
    obtain ⟨⟨hb, h0, hn, he⟩, hg⟩ := hg
    obtain ⟨rfl, rfl, rfl, rfl, rfl, rfl⟩ := he
    obtain ⟨k, rfl⟩ := Int.eq_ofNat_of_zero_le h0
    have hb' : n ≤ 2 ^ 50 := by simpa [big] using hb
    have hw : IntKind.i64.wrap ((k : Int) + 1) = (k : Int) + 1 := wr (by simp at hn; omega) (by simp at hn; omega)
    simp at hn
    simp [asrt_iff, br_iff, ieq_t, ieq_f, ine_t, ine_f, ilt_t, ilt_f, ile_t, ile_f, igt_t, igt_f, ige_t, ige_f, nlt_t, nlt_f, nle_t, nle_f, neq_t, neq_f, beq2_t, beq2_f, bnot_t, bnot_f, band_t, band_f, bite_t, bite_f, bimp_t, bimp_f, iadd_e, isub_e, imul_e, ofN_e, nOf_e, nAdd_e, nDiff_e, room_e, lenI_e, gI_e, gB_e, imin_e, imax_e, cat_e, pt_e, put_e, some_f, SR.fitW_fit, SR.wid_fit, hw, hb, hg, loEq]
    omega
  · exact hg.elim


def LloSame : Nat → Option LoopS := fun i => match i with
  | 0 => some (.summ spec_loSame.summ)
  | _ => none

theorem ok_LloSame : ∀ i x, LloSame i = some x → LoopHyp Tryz.prog 23 i x := by
  intro i s h
  unfold LloSame at h
  split at h
  · cases h; exact ⟨by kernel_rfl, loop_loSame⟩
  · cases h


def FloSame : Pure1 := fun
  | [.sl n [.int .i64 c0, .int .i64 ks, .int .i64 vs, .int .i64 rr, .int .i64 gs], .sl n' [.int .i64 c0', .int .i64 ks', .int .i64 vs', .int .i64 rr', .int .i64 gs']] => some (some (band (nle n big) (loEq n c0 ks vs rr gs n' c0' ks' vs' rr' gs')), .bool true)
  | _ => none

theorem vc_loSame (n : Nat) (c0 ks vs rr gs : List Int) (n' : Nat) (c0' ks' vs' rr' gs' : List Int) (r : AV) : VC Tryz.prog (tabS tab0) (oneL 23 LloSame) false 23 [.sl n [.int .i64 c0, .int .i64 ks, .int .i64 vs, .int .i64 rr, .int .i64 gs], .sl n' [.int .i64 c0', .int .i64 ks', .int .i64 vs', .int .i64 rr', .int .i64 gs']] r = (
  br (ine (ofN n) (ofN n')) (some (AV.bool false) = some r)
    (asrt (band (nle n big) (band (ile 0 (ofN n)) (loEq n c0 ks vs rr gs n' c0' ks' vs' rr' gs')))
      (some (AV.bool true) = some r))) := by kernel_rfl

theorem ok_loSame : PureOK Tryz.prog 23 FloSame := by
  refine tab_loops mixed (l := tab0) ok_tab0 false LloSame (by kernel_rfl) ok_LloSame fun xs b r h hb wf => ?_
  unfold FloSame at h
  split at h
  · rename_i n c0 ks vs rr gs n' c0' ks' vs' rr' gs'
    cases h
    try rw [some_f] at hb
    try simp only [WFL, WF, List.mem_cons, List.not_mem_nil, or_false, forall_eq_or_imp, forall_eq, Col.len, and_true, true_and] at wf
    rw [vc_loSame]
    simp only [band_t, loEq, decide_eq_true_eq] at hb
    obtain ⟨hn, he⟩ := hb
    obtain ⟨rfl, rfl, rfl, rfl, rfl, rfl⟩ := he
    simp [asrt_iff, br_iff, ieq_t, ieq_f, ine_t, ine_f, ilt_t, ilt_f, ile_t, ile_f, igt_t, igt_f, ige_t, ige_f, nlt_t, nlt_f, nle_t, nle_f, neq_t, neq_f, beq2_t, beq2_f, bnot_t, bnot_f, band_t, band_f, bite_t, bite_f, bimp_t, bimp_f, iadd_e, isub_e, imul_e, ofN_e, nOf_e, nAdd_e, nDiff_e, room_e, lenI_e, gI_e, gB_e, imin_e, imax_e, cat_e, pt_e, put_e, some_f, SR.fitW_fit, SR.wid_fit, loEq] at hn ⊢
    exact hn
  · cases h


def Ffew13 : Pure1 := fun
  | [a_s] => (match asSR a_s with | some s => some (none, .bool (SR.few13 s)) | none => none)
  | _ => none

theorem vc_few13 (s : SR) (r : AV) : VC Tryz.prog (tabS tab0) noL false 5 [s.av] r = (
  some
      (AV.bool
        (bite
          (bite
            (bite
              (bite (bite (bite (ile (ofN s.11) 100) (ile (ofN s.25) 100) false) (ile (ofN s.14) 100) false)
                (ile (ofN s.16) 100) false)
              (ile (ofN s.19) 100) false)
            (ile (ofN s.22) 100) false)
          (ile (ofN s.37) 200) false)) =
    some r) := by kernel_rfl

theorem ok_few13 : PureOK Tryz.prog 5 Ffew13 := by
  refine tab_plain mixed (l := tab0) ok_tab0 false (by kernel_rfl) fun xs b r h hb wf => ?_
  unfold Ffew13 at h
  split at h
  · rename_i a_s
    split at h
    · rename_i s h_s
      obtain rfl := asSR_some h_s
      cases h
      try rw [some_f] at hb
      simp only [WFL, WF, List.mem_cons, List.not_mem_nil, or_false, forall_eq_or_imp, forall_eq, Col.len, and_true, true_and, wf_av] at wf
      rw [vc_few13]
      simp only [bite_and, bite_or]
      simp [asrt_iff, br_iff, ieq_t, ieq_f, ine_t, ine_f, ilt_t, ilt_f, ile_t, ile_f, igt_t, igt_f, ige_t, ige_f, nlt_t, nlt_f, nle_t, nle_f, neq_t, neq_f, beq2_t, beq2_f, bnot_t, bnot_f, band_t, band_f, bite_t, bite_f, bimp_t, bimp_f, iadd_e, isub_e, imul_e, ofN_e, nOf_e, nAdd_e, nDiff_e, room_e, lenI_e, gI_e, gB_e, imin_e, imax_e, cat_e, pt_e, put_e, some_f, SR.fitW_fit, SR.wid_fit, SR.few13]
      rw [Bool.eq_iff_iff]
      simp [asrt_iff, br_iff, ieq_t, ieq_f, ine_t, ine_f, ilt_t, ilt_f, ile_t, ile_f, igt_t, igt_f, ige_t, ige_f, nlt_t, nlt_f, nle_t, nle_f, neq_t, neq_f, beq2_t, beq2_f, bnot_t, bnot_f, band_t, band_f, bite_t, bite_f, bimp_t, bimp_f, iadd_e, isub_e, imul_e, ofN_e, nOf_e, nAdd_e, nDiff_e, room_e, lenI_e, gI_e, gB_e, imin_e, imax_e, cat_e, pt_e, put_e, some_f, SR.fitW_fit, SR.wid_fit]
      omega
    · cases h
  · cases h


def tabR : List (FuncId × Pure1) := [(19, FslSame), (22, FthSame), (23, FloSame), (20, Fints), (21, FevSame)]

theorem ok_tabR : ∀ p ∈ tabR, PureOK Tryz.prog p.1 p.2 := by
  intro p hp
  simp only [tabR, List.mem_cons, List.not_mem_nil, or_false] at hp
  rcases hp with rfl | rfl | rfl | rfl | rfl
  · exact ok_slSame
  · exact ok_thSame
  · exact ok_loSame
  · exact ok_ints
  · exact ok_evSame


def Fsame13 : Pure1 := fun
  | [a_s, a_t] => (match asSR a_s with | some s => (match asSR a_t with | some t => some (some (band (SR.fit s) (SR.same s t)), .bool true) | none => none) | none => none)
  | _ => none

theorem vc_same13 (s t : SR) (r : AV) : VC Tryz.prog (tabS tabR) noL false 9 [s.av, t.av] r = (
  asrt (band (nle s.11 big) (slEq s.11 s.12 s.13 t.11 t.12 t.13))
    (asrt (nle s.14 big)
      (asrt (bimp (sameI s.15 t.15) (nle s.16 big))
        (asrt (nle s.19 big)
          (asrt (bimp (band (sameI s.20 t.20) (ieq s.18 t.18)) (nle s.22 big))
            (asrt
              (band (nle s.25 big)
                (thEq s.25 s.26 s.27 s.28 s.29 s.30 s.31 s.32 s.33 s.34 s.35 s.36 t.25 t.26 t.27 t.28 t.29 t.30 t.31
                  t.32 t.33 t.34 t.35 t.36))
              (asrt (band (nle s.37 big) (loEq s.37 s.38 s.39 s.40 s.41 s.42 t.37 t.38 t.39 t.40 t.41 t.42))
                (some
                    (AV.bool
                      (bite
                        (bite
                          (bite
                            (bite
                              (bite
                                (band (ieq s.1 t.1)
                                  (band (ieq s.2 t.2)
                                    (band (ieq s.3 t.3)
                                      (band (ieq s.4 t.4)
                                        (band (ieq s.5 t.5) (band (ieq s.6 t.6) (band (beq2 s.7 t.7) true)))))))
                                (band (ieq s.8 t.8) (band (ieq s.9 t.9) (band (ieq s.10 t.10) true))) false)
                              (ieq s.24 t.24) false)
                            (bite (sameI s.15 t.15) (sameI s.17 t.17) false) false)
                          (bite (band (sameI s.20 t.20) (ieq s.18 t.18)) (band (sameI s.23 t.23) (ieq s.21 t.21)) false)
                          false)
                        true false)) =
                  some r)))))))) := by kernel_rfl

theorem ok_same13 : PureOK Tryz.prog 9 Fsame13 := by
  refine tab_plain mixed (l := tabR) ok_tabR false (by kernel_rfl) fun xs b r h hb wf => ?_
  unfold Fsame13 at h
  split at h
  · rename_i a_s a_t
    split at h
    · rename_i s h_s
      obtain rfl := asSR_some h_s
      split at h
      · rename_i t h_t
        obtain rfl := asSR_some h_t
        cases h
        try rw [some_f] at hb
        simp only [WFL, WF, List.mem_cons, List.not_mem_nil, or_false, forall_eq_or_imp, forall_eq, Col.len, and_true, true_and, wf_av] at wf
        rw [vc_same13]
        simp only [band_t, SR.same, decide_eq_true_eq] at hb
        obtain ⟨hb, rfl⟩ := hb
        obtain ⟨q1, q2, q3, q4, q5, q6, q7⟩ := SR.few_le (SR.fit_few hb)
        have q : ∀ n, n ≤ 1000000 → n ≤ big := fun n h => le_big (by omega)
        have sI : ∀ l : List Int, sameI l l = true := fun l => by simp [sameI]
        simp only [bite_and, bite_or]
        simp [asrt_iff, br_iff, ieq_t, ieq_f, ine_t, ine_f, ilt_t, ilt_f, ile_t, ile_f, igt_t, igt_f, ige_t, ige_f, nlt_t, nlt_f, nle_t, nle_f, neq_t, neq_f, beq2_t, beq2_f, bnot_t, bnot_f, band_t, band_f, bite_t, bite_f, bimp_t, bimp_f, iadd_e, isub_e, imul_e, ofN_e, nOf_e, nAdd_e, nDiff_e, room_e, lenI_e, gI_e, gB_e, imin_e, imax_e, cat_e, pt_e, put_e, some_f, SR.fitW_fit, SR.wid_fit, q, q1, q2, q3, q4, q5, q6, q7, slEq, thEq, loEq, sI]
      · cases h
    · cases h
  · cases h


end Go.Own
