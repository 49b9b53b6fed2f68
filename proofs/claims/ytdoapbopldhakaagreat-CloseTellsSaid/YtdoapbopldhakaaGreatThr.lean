/- Threads, positions, and what threads do. -/
import Derived.Test.YtdoapbopldhakaaGreatEventN
namespace Go.Own
open Go Go.Proofs
set_option maxRecDepth 100000
set_option linter.unusedVariables false
set_option linter.unusedSimpArgs false

def opSide (k : Int) : Int := if 1 ≤ k ∧ k ≤ 3 then 1 else if 4 ≤ k ∧ k ≤ 6 then 2 else if 7 ≤ k ∧ k ≤ 8 then 3 else 0

def opTimed (k : Int) : Bool := decide (k = 3 ∨ k = 6)

/-- Whether any thread may be. -/
def thOk (st kd un pc rg sn tr : Int) (lt : Bool) (rs : Int) : Bool :=
  decide (0 ≤ st ∧ st ≤ 2) && decide (0 ≤ rs ∧ rs ≤ 7) && (decide (0 < opSide kd) || decide (kd = 0 ∧ st = 0)) && (decide (0 ≤ un ∧ un ≤ 1099511627776) && (opTimed kd || (decide (un = 0) && !lt))) && decide (0 ≤ pc ∧ pc ≤ 11 ∧ 0 ≤ tr ∧ tr ≤ 1099511627776 ∧ 0 ≤ rg ∧ rg ≤ 1099511627776 ∧ -1 ≤ sn ∧ sn ≤ 1099511627776) && (decide (st ≠ 0) || (decide (pc = 0 ∧ rg = 0 ∧ sn = 0 ∧ tr = 0) && !lt))

def thRuns (st : Int) : Int := if st = 0 then 121 else if st = 2 then 122 else 0

def invE (st kind un : Int) : Int := if st ≠ 0 then 120 else if opSide kind = 0 then 190 else if opTimed kind && !decide (0 ≤ un ∧ un ≤ 1099511627776) then 50 else 0

def mayE (threads : Int) (single : Bool) (id kind : Int) : Int := if id < 0 ∨ threads ≤ id then 123 else if opSide kind = 0 then 190 else if single && decide (opSide kind = 2 ∧ 0 < id) then 123 else 0

def wlen (hd tl : Int) : Int := if tl ≤ hd then 0 else if hd < 0 ∧ 9223372036854775807 + hd < tl then 9223372036854775807 else tl - hd

def wordOk (hd tl md room : Int) : Bool := decide (hd ≤ tl ∧ tl ≤ 1099511627776 ∧ 0 ≤ hd ∧ wlen hd tl ≤ room ∧ 0 ≤ md ∧ md ≤ 2)

def in64 (hd tl : Int) : Bool := decide (-9223372036854775808 ≤ hd) && decide (tl ≤ 9223372036854775807)

def placeOf (p room : Int) : Int := if 0 ≤ p ∧ 1 ≤ room then p % room else 0


def Fside : Pure1 := fun
  | [.int .i64 k] => some (none, .int .i64 (opSide k))
  | _ => none

theorem vc_side (k : Int) (r : AV) : VC Tryz.prog (tabS tab0) noL false 48 [.int .i64 k] r = (
  br (ieq k 1) (some (AV.int IntKind.i64 1) = some r)
    (br (ieq k 2) (some (AV.int IntKind.i64 1) = some r)
      (br (ieq k 3) (some (AV.int IntKind.i64 1) = some r)
        (br (ieq k 4) (some (AV.int IntKind.i64 2) = some r)
          (br (ieq k 5) (some (AV.int IntKind.i64 2) = some r)
            (br (ieq k 6) (some (AV.int IntKind.i64 2) = some r)
              (br (ieq k 7) (some (AV.int IntKind.i64 3) = some r)
                (br (ieq k 8) (some (AV.int IntKind.i64 3) = some r) (some (AV.int IntKind.i64 0) = some r))))))))) := by kernel_rfl

theorem ok_side : PureOK Tryz.prog 48 Fside := by
  refine tab_plain mixed (l := tab0) ok_tab0 false (by kernel_rfl) fun xs b r h hb wf => ?_
  unfold Fside at h
  split at h
  · rename_i k
    cases h
    try rw [some_f] at hb
    try simp only [WFL, WF, List.mem_cons, List.not_mem_nil, or_false, forall_eq_or_imp, forall_eq, Col.len, and_true, true_and] at wf
    rw [vc_side]
    simp [asrt_iff, br_iff, ieq_t, ieq_f, ine_t, ine_f, ilt_t, ilt_f, ile_t, ile_f, igt_t, igt_f, ige_t, ige_f, nlt_t, nlt_f, nle_t, nle_f, neq_t, neq_f, beq2_t, beq2_f, bnot_t, bnot_f, band_t, band_f, bite_t, bite_f, bimp_t, bimp_f, iadd_e, isub_e, imul_e, ofN_e, nOf_e, nAdd_e, nDiff_e, room_e, lenI_e, gI_e, gB_e, imin_e, imax_e, cat_e, pt_e, put_e, some_f, opSide]
    grind (splits := 40)
  · cases h


def tabT0 : List (FuncId × Pure1) := [(48, Fside)]

theorem ok_tabT0 : ∀ p ∈ tabT0, PureOK Tryz.prog p.1 p.2 := by
  intro p hp
  simp only [tabT0, List.mem_cons, List.not_mem_nil, or_false] at hp
  rcases hp with rfl
  · exact ok_side


def FopCheck : Pure1 := fun
  | [.int .i64 k] => some (none, .bool (igt (opSide k) 0))
  | _ => none

theorem vc_opCheck (k : Int) (r : AV) : VC Tryz.prog (tabS tabT0) noL false 68 [.int .i64 k] r = (
some (AV.bool (igt (opSide k) 0)) = some r) := by kernel_rfl

theorem ok_opCheck : PureOK Tryz.prog 68 FopCheck := by
  refine tab_plain mixed (l := tabT0) ok_tabT0 false (by kernel_rfl) fun xs b r h hb wf => ?_
  unfold FopCheck at h
  split at h
  · rename_i k
    cases h
    try rw [some_f] at hb
    try simp only [WFL, WF, List.mem_cons, List.not_mem_nil, or_false, forall_eq_or_imp, forall_eq, Col.len, and_true, true_and] at wf
    rw [vc_opCheck]
    all_goals (try simp [asrt_iff, br_iff, ieq_t, ieq_f, ine_t, ine_f, ilt_t, ilt_f, ile_t, ile_f, igt_t, igt_f, ige_t, ige_f, nlt_t, nlt_f, nle_t, nle_f, neq_t, neq_f, beq2_t, beq2_f, bnot_t, bnot_f, band_t, band_f, bite_t, bite_f, bimp_t, bimp_f, iadd_e, isub_e, imul_e, ofN_e, nOf_e, nAdd_e, nDiff_e, room_e, lenI_e, gI_e, gB_e, imin_e, imax_e, cat_e, pt_e, put_e, some_f])
  · cases h


def FopTimed : Pure1 := fun
  | [.int .i64 k] => some (none, .bool (opTimed k))
  | _ => none

theorem vc_opTimed (k : Int) (r : AV) : VC Tryz.prog (tabS tabT0) noL false 73 [.int .i64 k] r = (
some (AV.bool (bite (ieq k 3) true (ieq k 6))) = some r) := by kernel_rfl

theorem ok_opTimed : PureOK Tryz.prog 73 FopTimed := by
  refine tab_plain mixed (l := tabT0) ok_tabT0 false (by kernel_rfl) fun xs b r h hb wf => ?_
  unfold FopTimed at h
  split at h
  · rename_i k
    cases h
    try rw [some_f] at hb
    try simp only [WFL, WF, List.mem_cons, List.not_mem_nil, or_false, forall_eq_or_imp, forall_eq, Col.len, and_true, true_and] at wf
    rw [vc_opTimed]
    simp only [bite_and, bite_or]
    simp [asrt_iff, br_iff, ieq_t, ieq_f, ine_t, ine_f, ilt_t, ilt_f, ile_t, ile_f, igt_t, igt_f, ige_t, ige_f, nlt_t, nlt_f, nle_t, nle_f, neq_t, neq_f, beq2_t, beq2_f, bnot_t, bnot_f, band_t, band_f, bite_t, bite_f, bimp_t, bimp_f, iadd_e, isub_e, imul_e, ofN_e, nOf_e, nAdd_e, nDiff_e, room_e, lenI_e, gI_e, gB_e, imin_e, imax_e, cat_e, pt_e, put_e, some_f, opTimed]
    rw [Bool.eq_iff_iff]
    simp [asrt_iff, br_iff, ieq_t, ieq_f, ine_t, ine_f, ilt_t, ilt_f, ile_t, ile_f, igt_t, igt_f, ige_t, ige_f, nlt_t, nlt_f, nle_t, nle_f, neq_t, neq_f, beq2_t, beq2_f, bnot_t, bnot_f, band_t, band_f, bite_t, bite_f, bimp_t, bimp_f, iadd_e, isub_e, imul_e, ofN_e, nOf_e, nAdd_e, nDiff_e, room_e, lenI_e, gI_e, gB_e, imin_e, imax_e, cat_e, pt_e, put_e, some_f]
  · cases h


def tabT1 : List (FuncId × Pure1) := [(68, FopCheck), (73, FopTimed)] ++ tabT0

theorem ok_tabT1 : ∀ p ∈ tabT1, PureOK Tryz.prog p.1 p.2 := by
  intro p hp
  simp only [tabT1, List.mem_append, List.mem_cons, List.not_mem_nil, or_false] at hp
  rcases hp with (rfl | rfl) | hp
  · exact ok_opCheck
  · exact ok_opTimed
  · exact ok_tabT0 p hp


def Fwithin : Pure1 := fun
  | [.int .i64 x, .int .i64 lo, .int .i64 hi] => some (none, .bool (band (ige x lo) (ile x hi)))
  | _ => none

theorem vc_within (x lo hi : Int) (r : AV) : VC Tryz.prog (tabS tab0) noL false 74 [.int .i64 x, .int .i64 lo, .int .i64 hi] r = (
some (AV.bool (bite (ige x lo) (ile x hi) false)) = some r) := by kernel_rfl

theorem ok_within : PureOK Tryz.prog 74 Fwithin := by
  refine tab_plain mixed (l := tab0) ok_tab0 false (by kernel_rfl) fun xs b r h hb wf => ?_
  unfold Fwithin at h
  split at h
  · rename_i x lo hi
    cases h
    try rw [some_f] at hb
    try simp only [WFL, WF, List.mem_cons, List.not_mem_nil, or_false, forall_eq_or_imp, forall_eq, Col.len, and_true, true_and] at wf
    rw [vc_within]
    simp only [bite_and, bite_or]
    all_goals (try simp [asrt_iff, br_iff, ieq_t, ieq_f, ine_t, ine_f, ilt_t, ilt_f, ile_t, ile_f, igt_t, igt_f, ige_t, ige_f, nlt_t, nlt_f, nle_t, nle_f, neq_t, neq_f, beq2_t, beq2_f, bnot_t, bnot_f, band_t, band_f, bite_t, bite_f, bimp_t, bimp_f, iadd_e, isub_e, imul_e, ofN_e, nOf_e, nAdd_e, nDiff_e, room_e, lenI_e, gI_e, gB_e, imin_e, imax_e, cat_e, pt_e, put_e, some_f])
    all_goals (try rfl)
  · cases h


def tabT2 : List (FuncId × Pure1) := [(74, Fwithin)] ++ tabT1

theorem ok_tabT2 : ∀ p ∈ tabT2, PureOK Tryz.prog p.1 p.2 := by
  intro p hp
  simp only [tabT2, List.mem_append, List.mem_cons, List.not_mem_nil, or_false] at hp
  rcases hp with (rfl) | hp
  · exact ok_within
  · exact ok_tabT1 p hp


def FthBare : Pure1 := fun
  | [.agg [.int .i64 st, .int .i64 kd, .int .i64 vl, .int .i64 un, .int .i64 pc, .int .i64 rg, .int .i64 sn, .int .i64 tr, .bool lt, .int .i64 rs, .int .i64 gt]] => some (none, .agg [.int .i64 0, .int .i64 kd, .int .i64 vl, .int .i64 un, .int .i64 0, .int .i64 0, .int .i64 0, .int .i64 0, .bool false, .int .i64 rs, .int .i64 gt])
  | _ => none

theorem vc_thBare (st kd vl un pc rg sn tr : Int) (lt : Bool) (rs gt : Int) (r : AV) : VC Tryz.prog (tabS tab0) noL false 54 [.agg [.int .i64 st, .int .i64 kd, .int .i64 vl, .int .i64 un, .int .i64 pc, .int .i64 rg, .int .i64 sn, .int .i64 tr, .bool lt, .int .i64 rs, .int .i64 gt]] r = (
  some
      (AV.agg
        [AV.int IntKind.i64 0, AV.int IntKind.i64 kd, AV.int IntKind.i64 vl, AV.int IntKind.i64 un,
          AV.int IntKind.i64 0, AV.int IntKind.i64 0, AV.int IntKind.i64 0, AV.int IntKind.i64 0, AV.bool false,
          AV.int IntKind.i64 rs, AV.int IntKind.i64 gt]) =
    some r) := by kernel_rfl

theorem ok_thBare : PureOK Tryz.prog 54 FthBare := by
  refine tab_plain mixed (l := tab0) ok_tab0 false (by kernel_rfl) fun xs b r h hb wf => ?_
  unfold FthBare at h
  split at h
  · rename_i st kd vl un pc rg sn tr lt rs gt
    cases h
    try rw [some_f] at hb
    try simp only [WFL, WF, List.mem_cons, List.not_mem_nil, or_false, forall_eq_or_imp, forall_eq, Col.len, and_true, true_and] at wf
    rw [vc_thBare]
    all_goals (try simp [asrt_iff, br_iff, ieq_t, ieq_f, ine_t, ine_f, ilt_t, ilt_f, ile_t, ile_f, igt_t, igt_f, ige_t, ige_f, nlt_t, nlt_f, nle_t, nle_f, neq_t, neq_f, beq2_t, beq2_f, bnot_t, bnot_f, band_t, band_f, bite_t, bite_f, bimp_t, bimp_f, iadd_e, isub_e, imul_e, ofN_e, nOf_e, nAdd_e, nDiff_e, room_e, lenI_e, gI_e, gB_e, imin_e, imax_e, cat_e, pt_e, put_e, some_f])
  · cases h


def FthKind : Pure1 := fun
  | [.agg [.int .i64 st, .int .i64 kd, .int .i64 vl, .int .i64 un, .int .i64 pc, .int .i64 rg, .int .i64 sn, .int .i64 tr, .bool lt, .int .i64 rs, .int .i64 gt]] => some (none, .bool (bite (igt (opSide kd) 0) true (band (ieq kd 0) (ieq st 0))))
  | _ => none

theorem vc_thKind (st kd vl un pc rg sn tr : Int) (lt : Bool) (rs gt : Int) (r : AV) : VC Tryz.prog (tabS tabT2) noL false 82 [.agg [.int .i64 st, .int .i64 kd, .int .i64 vl, .int .i64 un, .int .i64 pc, .int .i64 rg, .int .i64 sn, .int .i64 tr, .bool lt, .int .i64 rs, .int .i64 gt]] r = (
  some (AV.bool (bite (igt (opSide kd) 0) true (bite (ieq kd 0) (ieq st 0) false))) = some r) := by kernel_rfl

theorem ok_thKind : PureOK Tryz.prog 82 FthKind := by
  refine tab_plain mixed (l := tabT2) ok_tabT2 false (by kernel_rfl) fun xs b r h hb wf => ?_
  unfold FthKind at h
  split at h
  · rename_i st kd vl un pc rg sn tr lt rs gt
    cases h
    try rw [some_f] at hb
    try simp only [WFL, WF, List.mem_cons, List.not_mem_nil, or_false, forall_eq_or_imp, forall_eq, Col.len, and_true, true_and] at wf
    rw [vc_thKind]
    simp only [bite_and, bite_or]
    all_goals (try simp [asrt_iff, br_iff, ieq_t, ieq_f, ine_t, ine_f, ilt_t, ilt_f, ile_t, ile_f, igt_t, igt_f, ige_t, ige_f, nlt_t, nlt_f, nle_t, nle_f, neq_t, neq_f, beq2_t, beq2_f, bnot_t, bnot_f, band_t, band_f, bite_t, bite_f, bimp_t, bimp_f, iadd_e, isub_e, imul_e, ofN_e, nOf_e, nAdd_e, nDiff_e, room_e, lenI_e, gI_e, gB_e, imin_e, imax_e, cat_e, pt_e, put_e, some_f])
    all_goals (try rfl)
  · cases h


def FthTime : Pure1 := fun
  | [.agg [.int .i64 st, .int .i64 kd, .int .i64 vl, .int .i64 un, .int .i64 pc, .int .i64 rg, .int .i64 sn, .int .i64 tr, .bool lt, .int .i64 rs, .int .i64 gt]] => some (none, .bool (band (band (ige un 0) (ile un 1099511627776)) (bite (opTimed kd) true (band (ieq un 0) (bnot lt)))))
  | _ => none

theorem vc_thTime (st kd vl un pc rg sn tr : Int) (lt : Bool) (rs gt : Int) (r : AV) : VC Tryz.prog (tabS tabT2) noL false 83 [.agg [.int .i64 st, .int .i64 kd, .int .i64 vl, .int .i64 un, .int .i64 pc, .int .i64 rg, .int .i64 sn, .int .i64 tr, .bool lt, .int .i64 rs, .int .i64 gt]] r = (
  some
      (AV.bool
        (bite (band (ige un 0) (ile un 1099511627776)) (bite (opTimed kd) true (bite (ieq un 0) (bnot lt) false))
          false)) =
    some r) := by kernel_rfl

theorem ok_thTime : PureOK Tryz.prog 83 FthTime := by
  refine tab_plain mixed (l := tabT2) ok_tabT2 false (by kernel_rfl) fun xs b r h hb wf => ?_
  unfold FthTime at h
  split at h
  · rename_i st kd vl un pc rg sn tr lt rs gt
    cases h
    try rw [some_f] at hb
    try simp only [WFL, WF, List.mem_cons, List.not_mem_nil, or_false, forall_eq_or_imp, forall_eq, Col.len, and_true, true_and] at wf
    rw [vc_thTime]
    simp only [bite_and, bite_or]
    all_goals (try simp [asrt_iff, br_iff, ieq_t, ieq_f, ine_t, ine_f, ilt_t, ilt_f, ile_t, ile_f, igt_t, igt_f, ige_t, ige_f, nlt_t, nlt_f, nle_t, nle_f, neq_t, neq_f, beq2_t, beq2_f, bnot_t, bnot_f, band_t, band_f, bite_t, bite_f, bimp_t, bimp_f, iadd_e, isub_e, imul_e, ofN_e, nOf_e, nAdd_e, nDiff_e, room_e, lenI_e, gI_e, gB_e, imin_e, imax_e, cat_e, pt_e, put_e, some_f])
    all_goals (try rfl)
  · cases h


def FthPlace : Pure1 := fun
  | [.agg [.int .i64 st, .int .i64 kd, .int .i64 vl, .int .i64 un, .int .i64 pc, .int .i64 rg, .int .i64 sn, .int .i64 tr, .bool lt, .int .i64 rs, .int .i64 gt]] => some (none, .bool (band (band (band (band (ige pc 0) (ile pc 11)) (band (ige tr 0) (ile tr 1099511627776))) (band (ige rg 0) (ile rg 1099511627776))) (band (ige sn (-1)) (ile sn 1099511627776))))
  | _ => none

theorem vc_thPlace (st kd vl un pc rg sn tr : Int) (lt : Bool) (rs gt : Int) (r : AV) : VC Tryz.prog (tabS tabT2) noL false 84 [.agg [.int .i64 st, .int .i64 kd, .int .i64 vl, .int .i64 un, .int .i64 pc, .int .i64 rg, .int .i64 sn, .int .i64 tr, .bool lt, .int .i64 rs, .int .i64 gt]] r = (
  some
      (AV.bool
        (bite
          (bite (bite (band (ige pc 0) (ile pc 11)) (band (ige tr 0) (ile tr 1099511627776)) false)
            (band (ige rg 0) (ile rg 1099511627776)) false)
          (band (ige sn (-1)) (ile sn 1099511627776)) false)) =
    some r) := by kernel_rfl

theorem ok_thPlace : PureOK Tryz.prog 84 FthPlace := by
  refine tab_plain mixed (l := tabT2) ok_tabT2 false (by kernel_rfl) fun xs b r h hb wf => ?_
  unfold FthPlace at h
  split at h
  · rename_i st kd vl un pc rg sn tr lt rs gt
    cases h
    try rw [some_f] at hb
    try simp only [WFL, WF, List.mem_cons, List.not_mem_nil, or_false, forall_eq_or_imp, forall_eq, Col.len, and_true, true_and] at wf
    rw [vc_thPlace]
    simp only [bite_and, bite_or]
    all_goals (try simp [asrt_iff, br_iff, ieq_t, ieq_f, ine_t, ine_f, ilt_t, ilt_f, ile_t, ile_f, igt_t, igt_f, ige_t, ige_f, nlt_t, nlt_f, nle_t, nle_f, neq_t, neq_f, beq2_t, beq2_f, bnot_t, bnot_f, band_t, band_f, bite_t, bite_f, bimp_t, bimp_f, iadd_e, isub_e, imul_e, ofN_e, nOf_e, nAdd_e, nDiff_e, room_e, lenI_e, gI_e, gB_e, imin_e, imax_e, cat_e, pt_e, put_e, some_f])
    all_goals (try rfl)
  · cases h


def tabT3 : List (FuncId × Pure1) := [(54, FthBare), (82, FthKind), (83, FthTime), (84, FthPlace)] ++ tabT2

theorem ok_tabT3 : ∀ p ∈ tabT3, PureOK Tryz.prog p.1 p.2 := by
  intro p hp
  simp only [tabT3, List.mem_append, List.mem_cons, List.not_mem_nil, or_false] at hp
  rcases hp with (rfl | rfl | rfl | rfl) | hp
  · exact ok_thBare
  · exact ok_thKind
  · exact ok_thTime
  · exact ok_thPlace
  · exact ok_tabT2 p hp


def FthCheck : Pure1 := fun
  | [.agg [.int .i64 st, .int .i64 kd, .int .i64 vl, .int .i64 un, .int .i64 pc, .int .i64 rg, .int .i64 sn, .int .i64 tr, .bool lt, .int .i64 rs, .int .i64 gt]] => some (none, .bool (thOk st kd un pc rg sn tr lt rs))
  | _ => none

theorem vc_thCheck (st kd vl un pc rg sn tr : Int) (lt : Bool) (rs gt : Int) (r : AV) : VC Tryz.prog (tabS tabT3) noL false 62 [.agg [.int .i64 st, .int .i64 kd, .int .i64 vl, .int .i64 un, .int .i64 pc, .int .i64 rg, .int .i64 sn, .int .i64 tr, .bool lt, .int .i64 rs, .int .i64 gt]] r = (
  some
      (AV.bool
        (bite
          (bite
            (bite
              (bite (bite (band (ige st 0) (ile st 2)) (band (ige rs 0) (ile rs 7)) false)
                (bite (igt (opSide kd) 0) true (band (ieq kd 0) (ieq st 0))) false)
              (band (band (ige un 0) (ile un 1099511627776)) (bite (opTimed kd) true (band (ieq un 0) (bnot lt))))
              false)
            (band
              (band (band (band (ige pc 0) (ile pc 11)) (band (ige tr 0) (ile tr 1099511627776)))
                (band (ige rg 0) (ile rg 1099511627776)))
              (band (ige sn (-1)) (ile sn 1099511627776)))
            false)
          (bite (ine st 0) true
            (band (ieq st 0)
              (band (ieq kd kd)
                (band (ieq vl vl)
                  (band (ieq un un)
                    (band (ieq pc 0)
                      (band (ieq rg 0)
                        (band (ieq sn 0)
                          (band (ieq tr 0) (band (beq2 lt false) (band (ieq rs rs) (band (ieq gt gt) true))))))))))))
          false)) =
    some r) := by kernel_rfl

theorem ok_thCheck : PureOK Tryz.prog 62 FthCheck := by
  refine tab_plain mixed (l := tabT3) ok_tabT3 false (by kernel_rfl) fun xs b r h hb wf => ?_
  unfold FthCheck at h
  split at h
  · rename_i st kd vl un pc rg sn tr lt rs gt
    cases h
    try rw [some_f] at hb
    try simp only [WFL, WF, List.mem_cons, List.not_mem_nil, or_false, forall_eq_or_imp, forall_eq, Col.len, and_true, true_and] at wf
    rw [vc_thCheck]
    simp only [bite_and, bite_or]
    simp [asrt_iff, br_iff, ieq_t, ieq_f, ine_t, ine_f, ilt_t, ilt_f, ile_t, ile_f, igt_t, igt_f, ige_t, ige_f, nlt_t, nlt_f, nle_t, nle_f, neq_t, neq_f, beq2_t, beq2_f, bnot_t, bnot_f, band_t, band_f, bite_t, bite_f, bimp_t, bimp_f, iadd_e, isub_e, imul_e, ofN_e, nOf_e, nAdd_e, nDiff_e, room_e, lenI_e, gI_e, gB_e, imin_e, imax_e, cat_e, pt_e, put_e, some_f, thOk]
    rw [Bool.eq_iff_iff]
    simp [asrt_iff, br_iff, ieq_t, ieq_f, ine_t, ine_f, ilt_t, ilt_f, ile_t, ile_f, igt_t, igt_f, ige_t, ige_f, nlt_t, nlt_f, nle_t, nle_f, neq_t, neq_f, beq2_t, beq2_f, bnot_t, bnot_f, band_t, band_f, bite_t, bite_f, bimp_t, bimp_f, iadd_e, isub_e, imul_e, ofN_e, nOf_e, nAdd_e, nDiff_e, room_e, lenI_e, gI_e, gB_e, imin_e, imax_e, cat_e, pt_e, put_e, some_f]
    grind (splits := 60)
  · cases h


def tabT4 : List (FuncId × Pure1) := [(62, FthCheck)]

theorem ok_tabT4 : ∀ p ∈ tabT4, PureOK Tryz.prog p.1 p.2 := by
  intro p hp
  simp only [tabT4, List.mem_cons, List.not_mem_nil, or_false] at hp
  rcases hp with rfl
  · exact ok_thCheck


def FthRuns : Pure1 := fun
  | [.agg [.int .i64 st, .int .i64 kd, .int .i64 vl, .int .i64 un, .int .i64 pc, .int .i64 rg, .int .i64 sn, .int .i64 tr, .bool lt, .int .i64 rs, .int .i64 gt]] => some (none, .int .i64 (thRuns st))
  | _ => none

theorem vc_thRuns (st kd vl un pc rg sn tr : Int) (lt : Bool) (rs gt : Int) (r : AV) : VC Tryz.prog (tabS tabT3) noL false 47 [.agg [.int .i64 st, .int .i64 kd, .int .i64 vl, .int .i64 un, .int .i64 pc, .int .i64 rg, .int .i64 sn, .int .i64 tr, .bool lt, .int .i64 rs, .int .i64 gt]] r = (
  br (ieq st 0) (some (AV.int IntKind.i64 121) = some r)
    (br (ieq st 2) (some (AV.int IntKind.i64 122) = some r) (some (AV.int IntKind.i64 0) = some r))) := by kernel_rfl

theorem ok_thRuns : PureOK Tryz.prog 47 FthRuns := by
  refine tab_plain mixed (l := tabT3) ok_tabT3 false (by kernel_rfl) fun xs b r h hb wf => ?_
  unfold FthRuns at h
  split at h
  · rename_i st kd vl un pc rg sn tr lt rs gt
    cases h
    try rw [some_f] at hb
    try simp only [WFL, WF, List.mem_cons, List.not_mem_nil, or_false, forall_eq_or_imp, forall_eq, Col.len, and_true, true_and] at wf
    rw [vc_thRuns]
    simp [asrt_iff, br_iff, ieq_t, ieq_f, ine_t, ine_f, ilt_t, ilt_f, ile_t, ile_f, igt_t, igt_f, ige_t, ige_f, nlt_t, nlt_f, nle_t, nle_f, neq_t, neq_f, beq2_t, beq2_f, bnot_t, bnot_f, band_t, band_f, bite_t, bite_f, bimp_t, bimp_f, iadd_e, isub_e, imul_e, ofN_e, nOf_e, nAdd_e, nDiff_e, room_e, lenI_e, gI_e, gB_e, imin_e, imax_e, cat_e, pt_e, put_e, some_f, thRuns]
    try grind
  · cases h


def FthWake : Pure1 := fun
  | [.agg [.int .i64 st, .int .i64 kd, .int .i64 vl, .int .i64 un, .int .i64 pc, .int .i64 rg, .int .i64 sn, .int .i64 tr, .bool lt, .int .i64 rs, .int .i64 gt]] => some (none, .agg [.int .i64 (iite (ieq st 2) 1 st), .int .i64 kd, .int .i64 vl, .int .i64 un, .int .i64 pc, .int .i64 rg, .int .i64 sn, .int .i64 tr, .bool lt, .int .i64 rs, .int .i64 gt])
  | _ => none

theorem vc_thWake (st kd vl un pc rg sn tr : Int) (lt : Bool) (rs gt : Int) (r : AV) : VC Tryz.prog (tabS tabT3) noL false 45 [.agg [.int .i64 st, .int .i64 kd, .int .i64 vl, .int .i64 un, .int .i64 pc, .int .i64 rg, .int .i64 sn, .int .i64 tr, .bool lt, .int .i64 rs, .int .i64 gt]] r = (
  br (ieq st 2)
    (some
        (AV.agg
          [AV.int IntKind.i64 1, AV.int IntKind.i64 kd, AV.int IntKind.i64 vl, AV.int IntKind.i64 un,
            AV.int IntKind.i64 pc, AV.int IntKind.i64 rg, AV.int IntKind.i64 sn, AV.int IntKind.i64 tr, AV.bool lt,
            AV.int IntKind.i64 rs, AV.int IntKind.i64 gt]) =
      some r)
    (some
        (AV.agg
          [AV.int IntKind.i64 st, AV.int IntKind.i64 kd, AV.int IntKind.i64 vl, AV.int IntKind.i64 un,
            AV.int IntKind.i64 pc, AV.int IntKind.i64 rg, AV.int IntKind.i64 sn, AV.int IntKind.i64 tr, AV.bool lt,
            AV.int IntKind.i64 rs, AV.int IntKind.i64 gt]) =
      some r)) := by kernel_rfl

theorem ok_thWake : PureOK Tryz.prog 45 FthWake := by
  refine tab_plain mixed (l := tabT3) ok_tabT3 false (by kernel_rfl) fun xs b r h hb wf => ?_
  unfold FthWake at h
  split at h
  · rename_i st kd vl un pc rg sn tr lt rs gt
    cases h
    try rw [some_f] at hb
    try simp only [WFL, WF, List.mem_cons, List.not_mem_nil, or_false, forall_eq_or_imp, forall_eq, Col.len, and_true, true_and] at wf
    rw [vc_thWake]
    simp [asrt_iff, br_iff, ieq_t, ieq_f, ine_t, ine_f, ilt_t, ilt_f, ile_t, ile_f, igt_t, igt_f, ige_t, ige_f, nlt_t, nlt_f, nle_t, nle_f, neq_t, neq_f, beq2_t, beq2_f, bnot_t, bnot_f, band_t, band_f, bite_t, bite_f, bimp_t, bimp_f, iadd_e, isub_e, imul_e, ofN_e, nOf_e, nAdd_e, nDiff_e, room_e, lenI_e, gI_e, gB_e, imin_e, imax_e, cat_e, pt_e, put_e, some_f, iite, ieq]
    try grind
  · cases h


def Fmay : Pure1 := fun
  | [.agg [.int .i64 lg, .int .i64 th, .int .i64 po, .int .i64 wt, .int .i64 sp, .int .i64 yi, .bool sg], .int .i64 id, .int .i64 kind] => some (none, .int .i64 (mayE th sg id kind))
  | _ => none

theorem vc_may (lg th po wt sp yi : Int) (sg : Bool) (id kind : Int) (r : AV) : VC Tryz.prog (tabS tabT1) noL false 39 [.agg [.int .i64 lg, .int .i64 th, .int .i64 po, .int .i64 wt, .int .i64 sp, .int .i64 yi, .bool sg], .int .i64 id, .int .i64 kind] r = (
  br (bite (ilt id 0) true (ige id th)) (some (AV.int IntKind.i64 123) = some r)
    (br (bnot (igt (opSide kind) 0)) (some (AV.int IntKind.i64 190) = some r)
      (br (bite (bite sg (ieq (opSide kind) 2) false) (igt id 0) false) (some (AV.int IntKind.i64 123) = some r)
        (some (AV.int IntKind.i64 0) = some r)))) := by kernel_rfl

theorem ok_may : PureOK Tryz.prog 39 Fmay := by
  refine tab_plain mixed (l := tabT1) ok_tabT1 false (by kernel_rfl) fun xs b r h hb wf => ?_
  unfold Fmay at h
  split at h
  · rename_i lg th po wt sp yi sg id kind
    cases h
    try rw [some_f] at hb
    try simp only [WFL, WF, List.mem_cons, List.not_mem_nil, or_false, forall_eq_or_imp, forall_eq, Col.len, and_true, true_and] at wf
    rw [vc_may]
    simp only [bite_and, bite_or]
    have h0 : 0 ≤ opSide kind := by unfold opSide; repeat' split <;> omega
    simp [asrt_iff, br_iff, ieq_t, ieq_f, ine_t, ine_f, ilt_t, ilt_f, ile_t, ile_f, igt_t, igt_f, ige_t, ige_f, nlt_t, nlt_f, nle_t, nle_f, neq_t, neq_f, beq2_t, beq2_f, bnot_t, bnot_f, band_t, band_f, bite_t, bite_f, bimp_t, bimp_f, iadd_e, isub_e, imul_e, ofN_e, nOf_e, nAdd_e, nDiff_e, room_e, lenI_e, gI_e, gB_e, imin_e, imax_e, cat_e, pt_e, put_e, some_f, mayE]
    try grind (splits := 40)
  · cases h


def FposLen : Pure1 := fun
  | [.agg [.int .i64 hd, .int .i64 tl, .int .i64 md]] => some (some (in64 hd tl), .int .i64 (wlen hd tl))
  | _ => none

theorem vc_posLen (hd tl md : Int) (r : AV) : VC Tryz.prog (tabS tab0) noL false 86 [.agg [.int .i64 hd, .int .i64 tl, .int .i64 md]] r = (
  br (bite (band (ieq hd 0) (band (ieq tl 0) (band (ieq md 0) true))) true (ile tl hd))
    (some (AV.int IntKind.i64 0) = some r)
    (br (bite (ilt hd 0) (igt tl (iadd IntKind.i64 9223372036854775807 hd)) false)
      (some (AV.int IntKind.i64 9223372036854775807) = some r)
      (some (AV.int IntKind.i64 (isub IntKind.i64 tl hd)) = some r))) := by kernel_rfl

theorem ok_posLen : PureOK Tryz.prog 86 FposLen := by
  refine tab_plain mixed (l := tab0) ok_tab0 false (by kernel_rfl) fun xs b r h hb wf => ?_
  unfold FposLen at h
  split at h
  · rename_i hd tl md
    cases h
    try rw [some_f] at hb
    try simp only [WFL, WF, List.mem_cons, List.not_mem_nil, or_false, forall_eq_or_imp, forall_eq, Col.len, and_true, true_and] at wf
    rw [vc_posLen]
    simp [in64] at hb
    simp only [bite_and, bite_or]
    have w1 : ilt hd 0 = true → IntKind.i64.wrap (9223372036854775807 + hd) = 9223372036854775807 + hd := by
      intro h; simp [ilt] at h; exact IntWalk.i64_in _ (by omega)
    by_cases c1 : tl ≤ hd
    · simp [asrt_iff, br_iff, ieq_t, ieq_f, ine_t, ine_f, ilt_t, ilt_f, ile_t, ile_f, igt_t, igt_f, ige_t, ige_f, nlt_t, nlt_f, nle_t, nle_f, neq_t, neq_f, beq2_t, beq2_f, bnot_t, bnot_f, band_t, band_f, bite_t, bite_f, bimp_t, bimp_f, iadd_e, isub_e, imul_e, ofN_e, nOf_e, nAdd_e, nDiff_e, room_e, lenI_e, gI_e, gB_e, imin_e, imax_e, cat_e, pt_e, put_e, some_f, wlen, c1]
      all_goals (intros; exfalso; omega)
    · by_cases c2 : hd < 0
      · have w2 := w1 (by simp [ilt, c2])
        by_cases c3 : 9223372036854775807 + hd < tl
        · simp [asrt_iff, br_iff, ieq_t, ieq_f, ine_t, ine_f, ilt_t, ilt_f, ile_t, ile_f, igt_t, igt_f, ige_t, ige_f, nlt_t, nlt_f, nle_t, nle_f, neq_t, neq_f, beq2_t, beq2_f, bnot_t, bnot_f, band_t, band_f, bite_t, bite_f, bimp_t, bimp_f, iadd_e, isub_e, imul_e, ofN_e, nOf_e, nAdd_e, nDiff_e, room_e, lenI_e, gI_e, gB_e, imin_e, imax_e, cat_e, pt_e, put_e, some_f, wlen, c1, c2, w2, c3]
          refine ⟨by intros; omega, by intros; omega⟩
        · have w3 : IntKind.i64.wrap (tl - hd) = tl - hd := IntWalk.i64_in _ (by omega)
          simp [asrt_iff, br_iff, ieq_t, ieq_f, ine_t, ine_f, ilt_t, ilt_f, ile_t, ile_f, igt_t, igt_f, ige_t, ige_f, nlt_t, nlt_f, nle_t, nle_f, neq_t, neq_f, beq2_t, beq2_f, bnot_t, bnot_f, band_t, band_f, bite_t, bite_f, bimp_t, bimp_f, iadd_e, isub_e, imul_e, ofN_e, nOf_e, nAdd_e, nDiff_e, room_e, lenI_e, gI_e, gB_e, imin_e, imax_e, cat_e, pt_e, put_e, some_f, wlen, c1, c2, w2, c3, w3]
          intros; omega
      · have w3 : IntKind.i64.wrap (tl - hd) = tl - hd := IntWalk.i64_in _ (by omega)
        simp [asrt_iff, br_iff, ieq_t, ieq_f, ine_t, ine_f, ilt_t, ilt_f, ile_t, ile_f, igt_t, igt_f, ige_t, ige_f, nlt_t, nlt_f, nle_t, nle_f, neq_t, neq_f, beq2_t, beq2_f, bnot_t, bnot_f, band_t, band_f, bite_t, bite_f, bimp_t, bimp_f, iadd_e, isub_e, imul_e, ofN_e, nOf_e, nAdd_e, nDiff_e, room_e, lenI_e, gI_e, gB_e, imin_e, imax_e, cat_e, pt_e, put_e, some_f, wlen, c1, c2, w3]
        intros; omega
  · cases h

  

def tabP0 : List (FuncId × Pure1) := [(86, FposLen)]

theorem ok_tabP0 : ∀ p ∈ tabP0, PureOK Tryz.prog p.1 p.2 := by
  intro p hp
  simp only [tabP0, List.mem_cons, List.not_mem_nil, or_false] at hp
  rcases hp with rfl
  · exact ok_posLen


def FposCheck : Pure1 := fun
  | [.agg [.int .i64 hd, .int .i64 tl, .int .i64 md], .int .i64 room] => some (some (in64 hd tl), .bool (wordOk hd tl md room))
  | _ => none

theorem vc_posCheck (hd tl md : Int) (room : Int) (r : AV) : VC Tryz.prog (tabS tabP0) noL false 63 [.agg [.int .i64 hd, .int .i64 tl, .int .i64 md], .int .i64 room] r = (
  asrt (bimp (bite (bite (ige tl hd) (ile tl 1099511627776) false) (ige hd 0) false) (in64 hd tl))
    (br (bite (bite (bite (ige tl hd) (ile tl 1099511627776) false) (ige hd 0) false) (ile (wlen hd tl) room) false)
      (some (AV.bool (bite (ige md 0) (ile md 2) false)) = some r) (some (AV.bool false) = some r))) := by kernel_rfl

theorem ok_posCheck : PureOK Tryz.prog 63 FposCheck := by
  refine tab_plain mixed (l := tabP0) ok_tabP0 false (by kernel_rfl) fun xs b r h hb wf => ?_
  unfold FposCheck at h
  split at h
  · rename_i hd tl md room
    cases h
    try rw [some_f] at hb
    try simp only [WFL, WF, List.mem_cons, List.not_mem_nil, or_false, forall_eq_or_imp, forall_eq, Col.len, and_true, true_and] at wf
    rw [vc_posCheck]
    simp only [bite_and, bite_or]
    simp [asrt_iff, br_iff, ieq_t, ieq_f, ine_t, ine_f, ilt_t, ilt_f, ile_t, ile_f, igt_t, igt_f, ige_t, ige_f, nlt_t, nlt_f, nle_t, nle_f, neq_t, neq_f, beq2_t, beq2_f, bnot_t, bnot_f, band_t, band_f, bite_t, bite_f, bimp_t, bimp_f, iadd_e, isub_e, imul_e, ofN_e, nOf_e, nAdd_e, nDiff_e, room_e, lenI_e, gI_e, gB_e, imin_e, imax_e, cat_e, pt_e, put_e, some_f, wordOk, hb]
    rw [Bool.eq_iff_iff]
    simp [asrt_iff, br_iff, ieq_t, ieq_f, ine_t, ine_f, ilt_t, ilt_f, ile_t, ile_f, igt_t, igt_f, ige_t, ige_f, nlt_t, nlt_f, nle_t, nle_f, neq_t, neq_f, beq2_t, beq2_f, bnot_t, bnot_f, band_t, band_f, bite_t, bite_f, bimp_t, bimp_f, iadd_e, isub_e, imul_e, ofN_e, nOf_e, nAdd_e, nDiff_e, room_e, lenI_e, gI_e, gB_e, imin_e, imax_e, cat_e, pt_e, put_e, some_f]
    try grind
  · cases h


def FposPlace : Pure1 := fun
  | [.int .i64 p, .int .i64 room] => some (none, .int .i64 (placeOf p room))
  | _ => none

theorem vc_posPlace (p room : Int) (r : AV) : VC Tryz.prog (tabS tab0) noL false 87 [.int .i64 p, .int .i64 room] r = (
  br (bnot (bite (ige p 0) (ige room 1) false)) (some (AV.int IntKind.i64 0) = some r)
    (asrt (ine room 0) (some (AV.int IntKind.i64 (irem p room)) = some r))) := by kernel_rfl

theorem ok_posPlace : PureOK Tryz.prog 87 FposPlace := by
  refine tab_plain mixed (l := tab0) ok_tab0 false (by kernel_rfl) fun xs b r h hb wf => ?_
  unfold FposPlace at h
  split at h
  · rename_i p room
    cases h
    try rw [some_f] at hb
    try simp only [WFL, WF, List.mem_cons, List.not_mem_nil, or_false, forall_eq_or_imp, forall_eq, Col.len, and_true, true_and] at wf
    rw [vc_posPlace]
    simp only [bite_and, bite_or]
    have w : 0 ≤ p → irem p room = p % room := fun h => by unfold irem; exact Int.tmod_eq_emod_of_nonneg h
    by_cases c : 0 ≤ p ∧ 1 ≤ room
    · have e : placeOf p room = p % room := by unfold placeOf; rw [if_pos c]
      have c3 : ¬ room = 0 := by omega
      have c4 : ¬ room < 1 := by omega
      rw [e]
      simp [asrt_iff, br_iff, ieq_t, ieq_f, ine_t, ine_f, ilt_t, ilt_f, ile_t, ile_f, igt_t, igt_f, ige_t, ige_f, nlt_t, nlt_f, nle_t, nle_f, neq_t, neq_f, beq2_t, beq2_f, bnot_t, bnot_f, band_t, band_f, bite_t, bite_f, bimp_t, bimp_f, iadd_e, isub_e, imul_e, ofN_e, nOf_e, nAdd_e, nDiff_e, room_e, lenI_e, gI_e, gB_e, imin_e, imax_e, cat_e, pt_e, put_e, some_f, c, c3, c4, w c.1]
    · have e : placeOf p room = 0 := by unfold placeOf; rw [if_neg c]
      rw [e]
      simp [asrt_iff, br_iff, ieq_t, ieq_f, ine_t, ine_f, ilt_t, ilt_f, ile_t, ile_f, igt_t, igt_f, ige_t, ige_f, nlt_t, nlt_f, nle_t, nle_f, neq_t, neq_f, beq2_t, beq2_f, bnot_t, bnot_f, band_t, band_f, bite_t, bite_f, bimp_t, bimp_f, iadd_e, isub_e, imul_e, ofN_e, nOf_e, nAdd_e, nDiff_e, room_e, lenI_e, gI_e, gB_e, imin_e, imax_e, cat_e, pt_e, put_e, some_f]
      intro h1 h2
      exact absurd ⟨h1, h2⟩ c
  · cases h


end Go.Own
