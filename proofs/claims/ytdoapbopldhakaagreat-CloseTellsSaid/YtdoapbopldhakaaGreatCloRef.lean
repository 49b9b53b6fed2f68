/- The document's answers for who closes: what they stand on. -/
import Derived.Test.YtdoapbopldhakaaGreatCloLaw
namespace Go.Own
open Go Go.Proofs
set_option maxRecDepth 100000
set_option linter.unusedVariables false
set_option linter.unusedSimpArgs false

/-- Each from i on is a number of a thread, and stands there at first. -/
def lineFrom (l : List Int) (i : Nat) : Bool := ((List.range l.length).drop i).all fun j => !badId (l.getD j 0) && decide (idxAt l (l.getD j 0) 0 = j)

def amNo (th : Int) (l : List Int) (i : Nat) : Bool := (l.drop i).all fun x => decide (x < th)

def amB (th : Int) (l : List Int) : Bool := amNo th l 0 && lineOk l

def nextE (n : Int) : Int := if n = 1099511627776 then n else iadd .i64 n 1

def pow2 (lg : Int) : Int := 2 ^ lg.toNat


theorem lineFrom_lt {l : List Int} {i : Nat} (h : i < l.length) : lineFrom l i = ((!badId (l[i]?.getD 0) && decide (idxAt l (l[i]?.getD 0) 0 = i)) && lineFrom l (i + 1)) := by
  unfold lineFrom
  rw [List.drop_eq_getElem_cons (by simpa using h), List.all_cons]
  simp

theorem lineFrom_ge {l : List Int} {i : Nat} (h : l.length ≤ i) : lineFrom l i = true := by
  unfold lineFrom
  rw [List.drop_eq_nil_of_le (by simpa using h)]
  rfl

theorem lineFrom_ok (l : List Int) : lineFrom l 0 = lineOk l := by
  rw [Bool.eq_iff_iff, lineOk_iff]
  unfold lineFrom
  rw [List.drop_zero, List.all_eq_true]
  simp only [List.mem_range, Bool.and_eq_true, Bool.not_eq_true', decide_eq_true_eq]
  have hb : ∀ x : Int, badId x = false ↔ 0 ≤ x ∧ x < 16 := by
    intro x
    simp [badId, ilt, ige]
    try omega
  constructor
  · intro h
    refine ⟨fun x hx => ?_, ?_⟩
    · obtain ⟨j, hj, rfl⟩ := List.getElem_of_mem hx
      have := (h j hj).1
      rw [List.getD_eq_getElem?_getD, List.getElem?_eq_getElem hj] at this
      exact (hb _).1 this
    · refine List.pairwise_iff_getElem.2 fun i j hi hj hij he => ?_
      have h1 := (h i hi).2
      have h2 := (h j hj).2
      rw [List.getD_eq_getElem?_getD, List.getElem?_eq_getElem hi, he] at h1
      rw [List.getD_eq_getElem?_getD, List.getElem?_eq_getElem hj] at h2
      omega
  · rintro ⟨h1, h2⟩ j hj
    rw [List.getD_eq_getElem?_getD, List.getElem?_eq_getElem hj]
    refine ⟨(hb _).2 (h1 _ (List.getElem_mem hj)), ?_⟩
    show idxAt l l[j] 0 = j
    rcases idxAt_cases l l[j] with ⟨_, h3⟩ | ⟨k, hk, h3, h4, h5⟩
    · exact absurd (List.getElem_mem hj) h3
    · rw [h3]
      have : k = j := by
        rcases Nat.lt_trichotomy k j with h | h | h
        · exact absurd h4 (List.pairwise_iff_getElem.1 h2 k j hk hj h)
        · exact h
        · exact absurd rfl (h5 j h)
      rw [this]

theorem amNo_lt {th : Int} {l : List Int} {i : Nat} (h : i < l.length) : amNo th l i = (decide (l[i]?.getD 0 < th) && amNo th l (i + 1)) := by
  unfold amNo
  rw [List.drop_eq_getElem_cons h, List.all_cons]
  simp [h]

theorem amNo_ge {th : Int} {l : List Int} {i : Nat} (h : l.length ≤ i) : amNo th l i = true := by
  unfold amNo
  rw [List.drop_eq_nil_of_le h]
  rfl

def spec_rAt : LoopSpec := { n := 19, keep := [0, 1, 5], srcs := [], keepE := [4], srcsE := [], goes := fun vals objs Q => match vals, objs with
  | [.sl n [.int .i64 l], .int .i64 id, .int .i64 i], [] => asrt (band (nle n big) (band (ile 0 i) (ile i (ofN n)))) (br (ieq (idxAt l id (nOf i)) (-1)) (Q (.exit 0) [.top] []) (Q .ret [.int .i64 (idxAt l id (nOf i))] []))
  | _, _ => False }

theorem lp_rAt (n : Nat) (l : List Int) (id i : Int) (mu : List AV → Heap → Nat) (Q : Ex → List AV → Heap → Prop) : runCode Tryz.prog (tabS tab0) (callN Tryz.prog (tabS tab0) noL 11) (fun _ => none) (bodyOf Tryz.prog 99 0) 0 ⟨mkT (spec_rAt).keep [.sl n [.int .i64 l], .int .i64 id, .int .i64 i] (spec_rAt).n 0, []⟩ ((spec_rAt).ends mu [.sl n [.int .i64 l], .int .i64 id, .int .i64 i] ([]) Q) = (
  br (ilt i (ofN n))
    (asrt (band (ile 0 i) (ilt i (ofN n)))
      (br (ieq (gI l (nOf i)) id) (Q Ex.ret [AV.int IntKind.i64 i] [])
        ((mu [AV.sl n [Col.int IntKind.i64 l], AV.int IntKind.i64 id, AV.int IntKind.i64 (iadd IntKind.i64 i 1)]
                  []).succ.le
            (mu [AV.sl n [Col.int IntKind.i64 l], AV.int IntKind.i64 id, AV.int IntKind.i64 i] []) ∧
          asrt (band (nle n big) (band (ile 0 (iadd IntKind.i64 i 1)) (ile (iadd IntKind.i64 i 1) (ofN n))))
            (br (ieq (idxAt l id (nOf (iadd IntKind.i64 i 1))) (-1)) (Q (Ex.exit 0) [AV.top] [])
              (Q Ex.ret [AV.int IntKind.i64 (idxAt l id (nOf (iadd IntKind.i64 i 1)))] [])))))
    (Q (Ex.exit 0) [AV.top] [])) := by kernel_rfl

theorem loop_rAt : LoopOK Tryz.prog (bodyOf Tryz.prog 99 0) spec_rAt.summ := by
  refine tab_loop mixed (l := tab0) ok_tab0 (i := 0) spec_rAt (fun vals objs => match vals, objs with
    | [.sl n [.int .i64 l], .int .i64 id, .int .i64 i], [] => (n - i).toNat
    | _, _ => 0) fun vals objs Q h1 h2 wf wo hg => ?_
  unfold spec_rAt at hg
  simp only at hg
  split at hg
  · rename_i n l id i
    clear h1 h2
    try simp only [WFL, WF, List.mem_cons, List.not_mem_nil, or_false, forall_eq_or_imp, forall_eq, Col.len, and_true, true_and] at wf
    rw [lp_rAt]
    have hl : l.length = n := wf
    simp [asrt_iff, br_iff, ieq_t, ieq_f, ine_t, ine_f, ilt_t, ilt_f, ile_t, ile_f, igt_t, igt_f, ige_t, ige_f, nlt_t, nlt_f, nle_t, nle_f, neq_t, neq_f, beq2_t, beq2_f, bnot_t, bnot_f, band_t, band_f, bite_t, bite_f, bimp_t, bimp_f, iadd_e, isub_e, imul_e, ofN_e, nOf_e, nAdd_e, nDiff_e, room_e, lenI_e, gI_e, gB_e, imin_e, imax_e, cat_e, pt_e, put_e, some_f] at hg ⊢
    obtain ⟨⟨hb, h0, hn⟩, hg⟩ := hg
    obtain ⟨k, rfl⟩ := Int.eq_ofNat_of_zero_le h0
    have hb' : n ≤ 2 ^ 50 := by simpa [big] using hb
    simp at hn hg ⊢
    refine ⟨fun hk => ?_, fun hk => ?_⟩
    · rw [wr (by omega) (by omega)]
      rw [show ((k : Int) + 1).toNat = k + 1 by omega]
      rw [idxAt_lt (by omega)] at hg
      refine ⟨hk, fun hx => ?_, fun hx => ?_⟩
      · rw [if_pos hx.symm] at hg
        exact hg.2 (by omega)
      · rw [if_neg (fun e => hx e.symm)] at hg
        exact ⟨by omega, ⟨hb, by omega, by omega⟩, hg⟩
    · rw [idxAt_ge (by omega)] at hg
      exact hg.1 rfl
  · exact hg.elim


def LrAt : Nat → Option LoopS := fun i => match i with
  | 0 => some (.summ spec_rAt.summ)
  | _ => none

theorem ok_LrAt : ∀ i x, LrAt i = some x → LoopHyp Tryz.prog 99 i x := by
  intro i s h
  unfold LrAt at h
  split at h
  · cases h; exact ⟨by kernel_rfl, loop_rAt⟩
  · cases h


def FrAt : Pure1 := fun
  | [.sl n [.int .i64 l], .int .i64 id] => some (some (nle n big), .int .i64 (idxAt l id 0))
  | _ => none

theorem vc_rAt (n : Nat) (l : List Int) (id : Int) (r : AV) : VC Tryz.prog (tabS tab0) (oneL 99 LrAt) false 99 [.sl n [.int .i64 l], .int .i64 id] r = (
  asrt (band (nle n big) (ile 0 (ofN n)))
    (br (ieq (idxAt l id 0) (-1)) (some (AV.int IntKind.i64 (-1)) = some r)
      (some (AV.int IntKind.i64 (idxAt l id 0)) = some r))) := by kernel_rfl

theorem ok_rAt : PureOK Tryz.prog 99 FrAt := by
  refine tab_loops mixed (l := tab0) ok_tab0 false LrAt (by kernel_rfl) ok_LrAt fun xs b r h hb wf => ?_
  unfold FrAt at h
  split at h
  · rename_i n l id
    cases h
    try rw [some_f] at hb
    try simp only [WFL, WF, List.mem_cons, List.not_mem_nil, or_false, forall_eq_or_imp, forall_eq, Col.len, and_true, true_and] at wf
    rw [vc_rAt]
    simp [asrt_iff, br_iff, ieq_t, ieq_f, ine_t, ine_f, ilt_t, ilt_f, ile_t, ile_f, igt_t, igt_f, ige_t, ige_f, nlt_t, nlt_f, nle_t, nle_f, neq_t, neq_f, beq2_t, beq2_f, bnot_t, bnot_f, band_t, band_f, bite_t, bite_f, bimp_t, bimp_f, iadd_e, isub_e, imul_e, ofN_e, nOf_e, nAdd_e, nDiff_e, room_e, lenI_e, gI_e, gB_e, imin_e, imax_e, cat_e, pt_e, put_e, some_f] at hb ⊢
    grind
  · cases h


def tabR0 : List (FuncId × Pure1) := [(99, FrAt)] ++ tabH

theorem ok_tabR0 : ∀ p ∈ tabR0, PureOK Tryz.prog p.1 p.2 := by
  intro p hp
  simp only [tabR0, List.mem_append, List.mem_cons, List.not_mem_nil, or_false] at hp
  rcases hp with (rfl) | hp
  · exact ok_rAt
  · exact ok_tabH p hp


def spec_rLine : LoopSpec := { n := 32, keep := [0, 3], srcs := [], keepE := [2], srcsE := [], goes := fun vals objs Q => match vals, objs with
  | [.sl n [.int .i64 l], .int .i64 i], [] => asrt (band (nle n big) (band (ile 0 i) (ile i (ofN n)))) (br (lineFrom l (nOf i)) (Q (.exit 0) [.top] []) (Q .ret [.bool false] []))
  | _, _ => False }

theorem lp_rLine (n : Nat) (l : List Int) (i : Int) (mu : List AV → Heap → Nat) (Q : Ex → List AV → Heap → Prop) : runCode Tryz.prog (tabS tabR0) (callN Tryz.prog (tabS tabR0) noL 11) (fun _ => none) (bodyOf Tryz.prog 79 0) 0 ⟨mkT (spec_rLine).keep [.sl n [.int .i64 l], .int .i64 i] (spec_rLine).n 0, []⟩ ((spec_rLine).ends mu [.sl n [.int .i64 l], .int .i64 i] ([]) Q) = (
  br (ilt i (ofN n))
    (asrt (band (ile 0 i) (ilt i (ofN n)))
      (asrt (bimp (bnot (ilt (gI l (nOf i)) 0)) (band (ile 0 i) (ilt i (ofN n))))
        (asrt (bimp (bnot (bite (ilt (gI l (nOf i)) 0) true (igt (gI l (nOf i)) 15))) (band (ile 0 i) (ilt i (ofN n))))
          (asrt (bimp (bnot (bite (ilt (gI l (nOf i)) 0) true (igt (gI l (nOf i)) 15))) (nle n big))
            (br
              (bite (bite (ilt (gI l (nOf i)) 0) true (igt (gI l (nOf i)) 15)) true (ine (idxAt l (gI l (nOf i)) 0) i))
              (Q Ex.ret [AV.bool false] [])
              ((mu [AV.sl n [Col.int IntKind.i64 l], AV.int IntKind.i64 (iadd IntKind.i64 i 1)] []).succ.le
                  (mu [AV.sl n [Col.int IntKind.i64 l], AV.int IntKind.i64 i] []) ∧
                asrt (band (nle n big) (band (ile 0 (iadd IntKind.i64 i 1)) (ile (iadd IntKind.i64 i 1) (ofN n))))
                  (br (lineFrom l (nOf (iadd IntKind.i64 i 1))) (Q (Ex.exit 0) [AV.top] [])
                    (Q Ex.ret [AV.bool false] []))))))))
    (Q (Ex.exit 0) [AV.top] [])) := by kernel_rfl

theorem loop_rLine : LoopOK Tryz.prog (bodyOf Tryz.prog 79 0) spec_rLine.summ := by
  refine tab_loop mixed (l := tabR0) ok_tabR0 (i := 0) spec_rLine (fun vals objs => match vals, objs with
    | [.sl n [.int .i64 l], .int .i64 i], [] => (n - i).toNat
    | _, _ => 0) fun vals objs Q h1 h2 wf wo hg => ?_
  unfold spec_rLine at hg
  simp only at hg
  split at hg
  · rename_i n l i
    clear h1 h2
    try simp only [WFL, WF, List.mem_cons, List.not_mem_nil, or_false, forall_eq_or_imp, forall_eq, Col.len, and_true, true_and] at wf
    rw [lp_rLine]
    have hl : l.length = n := wf
    simp only [bite_and, bite_or]
    simp [asrt_iff, br_iff, ieq_t, ieq_f, ine_t, ine_f, ilt_t, ilt_f, ile_t, ile_f, igt_t, igt_f, ige_t, ige_f, nlt_t, nlt_f, nle_t, nle_f, neq_t, neq_f, beq2_t, beq2_f, bnot_t, bnot_f, band_t, band_f, bite_t, bite_f, bimp_t, bimp_f, iadd_e, isub_e, imul_e, ofN_e, nOf_e, nAdd_e, nDiff_e, room_e, lenI_e, gI_e, gB_e, imin_e, imax_e, cat_e, pt_e, put_e, some_f] at hg ⊢
    obtain ⟨⟨hb, h0, hn⟩, hg⟩ := hg
    obtain ⟨k, rfl⟩ := Int.eq_ofNat_of_zero_le h0
    have hb' : n ≤ 2 ^ 50 := by simpa [big] using hb
    simp at hn hg ⊢
    refine ⟨fun hk => ?_, fun hk => ?_⟩
    · have hw : IntKind.i64.wrap ((k : Int) + 1) = (k : Int) + 1 := wr (by omega) (by omega)
      have e2 : ((k : Int) + 1).toNat = k + 1 := by omega
      rw [hw, e2]
      rw [lineFrom_lt (by omega)] at hg
      have hbd : badId (l[k]?.getD 0) = decide (l[k]?.getD 0 < 0 ∨ 15 < l[k]?.getD 0) := by
        rw [Bool.eq_iff_iff]
        simp [badId, ilt, ige]
        omega
      rw [hbd] at hg
      refine ⟨hk, fun _ => hk, fun _ _ => hk, fun _ _ => hb, fun hx => ?_, fun h1 h2 h3 => ⟨by omega, ⟨hb, by omega, by omega⟩, ?_⟩⟩
      · refine hg.2 ?_
        rcases hx with hx | hx
        · rw [decide_eq_true hx]; rfl
        · rw [decide_eq_false hx, Bool.and_false]; rfl
      · have h4 : ¬ (l[k]?.getD 0 < 0 ∨ 15 < l[k]?.getD 0) := by omega
        rw [decide_eq_false h4, decide_eq_true h3] at hg
        simpa using hg
    · rw [lineFrom_ge (by omega)] at hg
      simpa using hg
  · exact hg.elim


def LrLine : Nat → Option LoopS := fun i => match i with
  | 0 => some (.summ spec_rLine.summ)
  | _ => none

theorem ok_LrLine : ∀ i x, LrLine i = some x → LoopHyp Tryz.prog 79 i x := by
  intro i s h
  unfold LrLine at h
  split at h
  · cases h; exact ⟨by kernel_rfl, loop_rLine⟩
  · cases h


def FrLine : Pure1 := fun
  | [.sl n [.int .i64 l]] => some (some (nle n big), .bool (lineOk l))
  | _ => none

theorem vc_rLine (n : Nat) (l : List Int) (r : AV) : VC Tryz.prog (tabS tabR0) (oneL 79 LrLine) false 79 [.sl n [.int .i64 l]] r = (
  asrt (band (nle n big) (ile 0 (ofN n)))
    (br (lineFrom l 0) (some (AV.bool true) = some r) (some (AV.bool false) = some r))) := by kernel_rfl

theorem ok_rLine : PureOK Tryz.prog 79 FrLine := by
  refine tab_loops mixed (l := tabR0) ok_tabR0 false LrLine (by kernel_rfl) ok_LrLine fun xs b r h hb wf => ?_
  unfold FrLine at h
  split at h
  · rename_i n l
    cases h
    try rw [some_f] at hb
    try simp only [WFL, WF, List.mem_cons, List.not_mem_nil, or_false, forall_eq_or_imp, forall_eq, Col.len, and_true, true_and] at wf
    rw [vc_rLine]
    rw [← lineFrom_ok]
    simp [asrt_iff, br_iff, ieq_t, ieq_f, ine_t, ine_f, ilt_t, ilt_f, ile_t, ile_f, igt_t, igt_f, ige_t, ige_f, nlt_t, nlt_f, nle_t, nle_f, neq_t, neq_f, beq2_t, beq2_f, bnot_t, bnot_f, band_t, band_f, bite_t, bite_f, bimp_t, bimp_f, iadd_e, isub_e, imul_e, ofN_e, nOf_e, nAdd_e, nDiff_e, room_e, lenI_e, gI_e, gB_e, imin_e, imax_e, cat_e, pt_e, put_e, some_f] at hb ⊢
    grind
  · cases h


def FrConf : Pure1 := fun
  | [.agg [.int .i64 lg, .int .i64 th, .int .i64 po, .int .i64 wt, .int .i64 sp, .int .i64 yi, .bool sg]] => some (none, .int .i64 (confE lg th po wt sp yi))
  | _ => none

theorem vc_rConf (lg th po wt sp yi : Int) (sg : Bool) (r : AV) : VC Tryz.prog (tabS tab0) noL false 104 [.agg [.int .i64 lg, .int .i64 th, .int .i64 po, .int .i64 wt, .int .i64 sp, .int .i64 yi, .bool sg]] r = (
  br
    (bite
      (bite
        (bite (bite (bite (bite (bite (ilt lg 1) true (igt lg 6)) true (ilt th 1)) true (igt th 16)) true (ilt po 0))
          true (igt po 2))
        true (ilt wt 0))
      true (igt wt 3))
    (some (AV.int IntKind.i64 20) = some r)
    (br
      (bite (bite (bite (bite (ilt sp 0) true (igt sp 8)) true (ilt yi 0)) true (igt yi 8)) true
        (bite (ine wt 2) (bite (ine sp 0) true (ine yi 0)) false))
      (some (AV.int IntKind.i64 20) = some r) (some (AV.int IntKind.i64 0) = some r))) := by kernel_rfl

theorem ok_rConf : PureOK Tryz.prog 104 FrConf := by
  refine tab_plain mixed (l := tab0) ok_tab0 false (by kernel_rfl) fun xs b r h hb wf => ?_
  unfold FrConf at h
  split at h
  · rename_i lg th po wt sp yi sg
    cases h
    try rw [some_f] at hb
    try simp only [WFL, WF, List.mem_cons, List.not_mem_nil, or_false, forall_eq_or_imp, forall_eq, Col.len, and_true, true_and] at wf
    rw [vc_rConf]
    simp only [bite_and, bite_or]
    by_cases hw : wt = 2 <;> simp [asrt_iff, br_iff, ieq_t, ieq_f, ine_t, ine_f, ilt_t, ilt_f, ile_t, ile_f, igt_t, igt_f, ige_t, ige_f, nlt_t, nlt_f, nle_t, nle_f, neq_t, neq_f, beq2_t, beq2_f, bnot_t, bnot_f, band_t, band_f, bite_t, bite_f, bimp_t, bimp_f, iadd_e, isub_e, imul_e, ofN_e, nOf_e, nAdd_e, nDiff_e, room_e, lenI_e, gI_e, gB_e, imin_e, imax_e, cat_e, pt_e, put_e, some_f, confE, hw] <;> omega
  · cases h


def tabR1 : List (FuncId × Pure1) := [(79, FrLine), (104, FrConf)] ++ tabR0

theorem ok_tabR1 : ∀ p ∈ tabR1, PureOK Tryz.prog p.1 p.2 := by
  intro p hp
  simp only [tabR1, List.mem_append, List.mem_cons, List.not_mem_nil, or_false] at hp
  rcases hp with (rfl | rfl) | hp
  · exact ok_rLine
  · exact ok_rConf
  · exact ok_tabR0 p hp


def LrRoom : Nat → Option LoopS := fun i => match i with
  | 0 => some (.unroll 7)
  | _ => none

theorem ok_LrRoom : ∀ i x, LrRoom i = some x → LoopHyp Tryz.prog 92 i x := by
  intro i s h
  unfold LrRoom at h
  split at h
  · cases h; trivial
  · cases h


def FrRoom : Pure1 := fun
  | [.agg [.int .i64 lg, .int .i64 th, .int .i64 po, .int .i64 wt, .int .i64 sp, .int .i64 yi, .bool sg]] => some (none, .int .i64 (roomOf lg th po wt sp yi))
  | _ => none

theorem vc_rRoom (lg th po wt sp yi : Int) (sg : Bool) (r : AV) : VC Tryz.prog (tabS tabR1) (oneL 92 LrRoom) false 92 [.agg [.int .i64 lg, .int .i64 th, .int .i64 po, .int .i64 wt, .int .i64 sp, .int .i64 yi, .bool sg]] r = (
  br (ine (confE lg th po wt sp yi) 0) (some (AV.int IntKind.i64 0) = some r)
    (br (ilt 0 lg)
      (br (ilt 1 lg)
        (br (ilt 2 lg)
          (br (ilt 3 lg)
            (br (ilt 4 lg)
              (br (ilt 5 lg)
                (br (ilt 6 lg) False
                  (some
                      (AV.int IntKind.i64
                        (imul IntKind.i64 2
                          (imul IntKind.i64 2
                            (imul IntKind.i64 2 (imul IntKind.i64 2 (imul IntKind.i64 2 (imul IntKind.i64 2 1))))))) =
                    some r))
                (some
                    (AV.int IntKind.i64
                      (imul IntKind.i64 2
                        (imul IntKind.i64 2 (imul IntKind.i64 2 (imul IntKind.i64 2 (imul IntKind.i64 2 1)))))) =
                  some r))
              (some
                  (AV.int IntKind.i64
                    (imul IntKind.i64 2 (imul IntKind.i64 2 (imul IntKind.i64 2 (imul IntKind.i64 2 1))))) =
                some r))
            (some (AV.int IntKind.i64 (imul IntKind.i64 2 (imul IntKind.i64 2 (imul IntKind.i64 2 1)))) = some r))
          (some (AV.int IntKind.i64 (imul IntKind.i64 2 (imul IntKind.i64 2 1))) = some r))
        (some (AV.int IntKind.i64 (imul IntKind.i64 2 1)) = some r))
      (some (AV.int IntKind.i64 1) = some r))) := by kernel_rfl

theorem ok_rRoom : PureOK Tryz.prog 92 FrRoom := by
  refine tab_loops mixed (l := tabR1) ok_tabR1 false LrRoom (by kernel_rfl) ok_LrRoom fun xs b r h hb wf => ?_
  unfold FrRoom at h
  split at h
  · rename_i lg th po wt sp yi sg
    cases h
    try rw [some_f] at hb
    try simp only [WFL, WF, List.mem_cons, List.not_mem_nil, or_false, forall_eq_or_imp, forall_eq, Col.len, and_true, true_and] at wf
    rw [vc_rRoom]
    by_cases c : confE lg th po wt sp yi = 0
    · have hlg : 1 ≤ lg ∧ lg ≤ 6 := by
        unfold confE at c
        split at c
        · omega
        · omega
      have : lg = 1 ∨ lg = 2 ∨ lg = 3 ∨ lg = 4 ∨ lg = 5 ∨ lg = 6 := by omega
      rw [br_iff]
      refine ⟨fun h => absurd c (by simpa [ine] using h), fun _ => ?_⟩
      unfold roomOf
      rw [if_pos c]
      rcases this with rfl | rfl | rfl | rfl | rfl | rfl <;> rfl
    · simp [asrt_iff, br_iff, ieq_t, ieq_f, ine_t, ine_f, ilt_t, ilt_f, ile_t, ile_f, igt_t, igt_f, ige_t, ige_f, nlt_t, nlt_f, nle_t, nle_f, neq_t, neq_f, beq2_t, beq2_f, bnot_t, bnot_f, band_t, band_f, bite_t, bite_f, bimp_t, bimp_f, iadd_e, isub_e, imul_e, ofN_e, nOf_e, nAdd_e, nDiff_e, room_e, lenI_e, gI_e, gB_e, imin_e, imax_e, cat_e, pt_e, put_e, some_f, roomOf, c]
  · cases h


def FrPlace : Pure1 := fun
  | [.int .i64 p, .int .i64 room] => some (some (band (ile p 4398046511104) (ile room 4398046511104)), .int .i64 (placeOf p room))
  | _ => none

theorem vc_rPlace (p room : Int) (r : AV) : VC Tryz.prog (tabS tab0) noL false 106 [.int .i64 p, .int .i64 room] r = (
  br (bite (ilt p 0) true (ilt room 1)) (some (AV.int IntKind.i64 0) = some r)
    (asrt (ine room 0)
      (some (AV.int IntKind.i64 (isub IntKind.i64 p (imul IntKind.i64 (iquo IntKind.i64 p room) room))) = some r))) := by kernel_rfl

theorem ok_rPlace : PureOK Tryz.prog 106 FrPlace := by
  refine tab_plain mixed (l := tab0) ok_tab0 false (by kernel_rfl) fun xs b r h hb wf => ?_
  unfold FrPlace at h
  split at h
  · rename_i p room
    cases h
    try rw [some_f] at hb
    try simp only [WFL, WF, List.mem_cons, List.not_mem_nil, or_false, forall_eq_or_imp, forall_eq, Col.len, and_true, true_and] at wf
    rw [vc_rPlace]
    simp only [bite_and, bite_or]
    simp [asrt_iff, br_iff, ieq_t, ieq_f, ine_t, ine_f, ilt_t, ilt_f, ile_t, ile_f, igt_t, igt_f, ige_t, ige_f, nlt_t, nlt_f, nle_t, nle_f, neq_t, neq_f, beq2_t, beq2_f, bnot_t, bnot_f, band_t, band_f, bite_t, bite_f, bimp_t, bimp_f, iadd_e, isub_e, imul_e, ofN_e, nOf_e, nAdd_e, nDiff_e, room_e, lenI_e, gI_e, gB_e, imin_e, imax_e, cat_e, pt_e, put_e, some_f, placeOf] at hb ⊢
    refine ⟨fun h1 h2 h3 => by omega, fun h1 h2 => ⟨by omega, ?_⟩⟩
    rw [if_pos ⟨h1, h2⟩]
    have e1 : p.tdiv room = p / room := Int.tdiv_eq_ediv_of_nonneg h1
    have q1 : 0 ≤ p / room := Int.ediv_nonneg h1 (by omega)
    have q2 : p / room ≤ p := Int.ediv_le_self _ h1
    have q3 : p / room * room ≤ p := Int.ediv_mul_le p (by omega)
    have q4 : 0 ≤ p / room * room := Int.mul_nonneg q1 (by omega)
    have q5 := Int.emod_def p room
    rw [Int.mul_comm] at q5
    unfold iquo
    rw [e1, wr (a := p / room) (by omega) (by omega), wr (a := p / room * room) (by omega) (by omega), wr (by omega) (by omega), q5]
  · cases h


def FrWord : Pure1 := fun
  | [.agg [.int .i64 hd, .int .i64 tl, .int .i64 md], .int .i64 room] => some (none, .bool (wordOk hd tl md room))
  | _ => none

theorem vc_rWord (hd tl md room : Int) (r : AV) : VC Tryz.prog (tabS tab0) noL false 94 [.agg [.int .i64 hd, .int .i64 tl, .int .i64 md], .int .i64 room] r = (
  some
      (AV.bool
        (bite
          (bite
            (bite (bite (bite (ige hd 0) (ige tl hd) false) (ile tl 1099511627776) false)
              (ile (isub IntKind.i64 tl hd) room) false)
            (ige md 0) false)
          (ile md 2) false)) =
    some r) := by kernel_rfl

theorem ok_rWord : PureOK Tryz.prog 94 FrWord := by
  refine tab_plain mixed (l := tab0) ok_tab0 false (by kernel_rfl) fun xs b r h hb wf => ?_
  unfold FrWord at h
  split at h
  · rename_i hd tl md room
    cases h
    try rw [some_f] at hb
    try simp only [WFL, WF, List.mem_cons, List.not_mem_nil, or_false, forall_eq_or_imp, forall_eq, Col.len, and_true, true_and] at wf
    rw [vc_rWord]
    simp only [bite_and, bite_or]
    refine congrArg (fun b => some (AV.bool b)) ?_
    rw [Bool.eq_iff_iff]
    simp [asrt_iff, br_iff, ieq_t, ieq_f, ine_t, ine_f, ilt_t, ilt_f, ile_t, ile_f, igt_t, igt_f, ige_t, ige_f, nlt_t, nlt_f, nle_t, nle_f, neq_t, neq_f, beq2_t, beq2_f, bnot_t, bnot_f, band_t, band_f, bite_t, bite_f, bimp_t, bimp_f, iadd_e, isub_e, imul_e, ofN_e, nOf_e, nAdd_e, nDiff_e, room_e, lenI_e, gI_e, gB_e, imin_e, imax_e, cat_e, pt_e, put_e, some_f, wordOk]
    unfold wlen
    by_cases h1 : 0 ≤ hd ∧ hd ≤ tl ∧ tl ≤ 1099511627776
    · rw [wr (by omega) (by omega)]
      split
      · omega
      · rw [if_neg (by omega)]
        omega
    · constructor
      · intro h; omega
      · intro h; omega
  · cases h


def tabR2 : List (FuncId × Pure1) := [(92, FrRoom), (106, FrPlace), (94, FrWord)] ++ tabR1

theorem ok_tabR2 : ∀ p ∈ tabR2, PureOK Tryz.prog p.1 p.2 := by
  intro p hp
  simp only [tabR2, List.mem_append, List.mem_cons, List.not_mem_nil, or_false] at hp
  rcases hp with (rfl | rfl | rfl) | hp
  · exact ok_rRoom
  · exact ok_rPlace
  · exact ok_rWord
  · exact ok_tabR1 p hp


def spec_rSlots : LoopSpec := { n := 44, keep := [0, 3], srcs := [], keepE := [2], srcsE := [], goes := fun vals objs Q => match vals, objs with
  | [.sl n [.int .i64 s, .int .i64 v], .int .i64 i], [] => asrt (band (nle n 64) (band (ile 0 i) (ile i (ofN n)))) (br (stampsFrom s n i) (Q (.exit 0) [.top] []) (Q .ret [.bool false] []))
  | _, _ => False }

theorem lp_rSlots (n : Nat) (s v : List Int) (i : Int) (mu : List AV → Heap → Nat) (Q : Ex → List AV → Heap → Prop) : runCode Tryz.prog (tabS tabR2) (callN Tryz.prog (tabS tabR2) noL 11) (fun _ => none) (bodyOf Tryz.prog 95 0) 0 ⟨mkT (spec_rSlots).keep [.sl n [.int .i64 s, .int .i64 v], .int .i64 i] (spec_rSlots).n 0, []⟩ ((spec_rSlots).ends mu [.sl n [.int .i64 s, .int .i64 v], .int .i64 i] ([]) Q) = (
  br (ilt i (ofN n))
    (asrt (band (ile 0 i) (ilt i (ofN n)))
      (asrt (bimp (bnot (ilt (gI s (nOf i)) 0)) (band (ile 0 i) (ilt i (ofN n))))
        (asrt
          (bimp (bnot (bite (ilt (gI s (nOf i)) 0) true (igt (gI s (nOf i)) 2199023255552)))
            (band (ile 0 i) (ilt i (ofN n))))
          (asrt
            (bimp (bnot (bite (ilt (gI s (nOf i)) 0) true (igt (gI s (nOf i)) 2199023255552)))
              (band (ile (gI s (nOf i)) 4398046511104) (ile (ofN n) 4398046511104)))
            (br
              (bite (bite (ilt (gI s (nOf i)) 0) true (igt (gI s (nOf i)) 2199023255552)) true
                (ine (placeOf (gI s (nOf i)) (ofN n)) i))
              (Q Ex.ret [AV.bool false] [])
              ((mu [AV.sl n [Col.int IntKind.i64 s, Col.int IntKind.i64 v], AV.int IntKind.i64 (iadd IntKind.i64 i 1)]
                        []).succ.le
                  (mu [AV.sl n [Col.int IntKind.i64 s, Col.int IntKind.i64 v], AV.int IntKind.i64 i] []) ∧
                asrt (band (nle n 64) (band (ile 0 (iadd IntKind.i64 i 1)) (ile (iadd IntKind.i64 i 1) (ofN n))))
                  (br (stampsFrom s n (iadd IntKind.i64 i 1)) (Q (Ex.exit 0) [AV.top] [])
                    (Q Ex.ret [AV.bool false] []))))))))
    (Q (Ex.exit 0) [AV.top] [])) := by kernel_rfl

theorem loop_rSlots : LoopOK Tryz.prog (bodyOf Tryz.prog 95 0) spec_rSlots.summ := by
  refine tab_loop mixed (l := tabR2) ok_tabR2 (i := 0) spec_rSlots (fun vals objs => match vals, objs with
    | [.sl n [.int .i64 s, .int .i64 v], .int .i64 i], [] => (n - i).toNat
    | _, _ => 0) fun vals objs Q h1 h2 wf wo hg => ?_
  unfold spec_rSlots at hg
  simp only at hg
  split at hg
  · rename_i n s v i
    clear h1 h2
    try simp only [WFL, WF, List.mem_cons, List.not_mem_nil, or_false, forall_eq_or_imp, forall_eq, Col.len, and_true, true_and] at wf
    rw [lp_rSlots]
    obtain ⟨w1, w2⟩ := wf
    simp only [bite_and, bite_or]
    simp [asrt_iff, br_iff, ieq_t, ieq_f, ine_t, ine_f, ilt_t, ilt_f, ile_t, ile_f, igt_t, igt_f, ige_t, ige_f, nlt_t, nlt_f, nle_t, nle_f, neq_t, neq_f, beq2_t, beq2_f, bnot_t, bnot_f, band_t, band_f, bite_t, bite_f, bimp_t, bimp_f, iadd_e, isub_e, imul_e, ofN_e, nOf_e, nAdd_e, nDiff_e, room_e, lenI_e, gI_e, gB_e, imin_e, imax_e, cat_e, pt_e, put_e, some_f] at hg ⊢
    obtain ⟨⟨hb, h0, hn⟩, hg⟩ := hg
    obtain ⟨k, rfl⟩ := Int.eq_ofNat_of_zero_le h0
    simp at hn hg ⊢
    refine ⟨fun hk => ?_, fun hk => ?_⟩
    · have hw : IntKind.i64.wrap ((k : Int) + 1) = (k : Int) + 1 := wr (by omega) (by omega)
      rw [hw]
      rw [stamps_lt (by omega)] at hg
      have hp : ∀ x : Int, 0 ≤ x → placeOf x n = x % n := fun x hx => by unfold placeOf; rw [if_pos (by omega)]
      refine ⟨hk, fun _ => hk, fun _ _ => hk, fun _ _ => by omega, fun hx => ?_, fun h1 h2 h3 => ⟨by omega, ⟨hb, by omega, by omega⟩, ?_⟩⟩
      · refine hg.2 ?_
        have : stampOk (s[k]?.getD 0) n k = false := by
          rw [Bool.eq_false_iff]
          intro hs
          simp [stampOk] at hs
          have := hp _ hs.1
          rcases hx with hx | hx
          · omega
          · exact hx (by omega)
        rw [this]
        rfl
      · have : stampOk (s[k]?.getD 0) n k = true := by
          rw [hp _ h1] at h3
          simp [stampOk]
          omega
        rw [this] at hg
        simpa using hg
    · rw [stamps_ge (by omega)] at hg
      simpa using hg
  · exact hg.elim


def LrSlots : Nat → Option LoopS := fun i => match i with
  | 0 => some (.summ spec_rSlots.summ)
  | _ => none

theorem ok_LrSlots : ∀ i x, LrSlots i = some x → LoopHyp Tryz.prog 95 i x := by
  intro i s h
  unfold LrSlots at h
  split at h
  · cases h; exact ⟨by kernel_rfl, loop_rSlots⟩
  · cases h


def FrSlots : Pure1 := fun
  | [.sl n [.int .i64 s, .int .i64 v]] => some (none, .bool (slotsOk n s))
  | _ => none

theorem vc_rSlots (n : Nat) (s v : List Int) (r : AV) : VC Tryz.prog (tabS tabR2) (oneL 95 LrSlots) false 95 [.sl n [.int .i64 s, .int .i64 v]] r = (
  br (bite (ilt (ofN n) 1) true (igt (ofN n) 64)) (some (AV.bool false) = some r)
    (asrt (band (nle n 64) (ile 0 (ofN n)))
      (br (stampsFrom s n 0) (some (AV.bool true) = some r) (some (AV.bool false) = some r)))) := by kernel_rfl

theorem ok_rSlots : PureOK Tryz.prog 95 FrSlots := by
  refine tab_loops mixed (l := tabR2) ok_tabR2 false LrSlots (by kernel_rfl) ok_LrSlots fun xs b r h hb wf => ?_
  unfold FrSlots at h
  split at h
  · rename_i n s v
    cases h
    try rw [some_f] at hb
    try simp only [WFL, WF, List.mem_cons, List.not_mem_nil, or_false, forall_eq_or_imp, forall_eq, Col.len, and_true, true_and] at wf
    rw [vc_rSlots]
    simp only [bite_and, bite_or]
    simp [asrt_iff, br_iff, ieq_t, ieq_f, ine_t, ine_f, ilt_t, ilt_f, ile_t, ile_f, igt_t, igt_f, ige_t, ige_f, nlt_t, nlt_f, nle_t, nle_f, neq_t, neq_f, beq2_t, beq2_f, bnot_t, bnot_f, band_t, band_f, bite_t, bite_f, bimp_t, bimp_f, iadd_e, isub_e, imul_e, ofN_e, nOf_e, nAdd_e, nDiff_e, room_e, lenI_e, gI_e, gB_e, imin_e, imax_e, cat_e, pt_e, put_e, some_f]
    refine ⟨fun h => ?_, fun h1 h2 => ⟨by omega, fun h => ?_, fun h => ?_⟩⟩
    · rw [slotsOk, decide_eq_false (by omega), Bool.and_false]
    · rw [slotsOk, h, decide_eq_true (by omega)]
      rfl
    · rw [slotsOk, h, Bool.false_and]
  · cases h


def spec_rAmong : LoopSpec := { n := 20, keep := [0, 1, 5], srcs := [], keepE := [0, 4], srcsE := [], goes := fun vals objs Q => match vals, objs with
  | [.sl n [.int .i64 l], .int .i64 th, .int .i64 i], [] => asrt (band (nle n big) (band (ile 0 i) (ile i (ofN n)))) (br (amNo th l (nOf i)) (Q (.exit 0) [.sl n [.int .i64 l], .top] []) (Q .ret [.sl n [.int .i64 l], .bool false] []))
  | _, _ => False }

theorem lp_rAmong (n : Nat) (l : List Int) (th i : Int) (mu : List AV → Heap → Nat) (Q : Ex → List AV → Heap → Prop) : runCode Tryz.prog (tabS tabR2) (callN Tryz.prog (tabS tabR2) noL 11) (fun _ => none) (bodyOf Tryz.prog 96 0) 0 ⟨mkT (spec_rAmong).keep [.sl n [.int .i64 l], .int .i64 th, .int .i64 i] (spec_rAmong).n 0, []⟩ ((spec_rAmong).ends mu [.sl n [.int .i64 l], .int .i64 th, .int .i64 i] ([]) Q) = (
  br (ilt i (ofN n))
    (asrt (band (ile 0 i) (ilt i (ofN n)))
      (br (ige (gI l (nOf i)) th) (Q Ex.ret [AV.sl n [Col.int IntKind.i64 l], AV.bool false] [])
        ((mu [AV.sl n [Col.int IntKind.i64 l], AV.int IntKind.i64 th, AV.int IntKind.i64 (iadd IntKind.i64 i 1)]
                  []).succ.le
            (mu [AV.sl n [Col.int IntKind.i64 l], AV.int IntKind.i64 th, AV.int IntKind.i64 i] []) ∧
          asrt (band (nle n big) (band (ile 0 (iadd IntKind.i64 i 1)) (ile (iadd IntKind.i64 i 1) (ofN n))))
            (br (amNo th l (nOf (iadd IntKind.i64 i 1))) (Q (Ex.exit 0) [AV.sl n [Col.int IntKind.i64 l], AV.top] [])
              (Q Ex.ret [AV.sl n [Col.int IntKind.i64 l], AV.bool false] [])))))
    (Q (Ex.exit 0) [AV.sl n [Col.int IntKind.i64 l], AV.top] [])) := by kernel_rfl

theorem loop_rAmong : LoopOK Tryz.prog (bodyOf Tryz.prog 96 0) spec_rAmong.summ := by
  refine tab_loop mixed (l := tabR2) ok_tabR2 (i := 0) spec_rAmong (fun vals objs => match vals, objs with
    | [.sl n [.int .i64 l], .int .i64 th, .int .i64 i], [] => (n - i).toNat
    | _, _ => 0) fun vals objs Q h1 h2 wf wo hg => ?_
  unfold spec_rAmong at hg
  simp only at hg
  split at hg
  · rename_i n l th i
    clear h1 h2
    try simp only [WFL, WF, List.mem_cons, List.not_mem_nil, or_false, forall_eq_or_imp, forall_eq, Col.len, and_true, true_and] at wf
    rw [lp_rAmong]
    have hl : l.length = n := wf
    simp [asrt_iff, br_iff, ieq_t, ieq_f, ine_t, ine_f, ilt_t, ilt_f, ile_t, ile_f, igt_t, igt_f, ige_t, ige_f, nlt_t, nlt_f, nle_t, nle_f, neq_t, neq_f, beq2_t, beq2_f, bnot_t, bnot_f, band_t, band_f, bite_t, bite_f, bimp_t, bimp_f, iadd_e, isub_e, imul_e, ofN_e, nOf_e, nAdd_e, nDiff_e, room_e, lenI_e, gI_e, gB_e, imin_e, imax_e, cat_e, pt_e, put_e, some_f] at hg ⊢
    obtain ⟨⟨hb, h0, hn⟩, hg⟩ := hg
    obtain ⟨k, rfl⟩ := Int.eq_ofNat_of_zero_le h0
    have hb' : n ≤ 2 ^ 50 := by simpa [big] using hb
    simp at hn hg ⊢
    refine ⟨fun hk => ?_, fun hk => ?_⟩
    · rw [wr (by omega) (by omega)]
      rw [show ((k : Int) + 1).toNat = k + 1 by omega]
      rw [amNo_lt (by omega)] at hg
      refine ⟨hk, fun hx => ?_, fun hx => ?_⟩
      · refine hg.2 ?_
        rw [decide_eq_false (by omega)]
        rfl
      · rw [decide_eq_true (by omega), Bool.true_and] at hg
        exact ⟨by omega, ⟨hb, by omega, by omega⟩, hg⟩
    · rw [amNo_ge (by omega)] at hg
      exact hg.1 rfl
  · exact hg.elim


def LrAmong : Nat → Option LoopS := fun i => match i with
  | 0 => some (.summ spec_rAmong.summ)
  | _ => none

theorem ok_LrAmong : ∀ i x, LrAmong i = some x → LoopHyp Tryz.prog 96 i x := by
  intro i s h
  unfold LrAmong at h
  split at h
  · cases h; exact ⟨by kernel_rfl, loop_rAmong⟩
  · cases h


def FrAmong : Pure1 := fun
  | [.sl n [.int .i64 l], .int .i64 th] => some (some (nle n big), .bool (amB th l))
  | _ => none

theorem vc_rAmong (n : Nat) (l : List Int) (th : Int) (r : AV) : VC Tryz.prog (tabS tabR2) (oneL 96 LrAmong) false 96 [.sl n [.int .i64 l], .int .i64 th] r = (
  asrt (band (nle n big) (ile 0 (ofN n)))
    (br (amNo th l 0) (asrt (nle n big) (some (AV.bool (lineOk l)) = some r)) (some (AV.bool false) = some r))) := by kernel_rfl

theorem ok_rAmong : PureOK Tryz.prog 96 FrAmong := by
  refine tab_loops mixed (l := tabR2) ok_tabR2 false LrAmong (by kernel_rfl) ok_LrAmong fun xs b r h hb wf => ?_
  unfold FrAmong at h
  split at h
  · rename_i n l th
    cases h
    try rw [some_f] at hb
    try simp only [WFL, WF, List.mem_cons, List.not_mem_nil, or_false, forall_eq_or_imp, forall_eq, Col.len, and_true, true_and] at wf
    rw [vc_rAmong]
    simp [asrt_iff, br_iff, ieq_t, ieq_f, ine_t, ine_f, ilt_t, ilt_f, ile_t, ile_f, igt_t, igt_f, ige_t, ige_f, nlt_t, nlt_f, nle_t, nle_f, neq_t, neq_f, beq2_t, beq2_f, bnot_t, bnot_f, band_t, band_f, bite_t, bite_f, bimp_t, bimp_f, iadd_e, isub_e, imul_e, ofN_e, nOf_e, nAdd_e, nDiff_e, room_e, lenI_e, gI_e, gB_e, imin_e, imax_e, cat_e, pt_e, put_e, some_f, amB] at hb ⊢
    refine ⟨hb, fun h => ⟨hb, fun _ => h⟩, fun h h' => ?_⟩
    rw [h] at h'
    cases h'
  · cases h


def FrEv : Pure1 := fun
  | [.agg [.int .i64 ep, .sl n [.int .i64 l]]] => some (some (nle n big), .bool (evOk ep l))
  | _ => none

theorem vc_rEv (ep : Int) (n : Nat) (l : List Int) (r : AV) : VC Tryz.prog (tabS tabR2) noL false 56 [.agg [.int .i64 ep, .sl n [.int .i64 l]]] r = (
  asrt (nle n big) (some (AV.bool (bite (bite (lineOk l) (ige ep 0) false) (ile ep 1099511627776) false)) = some r)) := by kernel_rfl

theorem ok_rEv : PureOK Tryz.prog 56 FrEv := by
  refine tab_plain mixed (l := tabR2) ok_tabR2 false (by kernel_rfl) fun xs b r h hb wf => ?_
  unfold FrEv at h
  split at h
  · rename_i ep n l
    cases h
    try rw [some_f] at hb
    try simp only [WFL, WF, List.mem_cons, List.not_mem_nil, or_false, forall_eq_or_imp, forall_eq, Col.len, and_true, true_and] at wf
    rw [vc_rEv]
    simp only [bite_and, bite_or]
    simp [asrt_iff, br_iff, ieq_t, ieq_f, ine_t, ine_f, ilt_t, ilt_f, ile_t, ile_f, igt_t, igt_f, ige_t, ige_f, nlt_t, nlt_f, nle_t, nle_f, neq_t, neq_f, beq2_t, beq2_f, bnot_t, bnot_f, band_t, band_f, bite_t, bite_f, bimp_t, bimp_f, iadd_e, isub_e, imul_e, ofN_e, nOf_e, nAdd_e, nDiff_e, room_e, lenI_e, gI_e, gB_e, imin_e, imax_e, cat_e, pt_e, put_e, some_f, evOk] at hb ⊢
    refine ⟨hb, ?_⟩
    rw [Bool.eq_iff_iff]
    simp [asrt_iff, br_iff, ieq_t, ieq_f, ine_t, ine_f, ilt_t, ilt_f, ile_t, ile_f, igt_t, igt_f, ige_t, ige_f, nlt_t, nlt_f, nle_t, nle_f, neq_t, neq_f, beq2_t, beq2_f, bnot_t, bnot_f, band_t, band_f, bite_t, bite_f, bimp_t, bimp_f, iadd_e, isub_e, imul_e, ofN_e, nOf_e, nAdd_e, nDiff_e, room_e, lenI_e, gI_e, gB_e, imin_e, imax_e, cat_e, pt_e, put_e, some_f]
    grind
  · cases h


def FrNext : Pure1 := fun
  | [.int .i64 n] => some (none, .int .i64 (nextE n))
  | _ => none

theorem vc_rNext (n : Int) (r : AV) : VC Tryz.prog (tabS tab0) noL false 57 [.int .i64 n] r = (
  br (ieq n 1099511627776) (some (AV.int IntKind.i64 n) = some r)
    (some (AV.int IntKind.i64 (iadd IntKind.i64 n 1)) = some r)) := by kernel_rfl

theorem ok_rNext : PureOK Tryz.prog 57 FrNext := by
  refine tab_plain mixed (l := tab0) ok_tab0 false (by kernel_rfl) fun xs b r h hb wf => ?_
  unfold FrNext at h
  split at h
  · rename_i n
    cases h
    try rw [some_f] at hb
    try simp only [WFL, WF, List.mem_cons, List.not_mem_nil, or_false, forall_eq_or_imp, forall_eq, Col.len, and_true, true_and] at wf
    rw [vc_rNext]
    simp [asrt_iff, br_iff, ieq_t, ieq_f, ine_t, ine_f, ilt_t, ilt_f, ile_t, ile_f, igt_t, igt_f, ige_t, ige_f, nlt_t, nlt_f, nle_t, nle_f, neq_t, neq_f, beq2_t, beq2_f, bnot_t, bnot_f, band_t, band_f, bite_t, bite_f, bimp_t, bimp_f, iadd_e, isub_e, imul_e, ofN_e, nOf_e, nAdd_e, nDiff_e, room_e, lenI_e, gI_e, gB_e, imin_e, imax_e, cat_e, pt_e, put_e, some_f, nextE]
    grind
  · cases h


def FrSide : Pure1 := fun
  | [.int .i64 k] => some (none, .int .i64 (opSide k))
  | _ => none

theorem vc_rSide (k : Int) (r : AV) : VC Tryz.prog (tabS tab0) noL false 50 [.int .i64 k] r = (
  br (bite (ilt k 1) true (igt k 8)) (some (AV.int IntKind.i64 0) = some r)
    (some (AV.int IntKind.i64 (iquo IntKind.i64 (iadd IntKind.i64 k 2) 3)) = some r)) := by kernel_rfl

theorem ok_rSide : PureOK Tryz.prog 50 FrSide := by
  refine tab_plain mixed (l := tab0) ok_tab0 false (by kernel_rfl) fun xs b r h hb wf => ?_
  unfold FrSide at h
  split at h
  · rename_i k
    cases h
    try rw [some_f] at hb
    try simp only [WFL, WF, List.mem_cons, List.not_mem_nil, or_false, forall_eq_or_imp, forall_eq, Col.len, and_true, true_and] at wf
    rw [vc_rSide]
    simp only [bite_and, bite_or]
    simp [asrt_iff, br_iff, ieq_t, ieq_f, ine_t, ine_f, ilt_t, ilt_f, ile_t, ile_f, igt_t, igt_f, ige_t, ige_f, nlt_t, nlt_f, nle_t, nle_f, neq_t, neq_f, beq2_t, beq2_f, bnot_t, bnot_f, band_t, band_f, bite_t, bite_f, bimp_t, bimp_f, iadd_e, isub_e, imul_e, ofN_e, nOf_e, nAdd_e, nDiff_e, room_e, lenI_e, gI_e, gB_e, imin_e, imax_e, cat_e, pt_e, put_e, some_f, opSide]
    refine ⟨fun h => ?_, fun h1 h2 => ?_⟩
    · rw [if_neg (by omega), if_neg (by omega), if_neg (by omega)]
    · have : k = 1 ∨ k = 2 ∨ k = 3 ∨ k = 4 ∨ k = 5 ∨ k = 6 ∨ k = 7 ∨ k = 8 := by omega
      rcases this with rfl | rfl | rfl | rfl | rfl | rfl | rfl | rfl <;> rfl
  · cases h


def FrTimed : Pure1 := fun
  | [.int .i64 k] => some (none, .bool (opTimed k))
  | _ => none

theorem vc_rTimed (k : Int) (r : AV) : VC Tryz.prog (tabS tab0) noL false 105 [.int .i64 k] r = (
some (AV.bool (bite (ieq k 3) true (ieq k 6))) = some r) := by kernel_rfl

theorem ok_rTimed : PureOK Tryz.prog 105 FrTimed := by
  refine tab_plain mixed (l := tab0) ok_tab0 false (by kernel_rfl) fun xs b r h hb wf => ?_
  unfold FrTimed at h
  split at h
  · rename_i k
    cases h
    try rw [some_f] at hb
    try simp only [WFL, WF, List.mem_cons, List.not_mem_nil, or_false, forall_eq_or_imp, forall_eq, Col.len, and_true, true_and] at wf
    rw [vc_rTimed]
    simp only [bite_and, bite_or]
    refine congrArg (fun b => some (AV.bool b)) ?_
    rw [Bool.eq_iff_iff]
    simp [asrt_iff, br_iff, ieq_t, ieq_f, ine_t, ine_f, ilt_t, ilt_f, ile_t, ile_f, igt_t, igt_f, ige_t, ige_f, nlt_t, nlt_f, nle_t, nle_f, neq_t, neq_f, beq2_t, beq2_f, bnot_t, bnot_f, band_t, band_f, bite_t, bite_f, bimp_t, bimp_f, iadd_e, isub_e, imul_e, ofN_e, nOf_e, nAdd_e, nDiff_e, room_e, lenI_e, gI_e, gB_e, imin_e, imax_e, cat_e, pt_e, put_e, some_f, opTimed]
  · cases h


def FrRunsE : Pure1 := fun
  | [.agg [.int .i64 st, .int .i64 kd, .int .i64 vl, .int .i64 un, .int .i64 pc, .int .i64 rg, .int .i64 sn, .int .i64 tr, .bool lt, .int .i64 rs, .int .i64 gt]] => some (none, .int .i64 (thRuns st))
  | _ => none

theorem vc_rRunsE (st kd vl un pc rg sn tr : Int) (lt : Bool) (rs gt : Int) (r : AV) : VC Tryz.prog (tabS tab0) noL false 59 [.agg [.int .i64 st, .int .i64 kd, .int .i64 vl, .int .i64 un, .int .i64 pc, .int .i64 rg, .int .i64 sn, .int .i64 tr, .bool lt, .int .i64 rs, .int .i64 gt]] r = (
  br (ieq st 0) (some (AV.int IntKind.i64 121) = some r)
    (br (ieq st 2) (some (AV.int IntKind.i64 122) = some r) (some (AV.int IntKind.i64 0) = some r))) := by kernel_rfl

theorem ok_rRunsE : PureOK Tryz.prog 59 FrRunsE := by
  refine tab_plain mixed (l := tab0) ok_tab0 false (by kernel_rfl) fun xs b r h hb wf => ?_
  unfold FrRunsE at h
  split at h
  · rename_i st kd vl un pc rg sn tr lt rs gt
    cases h
    try rw [some_f] at hb
    try simp only [WFL, WF, List.mem_cons, List.not_mem_nil, or_false, forall_eq_or_imp, forall_eq, Col.len, and_true, true_and] at wf
    rw [vc_rRunsE]
    simp [asrt_iff, br_iff, ieq_t, ieq_f, ine_t, ine_f, ilt_t, ilt_f, ile_t, ile_f, igt_t, igt_f, ige_t, ige_f, nlt_t, nlt_f, nle_t, nle_f, neq_t, neq_f, beq2_t, beq2_f, bnot_t, bnot_f, band_t, band_f, bite_t, bite_f, bimp_t, bimp_f, iadd_e, isub_e, imul_e, ofN_e, nOf_e, nAdd_e, nDiff_e, room_e, lenI_e, gI_e, gB_e, imin_e, imax_e, cat_e, pt_e, put_e, some_f, thRuns]
    grind
  · cases h


def tabR3 : List (FuncId × Pure1) := [(95, FrSlots), (96, FrAmong), (56, FrEv), (57, FrNext), (50, FrSide), (105, FrTimed), (59, FrRunsE)] ++ tabR2

theorem ok_tabR3 : ∀ p ∈ tabR3, PureOK Tryz.prog p.1 p.2 := by
  intro p hp
  simp only [tabR3, List.mem_append, List.mem_cons, List.not_mem_nil, or_false] at hp
  rcases hp with (rfl | rfl | rfl | rfl | rfl | rfl | rfl) | hp
  · exact ok_rSlots
  · exact ok_rAmong
  · exact ok_rEv
  · exact ok_rNext
  · exact ok_rSide
  · exact ok_rTimed
  · exact ok_rRunsE
  · exact ok_tabR2 p hp


def FrTh : Pure1 := fun
  | [.agg [.int .i64 st, .int .i64 kd, .int .i64 vl, .int .i64 un, .int .i64 pc, .int .i64 rg, .int .i64 sn, .int .i64 tr, .bool lt, .int .i64 rs, .int .i64 gt]] => some (none, .bool (thOk st kd un pc rg sn tr lt rs))
  | _ => none

theorem vc_rTh (st kd vl un pc rg sn tr : Int) (lt : Bool) (rs gt : Int) (r : AV) : VC Tryz.prog (tabS tabR3) noL false 93 [.agg [.int .i64 st, .int .i64 kd, .int .i64 vl, .int .i64 un, .int .i64 pc, .int .i64 rg, .int .i64 sn, .int .i64 tr, .bool lt, .int .i64 rs, .int .i64 gt]] r = (
  br
    (bite (bite (bite (bite (ilt st 0) true (igt st 2)) true (ilt kd 0)) true (igt kd 8)) true
      (bite (ieq kd 0) (ine st 0) false))
    (some (AV.bool false) = some r)
    (br
      (bite
        (bite
          (bite
            (bite
              (bite
                (bite
                  (bite
                    (bite (bite (bite (bite (ilt un 0) true (igt un 1099511627776)) true (ilt pc 0)) true (igt pc 11))
                      true (ilt tr 0))
                    true (igt tr 1099511627776))
                  true (ilt rg 0))
                true (igt rg 1099511627776))
              true (ilt sn (-1)))
            true (igt sn 1099511627776))
          true (ilt rs 0))
        true (igt rs 7))
      (some (AV.bool false) = some r)
      (br (bite (bnot (opTimed kd)) (bite (ine un 0) true lt) false) (some (AV.bool false) = some r)
        (some
            (AV.bool
              (bite (ine st 0) true
                (bite (bite (bite (bite (ieq pc 0) (ieq rg 0) false) (ieq sn 0) false) (ieq tr 0) false) (bnot lt)
                  false))) =
          some r)))) := by kernel_rfl

theorem ok_rTh : PureOK Tryz.prog 93 FrTh := by
  refine tab_plain mixed (l := tabR3) ok_tabR3 false (by kernel_rfl) fun xs b r h hb wf => ?_
  unfold FrTh at h
  split at h
  · rename_i st kd vl un pc rg sn tr lt rs gt
    cases h
    try rw [some_f] at hb
    try simp only [WFL, WF, List.mem_cons, List.not_mem_nil, or_false, forall_eq_or_imp, forall_eq, Col.len, and_true, true_and] at wf
    rw [vc_rTh]
    simp only [bite_and, bite_or]
    have ks : 0 < opSide kd ↔ 1 ≤ kd ∧ kd ≤ 8 := by
      unfold opSide
      repeat' split
      all_goals omega
    have no : (∀ h : thOk st kd un pc rg sn tr lt rs = true, False) → thOk st kd un pc rg sn tr lt rs = false := fun h => Bool.eq_false_iff.2 h
    rw [br_iff]
    refine ⟨fun h => ?_, fun h => ?_⟩
    · rw [no fun ht => ?_]
      rw [thOk_iff, ks] at ht
      simp [asrt_iff, br_iff, ieq_t, ieq_f, ine_t, ine_f, ilt_t, ilt_f, ile_t, ile_f, igt_t, igt_f, ige_t, ige_f, nlt_t, nlt_f, nle_t, nle_f, neq_t, neq_f, beq2_t, beq2_f, bnot_t, bnot_f, band_t, band_f, bite_t, bite_f, bimp_t, bimp_f, iadd_e, isub_e, imul_e, ofN_e, nOf_e, nAdd_e, nDiff_e, room_e, lenI_e, gI_e, gB_e, imin_e, imax_e, cat_e, pt_e, put_e, some_f] at h
      omega
    · simp [asrt_iff, br_iff, ieq_t, ieq_f, ine_t, ine_f, ilt_t, ilt_f, ile_t, ile_f, igt_t, igt_f, ige_t, ige_f, nlt_t, nlt_f, nle_t, nle_f, neq_t, neq_f, beq2_t, beq2_f, bnot_t, bnot_f, band_t, band_f, bite_t, bite_f, bimp_t, bimp_f, iadd_e, isub_e, imul_e, ofN_e, nOf_e, nAdd_e, nDiff_e, room_e, lenI_e, gI_e, gB_e, imin_e, imax_e, cat_e, pt_e, put_e, some_f] at h
      rw [br_iff]
      refine ⟨fun h2 => ?_, fun h2 => ?_⟩
      · rw [no fun ht => ?_]
        rw [thOk_iff, ks] at ht
        simp [asrt_iff, br_iff, ieq_t, ieq_f, ine_t, ine_f, ilt_t, ilt_f, ile_t, ile_f, igt_t, igt_f, ige_t, ige_f, nlt_t, nlt_f, nle_t, nle_f, neq_t, neq_f, beq2_t, beq2_f, bnot_t, bnot_f, band_t, band_f, bite_t, bite_f, bimp_t, bimp_f, iadd_e, isub_e, imul_e, ofN_e, nOf_e, nAdd_e, nDiff_e, room_e, lenI_e, gI_e, gB_e, imin_e, imax_e, cat_e, pt_e, put_e, some_f] at h2
        omega
      · simp [asrt_iff, br_iff, ieq_t, ieq_f, ine_t, ine_f, ilt_t, ilt_f, ile_t, ile_f, igt_t, igt_f, ige_t, ige_f, nlt_t, nlt_f, nle_t, nle_f, neq_t, neq_f, beq2_t, beq2_f, bnot_t, bnot_f, band_t, band_f, bite_t, bite_f, bimp_t, bimp_f, iadd_e, isub_e, imul_e, ofN_e, nOf_e, nAdd_e, nDiff_e, room_e, lenI_e, gI_e, gB_e, imin_e, imax_e, cat_e, pt_e, put_e, some_f] at h2
        rw [br_iff]
        refine ⟨fun h3 => ?_, fun h3 => ?_⟩
        · rw [no fun ht => ?_]
          rw [thOk_iff, ks] at ht
          simp [asrt_iff, br_iff, ieq_t, ieq_f, ine_t, ine_f, ilt_t, ilt_f, ile_t, ile_f, igt_t, igt_f, ige_t, ige_f, nlt_t, nlt_f, nle_t, nle_f, neq_t, neq_f, beq2_t, beq2_f, bnot_t, bnot_f, band_t, band_f, bite_t, bite_f, bimp_t, bimp_f, iadd_e, isub_e, imul_e, ofN_e, nOf_e, nAdd_e, nDiff_e, room_e, lenI_e, gI_e, gB_e, imin_e, imax_e, cat_e, pt_e, put_e, some_f] at h3
          obtain ⟨_, _, _, _, h5, _⟩ := ht
          rcases h5 with h5 | h5
          · rw [h5] at h3; cases h3.1
          · rcases h3.2 with h6 | h6
            · exact h6 h5.1
            · rw [h5.2] at h6; cases h6
        · simp [asrt_iff, br_iff, ieq_t, ieq_f, ine_t, ine_f, ilt_t, ilt_f, ile_t, ile_f, igt_t, igt_f, ige_t, ige_f, nlt_t, nlt_f, nle_t, nle_f, neq_t, neq_f, beq2_t, beq2_f, bnot_t, bnot_f, band_t, band_f, bite_t, bite_f, bimp_t, bimp_f, iadd_e, isub_e, imul_e, ofN_e, nOf_e, nAdd_e, nDiff_e, room_e, lenI_e, gI_e, gB_e, imin_e, imax_e, cat_e, pt_e, put_e, some_f] at h3
          refine congrArg (fun b => some (AV.bool b)) ?_
          rw [Bool.eq_iff_iff, thOk_iff, ks]
          simp [asrt_iff, br_iff, ieq_t, ieq_f, ine_t, ine_f, ilt_t, ilt_f, ile_t, ile_f, igt_t, igt_f, ige_t, ige_f, nlt_t, nlt_f, nle_t, nle_f, neq_t, neq_f, beq2_t, beq2_f, bnot_t, bnot_f, band_t, band_f, bite_t, bite_f, bimp_t, bimp_f, iadd_e, isub_e, imul_e, ofN_e, nOf_e, nAdd_e, nDiff_e, room_e, lenI_e, gI_e, gB_e, imin_e, imax_e, cat_e, pt_e, put_e, some_f]
          constructor
          · intro h4
            refine ⟨by omega, by omega, by omega, by omega, ?_, by omega, ?_⟩
            · cases ht : opTimed kd with
              | true => exact .inl rfl
              | false => exact .inr (h3 ht)
            · rcases h4 with h4 | h4
              · exact .inl h4
              · exact .inr ⟨⟨h4.1.1.1.1, h4.1.1.1.2, h4.1.1.2, h4.1.2⟩, h4.2⟩
          · rintro ⟨_, _, _, _, _, _, h4⟩
            rcases h4 with h4 | h4
            · exact .inl h4
            · exact .inr ⟨⟨⟨⟨h4.1.1, h4.1.2.1⟩, h4.1.2.2.1⟩, h4.1.2.2.2⟩, h4.2⟩
  · cases h


def FrWakeT : Pure1 := fun
  | [.agg [.int .i64 st, .int .i64 kd, .int .i64 vl, .int .i64 un, .int .i64 pc, .int .i64 rg, .int .i64 sn, .int .i64 tr, .bool lt, .int .i64 rs, .int .i64 gt]] => some (none, .agg [.int .i64 (wakeSt st), .int .i64 kd, .int .i64 vl, .int .i64 un, .int .i64 pc, .int .i64 rg, .int .i64 sn, .int .i64 tr, .bool lt, .int .i64 rs, .int .i64 gt])
  | _ => none

theorem vc_rWakeT (st kd vl un pc rg sn tr : Int) (lt : Bool) (rs gt : Int) (r : AV) : VC Tryz.prog (tabS tabR3) noL false 80 [.agg [.int .i64 st, .int .i64 kd, .int .i64 vl, .int .i64 un, .int .i64 pc, .int .i64 rg, .int .i64 sn, .int .i64 tr, .bool lt, .int .i64 rs, .int .i64 gt]] r = (
  br (ine st 2)
    (some
        (AV.agg
          [AV.int IntKind.i64 st, AV.int IntKind.i64 kd, AV.int IntKind.i64 vl, AV.int IntKind.i64 un,
            AV.int IntKind.i64 pc, AV.int IntKind.i64 rg, AV.int IntKind.i64 sn, AV.int IntKind.i64 tr, AV.bool lt,
            AV.int IntKind.i64 rs, AV.int IntKind.i64 gt]) =
      some r)
    (some
        (AV.agg
          [AV.int IntKind.i64 1, AV.int IntKind.i64 kd, AV.int IntKind.i64 vl, AV.int IntKind.i64 un,
            AV.int IntKind.i64 pc, AV.int IntKind.i64 rg, AV.int IntKind.i64 sn, AV.int IntKind.i64 tr, AV.bool lt,
            AV.int IntKind.i64 rs, AV.int IntKind.i64 gt]) =
      some r)) := by kernel_rfl

theorem ok_rWakeT : PureOK Tryz.prog 80 FrWakeT := by
  refine tab_plain mixed (l := tabR3) ok_tabR3 false (by kernel_rfl) fun xs b r h hb wf => ?_
  unfold FrWakeT at h
  split at h
  · rename_i st kd vl un pc rg sn tr lt rs gt
    cases h
    try rw [some_f] at hb
    try simp only [WFL, WF, List.mem_cons, List.not_mem_nil, or_false, forall_eq_or_imp, forall_eq, Col.len, and_true, true_and] at wf
    rw [vc_rWakeT]
    simp [asrt_iff, br_iff, ieq_t, ieq_f, ine_t, ine_f, ilt_t, ilt_f, ile_t, ile_f, igt_t, igt_f, ige_t, ige_f, nlt_t, nlt_f, nle_t, nle_f, neq_t, neq_f, beq2_t, beq2_f, bnot_t, bnot_f, band_t, band_f, bite_t, bite_f, bimp_t, bimp_f, iadd_e, isub_e, imul_e, ofN_e, nOf_e, nAdd_e, nDiff_e, room_e, lenI_e, gI_e, gB_e, imin_e, imax_e, cat_e, pt_e, put_e, some_f, wakeSt]
    grind
  · cases h


def FrDoneT : Pure1 := fun
  | [.agg [.int .i64 st, .int .i64 kd, .int .i64 vl, .int .i64 un, .int .i64 pc, .int .i64 rg, .int .i64 sn, .int .i64 tr, .bool lt, .int .i64 rs, .int .i64 gt]] => some (none, .tup [.agg [.int .i64 (invI (thRuns st) 0 st), .int .i64 kd, .int .i64 vl, .int .i64 un, .int .i64 (invI (thRuns st) 0 pc), .int .i64 (invI (thRuns st) 0 rg), .int .i64 (invI (thRuns st) 0 sn), .int .i64 (invI (thRuns st) 0 tr), .bool (invB (thRuns st) lt), .int .i64 rs, .int .i64 gt], .int .i64 (thRuns st)])
  | _ => none

theorem vc_rDoneT (st kd vl un pc rg sn tr : Int) (lt : Bool) (rs gt : Int) (r : AV) : VC Tryz.prog (tabS tabR3) noL false 33 [.agg [.int .i64 st, .int .i64 kd, .int .i64 vl, .int .i64 un, .int .i64 pc, .int .i64 rg, .int .i64 sn, .int .i64 tr, .bool lt, .int .i64 rs, .int .i64 gt]] r = (
  br (ine (thRuns st) 0)
    (some
        (AV.tup
          [AV.agg
              [AV.int IntKind.i64 st, AV.int IntKind.i64 kd, AV.int IntKind.i64 vl, AV.int IntKind.i64 un,
                AV.int IntKind.i64 pc, AV.int IntKind.i64 rg, AV.int IntKind.i64 sn, AV.int IntKind.i64 tr, AV.bool lt,
                AV.int IntKind.i64 rs, AV.int IntKind.i64 gt],
            AV.int IntKind.i64 (thRuns st)]) =
      some r)
    (some
        (AV.tup
          [AV.agg
              [AV.int IntKind.i64 0, AV.int IntKind.i64 kd, AV.int IntKind.i64 vl, AV.int IntKind.i64 un,
                AV.int IntKind.i64 0, AV.int IntKind.i64 0, AV.int IntKind.i64 0, AV.int IntKind.i64 0, AV.bool false,
                AV.int IntKind.i64 rs, AV.int IntKind.i64 gt],
            AV.int IntKind.i64 0]) =
      some r)) := by kernel_rfl

theorem ok_rDoneT : PureOK Tryz.prog 33 FrDoneT := by
  refine tab_plain mixed (l := tabR3) ok_tabR3 false (by kernel_rfl) fun xs b r h hb wf => ?_
  unfold FrDoneT at h
  split at h
  · rename_i st kd vl un pc rg sn tr lt rs gt
    cases h
    try rw [some_f] at hb
    try simp only [WFL, WF, List.mem_cons, List.not_mem_nil, or_false, forall_eq_or_imp, forall_eq, Col.len, and_true, true_and] at wf
    rw [vc_rDoneT]
    by_cases c1 : thRuns st = 0 <;> simp [asrt_iff, br_iff, ieq_t, ieq_f, ine_t, ine_f, ilt_t, ilt_f, ile_t, ile_f, igt_t, igt_f, ige_t, ige_f, nlt_t, nlt_f, nle_t, nle_f, neq_t, neq_f, beq2_t, beq2_f, bnot_t, bnot_f, band_t, band_f, bite_t, bite_f, bimp_t, bimp_f, iadd_e, isub_e, imul_e, ofN_e, nOf_e, nAdd_e, nDiff_e, room_e, lenI_e, gI_e, gB_e, imin_e, imax_e, cat_e, pt_e, put_e, some_f, invI, invB, c1]
  · cases h


def FrClose : Pure1 := fun
  | [.agg [.int .i64 hd, .int .i64 tl, .int .i64 md], .int .i64 m] => some (none, .agg [.int .i64 hd, .int .i64 tl, .int .i64 (closeM md m)])
  | _ => none

theorem vc_rClose (hd tl md m : Int) (r : AV) : VC Tryz.prog (tabS tab0) noL false 28 [.agg [.int .i64 hd, .int .i64 tl, .int .i64 md], .int .i64 m] r = (
  br (bite (bite (ieq m 1) true (ieq m 2)) (igt m md) false)
    (some (AV.agg [AV.int IntKind.i64 hd, AV.int IntKind.i64 tl, AV.int IntKind.i64 m]) = some r)
    (some (AV.agg [AV.int IntKind.i64 hd, AV.int IntKind.i64 tl, AV.int IntKind.i64 md]) = some r)) := by kernel_rfl

theorem ok_rClose : PureOK Tryz.prog 28 FrClose := by
  refine tab_plain mixed (l := tab0) ok_tab0 false (by kernel_rfl) fun xs b r h hb wf => ?_
  unfold FrClose at h
  split at h
  · rename_i hd tl md m
    cases h
    try rw [some_f] at hb
    try simp only [WFL, WF, List.mem_cons, List.not_mem_nil, or_false, forall_eq_or_imp, forall_eq, Col.len, and_true, true_and] at wf
    rw [vc_rClose]
    simp only [bite_and, bite_or]
    simp [asrt_iff, br_iff, ieq_t, ieq_f, ine_t, ine_f, ilt_t, ilt_f, ile_t, ile_f, igt_t, igt_f, ige_t, ige_f, nlt_t, nlt_f, nle_t, nle_f, neq_t, neq_f, beq2_t, beq2_f, bnot_t, bnot_f, band_t, band_f, bite_t, bite_f, bimp_t, bimp_f, iadd_e, isub_e, imul_e, ofN_e, nOf_e, nAdd_e, nDiff_e, room_e, lenI_e, gI_e, gB_e, imin_e, imax_e, cat_e, pt_e, put_e, some_f, closeM]
    grind
  · cases h


def FrMode : Pure1 := fun
  | [.int .i64 k] => some (none, .int .i64 (cmode k))
  | _ => none

theorem vc_rMode (k : Int) (r : AV) : VC Tryz.prog (tabS tab0) noL false 13 [.int .i64 k] r = (
  br (ieq k 7) (some (AV.int IntKind.i64 1) = some r)
    (br (ieq k 8) (some (AV.int IntKind.i64 2) = some r) (some (AV.int IntKind.i64 0) = some r))) := by kernel_rfl

theorem ok_rMode : PureOK Tryz.prog 13 FrMode := by
  refine tab_plain mixed (l := tab0) ok_tab0 false (by kernel_rfl) fun xs b r h hb wf => ?_
  unfold FrMode at h
  split at h
  · rename_i k
    cases h
    try rw [some_f] at hb
    try simp only [WFL, WF, List.mem_cons, List.not_mem_nil, or_false, forall_eq_or_imp, forall_eq, Col.len, and_true, true_and] at wf
    rw [vc_rMode]
    simp [asrt_iff, br_iff, ieq_t, ieq_f, ine_t, ine_f, ilt_t, ilt_f, ile_t, ile_f, igt_t, igt_f, ige_t, ige_f, nlt_t, nlt_f, nle_t, nle_f, neq_t, neq_f, beq2_t, beq2_f, bnot_t, bnot_f, band_t, band_f, bite_t, bite_f, bimp_t, bimp_f, iadd_e, isub_e, imul_e, ofN_e, nOf_e, nAdd_e, nDiff_e, room_e, lenI_e, gI_e, gB_e, imin_e, imax_e, cat_e, pt_e, put_e, some_f, cmode]
    grind
  · cases h


def tabR4 : List (FuncId × Pure1) := [(93, FrTh), (80, FrWakeT), (33, FrDoneT), (28, FrClose), (13, FrMode)] ++ tabR3

theorem ok_tabR4 : ∀ p ∈ tabR4, PureOK Tryz.prog p.1 p.2 := by
  intro p hp
  simp only [tabR4, List.mem_append, List.mem_cons, List.not_mem_nil, or_false] at hp
  rcases hp with (rfl | rfl | rfl | rfl | rfl) | hp
  · exact ok_rTh
  · exact ok_rWakeT
  · exact ok_rDoneT
  · exact ok_rClose
  · exact ok_rMode
  · exact ok_tabR3 p hp


def FrAll : Pure1 := fun
  | [.agg [.int .i64 ep, .sl n [.int .i64 l]]] => some (some (nle n big), .tup [.agg [.int .i64 (comeE ep l), .sl (lenI (allL ep l)) [.int .i64 (allL ep l)]], .sl (lenI (allO ep l)) [.int .i64 (allO ep l)]])
  | _ => none

theorem vc_rAll (ep : Int) (n : Nat) (l : List Int) (r : AV) : VC Tryz.prog (tabS tabR4) noL false 30 [.agg [.int .i64 ep, .sl n [.int .i64 l]]] r = (
  asrt (nle n big)
    (br (bnot (evOk ep l))
      (some
          (AV.tup [AV.agg [AV.int IntKind.i64 ep, AV.sl n [Col.int IntKind.i64 l]], AV.sl 0 [Col.int IntKind.i64 []]]) =
        some r)
      (some
          (AV.tup
            [AV.agg [AV.int IntKind.i64 (nextE ep), AV.sl 0 [Col.int IntKind.i64 []]],
              AV.sl n [Col.int IntKind.i64 l]]) =
        some r))) := by kernel_rfl

theorem ok_rAll : PureOK Tryz.prog 30 FrAll := by
  refine tab_plain mixed (l := tabR4) ok_tabR4 false (by kernel_rfl) fun xs b r h hb wf => ?_
  unfold FrAll at h
  split at h
  · rename_i ep n l
    cases h
    try rw [some_f] at hb
    try simp only [WFL, WF, List.mem_cons, List.not_mem_nil, or_false, forall_eq_or_imp, forall_eq, Col.len, and_true, true_and] at wf
    rw [vc_rAll]
    have hl : l.length = n := wf
    simp [asrt_iff, br_iff, ieq_t, ieq_f, ine_t, ine_f, ilt_t, ilt_f, ile_t, ile_f, igt_t, igt_f, ige_t, ige_f, nlt_t, nlt_f, nle_t, nle_f, neq_t, neq_f, beq2_t, beq2_f, bnot_t, bnot_f, band_t, band_f, bite_t, bite_f, bimp_t, bimp_f, iadd_e, isub_e, imul_e, ofN_e, nOf_e, nAdd_e, nDiff_e, room_e, lenI_e, gI_e, gB_e, imin_e, imax_e, cat_e, pt_e, put_e, some_f] at hb ⊢
    refine ⟨hb, fun h => by simp [comeE, allL, allO, h, hl], fun h => ?_⟩
    have h1 := h
    simp only [evOk, Bool.and_eq_true, decide_eq_true_eq] at h1
    simp [comeE, allL, allO, h, hl, nextE, iadd_e, imin_e]
    split
    · omega
    · rw [wr (by omega) (by omega)]; omega
  · cases h


end Go.Own
