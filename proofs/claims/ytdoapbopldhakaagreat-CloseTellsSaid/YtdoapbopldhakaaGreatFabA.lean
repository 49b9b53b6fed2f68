/- What the fabric's functions stand on: slots, rows of threads, lines among threads. -/
import Derived.Test.YtdoapbopldhakaaGreatThr
namespace Go.Own
open Go Go.Proofs
set_option maxRecDepth 100000
set_option linter.unusedVariables false
set_option linter.unusedSimpArgs false

/-- Whether the slots from i on bear stamps of their places. -/
def stampOk (s : Int) (n i : Nat) : Bool := decide (0 ≤ s ∧ s ≤ 2199023255552 ∧ s % n = i)

def stampsFrom (l : List Int) (n : Nat) (i : Int) : Bool := (l.zipIdx.drop i.toNat).all fun p => stampOk p.1 n p.2

def slotsOk (n : Nat) (l : List Int) : Bool := stampsFrom l n 0 && decide (1 ≤ n ∧ n ≤ 64)

/-- Of rows of threads: whether one may not be. -/
def badTh (st kd un pc rg sn tr : List Int) (lt : List Bool) (rs : List Int) (i : Nat) : Bool := !thOk (st.getD i 0) (kd.getD i 0) (un.getD i 0) (pc.getD i 0) (rg.getD i 0) (sn.getD i 0) (tr.getD i 0) (lt.getD i false) (rs.getD i 0)

/-- Where the first one stands that may not be, from i on, of n. -/
def badThAt (n : Nat) (st kd un pc rg sn tr : List Int) (lt : List Bool) (rs : List Int) (i : Nat) : Int :=
  match ((List.range n).drop i).find? (badTh st kd un pc rg sn tr lt rs) with
  | some j => j
  | none => -1

def amBad (th x : Int) : Bool := decide (x < 0 ∨ th ≤ x)

def amBadAt (th : Int) (l : List Int) (k : Nat) : Int :=
  match (l.drop k).findIdx? (amBad th) with
  | some j => k + j
  | none => -1

def closeM (md m : Int) : Int := if m = 1 ∨ m = 2 then imax md m else md


theorem amAt_lt {th : Int} {l : List Int} {k : Nat} (h : k < l.length) : amBadAt th l k = if amBad th (l[k]?.getD 0) = true then (k : Int) else amBadAt th l (k + 1) := by
  unfold amBadAt
  rw [List.drop_eq_getElem_cons h]
  have e : l[k]?.getD 0 = l[k] := by simp [h]
  rw [e, List.findIdx?_cons]
  by_cases hx : amBad th l[k] = true
  · simp [hx]
  · simp only [hx, Bool.false_eq_true, if_false]
    cases (l.drop (k + 1)).findIdx? (amBad th) with
    | none => rfl
    | some j => simp; omega

theorem amAt_ge {th : Int} {l : List Int} {k : Nat} (h : l.length ≤ k) : amBadAt th l k = -1 := by
  unfold amBadAt
  rw [List.drop_eq_nil_of_le h]
  rfl

theorem thAt_lt {n : Nat} {st kd un pc rg sn tr : List Int} {lt : List Bool} {rs : List Int} {k : Nat} (h : k < n) : badThAt n st kd un pc rg sn tr lt rs k = if badTh st kd un pc rg sn tr lt rs k = true then (k : Int) else badThAt n st kd un pc rg sn tr lt rs (k + 1) := by
  unfold badThAt
  rw [List.drop_eq_getElem_cons (by simpa using h)]
  simp only [List.getElem_range, List.find?_cons]
  by_cases hx : badTh st kd un pc rg sn tr lt rs k = true
  · simp [hx]
  · simp [hx]

theorem thAt_ge {n : Nat} {st kd un pc rg sn tr : List Int} {lt : List Bool} {rs : List Int} {k : Nat} (h : n ≤ k) : badThAt n st kd un pc rg sn tr lt rs k = -1 := by
  unfold badThAt
  rw [List.drop_eq_nil_of_le (by simpa using h)]
  rfl

theorem stamps_lt {l : List Int} {n k : Nat} (h : k < l.length) : stampsFrom l n (k : Int) = (stampOk (l[k]?.getD 0) n k && stampsFrom l n ((k : Int) + 1)) := by
  unfold stampsFrom
  have e1 : (k : Int).toNat = k := by omega
  have e2 : ((k : Int) + 1).toNat = k + 1 := by omega
  rw [e1, e2, List.drop_eq_getElem_cons (by simpa using h), List.all_cons]
  simp [h]

theorem stamps_ge {l : List Int} {n k : Nat} (h : l.length ≤ k) : stampsFrom l n (k : Int) = true := by
  unfold stampsFrom
  have e1 : (k : Int).toNat = k := by omega
  rw [e1, List.drop_eq_nil_of_le (by simpa using h)]
  rfl

def FcloneSlot : Pure1 := fun
  | [.sl n [.int .i64 s, .int .i64 v]] => some (some (nle n 8796093022208), .own 87 n [.int .i64 s, .int .i64 v])
  | _ => none

theorem vc_cloneSlot (n : Nat) (s v : List Int) (r : AV) : VC Tryz.prog (tabS tab0) noL true 69 [.sl n [.int .i64 s, .int .i64 v]] r = (
  ∀ (b : Bool),
    (b = true → n = 0) →
      br b (some (AV.own 87 0 [Col.int IntKind.i64 [], Col.int IntKind.i64 []]) = some r)
        (asrt (nle (nAdd 0 n) 8796093022208)
          (some (AV.own 87 (nAdd 0 n) [Col.int IntKind.i64 (cat [] s), Col.int IntKind.i64 (cat [] v)]) = some r))) := by kernel_rfl

theorem ok_cloneSlot : PureOK Tryz.prog 69 FcloneSlot := by
  refine tab_plain mixed (l := tab0) ok_tab0 true (by kernel_rfl) fun xs b r h hb wf => ?_
  unfold FcloneSlot at h
  split at h
  · rename_i n s v
    cases h
    try rw [some_f] at hb
    try simp only [WFL, WF, List.mem_cons, List.not_mem_nil, or_false, forall_eq_or_imp, forall_eq, Col.len, and_true, true_and] at wf
    rw [vc_cloneSlot]
    simp [asrt_iff, br_iff, ieq_t, ieq_f, ine_t, ine_f, ilt_t, ilt_f, ile_t, ile_f, igt_t, igt_f, ige_t, ige_f, nlt_t, nlt_f, nle_t, nle_f, neq_t, neq_f, beq2_t, beq2_f, bnot_t, bnot_f, band_t, band_f, bite_t, bite_f, bimp_t, bimp_f, iadd_e, isub_e, imul_e, ofN_e, nOf_e, nAdd_e, nDiff_e, room_e, lenI_e, gI_e, gB_e, imin_e, imax_e, cat_e, pt_e, put_e, some_f] at hb ⊢
    grind
  · cases h


def FcloneTh : Pure1 := fun
  | [.sl n [.int .i64 st, .int .i64 kd, .int .i64 vl, .int .i64 un, .int .i64 pc, .int .i64 rg, .int .i64 sn, .int .i64 tr, .bool lt, .int .i64 rs, .int .i64 gt]] => some (some (nle n 1599289640401), .own 49 n [.int .i64 st, .int .i64 kd, .int .i64 vl, .int .i64 un, .int .i64 pc, .int .i64 rg, .int .i64 sn, .int .i64 tr, .bool lt, .int .i64 rs, .int .i64 gt])
  | _ => none

theorem vc_cloneTh (n : Nat) (st kd vl un pc rg sn tr : List Int) (lt : List Bool) (rs gt : List Int) (r : AV) : VC Tryz.prog (tabS tab0) noL true 71 [.sl n [.int .i64 st, .int .i64 kd, .int .i64 vl, .int .i64 un, .int .i64 pc, .int .i64 rg, .int .i64 sn, .int .i64 tr, .bool lt, .int .i64 rs, .int .i64 gt]] r = (
  ∀ (b : Bool),
    (b = true → n = 0) →
      br b
        (some
            (AV.own 49 0
              [Col.int IntKind.i64 [], Col.int IntKind.i64 [], Col.int IntKind.i64 [], Col.int IntKind.i64 [],
                Col.int IntKind.i64 [], Col.int IntKind.i64 [], Col.int IntKind.i64 [], Col.int IntKind.i64 [],
                Col.bool [], Col.int IntKind.i64 [], Col.int IntKind.i64 []]) =
          some r)
        (asrt (nle (nAdd 0 n) 1599289640401)
          (some
              (AV.own 49 (nAdd 0 n)
                [Col.int IntKind.i64 (cat [] st), Col.int IntKind.i64 (cat [] kd), Col.int IntKind.i64 (cat [] vl),
                  Col.int IntKind.i64 (cat [] un), Col.int IntKind.i64 (cat [] pc), Col.int IntKind.i64 (cat [] rg),
                  Col.int IntKind.i64 (cat [] sn), Col.int IntKind.i64 (cat [] tr), Col.bool (cat [] lt),
                  Col.int IntKind.i64 (cat [] rs), Col.int IntKind.i64 (cat [] gt)]) =
            some r))) := by kernel_rfl

theorem ok_cloneTh : PureOK Tryz.prog 71 FcloneTh := by
  refine tab_plain mixed (l := tab0) ok_tab0 true (by kernel_rfl) fun xs b r h hb wf => ?_
  unfold FcloneTh at h
  split at h
  · rename_i n st kd vl un pc rg sn tr lt rs gt
    cases h
    try rw [some_f] at hb
    try simp only [WFL, WF, List.mem_cons, List.not_mem_nil, or_false, forall_eq_or_imp, forall_eq, Col.len, and_true, true_and] at wf
    rw [vc_cloneTh]
    simp [asrt_iff, br_iff, ieq_t, ieq_f, ine_t, ine_f, ilt_t, ilt_f, ile_t, ile_f, igt_t, igt_f, ige_t, ige_f, nlt_t, nlt_f, nle_t, nle_f, neq_t, neq_f, beq2_t, beq2_f, bnot_t, bnot_f, band_t, band_f, bite_t, bite_f, bimp_t, bimp_f, iadd_e, isub_e, imul_e, ofN_e, nOf_e, nAdd_e, nDiff_e, room_e, lenI_e, gI_e, gB_e, imin_e, imax_e, cat_e, pt_e, put_e, some_f] at hb ⊢
    grind (splits := 60)
  · cases h


def FcloneLog : Pure1 := fun
  | [.sl n [.int .i64 c0, .int .i64 ks, .int .i64 vs, .int .i64 rs, .int .i64 gs]] => some (some (nle n 3518437208883), .own 51 n [.int .i64 c0, .int .i64 ks, .int .i64 vs, .int .i64 rs, .int .i64 gs])
  | _ => none

theorem vc_cloneLog (n : Nat) (c0 ks vs rs gs : List Int) (r : AV) : VC Tryz.prog (tabS tab0) noL true 72 [.sl n [.int .i64 c0, .int .i64 ks, .int .i64 vs, .int .i64 rs, .int .i64 gs]] r = (
  ∀ (b : Bool),
    (b = true → n = 0) →
      br b
        (some
            (AV.own 51 0
              [Col.int IntKind.i64 [], Col.int IntKind.i64 [], Col.int IntKind.i64 [], Col.int IntKind.i64 [],
                Col.int IntKind.i64 []]) =
          some r)
        (asrt (nle (nAdd 0 n) 3518437208883)
          (some
              (AV.own 51 (nAdd 0 n)
                [Col.int IntKind.i64 (cat [] c0), Col.int IntKind.i64 (cat [] ks), Col.int IntKind.i64 (cat [] vs),
                  Col.int IntKind.i64 (cat [] rs), Col.int IntKind.i64 (cat [] gs)]) =
            some r))) := by kernel_rfl

theorem ok_cloneLog : PureOK Tryz.prog 72 FcloneLog := by
  refine tab_plain mixed (l := tab0) ok_tab0 true (by kernel_rfl) fun xs b r h hb wf => ?_
  unfold FcloneLog at h
  split at h
  · rename_i n c0 ks vs rs gs
    cases h
    try rw [some_f] at hb
    try simp only [WFL, WF, List.mem_cons, List.not_mem_nil, or_false, forall_eq_or_imp, forall_eq, Col.len, and_true, true_and] at wf
    rw [vc_cloneLog]
    simp [asrt_iff, br_iff, ieq_t, ieq_f, ine_t, ine_f, ilt_t, ilt_f, ile_t, ile_f, igt_t, igt_f, ige_t, ige_f, nlt_t, nlt_f, nle_t, nle_f, neq_t, neq_f, beq2_t, beq2_f, bnot_t, bnot_f, band_t, band_f, bite_t, bite_f, bimp_t, bimp_f, iadd_e, isub_e, imul_e, ofN_e, nOf_e, nAdd_e, nDiff_e, room_e, lenI_e, gI_e, gB_e, imin_e, imax_e, cat_e, pt_e, put_e, some_f] at hb ⊢
    grind
  · cases h


def Fwclose : Pure1 := fun
  | [.agg [.int .i64 hd, .int .i64 tl, .int .i64 md], .int .i64 m] => some (none, .agg [.int .i64 hd, .int .i64 tl, .int .i64 (closeM md m)])
  | _ => none

theorem vc_wclose (hd tl md m : Int) (r : AV) : VC Tryz.prog (tabS tab0) noL false 51 [.agg [.int .i64 hd, .int .i64 tl, .int .i64 md], .int .i64 m] r = (
  br (bite (ieq m 1) true (ieq m 2))
    (some (AV.agg [AV.int IntKind.i64 hd, AV.int IntKind.i64 tl, AV.int IntKind.i64 (imax md m)]) = some r)
    (some (AV.agg [AV.int IntKind.i64 hd, AV.int IntKind.i64 tl, AV.int IntKind.i64 md]) = some r)) := by kernel_rfl

theorem ok_wclose : PureOK Tryz.prog 51 Fwclose := by
  refine tab_plain mixed (l := tab0) ok_tab0 false (by kernel_rfl) fun xs b r h hb wf => ?_
  unfold Fwclose at h
  split at h
  · rename_i hd tl md m
    cases h
    try rw [some_f] at hb
    try simp only [WFL, WF, List.mem_cons, List.not_mem_nil, or_false, forall_eq_or_imp, forall_eq, Col.len, and_true, true_and] at wf
    rw [vc_wclose]
    simp only [bite_and, bite_or]
    simp [asrt_iff, br_iff, ieq_t, ieq_f, ine_t, ine_f, ilt_t, ilt_f, ile_t, ile_f, igt_t, igt_f, ige_t, ige_f, nlt_t, nlt_f, nle_t, nle_f, neq_t, neq_f, beq2_t, beq2_f, bnot_t, bnot_f, band_t, band_f, bite_t, bite_f, bimp_t, bimp_f, iadd_e, isub_e, imul_e, ofN_e, nOf_e, nAdd_e, nDiff_e, room_e, lenI_e, gI_e, gB_e, imin_e, imax_e, cat_e, pt_e, put_e, some_f, closeM]
    try grind
  · cases h


def tabS1 : List (FuncId × Pure1) := [(87, FposPlace)]

theorem ok_tabS1 : ∀ p ∈ tabS1, PureOK Tryz.prog p.1 p.2 := by
  intro p hp
  simp only [tabS1, List.mem_cons, List.not_mem_nil, or_false] at hp
  rcases hp with rfl
  · exact ok_posPlace


def spec_slotChk : LoopSpec := { n := 38, keep := [0, 5, 6, 7], srcs := [], keepE := [0, 2], srcsE := [], goes := fun vals objs Q => match vals, objs with
  | [.sl q qc, .sl n [.int .i64 s, .int .i64 v], .int .i64 m, .int .i64 i], [] => asrt (band (neq q n) (band (nle n big) (band (ieq m (ofN n)) (band (ile 0 i) (ile i (ofN n)))))) (br (stampsFrom s n i) (Q (.exit 0) [.sl q qc, .top] []) (Q .ret [.sl q qc, .bool false] []))
  | _, _ => False }

theorem lp_slotChk (q : Nat) (qc : List Col) (n : Nat) (s v : List Int) (m i : Int) (mu : List AV → Heap → Nat) (Q : Ex → List AV → Heap → Prop) : runCode Tryz.prog (tabS tabS1) (callN Tryz.prog (tabS tabS1) noL 11) (fun _ => none) (bodyOf Tryz.prog 64 0) 0 ⟨mkT (spec_slotChk).keep [.sl q qc, .sl n [.int .i64 s, .int .i64 v], .int .i64 m, .int .i64 i] (spec_slotChk).n 0, []⟩ ((spec_slotChk).ends mu [.sl q qc, .sl n [.int .i64 s, .int .i64 v], .int .i64 m, .int .i64 i] ([]) Q) = (
  br (ilt i m)
    (asrt (band (ile 0 i) (ilt i (ofN n)))
      (br
        (bite (bite (ilt (gI s (nOf i)) 0) true (igt (gI s (nOf i)) 2199023255552)) true
          (ine (placeOf (gI s (nOf i)) (ofN q)) i))
        (Q Ex.ret [AV.sl q qc, AV.bool false] [])
        ((mu
                  [AV.sl q qc, AV.sl n [Col.int IntKind.i64 s, Col.int IntKind.i64 v], AV.int IntKind.i64 m,
                    AV.int IntKind.i64 (iadd IntKind.i64 i 1)]
                  []).succ.le
            (mu
              [AV.sl q qc, AV.sl n [Col.int IntKind.i64 s, Col.int IntKind.i64 v], AV.int IntKind.i64 m,
                AV.int IntKind.i64 i]
              []) ∧
          asrt
            (band (neq q n)
              (band (nle n big)
                (band (ieq m (ofN n)) (band (ile 0 (iadd IntKind.i64 i 1)) (ile (iadd IntKind.i64 i 1) (ofN n))))))
            (br (stampsFrom s n (iadd IntKind.i64 i 1)) (Q (Ex.exit 0) [AV.sl q qc, AV.top] [])
              (Q Ex.ret [AV.sl q qc, AV.bool false] [])))))
    (Q (Ex.exit 0) [AV.sl q qc, AV.top] [])) := by kernel_rfl

theorem loop_slotChk : LoopOK Tryz.prog (bodyOf Tryz.prog 64 0) spec_slotChk.summ := by
  refine tab_loop mixed (l := tabS1) ok_tabS1 (i := 0) spec_slotChk (fun vals objs => match vals, objs with
    | [.sl q qc, .sl n [.int .i64 s, .int .i64 v], .int .i64 m, .int .i64 i], [] => (m - i).toNat
    | _, _ => 0) fun vals objs Q h1 h2 wf wo hg => ?_
  unfold spec_slotChk at hg
  simp only at hg
  split at hg
  · rename_i q qc n s v m i
    clear h1 h2
    try simp only [WFL, WF, List.mem_cons, List.not_mem_nil, or_false, forall_eq_or_imp, forall_eq, Col.len, and_true, true_and] at wf
    rw [lp_slotChk]
    obtain ⟨_, w1, w2⟩ := wf
    simp only [bite_and, bite_or]
    simp only [asrt_iff, band_t, neq_t, nle_t, ieq_t, ile_t, ofN_e] at hg
    obtain ⟨⟨rfl, hb, rfl, h0, hn⟩, hg⟩ := hg
    obtain ⟨k, rfl⟩ := Int.eq_ofNat_of_zero_le h0
    have hb' : q ≤ 2 ^ 50 := by simpa [big] using hb
    have hw : IntKind.i64.wrap ((k : Int) + 1) = (k : Int) + 1 := wr (by simp at hn; omega) (by simp at hn; omega)
    simp at hn
    simp [asrt_iff, br_iff, ieq_t, ieq_f, ine_t, ine_f, ilt_t, ilt_f, ile_t, ile_f, igt_t, igt_f, ige_t, ige_f, nlt_t, nlt_f, nle_t, nle_f, neq_t, neq_f, beq2_t, beq2_f, bnot_t, bnot_f, band_t, band_f, bite_t, bite_f, bimp_t, bimp_f, iadd_e, isub_e, imul_e, ofN_e, nOf_e, nAdd_e, nDiff_e, room_e, lenI_e, gI_e, gB_e, imin_e, imax_e, cat_e, pt_e, put_e, some_f, hw] at hg ⊢
    refine ⟨fun hk => ?_, fun hk => ?_⟩
    · rw [stamps_lt (by omega)] at hg
      have hp : ∀ x : Int, 0 ≤ x → placeOf x q = x % q := fun x hx => by unfold placeOf; rw [if_pos (by omega)]
      refine ⟨hk, fun hx => ?_, fun hx hx2 hx3 => ?_⟩
      · have hs : stampOk (s[k]?.getD 0) q k = false := by
          rw [← Bool.not_eq_true]
          intro hs
          simp [stampOk] at hs
          have := hp _ hs.1
          grind
        rw [hs] at hg
        simpa using hg
      · have h3 := hp (s[k]?.getD 0) hx
        rw [h3] at hx3
        have hs : stampOk (s[k]?.getD 0) q k = true := by
          simp [stampOk]
          omega
        rw [hs] at hg
        exact ⟨by omega, ⟨hb, by omega, by omega⟩, by simpa using hg⟩
    · rw [stamps_ge (by omega)] at hg
      simpa using hg
  · exact hg.elim


def LslotChk : Nat → Option LoopS := fun i => match i with
  | 0 => some (.summ spec_slotChk.summ)
  | _ => none

theorem ok_LslotChk : ∀ i x, LslotChk i = some x → LoopHyp Tryz.prog 64 i x := by
  intro i s h
  unfold LslotChk at h
  split at h
  · cases h; exact ⟨by kernel_rfl, loop_slotChk⟩
  · cases h


def FslotChk : Pure1 := fun
  | [.sl n [.int .i64 s, .int .i64 v]] => some (some (nle n big), .bool (slotsOk n s))
  | _ => none

theorem vc_slotChk (n : Nat) (s v : List Int) (r : AV) : VC Tryz.prog (tabS tabS1) (oneL 64 LslotChk) false 64 [.sl n [.int .i64 s, .int .i64 v]] r = (
  asrt (band (neq n n) (band (nle n big) (band (ieq (ofN n) (ofN n)) (ile 0 (ofN n)))))
    (br (stampsFrom s n 0) (some (AV.bool (bite (ige (ofN n) 1) (ile (ofN n) 64) false)) = some r)
      (some (AV.bool false) = some r))) := by kernel_rfl

theorem ok_slotChk : PureOK Tryz.prog 64 FslotChk := by
  refine tab_loops mixed (l := tabS1) ok_tabS1 false LslotChk (by kernel_rfl) ok_LslotChk fun xs b r h hb wf => ?_
  unfold FslotChk at h
  split at h
  · rename_i n s v
    cases h
    try rw [some_f] at hb
    try simp only [WFL, WF, List.mem_cons, List.not_mem_nil, or_false, forall_eq_or_imp, forall_eq, Col.len, and_true, true_and] at wf
    rw [vc_slotChk]
    simp only [bite_and, bite_or]
    simp [asrt_iff, br_iff, ieq_t, ieq_f, ine_t, ine_f, ilt_t, ilt_f, ile_t, ile_f, igt_t, igt_f, ige_t, ige_f, nlt_t, nlt_f, nle_t, nle_f, neq_t, neq_f, beq2_t, beq2_f, bnot_t, bnot_f, band_t, band_f, bite_t, bite_f, bimp_t, bimp_f, iadd_e, isub_e, imul_e, ofN_e, nOf_e, nAdd_e, nDiff_e, room_e, lenI_e, gI_e, gB_e, imin_e, imax_e, cat_e, pt_e, put_e, some_f] at hb ⊢
    refine ⟨hb, fun h => ?_, fun h => ?_⟩
    · rw [Bool.eq_iff_iff]; simp [asrt_iff, br_iff, ieq_t, ieq_f, ine_t, ine_f, ilt_t, ilt_f, ile_t, ile_f, igt_t, igt_f, ige_t, ige_f, nlt_t, nlt_f, nle_t, nle_f, neq_t, neq_f, beq2_t, beq2_f, bnot_t, bnot_f, band_t, band_f, bite_t, bite_f, bimp_t, bimp_f, iadd_e, isub_e, imul_e, ofN_e, nOf_e, nAdd_e, nDiff_e, room_e, lenI_e, gI_e, gB_e, imin_e, imax_e, cat_e, pt_e, put_e, some_f, slotsOk, h]; omega
    · simp [slotsOk, h]
  · cases h


def FchkTh : Pure1 := fun
  | [.agg [.int .i64 st, .int .i64 kd, .int .i64 vl, .int .i64 un, .int .i64 pc, .int .i64 rg, .int .i64 sn, .int .i64 tr, .bool lt, .int .i64 rs, .int .i64 gt]] => some (none, .bool (bnot (thOk st kd un pc rg sn tr lt rs)))
  | _ => none

theorem vc_chkTh (st kd vl un pc rg sn tr : Int) (lt : Bool) (rs gt : Int) (r : AV) : VC Tryz.prog (tabS tabT4) noL false 61 [.agg [.int .i64 st, .int .i64 kd, .int .i64 vl, .int .i64 un, .int .i64 pc, .int .i64 rg, .int .i64 sn, .int .i64 tr, .bool lt, .int .i64 rs, .int .i64 gt]] r = (
some (AV.bool (bnot (thOk st kd un pc rg sn tr lt rs))) = some r) := by kernel_rfl

theorem ok_chkTh : PureOK Tryz.prog 61 FchkTh := by
  refine tab_plain mixed (l := tabT4) ok_tabT4 false (by kernel_rfl) fun xs b r h hb wf => ?_
  unfold FchkTh at h
  split at h
  · rename_i st kd vl un pc rg sn tr lt rs gt
    cases h
    try rw [some_f] at hb
    try simp only [WFL, WF, List.mem_cons, List.not_mem_nil, or_false, forall_eq_or_imp, forall_eq, Col.len, and_true, true_and] at wf
    rw [vc_chkTh]
    all_goals (try simp [asrt_iff, br_iff, ieq_t, ieq_f, ine_t, ine_f, ilt_t, ilt_f, ile_t, ile_f, igt_t, igt_f, ige_t, ige_f, nlt_t, nlt_f, nle_t, nle_f, neq_t, neq_f, beq2_t, beq2_f, bnot_t, bnot_f, band_t, band_f, bite_t, bite_f, bimp_t, bimp_f, iadd_e, isub_e, imul_e, ofN_e, nOf_e, nAdd_e, nDiff_e, room_e, lenI_e, gI_e, gB_e, imin_e, imax_e, cat_e, pt_e, put_e, some_f])
  · cases h


def tabC1 : List (FuncId × Pure1) := [(61, FchkTh)]

theorem ok_tabC1 : ∀ p ∈ tabC1, PureOK Tryz.prog p.1 p.2 := by
  intro p hp
  simp only [tabC1, List.mem_cons, List.not_mem_nil, or_false] at hp
  rcases hp with rfl
  · exact ok_chkTh


def spec_idxTh : LoopSpec := { n := 19, keep := [0, 1, 7, 8], srcs := [], keepE := [4], srcsE := [], goes := fun vals objs Q => match vals, objs with
  | [.sl n [.int .i64 st, .int .i64 kd, .int .i64 vl, .int .i64 un, .int .i64 pc, .int .i64 rg, .int .i64 sn, .int .i64 tr, .bool lt, .int .i64 rs, .int .i64 gt], .fn (.func 61) [] [], .int .i64 m, .int .i64 i], [] => asrt (band (nle n big) (band (ieq m (ofN n)) (band (ile 0 i) (ile i (ofN n))))) (br (ieq (badThAt n st kd un pc rg sn tr lt rs (nOf i)) (-1)) (Q (.exit 0) [.top] []) (Q .ret [.int .i64 (badThAt n st kd un pc rg sn tr lt rs (nOf i))] []))
  | _, _ => False }

theorem lp_idxTh (n : Nat) (st kd vl un pc rg sn tr : List Int) (lt : List Bool) (rs gt : List Int) (m i : Int) (mu : List AV → Heap → Nat) (Q : Ex → List AV → Heap → Prop) : runCode Tryz.prog (tabS tabC1) (callN Tryz.prog (tabS tabC1) noL 11) (fun _ => none) (bodyOf Tryz.prog 91 0) 0 ⟨mkT (spec_idxTh).keep [.sl n [.int .i64 st, .int .i64 kd, .int .i64 vl, .int .i64 un, .int .i64 pc, .int .i64 rg, .int .i64 sn, .int .i64 tr, .bool lt, .int .i64 rs, .int .i64 gt], .fn (.func 61) [] [], .int .i64 m, .int .i64 i] (spec_idxTh).n 0, []⟩ ((spec_idxTh).ends mu [.sl n [.int .i64 st, .int .i64 kd, .int .i64 vl, .int .i64 un, .int .i64 pc, .int .i64 rg, .int .i64 sn, .int .i64 tr, .bool lt, .int .i64 rs, .int .i64 gt], .fn (.func 61) [] [], .int .i64 m, .int .i64 i] ([]) Q) = (
  br (ilt i m)
    (asrt (band (ile 0 i) (ilt i (ofN n)))
      (br
        (bnot
          (thOk (gI st (nOf i)) (gI kd (nOf i)) (gI un (nOf i)) (gI pc (nOf i)) (gI rg (nOf i)) (gI sn (nOf i))
            (gI tr (nOf i)) (gB lt (nOf i)) (gI rs (nOf i))))
        (Q Ex.ret [AV.int IntKind.i64 i] [])
        ((mu
                  [AV.sl n
                      [Col.int IntKind.i64 st, Col.int IntKind.i64 kd, Col.int IntKind.i64 vl, Col.int IntKind.i64 un,
                        Col.int IntKind.i64 pc, Col.int IntKind.i64 rg, Col.int IntKind.i64 sn, Col.int IntKind.i64 tr,
                        Col.bool lt, Col.int IntKind.i64 rs, Col.int IntKind.i64 gt],
                    AV.fn (Fn.func 61) [] [], AV.int IntKind.i64 m, AV.int IntKind.i64 (iadd IntKind.i64 i 1)]
                  []).succ.le
            (mu
              [AV.sl n
                  [Col.int IntKind.i64 st, Col.int IntKind.i64 kd, Col.int IntKind.i64 vl, Col.int IntKind.i64 un,
                    Col.int IntKind.i64 pc, Col.int IntKind.i64 rg, Col.int IntKind.i64 sn, Col.int IntKind.i64 tr,
                    Col.bool lt, Col.int IntKind.i64 rs, Col.int IntKind.i64 gt],
                AV.fn (Fn.func 61) [] [], AV.int IntKind.i64 m, AV.int IntKind.i64 i]
              []) ∧
          asrt
            (band (nle n big)
              (band (ieq m (ofN n)) (band (ile 0 (iadd IntKind.i64 i 1)) (ile (iadd IntKind.i64 i 1) (ofN n)))))
            (br (ieq (badThAt n st kd un pc rg sn tr lt rs (nOf (iadd IntKind.i64 i 1))) (-1))
              (Q (Ex.exit 0) [AV.top] [])
              (Q Ex.ret [AV.int IntKind.i64 (badThAt n st kd un pc rg sn tr lt rs (nOf (iadd IntKind.i64 i 1)))] [])))))
    (Q (Ex.exit 0) [AV.top] [])) := by kernel_rfl

theorem loop_idxTh : LoopOK Tryz.prog (bodyOf Tryz.prog 91 0) spec_idxTh.summ := by
  refine tab_loop mixed (l := tabC1) ok_tabC1 (i := 0) spec_idxTh (fun vals objs => match vals, objs with
    | [.sl n [.int .i64 st, .int .i64 kd, .int .i64 vl, .int .i64 un, .int .i64 pc, .int .i64 rg, .int .i64 sn, .int .i64 tr, .bool lt, .int .i64 rs, .int .i64 gt], .fn (.func 61) [] [], .int .i64 m, .int .i64 i], [] => (m - i).toNat
    | _, _ => 0) fun vals objs Q h1 h2 wf wo hg => ?_
  unfold spec_idxTh at hg
  simp only at hg
  split at hg
  · rename_i n st kd vl un pc rg sn tr lt rs gt m i
    clear h1 h2
    try simp only [WFL, WF, List.mem_cons, List.not_mem_nil, or_false, forall_eq_or_imp, forall_eq, Col.len, and_true, true_and] at wf
    rw [lp_idxTh]
    simp only [bite_and, bite_or]
    simp [asrt_iff, br_iff, ieq_t, ieq_f, ine_t, ine_f, ilt_t, ilt_f, ile_t, ile_f, igt_t, igt_f, ige_t, ige_f, nlt_t, nlt_f, nle_t, nle_f, neq_t, neq_f, beq2_t, beq2_f, bnot_t, bnot_f, band_t, band_f, bite_t, bite_f, bimp_t, bimp_f, iadd_e, isub_e, imul_e, ofN_e, nOf_e, nAdd_e, nDiff_e, room_e, lenI_e, gI_e, gB_e, imin_e, imax_e, cat_e, pt_e, put_e, some_f] at hg ⊢
    obtain ⟨⟨hb, rfl, h0, hn⟩, hg⟩ := hg
    obtain ⟨k, rfl⟩ := Int.eq_ofNat_of_zero_le h0
    have hb' : n ≤ 2 ^ 50 := by simpa [big] using hb
    simp at hn hg ⊢
    refine ⟨fun hk => ?_, fun hk => ?_⟩
    · rw [wr (by omega) (by omega)]
      rw [show ((k : Int) + 1).toNat = k + 1 by omega]
      rw [thAt_lt (by omega)] at hg
      refine ⟨hk, fun hx => ?_, fun hx => ?_⟩
      · rw [if_pos (by simpa [badTh, List.getD_eq_getElem?_getD] using hx)] at hg
        exact hg.2 (by omega)
      · rw [if_neg (by simpa [badTh, List.getD_eq_getElem?_getD] using hx)] at hg
        exact ⟨by omega, ⟨hb, by omega, by omega⟩, hg⟩
    · rw [thAt_ge (by omega)] at hg
      exact hg.1 rfl
  · exact hg.elim


def LidxTh : Nat → Option LoopS := fun i => match i with
  | 0 => some (.summ spec_idxTh.summ)
  | _ => none

theorem ok_LidxTh : ∀ i x, LidxTh i = some x → LoopHyp Tryz.prog 91 i x := by
  intro i s h
  unfold LidxTh at h
  split at h
  · cases h; exact ⟨by kernel_rfl, loop_idxTh⟩
  · cases h


def FidxTh : Pure1 := fun
  | [.sl n [.int .i64 st, .int .i64 kd, .int .i64 vl, .int .i64 un, .int .i64 pc, .int .i64 rg, .int .i64 sn, .int .i64 tr, .bool lt, .int .i64 rs, .int .i64 gt], .fn (.func 61) [] []] => some (some (nle n big), .int .i64 (badThAt n st kd un pc rg sn tr lt rs 0))
  | _ => none

theorem vc_idxTh (n : Nat) (st kd vl un pc rg sn tr : List Int) (lt : List Bool) (rs gt : List Int) (r : AV) : VC Tryz.prog (tabS tabC1) (oneL 91 LidxTh) false 91 [.sl n [.int .i64 st, .int .i64 kd, .int .i64 vl, .int .i64 un, .int .i64 pc, .int .i64 rg, .int .i64 sn, .int .i64 tr, .bool lt, .int .i64 rs, .int .i64 gt], .fn (.func 61) [] []] r = (
  asrt (band (nle n big) (band (ieq (ofN n) (ofN n)) (ile 0 (ofN n))))
    (br (ieq (badThAt n st kd un pc rg sn tr lt rs 0) (-1)) (some (AV.int IntKind.i64 (-1)) = some r)
      (some (AV.int IntKind.i64 (badThAt n st kd un pc rg sn tr lt rs 0)) = some r))) := by kernel_rfl

theorem ok_idxTh : PureOK Tryz.prog 91 FidxTh := by
  refine tab_loops mixed (l := tabC1) ok_tabC1 false LidxTh (by kernel_rfl) ok_LidxTh fun xs b r h hb wf => ?_
  unfold FidxTh at h
  split at h
  · rename_i n st kd vl un pc rg sn tr lt rs gt
    cases h
    try rw [some_f] at hb
    try simp only [WFL, WF, List.mem_cons, List.not_mem_nil, or_false, forall_eq_or_imp, forall_eq, Col.len, and_true, true_and] at wf
    rw [vc_idxTh]
    simp [asrt_iff, br_iff, ieq_t, ieq_f, ine_t, ine_f, ilt_t, ilt_f, ile_t, ile_f, igt_t, igt_f, ige_t, ige_f, nlt_t, nlt_f, nle_t, nle_f, neq_t, neq_f, beq2_t, beq2_f, bnot_t, bnot_f, band_t, band_f, bite_t, bite_f, bimp_t, bimp_f, iadd_e, isub_e, imul_e, ofN_e, nOf_e, nAdd_e, nDiff_e, room_e, lenI_e, gI_e, gB_e, imin_e, imax_e, cat_e, pt_e, put_e, some_f] at hb ⊢
    grind
  · cases h


def spec_idxAm : LoopSpec := { n := 19, keep := [0, 1, 7, 8], srcs := [], keepE := [4], srcsE := [], goes := fun vals objs Q => match vals, objs with
  | [.sl n [.int .i64 l], .fn (.func 88) [] [.ip [.int .i64 th]], .int .i64 m, .int .i64 i], [] => asrt (band (nle n big) (band (ieq m (ofN n)) (band (ile 0 i) (ile i (ofN n))))) (br (ieq (amBadAt th l (nOf i)) (-1)) (Q (.exit 0) [.top] []) (Q .ret [.int .i64 (amBadAt th l (nOf i))] []))
  | _, _ => False }

theorem lp_idxAm (n : Nat) (l : List Int) (th m i : Int) (mu : List AV → Heap → Nat) (Q : Ex → List AV → Heap → Prop) : runCode Tryz.prog (tabS tab0) (callN Tryz.prog (tabS tab0) noL 11) (fun _ => none) (bodyOf Tryz.prog 103 0) 0 ⟨mkT (spec_idxAm).keep [.sl n [.int .i64 l], .fn (.func 88) [] [.ip [.int .i64 th]], .int .i64 m, .int .i64 i] (spec_idxAm).n 0, []⟩ ((spec_idxAm).ends mu [.sl n [.int .i64 l], .fn (.func 88) [] [.ip [.int .i64 th]], .int .i64 m, .int .i64 i] ([]) Q) = (
  br (ilt i m)
    (asrt (band (ile 0 i) (ilt i (ofN n)))
      (br (bite (ilt (gI l (nOf i)) 0) true (ige (gI l (nOf i)) th)) (Q Ex.ret [AV.int IntKind.i64 i] [])
        ((mu
                  [AV.sl n [Col.int IntKind.i64 l], AV.fn (Fn.func 88) [] [AV.ip [AV.int IntKind.i64 th]],
                    AV.int IntKind.i64 m, AV.int IntKind.i64 (iadd IntKind.i64 i 1)]
                  []).succ.le
            (mu
              [AV.sl n [Col.int IntKind.i64 l], AV.fn (Fn.func 88) [] [AV.ip [AV.int IntKind.i64 th]],
                AV.int IntKind.i64 m, AV.int IntKind.i64 i]
              []) ∧
          asrt
            (band (nle n big)
              (band (ieq m (ofN n)) (band (ile 0 (iadd IntKind.i64 i 1)) (ile (iadd IntKind.i64 i 1) (ofN n)))))
            (br (ieq (amBadAt th l (nOf (iadd IntKind.i64 i 1))) (-1)) (Q (Ex.exit 0) [AV.top] [])
              (Q Ex.ret [AV.int IntKind.i64 (amBadAt th l (nOf (iadd IntKind.i64 i 1)))] [])))))
    (Q (Ex.exit 0) [AV.top] [])) := by kernel_rfl

theorem loop_idxAm : LoopOK Tryz.prog (bodyOf Tryz.prog 103 0) spec_idxAm.summ := by
  refine tab_loop mixed (l := tab0) ok_tab0 (i := 0) spec_idxAm (fun vals objs => match vals, objs with
    | [.sl n [.int .i64 l], .fn (.func 88) [] [.ip [.int .i64 th]], .int .i64 m, .int .i64 i], [] => (m - i).toNat
    | _, _ => 0) fun vals objs Q h1 h2 wf wo hg => ?_
  unfold spec_idxAm at hg
  simp only at hg
  split at hg
  · rename_i n l th m i
    clear h1 h2
    try simp only [WFL, WF, List.mem_cons, List.not_mem_nil, or_false, forall_eq_or_imp, forall_eq, Col.len, and_true, true_and] at wf
    rw [lp_idxAm]
    have hl : l.length = n := wf
    simp only [bite_and, bite_or]
    simp [asrt_iff, br_iff, ieq_t, ieq_f, ine_t, ine_f, ilt_t, ilt_f, ile_t, ile_f, igt_t, igt_f, ige_t, ige_f, nlt_t, nlt_f, nle_t, nle_f, neq_t, neq_f, beq2_t, beq2_f, bnot_t, bnot_f, band_t, band_f, bite_t, bite_f, bimp_t, bimp_f, iadd_e, isub_e, imul_e, ofN_e, nOf_e, nAdd_e, nDiff_e, room_e, lenI_e, gI_e, gB_e, imin_e, imax_e, cat_e, pt_e, put_e, some_f] at hg ⊢
    obtain ⟨⟨hb, rfl, h0, hn⟩, hg⟩ := hg
    obtain ⟨k, rfl⟩ := Int.eq_ofNat_of_zero_le h0
    have hb' : n ≤ 2 ^ 50 := by simpa [big] using hb
    simp at hn hg ⊢
    refine ⟨fun hk => ?_, fun hk => ?_⟩
    · rw [wr (by omega) (by omega)]
      rw [show ((k : Int) + 1).toNat = k + 1 by omega]
      rw [amAt_lt (by omega)] at hg
      refine ⟨hk, fun hx => ?_, fun hx hx2 => ?_⟩
      · rw [if_pos (by simp [amBad]; omega)] at hg
        exact hg.2 (by omega)
      · rw [if_neg (by simp [amBad]; omega)] at hg
        exact ⟨by omega, ⟨hb, by omega, by omega⟩, hg⟩
    · rw [amAt_ge (by omega)] at hg
      exact hg.1 rfl
  · exact hg.elim


def LidxAm : Nat → Option LoopS := fun i => match i with
  | 0 => some (.summ spec_idxAm.summ)
  | _ => none

theorem ok_LidxAm : ∀ i x, LidxAm i = some x → LoopHyp Tryz.prog 103 i x := by
  intro i s h
  unfold LidxAm at h
  split at h
  · cases h; exact ⟨by kernel_rfl, loop_idxAm⟩
  · cases h


def FidxAm : Pure1 := fun
  | [.sl n [.int .i64 l], .fn (.func 88) [] [.ip [.int .i64 th]]] => some (some (nle n big), .int .i64 (amBadAt th l 0))
  | _ => none

theorem vc_idxAm (n : Nat) (l : List Int) (th : Int) (r : AV) : VC Tryz.prog (tabS tab0) (oneL 103 LidxAm) false 103 [.sl n [.int .i64 l], .fn (.func 88) [] [.ip [.int .i64 th]]] r = (
  asrt (band (nle n big) (band (ieq (ofN n) (ofN n)) (ile 0 (ofN n))))
    (br (ieq (amBadAt th l 0) (-1)) (some (AV.int IntKind.i64 (-1)) = some r)
      (some (AV.int IntKind.i64 (amBadAt th l 0)) = some r))) := by kernel_rfl

theorem ok_idxAm : PureOK Tryz.prog 103 FidxAm := by
  refine tab_loops mixed (l := tab0) ok_tab0 false LidxAm (by kernel_rfl) ok_LidxAm fun xs b r h hb wf => ?_
  unfold FidxAm at h
  split at h
  · rename_i n l th
    cases h
    try rw [some_f] at hb
    try simp only [WFL, WF, List.mem_cons, List.not_mem_nil, or_false, forall_eq_or_imp, forall_eq, Col.len, and_true, true_and] at wf
    rw [vc_idxAm]
    simp [asrt_iff, br_iff, ieq_t, ieq_f, ine_t, ine_f, ilt_t, ilt_f, ile_t, ile_f, igt_t, igt_f, ige_t, ige_f, nlt_t, nlt_f, nle_t, nle_f, neq_t, neq_f, beq2_t, beq2_f, bnot_t, bnot_f, band_t, band_f, bite_t, bite_f, bimp_t, bimp_f, iadd_e, isub_e, imul_e, ofN_e, nOf_e, nAdd_e, nDiff_e, room_e, lenI_e, gI_e, gB_e, imin_e, imax_e, cat_e, pt_e, put_e, some_f] at hb ⊢
    grind
  · cases h


theorem nodup_le (N : Nat) : ∀ l : List Int, l.Nodup → (∀ x ∈ l, 0 ≤ x ∧ x < (N : Int)) → l.length ≤ N := by
  induction N with
  | zero =>
    intro l _ h
    cases l with
    | nil => simp
    | cons x l => have := h x (by simp); omega
  | succ N ih =>
    intro l hn h
    have h2 := ih (l.erase (N : Int)) (hn.erase _) (fun x hx => by
      have h3 := (hn.mem_erase_iff).1 hx
      have h4 := h x h3.2
      have h5 := h3.1
      omega)
    by_cases hm : (N : Int) ∈ l
    · rw [List.length_erase_of_mem hm] at h2
      omega
    · rw [List.erase_of_not_mem hm] at h2
      omega

theorem unl_ge : ∀ (l out : List Int), out.length ≤ (unl out l).length := by
  intro l
  induction l with
  | nil => intro out; simp [unl]
  | cons x l ih =>
    intro out
    unfold unl
    split
    · exact ih out
    · have := ih (out ++ [x])
      simp at this
      omega

theorem unl_in : ∀ (l out : List Int), out.Nodup → (unl out l).Nodup ∧ ∀ x ∈ unl out l, x ∈ out ∨ x ∈ l := by
  intro l
  induction l with
  | nil => intro out h; simp [unl, h]
  | cons x l ih =>
    intro out h
    unfold unl
    split
    · obtain ⟨h1, h2⟩ := ih out h
      exact ⟨h1, fun y hy => (h2 y hy).imp id (fun h => by simp [h])⟩
    · rename_i hc
      have hx : x ∉ out := by simpa using hc
      obtain ⟨h1, h2⟩ := ih (out ++ [x]) (by
        rw [List.nodup_append]
        refine ⟨h, by simp, ?_⟩
        intro a ha b hb
        simp at hb
        subst hb
        rintro rfl
        exact hx ha)
      refine ⟨h1, fun y hy => ?_⟩
      rcases h2 y hy with h3 | h3
      · simp at h3
        rcases h3 with h3 | h3
        · exact .inl h3
        · exact .inr (by simp [h3])
      · exact .inr (by simp [h3])

theorem unl_small {l : List Int} (h : badAt l 0 < 0) : (unl [] l).length ≤ 16 := by
  obtain ⟨h1, h2⟩ := unl_in l [] (by simp)
  have h3 := (badAt_ok l).1 h
  refine nodup_le 16 _ h1 (fun x hx => ?_)
  rcases h2 x hx with h4 | h4
  · simp at h4
  · have := h3 x h4
    omega

theorem le_bigW {n : Nat} (h : n ≤ 17592186044416) : n ≤ big := by unfold big; omega

def FcloneW : Pure1 := fun
  | [.sl n [.int .i64 l]] => some (some (nle n 17592186044416), .own 3 n [.int .i64 l])
  | _ => none

theorem vc_cloneW (n : Nat) (l : List Int) (r : AV) : VC Tryz.prog (tabS tab0) noL true 70 [.sl n [.int .i64 l]] r = (
  ∀ (b : Bool),
    (b = true → n = 0) →
      br b (some (AV.own 3 0 [Col.int IntKind.i64 []]) = some r)
        (asrt (nle (nAdd 0 n) 17592186044416) (some (AV.own 3 (nAdd 0 n) [Col.int IntKind.i64 (cat [] l)]) = some r))) := by kernel_rfl

theorem ok_cloneW : PureOK Tryz.prog 70 FcloneW := by
  refine tab_plain mixed (l := tab0) ok_tab0 true (by kernel_rfl) fun xs b r h hb wf => ?_
  unfold FcloneW at h
  split at h
  · rename_i n l
    cases h
    try rw [some_f] at hb
    try simp only [WFL, WF, List.mem_cons, List.not_mem_nil, or_false, forall_eq_or_imp, forall_eq, Col.len, and_true, true_and] at wf
    rw [vc_cloneW]
    simp [asrt_iff, br_iff, ieq_t, ieq_f, ine_t, ine_f, ilt_t, ilt_f, ile_t, ile_f, igt_t, igt_f, ige_t, ige_f, nlt_t, nlt_f, nle_t, nle_f, neq_t, neq_f, beq2_t, beq2_f, bnot_t, bnot_f, band_t, band_f, bite_t, bite_f, bimp_t, bimp_f, iadd_e, isub_e, imul_e, ofN_e, nOf_e, nAdd_e, nDiff_e, room_e, lenI_e, gI_e, gB_e, imin_e, imax_e, cat_e, pt_e, put_e, some_f] at hb ⊢
    grind
  · cases h


def spec_unlW : LoopSpec := { n := 21, keep := [5, 6, 7, 2], srcs := [.tmp 2], keepE := [2], srcsE := [.tmp 2], goes := fun vals objs Q => match vals, objs with
  | [.sl n [.int .i64 l], .int .i64 m, .int .i64 i, .full 0], [some (.row 3 k [.int .i64 out])] => asrt (band (nle n big) (band (nle (lenI (unlFrom out l i)) room) (band (ieq m (ofN n)) (band (ile 0 i) (ile i (ofN n)))))) (Q (.exit 0) [.full 0] [some (.row 3 (lenI (unlFrom out l i)) [.int .i64 (unlFrom out l i)])])
  | _, _ => False }

theorem lp_unlW (n : Nat) (l : List Int) (m i : Int) (k : Nat) (out : List Int) (mu : List AV → Heap → Nat) (Q : Ex → List AV → Heap → Prop) : runCode Tryz.prog (tabS tab3) (callN Tryz.prog (tabS tab3) noL 11) (fun _ => none) (bodyOf Tryz.prog 102 0) 0 ⟨mkT (spec_unlW).keep [.sl n [.int .i64 l], .int .i64 m, .int .i64 i, .full 0] (spec_unlW).n 0, [some (.row 3 k [.int .i64 out])]⟩ ((spec_unlW).ends mu [.sl n [.int .i64 l], .int .i64 m, .int .i64 i, .full 0] ([some (.row 3 k [.int .i64 out])]) Q) = (
  br (ilt i m)
    (asrt (band (ile 0 i) (ilt i (ofN n)))
      (asrt (nle k big)
        (br (bnot (hasI out (gI l (nOf i))))
          (asrt (nle (nAdd k 1) 17592186044416)
            ((mu
                      [AV.sl n [Col.int IntKind.i64 l], AV.int IntKind.i64 m, AV.int IntKind.i64 (iadd IntKind.i64 i 1),
                        AV.full 0]
                      [some (AObj.row 3 (nAdd k 1) [Col.int IntKind.i64 (cat out [gI l (nOf i)])])]).succ.le
                (mu [AV.sl n [Col.int IntKind.i64 l], AV.int IntKind.i64 m, AV.int IntKind.i64 i, AV.full 0]
                  [some (AObj.row 3 k [Col.int IntKind.i64 out])]) ∧
              asrt
                (band (nle n big)
                  (band (nle (lenI (unlFrom (cat out [gI l (nOf i)]) l (iadd IntKind.i64 i 1))) 1073741824)
                    (band (ieq m (ofN n)) (band (ile 0 (iadd IntKind.i64 i 1)) (ile (iadd IntKind.i64 i 1) (ofN n))))))
                (Q (Ex.exit 0) [AV.full 0]
                  [some
                      (AObj.row 3 (lenI (unlFrom (cat out [gI l (nOf i)]) l (iadd IntKind.i64 i 1)))
                        [Col.int IntKind.i64 (unlFrom (cat out [gI l (nOf i)]) l (iadd IntKind.i64 i 1))])])))
          ((mu
                    [AV.sl n [Col.int IntKind.i64 l], AV.int IntKind.i64 m, AV.int IntKind.i64 (iadd IntKind.i64 i 1),
                      AV.full 0]
                    [some (AObj.row 3 k [Col.int IntKind.i64 out])]).succ.le
              (mu [AV.sl n [Col.int IntKind.i64 l], AV.int IntKind.i64 m, AV.int IntKind.i64 i, AV.full 0]
                [some (AObj.row 3 k [Col.int IntKind.i64 out])]) ∧
            asrt
              (band (nle n big)
                (band (nle (lenI (unlFrom out l (iadd IntKind.i64 i 1))) 1073741824)
                  (band (ieq m (ofN n)) (band (ile 0 (iadd IntKind.i64 i 1)) (ile (iadd IntKind.i64 i 1) (ofN n))))))
              (Q (Ex.exit 0) [AV.full 0]
                [some
                    (AObj.row 3 (lenI (unlFrom out l (iadd IntKind.i64 i 1)))
                      [Col.int IntKind.i64 (unlFrom out l (iadd IntKind.i64 i 1))])])))))
    (Q (Ex.exit 0) [AV.full 0] [some (AObj.row 3 k [Col.int IntKind.i64 out])])) := by kernel_rfl

theorem loop_unlW : LoopOK Tryz.prog (bodyOf Tryz.prog 102 0) spec_unlW.summ := by
  refine tab_loop mixed (l := tab3) ok_tab3 (i := 0) spec_unlW (fun vals objs => match vals, objs with
    | [.sl n [.int .i64 l], .int .i64 m, .int .i64 i, .full 0], [some (.row 3 k [.int .i64 out])] => (m - i).toNat
    | _, _ => 0) fun vals objs Q h1 h2 wf wo hg => ?_
  unfold spec_unlW at hg
  simp only at hg
  split at hg
  · rename_i n l m i k out
    clear h1 h2
    try simp only [WFL, WF, List.mem_cons, List.not_mem_nil, or_false, forall_eq_or_imp, forall_eq, Col.len, and_true, true_and] at wf
    rw [lp_unlW]
    have hl : l.length = n := wf
    have hk : out.length = k := by simpa [WFH, WFO, Col.len] using wo
    simp [asrt_iff, br_iff, ieq_t, ieq_f, ine_t, ine_f, ilt_t, ilt_f, ile_t, ile_f, igt_t, igt_f, ige_t, ige_f, nlt_t, nlt_f, nle_t, nle_f, neq_t, neq_f, beq2_t, beq2_f, bnot_t, bnot_f, band_t, band_f, bite_t, bite_f, bimp_t, bimp_f, iadd_e, isub_e, imul_e, ofN_e, nOf_e, nAdd_e, nDiff_e, room_e, lenI_e, gI_e, gB_e, imin_e, imax_e, cat_e, pt_e, put_e, some_f] at hg ⊢
    obtain ⟨⟨hb, hr, rfl, h0, hn⟩, hg⟩ := hg
    obtain ⟨i, rfl⟩ := Int.eq_ofNat_of_zero_le h0
    have hb' : n ≤ 2 ^ 50 := by simpa [big] using hb
    have hge := unl_ge (l.drop (i : Int).toNat) out
    have hge' : out.length ≤ 1073741824 := Nat.le_trans hge hr
    simp at hn hg ⊢
    refine ⟨fun hlt => ?_, fun hge => ?_⟩
    · have hd : l.drop i = l[i]'(by omega) :: l.drop (i + 1) := List.drop_eq_getElem_cons (by omega)
      have hx : l[i]?.getD 0 = l[i]'(by omega) := by simp [show i < l.length by omega]
      simp only [hx, hasI]
      rw [wr (by omega) (by omega)]
      have e1 : ((i : Int) + 1).toNat = i + 1 := by omega
      have hu : unlFrom out l i = if out.contains (l[i]'(by omega)) then unlFrom out l (i + 1 : Int) else unlFrom (out ++ [l[i]'(by omega)]) l (i + 1 : Int) := by
        simp only [unlFrom, e1]
        rw [show (i : Int).toNat = i by omega, hd, unl]
      refine ⟨hlt, le_big (by omega), fun hc => ?_, fun hc => ?_⟩
      · have hc' : out.contains (l[i]'(by omega)) = false := by simpa using hc
        rw [hc'] at hu
        simp only [Bool.false_eq_true, if_false] at hu
        rw [hu] at hg hr
        have hg2 := unl_ge (l.drop ((i : Int) + 1).toNat) (out ++ [l[i]'(by omega)])
        have hg3 : (out ++ [l[i]'(by omega)]).length ≤ 1073741824 := Nat.le_trans hg2 hr
        simp at hg3
        refine ⟨by omega, by omega, ⟨hb, by simpa using hr, by omega, by omega⟩, ?_⟩
        simpa using hg
      · have hc' : out.contains (l[i]'(by omega)) = true := by simpa using hc
        rw [hc'] at hu
        simp only [if_true] at hu
        rw [hu] at hg hr
        refine ⟨by omega, ⟨hb, hr, by omega, by omega⟩, ?_⟩
        simpa using hg
    · have hd : unlFrom out l i = out := by
        unfold unlFrom
        rw [List.drop_eq_nil_of_le (by omega)]
        rfl
      rw [hd, hk] at hg
      exact hg
  · exact hg.elim


def LunlW : Nat → Option LoopS := fun i => match i with
  | 0 => some (.summ spec_unlW.summ)
  | _ => none

theorem ok_LunlW : ∀ i x, LunlW i = some x → LoopHyp Tryz.prog 102 i x := by
  intro i s h
  unfold LunlW at h
  split at h
  · cases h; exact ⟨by kernel_rfl, loop_unlW⟩
  · cases h


def FunlW : Pure1 := fun
  | [.sl n [.int .i64 l]] => some (some (band (nle n big) (nle (lenI (unl [] l)) room)), .own 3 (lenI (unl [] l)) [.int .i64 (unl [] l)])
  | _ => none

theorem vc_unlW (n : Nat) (l : List Int) (r : AV) : VC Tryz.prog (tabS tab3) (oneL 102 LunlW) true 102 [.sl n [.int .i64 l]] r = (
  asrt (band (nle n big) (band (nle (lenI (unlFrom [] l 0)) 1073741824) (band (ieq (ofN n) (ofN n)) (ile 0 (ofN n)))))
    (some (AV.own 3 (lenI (unlFrom [] l 0)) [Col.int IntKind.i64 (unlFrom [] l 0)]) = some r)) := by kernel_rfl

theorem ok_unlW : PureOK Tryz.prog 102 FunlW := by
  refine tab_loops mixed (l := tab3) ok_tab3 true LunlW (by kernel_rfl) ok_LunlW fun xs b r h hb wf => ?_
  unfold FunlW at h
  split at h
  · rename_i n l
    cases h
    try rw [some_f] at hb
    try simp only [WFL, WF, List.mem_cons, List.not_mem_nil, or_false, forall_eq_or_imp, forall_eq, Col.len, and_true, true_and] at wf
    rw [vc_unlW]
    simp [asrt_iff, br_iff, ieq_t, ieq_f, ine_t, ine_f, ilt_t, ilt_f, ile_t, ile_f, igt_t, igt_f, ige_t, ige_f, nlt_t, nlt_f, nle_t, nle_f, neq_t, neq_f, beq2_t, beq2_f, bnot_t, bnot_f, band_t, band_f, bite_t, bite_f, bimp_t, bimp_f, iadd_e, isub_e, imul_e, ofN_e, nOf_e, nAdd_e, nDiff_e, room_e, lenI_e, gI_e, gB_e, imin_e, imax_e, cat_e, pt_e, put_e, some_f, unlFrom] at hb ⊢
    grind
  · cases h


def tab4W : List (FuncId × Pure1) := [(102, FunlW)] ++ tab3

theorem ok_tab4W : ∀ p ∈ tab4W, PureOK Tryz.prog p.1 p.2 := by
  intro p hp
  simp only [tab4W, List.mem_append, List.mem_cons, List.not_mem_nil, or_false] at hp
  rcases hp with (rfl) | hp
  · exact ok_unlW
  · exact ok_tab3 p hp


def FcheckW : Pure1 := fun
  | [.sl n [.int .i64 l]] => some (some (nle n big), .bool (lineOk l))
  | _ => none

theorem vc_checkW (n : Nat) (l : List Int) (r : AV) : VC Tryz.prog (tabS tab4W) noL false 89 [.sl n [.int .i64 l]] r = (
  asrt (nle n big)
    (br (bnot (ige (badAt l 0) 0))
      (asrt (band (nle n big) (nle (lenI (unl [] l)) 1073741824))
        (some (AV.bool (ieq (ofN (lenI (unl [] l))) (ofN n))) = some r))
      (some (AV.bool false) = some r))) := by kernel_rfl

theorem ok_checkW : PureOK Tryz.prog 89 FcheckW := by
  refine tab_plain mixed (l := tab4W) ok_tab4W false (by kernel_rfl) fun xs b r h hb wf => ?_
  unfold FcheckW at h
  split at h
  · rename_i n l
    cases h
    try rw [some_f] at hb
    try simp only [WFL, WF, List.mem_cons, List.not_mem_nil, or_false, forall_eq_or_imp, forall_eq, Col.len, and_true, true_and] at wf
    rw [vc_checkW]
    have hs := @unl_small l
    simp [asrt_iff, br_iff, ieq_t, ieq_f, ine_t, ine_f, ilt_t, ilt_f, ile_t, ile_f, igt_t, igt_f, ige_t, ige_f, nlt_t, nlt_f, nle_t, nle_f, neq_t, neq_f, beq2_t, beq2_f, bnot_t, bnot_f, band_t, band_f, bite_t, bite_f, bimp_t, bimp_f, iadd_e, isub_e, imul_e, ofN_e, nOf_e, nAdd_e, nDiff_e, room_e, lenI_e, gI_e, gB_e, imin_e, imax_e, cat_e, pt_e, put_e, some_f] at hb ⊢
    grind [lineOk, ieq, ine, ilt, ile, igt, ige, nlt, nle, neq, beq2, bnot, band, bite, bimp, le_big]
  · cases h


def tabEW : List (FuncId × Pure1) := [(89, FcheckW)]

theorem ok_tabEW : ∀ p ∈ tabEW, PureOK Tryz.prog p.1 p.2 := by
  intro p hp
  simp only [tabEW, List.mem_cons, List.not_mem_nil, or_false] at hp
  rcases hp with rfl
  · exact ok_checkW


def FevCheckW : Pure1 := fun
  | [.agg [.int .i64 ep, .sl n [.int .i64 l]]] => some (some (nle n big), .bool (evOk ep l))
  | _ => none

theorem vc_evCheckW (ep : Int) (n : Nat) (l : List Int) (r : AV) : VC Tryz.prog (tabS tabEW) noL false 66 [.agg [.int .i64 ep, .sl n [.int .i64 l]]] r = (
  asrt (bimp (bite (ige ep 0) (ile ep 1099511627776) false) (nle n big))
    (some (AV.bool (bite (bite (ige ep 0) (ile ep 1099511627776) false) (lineOk l) false)) = some r)) := by kernel_rfl

theorem ok_evCheckW : PureOK Tryz.prog 66 FevCheckW := by
  refine tab_plain mixed (l := tabEW) ok_tabEW false (by kernel_rfl) fun xs b r h hb wf => ?_
  unfold FevCheckW at h
  split at h
  · rename_i ep n l
    cases h
    try rw [some_f] at hb
    try simp only [WFL, WF, List.mem_cons, List.not_mem_nil, or_false, forall_eq_or_imp, forall_eq, Col.len, and_true, true_and] at wf
    rw [vc_evCheckW]
    simp [asrt_iff, br_iff, ieq_t, ieq_f, ine_t, ine_f, ilt_t, ilt_f, ile_t, ile_f, igt_t, igt_f, ige_t, ige_f, nlt_t, nlt_f, nle_t, nle_f, neq_t, neq_f, beq2_t, beq2_f, bnot_t, bnot_f, band_t, band_f, bite_t, bite_f, bimp_t, bimp_f, iadd_e, isub_e, imul_e, ofN_e, nOf_e, nAdd_e, nDiff_e, room_e, lenI_e, gI_e, gB_e, imin_e, imax_e, cat_e, pt_e, put_e, some_f] at hb ⊢
    grind [evOk, ieq, ine, ilt, ile, igt, ige, nlt, nle, neq, beq2, bnot, band, bite, bimp, le_big]
  · cases h


end Go.Own
