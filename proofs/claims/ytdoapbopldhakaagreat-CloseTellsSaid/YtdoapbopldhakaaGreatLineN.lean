/- Lines. -/
import Derived.Test.YtdoapbopldhakaaGreatSeq
namespace Go.Own
open Go Go.Proofs
set_option maxRecDepth 100000
set_option linter.unusedVariables false
set_option linter.unusedSimpArgs false

/-- Where the first one that is x stands, from k on. -/
def idxAt (l : List Int) (x : Int) (k : Nat) : Int :=
  match (l.drop k).findIdx? (· == x) with
  | some j => k + j
  | none => -1


def Fclone : Pure1 := fun
  | [.sl n [.int .i64 l]] => some (some (nle n room), .own 3 n [.int .i64 l])
  | _ => none

theorem vc_clone (n : Nat) (l : List Int) (r : AV) : VC Tryz.prog (tabS tab0) noL true 70 [.sl n [.int .i64 l]] r = (
  ∀ (b : Bool),
    (b = true → n = 0) →
      br b (some (AV.own 3 0 [Col.int IntKind.i64 []]) = some r)
        (asrt (nle (nAdd 0 n) 17592186044416) (some (AV.own 3 (nAdd 0 n) [Col.int IntKind.i64 (cat [] l)]) = some r))) := by kernel_rfl

theorem ok_clone : PureOK Tryz.prog 70 Fclone := by
  refine tab_plain mixed (l := tab0) ok_tab0 true (by kernel_rfl) fun xs b r h hb wf => ?_
  unfold Fclone at h
  split at h
  · rename_i n l
    cases h
    try rw [some_f] at hb
    try simp only [WFL, WF, List.mem_cons, List.not_mem_nil, or_false, forall_eq_or_imp, forall_eq, Col.len, and_true, true_and] at wf
    rw [vc_clone]
    simp [asrt_iff, br_iff, ieq_t, ieq_f, ine_t, ine_f, ilt_t, ilt_f, ile_t, ile_f, igt_t, igt_f, ige_t, ige_f, nlt_t, nlt_f, nle_t, nle_f, neq_t, neq_f, beq2_t, beq2_f, bnot_t, bnot_f, band_t, band_f, bite_t, bite_f, bimp_t, bimp_f, iadd_e, isub_e, imul_e, ofN_e, nOf_e, nAdd_e, nDiff_e, room_e, lenI_e, gI_e, gB_e, imin_e, imax_e, cat_e, pt_e, put_e, some_f] at hb ⊢
    grind
  · cases h


theorem idxAt_lt {l : List Int} {x : Int} {k : Nat} (h : k < l.length) : idxAt l x k = if x = l[k]?.getD 0 then (k : Int) else idxAt l x (k + 1) := by
  unfold idxAt
  rw [List.drop_eq_getElem_cons h]
  have e : l[k]?.getD 0 = l[k] := by simp [h]
  rw [e, List.findIdx?_cons]
  by_cases hx : x = l[k]
  · simp [← hx]
  · have hx' : (l[k] == x) = false := by simpa using fun h => hx h.symm
    simp only [hx', if_neg hx, Bool.false_eq_true, if_false]
    cases (l.drop (k + 1)).findIdx? (· == x) with
    | none => rfl
    | some j => simp; omega

theorem idxAt_ge {l : List Int} {x : Int} {k : Nat} (h : l.length ≤ k) : idxAt l x k = -1 := by
  unfold idxAt
  rw [List.drop_eq_nil_of_le h]
  rfl

def spec_index : LoopSpec := { n := 19, keep := [0, 1, 7, 8], srcs := [], keepE := [4], srcsE := [], goes := fun vals objs Q => match vals, objs with
  | [.sl n [.int .i64 l], .int .i64 x, .int .i64 m, .int .i64 i], [] => asrt (band (nle n big) (band (ieq m (ofN n)) (band (ile 0 i) (ile i (ofN n))))) (br (ieq (idxAt l x (nOf i)) (-1)) (Q (.exit 0) [.top] []) (Q .ret [.int .i64 (idxAt l x (nOf i))] []))
  | _, _ => False }

theorem lp_index (n : Nat) (l : List Int) (x m i : Int) (mu : List AV → Heap → Nat) (Q : Ex → List AV → Heap → Prop) : runCode Tryz.prog (tabS tab0) (callN Tryz.prog (tabS tab0) noL 11) (fun _ => none) (bodyOf Tryz.prog 109 0) 0 ⟨mkT (spec_index).keep [.sl n [.int .i64 l], .int .i64 x, .int .i64 m, .int .i64 i] (spec_index).n 0, []⟩ ((spec_index).ends mu [.sl n [.int .i64 l], .int .i64 x, .int .i64 m, .int .i64 i] ([]) Q) = (
  br (ilt i m)
    (asrt (band (ile 0 i) (ilt i (ofN n)))
      (br (ieq x (gI l (nOf i))) (Q Ex.ret [AV.int IntKind.i64 i] [])
        ((mu
                  [AV.sl n [Col.int IntKind.i64 l], AV.int IntKind.i64 x, AV.int IntKind.i64 m,
                    AV.int IntKind.i64 (iadd IntKind.i64 i 1)]
                  []).succ.le
            (mu [AV.sl n [Col.int IntKind.i64 l], AV.int IntKind.i64 x, AV.int IntKind.i64 m, AV.int IntKind.i64 i]
              []) ∧
          asrt
            (band (nle n big)
              (band (ieq m (ofN n)) (band (ile 0 (iadd IntKind.i64 i 1)) (ile (iadd IntKind.i64 i 1) (ofN n)))))
            (br (ieq (idxAt l x (nOf (iadd IntKind.i64 i 1))) (-1)) (Q (Ex.exit 0) [AV.top] [])
              (Q Ex.ret [AV.int IntKind.i64 (idxAt l x (nOf (iadd IntKind.i64 i 1)))] [])))))
    (Q (Ex.exit 0) [AV.top] [])) := by kernel_rfl

theorem loop_index : LoopOK Tryz.prog (bodyOf Tryz.prog 109 0) spec_index.summ := by
  refine tab_loop mixed (l := tab0) ok_tab0 (i := 0) spec_index (fun vals objs => match vals, objs with
    | [.sl n [.int .i64 l], .int .i64 x, .int .i64 m, .int .i64 i], [] => (m - i).toNat
    | _, _ => 0) fun vals objs Q h1 h2 wf wo hg => ?_
  unfold spec_index at hg
  simp only at hg
  split at hg
  · rename_i n l x m i
    clear h1 h2
    try simp only [WFL, WF, List.mem_cons, List.not_mem_nil, or_false, forall_eq_or_imp, forall_eq, Col.len, and_true, true_and] at wf
    rw [lp_index]
    have hl : l.length = n := wf
    simp [asrt_iff, br_iff, ieq_t, ieq_f, ine_t, ine_f, ilt_t, ilt_f, ile_t, ile_f, igt_t, igt_f, ige_t, ige_f, nlt_t, nlt_f, nle_t, nle_f, neq_t, neq_f, beq2_t, beq2_f, bnot_t, bnot_f, band_t, band_f, bite_t, bite_f, bimp_t, bimp_f, iadd_e, isub_e, imul_e, ofN_e, nOf_e, nAdd_e, nDiff_e, room_e, lenI_e, gI_e, gB_e, imin_e, imax_e, cat_e, pt_e, put_e, some_f] at hg ⊢
    obtain ⟨⟨hb, rfl, h0, hn⟩, hg⟩ := hg
    obtain ⟨k, rfl⟩ := Int.eq_ofNat_of_zero_le h0
    have hb' : n ≤ 2 ^ 50 := by simpa [big] using hb
    simp at hn hg ⊢
    refine ⟨fun hk => ?_, fun hk => ?_⟩
    · rw [wr (by omega) (by omega)]
      rw [show ((k : Int) + 1).toNat = k + 1 by omega]
      rw [idxAt_lt (by omega)] at hg
      refine ⟨hk, fun hx => ?_, fun hx => ?_⟩
      · rw [if_pos hx] at hg
        exact hg.2 (by omega)
      · rw [if_neg hx] at hg
        exact ⟨by omega, ⟨hb, by omega, by omega⟩, hg⟩
    · rw [idxAt_ge (by omega)] at hg
      exact hg.1 rfl
  · exact hg.elim


def Lindex : Nat → Option LoopS := fun i => match i with
  | 0 => some (.summ spec_index.summ)
  | _ => none

theorem ok_Lindex : ∀ i x, Lindex i = some x → LoopHyp Tryz.prog 109 i x := by
  intro i s h
  unfold Lindex at h
  split at h
  · cases h; exact ⟨by kernel_rfl, loop_index⟩
  · cases h


def Findex : Pure1 := fun
  | [.sl n [.int .i64 l], .int .i64 x] => some (some (nle n big), .int .i64 (idxAt l x 0))
  | _ => none

theorem vc_index (n : Nat) (l : List Int) (x : Int) (r : AV) : VC Tryz.prog (tabS tab0) (oneL 109 Lindex) false 109 [.sl n [.int .i64 l], .int .i64 x] r = (
  asrt (band (nle n big) (band (ieq (ofN n) (ofN n)) (ile 0 (ofN n))))
    (br (ieq (idxAt l x 0) (-1)) (some (AV.int IntKind.i64 (-1)) = some r)
      (some (AV.int IntKind.i64 (idxAt l x 0)) = some r))) := by kernel_rfl

theorem ok_index : PureOK Tryz.prog 109 Findex := by
  refine tab_loops mixed (l := tab0) ok_tab0 false Lindex (by kernel_rfl) ok_Lindex fun xs b r h hb wf => ?_
  unfold Findex at h
  split at h
  · rename_i n l x
    cases h
    try rw [some_f] at hb
    try simp only [WFL, WF, List.mem_cons, List.not_mem_nil, or_false, forall_eq_or_imp, forall_eq, Col.len, and_true, true_and] at wf
    rw [vc_index]
    simp [asrt_iff, br_iff, ieq_t, ieq_f, ine_t, ine_f, ilt_t, ilt_f, ile_t, ile_f, igt_t, igt_f, ige_t, ige_f, nlt_t, nlt_f, nle_t, nle_f, neq_t, neq_f, beq2_t, beq2_f, bnot_t, bnot_f, band_t, band_f, bite_t, bite_f, bimp_t, bimp_f, iadd_e, isub_e, imul_e, ofN_e, nOf_e, nAdd_e, nDiff_e, room_e, lenI_e, gI_e, gB_e, imin_e, imax_e, cat_e, pt_e, put_e, some_f] at hb ⊢
    grind
  · cases h


/-- Whether it is no thread. -/
def badId (x : Int) : Bool := ilt x 0 || ige x 16

def badAt (l : List Int) (k : Nat) : Int :=
  match (l.drop k).findIdx? badId with
  | some j => k + j
  | none => -1

/-- Each once, in order. -/
def unl : List Int → List Int → List Int
  | out, [] => out
  | out, x :: r => if out.contains x then unl out r else unl (out ++ [x]) r

def lineOk (l : List Int) : Bool := decide (badAt l 0 < 0) && decide ((unl [] l).length = l.length)

def placeAt (l : List Int) (x : Int) : Int := if lineOk l then idxAt l x 0 else -1



theorem idxAt_has (l : List Int) (x : Int) : (0 ≤ idxAt l x 0) ↔ x ∈ l := by
  unfold idxAt
  rw [List.drop_zero]
  cases h : l.findIdx? (· == x) with
  | none =>
    simp only [List.findIdx?_eq_none_iff] at h
    constructor
    · intro h2; simp at h2
    · intro hx; have := h x hx; simp at this
  | some j =>
    simp only [List.findIdx?_eq_some_iff_getElem] at h
    obtain ⟨hj, hx, _⟩ := h
    refine ⟨fun _ => ?_, fun _ => by simp⟩
    have : l[j] = x := by simpa using hx
    rw [← this]
    exact List.getElem_mem hj

theorem badAt_ok (l : List Int) : (badAt l 0 < 0) ↔ ∀ x ∈ l, 0 ≤ x ∧ x < 16 := by
  unfold badAt
  rw [List.drop_zero]
  cases h : l.findIdx? badId with
  | none =>
    simp only [List.findIdx?_eq_none_iff] at h
    refine ⟨fun _ x hx => ?_, fun _ => by simp⟩
    have := h x hx
    simp [badId, ilt, ige] at this
    omega
  | some j =>
    simp only [List.findIdx?_eq_some_iff_getElem] at h
    obtain ⟨hj, hx, _⟩ := h
    refine ⟨fun h2 => by simp at h2; omega, fun h2 => ?_⟩
    have := h2 _ (List.getElem_mem hj)
    simp [badId, ilt, ige] at hx
    omega

theorem unl_le : ∀ (l out : List Int), (unl out l).length ≤ out.length + l.length := by
  intro l
  induction l with
  | nil => intro out; simp [unl]
  | cons x r ih =>
    intro out
    unfold unl
    split
    · have := ih out; simp; omega
    · have := ih (out ++ [x]); simp at this ⊢; omega

theorem unl_eq : ∀ (l out : List Int), (unl out l).length = out.length + l.length ↔ l.Nodup ∧ ∀ x ∈ l, x ∉ out := by
  intro l
  induction l with
  | nil => intro out; simp [unl]
  | cons x r ih =>
    intro out
    unfold unl
    split
    · rename_i h
      have := unl_le r out
      simp at h ⊢
      constructor
      · intro h2; omega
      · intro h2; exact absurd h h2.2.1
    · rename_i h
      have e := ih (out ++ [x])
      simp at h e ⊢
      rw [show out.length + (r.length + 1) = out.length + 1 + r.length by omega, e]
      grind

theorem lineOk_iff (l : List Int) : lineOk l = true ↔ (∀ x ∈ l, 0 ≤ x ∧ x < 16) ∧ l.Nodup := by
  have := unl_eq l []
  simp at this
  simp [lineOk, badAt_ok, this]

theorem idxAt_cases (l : List Int) (x : Int) : idxAt l x 0 = -1 ∧ x ∉ l ∨ ∃ j, ∃ h : j < l.length, idxAt l x 0 = j ∧ l[j] = x ∧ ∀ i, (hi : i < j) → l[i] ≠ x := by
  unfold idxAt
  rw [List.drop_zero]
  cases h : l.findIdx? (· == x) with
  | none =>
    left
    simp only [List.findIdx?_eq_none_iff] at h
    refine ⟨rfl, fun hx => ?_⟩
    have := h x hx; simp at this
  | some j =>
    right
    simp only [List.findIdx?_eq_some_iff_getElem] at h
    obtain ⟨hj, hx, h3⟩ := h
    exact ⟨j, hj, by simp, by simpa using hx, fun i hi => by simpa using h3 i hi⟩

theorem badAt_lt {l : List Int} {k : Nat} (h : k < l.length) : badAt l k = if badId (l[k]?.getD 0) = true then (k : Int) else badAt l (k + 1) := by
  unfold badAt
  rw [List.drop_eq_getElem_cons h]
  have e : l[k]?.getD 0 = l[k] := by simp [h]
  rw [e, List.findIdx?_cons]
  by_cases hx : badId l[k] = true
  · simp [hx]
  · simp only [hx, Bool.false_eq_true, if_false]
    cases (l.drop (k + 1)).findIdx? badId with
    | none => rfl
    | some j => simp; omega

theorem badAt_ge {l : List Int} {k : Nat} (h : l.length ≤ k) : badAt l k = -1 := by
  unfold badAt
  rw [List.drop_eq_nil_of_le h]
  rfl

def FbadId : Pure1 := fun
  | [.int .i64 x] => some (none, .bool (badId x))
  | _ => none

theorem vc_badId (x : Int) (r : AV) : VC Tryz.prog (tabS tab0) noL false 101 [.int .i64 x] r = (
some (AV.bool (bite (ilt x 0) true (ige x 16))) = some r) := by kernel_rfl

theorem ok_badId : PureOK Tryz.prog 101 FbadId := by
  refine tab_plain mixed (l := tab0) ok_tab0 false (by kernel_rfl) fun xs b r h hb wf => ?_
  unfold FbadId at h
  split at h
  · rename_i x
    cases h
    try rw [some_f] at hb
    try simp only [WFL, WF, List.mem_cons, List.not_mem_nil, or_false, forall_eq_or_imp, forall_eq, Col.len, and_true, true_and] at wf
    rw [vc_badId]
    simp [asrt_iff, br_iff, ieq_t, ieq_f, ine_t, ine_f, ilt_t, ilt_f, ile_t, ile_f, igt_t, igt_f, ige_t, ige_f, nlt_t, nlt_f, nle_t, nle_f, neq_t, neq_f, beq2_t, beq2_f, bnot_t, bnot_f, band_t, band_f, bite_t, bite_f, bimp_t, bimp_f, iadd_e, isub_e, imul_e, ofN_e, nOf_e, nAdd_e, nDiff_e, room_e, lenI_e, gI_e, gB_e, imin_e, imax_e, cat_e, pt_e, put_e, some_f, badId, bite, ilt, ige]
  · cases h


def tab1 : List (FuncId × Pure1) := [(101, FbadId)]

theorem ok_tab1 : ∀ p ∈ tab1, PureOK Tryz.prog p.1 p.2 := by
  intro p hp
  simp only [tab1, List.mem_cons, List.not_mem_nil, or_false] at hp
  rcases hp with rfl
  · exact ok_badId


def spec_bad : LoopSpec := { n := 19, keep := [0, 1, 7, 8], srcs := [], keepE := [4], srcsE := [], goes := fun vals objs Q => match vals, objs with
  | [.sl n [.int .i64 l], .fn (.func 101) [] [], .int .i64 m, .int .i64 i], [] => asrt (band (nle n big) (band (ieq m (ofN n)) (band (ile 0 i) (ile i (ofN n))))) (br (ieq (badAt l (nOf i)) (-1)) (Q (.exit 0) [.top] []) (Q .ret [.int .i64 (badAt l (nOf i))] []))
  | _, _ => False }

theorem lp_bad (n : Nat) (l : List Int) (m i : Int) (mu : List AV → Heap → Nat) (Q : Ex → List AV → Heap → Prop) : runCode Tryz.prog (tabS tab1) (callN Tryz.prog (tabS tab1) noL 11) (fun _ => none) (bodyOf Tryz.prog 103 0) 0 ⟨mkT (spec_bad).keep [.sl n [.int .i64 l], .fn (.func 101) [] [], .int .i64 m, .int .i64 i] (spec_bad).n 0, []⟩ ((spec_bad).ends mu [.sl n [.int .i64 l], .fn (.func 101) [] [], .int .i64 m, .int .i64 i] ([]) Q) = (
  br (ilt i m)
    (asrt (band (ile 0 i) (ilt i (ofN n)))
      (br (badId (gI l (nOf i))) (Q Ex.ret [AV.int IntKind.i64 i] [])
        ((mu
                  [AV.sl n [Col.int IntKind.i64 l], AV.fn (Fn.func 101) [] [], AV.int IntKind.i64 m,
                    AV.int IntKind.i64 (iadd IntKind.i64 i 1)]
                  []).succ.le
            (mu [AV.sl n [Col.int IntKind.i64 l], AV.fn (Fn.func 101) [] [], AV.int IntKind.i64 m, AV.int IntKind.i64 i]
              []) ∧
          asrt
            (band (nle n big)
              (band (ieq m (ofN n)) (band (ile 0 (iadd IntKind.i64 i 1)) (ile (iadd IntKind.i64 i 1) (ofN n)))))
            (br (ieq (badAt l (nOf (iadd IntKind.i64 i 1))) (-1)) (Q (Ex.exit 0) [AV.top] [])
              (Q Ex.ret [AV.int IntKind.i64 (badAt l (nOf (iadd IntKind.i64 i 1)))] [])))))
    (Q (Ex.exit 0) [AV.top] [])) := by kernel_rfl

theorem loop_bad : LoopOK Tryz.prog (bodyOf Tryz.prog 103 0) spec_bad.summ := by
  refine tab_loop mixed (l := tab1) ok_tab1 (i := 0) spec_bad (fun vals objs => match vals, objs with
    | [.sl n [.int .i64 l], .fn (.func 101) [] [], .int .i64 m, .int .i64 i], [] => (m - i).toNat
    | _, _ => 0) fun vals objs Q h1 h2 wf wo hg => ?_
  unfold spec_bad at hg
  simp only at hg
  split at hg
  · rename_i n l m i
    clear h1 h2
    try simp only [WFL, WF, List.mem_cons, List.not_mem_nil, or_false, forall_eq_or_imp, forall_eq, Col.len, and_true, true_and] at wf
    rw [lp_bad]
    have hl : l.length = n := wf
    simp [asrt_iff, br_iff, ieq_t, ieq_f, ine_t, ine_f, ilt_t, ilt_f, ile_t, ile_f, igt_t, igt_f, ige_t, ige_f, nlt_t, nlt_f, nle_t, nle_f, neq_t, neq_f, beq2_t, beq2_f, bnot_t, bnot_f, band_t, band_f, bite_t, bite_f, bimp_t, bimp_f, iadd_e, isub_e, imul_e, ofN_e, nOf_e, nAdd_e, nDiff_e, room_e, lenI_e, gI_e, gB_e, imin_e, imax_e, cat_e, pt_e, put_e, some_f] at hg ⊢
    obtain ⟨⟨hb, rfl, h0, hn⟩, hg⟩ := hg
    obtain ⟨k, rfl⟩ := Int.eq_ofNat_of_zero_le h0
    have hb' : n ≤ 2 ^ 50 := by simpa [big] using hb
    simp at hn hg ⊢
    refine ⟨fun hk => ?_, fun hk => ?_⟩
    · rw [wr (by omega) (by omega)]
      rw [show ((k : Int) + 1).toNat = k + 1 by omega]
      rw [badAt_lt (by omega)] at hg
      refine ⟨hk, fun hx => ?_, fun hx => ?_⟩
      · rw [if_pos hx] at hg
        exact hg.2 (by omega)
      · rw [if_neg (by simpa using hx)] at hg
        exact ⟨by omega, ⟨hb, by omega, by omega⟩, hg⟩
    · rw [badAt_ge (by omega)] at hg
      exact hg.1 rfl
  · exact hg.elim


def Lbad : Nat → Option LoopS := fun i => match i with
  | 0 => some (.summ spec_bad.summ)
  | _ => none

theorem ok_Lbad : ∀ i x, Lbad i = some x → LoopHyp Tryz.prog 103 i x := by
  intro i s h
  unfold Lbad at h
  split at h
  · cases h; exact ⟨by kernel_rfl, loop_bad⟩
  · cases h


def FindexBad : Pure1 := fun
  | [.sl n [.int .i64 l], .fn (.func 101) [] []] => some (some (nle n big), .int .i64 (badAt l 0))
  | _ => none

theorem vc_indexBad (n : Nat) (l : List Int) (r : AV) : VC Tryz.prog (tabS tab1) (oneL 103 Lbad) false 103 [.sl n [.int .i64 l], .fn (.func 101) [] []] r = (
  asrt (band (nle n big) (band (ieq (ofN n) (ofN n)) (ile 0 (ofN n))))
    (br (ieq (badAt l 0) (-1)) (some (AV.int IntKind.i64 (-1)) = some r)
      (some (AV.int IntKind.i64 (badAt l 0)) = some r))) := by kernel_rfl

theorem ok_indexBad : PureOK Tryz.prog 103 FindexBad := by
  refine tab_loops mixed (l := tab1) ok_tab1 false Lbad (by kernel_rfl) ok_Lbad fun xs b r h hb wf => ?_
  unfold FindexBad at h
  split at h
  · rename_i n l
    cases h
    try rw [some_f] at hb
    try simp only [WFL, WF, List.mem_cons, List.not_mem_nil, or_false, forall_eq_or_imp, forall_eq, Col.len, and_true, true_and] at wf
    rw [vc_indexBad]
    simp [asrt_iff, br_iff, ieq_t, ieq_f, ine_t, ine_f, ilt_t, ilt_f, ile_t, ile_f, igt_t, igt_f, ige_t, ige_f, nlt_t, nlt_f, nle_t, nle_f, neq_t, neq_f, beq2_t, beq2_f, bnot_t, bnot_f, band_t, band_f, bite_t, bite_f, bimp_t, bimp_f, iadd_e, isub_e, imul_e, ofN_e, nOf_e, nAdd_e, nDiff_e, room_e, lenI_e, gI_e, gB_e, imin_e, imax_e, cat_e, pt_e, put_e, some_f] at hb ⊢
    grind
  · cases h


def hasI (l : List Int) (x : Int) : Bool := l.contains x

def unlFrom (out l : List Int) (i : Int) : List Int := unl out (l.drop i.toNat)

def enterOk (l : List Int) (id : Int) : Bool := lineOk l && !badId id && !l.contains id

def enterL (l : List Int) (id : Int) : List Int := if enterOk l id then l ++ [id] else l

def enterE (l : List Int) (id : Int) : Int := if !lineOk l || badId id then 40 else if l.contains id then 60 else 0

def leaveL (l : List Int) (id : Int) : List Int := if placeAt l id < 0 then l else l.eraseIdx (placeAt l id).toNat

def leaveE (l : List Int) (id : Int) : Int := if placeAt l id < 0 then 40 else 0

def nextB (l : List Int) : Bool := lineOk l && !l.isEmpty

def nextL (l : List Int) : List Int := if nextB l then l.tail else l

def nextV (l : List Int) : Int := if nextB l then l.headD 0 else 0


def tab2 : List (FuncId × Pure1) := [(101, FbadId), (109, Findex), (103, FindexBad), (70, Fclone)]

theorem ok_tab2 : ∀ p ∈ tab2, PureOK Tryz.prog p.1 p.2 := by
  intro p hp
  simp only [tab2, List.mem_cons, List.not_mem_nil, or_false] at hp
  rcases hp with rfl | rfl | rfl | rfl
  · exact ok_badId
  · exact ok_index
  · exact ok_indexBad
  · exact ok_clone


def Fcontains : Pure1 := fun
  | [.sl n [.int .i64 l], .int .i64 x] => some (some (nle n big), .bool (hasI l x))
  | _ => none

theorem vc_contains (n : Nat) (l : List Int) (x : Int) (r : AV) : VC Tryz.prog (tabS tab2) noL false 108 [.sl n [.int .i64 l], .int .i64 x] r = (
asrt (nle n big) (some (AV.bool (ige (idxAt l x 0) 0)) = some r)) := by kernel_rfl

theorem ok_contains : PureOK Tryz.prog 108 Fcontains := by
  refine tab_plain mixed (l := tab2) ok_tab2 false (by kernel_rfl) fun xs b r h hb wf => ?_
  unfold Fcontains at h
  split at h
  · rename_i n l x
    cases h
    try rw [some_f] at hb
    try simp only [WFL, WF, List.mem_cons, List.not_mem_nil, or_false, forall_eq_or_imp, forall_eq, Col.len, and_true, true_and] at wf
    rw [vc_contains]
    have e := idxAt_has l x
    simp [asrt_iff, br_iff, ieq_t, ieq_f, ine_t, ine_f, ilt_t, ilt_f, ile_t, ile_f, igt_t, igt_f, ige_t, ige_f, nlt_t, nlt_f, nle_t, nle_f, neq_t, neq_f, beq2_t, beq2_f, bnot_t, bnot_f, band_t, band_f, bite_t, bite_f, bimp_t, bimp_f, iadd_e, isub_e, imul_e, ofN_e, nOf_e, nAdd_e, nDiff_e, room_e, lenI_e, gI_e, gB_e, imin_e, imax_e, cat_e, pt_e, put_e, some_f, hasI] at hb ⊢
    refine ⟨hb, ?_⟩
    rw [Bool.eq_iff_iff]
    simp [ige, e]
  · cases h


def tab3 : List (FuncId × Pure1) := [(108, Fcontains)] ++ tab2

theorem ok_tab3 : ∀ p ∈ tab3, PureOK Tryz.prog p.1 p.2 := by
  intro p hp
  simp only [tab3, List.mem_append, List.mem_cons, List.not_mem_nil, or_false] at hp
  rcases hp with (rfl) | hp
  · exact ok_contains
  · exact ok_tab2 p hp


def spec_unl : LoopSpec := { n := 21, keep := [5, 6, 7, 2], srcs := [.tmp 2], keepE := [2], srcsE := [.tmp 2], goes := fun vals objs Q => match vals, objs with
  | [.sl n [.int .i64 l], .int .i64 m, .int .i64 i, .full 0], [some (.row 3 k [.int .i64 out])] => asrt (band (nle n room) (band (ieq m (ofN n)) (band (ile 0 i) (band (ile i (ofN n)) (nle k (nOf i)))))) (Q (.exit 0) [.full 0] [some (.row 3 (lenI (unlFrom out l i)) [.int .i64 (unlFrom out l i)])])
  | _, _ => False }

theorem lp_unl (n : Nat) (l : List Int) (m i : Int) (k : Nat) (out : List Int) (mu : List AV → Heap → Nat) (Q : Ex → List AV → Heap → Prop) : runCode Tryz.prog (tabS tab3) (callN Tryz.prog (tabS tab3) noL 11) (fun _ => none) (bodyOf Tryz.prog 102 0) 0 ⟨mkT (spec_unl).keep [.sl n [.int .i64 l], .int .i64 m, .int .i64 i, .full 0] (spec_unl).n 0, [some (.row 3 k [.int .i64 out])]⟩ ((spec_unl).ends mu [.sl n [.int .i64 l], .int .i64 m, .int .i64 i, .full 0] ([some (.row 3 k [.int .i64 out])]) Q) = (
  br (ilt i m)
    (asrt (band (ile 0 i) (ilt i (ofN n)))
      (asrt (nle k big)
        (br (bnot (hasI out (gI l (nOf i))))
          (asrt (nle (nAdd k 1) 17592186044416)
            ((mu
                      [AV.sl n [Col.int IntKind.i64 l], AV.int IntKind.i64 m, AV.int IntKind.i64 (iadd IntKind.i64 i 1),
                        AV.full 0]
                      [some (AObj.row 3 (nAdd k 1) [Col.int IntKind.i64 (cat out [gI l (nOf i)])])]).succ.le
                (mu [AV.sl n [Col.int IntKind.i64 l], AV.int IntKind.i64 m, AV.int IntKind.i64 i, AV.full 0]
                  [some (AObj.row 3 k [Col.int IntKind.i64 out])]) ∧
              asrt
                (band (nle n 1073741824)
                  (band (ieq m (ofN n))
                    (band (ile 0 (iadd IntKind.i64 i 1))
                      (band (ile (iadd IntKind.i64 i 1) (ofN n)) (nle (nAdd k 1) (nOf (iadd IntKind.i64 i 1)))))))
                (Q (Ex.exit 0) [AV.full 0]
                  [some
                      (AObj.row 3 (lenI (unlFrom (cat out [gI l (nOf i)]) l (iadd IntKind.i64 i 1)))
                        [Col.int IntKind.i64 (unlFrom (cat out [gI l (nOf i)]) l (iadd IntKind.i64 i 1))])])))
          ((mu
                    [AV.sl n [Col.int IntKind.i64 l], AV.int IntKind.i64 m, AV.int IntKind.i64 (iadd IntKind.i64 i 1),
                      AV.full 0]
                    [some (AObj.row 3 k [Col.int IntKind.i64 out])]).succ.le
              (mu [AV.sl n [Col.int IntKind.i64 l], AV.int IntKind.i64 m, AV.int IntKind.i64 i, AV.full 0]
                [some (AObj.row 3 k [Col.int IntKind.i64 out])]) ∧
            asrt
              (band (nle n 1073741824)
                (band (ieq m (ofN n))
                  (band (ile 0 (iadd IntKind.i64 i 1))
                    (band (ile (iadd IntKind.i64 i 1) (ofN n)) (nle k (nOf (iadd IntKind.i64 i 1)))))))
              (Q (Ex.exit 0) [AV.full 0]
                [some
                    (AObj.row 3 (lenI (unlFrom out l (iadd IntKind.i64 i 1)))
                      [Col.int IntKind.i64 (unlFrom out l (iadd IntKind.i64 i 1))])])))))
    (Q (Ex.exit 0) [AV.full 0] [some (AObj.row 3 k [Col.int IntKind.i64 out])])) := by kernel_rfl

theorem loop_unl : LoopOK Tryz.prog (bodyOf Tryz.prog 102 0) spec_unl.summ := by
  refine tab_loop mixed (l := tab3) ok_tab3 (i := 0) spec_unl (fun vals objs => match vals, objs with
    | [.sl n [.int .i64 l], .int .i64 m, .int .i64 i, .full 0], [some (.row 3 k [.int .i64 out])] => (m - i).toNat
    | _, _ => 0) fun vals objs Q h1 h2 wf wo hg => ?_
  unfold spec_unl at hg
  simp only at hg
  split at hg
  · rename_i n l m i k out
    clear h1 h2
    try simp only [WFL, WF, List.mem_cons, List.not_mem_nil, or_false, forall_eq_or_imp, forall_eq, Col.len, and_true, true_and] at wf
    rw [lp_unl]
    have hl : l.length = n := wf
    have hk : out.length = k := by simpa [WFH, WFO, Col.len] using wo
    simp [asrt_iff, br_iff, ieq_t, ieq_f, ine_t, ine_f, ilt_t, ilt_f, ile_t, ile_f, igt_t, igt_f, ige_t, ige_f, nlt_t, nlt_f, nle_t, nle_f, neq_t, neq_f, beq2_t, beq2_f, bnot_t, bnot_f, band_t, band_f, bite_t, bite_f, bimp_t, bimp_f, iadd_e, isub_e, imul_e, ofN_e, nOf_e, nAdd_e, nDiff_e, room_e, lenI_e, gI_e, gB_e, imin_e, imax_e, cat_e, pt_e, put_e, some_f] at hg ⊢
    obtain ⟨⟨hb, rfl, h0, hn, hki⟩, hg⟩ := hg
    obtain ⟨i, rfl⟩ := Int.eq_ofNat_of_zero_le h0
    simp at hn hg hki ⊢
    refine ⟨fun hlt => ?_, fun hge => ?_⟩
    · have hd : l.drop i = l[i]'(by omega) :: l.drop (i + 1) := List.drop_eq_getElem_cons (by omega)
      have hx : l[i]?.getD 0 = l[i]'(by omega) := by simp [show i < l.length by omega]
      simp only [hx, hasI]
      rw [wr (by omega) (by omega)]
      have e1 : ((i : Int) + 1).toNat = i + 1 := by omega
      have hu : unlFrom out l i = if out.contains (l[i]'(by omega)) then unlFrom out l (i + 1 : Int) else unlFrom (out ++ [l[i]'(by omega)]) l (i + 1 : Int) := by
        simp only [unlFrom, e1]
        rw [show (i : Int).toNat = i by omega, hd, unl]
      refine ⟨hlt, le_big (by omega), fun hc => ?_, fun hc => ?_⟩
      · have hc' : out.contains (l[i]'(by omega)) = false := by simpa using hc
        rw [hc'] at hu
        simp only [Bool.false_eq_true, if_false] at hu
        rw [hu] at hg
        refine ⟨by omega, by omega, ⟨hb, by omega, by omega, by omega⟩, ?_⟩
        simpa using hg
      · have hc' : out.contains (l[i]'(by omega)) = true := by simpa using hc
        rw [hc'] at hu
        simp only [if_true] at hu
        rw [hu] at hg
        refine ⟨by omega, ⟨hb, by omega, by omega, by omega⟩, ?_⟩
        simpa using hg
    · have hd : unlFrom out l i = out := by
        unfold unlFrom
        rw [List.drop_eq_nil_of_le (by omega)]
        rfl
      rw [hd, hk] at hg
      exact hg
  · exact hg.elim


def Lunl : Nat → Option LoopS := fun i => match i with
  | 0 => some (.summ spec_unl.summ)
  | _ => none

theorem ok_Lunl : ∀ i x, Lunl i = some x → LoopHyp Tryz.prog 102 i x := by
  intro i s h
  unfold Lunl at h
  split at h
  · cases h; exact ⟨by kernel_rfl, loop_unl⟩
  · cases h


def Funl : Pure1 := fun
  | [.sl n [.int .i64 l]] => some (some (nle n room), .own 3 (lenI (unl [] l)) [.int .i64 (unl [] l)])
  | _ => none

theorem vc_unl (n : Nat) (l : List Int) (r : AV) : VC Tryz.prog (tabS tab3) (oneL 102 Lunl) true 102 [.sl n [.int .i64 l]] r = (
  asrt (band (nle n 1073741824) (band (ieq (ofN n) (ofN n)) (band (ile 0 (ofN n)) true)))
    (some (AV.own 3 (lenI (unlFrom [] l 0)) [Col.int IntKind.i64 (unlFrom [] l 0)]) = some r)) := by kernel_rfl

theorem ok_unl : PureOK Tryz.prog 102 Funl := by
  refine tab_loops mixed (l := tab3) ok_tab3 true Lunl (by kernel_rfl) ok_Lunl fun xs b r h hb wf => ?_
  unfold Funl at h
  split at h
  · rename_i n l
    cases h
    try rw [some_f] at hb
    try simp only [WFL, WF, List.mem_cons, List.not_mem_nil, or_false, forall_eq_or_imp, forall_eq, Col.len, and_true, true_and] at wf
    rw [vc_unl]
    simp [asrt_iff, br_iff, ieq_t, ieq_f, ine_t, ine_f, ilt_t, ilt_f, ile_t, ile_f, igt_t, igt_f, ige_t, ige_f, nlt_t, nlt_f, nle_t, nle_f, neq_t, neq_f, beq2_t, beq2_f, bnot_t, bnot_f, band_t, band_f, bite_t, bite_f, bimp_t, bimp_f, iadd_e, isub_e, imul_e, ofN_e, nOf_e, nAdd_e, nDiff_e, room_e, lenI_e, gI_e, gB_e, imin_e, imax_e, cat_e, pt_e, put_e, some_f, unlFrom] at hb ⊢
    grind
  · cases h


def tab4 : List (FuncId × Pure1) := [(102, Funl)] ++ tab3

theorem ok_tab4 : ∀ p ∈ tab4, PureOK Tryz.prog p.1 p.2 := by
  intro p hp
  simp only [tab4, List.mem_append, List.mem_cons, List.not_mem_nil, or_false] at hp
  rcases hp with (rfl) | hp
  · exact ok_unl
  · exact ok_tab3 p hp


def Fcheck : Pure1 := fun
  | [.sl n [.int .i64 l]] => some (some (nle n room), .bool (lineOk l))
  | _ => none

theorem vc_check (n : Nat) (l : List Int) (r : AV) : VC Tryz.prog (tabS tab4) noL false 89 [.sl n [.int .i64 l]] r = (
  asrt (nle n big)
    (br (bnot (ige (badAt l 0) 0))
      (asrt (nle n 1073741824) (some (AV.bool (ieq (ofN (lenI (unl [] l))) (ofN n))) = some r))
      (some (AV.bool false) = some r))) := by kernel_rfl

theorem ok_check : PureOK Tryz.prog 89 Fcheck := by
  refine tab_plain mixed (l := tab4) ok_tab4 false (by kernel_rfl) fun xs b r h hb wf => ?_
  unfold Fcheck at h
  split at h
  · rename_i n l
    cases h
    try rw [some_f] at hb
    try simp only [WFL, WF, List.mem_cons, List.not_mem_nil, or_false, forall_eq_or_imp, forall_eq, Col.len, and_true, true_and] at wf
    rw [vc_check]
    simp [asrt_iff, br_iff, ieq_t, ieq_f, ine_t, ine_f, ilt_t, ilt_f, ile_t, ile_f, igt_t, igt_f, ige_t, ige_f, nlt_t, nlt_f, nle_t, nle_f, neq_t, neq_f, beq2_t, beq2_f, bnot_t, bnot_f, band_t, band_f, bite_t, bite_f, bimp_t, bimp_f, iadd_e, isub_e, imul_e, ofN_e, nOf_e, nAdd_e, nDiff_e, room_e, lenI_e, gI_e, gB_e, imin_e, imax_e, cat_e, pt_e, put_e, some_f] at hb ⊢
    have hbig := le_big hb
    grind [lineOk, ieq, ine, ilt, ile, igt, ige, nlt, nle, neq, beq2, bnot, band, bite, bimp, le_big]
  · cases h


def tab5 : List (FuncId × Pure1) := [(89, Fcheck)] ++ tab4

theorem ok_tab5 : ∀ p ∈ tab5, PureOK Tryz.prog p.1 p.2 := by
  intro p hp
  simp only [tab5, List.mem_append, List.mem_cons, List.not_mem_nil, or_false] at hp
  rcases hp with (rfl) | hp
  · exact ok_check
  · exact ok_tab4 p hp



def tab6 : List (FuncId × Pure1) := [] ++ tab5

theorem ok_tab6 : ∀ p ∈ tab6, PureOK Tryz.prog p.1 p.2 := by
  intro p hp
  exact ok_tab5 p (by simpa [tab6] using hp)


theorem lineOk_one (x : Int) : lineOk [x] = !badId x := by
  rw [Bool.eq_iff_iff, lineOk_iff]
  simp [badId, ilt, ige]

theorem place_has {l : List Int} (x : Int) (h : lineOk l = true) : 0 ≤ placeAt l x ↔ l.contains x = true := by
  simp [placeAt, h, idxAt_has]

theorem place_lt (l : List Int) (x : Int) : placeAt l x < l.length := by
  unfold placeAt
  split
  · rcases idxAt_cases l x with ⟨h, _⟩ | ⟨j, hj, h, _⟩ <;> omega
  · omega

theorem place_ge (l : List Int) (x : Int) : -1 ≤ placeAt l x := by
  unfold placeAt
  split
  · rcases idxAt_cases l x with ⟨h, _⟩ | ⟨j, hj, h, _⟩ <;> omega
  · omega

theorem del_list (l : List Int) (j : Nat) (h : j < l.length) : pt (ovr (ovr l j (pt l (j + 1) (l.length - (j + 1)))) (j + (l.length - (j + 1))) (rI (l.length - (j + (l.length - (j + 1)))))) 0 (j + (l.length - (j + 1))) = l.eraseIdx j := by
  have e1 : pt l (j + 1) (l.length - (j + 1)) = l.drop (j + 1) := by
    unfold pt
    rw [List.take_of_length_le (by simp)]
  have e2 : (ovr l j (l.drop (j + 1))).take (j + (l.length - (j + 1))) = l.eraseIdx j := by
    unfold ovr
    rw [List.eraseIdx_eq_take_drop_succ, List.take_append_of_le_length (by simp; omega), List.take_of_length_le (by simp; omega)]
  rw [e1]
  unfold pt
  rw [List.drop_zero]
  conv => lhs; unfold ovr
  rw [List.take_append_of_le_length (by simp [ovr]; omega), List.take_append_of_le_length (by simp [ovr]; omega), List.take_take, Nat.min_self]
  exact e2



def Fnext : Pure1 := fun
  | [.sl n [.int .i64 l]] => some (some (nle n room), .tup [.int .i64 (nextV l), .own 3 (lenI (nextL l)) [.int .i64 (nextL l)], .bool (nextB l)])
  | _ => none

theorem vc_next (n : Nat) (l : List Int) (r : AV) : VC Tryz.prog (tabS tab6) noL true 107 [.sl n [.int .i64 l]] r = (
  asrt (nle n 1073741824)
    (br (bite (bnot (lineOk l)) true (ieq (ofN n) 0))
      (asrt (nle n 1073741824)
        (some (AV.tup [AV.int IntKind.i64 0, AV.own 3 n [Col.int IntKind.i64 l], AV.bool false]) = some r))
      (asrt (ilt 0 (ofN n))
        (asrt (band (ile 1 (ofN n)) (ile (ofN n) (ofN n)))
          (asrt (nle (nDiff (ofN n) 1) 1073741824)
            (some
                (AV.tup
                  [AV.int IntKind.i64 (gI l 0),
                    AV.own 3 (nDiff (ofN n) 1) [Col.int IntKind.i64 (pt l 1 (nDiff (ofN n) 1))], AV.bool true]) =
              some r)))))) := by kernel_rfl

theorem ok_next : PureOK Tryz.prog 107 Fnext := by
  refine tab_plain mixed (l := tab6) ok_tab6 true (by kernel_rfl) fun xs b r h hb wf => ?_
  unfold Fnext at h
  split at h
  · rename_i n l
    cases h
    try rw [some_f] at hb
    try simp only [WFL, WF, List.mem_cons, List.not_mem_nil, or_false, forall_eq_or_imp, forall_eq, Col.len, and_true, true_and] at wf
    rw [vc_next]
    simp [asrt_iff, br_iff, ieq_t, ieq_f, ine_t, ine_f, ilt_t, ilt_f, ile_t, ile_f, igt_t, igt_f, ige_t, ige_f, nlt_t, nlt_f, nle_t, nle_f, neq_t, neq_f, beq2_t, beq2_f, bnot_t, bnot_f, band_t, band_f, bite_t, bite_f, bimp_t, bimp_f, iadd_e, isub_e, imul_e, ofN_e, nOf_e, nAdd_e, nDiff_e, room_e, lenI_e, gI_e, gB_e, imin_e, imax_e, cat_e, pt_e, put_e, some_f] at hb ⊢
    cases l with
    | nil =>
      simp at wf
      subst wf
      simp [nextB, nextV, nextL, bite]
    | cons x l =>
      have hn : n = l.length + 1 := by simp at wf; omega
      subst hn
      have h2 : pt (x :: l) 1 l.length = l := by simp [pt]
      have e1 : (((l.length : Int) + 1) - 1).toNat = l.length := by omega
      have e2 : (l.length + 1 : Nat) ≤ 1073741824 := hb
      have e3 : l.length ≤ 1073741824 := by omega
      have e4 : ¬ ((l.length : Int) + 1 = 0) := by omega
      have e5 : (0 : Int) < (l.length : Int) + 1 := by omega
      have e6 : (1 : Int) ≤ (l.length : Int) + 1 := by omega
      cases hk : lineOk (x :: l) with
      | false =>
        have n1 : nextB (x :: l) = false := by simp [nextB, hk]
        have n2 : nextL (x :: l) = x :: l := by simp [nextL, n1]
        have n3 : nextV (x :: l) = 0 := by simp [nextV, n1]
        simp [n1, n2, n3, e2]
      | true =>
        have n1 : nextB (x :: l) = true := by simp [nextB, hk]
        have n2 : nextL (x :: l) = l := by simp [nextL, n1]
        have n3 : nextV (x :: l) = x := by simp [nextV, n1]
        simp only [n1, n2, n3]
        exact ⟨e2, fun h => by have := h trivial; omega, fun _ _ => ⟨by omega, by omega, by omega, by simp, ⟨by omega, by simp⟩, trivial⟩⟩
  · cases h


end Go.Own
