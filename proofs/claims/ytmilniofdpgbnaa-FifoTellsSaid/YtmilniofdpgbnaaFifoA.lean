/- Queues: rows. -/
import Derived.Test.YtmilniofdpgbnaaSeq
namespace Go.Own
open Go Go.Proofs
set_option maxRecDepth 100000
set_option linter.unusedVariables false
set_option linter.unusedSimpArgs false

/-- Of who sends. -/
def sendB (l : List Int) (a b c e1 e2 e3 e4 : Int) : Bool :=
  if e3 = 1 then decide (c = 0 ∧ ¬ a ≤ l.length)
  else decide ((e3 = 2 ∧ e1 = 2 ∧ c = 0 ∧ a ≤ l.length ∧ b = 0) ∨ (e3 = 3 ∧ c = 0 ∧ a ≤ l.length ∧ b = 1) ∨ (e3 ≠ 2 ∧ e3 ≠ 3 ∧ ((e3 = 6 ∧ c = 1) ∨ (e3 = 7 ∧ c = 2) ∨ (e3 = 5 ∧ e1 = 3))))

def sendV (l : List Int) (e2 e3 : Int) : List Int := if e3 = 1 then l ++ [e2] else l

def firstB (l : List Int) (v : Int) : Bool := l.head? == some v

def recvB (l : List Int) (a b c e1 e2 e3 e4 : Int) : Bool :=
  if e3 = 1 then decide (l.head? = some e4 ∧ c ≠ 2)
  else decide ((e3 = 4 ∧ e1 = 5 ∧ c = 0 ∧ l.length = 0) ∨ (e3 = 6 ∧ c = 1 ∧ l.length = 0) ∨ (e3 = 7 ∧ c = 2) ∨ (e3 = 5 ∧ e1 = 6))

def recvV (l : List Int) (e3 e4 : Int) : List Int := if e3 = 1 ∧ l.head? = some e4 then l.tail else l

def evictB (l : List Int) (a b c e3 e4 : Int) : Bool := decide (l.head? = some e4 ∧ e3 = 1 ∧ c = 0 ∧ a ≤ l.length ∧ b = 2)

def evictV (l : List Int) (e4 : Int) : List Int := if l.head? = some e4 then l.tail else l

def drainM (c : Int) : Int := if c = 0 then 1 else c

def endsB (c e1 e3 u : Int) : Bool := decide ((e3 = 6 ∧ c = 1) ∨ (e3 = 7 ∧ c = 2) ∨ (e3 = 5 ∧ e1 = u))

def tlI (l : List Int) : List Int := l.tail

/-- What may be told of a queue. -/
def mayS (l : List Int) (a b c e1 e2 e3 e4 : Int) : Bool :=
  if e1 = 9 then evictB l a b c e3 e4 else if e1 = 7 then ieq e3 1 else if e1 = 8 then ieq e3 1
  else if 1 ≤ e1 ∧ e1 ≤ 3 then sendB l a b c e1 e2 e3 e4 else if 4 ≤ e1 ∧ e1 ≤ 6 then recvB l a b c e1 e2 e3 e4 else false

/-- What is made of its values. -/
def valS (l : List Int) (a b c e1 e2 e3 e4 : Int) : List Int :=
  if mayS l a b c e1 e2 e3 e4 then (if e1 = 9 then evictV l e4 else if 1 ≤ e1 ∧ e1 ≤ 3 then sendV l e2 e3 else if 4 ≤ e1 ∧ e1 ≤ 6 then recvV l e3 e4 else l) else l

def modeS (l : List Int) (a b c e1 e2 e3 e4 : Int) : Int :=
  if mayS l a b c e1 e2 e3 e4 then (if e1 = 7 then drainM c else if e1 = 8 then 2 else c) else c


theorem nOf_ofN (n : Nat) : nOf (ofN n) = n := Int.toNat_natCast n
theorem iadd1 {n : Nat} (h : n ≤ 1073741824) : iadd .i64 (ofN n) 1 = ofN (n + 1) := by
  rw [iadd_e, ofN_e, ofN_e, wr (by omega) (by omega)]; omega
theorem isub1 {n : Nat} (h : n ≤ 1073741824) (h0 : 0 < n) : isub .i64 (ofN n) 1 = ofN (n - 1) := by
  rw [isub_e, ofN_e, ofN_e, wr (by omega) (by omega)]; omega
theorem nDiff1 (n : Nat) : nDiff (ofN n) 1 = n - 1 := by rw [nDiff_e, ofN_e]; omega
theorem own_list (l : List Int) : ovr (rI l.length) 0 (pt l 0 (nMin l.length l.length)) = l := by
  simp [ovr, pt, nMin, rI]
theorem behind_list (l : List Int) (v : Int) : put (ovr (rI (l.length + 1)) 0 (pt l 0 (nMin l.length (l.length + 1)))) l.length v = l ++ [v] := by
  have h : nMin l.length (l.length + 1) = l.length := by simp [nMin]
  rw [h]
  simp [ovr, pt, put, rI, List.drop_replicate]
theorem rest_list (l : List Int) : ovr (rI (l.length - 1)) 0 (pt (pt l 1 (l.length - 1)) 0 (nMin (l.length - 1) (l.length - 1))) = l.tail := by
  cases l with
  | nil => simp [ovr, pt, rI]
  | cons x l => simp [ovr, pt, nMin, rI]
theorem first_iff (l : List Int) (v : Int) : firstB l v = true ↔ 0 < l.length ∧ l[0]?.getD 0 = v := by
  cases l <;> simp [firstB]
theorem first_head (l : List Int) (v : Int) : firstB l v = true ↔ l.head? = some v := by simp [firstB]

def Fqown : Pure1 := fun
  | [.agg [.sl n [.int .i64 l], .int .i64 a, .int .i64 b, .int .i64 c]] => some (some (nle n room), .agg [.own 3 n [.int .i64 l], .int .i64 a, .int .i64 b, .int .i64 c])
  | _ => none

theorem vc_qown (n : Nat) (l : List Int) (a b c : Int) (r : AV) : VC Try.prog (tabS tab0) noL true 38 [.agg [.sl n [.int .i64 l], .int .i64 a, .int .i64 b, .int .i64 c]] r = (
  asrt (band (ile 0 (ofN n)) (band (ile (ofN n) 1073741824) (ieq (ofN n) (ofN n))))
    (some
        (AV.agg
          [AV.own 3 (nOf (ofN n)) [Col.int IntKind.i64 (ovr (rI (nOf (ofN n))) 0 (pt l 0 (nMin n (nOf (ofN n)))))],
            AV.int IntKind.i64 a, AV.int IntKind.i64 b, AV.int IntKind.i64 c]) =
      some r)) := by kernel_rfl

theorem ok_qown : PureOK Try.prog 38 Fqown := by
  refine tab_plain mixed (l := tab0) ok_tab0 true (by kernel_rfl) fun xs b r h hb wf => ?_
  unfold Fqown at h
  split at h
  · rename_i n l a b c
    cases h
    try rw [some_f] at hb
    try simp only [WFL, WF, List.mem_cons, List.not_mem_nil, or_false, forall_eq, Col.len, and_true, true_and] at wf
    rw [vc_qown]
    subst wf
    have h := own_list l
    simp only [nOf_ofN, h] at hb ⊢
    simp [asrt_iff, br_iff, ieq_t, ieq_f, ine_t, ine_f, ilt_t, ilt_f, ile_t, ile_f, igt_t, igt_f, ige_t, ige_f, nlt_t, nlt_f, nle_t, nle_f, neq_t, neq_f, beq2_t, beq2_f, bnot_t, bnot_f, band_t, band_f, bite_t, bite_f, bimp_t, bimp_f, iadd_e, isub_e, imul_e, ofN_e, nOf_e, nAdd_e, nDiff_e, room_e, lenI_e, gI_e, gB_e, imin_e, imax_e, cat_e, pt_e, put_e, some_f] at hb ⊢
    omega
  · cases h


def Fqbehind : Pure1 := fun
  | [.agg [.sl n [.int .i64 l], .int .i64 a, .int .i64 b, .int .i64 c], .int .i64 v] => some (some (nlt n room), .agg [.own 3 (nAdd n 1) [.int .i64 (cat l [v])], .int .i64 a, .int .i64 b, .int .i64 c])
  | _ => none

theorem vc_qbehind (n : Nat) (l : List Int) (a b c v : Int) (r : AV) : VC Try.prog (tabS tab0) noL true 53 [.agg [.sl n [.int .i64 l], .int .i64 a, .int .i64 b, .int .i64 c], .int .i64 v] r = (
  asrt
    (band (ile 0 (iadd IntKind.i64 (ofN n) 1))
      (band (ile (iadd IntKind.i64 (ofN n) 1) 1073741824)
        (ieq (iadd IntKind.i64 (ofN n) 1) (iadd IntKind.i64 (ofN n) 1))))
    (asrt (band (ile 0 (ofN n)) (ilt (ofN n) (ofN (nOf (iadd IntKind.i64 (ofN n) 1)))))
      (asrt (nlt (nOf (ofN n)) (nOf (iadd IntKind.i64 (ofN n) 1)))
        (some
            (AV.agg
              [AV.own 3 (nOf (iadd IntKind.i64 (ofN n) 1))
                  [Col.int IntKind.i64
                      (put
                        (ovr (rI (nOf (iadd IntKind.i64 (ofN n) 1))) 0
                          (pt l 0 (nMin n (nOf (iadd IntKind.i64 (ofN n) 1)))))
                        (nOf (ofN n)) v)],
                AV.int IntKind.i64 a, AV.int IntKind.i64 b, AV.int IntKind.i64 c]) =
          some r)))) := by kernel_rfl

theorem ok_qbehind : PureOK Try.prog 53 Fqbehind := by
  refine tab_plain mixed (l := tab0) ok_tab0 true (by kernel_rfl) fun xs b r h hb wf => ?_
  unfold Fqbehind at h
  split at h
  · rename_i n l a b c v
    cases h
    try rw [some_f] at hb
    try simp only [WFL, WF, List.mem_cons, List.not_mem_nil, or_false, forall_eq, Col.len, and_true, true_and] at wf
    rw [vc_qbehind]
    subst wf
    simp [asrt_iff, br_iff, ieq_t, ieq_f, ine_t, ine_f, ilt_t, ilt_f, ile_t, ile_f, igt_t, igt_f, ige_t, ige_f, nlt_t, nlt_f, nle_t, nle_f, neq_t, neq_f, beq2_t, beq2_f, bnot_t, bnot_f, band_t, band_f, bite_t, bite_f, bimp_t, bimp_f, iadd_e, isub_e, imul_e, ofN_e, nOf_e, nAdd_e, nDiff_e, room_e, lenI_e, gI_e, gB_e, imin_e, imax_e, cat_e, pt_e, put_e, some_f] at hb
    have h := behind_list l v
    rw [iadd1 (by omega)]
    simp only [nOf_ofN, h]
    all_goals (try simp [asrt_iff, br_iff, ieq_t, ieq_f, ine_t, ine_f, ilt_t, ilt_f, ile_t, ile_f, igt_t, igt_f, ige_t, ige_f, nlt_t, nlt_f, nle_t, nle_f, neq_t, neq_f, beq2_t, beq2_f, bnot_t, bnot_f, band_t, band_f, bite_t, bite_f, bimp_t, bimp_f, iadd_e, isub_e, imul_e, ofN_e, nOf_e, nAdd_e, nDiff_e, room_e, lenI_e, gI_e, gB_e, imin_e, imax_e, cat_e, pt_e, put_e, some_f])
    all_goals (try omega)
  · cases h


def Fqrest : Pure1 := fun
  | [.agg [.sl n [.int .i64 l], .int .i64 a, .int .i64 b, .int .i64 c]] => some (some (band (nle n room) (nlt 0 n)), .agg [.own 3 (lenI (tlI l)) [.int .i64 (tlI l)], .int .i64 a, .int .i64 b, .int .i64 c])
  | _ => none

theorem vc_qrest (n : Nat) (l : List Int) (a b c : Int) (r : AV) : VC Try.prog (tabS tab0) noL true 50 [.agg [.sl n [.int .i64 l], .int .i64 a, .int .i64 b, .int .i64 c]] r = (
  asrt
    (band (ile 0 (isub IntKind.i64 (ofN n) 1))
      (band (ile (isub IntKind.i64 (ofN n) 1) 1073741824)
        (ieq (isub IntKind.i64 (ofN n) 1) (isub IntKind.i64 (ofN n) 1))))
    (asrt (band (ile 1 (ofN n)) (ile (ofN n) (ofN n)))
      (some
          (AV.agg
            [AV.own 3 (nOf (isub IntKind.i64 (ofN n) 1))
                [Col.int IntKind.i64
                    (ovr (rI (nOf (isub IntKind.i64 (ofN n) 1))) 0
                      (pt (pt l 1 (nDiff (ofN n) 1)) 0 (nMin (nDiff (ofN n) 1) (nOf (isub IntKind.i64 (ofN n) 1)))))],
              AV.int IntKind.i64 a, AV.int IntKind.i64 b, AV.int IntKind.i64 c]) =
        some r))) := by kernel_rfl

theorem ok_qrest : PureOK Try.prog 50 Fqrest := by
  refine tab_plain mixed (l := tab0) ok_tab0 true (by kernel_rfl) fun xs b r h hb wf => ?_
  unfold Fqrest at h
  split at h
  · rename_i n l a b c
    cases h
    try rw [some_f] at hb
    try simp only [WFL, WF, List.mem_cons, List.not_mem_nil, or_false, forall_eq, Col.len, and_true, true_and] at wf
    rw [vc_qrest]
    subst wf
    simp [asrt_iff, br_iff, ieq_t, ieq_f, ine_t, ine_f, ilt_t, ilt_f, ile_t, ile_f, igt_t, igt_f, ige_t, ige_f, nlt_t, nlt_f, nle_t, nle_f, neq_t, neq_f, beq2_t, beq2_f, bnot_t, bnot_f, band_t, band_f, bite_t, bite_f, bimp_t, bimp_f, iadd_e, isub_e, imul_e, ofN_e, nOf_e, nAdd_e, nDiff_e, room_e, lenI_e, gI_e, gB_e, imin_e, imax_e, cat_e, pt_e, put_e, some_f] at hb
    have h := rest_list l
    rw [isub1 (by omega) (by omega)]
    simp only [nOf_ofN, nDiff1, h]
    all_goals (try simp [asrt_iff, br_iff, ieq_t, ieq_f, ine_t, ine_f, ilt_t, ilt_f, ile_t, ile_f, igt_t, igt_f, ige_t, ige_f, nlt_t, nlt_f, nle_t, nle_f, neq_t, neq_f, beq2_t, beq2_f, bnot_t, bnot_f, band_t, band_f, bite_t, bite_f, bimp_t, bimp_f, iadd_e, isub_e, imul_e, ofN_e, nOf_e, nAdd_e, nDiff_e, room_e, lenI_e, gI_e, gB_e, imin_e, imax_e, cat_e, pt_e, put_e, some_f, tlI])
    all_goals (try omega)
  · cases h


def Fqfirst : Pure1 := fun
  | [.agg [.sl n [.int .i64 l], .int .i64 a, .int .i64 b, .int .i64 c], .int .i64 v] => some (none, .bool (firstB l v))
  | _ => none

theorem vc_qfirst (n : Nat) (l : List Int) (a b c v : Int) (r : AV) : VC Try.prog (tabS tab0) noL false 49 [.agg [.sl n [.int .i64 l], .int .i64 a, .int .i64 b, .int .i64 c], .int .i64 v] r = (
  asrt (bimp (igt (ofN n) 0) (ilt 0 (ofN n))) (some (AV.bool (bite (igt (ofN n) 0) (ieq (gI l 0) v) false)) = some r)) := by kernel_rfl

theorem ok_qfirst : PureOK Try.prog 49 Fqfirst := by
  refine tab_plain mixed (l := tab0) ok_tab0 false (by kernel_rfl) fun xs b r h hb wf => ?_
  unfold Fqfirst at h
  split at h
  · rename_i n l a b c v
    cases h
    try rw [some_f] at hb
    try simp only [WFL, WF, List.mem_cons, List.not_mem_nil, or_false, forall_eq, Col.len, and_true, true_and] at wf
    rw [vc_qfirst]
    subst wf
    have h := first_iff l v
    simp only [bite_and, bite_or]
    simp [asrt_iff, br_iff, ieq_t, ieq_f, ine_t, ine_f, ilt_t, ilt_f, ile_t, ile_f, igt_t, igt_f, ige_t, ige_f, nlt_t, nlt_f, nle_t, nle_f, neq_t, neq_f, beq2_t, beq2_f, bnot_t, bnot_f, band_t, band_f, bite_t, bite_f, bimp_t, bimp_f, iadd_e, isub_e, imul_e, ofN_e, nOf_e, nAdd_e, nDiff_e, room_e, lenI_e, gI_e, gB_e, imin_e, imax_e, cat_e, pt_e, put_e, some_f]
    rw [Bool.eq_iff_iff, h]
    cases l <;> simp [asrt_iff, br_iff, ieq_t, ieq_f, ine_t, ine_f, ilt_t, ilt_f, ile_t, ile_f, igt_t, igt_f, ige_t, ige_f, nlt_t, nlt_f, nle_t, nle_f, neq_t, neq_f, beq2_t, beq2_f, bnot_t, bnot_f, band_t, band_f, bite_t, bite_f, bimp_t, bimp_f, iadd_e, isub_e, imul_e, ofN_e, nOf_e, nAdd_e, nDiff_e, room_e, lenI_e, gI_e, gB_e, imin_e, imax_e, cat_e, pt_e, put_e, some_f]
  · cases h


def Fqends : Pure1 := fun
  | [.agg [.sl n [.int .i64 l], .int .i64 a, .int .i64 b, .int .i64 c], .agg [.int .i64 e0, .int .i64 e1, .int .i64 e2, .int .i64 e3, .int .i64 e4], .int .i64 u] => some (none, .bool (endsB c e1 e3 u))
  | _ => none

theorem vc_qends (n : Nat) (l : List Int) (a b c e0 e1 e2 e3 e4 u : Int) (r : AV) : VC Try.prog (tabS tab0) noL false 54 [.agg [.sl n [.int .i64 l], .int .i64 a, .int .i64 b, .int .i64 c], .agg [.int .i64 e0, .int .i64 e1, .int .i64 e2, .int .i64 e3, .int .i64 e4], .int .i64 u] r = (
  some
      (AV.bool
        (bite (bite (bite (ieq e3 6) (ieq c 1) false) true (bite (ieq e3 7) (ieq c 2) false)) true
          (bite (ieq e3 5) (ieq e1 u) false))) =
    some r) := by kernel_rfl

theorem ok_qends : PureOK Try.prog 54 Fqends := by
  refine tab_plain mixed (l := tab0) ok_tab0 false (by kernel_rfl) fun xs b r h hb wf => ?_
  unfold Fqends at h
  split at h
  · rename_i n l a b c e0 e1 e2 e3 e4 u
    cases h
    try rw [some_f] at hb
    try simp only [WFL, WF, List.mem_cons, List.not_mem_nil, or_false, forall_eq, Col.len, and_true, true_and] at wf
    rw [vc_qends]
    simp only [bite_and, bite_or]
    simp [asrt_iff, br_iff, ieq_t, ieq_f, ine_t, ine_f, ilt_t, ilt_f, ile_t, ile_f, igt_t, igt_f, ige_t, ige_f, nlt_t, nlt_f, nle_t, nle_f, neq_t, neq_f, beq2_t, beq2_f, bnot_t, bnot_f, band_t, band_f, bite_t, bite_f, bimp_t, bimp_f, iadd_e, isub_e, imul_e, ofN_e, nOf_e, nAdd_e, nDiff_e, room_e, lenI_e, gI_e, gB_e, imin_e, imax_e, cat_e, pt_e, put_e, some_f, endsB]
    rw [Bool.eq_iff_iff]
    simp [asrt_iff, br_iff, ieq_t, ieq_f, ine_t, ine_f, ilt_t, ilt_f, ile_t, ile_f, igt_t, igt_f, ige_t, ige_f, nlt_t, nlt_f, nle_t, nle_f, neq_t, neq_f, beq2_t, beq2_f, bnot_t, bnot_f, band_t, band_f, bite_t, bite_f, bimp_t, bimp_f, iadd_e, isub_e, imul_e, ofN_e, nOf_e, nAdd_e, nDiff_e, room_e, lenI_e, gI_e, gB_e, imin_e, imax_e, cat_e, pt_e, put_e, some_f]
    grind
  · cases h


def Fqopen : Pure1 := fun
  | [.agg [.sl n [.int .i64 l], .int .i64 a, .int .i64 b, .int .i64 c]] => some (none, .bool (ieq c 0))
  | _ => none

theorem vc_qopen (n : Nat) (l : List Int) (a b c : Int) (r : AV) : VC Try.prog (tabS tab0) noL false 51 [.agg [.sl n [.int .i64 l], .int .i64 a, .int .i64 b, .int .i64 c]] r = (
some (AV.bool (ieq c 0)) = some r) := by kernel_rfl

theorem ok_qopen : PureOK Try.prog 51 Fqopen := by
  refine tab_plain mixed (l := tab0) ok_tab0 false (by kernel_rfl) fun xs b r h hb wf => ?_
  unfold Fqopen at h
  split at h
  · rename_i n l a b c
    cases h
    try rw [some_f] at hb
    try simp only [WFL, WF, List.mem_cons, List.not_mem_nil, or_false, forall_eq, Col.len, and_true, true_and] at wf
    rw [vc_qopen]
  · cases h


def Fqfull : Pure1 := fun
  | [.agg [.sl n [.int .i64 l], .int .i64 a, .int .i64 b, .int .i64 c]] => some (none, .bool (ige (ofN n) a))
  | _ => none

theorem vc_qfull (n : Nat) (l : List Int) (a b c : Int) (r : AV) : VC Try.prog (tabS tab0) noL false 52 [.agg [.sl n [.int .i64 l], .int .i64 a, .int .i64 b, .int .i64 c]] r = (
some (AV.bool (ige (ofN n) a)) = some r) := by kernel_rfl

theorem ok_qfull : PureOK Try.prog 52 Fqfull := by
  refine tab_plain mixed (l := tab0) ok_tab0 false (by kernel_rfl) fun xs b r h hb wf => ?_
  unfold Fqfull at h
  split at h
  · rename_i n l a b c
    cases h
    try rw [some_f] at hb
    try simp only [WFL, WF, List.mem_cons, List.not_mem_nil, or_false, forall_eq, Col.len, and_true, true_and] at wf
    rw [vc_qfull]
  · cases h


def tabR : List (FuncId × Pure1) := [(51, Fqopen), (52, Fqfull), (53, Fqbehind), (50, Fqrest), (49, Fqfirst), (54, Fqends)]

theorem ok_tabR : ∀ p ∈ tabR, PureOK Try.prog p.1 p.2 := by
  intro p hp
  simp only [tabR, List.mem_cons, List.not_mem_nil, or_false] at hp
  rcases hp with rfl | rfl | rfl | rfl | rfl | rfl
  · exact ok_qopen
  · exact ok_qfull
  · exact ok_qbehind
  · exact ok_qrest
  · exact ok_qfirst
  · exact ok_qends


def Fqevict : Pure1 := fun
  | [.agg [.sl n [.int .i64 l], .int .i64 a, .int .i64 b, .int .i64 c], .agg [.int .i64 e0, .int .i64 e1, .int .i64 e2, .int .i64 e3, .int .i64 e4]] => some (some (nle n room), .tup [.agg [.sl (lenI (evictV l e4)) [.int .i64 (evictV l e4)], .int .i64 a, .int .i64 b, .int .i64 c], .bool (evictB l a b c e3 e4)])
  | _ => none

theorem vc_qevict (n : Nat) (l : List Int) (a b c e0 e1 e2 e3 e4 : Int) (r : AV) : VC Try.prog (tabS tabR) noL false 33 [.agg [.sl n [.int .i64 l], .int .i64 a, .int .i64 b, .int .i64 c], .agg [.int .i64 e0, .int .i64 e1, .int .i64 e2, .int .i64 e3, .int .i64 e4]] r = (
  br (bnot (firstB l e4))
    (some
        (AV.tup
          [AV.agg [AV.sl n [Col.int IntKind.i64 l], AV.int IntKind.i64 a, AV.int IntKind.i64 b, AV.int IntKind.i64 c],
            AV.bool false]) =
      some r)
    (asrt (band (nle n 1073741824) (nlt 0 n))
      (some
          (AV.tup
            [AV.agg
                [AV.sl (lenI (tlI l)) [Col.int IntKind.i64 (tlI l)], AV.int IntKind.i64 a, AV.int IntKind.i64 b,
                  AV.int IntKind.i64 c],
              AV.bool (bite (bite (bite (ieq e3 1) (ieq c 0) false) (ige (ofN n) a) false) (ieq b 2) false)]) =
        some r))) := by kernel_rfl

theorem ok_qevict : PureOK Try.prog 33 Fqevict := by
  refine tab_plain mixed (l := tabR) ok_tabR false (by kernel_rfl) fun xs b r h hb wf => ?_
  unfold Fqevict at h
  split at h
  · rename_i n l a b c e0 e1 e2 e3 e4
    cases h
    try rw [some_f] at hb
    try simp only [WFL, WF, List.mem_cons, List.not_mem_nil, or_false, forall_eq, Col.len, and_true, true_and] at wf
    rw [vc_qevict]
    subst wf
    simp only [bite_and, bite_or]
    simp [asrt_iff, br_iff, ieq_t, ieq_f, ine_t, ine_f, ilt_t, ilt_f, ile_t, ile_f, igt_t, igt_f, ige_t, ige_f, nlt_t, nlt_f, nle_t, nle_f, neq_t, neq_f, beq2_t, beq2_f, bnot_t, bnot_f, band_t, band_f, bite_t, bite_f, bimp_t, bimp_f, iadd_e, isub_e, imul_e, ofN_e, nOf_e, nAdd_e, nDiff_e, room_e, lenI_e, gI_e, gB_e, imin_e, imax_e, cat_e, pt_e, put_e, some_f] at hb ⊢
    have h1 := first_head l e4
    have h2 := first_iff l e4
    cases hf : firstB l e4 with
    | false =>
      have h3 : ¬ l.head? = some e4 := fun h => by rw [h1.2 h] at hf; cases hf
      simp [evictV, evictB, h3]
    | true =>
      have h3 := h1.1 hf
      have h4 := (h2.1 hf).1
      simp [evictV, evictB, h3, h4, hb, tlI]
      rw [Bool.eq_iff_iff]
      simp [asrt_iff, br_iff, ieq_t, ieq_f, ine_t, ine_f, ilt_t, ilt_f, ile_t, ile_f, igt_t, igt_f, ige_t, ige_f, nlt_t, nlt_f, nle_t, nle_f, neq_t, neq_f, beq2_t, beq2_f, bnot_t, bnot_f, band_t, band_f, bite_t, bite_f, bimp_t, bimp_f, iadd_e, isub_e, imul_e, ofN_e, nOf_e, nAdd_e, nDiff_e, room_e, lenI_e, gI_e, gB_e, imin_e, imax_e, cat_e, pt_e, put_e, some_f, and_assoc]
  · cases h


def Fqdrain : Pure1 := fun
  | [.agg [.sl n [.int .i64 l], .int .i64 a, .int .i64 b, .int .i64 c], .agg [.int .i64 e0, .int .i64 e1, .int .i64 e2, .int .i64 e3, .int .i64 e4]] => some (none, .tup [.agg [.sl n [.int .i64 l], .int .i64 a, .int .i64 b, .int .i64 (drainM c)], .bool (ieq e3 1)])
  | _ => none

theorem vc_qdrain (n : Nat) (l : List Int) (a b c e0 e1 e2 e3 e4 : Int) (r : AV) : VC Try.prog (tabS tabR) noL false 34 [.agg [.sl n [.int .i64 l], .int .i64 a, .int .i64 b, .int .i64 c], .agg [.int .i64 e0, .int .i64 e1, .int .i64 e2, .int .i64 e3, .int .i64 e4]] r = (
  br (ieq c 0)
    (some
        (AV.tup
          [AV.agg [AV.sl n [Col.int IntKind.i64 l], AV.int IntKind.i64 a, AV.int IntKind.i64 b, AV.int IntKind.i64 1],
            AV.bool (ieq e3 1)]) =
      some r)
    (some
        (AV.tup
          [AV.agg [AV.sl n [Col.int IntKind.i64 l], AV.int IntKind.i64 a, AV.int IntKind.i64 b, AV.int IntKind.i64 c],
            AV.bool (ieq e3 1)]) =
      some r)) := by kernel_rfl

theorem ok_qdrain : PureOK Try.prog 34 Fqdrain := by
  refine tab_plain mixed (l := tabR) ok_tabR false (by kernel_rfl) fun xs b r h hb wf => ?_
  unfold Fqdrain at h
  split at h
  · rename_i n l a b c e0 e1 e2 e3 e4
    cases h
    try rw [some_f] at hb
    try simp only [WFL, WF, List.mem_cons, List.not_mem_nil, or_false, forall_eq, Col.len, and_true, true_and] at wf
    rw [vc_qdrain]
    simp [asrt_iff, br_iff, ieq_t, ieq_f, ine_t, ine_f, ilt_t, ilt_f, ile_t, ile_f, igt_t, igt_f, ige_t, ige_f, nlt_t, nlt_f, nle_t, nle_f, neq_t, neq_f, beq2_t, beq2_f, bnot_t, bnot_f, band_t, band_f, bite_t, bite_f, bimp_t, bimp_f, iadd_e, isub_e, imul_e, ofN_e, nOf_e, nAdd_e, nDiff_e, room_e, lenI_e, gI_e, gB_e, imin_e, imax_e, cat_e, pt_e, put_e, some_f, drainM]
    try grind
  · cases h


def Fqhalt : Pure1 := fun
  | [.agg [.sl n [.int .i64 l], .int .i64 a, .int .i64 b, .int .i64 c], .agg [.int .i64 e0, .int .i64 e1, .int .i64 e2, .int .i64 e3, .int .i64 e4]] => some (none, .tup [.agg [.sl n [.int .i64 l], .int .i64 a, .int .i64 b, .int .i64 2], .bool (ieq e3 1)])
  | _ => none

theorem vc_qhalt (n : Nat) (l : List Int) (a b c e0 e1 e2 e3 e4 : Int) (r : AV) : VC Try.prog (tabS tabR) noL false 35 [.agg [.sl n [.int .i64 l], .int .i64 a, .int .i64 b, .int .i64 c], .agg [.int .i64 e0, .int .i64 e1, .int .i64 e2, .int .i64 e3, .int .i64 e4]] r = (
  some
      (AV.tup
        [AV.agg [AV.sl n [Col.int IntKind.i64 l], AV.int IntKind.i64 a, AV.int IntKind.i64 b, AV.int IntKind.i64 2],
          AV.bool (ieq e3 1)]) =
    some r) := by kernel_rfl

theorem ok_qhalt : PureOK Try.prog 35 Fqhalt := by
  refine tab_plain mixed (l := tabR) ok_tabR false (by kernel_rfl) fun xs b r h hb wf => ?_
  unfold Fqhalt at h
  split at h
  · rename_i n l a b c e0 e1 e2 e3 e4
    cases h
    try rw [some_f] at hb
    try simp only [WFL, WF, List.mem_cons, List.not_mem_nil, or_false, forall_eq, Col.len, and_true, true_and] at wf
    rw [vc_qhalt]
  · cases h


def Fqsend : Pure1 := fun
  | [.agg [.sl n [.int .i64 l], .int .i64 a, .int .i64 b, .int .i64 c], .agg [.int .i64 e0, .int .i64 e1, .int .i64 e2, .int .i64 e3, .int .i64 e4]] => some (some (nlt n room), .tup [.agg [.sl (lenI (sendV l e2 e3)) [.int .i64 (sendV l e2 e3)], .int .i64 a, .int .i64 b, .int .i64 c], .bool (sendB l a b c e1 e2 e3 e4)])
  | _ => none

theorem vc_qsend (n : Nat) (l : List Int) (a b c e0 e1 e2 e3 e4 : Int) (r : AV) : VC Try.prog (tabS tabR) noL false 36 [.agg [.sl n [.int .i64 l], .int .i64 a, .int .i64 b, .int .i64 c], .agg [.int .i64 e0, .int .i64 e1, .int .i64 e2, .int .i64 e3, .int .i64 e4]] r = (
  br (ieq e3 1)
    (asrt (nlt n 1073741824)
      (some
          (AV.tup
            [AV.agg
                [AV.sl (nAdd n 1) [Col.int IntKind.i64 (cat l [e2])], AV.int IntKind.i64 a, AV.int IntKind.i64 b,
                  AV.int IntKind.i64 c],
              AV.bool (bite (ieq c 0) (bnot (ige (ofN n) a)) false)]) =
        some r))
    (br (ieq e3 2)
      (some
          (AV.tup
            [AV.agg [AV.sl n [Col.int IntKind.i64 l], AV.int IntKind.i64 a, AV.int IntKind.i64 b, AV.int IntKind.i64 c],
              AV.bool (bite (bite (bite (ieq e1 2) (ieq c 0) false) (ige (ofN n) a) false) (ieq b 0) false)]) =
        some r)
      (br (ieq e3 3)
        (some
            (AV.tup
              [AV.agg
                  [AV.sl n [Col.int IntKind.i64 l], AV.int IntKind.i64 a, AV.int IntKind.i64 b, AV.int IntKind.i64 c],
                AV.bool (bite (bite (ieq c 0) (ige (ofN n) a) false) (ieq b 1) false)]) =
          some r)
        (some
            (AV.tup
              [AV.agg
                  [AV.sl n [Col.int IntKind.i64 l], AV.int IntKind.i64 a, AV.int IntKind.i64 b, AV.int IntKind.i64 c],
                AV.bool (endsB c e1 e3 3)]) =
          some r)))) := by kernel_rfl

theorem ok_qsend : PureOK Try.prog 36 Fqsend := by
  refine tab_plain mixed (l := tabR) ok_tabR false (by kernel_rfl) fun xs b r h hb wf => ?_
  unfold Fqsend at h
  split at h
  · rename_i n l a b c e0 e1 e2 e3 e4
    cases h
    try rw [some_f] at hb
    try simp only [WFL, WF, List.mem_cons, List.not_mem_nil, or_false, forall_eq, Col.len, and_true, true_and] at wf
    rw [vc_qsend]
    subst wf
    simp only [bite_and, bite_or]
    simp [asrt_iff, br_iff, ieq_t, ieq_f, ine_t, ine_f, ilt_t, ilt_f, ile_t, ile_f, igt_t, igt_f, ige_t, ige_f, nlt_t, nlt_f, nle_t, nle_f, neq_t, neq_f, beq2_t, beq2_f, bnot_t, bnot_f, band_t, band_f, bite_t, bite_f, bimp_t, bimp_f, iadd_e, isub_e, imul_e, ofN_e, nOf_e, nAdd_e, nDiff_e, room_e, lenI_e, gI_e, gB_e, imin_e, imax_e, cat_e, pt_e, put_e, some_f] at hb ⊢
    refine ⟨fun h => ⟨hb, ⟨by simp [sendV, h], by simp [sendV, h]⟩, ?_⟩, fun h => ⟨fun h2 => ⟨⟨by simp [sendV, h], by simp [sendV, h]⟩, ?_⟩, fun h2 => ⟨fun h3 => ⟨⟨by simp [sendV, h], by simp [sendV, h]⟩, ?_⟩, fun h3 => ⟨⟨by simp [sendV, h], by simp [sendV, h]⟩, ?_⟩⟩⟩⟩
    · rw [Bool.eq_iff_iff]; simp [asrt_iff, br_iff, ieq_t, ieq_f, ine_t, ine_f, ilt_t, ilt_f, ile_t, ile_f, igt_t, igt_f, ige_t, ige_f, nlt_t, nlt_f, nle_t, nle_f, neq_t, neq_f, beq2_t, beq2_f, bnot_t, bnot_f, band_t, band_f, bite_t, bite_f, bimp_t, bimp_f, iadd_e, isub_e, imul_e, ofN_e, nOf_e, nAdd_e, nDiff_e, room_e, lenI_e, gI_e, gB_e, imin_e, imax_e, cat_e, pt_e, put_e, some_f, sendB, h]
    · rw [Bool.eq_iff_iff]; simp [asrt_iff, br_iff, ieq_t, ieq_f, ine_t, ine_f, ilt_t, ilt_f, ile_t, ile_f, igt_t, igt_f, ige_t, ige_f, nlt_t, nlt_f, nle_t, nle_f, neq_t, neq_f, beq2_t, beq2_f, bnot_t, bnot_f, band_t, band_f, bite_t, bite_f, bimp_t, bimp_f, iadd_e, isub_e, imul_e, ofN_e, nOf_e, nAdd_e, nDiff_e, room_e, lenI_e, gI_e, gB_e, imin_e, imax_e, cat_e, pt_e, put_e, some_f, sendB, h, h2, and_assoc]
    · rw [Bool.eq_iff_iff]; simp [asrt_iff, br_iff, ieq_t, ieq_f, ine_t, ine_f, ilt_t, ilt_f, ile_t, ile_f, igt_t, igt_f, ige_t, ige_f, nlt_t, nlt_f, nle_t, nle_f, neq_t, neq_f, beq2_t, beq2_f, bnot_t, bnot_f, band_t, band_f, bite_t, bite_f, bimp_t, bimp_f, iadd_e, isub_e, imul_e, ofN_e, nOf_e, nAdd_e, nDiff_e, room_e, lenI_e, gI_e, gB_e, imin_e, imax_e, cat_e, pt_e, put_e, some_f, sendB, h, h2, h3, and_assoc]
    · rw [Bool.eq_iff_iff]; simp [asrt_iff, br_iff, ieq_t, ieq_f, ine_t, ine_f, ilt_t, ilt_f, ile_t, ile_f, igt_t, igt_f, ige_t, ige_f, nlt_t, nlt_f, nle_t, nle_f, neq_t, neq_f, beq2_t, beq2_f, bnot_t, bnot_f, band_t, band_f, bite_t, bite_f, bimp_t, bimp_f, iadd_e, isub_e, imul_e, ofN_e, nOf_e, nAdd_e, nDiff_e, room_e, lenI_e, gI_e, gB_e, imin_e, imax_e, cat_e, pt_e, put_e, some_f, sendB, endsB, h, h2, h3, and_assoc]
  · cases h


def Fqrecv : Pure1 := fun
  | [.agg [.sl n [.int .i64 l], .int .i64 a, .int .i64 b, .int .i64 c], .agg [.int .i64 e0, .int .i64 e1, .int .i64 e2, .int .i64 e3, .int .i64 e4]] => some (some (nle n room), .tup [.agg [.sl (lenI (recvV l e3 e4)) [.int .i64 (recvV l e3 e4)], .int .i64 a, .int .i64 b, .int .i64 c], .bool (recvB l a b c e1 e2 e3 e4)])
  | _ => none

theorem vc_qrecv (n : Nat) (l : List Int) (a b c e0 e1 e2 e3 e4 : Int) (r : AV) : VC Try.prog (tabS tabR) noL false 37 [.agg [.sl n [.int .i64 l], .int .i64 a, .int .i64 b, .int .i64 c], .agg [.int .i64 e0, .int .i64 e1, .int .i64 e2, .int .i64 e3, .int .i64 e4]] r = (
  br (ieq e3 1)
    (br (bnot (firstB l e4))
      (some
          (AV.tup
            [AV.agg [AV.sl n [Col.int IntKind.i64 l], AV.int IntKind.i64 a, AV.int IntKind.i64 b, AV.int IntKind.i64 c],
              AV.bool false]) =
        some r)
      (asrt (band (nle n 1073741824) (nlt 0 n))
        (some
            (AV.tup
              [AV.agg
                  [AV.sl (lenI (tlI l)) [Col.int IntKind.i64 (tlI l)], AV.int IntKind.i64 a, AV.int IntKind.i64 b,
                    AV.int IntKind.i64 c],
                AV.bool (ine c 2)]) =
          some r)))
    (br (ieq e3 4)
      (some
          (AV.tup
            [AV.agg [AV.sl n [Col.int IntKind.i64 l], AV.int IntKind.i64 a, AV.int IntKind.i64 b, AV.int IntKind.i64 c],
              AV.bool (bite (bite (ieq e1 5) (ieq c 0) false) (ieq (ofN n) 0) false)]) =
        some r)
      (br (bite (ieq e3 6) (igt (ofN n) 0) false)
        (some
            (AV.tup
              [AV.agg
                  [AV.sl n [Col.int IntKind.i64 l], AV.int IntKind.i64 a, AV.int IntKind.i64 b, AV.int IntKind.i64 c],
                AV.bool false]) =
          some r)
        (some
            (AV.tup
              [AV.agg
                  [AV.sl n [Col.int IntKind.i64 l], AV.int IntKind.i64 a, AV.int IntKind.i64 b, AV.int IntKind.i64 c],
                AV.bool (endsB c e1 e3 6)]) =
          some r)))) := by kernel_rfl

theorem ok_qrecv : PureOK Try.prog 37 Fqrecv := by
  refine tab_plain mixed (l := tabR) ok_tabR false (by kernel_rfl) fun xs b r h hb wf => ?_
  unfold Fqrecv at h
  split at h
  · rename_i n l a b c e0 e1 e2 e3 e4
    cases h
    try rw [some_f] at hb
    try simp only [WFL, WF, List.mem_cons, List.not_mem_nil, or_false, forall_eq, Col.len, and_true, true_and] at wf
    rw [vc_qrecv]
    subst wf
    simp only [bite_and, bite_or]
    simp [asrt_iff, br_iff, ieq_t, ieq_f, ine_t, ine_f, ilt_t, ilt_f, ile_t, ile_f, igt_t, igt_f, ige_t, ige_f, nlt_t, nlt_f, nle_t, nle_f, neq_t, neq_f, beq2_t, beq2_f, bnot_t, bnot_f, band_t, band_f, bite_t, bite_f, bimp_t, bimp_f, iadd_e, isub_e, imul_e, ofN_e, nOf_e, nAdd_e, nDiff_e, room_e, lenI_e, gI_e, gB_e, imin_e, imax_e, cat_e, pt_e, put_e, some_f] at hb ⊢
    have h1 := first_head l e4
    have h2 := first_iff l e4
    refine ⟨fun h => ⟨fun hf => ?_, fun hf => ?_⟩, fun h => ⟨fun h4 => ⟨⟨by simp [recvV, h], by simp [recvV, h]⟩, ?_⟩, fun h4 => ⟨fun h6 hl => ⟨⟨by simp [recvV, h], by simp [recvV, h]⟩, ?_⟩, fun h6 => ⟨⟨by simp [recvV, h], by simp [recvV, h]⟩, ?_⟩⟩⟩⟩
    · have h3 : ¬ l.head? = some e4 := fun h => by rw [h1.2 h] at hf; cases hf
      simp [recvV, recvB, h, h3]
    · have h3 := h1.1 hf
      have h4 := (h2.1 hf).1
      simp [recvV, recvB, h, h3, h4, hb, tlI]
      rw [Bool.eq_iff_iff]
      simp [asrt_iff, br_iff, ieq_t, ieq_f, ine_t, ine_f, ilt_t, ilt_f, ile_t, ile_f, igt_t, igt_f, ige_t, ige_f, nlt_t, nlt_f, nle_t, nle_f, neq_t, neq_f, beq2_t, beq2_f, bnot_t, bnot_f, band_t, band_f, bite_t, bite_f, bimp_t, bimp_f, iadd_e, isub_e, imul_e, ofN_e, nOf_e, nAdd_e, nDiff_e, room_e, lenI_e, gI_e, gB_e, imin_e, imax_e, cat_e, pt_e, put_e, some_f]
    · rw [Bool.eq_iff_iff]; simp [asrt_iff, br_iff, ieq_t, ieq_f, ine_t, ine_f, ilt_t, ilt_f, ile_t, ile_f, igt_t, igt_f, ige_t, ige_f, nlt_t, nlt_f, nle_t, nle_f, neq_t, neq_f, beq2_t, beq2_f, bnot_t, bnot_f, band_t, band_f, bite_t, bite_f, bimp_t, bimp_f, iadd_e, isub_e, imul_e, ofN_e, nOf_e, nAdd_e, nDiff_e, room_e, lenI_e, gI_e, gB_e, imin_e, imax_e, cat_e, pt_e, put_e, some_f, recvB, h, h4]; grind
    · subst h6
      have hl' : ¬ l = [] := by rintro rfl; simp at hl
      simp [recvB, hl']
    · rw [Bool.eq_iff_iff]
      simp [asrt_iff, br_iff, ieq_t, ieq_f, ine_t, ine_f, ilt_t, ilt_f, ile_t, ile_f, igt_t, igt_f, ige_t, ige_f, nlt_t, nlt_f, nle_t, nle_f, neq_t, neq_f, beq2_t, beq2_f, bnot_t, bnot_f, band_t, band_f, bite_t, bite_f, bimp_t, bimp_f, iadd_e, isub_e, imul_e, ofN_e, nOf_e, nAdd_e, nDiff_e, room_e, lenI_e, gI_e, gB_e, imin_e, imax_e, cat_e, pt_e, put_e, some_f, recvB, endsB, h, h4]
      grind
  · cases h


def tabF0 : List (FuncId × Pure1) := [(38, Fqown), (33, Fqevict), (34, Fqdrain), (35, Fqhalt), (36, Fqsend), (37, Fqrecv), (25, Fints)]

theorem ok_tabF0 : ∀ p ∈ tabF0, PureOK Try.prog p.1 p.2 := by
  intro p hp
  simp only [tabF0, List.mem_cons, List.not_mem_nil, or_false] at hp
  rcases hp with rfl | rfl | rfl | rfl | rfl | rfl | rfl
  · exact ok_qown
  · exact ok_qevict
  · exact ok_qdrain
  · exact ok_qhalt
  · exact ok_qsend
  · exact ok_qrecv
  · exact ok_ints


end Go.Own
