/- Queues, for the law of who closes: rows, Do (fifo's own texts, in one, with other names of tables). -/
import Derived.Test.YtdoapbopldhakaaCloLaw
namespace Go.Own
open Go Go.Proofs
set_option maxRecDepth 100000
set_option linter.unusedVariables false
set_option linter.unusedSimpArgs false

/-- Of who sends. -/
def sendB (l : List Int) (a b c e1 e2 e3 e4 : Int) : Bool :=
  if e3 = 1 then decide (c = 0 ∧ ¬ a ≤ l.length)
  else decide ((e3 = 2 ∧ e1 = 2 ∧ c = 0 ∧ a ≤ l.length ∧ b = 0) ∨ (e3 = 3 ∧ c = 0 ∧ a ≤ l.length ∧ b = 1) ∨ (e3 ≠ 2 ∧ e3 ≠ 3 ∧ ((e3 = 6 ∧ c = 1) ∨ (e3 = 7 ∧ c = 2) ∨ (e3 = 5 ∧ e1 = 3))))

def sendV (l : List Int) (e2 e3 : Int) : List Int := if e3 = 1 then l ++ [e2] else l

def firstB (l : List Int) (v : Int) : Bool := l.head? == some v

def recvB (l : List Int) (a b c e1 e2 e3 e4 : Int) : Bool :=
  if e3 = 1 then decide (l.head? = some e4 ∧ c ≠ 2)
  else decide ((e3 = 4 ∧ e1 = 5 ∧ c = 0 ∧ l.length = 0) ∨ (e3 = 6 ∧ c = 1 ∧ l.length = 0) ∨ (e3 = 7 ∧ c = 2) ∨ (e3 = 5 ∧ e1 = 6))

def recvV (l : List Int) (e3 e4 : Int) : List Int := if e3 = 1 ∧ l.head? = some e4 then l.tail else l

def evictB (l : List Int) (a b c e3 e4 : Int) : Bool := decide (l.head? = some e4 ∧ e3 = 1 ∧ c = 0 ∧ a ≤ l.length ∧ b = 2)

def evictV (l : List Int) (e4 : Int) : List Int := if l.head? = some e4 then l.tail else l

def drainM (c : Int) : Int := if c = 0 then 1 else c

def endsB (c e1 e3 u : Int) : Bool := decide ((e3 = 6 ∧ c = 1) ∨ (e3 = 7 ∧ c = 2) ∨ (e3 = 5 ∧ e1 = u))

def tlI (l : List Int) : List Int := l.tail

/-- What may be told of a queue. -/
def mayS (l : List Int) (a b c e1 e2 e3 e4 : Int) : Bool :=
  if e1 = 9 then evictB l a b c e3 e4 else if e1 = 7 then ieq e3 1 else if e1 = 8 then ieq e3 1
  else if 1 ≤ e1 ∧ e1 ≤ 3 then sendB l a b c e1 e2 e3 e4 else if 4 ≤ e1 ∧ e1 ≤ 6 then recvB l a b c e1 e2 e3 e4 else false

/-- What is made of its values. -/
def valS (l : List Int) (a b c e1 e2 e3 e4 : Int) : List Int :=
  if mayS l a b c e1 e2 e3 e4 then (if e1 = 9 then evictV l e4 else if 1 ≤ e1 ∧ e1 ≤ 3 then sendV l e2 e3 else if 4 ≤ e1 ∧ e1 ≤ 6 then recvV l e3 e4 else l) else l

def modeS (l : List Int) (a b c e1 e2 e3 e4 : Int) : Int :=
  if mayS l a b c e1 e2 e3 e4 then (if e1 = 7 then drainM c else if e1 = 8 then 2 else c) else c


theorem nOf_ofN (n : Nat) : nOf (ofN n) = n := Int.toNat_natCast n
theorem iadd1 {n : Nat} (h : n ≤ 1073741824) : iadd .i64 (ofN n) 1 = ofN (n + 1) := by
  rw [iadd_e, ofN_e, ofN_e, wr (by omega) (by omega)]; omega
theorem isub1 {n : Nat} (h : n ≤ 1073741824) (h0 : 0 < n) : isub .i64 (ofN n) 1 = ofN (n - 1) := by
  rw [isub_e, ofN_e, ofN_e, wr (by omega) (by omega)]; omega
theorem nDiff1 (n : Nat) : nDiff (ofN n) 1 = n - 1 := by rw [nDiff_e, ofN_e]; omega
theorem own_list (l : List Int) : ovr (rI l.length) 0 (pt l 0 (nMin l.length l.length)) = l := by
  simp [ovr, pt, nMin, rI]
theorem behind_list (l : List Int) (v : Int) : put (ovr (rI (l.length + 1)) 0 (pt l 0 (nMin l.length (l.length + 1)))) l.length v = l ++ [v] := by
  have h : nMin l.length (l.length + 1) = l.length := by simp [nMin]
  rw [h]
  simp [ovr, pt, put, rI, List.drop_replicate]
theorem rest_list (l : List Int) : ovr (rI (l.length - 1)) 0 (pt (pt l 1 (l.length - 1)) 0 (nMin (l.length - 1) (l.length - 1))) = l.tail := by
  cases l with
  | nil => simp [ovr, pt, rI]
  | cons x l => simp [ovr, pt, nMin, rI]
theorem first_iff (l : List Int) (v : Int) : firstB l v = true ↔ 0 < l.length ∧ l[0]?.getD 0 = v := by
  cases l <;> simp [firstB]
theorem first_head (l : List Int) (v : Int) : firstB l v = true ↔ l.head? = some v := by simp [firstB]

def Fqown : Pure1 := fun
  | [.agg [.sl n [.int .i64 l], .int .i64 a, .int .i64 b, .int .i64 c]] => some (some (nle n room), .agg [.own 3 n [.int .i64 l], .int .i64 a, .int .i64 b, .int .i64 c])
  | _ => none

theorem vc_qown (n : Nat) (l : List Int) (a b c : Int) (r : AV) : VC Try.prog (tabS tab0) noL true 56 [.agg [.sl n [.int .i64 l], .int .i64 a, .int .i64 b, .int .i64 c]] r = (
  asrt (band (ile 0 (ofN n)) (band (ile (ofN n) 1073741824) (ieq (ofN n) (ofN n))))
    (some
        (AV.agg
          [AV.own 3 (nOf (ofN n)) [Col.int IntKind.i64 (ovr (rI (nOf (ofN n))) 0 (pt l 0 (nMin n (nOf (ofN n)))))],
            AV.int IntKind.i64 a, AV.int IntKind.i64 b, AV.int IntKind.i64 c]) =
      some r)) := by kernel_rfl

theorem ok_qown : PureOK Try.prog 56 Fqown := by
  refine tab_plain mixed (l := tab0) ok_tab0 true (by kernel_rfl) fun xs b r h hb wf => ?_
  unfold Fqown at h
  split at h
  · rename_i n l a b c
    cases h
    try rw [some_f] at hb
    try simp only [WFL, WF, List.mem_cons, List.not_mem_nil, or_false, forall_eq_or_imp, forall_eq, Col.len, and_true, true_and] at wf
    rw [vc_qown]
    subst wf
    have h := own_list l
    simp only [nOf_ofN, h] at hb ⊢
    simp [asrt_iff, br_iff, ieq_t, ieq_f, ine_t, ine_f, ilt_t, ilt_f, ile_t, ile_f, igt_t, igt_f, ige_t, ige_f, nlt_t, nlt_f, nle_t, nle_f, neq_t, neq_f, beq2_t, beq2_f, bnot_t, bnot_f, band_t, band_f, bite_t, bite_f, bimp_t, bimp_f, iadd_e, isub_e, imul_e, ofN_e, nOf_e, nAdd_e, nDiff_e, room_e, lenI_e, gI_e, gB_e, imin_e, imax_e, cat_e, pt_e, put_e, some_f] at hb ⊢
    omega
  · cases h


def Fqbehind : Pure1 := fun
  | [.agg [.sl n [.int .i64 l], .int .i64 a, .int .i64 b, .int .i64 c], .int .i64 v] => some (some (nlt n room), .agg [.own 3 (nAdd n 1) [.int .i64 (cat l [v])], .int .i64 a, .int .i64 b, .int .i64 c])
  | _ => none

theorem vc_qbehind (n : Nat) (l : List Int) (a b c v : Int) (r : AV) : VC Try.prog (tabS tab0) noL true 87 [.agg [.sl n [.int .i64 l], .int .i64 a, .int .i64 b, .int .i64 c], .int .i64 v] r = (
  asrt
    (band (ile 0 (iadd IntKind.i64 (ofN n) 1))
      (band (ile (iadd IntKind.i64 (ofN n) 1) 1073741824)
        (ieq (iadd IntKind.i64 (ofN n) 1) (iadd IntKind.i64 (ofN n) 1))))
    (asrt (band (ile 0 (ofN n)) (ilt (ofN n) (ofN (nOf (iadd IntKind.i64 (ofN n) 1)))))
      (asrt (nlt (nOf (ofN n)) (nOf (iadd IntKind.i64 (ofN n) 1)))
        (some
            (AV.agg
              [AV.own 3 (nOf (iadd IntKind.i64 (ofN n) 1))
                  [Col.int IntKind.i64
                      (put
                        (ovr (rI (nOf (iadd IntKind.i64 (ofN n) 1))) 0
                          (pt l 0 (nMin n (nOf (iadd IntKind.i64 (ofN n) 1)))))
                        (nOf (ofN n)) v)],
                AV.int IntKind.i64 a, AV.int IntKind.i64 b, AV.int IntKind.i64 c]) =
          some r)))) := by kernel_rfl

theorem ok_qbehind : PureOK Try.prog 87 Fqbehind := by
  refine tab_plain mixed (l := tab0) ok_tab0 true (by kernel_rfl) fun xs b r h hb wf => ?_
  unfold Fqbehind at h
  split at h
  · rename_i n l a b c v
    cases h
    try rw [some_f] at hb
    try simp only [WFL, WF, List.mem_cons, List.not_mem_nil, or_false, forall_eq_or_imp, forall_eq, Col.len, and_true, true_and] at wf
    rw [vc_qbehind]
    subst wf
    simp [asrt_iff, br_iff, ieq_t, ieq_f, ine_t, ine_f, ilt_t, ilt_f, ile_t, ile_f, igt_t, igt_f, ige_t, ige_f, nlt_t, nlt_f, nle_t, nle_f, neq_t, neq_f, beq2_t, beq2_f, bnot_t, bnot_f, band_t, band_f, bite_t, bite_f, bimp_t, bimp_f, iadd_e, isub_e, imul_e, ofN_e, nOf_e, nAdd_e, nDiff_e, room_e, lenI_e, gI_e, gB_e, imin_e, imax_e, cat_e, pt_e, put_e, some_f] at hb
    have h := behind_list l v
    rw [iadd1 (by omega)]
    simp only [nOf_ofN, h]
    all_goals (try simp [asrt_iff, br_iff, ieq_t, ieq_f, ine_t, ine_f, ilt_t, ilt_f, ile_t, ile_f, igt_t, igt_f, ige_t, ige_f, nlt_t, nlt_f, nle_t, nle_f, neq_t, neq_f, beq2_t, beq2_f, bnot_t, bnot_f, band_t, band_f, bite_t, bite_f, bimp_t, bimp_f, iadd_e, isub_e, imul_e, ofN_e, nOf_e, nAdd_e, nDiff_e, room_e, lenI_e, gI_e, gB_e, imin_e, imax_e, cat_e, pt_e, put_e, some_f])
    all_goals (try omega)
  · cases h


def Fqrest : Pure1 := fun
  | [.agg [.sl n [.int .i64 l], .int .i64 a, .int .i64 b, .int .i64 c]] => some (some (band (nle n room) (nlt 0 n)), .agg [.own 3 (lenI (tlI l)) [.int .i64 (tlI l)], .int .i64 a, .int .i64 b, .int .i64 c])
  | _ => none

theorem vc_qrest (n : Nat) (l : List Int) (a b c : Int) (r : AV) : VC Try.prog (tabS tab0) noL true 84 [.agg [.sl n [.int .i64 l], .int .i64 a, .int .i64 b, .int .i64 c]] r = (
  asrt
    (band (ile 0 (isub IntKind.i64 (ofN n) 1))
      (band (ile (isub IntKind.i64 (ofN n) 1) 1073741824)
        (ieq (isub IntKind.i64 (ofN n) 1) (isub IntKind.i64 (ofN n) 1))))
    (asrt (band (ile 1 (ofN n)) (ile (ofN n) (ofN n)))
      (some
          (AV.agg
            [AV.own 3 (nOf (isub IntKind.i64 (ofN n) 1))
                [Col.int IntKind.i64
                    (ovr (rI (nOf (isub IntKind.i64 (ofN n) 1))) 0
                      (pt (pt l 1 (nDiff (ofN n) 1)) 0 (nMin (nDiff (ofN n) 1) (nOf (isub IntKind.i64 (ofN n) 1)))))],
              AV.int IntKind.i64 a, AV.int IntKind.i64 b, AV.int IntKind.i64 c]) =
        some r))) := by kernel_rfl

theorem ok_qrest : PureOK Try.prog 84 Fqrest := by
  refine tab_plain mixed (l := tab0) ok_tab0 true (by kernel_rfl) fun xs b r h hb wf => ?_
  unfold Fqrest at h
  split at h
  · rename_i n l a b c
    cases h
    try rw [some_f] at hb
    try simp only [WFL, WF, List.mem_cons, List.not_mem_nil, or_false, forall_eq_or_imp, forall_eq, Col.len, and_true, true_and] at wf
    rw [vc_qrest]
    subst wf
    simp [asrt_iff, br_iff, ieq_t, ieq_f, ine_t, ine_f, ilt_t, ilt_f, ile_t, ile_f, igt_t, igt_f, ige_t, ige_f, nlt_t, nlt_f, nle_t, nle_f, neq_t, neq_f, beq2_t, beq2_f, bnot_t, bnot_f, band_t, band_f, bite_t, bite_f, bimp_t, bimp_f, iadd_e, isub_e, imul_e, ofN_e, nOf_e, nAdd_e, nDiff_e, room_e, lenI_e, gI_e, gB_e, imin_e, imax_e, cat_e, pt_e, put_e, some_f] at hb
    have h := rest_list l
    rw [isub1 (by omega) (by omega)]
    simp only [nOf_ofN, nDiff1, h]
    all_goals (try simp [asrt_iff, br_iff, ieq_t, ieq_f, ine_t, ine_f, ilt_t, ilt_f, ile_t, ile_f, igt_t, igt_f, ige_t, ige_f, nlt_t, nlt_f, nle_t, nle_f, neq_t, neq_f, beq2_t, beq2_f, bnot_t, bnot_f, band_t, band_f, bite_t, bite_f, bimp_t, bimp_f, iadd_e, isub_e, imul_e, ofN_e, nOf_e, nAdd_e, nDiff_e, room_e, lenI_e, gI_e, gB_e, imin_e, imax_e, cat_e, pt_e, put_e, some_f, tlI])
    all_goals (try omega)
  · cases h


def Fqfirst : Pure1 := fun
  | [.agg [.sl n [.int .i64 l], .int .i64 a, .int .i64 b, .int .i64 c], .int .i64 v] => some (none, .bool (firstB l v))
  | _ => none

theorem vc_qfirst (n : Nat) (l : List Int) (a b c v : Int) (r : AV) : VC Try.prog (tabS tab0) noL false 83 [.agg [.sl n [.int .i64 l], .int .i64 a, .int .i64 b, .int .i64 c], .int .i64 v] r = (
  asrt (bimp (igt (ofN n) 0) (ilt 0 (ofN n))) (some (AV.bool (bite (igt (ofN n) 0) (ieq (gI l 0) v) false)) = some r)) := by kernel_rfl

theorem ok_qfirst : PureOK Try.prog 83 Fqfirst := by
  refine tab_plain mixed (l := tab0) ok_tab0 false (by kernel_rfl) fun xs b r h hb wf => ?_
  unfold Fqfirst at h
  split at h
  · rename_i n l a b c v
    cases h
    try rw [some_f] at hb
    try simp only [WFL, WF, List.mem_cons, List.not_mem_nil, or_false, forall_eq_or_imp, forall_eq, Col.len, and_true, true_and] at wf
    rw [vc_qfirst]
    subst wf
    have h := first_iff l v
    simp only [bite_and, bite_or]
    simp [asrt_iff, br_iff, ieq_t, ieq_f, ine_t, ine_f, ilt_t, ilt_f, ile_t, ile_f, igt_t, igt_f, ige_t, ige_f, nlt_t, nlt_f, nle_t, nle_f, neq_t, neq_f, beq2_t, beq2_f, bnot_t, bnot_f, band_t, band_f, bite_t, bite_f, bimp_t, bimp_f, iadd_e, isub_e, imul_e, ofN_e, nOf_e, nAdd_e, nDiff_e, room_e, lenI_e, gI_e, gB_e, imin_e, imax_e, cat_e, pt_e, put_e, some_f]
    rw [Bool.eq_iff_iff, h]
    cases l <;> simp [asrt_iff, br_iff, ieq_t, ieq_f, ine_t, ine_f, ilt_t, ilt_f, ile_t, ile_f, igt_t, igt_f, ige_t, ige_f, nlt_t, nlt_f, nle_t, nle_f, neq_t, neq_f, beq2_t, beq2_f, bnot_t, bnot_f, band_t, band_f, bite_t, bite_f, bimp_t, bimp_f, iadd_e, isub_e, imul_e, ofN_e, nOf_e, nAdd_e, nDiff_e, room_e, lenI_e, gI_e, gB_e, imin_e, imax_e, cat_e, pt_e, put_e, some_f]
  · cases h


def Fqends : Pure1 := fun
  | [.agg [.sl n [.int .i64 l], .int .i64 a, .int .i64 b, .int .i64 c], .agg [.int .i64 e0, .int .i64 e1, .int .i64 e2, .int .i64 e3, .int .i64 e4], .int .i64 u] => some (none, .bool (endsB c e1 e3 u))
  | _ => none

theorem vc_qends (n : Nat) (l : List Int) (a b c e0 e1 e2 e3 e4 u : Int) (r : AV) : VC Try.prog (tabS tab0) noL false 88 [.agg [.sl n [.int .i64 l], .int .i64 a, .int .i64 b, .int .i64 c], .agg [.int .i64 e0, .int .i64 e1, .int .i64 e2, .int .i64 e3, .int .i64 e4], .int .i64 u] r = (
  some
      (AV.bool
        (bite (bite (bite (ieq e3 6) (ieq c 1) false) true (bite (ieq e3 7) (ieq c 2) false)) true
          (bite (ieq e3 5) (ieq e1 u) false))) =
    some r) := by kernel_rfl

theorem ok_qends : PureOK Try.prog 88 Fqends := by
  refine tab_plain mixed (l := tab0) ok_tab0 false (by kernel_rfl) fun xs b r h hb wf => ?_
  unfold Fqends at h
  split at h
  · rename_i n l a b c e0 e1 e2 e3 e4 u
    cases h
    try rw [some_f] at hb
    try simp only [WFL, WF, List.mem_cons, List.not_mem_nil, or_false, forall_eq_or_imp, forall_eq, Col.len, and_true, true_and] at wf
    rw [vc_qends]
    simp only [bite_and, bite_or]
    simp [asrt_iff, br_iff, ieq_t, ieq_f, ine_t, ine_f, ilt_t, ilt_f, ile_t, ile_f, igt_t, igt_f, ige_t, ige_f, nlt_t, nlt_f, nle_t, nle_f, neq_t, neq_f, beq2_t, beq2_f, bnot_t, bnot_f, band_t, band_f, bite_t, bite_f, bimp_t, bimp_f, iadd_e, isub_e, imul_e, ofN_e, nOf_e, nAdd_e, nDiff_e, room_e, lenI_e, gI_e, gB_e, imin_e, imax_e, cat_e, pt_e, put_e, some_f, endsB]
    rw [Bool.eq_iff_iff]
    simp [asrt_iff, br_iff, ieq_t, ieq_f, ine_t, ine_f, ilt_t, ilt_f, ile_t, ile_f, igt_t, igt_f, ige_t, ige_f, nlt_t, nlt_f, nle_t, nle_f, neq_t, neq_f, beq2_t, beq2_f, bnot_t, bnot_f, band_t, band_f, bite_t, bite_f, bimp_t, bimp_f, iadd_e, isub_e, imul_e, ofN_e, nOf_e, nAdd_e, nDiff_e, room_e, lenI_e, gI_e, gB_e, imin_e, imax_e, cat_e, pt_e, put_e, some_f]
    grind
  · cases h


def Fqopen : Pure1 := fun
  | [.agg [.sl n [.int .i64 l], .int .i64 a, .int .i64 b, .int .i64 c]] => some (none, .bool (ieq c 0))
  | _ => none

theorem vc_qopen (n : Nat) (l : List Int) (a b c : Int) (r : AV) : VC Try.prog (tabS tab0) noL false 85 [.agg [.sl n [.int .i64 l], .int .i64 a, .int .i64 b, .int .i64 c]] r = (
some (AV.bool (ieq c 0)) = some r) := by kernel_rfl

theorem ok_qopen : PureOK Try.prog 85 Fqopen := by
  refine tab_plain mixed (l := tab0) ok_tab0 false (by kernel_rfl) fun xs b r h hb wf => ?_
  unfold Fqopen at h
  split at h
  · rename_i n l a b c
    cases h
    try rw [some_f] at hb
    try simp only [WFL, WF, List.mem_cons, List.not_mem_nil, or_false, forall_eq_or_imp, forall_eq, Col.len, and_true, true_and] at wf
    rw [vc_qopen]
  · cases h


def Fqfull : Pure1 := fun
  | [.agg [.sl n [.int .i64 l], .int .i64 a, .int .i64 b, .int .i64 c]] => some (none, .bool (ige (ofN n) a))
  | _ => none

theorem vc_qfull (n : Nat) (l : List Int) (a b c : Int) (r : AV) : VC Try.prog (tabS tab0) noL false 86 [.agg [.sl n [.int .i64 l], .int .i64 a, .int .i64 b, .int .i64 c]] r = (
some (AV.bool (ige (ofN n) a)) = some r) := by kernel_rfl

theorem ok_qfull : PureOK Try.prog 86 Fqfull := by
  refine tab_plain mixed (l := tab0) ok_tab0 false (by kernel_rfl) fun xs b r h hb wf => ?_
  unfold Fqfull at h
  split at h
  · rename_i n l a b c
    cases h
    try rw [some_f] at hb
    try simp only [WFL, WF, List.mem_cons, List.not_mem_nil, or_false, forall_eq_or_imp, forall_eq, Col.len, and_true, true_and] at wf
    rw [vc_qfull]
  · cases h


def tabQR : List (FuncId × Pure1) := [(85, Fqopen), (86, Fqfull), (87, Fqbehind), (84, Fqrest), (83, Fqfirst), (88, Fqends)]

theorem ok_tabQR : ∀ p ∈ tabQR, PureOK Try.prog p.1 p.2 := by
  intro p hp
  simp only [tabQR, List.mem_cons, List.not_mem_nil, or_false] at hp
  rcases hp with rfl | rfl | rfl | rfl | rfl | rfl
  · exact ok_qopen
  · exact ok_qfull
  · exact ok_qbehind
  · exact ok_qrest
  · exact ok_qfirst
  · exact ok_qends


def Fqevict : Pure1 := fun
  | [.agg [.sl n [.int .i64 l], .int .i64 a, .int .i64 b, .int .i64 c], .agg [.int .i64 e0, .int .i64 e1, .int .i64 e2, .int .i64 e3, .int .i64 e4]] => some (some (nle n room), .tup [.agg [.sl (lenI (evictV l e4)) [.int .i64 (evictV l e4)], .int .i64 a, .int .i64 b, .int .i64 c], .bool (evictB l a b c e3 e4)])
  | _ => none

theorem vc_qevict (n : Nat) (l : List Int) (a b c e0 e1 e2 e3 e4 : Int) (r : AV) : VC Try.prog (tabS tabQR) noL false 51 [.agg [.sl n [.int .i64 l], .int .i64 a, .int .i64 b, .int .i64 c], .agg [.int .i64 e0, .int .i64 e1, .int .i64 e2, .int .i64 e3, .int .i64 e4]] r = (
  br (bnot (firstB l e4))
    (some
        (AV.tup
          [AV.agg [AV.sl n [Col.int IntKind.i64 l], AV.int IntKind.i64 a, AV.int IntKind.i64 b, AV.int IntKind.i64 c],
            AV.bool false]) =
      some r)
    (asrt (band (nle n 1073741824) (nlt 0 n))
      (some
          (AV.tup
            [AV.agg
                [AV.sl (lenI (tlI l)) [Col.int IntKind.i64 (tlI l)], AV.int IntKind.i64 a, AV.int IntKind.i64 b,
                  AV.int IntKind.i64 c],
              AV.bool (bite (bite (bite (ieq e3 1) (ieq c 0) false) (ige (ofN n) a) false) (ieq b 2) false)]) =
        some r))) := by kernel_rfl

theorem ok_qevict : PureOK Try.prog 51 Fqevict := by
  refine tab_plain mixed (l := tabQR) ok_tabQR false (by kernel_rfl) fun xs b r h hb wf => ?_
  unfold Fqevict at h
  split at h
  · rename_i n l a b c e0 e1 e2 e3 e4
    cases h
    try rw [some_f] at hb
    try simp only [WFL, WF, List.mem_cons, List.not_mem_nil, or_false, forall_eq_or_imp, forall_eq, Col.len, and_true, true_and] at wf
    rw [vc_qevict]
    subst wf
    simp only [bite_and, bite_or]
    simp [asrt_iff, br_iff, ieq_t, ieq_f, ine_t, ine_f, ilt_t, ilt_f, ile_t, ile_f, igt_t, igt_f, ige_t, ige_f, nlt_t, nlt_f, nle_t, nle_f, neq_t, neq_f, beq2_t, beq2_f, bnot_t, bnot_f, band_t, band_f, bite_t, bite_f, bimp_t, bimp_f, iadd_e, isub_e, imul_e, ofN_e, nOf_e, nAdd_e, nDiff_e, room_e, lenI_e, gI_e, gB_e, imin_e, imax_e, cat_e, pt_e, put_e, some_f] at hb ⊢
    have h1 := first_head l e4
    have h2 := first_iff l e4
    cases hf : firstB l e4 with
    | false =>
      have h3 : ¬ l.head? = some e4 := fun h => by rw [h1.2 h] at hf; cases hf
      simp [evictV, evictB, h3]
    | true =>
      have h3 := h1.1 hf
      have h4 := (h2.1 hf).1
      simp [evictV, evictB, h3, h4, hb, tlI]
      rw [Bool.eq_iff_iff]
      simp [asrt_iff, br_iff, ieq_t, ieq_f, ine_t, ine_f, ilt_t, ilt_f, ile_t, ile_f, igt_t, igt_f, ige_t, ige_f, nlt_t, nlt_f, nle_t, nle_f, neq_t, neq_f, beq2_t, beq2_f, bnot_t, bnot_f, band_t, band_f, bite_t, bite_f, bimp_t, bimp_f, iadd_e, isub_e, imul_e, ofN_e, nOf_e, nAdd_e, nDiff_e, room_e, lenI_e, gI_e, gB_e, imin_e, imax_e, cat_e, pt_e, put_e, some_f, and_assoc]
  · cases h


def Fqdrain : Pure1 := fun
  | [.agg [.sl n [.int .i64 l], .int .i64 a, .int .i64 b, .int .i64 c], .agg [.int .i64 e0, .int .i64 e1, .int .i64 e2, .int .i64 e3, .int .i64 e4]] => some (none, .tup [.agg [.sl n [.int .i64 l], .int .i64 a, .int .i64 b, .int .i64 (drainM c)], .bool (ieq e3 1)])
  | _ => none

theorem vc_qdrain (n : Nat) (l : List Int) (a b c e0 e1 e2 e3 e4 : Int) (r : AV) : VC Try.prog (tabS tabQR) noL false 52 [.agg [.sl n [.int .i64 l], .int .i64 a, .int .i64 b, .int .i64 c], .agg [.int .i64 e0, .int .i64 e1, .int .i64 e2, .int .i64 e3, .int .i64 e4]] r = (
  br (ieq c 0)
    (some
        (AV.tup
          [AV.agg [AV.sl n [Col.int IntKind.i64 l], AV.int IntKind.i64 a, AV.int IntKind.i64 b, AV.int IntKind.i64 1],
            AV.bool (ieq e3 1)]) =
      some r)
    (some
        (AV.tup
          [AV.agg [AV.sl n [Col.int IntKind.i64 l], AV.int IntKind.i64 a, AV.int IntKind.i64 b, AV.int IntKind.i64 c],
            AV.bool (ieq e3 1)]) =
      some r)) := by kernel_rfl

theorem ok_qdrain : PureOK Try.prog 52 Fqdrain := by
  refine tab_plain mixed (l := tabQR) ok_tabQR false (by kernel_rfl) fun xs b r h hb wf => ?_
  unfold Fqdrain at h
  split at h
  · rename_i n l a b c e0 e1 e2 e3 e4
    cases h
    try rw [some_f] at hb
    try simp only [WFL, WF, List.mem_cons, List.not_mem_nil, or_false, forall_eq_or_imp, forall_eq, Col.len, and_true, true_and] at wf
    rw [vc_qdrain]
    simp [asrt_iff, br_iff, ieq_t, ieq_f, ine_t, ine_f, ilt_t, ilt_f, ile_t, ile_f, igt_t, igt_f, ige_t, ige_f, nlt_t, nlt_f, nle_t, nle_f, neq_t, neq_f, beq2_t, beq2_f, bnot_t, bnot_f, band_t, band_f, bite_t, bite_f, bimp_t, bimp_f, iadd_e, isub_e, imul_e, ofN_e, nOf_e, nAdd_e, nDiff_e, room_e, lenI_e, gI_e, gB_e, imin_e, imax_e, cat_e, pt_e, put_e, some_f, drainM]
    try grind
  · cases h


def Fqhalt : Pure1 := fun
  | [.agg [.sl n [.int .i64 l], .int .i64 a, .int .i64 b, .int .i64 c], .agg [.int .i64 e0, .int .i64 e1, .int .i64 e2, .int .i64 e3, .int .i64 e4]] => some (none, .tup [.agg [.sl n [.int .i64 l], .int .i64 a, .int .i64 b, .int .i64 2], .bool (ieq e3 1)])
  | _ => none

theorem vc_qhalt (n : Nat) (l : List Int) (a b c e0 e1 e2 e3 e4 : Int) (r : AV) : VC Try.prog (tabS tabQR) noL false 53 [.agg [.sl n [.int .i64 l], .int .i64 a, .int .i64 b, .int .i64 c], .agg [.int .i64 e0, .int .i64 e1, .int .i64 e2, .int .i64 e3, .int .i64 e4]] r = (
  some
      (AV.tup
        [AV.agg [AV.sl n [Col.int IntKind.i64 l], AV.int IntKind.i64 a, AV.int IntKind.i64 b, AV.int IntKind.i64 2],
          AV.bool (ieq e3 1)]) =
    some r) := by kernel_rfl

theorem ok_qhalt : PureOK Try.prog 53 Fqhalt := by
  refine tab_plain mixed (l := tabQR) ok_tabQR false (by kernel_rfl) fun xs b r h hb wf => ?_
  unfold Fqhalt at h
  split at h
  · rename_i n l a b c e0 e1 e2 e3 e4
    cases h
    try rw [some_f] at hb
    try simp only [WFL, WF, List.mem_cons, List.not_mem_nil, or_false, forall_eq_or_imp, forall_eq, Col.len, and_true, true_and] at wf
    rw [vc_qhalt]
  · cases h


def Fqsend : Pure1 := fun
  | [.agg [.sl n [.int .i64 l], .int .i64 a, .int .i64 b, .int .i64 c], .agg [.int .i64 e0, .int .i64 e1, .int .i64 e2, .int .i64 e3, .int .i64 e4]] => some (some (nlt n room), .tup [.agg [.sl (lenI (sendV l e2 e3)) [.int .i64 (sendV l e2 e3)], .int .i64 a, .int .i64 b, .int .i64 c], .bool (sendB l a b c e1 e2 e3 e4)])
  | _ => none

theorem vc_qsend (n : Nat) (l : List Int) (a b c e0 e1 e2 e3 e4 : Int) (r : AV) : VC Try.prog (tabS tabQR) noL false 54 [.agg [.sl n [.int .i64 l], .int .i64 a, .int .i64 b, .int .i64 c], .agg [.int .i64 e0, .int .i64 e1, .int .i64 e2, .int .i64 e3, .int .i64 e4]] r = (
  br (ieq e3 1)
    (asrt (nlt n 1073741824)
      (some
          (AV.tup
            [AV.agg
                [AV.sl (nAdd n 1) [Col.int IntKind.i64 (cat l [e2])], AV.int IntKind.i64 a, AV.int IntKind.i64 b,
                  AV.int IntKind.i64 c],
              AV.bool (bite (ieq c 0) (bnot (ige (ofN n) a)) false)]) =
        some r))
    (br (ieq e3 2)
      (some
          (AV.tup
            [AV.agg [AV.sl n [Col.int IntKind.i64 l], AV.int IntKind.i64 a, AV.int IntKind.i64 b, AV.int IntKind.i64 c],
              AV.bool (bite (bite (bite (ieq e1 2) (ieq c 0) false) (ige (ofN n) a) false) (ieq b 0) false)]) =
        some r)
      (br (ieq e3 3)
        (some
            (AV.tup
              [AV.agg
                  [AV.sl n [Col.int IntKind.i64 l], AV.int IntKind.i64 a, AV.int IntKind.i64 b, AV.int IntKind.i64 c],
                AV.bool (bite (bite (ieq c 0) (ige (ofN n) a) false) (ieq b 1) false)]) =
          some r)
        (some
            (AV.tup
              [AV.agg
                  [AV.sl n [Col.int IntKind.i64 l], AV.int IntKind.i64 a, AV.int IntKind.i64 b, AV.int IntKind.i64 c],
                AV.bool (endsB c e1 e3 3)]) =
          some r)))) := by kernel_rfl

theorem ok_qsend : PureOK Try.prog 54 Fqsend := by
  refine tab_plain mixed (l := tabQR) ok_tabQR false (by kernel_rfl) fun xs b r h hb wf => ?_
  unfold Fqsend at h
  split at h
  · rename_i n l a b c e0 e1 e2 e3 e4
    cases h
    try rw [some_f] at hb
    try simp only [WFL, WF, List.mem_cons, List.not_mem_nil, or_false, forall_eq_or_imp, forall_eq, Col.len, and_true, true_and] at wf
    rw [vc_qsend]
    subst wf
    simp only [bite_and, bite_or]
    simp [asrt_iff, br_iff, ieq_t, ieq_f, ine_t, ine_f, ilt_t, ilt_f, ile_t, ile_f, igt_t, igt_f, ige_t, ige_f, nlt_t, nlt_f, nle_t, nle_f, neq_t, neq_f, beq2_t, beq2_f, bnot_t, bnot_f, band_t, band_f, bite_t, bite_f, bimp_t, bimp_f, iadd_e, isub_e, imul_e, ofN_e, nOf_e, nAdd_e, nDiff_e, room_e, lenI_e, gI_e, gB_e, imin_e, imax_e, cat_e, pt_e, put_e, some_f] at hb ⊢
    refine ⟨fun h => ⟨hb, ⟨by simp [sendV, h], by simp [sendV, h]⟩, ?_⟩, fun h => ⟨fun h2 => ⟨⟨by simp [sendV, h], by simp [sendV, h]⟩, ?_⟩, fun h2 => ⟨fun h3 => ⟨⟨by simp [sendV, h], by simp [sendV, h]⟩, ?_⟩, fun h3 => ⟨⟨by simp [sendV, h], by simp [sendV, h]⟩, ?_⟩⟩⟩⟩
    · rw [Bool.eq_iff_iff]; simp [asrt_iff, br_iff, ieq_t, ieq_f, ine_t, ine_f, ilt_t, ilt_f, ile_t, ile_f, igt_t, igt_f, ige_t, ige_f, nlt_t, nlt_f, nle_t, nle_f, neq_t, neq_f, beq2_t, beq2_f, bnot_t, bnot_f, band_t, band_f, bite_t, bite_f, bimp_t, bimp_f, iadd_e, isub_e, imul_e, ofN_e, nOf_e, nAdd_e, nDiff_e, room_e, lenI_e, gI_e, gB_e, imin_e, imax_e, cat_e, pt_e, put_e, some_f, sendB, h]
    · rw [Bool.eq_iff_iff]; simp [asrt_iff, br_iff, ieq_t, ieq_f, ine_t, ine_f, ilt_t, ilt_f, ile_t, ile_f, igt_t, igt_f, ige_t, ige_f, nlt_t, nlt_f, nle_t, nle_f, neq_t, neq_f, beq2_t, beq2_f, bnot_t, bnot_f, band_t, band_f, bite_t, bite_f, bimp_t, bimp_f, iadd_e, isub_e, imul_e, ofN_e, nOf_e, nAdd_e, nDiff_e, room_e, lenI_e, gI_e, gB_e, imin_e, imax_e, cat_e, pt_e, put_e, some_f, sendB, h, h2, and_assoc]
    · rw [Bool.eq_iff_iff]; simp [asrt_iff, br_iff, ieq_t, ieq_f, ine_t, ine_f, ilt_t, ilt_f, ile_t, ile_f, igt_t, igt_f, ige_t, ige_f, nlt_t, nlt_f, nle_t, nle_f, neq_t, neq_f, beq2_t, beq2_f, bnot_t, bnot_f, band_t, band_f, bite_t, bite_f, bimp_t, bimp_f, iadd_e, isub_e, imul_e, ofN_e, nOf_e, nAdd_e, nDiff_e, room_e, lenI_e, gI_e, gB_e, imin_e, imax_e, cat_e, pt_e, put_e, some_f, sendB, h, h2, h3, and_assoc]
    · rw [Bool.eq_iff_iff]; simp [asrt_iff, br_iff, ieq_t, ieq_f, ine_t, ine_f, ilt_t, ilt_f, ile_t, ile_f, igt_t, igt_f, ige_t, ige_f, nlt_t, nlt_f, nle_t, nle_f, neq_t, neq_f, beq2_t, beq2_f, bnot_t, bnot_f, band_t, band_f, bite_t, bite_f, bimp_t, bimp_f, iadd_e, isub_e, imul_e, ofN_e, nOf_e, nAdd_e, nDiff_e, room_e, lenI_e, gI_e, gB_e, imin_e, imax_e, cat_e, pt_e, put_e, some_f, sendB, endsB, h, h2, h3, and_assoc]
  · cases h


def Fqrecv : Pure1 := fun
  | [.agg [.sl n [.int .i64 l], .int .i64 a, .int .i64 b, .int .i64 c], .agg [.int .i64 e0, .int .i64 e1, .int .i64 e2, .int .i64 e3, .int .i64 e4]] => some (some (nle n room), .tup [.agg [.sl (lenI (recvV l e3 e4)) [.int .i64 (recvV l e3 e4)], .int .i64 a, .int .i64 b, .int .i64 c], .bool (recvB l a b c e1 e2 e3 e4)])
  | _ => none

theorem vc_qrecv (n : Nat) (l : List Int) (a b c e0 e1 e2 e3 e4 : Int) (r : AV) : VC Try.prog (tabS tabQR) noL false 55 [.agg [.sl n [.int .i64 l], .int .i64 a, .int .i64 b, .int .i64 c], .agg [.int .i64 e0, .int .i64 e1, .int .i64 e2, .int .i64 e3, .int .i64 e4]] r = (
  br (ieq e3 1)
    (br (bnot (firstB l e4))
      (some
          (AV.tup
            [AV.agg [AV.sl n [Col.int IntKind.i64 l], AV.int IntKind.i64 a, AV.int IntKind.i64 b, AV.int IntKind.i64 c],
              AV.bool false]) =
        some r)
      (asrt (band (nle n 1073741824) (nlt 0 n))
        (some
            (AV.tup
              [AV.agg
                  [AV.sl (lenI (tlI l)) [Col.int IntKind.i64 (tlI l)], AV.int IntKind.i64 a, AV.int IntKind.i64 b,
                    AV.int IntKind.i64 c],
                AV.bool (ine c 2)]) =
          some r)))
    (br (ieq e3 4)
      (some
          (AV.tup
            [AV.agg [AV.sl n [Col.int IntKind.i64 l], AV.int IntKind.i64 a, AV.int IntKind.i64 b, AV.int IntKind.i64 c],
              AV.bool (bite (bite (ieq e1 5) (ieq c 0) false) (ieq (ofN n) 0) false)]) =
        some r)
      (br (bite (ieq e3 6) (igt (ofN n) 0) false)
        (some
            (AV.tup
              [AV.agg
                  [AV.sl n [Col.int IntKind.i64 l], AV.int IntKind.i64 a, AV.int IntKind.i64 b, AV.int IntKind.i64 c],
                AV.bool false]) =
          some r)
        (some
            (AV.tup
              [AV.agg
                  [AV.sl n [Col.int IntKind.i64 l], AV.int IntKind.i64 a, AV.int IntKind.i64 b, AV.int IntKind.i64 c],
                AV.bool (endsB c e1 e3 6)]) =
          some r)))) := by kernel_rfl

theorem ok_qrecv : PureOK Try.prog 55 Fqrecv := by
  refine tab_plain mixed (l := tabQR) ok_tabQR false (by kernel_rfl) fun xs b r h hb wf => ?_
  unfold Fqrecv at h
  split at h
  · rename_i n l a b c e0 e1 e2 e3 e4
    cases h
    try rw [some_f] at hb
    try simp only [WFL, WF, List.mem_cons, List.not_mem_nil, or_false, forall_eq_or_imp, forall_eq, Col.len, and_true, true_and] at wf
    rw [vc_qrecv]
    subst wf
    simp only [bite_and, bite_or]
    simp [asrt_iff, br_iff, ieq_t, ieq_f, ine_t, ine_f, ilt_t, ilt_f, ile_t, ile_f, igt_t, igt_f, ige_t, ige_f, nlt_t, nlt_f, nle_t, nle_f, neq_t, neq_f, beq2_t, beq2_f, bnot_t, bnot_f, band_t, band_f, bite_t, bite_f, bimp_t, bimp_f, iadd_e, isub_e, imul_e, ofN_e, nOf_e, nAdd_e, nDiff_e, room_e, lenI_e, gI_e, gB_e, imin_e, imax_e, cat_e, pt_e, put_e, some_f] at hb ⊢
    have h1 := first_head l e4
    have h2 := first_iff l e4
    refine ⟨fun h => ⟨fun hf => ?_, fun hf => ?_⟩, fun h => ⟨fun h4 => ⟨⟨by simp [recvV, h], by simp [recvV, h]⟩, ?_⟩, fun h4 => ⟨fun h6 hl => ⟨⟨by simp [recvV, h], by simp [recvV, h]⟩, ?_⟩, fun h6 => ⟨⟨by simp [recvV, h], by simp [recvV, h]⟩, ?_⟩⟩⟩⟩
    · have h3 : ¬ l.head? = some e4 := fun h => by rw [h1.2 h] at hf; cases hf
      simp [recvV, recvB, h, h3]
    · have h3 := h1.1 hf
      have h4 := (h2.1 hf).1
      simp [recvV, recvB, h, h3, h4, hb, tlI]
      rw [Bool.eq_iff_iff]
      simp [asrt_iff, br_iff, ieq_t, ieq_f, ine_t, ine_f, ilt_t, ilt_f, ile_t, ile_f, igt_t, igt_f, ige_t, ige_f, nlt_t, nlt_f, nle_t, nle_f, neq_t, neq_f, beq2_t, beq2_f, bnot_t, bnot_f, band_t, band_f, bite_t, bite_f, bimp_t, bimp_f, iadd_e, isub_e, imul_e, ofN_e, nOf_e, nAdd_e, nDiff_e, room_e, lenI_e, gI_e, gB_e, imin_e, imax_e, cat_e, pt_e, put_e, some_f]
    · rw [Bool.eq_iff_iff]; simp [asrt_iff, br_iff, ieq_t, ieq_f, ine_t, ine_f, ilt_t, ilt_f, ile_t, ile_f, igt_t, igt_f, ige_t, ige_f, nlt_t, nlt_f, nle_t, nle_f, neq_t, neq_f, beq2_t, beq2_f, bnot_t, bnot_f, band_t, band_f, bite_t, bite_f, bimp_t, bimp_f, iadd_e, isub_e, imul_e, ofN_e, nOf_e, nAdd_e, nDiff_e, room_e, lenI_e, gI_e, gB_e, imin_e, imax_e, cat_e, pt_e, put_e, some_f, recvB, h, h4]; grind
    · subst h6
      have hl' : ¬ l = [] := by rintro rfl; simp at hl
      simp [recvB, hl']
    · rw [Bool.eq_iff_iff]
      simp [asrt_iff, br_iff, ieq_t, ieq_f, ine_t, ine_f, ilt_t, ilt_f, ile_t, ile_f, igt_t, igt_f, ige_t, ige_f, nlt_t, nlt_f, nle_t, nle_f, neq_t, neq_f, beq2_t, beq2_f, bnot_t, bnot_f, band_t, band_f, bite_t, bite_f, bimp_t, bimp_f, iadd_e, isub_e, imul_e, ofN_e, nOf_e, nAdd_e, nDiff_e, room_e, lenI_e, gI_e, gB_e, imin_e, imax_e, cat_e, pt_e, put_e, some_f, recvB, endsB, h, h4]
      grind
  · cases h


def tabQF : List (FuncId × Pure1) := [(56, Fqown), (51, Fqevict), (52, Fqdrain), (53, Fqhalt), (54, Fqsend), (55, Fqrecv), (12, Fints)]

theorem ok_tabQF : ∀ p ∈ tabQF, PureOK Try.prog p.1 p.2 := by
  intro p hp
  simp only [tabQF, List.mem_cons, List.not_mem_nil, or_false] at hp
  rcases hp with rfl | rfl | rfl | rfl | rfl | rfl | rfl
  · exact ok_qown
  · exact ok_qevict
  · exact ok_qdrain
  · exact ok_qhalt
  · exact ok_qsend
  · exact ok_qrecv
  · exact ok_ints



theorem evictV_le (l : List Int) (e4 : Int) : (evictV l e4).length ≤ l.length := by
  unfold evictV; split <;> simp
theorem sendV_le (l : List Int) (e2 e3 : Int) : (sendV l e2 e3).length ≤ l.length + 1 := by
  unfold sendV; split <;> simp
theorem recvV_le (l : List Int) (e3 e4 : Int) : (recvV l e3 e4).length ≤ l.length := by
  unfold recvV; split <;> simp

def LDo : Nat → Option LoopS := fun i => match i with
  | 0 => some (.unroll 4)
  | 2 => some (.unroll 4)
  | _ => none

theorem ok_LDo : ∀ i x, LDo i = some x → LoopHyp Try.prog 21 i x := by
  intro i s h
  unfold LDo at h
  split at h
  · cases h; trivial
  · cases h; trivial
  · cases h


def Fdo : Pure1 := fun
  | [.agg [.sl n [.int .i64 l], .int .i64 a, .int .i64 b, .int .i64 c], .agg [.int .i64 e0, .int .i64 e1, .int .i64 e2, .int .i64 e3, .int .i64 e4]] => some (some (nlt n room), .tup [.agg [.own 3 (lenI (valS l a b c e1 e2 e3 e4)) [.int .i64 (valS l a b c e1 e2 e3 e4)], .int .i64 a, .int .i64 b, .int .i64 (modeS l a b c e1 e2 e3 e4)], .bool (mayS l a b c e1 e2 e3 e4)])
  | _ => none

theorem vc_do (n : Nat) (l : List Int) (a b c e0 e1 e2 e3 e4 : Int) (r : AV) : VC Try.prog (tabS tabQF) (oneL 21 LDo) true 21 [.agg [.sl n [.int .i64 l], .int .i64 a, .int .i64 b, .int .i64 c], .agg [.int .i64 e0, .int .i64 e1, .int .i64 e2, .int .i64 e3, .int .i64 e4]] r = (
  br (ieq e1 9)
    (asrt (nle n 1073741824)
      (br (bnot (evictB l a b c e3 e4))
        (asrt (nle n 1073741824)
          (some
              (AV.tup
                [AV.agg
                    [AV.own 3 n [Col.int IntKind.i64 l], AV.int IntKind.i64 a, AV.int IntKind.i64 b,
                      AV.int IntKind.i64 c],
                  AV.bool false]) =
            some r))
        (asrt (nle (lenI (evictV l e4)) 1073741824)
          (some
              (AV.tup
                [AV.agg
                    [AV.own 3 (lenI (evictV l e4)) [Col.int IntKind.i64 (evictV l e4)], AV.int IntKind.i64 a,
                      AV.int IntKind.i64 b, AV.int IntKind.i64 c],
                  AV.bool true]) =
            some r))))
    (br (ieq e1 7)
      (br (bnot (ieq e3 1))
        (asrt (nle n 1073741824)
          (some
              (AV.tup
                [AV.agg
                    [AV.own 3 n [Col.int IntKind.i64 l], AV.int IntKind.i64 a, AV.int IntKind.i64 b,
                      AV.int IntKind.i64 c],
                  AV.bool false]) =
            some r))
        (asrt (nle n 1073741824)
          (some
              (AV.tup
                [AV.agg
                    [AV.own 3 n [Col.int IntKind.i64 l], AV.int IntKind.i64 a, AV.int IntKind.i64 b,
                      AV.int IntKind.i64 (drainM c)],
                  AV.bool true]) =
            some r)))
      (br (ieq e1 8)
        (br (bnot (ieq e3 1))
          (asrt (nle n 1073741824)
            (some
                (AV.tup
                  [AV.agg
                      [AV.own 3 n [Col.int IntKind.i64 l], AV.int IntKind.i64 a, AV.int IntKind.i64 b,
                        AV.int IntKind.i64 c],
                    AV.bool false]) =
              some r))
          (asrt (nle n 1073741824)
            (some
                (AV.tup
                  [AV.agg
                      [AV.own 3 n [Col.int IntKind.i64 l], AV.int IntKind.i64 a, AV.int IntKind.i64 b,
                        AV.int IntKind.i64 2],
                    AV.bool true]) =
              some r)))
        (br (ieq e1 1)
          (asrt (nlt n 1073741824)
            (br (bnot (sendB l a b c e1 e2 e3 e4))
              (asrt (nle n 1073741824)
                (some
                    (AV.tup
                      [AV.agg
                          [AV.own 3 n [Col.int IntKind.i64 l], AV.int IntKind.i64 a, AV.int IntKind.i64 b,
                            AV.int IntKind.i64 c],
                        AV.bool false]) =
                  some r))
              (asrt (nle (lenI (sendV l e2 e3)) 1073741824)
                (some
                    (AV.tup
                      [AV.agg
                          [AV.own 3 (lenI (sendV l e2 e3)) [Col.int IntKind.i64 (sendV l e2 e3)], AV.int IntKind.i64 a,
                            AV.int IntKind.i64 b, AV.int IntKind.i64 c],
                        AV.bool true]) =
                  some r))))
          (br (ieq e1 2)
            (asrt (nlt n 1073741824)
              (br (bnot (sendB l a b c e1 e2 e3 e4))
                (asrt (nle n 1073741824)
                  (some
                      (AV.tup
                        [AV.agg
                            [AV.own 3 n [Col.int IntKind.i64 l], AV.int IntKind.i64 a, AV.int IntKind.i64 b,
                              AV.int IntKind.i64 c],
                          AV.bool false]) =
                    some r))
                (asrt (nle (lenI (sendV l e2 e3)) 1073741824)
                  (some
                      (AV.tup
                        [AV.agg
                            [AV.own 3 (lenI (sendV l e2 e3)) [Col.int IntKind.i64 (sendV l e2 e3)],
                              AV.int IntKind.i64 a, AV.int IntKind.i64 b, AV.int IntKind.i64 c],
                          AV.bool true]) =
                    some r))))
            (br (ieq e1 3)
              (asrt (nlt n 1073741824)
                (br (bnot (sendB l a b c e1 e2 e3 e4))
                  (asrt (nle n 1073741824)
                    (some
                        (AV.tup
                          [AV.agg
                              [AV.own 3 n [Col.int IntKind.i64 l], AV.int IntKind.i64 a, AV.int IntKind.i64 b,
                                AV.int IntKind.i64 c],
                            AV.bool false]) =
                      some r))
                  (asrt (nle (lenI (sendV l e2 e3)) 1073741824)
                    (some
                        (AV.tup
                          [AV.agg
                              [AV.own 3 (lenI (sendV l e2 e3)) [Col.int IntKind.i64 (sendV l e2 e3)],
                                AV.int IntKind.i64 a, AV.int IntKind.i64 b, AV.int IntKind.i64 c],
                            AV.bool true]) =
                      some r))))
              (br (ieq e1 4)
                (asrt (nle n 1073741824)
                  (br (bnot (recvB l a b c e1 e2 e3 e4))
                    (asrt (nle n 1073741824)
                      (some
                          (AV.tup
                            [AV.agg
                                [AV.own 3 n [Col.int IntKind.i64 l], AV.int IntKind.i64 a, AV.int IntKind.i64 b,
                                  AV.int IntKind.i64 c],
                              AV.bool false]) =
                        some r))
                    (asrt (nle (lenI (recvV l e3 e4)) 1073741824)
                      (some
                          (AV.tup
                            [AV.agg
                                [AV.own 3 (lenI (recvV l e3 e4)) [Col.int IntKind.i64 (recvV l e3 e4)],
                                  AV.int IntKind.i64 a, AV.int IntKind.i64 b, AV.int IntKind.i64 c],
                              AV.bool true]) =
                        some r))))
                (br (ieq e1 5)
                  (asrt (nle n 1073741824)
                    (br (bnot (recvB l a b c e1 e2 e3 e4))
                      (asrt (nle n 1073741824)
                        (some
                            (AV.tup
                              [AV.agg
                                  [AV.own 3 n [Col.int IntKind.i64 l], AV.int IntKind.i64 a, AV.int IntKind.i64 b,
                                    AV.int IntKind.i64 c],
                                AV.bool false]) =
                          some r))
                      (asrt (nle (lenI (recvV l e3 e4)) 1073741824)
                        (some
                            (AV.tup
                              [AV.agg
                                  [AV.own 3 (lenI (recvV l e3 e4)) [Col.int IntKind.i64 (recvV l e3 e4)],
                                    AV.int IntKind.i64 a, AV.int IntKind.i64 b, AV.int IntKind.i64 c],
                                AV.bool true]) =
                          some r))))
                  (br (ieq e1 6)
                    (asrt (nle n 1073741824)
                      (br (bnot (recvB l a b c e1 e2 e3 e4))
                        (asrt (nle n 1073741824)
                          (some
                              (AV.tup
                                [AV.agg
                                    [AV.own 3 n [Col.int IntKind.i64 l], AV.int IntKind.i64 a, AV.int IntKind.i64 b,
                                      AV.int IntKind.i64 c],
                                  AV.bool false]) =
                            some r))
                        (asrt (nle (lenI (recvV l e3 e4)) 1073741824)
                          (some
                              (AV.tup
                                [AV.agg
                                    [AV.own 3 (lenI (recvV l e3 e4)) [Col.int IntKind.i64 (recvV l e3 e4)],
                                      AV.int IntKind.i64 a, AV.int IntKind.i64 b, AV.int IntKind.i64 c],
                                  AV.bool true]) =
                            some r))))
                    (asrt (nle n 1073741824)
                      (some
                          (AV.tup
                            [AV.agg
                                [AV.own 3 n [Col.int IntKind.i64 l], AV.int IntKind.i64 a, AV.int IntKind.i64 b,
                                  AV.int IntKind.i64 c],
                              AV.bool false]) =
                        some r))))))))))) := by kernel_rfl

theorem ok_do : PureOK Try.prog 21 Fdo := by
  refine tab_loops mixed (l := tabQF) ok_tabQF true LDo (by kernel_rfl) ok_LDo fun xs b r h hb wf => ?_
  unfold Fdo at h
  split at h
  · rename_i n l a b c e0 e1 e2 e3 e4
    cases h
    try rw [some_f] at hb
    try simp only [WFL, WF, List.mem_cons, List.not_mem_nil, or_false, forall_eq_or_imp, forall_eq, Col.len, and_true, true_and] at wf
    rw [vc_do]
    subst wf
    simp only [nlt_t] at hb
    have hr : room = 1073741824 := rfl
    rw [hr] at hb
    have b1 : l.length ≤ 1073741824 := by omega
    have g1 : (evictV l e4).length ≤ 1073741824 := by have := evictV_le l e4; omega
    have g2 : (sendV l e2 e3).length ≤ 1073741824 := by have := sendV_le l e2 e3; omega
    have g3 : (recvV l e3 e4).length ≤ 1073741824 := by have := recvV_le l e3 e4; omega
    by_cases c9 : e1 = 9
    · subst c9
      cases hB : evictB l a b c e3 e4 <;> simp [asrt_iff, br_iff, ieq_t, ieq_f, ine_t, ine_f, ilt_t, ilt_f, ile_t, ile_f, igt_t, igt_f, ige_t, ige_f, nlt_t, nlt_f, nle_t, nle_f, neq_t, neq_f, beq2_t, beq2_f, bnot_t, bnot_f, band_t, band_f, bite_t, bite_f, bimp_t, bimp_f, iadd_e, isub_e, imul_e, ofN_e, nOf_e, nAdd_e, nDiff_e, room_e, lenI_e, gI_e, gB_e, imin_e, imax_e, cat_e, pt_e, put_e, some_f, mayS, valS, modeS, hB, b1, g1]
    by_cases c7 : e1 = 7
    · subst c7
      by_cases h3 : e3 = 1 <;> simp [asrt_iff, br_iff, ieq_t, ieq_f, ine_t, ine_f, ilt_t, ilt_f, ile_t, ile_f, igt_t, igt_f, ige_t, ige_f, nlt_t, nlt_f, nle_t, nle_f, neq_t, neq_f, beq2_t, beq2_f, bnot_t, bnot_f, band_t, band_f, bite_t, bite_f, bimp_t, bimp_f, iadd_e, isub_e, imul_e, ofN_e, nOf_e, nAdd_e, nDiff_e, room_e, lenI_e, gI_e, gB_e, imin_e, imax_e, cat_e, pt_e, put_e, some_f, mayS, valS, modeS, h3, b1, drainM, ieq]
    by_cases c8 : e1 = 8
    · subst c8
      by_cases h3 : e3 = 1 <;> simp [asrt_iff, br_iff, ieq_t, ieq_f, ine_t, ine_f, ilt_t, ilt_f, ile_t, ile_f, igt_t, igt_f, ige_t, ige_f, nlt_t, nlt_f, nle_t, nle_f, neq_t, neq_f, beq2_t, beq2_f, bnot_t, bnot_f, band_t, band_f, bite_t, bite_f, bimp_t, bimp_f, iadd_e, isub_e, imul_e, ofN_e, nOf_e, nAdd_e, nDiff_e, room_e, lenI_e, gI_e, gB_e, imin_e, imax_e, cat_e, pt_e, put_e, some_f, mayS, valS, modeS, h3, b1, ieq]
    by_cases c1 : e1 = 1
    · subst c1
      cases hB : sendB l a b c 1 e2 e3 e4 <;> simp [asrt_iff, br_iff, ieq_t, ieq_f, ine_t, ine_f, ilt_t, ilt_f, ile_t, ile_f, igt_t, igt_f, ige_t, ige_f, nlt_t, nlt_f, nle_t, nle_f, neq_t, neq_f, beq2_t, beq2_f, bnot_t, bnot_f, band_t, band_f, bite_t, bite_f, bimp_t, bimp_f, iadd_e, isub_e, imul_e, ofN_e, nOf_e, nAdd_e, nDiff_e, room_e, lenI_e, gI_e, gB_e, imin_e, imax_e, cat_e, pt_e, put_e, some_f, mayS, valS, modeS, hB, b1, g2, hb]
    by_cases c2 : e1 = 2
    · subst c2
      cases hB : sendB l a b c 2 e2 e3 e4 <;> simp [asrt_iff, br_iff, ieq_t, ieq_f, ine_t, ine_f, ilt_t, ilt_f, ile_t, ile_f, igt_t, igt_f, ige_t, ige_f, nlt_t, nlt_f, nle_t, nle_f, neq_t, neq_f, beq2_t, beq2_f, bnot_t, bnot_f, band_t, band_f, bite_t, bite_f, bimp_t, bimp_f, iadd_e, isub_e, imul_e, ofN_e, nOf_e, nAdd_e, nDiff_e, room_e, lenI_e, gI_e, gB_e, imin_e, imax_e, cat_e, pt_e, put_e, some_f, mayS, valS, modeS, hB, b1, g2, hb]
    by_cases c3 : e1 = 3
    · subst c3
      cases hB : sendB l a b c 3 e2 e3 e4 <;> simp [asrt_iff, br_iff, ieq_t, ieq_f, ine_t, ine_f, ilt_t, ilt_f, ile_t, ile_f, igt_t, igt_f, ige_t, ige_f, nlt_t, nlt_f, nle_t, nle_f, neq_t, neq_f, beq2_t, beq2_f, bnot_t, bnot_f, band_t, band_f, bite_t, bite_f, bimp_t, bimp_f, iadd_e, isub_e, imul_e, ofN_e, nOf_e, nAdd_e, nDiff_e, room_e, lenI_e, gI_e, gB_e, imin_e, imax_e, cat_e, pt_e, put_e, some_f, mayS, valS, modeS, hB, b1, g2, hb]
    by_cases c4 : e1 = 4
    · subst c4
      cases hB : recvB l a b c 4 e2 e3 e4 <;> simp [asrt_iff, br_iff, ieq_t, ieq_f, ine_t, ine_f, ilt_t, ilt_f, ile_t, ile_f, igt_t, igt_f, ige_t, ige_f, nlt_t, nlt_f, nle_t, nle_f, neq_t, neq_f, beq2_t, beq2_f, bnot_t, bnot_f, band_t, band_f, bite_t, bite_f, bimp_t, bimp_f, iadd_e, isub_e, imul_e, ofN_e, nOf_e, nAdd_e, nDiff_e, room_e, lenI_e, gI_e, gB_e, imin_e, imax_e, cat_e, pt_e, put_e, some_f, mayS, valS, modeS, hB, b1, g3, hb]
    by_cases c5 : e1 = 5
    · subst c5
      cases hB : recvB l a b c 5 e2 e3 e4 <;> simp [asrt_iff, br_iff, ieq_t, ieq_f, ine_t, ine_f, ilt_t, ilt_f, ile_t, ile_f, igt_t, igt_f, ige_t, ige_f, nlt_t, nlt_f, nle_t, nle_f, neq_t, neq_f, beq2_t, beq2_f, bnot_t, bnot_f, band_t, band_f, bite_t, bite_f, bimp_t, bimp_f, iadd_e, isub_e, imul_e, ofN_e, nOf_e, nAdd_e, nDiff_e, room_e, lenI_e, gI_e, gB_e, imin_e, imax_e, cat_e, pt_e, put_e, some_f, mayS, valS, modeS, hB, b1, g3, hb]
    by_cases c6 : e1 = 6
    · subst c6
      cases hB : recvB l a b c 6 e2 e3 e4 <;> simp [asrt_iff, br_iff, ieq_t, ieq_f, ine_t, ine_f, ilt_t, ilt_f, ile_t, ile_f, igt_t, igt_f, ige_t, ige_f, nlt_t, nlt_f, nle_t, nle_f, neq_t, neq_f, beq2_t, beq2_f, bnot_t, bnot_f, band_t, band_f, bite_t, bite_f, bimp_t, bimp_f, iadd_e, isub_e, imul_e, ofN_e, nOf_e, nAdd_e, nDiff_e, room_e, lenI_e, gI_e, gB_e, imin_e, imax_e, cat_e, pt_e, put_e, some_f, mayS, valS, modeS, hB, b1, g3, hb]
    have k1 : ¬ (1 ≤ e1 ∧ e1 ≤ 3) := by omega
    have k2 : ¬ (4 ≤ e1 ∧ e1 ≤ 6) := by omega
    have hm : mayS l a b c e1 e2 e3 e4 = false := by
      unfold mayS
      rw [if_neg c9, if_neg c7, if_neg c8, if_neg k1, if_neg k2]
    simp [asrt_iff, br_iff, ieq_t, ieq_f, ine_t, ine_f, ilt_t, ilt_f, ile_t, ile_f, igt_t, igt_f, ige_t, ige_f, nlt_t, nlt_f, nle_t, nle_f, neq_t, neq_f, beq2_t, beq2_f, bnot_t, bnot_f, band_t, band_f, bite_t, bite_f, bimp_t, bimp_f, iadd_e, isub_e, imul_e, ofN_e, nOf_e, nAdd_e, nDiff_e, room_e, lenI_e, gI_e, gB_e, imin_e, imax_e, cat_e, pt_e, put_e, some_f, valS, modeS, hm, c9, c7, c8, c1, c2, c3, c4, c5, c6, b1]
  · cases h


def Fqsame : Pure1 := fun
  | [.agg [.sl n [.int .i64 l], .int .i64 a, .int .i64 b, .int .i64 c], .agg [.sl n' [.int .i64 l'], .int .i64 a', .int .i64 b', .int .i64 c']] => some (some (nle n big), .bool (band (sameI l l') (band (ieq a a') (band (ieq b b') (ieq c c')))))
  | _ => none

theorem vc_qsame (n : Nat) (l : List Int) (a b c : Int) (n' : Nat) (l' : List Int) (a' b' c' : Int) (r : AV) : VC Try.prog (tabS tabQF) noL false 19 [.agg [.sl n [.int .i64 l], .int .i64 a, .int .i64 b, .int .i64 c], .agg [.sl n' [.int .i64 l'], .int .i64 a', .int .i64 b', .int .i64 c']] r = (
  asrt (nle n big)
    (some (AV.bool (bite (bite (bite (sameI l l') (ieq a a') false) (ieq b b') false) (ieq c c') false)) = some r)) := by kernel_rfl

theorem ok_qsame : PureOK Try.prog 19 Fqsame := by
  refine tab_plain mixed (l := tabQF) ok_tabQF false (by kernel_rfl) fun xs b r h hb wf => ?_
  unfold Fqsame at h
  split at h
  · rename_i n l a b c n' l' a' b' c'
    cases h
    try rw [some_f] at hb
    try simp only [WFL, WF, List.mem_cons, List.not_mem_nil, or_false, forall_eq_or_imp, forall_eq, Col.len, and_true, true_and] at wf
    rw [vc_qsame]
    simp only [bite_and, bite_or]
    simp [asrt_iff, br_iff, ieq_t, ieq_f, ine_t, ine_f, ilt_t, ilt_f, ile_t, ile_f, igt_t, igt_f, ige_t, ige_f, nlt_t, nlt_f, nle_t, nle_f, neq_t, neq_f, beq2_t, beq2_f, bnot_t, bnot_f, band_t, band_f, bite_t, bite_f, bimp_t, bimp_f, iadd_e, isub_e, imul_e, ofN_e, nOf_e, nAdd_e, nDiff_e, room_e, lenI_e, gI_e, gB_e, imin_e, imax_e, cat_e, pt_e, put_e, some_f] at hb ⊢
    try grind [ieq, ine, ilt, ile, igt, ige, nlt, nle, neq, beq2, bnot, band, bite, bimp, le_big]
  · cases h


end Go.Own
