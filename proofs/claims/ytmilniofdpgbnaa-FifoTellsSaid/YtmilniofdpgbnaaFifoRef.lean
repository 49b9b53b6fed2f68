/- What the document says of queues. -/
import Derived.Test.YtmilniofdpgbnaaFifoLaw
import Derived.Test.YtmilniofdpgbnaaOwnM
namespace Go.Own
open Go Go.Proofs
set_option maxRecDepth 100000
set_option linter.unusedVariables false
set_option linter.unusedSimpArgs false

def rsV (l : List Int) (a b c e1 e2 e3 e4 : Int) : List Int := if sendB l a b c e1 e2 e3 e4 then sendV l e2 e3 else l

def rrV (l : List Int) (a b c e1 e2 e3 e4 : Int) : List Int := if recvB l a b c e1 e2 e3 e4 then recvV l e3 e4 else l


def Frwith : Pure1 := fun
  | [.agg [.sl n [.int .i64 l], .int .i64 a, .int .i64 b, .int .i64 c], .sl m [.int .i64 y]] => some (none, .agg [.sl m [.int .i64 y], .int .i64 a, .int .i64 b, .int .i64 c])
  | _ => none

theorem vc_rwith (n : Nat) (l : List Int) (a b c : Int) (m : Nat) (y : List Int) (r : AV) : VC Try.prog (tabS tabF0) noL false 55 [.agg [.sl n [.int .i64 l], .int .i64 a, .int .i64 b, .int .i64 c], .sl m [.int .i64 y]] r = (
  some (AV.agg [AV.sl m [Col.int IntKind.i64 y], AV.int IntKind.i64 a, AV.int IntKind.i64 b, AV.int IntKind.i64 c]) =
    some r) := by kernel_rfl

theorem ok_rwith : PureOK Try.prog 55 Frwith := by
  refine tab_plain mixed (l := tabF0) ok_tabF0 false (by kernel_rfl) fun xs b r h hb wf => ?_
  unfold Frwith at h
  split at h
  · rename_i n l a b c m y
    cases h
    try rw [some_f] at hb
    try simp only [WFL, WF, List.mem_cons, List.not_mem_nil, or_false, forall_eq, Col.len, and_true, true_and] at wf
    rw [vc_rwith]
    all_goals (try simp [asrt_iff, br_iff, ieq_t, ieq_f, ine_t, ine_f, ilt_t, ilt_f, ile_t, ile_f, igt_t, igt_f, ige_t, ige_f, nlt_t, nlt_f, nle_t, nle_f, neq_t, neq_f, beq2_t, beq2_f, bnot_t, bnot_f, band_t, band_f, bite_t, bite_f, bimp_t, bimp_f, iadd_e, isub_e, imul_e, ofN_e, nOf_e, nAdd_e, nDiff_e, room_e, lenI_e, gI_e, gB_e, imin_e, imax_e, cat_e, pt_e, put_e, some_f])
  · cases h


def Frdrained : Pure1 := fun
  | [.int .i64 c] => some (none, .int .i64 (drainM c))
  | _ => none

theorem vc_rdrained (c : Int) (r : AV) : VC Try.prog (tabS tabF0) noL false 41 [.int .i64 c] r = (
br (ieq c 0) (some (AV.int IntKind.i64 1) = some r) (some (AV.int IntKind.i64 c) = some r)) := by kernel_rfl

theorem ok_rdrained : PureOK Try.prog 41 Frdrained := by
  refine tab_plain mixed (l := tabF0) ok_tabF0 false (by kernel_rfl) fun xs b r h hb wf => ?_
  unfold Frdrained at h
  split at h
  · rename_i c
    cases h
    try rw [some_f] at hb
    try simp only [WFL, WF, List.mem_cons, List.not_mem_nil, or_false, forall_eq, Col.len, and_true, true_and] at wf
    rw [vc_rdrained]
    simp [asrt_iff, br_iff, ieq_t, ieq_f, ine_t, ine_f, ilt_t, ilt_f, ile_t, ile_f, igt_t, igt_f, ige_t, ige_f, nlt_t, nlt_f, nle_t, nle_f, neq_t, neq_f, beq2_t, beq2_f, bnot_t, bnot_f, band_t, band_f, bite_t, bite_f, bimp_t, bimp_f, iadd_e, isub_e, imul_e, ofN_e, nOf_e, nAdd_e, nDiff_e, room_e, lenI_e, gI_e, gB_e, imin_e, imax_e, cat_e, pt_e, put_e, some_f, drainM]
    all_goals (try grind)
  · cases h


def tabF0r : List (FuncId × Pure1) := [(55, Frwith), (41, Frdrained)] ++ tabF0

theorem ok_tabF0r : ∀ p ∈ tabF0r, PureOK Try.prog p.1 p.2 := by
  intro p hp
  simp only [tabF0r, List.mem_append, List.mem_cons, List.not_mem_nil, or_false] at hp
  rcases hp with (rfl | rfl) | hp
  · exact ok_rwith
  · exact ok_rdrained
  · exact ok_tabF0 p hp


def Frsends : Pure1 := fun
  | [.int .i64 k] => some (none, .bool (sendsB k))
  | _ => none

theorem vc_rsends (k : Int) (r : AV) : VC Try.prog (tabS tabF0) noL false 22 [.int .i64 k] r = (
some (AV.bool (bite (ige k 1) (ile k 3) false)) = some r) := by kernel_rfl

theorem ok_rsends : PureOK Try.prog 22 Frsends := by
  refine tab_plain mixed (l := tabF0) ok_tabF0 false (by kernel_rfl) fun xs b r h hb wf => ?_
  unfold Frsends at h
  split at h
  · rename_i k
    cases h
    try rw [some_f] at hb
    try simp only [WFL, WF, List.mem_cons, List.not_mem_nil, or_false, forall_eq, Col.len, and_true, true_and] at wf
    rw [vc_rsends]
    simp only [bite_and, bite_or]
    simp [asrt_iff, br_iff, ieq_t, ieq_f, ine_t, ine_f, ilt_t, ilt_f, ile_t, ile_f, igt_t, igt_f, ige_t, ige_f, nlt_t, nlt_f, nle_t, nle_f, neq_t, neq_f, beq2_t, beq2_f, bnot_t, bnot_f, band_t, band_f, bite_t, bite_f, bimp_t, bimp_f, iadd_e, isub_e, imul_e, ofN_e, nOf_e, nAdd_e, nDiff_e, room_e, lenI_e, gI_e, gB_e, imin_e, imax_e, cat_e, pt_e, put_e, some_f, sendsB]
    rw [Bool.eq_iff_iff]
    simp [asrt_iff, br_iff, ieq_t, ieq_f, ine_t, ine_f, ilt_t, ilt_f, ile_t, ile_f, igt_t, igt_f, ige_t, ige_f, nlt_t, nlt_f, nle_t, nle_f, neq_t, neq_f, beq2_t, beq2_f, bnot_t, bnot_f, band_t, band_f, bite_t, bite_f, bimp_t, bimp_f, iadd_e, isub_e, imul_e, ofN_e, nOf_e, nAdd_e, nDiff_e, room_e, lenI_e, gI_e, gB_e, imin_e, imax_e, cat_e, pt_e, put_e, some_f]
  · cases h


def Frrecvs : Pure1 := fun
  | [.int .i64 k] => some (none, .bool (recvsB k))
  | _ => none

theorem vc_rrecvs (k : Int) (r : AV) : VC Try.prog (tabS tabF0) noL false 24 [.int .i64 k] r = (
some (AV.bool (bite (ige k 4) (ile k 6) false)) = some r) := by kernel_rfl

theorem ok_rrecvs : PureOK Try.prog 24 Frrecvs := by
  refine tab_plain mixed (l := tabF0) ok_tabF0 false (by kernel_rfl) fun xs b r h hb wf => ?_
  unfold Frrecvs at h
  split at h
  · rename_i k
    cases h
    try rw [some_f] at hb
    try simp only [WFL, WF, List.mem_cons, List.not_mem_nil, or_false, forall_eq, Col.len, and_true, true_and] at wf
    rw [vc_rrecvs]
    simp only [bite_and, bite_or]
    simp [asrt_iff, br_iff, ieq_t, ieq_f, ine_t, ine_f, ilt_t, ilt_f, ile_t, ile_f, igt_t, igt_f, ige_t, ige_f, nlt_t, nlt_f, nle_t, nle_f, neq_t, neq_f, beq2_t, beq2_f, bnot_t, bnot_f, band_t, band_f, bite_t, bite_f, bimp_t, bimp_f, iadd_e, isub_e, imul_e, ofN_e, nOf_e, nAdd_e, nDiff_e, room_e, lenI_e, gI_e, gB_e, imin_e, imax_e, cat_e, pt_e, put_e, some_f, recvsB]
    rw [Bool.eq_iff_iff]
    simp [asrt_iff, br_iff, ieq_t, ieq_f, ine_t, ine_f, ilt_t, ilt_f, ile_t, ile_f, igt_t, igt_f, ige_t, ige_f, nlt_t, nlt_f, nle_t, nle_f, neq_t, neq_f, beq2_t, beq2_f, bnot_t, bnot_f, band_t, band_f, bite_t, bite_f, bimp_t, bimp_f, iadd_e, isub_e, imul_e, ofN_e, nOf_e, nAdd_e, nDiff_e, room_e, lenI_e, gI_e, gB_e, imin_e, imax_e, cat_e, pt_e, put_e, some_f]
  · cases h


def Frgone : Pure1 := fun
  | [.agg [.sl n [.int .i64 l], .int .i64 a, .int .i64 b, .int .i64 c], .int .i64 v] => some (some (nle n room), .tup [.agg [.sl (lenI (evictV l v)) [.int .i64 (evictV l v)], .int .i64 a, .int .i64 b, .int .i64 c], .bool (firstB l v)])
  | _ => none

theorem vc_rgone (n : Nat) (l : List Int) (a b c v : Int) (r : AV) : VC Try.prog (tabM [55] tabF0r) noL false 42 [.agg [.sl n [.int .i64 l], .int .i64 a, .int .i64 b, .int .i64 c], .int .i64 v] r = (
  asrt (bimp (bnot (ieq (ofN n) 0)) (ilt 0 (ofN n)))
    (br (bite (ieq (ofN n) 0) true (ine (gI l 0) v))
      (some
          (AV.tup
            [AV.agg [AV.sl n [Col.int IntKind.i64 l], AV.int IntKind.i64 a, AV.int IntKind.i64 b, AV.int IntKind.i64 c],
              AV.bool false]) =
        some r)
      (asrt (band (ile 1 (ofN n)) (ile (ofN n) (ofN n)))
        (asrt (nle (nAdd 0 (nDiff (ofN n) 1)) 1073741824)
          (some
              (AV.tup
                [AV.agg
                    [AV.sl (nAdd 0 (nDiff (ofN n) 1)) [Col.int IntKind.i64 (cat [] (pt l 1 (nDiff (ofN n) 1)))],
                      AV.int IntKind.i64 a, AV.int IntKind.i64 b, AV.int IntKind.i64 c],
                  AV.bool true]) =
            some r))))) := by kernel_rfl

theorem ok_rgone : PureOK Try.prog 42 Frgone := by
  refine tabM_plain mixed (fz := [55]) (l := tabF0r) ok_tabF0r false (by kernel_rfl) fun xs b r h hb wf => ?_
  unfold Frgone at h
  split at h
  · rename_i n l a b c v
    cases h
    try rw [some_f] at hb
    try simp only [WFL, WF, List.mem_cons, List.not_mem_nil, or_false, forall_eq, Col.len, and_true, true_and] at wf
    rw [vc_rgone]
    subst wf
    simp only [bite_and, bite_or]
    simp [asrt_iff, br_iff, ieq_t, ieq_f, ine_t, ine_f, ilt_t, ilt_f, ile_t, ile_f, igt_t, igt_f, ige_t, ige_f, nlt_t, nlt_f, nle_t, nle_f, neq_t, neq_f, beq2_t, beq2_f, bnot_t, bnot_f, band_t, band_f, bite_t, bite_f, bimp_t, bimp_f, iadd_e, isub_e, imul_e, ofN_e, nOf_e, nAdd_e, nDiff_e, room_e, lenI_e, gI_e, gB_e, imin_e, imax_e, cat_e, pt_e, put_e, some_f] at hb ⊢
    have h1 := first_head l v
    have h2 := first_iff l v
    cases l with
    | nil => simp [evictV, firstB]
    | cons y l =>
      have e1 : (((l.length : Int) + 1) - 1).toNat = l.length := by omega
      by_cases hy : y = v
      · subst hy
        simp [evictV, firstB] at hb ⊢
        omega
      · simp [evictV, firstB, hy] at hb ⊢
        try omega
  · cases h


def tabF0s : List (FuncId × Pure1) := [(42, Frgone)] ++ tabF0r

theorem ok_tabF0s : ∀ p ∈ tabF0s, PureOK Try.prog p.1 p.2 := by
  intro p hp
  simp only [tabF0s, List.mem_append, List.mem_cons, List.not_mem_nil, or_false] at hp
  rcases hp with (rfl) | hp
  · exact ok_rgone
  · exact ok_tabF0r p hp


def Frsend : Pure1 := fun
  | [.agg [.sl n [.int .i64 l], .int .i64 a, .int .i64 b, .int .i64 c], .agg [.int .i64 e0, .int .i64 e1, .int .i64 e2, .int .i64 e3, .int .i64 e4]] => some (some (nlt n room), .tup [.agg [.sl (lenI (rsV l a b c e1 e2 e3 e4)) [.int .i64 (rsV l a b c e1 e2 e3 e4)], .int .i64 a, .int .i64 b, .int .i64 c], .bool (sendB l a b c e1 e2 e3 e4)])
  | _ => none

theorem vc_rsend (n : Nat) (l : List Int) (a b c e0 e1 e2 e3 e4 : Int) (r : AV) : VC Try.prog (tabM [55] tabF0s) noL false 39 [.agg [.sl n [.int .i64 l], .int .i64 a, .int .i64 b, .int .i64 c], .agg [.int .i64 e0, .int .i64 e1, .int .i64 e2, .int .i64 e3, .int .i64 e4]] r = (
  br (ieq e3 1)
    (br (bite (ine c 0) true (ige (ofN n) a))
      (some
          (AV.tup
            [AV.agg [AV.sl n [Col.int IntKind.i64 l], AV.int IntKind.i64 a, AV.int IntKind.i64 b, AV.int IntKind.i64 c],
              AV.bool false]) =
        some r)
      (asrt (nle (nAdd 0 n) 1073741824)
        (asrt (nle (nAdd (nAdd 0 n) 1) 1073741824)
          (some
              (AV.tup
                [AV.agg
                    [AV.sl (nAdd (nAdd 0 n) 1) [Col.int IntKind.i64 (cat (cat [] l) [e2])], AV.int IntKind.i64 a,
                      AV.int IntKind.i64 b, AV.int IntKind.i64 c],
                  AV.bool true]) =
            some r))))
    (br (ieq e3 2)
      (some
          (AV.tup
            [AV.agg [AV.sl n [Col.int IntKind.i64 l], AV.int IntKind.i64 a, AV.int IntKind.i64 b, AV.int IntKind.i64 c],
              AV.bool (bite (bite (bite (ieq c 0) (ige (ofN n) a) false) (ieq b 0) false) (ieq e1 2) false)]) =
        some r)
      (br (ieq e3 3)
        (some
            (AV.tup
              [AV.agg
                  [AV.sl n [Col.int IntKind.i64 l], AV.int IntKind.i64 a, AV.int IntKind.i64 b, AV.int IntKind.i64 c],
                AV.bool (bite (bite (ieq c 0) (ige (ofN n) a) false) (ieq b 1) false)]) =
          some r)
        (br (ieq e3 5)
          (some
              (AV.tup
                [AV.agg
                    [AV.sl n [Col.int IntKind.i64 l], AV.int IntKind.i64 a, AV.int IntKind.i64 b, AV.int IntKind.i64 c],
                  AV.bool (ieq e1 3)]) =
            some r)
          (br (ieq e3 6)
            (some
                (AV.tup
                  [AV.agg
                      [AV.sl n [Col.int IntKind.i64 l], AV.int IntKind.i64 a, AV.int IntKind.i64 b,
                        AV.int IntKind.i64 c],
                    AV.bool (ieq c 1)]) =
              some r)
            (br (ieq e3 7)
              (some
                  (AV.tup
                    [AV.agg
                        [AV.sl n [Col.int IntKind.i64 l], AV.int IntKind.i64 a, AV.int IntKind.i64 b,
                          AV.int IntKind.i64 c],
                      AV.bool (ieq c 2)]) =
                some r)
              (some
                  (AV.tup
                    [AV.agg
                        [AV.sl n [Col.int IntKind.i64 l], AV.int IntKind.i64 a, AV.int IntKind.i64 b,
                          AV.int IntKind.i64 c],
                      AV.bool false]) =
                some r))))))) := by kernel_rfl

theorem ok_rsend : PureOK Try.prog 39 Frsend := by
  refine tabM_plain mixed (fz := [55]) (l := tabF0s) ok_tabF0s false (by kernel_rfl) fun xs b r h hb wf => ?_
  unfold Frsend at h
  split at h
  · rename_i n l a b c e0 e1 e2 e3 e4
    cases h
    try rw [some_f] at hb
    try simp only [WFL, WF, List.mem_cons, List.not_mem_nil, or_false, forall_eq, Col.len, and_true, true_and] at wf
    rw [vc_rsend]
    subst wf
    simp only [bite_and, bite_or]
    simp only [nlt_t] at hb
    have hr : room = 1073741824 := rfl
    rw [hr] at hb
    have b1 : l.length ≤ 1073741824 := by omega
    have b2 : l.length ≤ 1073741823 := by omega
    have key : e3 = 1 ∨ e3 = 2 ∨ e3 = 3 ∨ e3 = 5 ∨ e3 = 6 ∨ e3 = 7 ∨ (¬ e3 = 1 ∧ ¬ e3 = 2 ∧ ¬ e3 = 3 ∧ ¬ e3 = 5 ∧ ¬ e3 = 6 ∧ ¬ e3 = 7) := by omega
    rcases key with rfl | rfl | rfl | rfl | rfl | rfl | ⟨u1, u2, u3, u5, u6, u7⟩
    · by_cases hc : c = 0
      · by_cases ha : a ≤ (l.length : Int)
        · simp [asrt_iff, br_iff, ieq_t, ieq_f, ine_t, ine_f, ilt_t, ilt_f, ile_t, ile_f, igt_t, igt_f, ige_t, ige_f, nlt_t, nlt_f, nle_t, nle_f, neq_t, neq_f, beq2_t, beq2_f, bnot_t, bnot_f, band_t, band_f, bite_t, bite_f, bimp_t, bimp_f, iadd_e, isub_e, imul_e, ofN_e, nOf_e, nAdd_e, nDiff_e, room_e, lenI_e, gI_e, gB_e, imin_e, imax_e, cat_e, pt_e, put_e, some_f, rsV, sendB, sendV, hc, ha, b1, b2]
        · simp [asrt_iff, br_iff, ieq_t, ieq_f, ine_t, ine_f, ilt_t, ilt_f, ile_t, ile_f, igt_t, igt_f, ige_t, ige_f, nlt_t, nlt_f, nle_t, nle_f, neq_t, neq_f, beq2_t, beq2_f, bnot_t, bnot_f, band_t, band_f, bite_t, bite_f, bimp_t, bimp_f, iadd_e, isub_e, imul_e, ofN_e, nOf_e, nAdd_e, nDiff_e, room_e, lenI_e, gI_e, gB_e, imin_e, imax_e, cat_e, pt_e, put_e, some_f, rsV, sendB, sendV, hc, ha, b1, b2]
          all_goals (try omega)
      · simp [asrt_iff, br_iff, ieq_t, ieq_f, ine_t, ine_f, ilt_t, ilt_f, ile_t, ile_f, igt_t, igt_f, ige_t, ige_f, nlt_t, nlt_f, nle_t, nle_f, neq_t, neq_f, beq2_t, beq2_f, bnot_t, bnot_f, band_t, band_f, bite_t, bite_f, bimp_t, bimp_f, iadd_e, isub_e, imul_e, ofN_e, nOf_e, nAdd_e, nDiff_e, room_e, lenI_e, gI_e, gB_e, imin_e, imax_e, cat_e, pt_e, put_e, some_f, rsV, sendB, sendV, hc, b1, b2]
    all_goals simp [asrt_iff, br_iff, ieq_t, ieq_f, ine_t, ine_f, ilt_t, ilt_f, ile_t, ile_f, igt_t, igt_f, ige_t, ige_f, nlt_t, nlt_f, nle_t, nle_f, neq_t, neq_f, beq2_t, beq2_f, bnot_t, bnot_f, band_t, band_f, bite_t, bite_f, bimp_t, bimp_f, iadd_e, isub_e, imul_e, ofN_e, nOf_e, nAdd_e, nDiff_e, room_e, lenI_e, gI_e, gB_e, imin_e, imax_e, cat_e, pt_e, put_e, some_f, rsV, sendB, sendV, b1, *]
    all_goals (try (rw [Bool.eq_iff_iff]; simp [asrt_iff, br_iff, ieq_t, ieq_f, ine_t, ine_f, ilt_t, ilt_f, ile_t, ile_f, igt_t, igt_f, ige_t, ige_f, nlt_t, nlt_f, nle_t, nle_f, neq_t, neq_f, beq2_t, beq2_f, bnot_t, bnot_f, band_t, band_f, bite_t, bite_f, bimp_t, bimp_f, iadd_e, isub_e, imul_e, ofN_e, nOf_e, nAdd_e, nDiff_e, room_e, lenI_e, gI_e, gB_e, imin_e, imax_e, cat_e, pt_e, put_e, some_f]))
    all_goals (try grind)
  · cases h


def Frrecv : Pure1 := fun
  | [.agg [.sl n [.int .i64 l], .int .i64 a, .int .i64 b, .int .i64 c], .agg [.int .i64 e0, .int .i64 e1, .int .i64 e2, .int .i64 e3, .int .i64 e4]] => some (some (nle n room), .tup [.agg [.sl (lenI (rrV l a b c e1 e2 e3 e4)) [.int .i64 (rrV l a b c e1 e2 e3 e4)], .int .i64 a, .int .i64 b, .int .i64 c], .bool (recvB l a b c e1 e2 e3 e4)])
  | _ => none

theorem vc_rrecv (n : Nat) (l : List Int) (a b c e0 e1 e2 e3 e4 : Int) (r : AV) : VC Try.prog (tabS tabF0s) noL false 40 [.agg [.sl n [.int .i64 l], .int .i64 a, .int .i64 b, .int .i64 c], .agg [.int .i64 e0, .int .i64 e1, .int .i64 e2, .int .i64 e3, .int .i64 e4]] r = (
  br (ieq e3 1)
    (br (ieq c 2)
      (some
          (AV.tup
            [AV.agg [AV.sl n [Col.int IntKind.i64 l], AV.int IntKind.i64 a, AV.int IntKind.i64 b, AV.int IntKind.i64 c],
              AV.bool false]) =
        some r)
      (asrt (nle n 1073741824)
        (some
            (AV.tup
              [AV.agg
                  [AV.sl (lenI (evictV l e4)) [Col.int IntKind.i64 (evictV l e4)], AV.int IntKind.i64 a,
                    AV.int IntKind.i64 b, AV.int IntKind.i64 c],
                AV.bool (firstB l e4)]) =
          some r)))
    (br (ieq e3 4)
      (some
          (AV.tup
            [AV.agg [AV.sl n [Col.int IntKind.i64 l], AV.int IntKind.i64 a, AV.int IntKind.i64 b, AV.int IntKind.i64 c],
              AV.bool (bite (bite (ieq c 0) (ieq (ofN n) 0) false) (ieq e1 5) false)]) =
        some r)
      (br (ieq e3 5)
        (some
            (AV.tup
              [AV.agg
                  [AV.sl n [Col.int IntKind.i64 l], AV.int IntKind.i64 a, AV.int IntKind.i64 b, AV.int IntKind.i64 c],
                AV.bool (ieq e1 6)]) =
          some r)
        (br (ieq e3 6)
          (some
              (AV.tup
                [AV.agg
                    [AV.sl n [Col.int IntKind.i64 l], AV.int IntKind.i64 a, AV.int IntKind.i64 b, AV.int IntKind.i64 c],
                  AV.bool (bite (ieq c 1) (ieq (ofN n) 0) false)]) =
            some r)
          (br (ieq e3 7)
            (some
                (AV.tup
                  [AV.agg
                      [AV.sl n [Col.int IntKind.i64 l], AV.int IntKind.i64 a, AV.int IntKind.i64 b,
                        AV.int IntKind.i64 c],
                    AV.bool (ieq c 2)]) =
              some r)
            (some
                (AV.tup
                  [AV.agg
                      [AV.sl n [Col.int IntKind.i64 l], AV.int IntKind.i64 a, AV.int IntKind.i64 b,
                        AV.int IntKind.i64 c],
                    AV.bool false]) =
              some r)))))) := by kernel_rfl

theorem ok_rrecv : PureOK Try.prog 40 Frrecv := by
  refine tab_plain mixed (l := tabF0s) ok_tabF0s false (by kernel_rfl) fun xs b r h hb wf => ?_
  unfold Frrecv at h
  split at h
  · rename_i n l a b c e0 e1 e2 e3 e4
    cases h
    try rw [some_f] at hb
    try simp only [WFL, WF, List.mem_cons, List.not_mem_nil, or_false, forall_eq, Col.len, and_true, true_and] at wf
    rw [vc_rrecv]
    subst wf
    simp only [bite_and, bite_or]
    simp only [nle_t] at hb
    have hr : room = 1073741824 := rfl
    rw [hr] at hb
    have h1 := first_head l e4
    have hz : (l.length : Int) = 0 ↔ l = [] := by cases l <;> simp <;> omega
    have key : e3 = 1 ∨ e3 = 4 ∨ e3 = 5 ∨ e3 = 6 ∨ e3 = 7 ∨ (¬ e3 = 1 ∧ ¬ e3 = 4 ∧ ¬ e3 = 5 ∧ ¬ e3 = 6 ∧ ¬ e3 = 7) := by omega
    rcases key with rfl | rfl | rfl | rfl | rfl | ⟨u1, u4, u5, u6, u7⟩
    · by_cases hc : c = 2
      · simp [asrt_iff, br_iff, ieq_t, ieq_f, ine_t, ine_f, ilt_t, ilt_f, ile_t, ile_f, igt_t, igt_f, ige_t, ige_f, nlt_t, nlt_f, nle_t, nle_f, neq_t, neq_f, beq2_t, beq2_f, bnot_t, bnot_f, band_t, band_f, bite_t, bite_f, bimp_t, bimp_f, iadd_e, isub_e, imul_e, ofN_e, nOf_e, nAdd_e, nDiff_e, room_e, lenI_e, gI_e, gB_e, imin_e, imax_e, cat_e, pt_e, put_e, some_f, rrV, recvB, recvV, hc, hb]
      · cases hf : firstB l e4 with
        | true =>
          have hh := h1.1 hf
          simp [asrt_iff, br_iff, ieq_t, ieq_f, ine_t, ine_f, ilt_t, ilt_f, ile_t, ile_f, igt_t, igt_f, ige_t, ige_f, nlt_t, nlt_f, nle_t, nle_f, neq_t, neq_f, beq2_t, beq2_f, bnot_t, bnot_f, band_t, band_f, bite_t, bite_f, bimp_t, bimp_f, iadd_e, isub_e, imul_e, ofN_e, nOf_e, nAdd_e, nDiff_e, room_e, lenI_e, gI_e, gB_e, imin_e, imax_e, cat_e, pt_e, put_e, some_f, rrV, recvB, recvV, evictV, hc, hb, hf, hh]
        | false =>
          have hh : ¬ l.head? = some e4 := fun h => by rw [h1.2 h] at hf; cases hf
          simp [asrt_iff, br_iff, ieq_t, ieq_f, ine_t, ine_f, ilt_t, ilt_f, ile_t, ile_f, igt_t, igt_f, ige_t, ige_f, nlt_t, nlt_f, nle_t, nle_f, neq_t, neq_f, beq2_t, beq2_f, bnot_t, bnot_f, band_t, band_f, bite_t, bite_f, bimp_t, bimp_f, iadd_e, isub_e, imul_e, ofN_e, nOf_e, nAdd_e, nDiff_e, room_e, lenI_e, gI_e, gB_e, imin_e, imax_e, cat_e, pt_e, put_e, some_f, rrV, recvB, recvV, evictV, hc, hb, hf, hh]
    all_goals simp [asrt_iff, br_iff, ieq_t, ieq_f, ine_t, ine_f, ilt_t, ilt_f, ile_t, ile_f, igt_t, igt_f, ige_t, ige_f, nlt_t, nlt_f, nle_t, nle_f, neq_t, neq_f, beq2_t, beq2_f, bnot_t, bnot_f, band_t, band_f, bite_t, bite_f, bimp_t, bimp_f, iadd_e, isub_e, imul_e, ofN_e, nOf_e, nAdd_e, nDiff_e, room_e, lenI_e, gI_e, gB_e, imin_e, imax_e, cat_e, pt_e, put_e, some_f, rrV, recvB, recvV, hb, *]
    all_goals (try (rw [Bool.eq_iff_iff]; simp [asrt_iff, br_iff, ieq_t, ieq_f, ine_t, ine_f, ilt_t, ilt_f, ile_t, ile_f, igt_t, igt_f, ige_t, ige_f, nlt_t, nlt_f, nle_t, nle_f, neq_t, neq_f, beq2_t, beq2_f, bnot_t, bnot_f, band_t, band_f, bite_t, bite_f, bimp_t, bimp_f, iadd_e, isub_e, imul_e, ofN_e, nOf_e, nAdd_e, nDiff_e, room_e, lenI_e, gI_e, gB_e, imin_e, imax_e, cat_e, pt_e, put_e, some_f]))
    all_goals (try grind)
  · cases h


def tabF0t : List (FuncId × Pure1) := [(39, Frsend), (40, Frrecv), (22, Frsends), (24, Frrecvs)] ++ tabF0s

theorem ok_tabF0t : ∀ p ∈ tabF0t, PureOK Try.prog p.1 p.2 := by
  intro p hp
  simp only [tabF0t, List.mem_append, List.mem_cons, List.not_mem_nil, or_false] at hp
  rcases hp with (rfl | rfl | rfl | rfl) | hp
  · exact ok_rsend
  · exact ok_rrecv
  · exact ok_rsends
  · exact ok_rrecvs
  · exact ok_tabF0s p hp


def Frdo : Pure1 := fun
  | [.agg [.sl n [.int .i64 l], .int .i64 a, .int .i64 b, .int .i64 c], .agg [.int .i64 e0, .int .i64 e1, .int .i64 e2, .int .i64 e3, .int .i64 e4]] => some (some (nlt n room), .tup [.agg [.sl (lenI (valS l a b c e1 e2 e3 e4)) [.int .i64 (valS l a b c e1 e2 e3 e4)], .int .i64 a, .int .i64 b, .int .i64 (modeS l a b c e1 e2 e3 e4)], .bool (mayS l a b c e1 e2 e3 e4)])
  | _ => none

theorem vc_rdo (n : Nat) (l : List Int) (a b c e0 e1 e2 e3 e4 : Int) (r : AV) : VC Try.prog (tabS tabF0t) noL false 17 [.agg [.sl n [.int .i64 l], .int .i64 a, .int .i64 b, .int .i64 c], .agg [.int .i64 e0, .int .i64 e1, .int .i64 e2, .int .i64 e3, .int .i64 e4]] r = (
  br (sendsB e1)
    (asrt (nlt n 1073741824)
      (some
          (AV.tup
            [AV.agg
                [AV.sl (lenI (rsV l a b c e1 e2 e3 e4)) [Col.int IntKind.i64 (rsV l a b c e1 e2 e3 e4)],
                  AV.int IntKind.i64 a, AV.int IntKind.i64 b, AV.int IntKind.i64 c],
              AV.bool (sendB l a b c e1 e2 e3 e4)]) =
        some r))
    (br (recvsB e1)
      (asrt (nle n 1073741824)
        (some
            (AV.tup
              [AV.agg
                  [AV.sl (lenI (rrV l a b c e1 e2 e3 e4)) [Col.int IntKind.i64 (rrV l a b c e1 e2 e3 e4)],
                    AV.int IntKind.i64 a, AV.int IntKind.i64 b, AV.int IntKind.i64 c],
                AV.bool (recvB l a b c e1 e2 e3 e4)]) =
          some r))
      (br (ine e3 1)
        (some
            (AV.tup
              [AV.agg
                  [AV.sl n [Col.int IntKind.i64 l], AV.int IntKind.i64 a, AV.int IntKind.i64 b, AV.int IntKind.i64 c],
                AV.bool false]) =
          some r)
        (br (ieq e1 7)
          (some
              (AV.tup
                [AV.agg
                    [AV.sl n [Col.int IntKind.i64 l], AV.int IntKind.i64 a, AV.int IntKind.i64 b,
                      AV.int IntKind.i64 (drainM c)],
                  AV.bool true]) =
            some r)
          (br (ieq e1 8)
            (some
                (AV.tup
                  [AV.agg
                      [AV.sl n [Col.int IntKind.i64 l], AV.int IntKind.i64 a, AV.int IntKind.i64 b,
                        AV.int IntKind.i64 2],
                    AV.bool true]) =
              some r)
            (br (ieq e1 9)
              (br (bite (bite (ine c 0) true (ine b 2)) true (ilt (ofN n) a))
                (some
                    (AV.tup
                      [AV.agg
                          [AV.sl n [Col.int IntKind.i64 l], AV.int IntKind.i64 a, AV.int IntKind.i64 b,
                            AV.int IntKind.i64 c],
                        AV.bool false]) =
                  some r)
                (asrt (nle n 1073741824)
                  (some
                      (AV.tup
                        [AV.agg
                            [AV.sl (lenI (evictV l e4)) [Col.int IntKind.i64 (evictV l e4)], AV.int IntKind.i64 a,
                              AV.int IntKind.i64 b, AV.int IntKind.i64 c],
                          AV.bool (firstB l e4)]) =
                    some r)))
              (some
                  (AV.tup
                    [AV.agg
                        [AV.sl n [Col.int IntKind.i64 l], AV.int IntKind.i64 a, AV.int IntKind.i64 b,
                          AV.int IntKind.i64 c],
                      AV.bool false]) =
                some r))))))) := by kernel_rfl

theorem ok_rdo : PureOK Try.prog 17 Frdo := by
  refine tab_plain mixed (l := tabF0t) ok_tabF0t false (by kernel_rfl) fun xs b r h hb wf => ?_
  unfold Frdo at h
  split at h
  · rename_i n l a b c e0 e1 e2 e3 e4
    cases h
    try rw [some_f] at hb
    try simp only [WFL, WF, List.mem_cons, List.not_mem_nil, or_false, forall_eq, Col.len, and_true, true_and] at wf
    rw [vc_rdo]
    subst wf
    simp only [bite_and, bite_or]
    simp only [nlt_t] at hb
    have hr : room = 1073741824 := rfl
    rw [hr] at hb
    have b1 : l.length ≤ 1073741824 := by omega
    have h1 := first_head l e4
    by_cases hs : 1 ≤ e1 ∧ e1 ≤ 3
    · have n9 : ¬ e1 = 9 := by omega
      have n7 : ¬ e1 = 7 := by omega
      have n8 : ¬ e1 = 8 := by omega
      have sb : sendsB e1 = true := by simp [sendsB, hs]
      cases hB : sendB l a b c e1 e2 e3 e4 <;> simp [asrt_iff, br_iff, ieq_t, ieq_f, ine_t, ine_f, ilt_t, ilt_f, ile_t, ile_f, igt_t, igt_f, ige_t, ige_f, nlt_t, nlt_f, nle_t, nle_f, neq_t, neq_f, beq2_t, beq2_f, bnot_t, bnot_f, band_t, band_f, bite_t, bite_f, bimp_t, bimp_f, iadd_e, isub_e, imul_e, ofN_e, nOf_e, nAdd_e, nDiff_e, room_e, lenI_e, gI_e, gB_e, imin_e, imax_e, cat_e, pt_e, put_e, some_f, mayS, valS, modeS, rsV, hs, n9, n7, n8, sb, hb, hB]
    by_cases hv : 4 ≤ e1 ∧ e1 ≤ 6
    · have n9 : ¬ e1 = 9 := by omega
      have n7 : ¬ e1 = 7 := by omega
      have n8 : ¬ e1 = 8 := by omega
      have n3 : ¬ e1 ≤ 3 := by omega
      have sb : sendsB e1 = false := by simp [sendsB]; omega
      have rb : recvsB e1 = true := by simp [recvsB, hv]
      cases hB : recvB l a b c e1 e2 e3 e4 <;> simp [asrt_iff, br_iff, ieq_t, ieq_f, ine_t, ine_f, ilt_t, ilt_f, ile_t, ile_f, igt_t, igt_f, ige_t, ige_f, nlt_t, nlt_f, nle_t, nle_f, neq_t, neq_f, beq2_t, beq2_f, bnot_t, bnot_f, band_t, band_f, bite_t, bite_f, bimp_t, bimp_f, iadd_e, isub_e, imul_e, ofN_e, nOf_e, nAdd_e, nDiff_e, room_e, lenI_e, gI_e, gB_e, imin_e, imax_e, cat_e, pt_e, put_e, some_f, mayS, valS, modeS, rrV, hv, n9, n7, n8, n3, sb, rb, b1, hB]
    have s1 : 1 ≤ e1 → ¬ e1 ≤ 3 := by omega
    have s2 : 4 ≤ e1 → ¬ e1 ≤ 6 := by omega
    have sb : sendsB e1 = false := by simp [sendsB]; omega
    have rb : recvsB e1 = false := by simp [recvsB]; omega
    by_cases r1 : e3 = 1
    · subst r1
      by_cases c7 : e1 = 7
      · subst c7; simp [asrt_iff, br_iff, ieq_t, ieq_f, ine_t, ine_f, ilt_t, ilt_f, ile_t, ile_f, igt_t, igt_f, ige_t, ige_f, nlt_t, nlt_f, nle_t, nle_f, neq_t, neq_f, beq2_t, beq2_f, bnot_t, bnot_f, band_t, band_f, bite_t, bite_f, bimp_t, bimp_f, iadd_e, isub_e, imul_e, ofN_e, nOf_e, nAdd_e, nDiff_e, room_e, lenI_e, gI_e, gB_e, imin_e, imax_e, cat_e, pt_e, put_e, some_f, mayS, valS, modeS, ieq, sb, rb]
      by_cases c8 : e1 = 8
      · subst c8; simp [asrt_iff, br_iff, ieq_t, ieq_f, ine_t, ine_f, ilt_t, ilt_f, ile_t, ile_f, igt_t, igt_f, ige_t, ige_f, nlt_t, nlt_f, nle_t, nle_f, neq_t, neq_f, beq2_t, beq2_f, bnot_t, bnot_f, band_t, band_f, bite_t, bite_f, bimp_t, bimp_f, iadd_e, isub_e, imul_e, ofN_e, nOf_e, nAdd_e, nDiff_e, room_e, lenI_e, gI_e, gB_e, imin_e, imax_e, cat_e, pt_e, put_e, some_f, mayS, valS, modeS, ieq, sb, rb]
      by_cases c9 : e1 = 9
      · subst c9
        cases hf : firstB l e4 with
        | true =>
          have hh := h1.1 hf
          by_cases hc : c = 0 <;> by_cases hb2 : b = 2 <;> by_cases ha : a ≤ (l.length : Int) <;> simp [asrt_iff, br_iff, ieq_t, ieq_f, ine_t, ine_f, ilt_t, ilt_f, ile_t, ile_f, igt_t, igt_f, ige_t, ige_f, nlt_t, nlt_f, nle_t, nle_f, neq_t, neq_f, beq2_t, beq2_f, bnot_t, bnot_f, band_t, band_f, bite_t, bite_f, bimp_t, bimp_f, iadd_e, isub_e, imul_e, ofN_e, nOf_e, nAdd_e, nDiff_e, room_e, lenI_e, gI_e, gB_e, imin_e, imax_e, cat_e, pt_e, put_e, some_f, mayS, valS, modeS, sb, rb, evictB, evictV, hh, hf, hc, hb2, ha, b1]
          all_goals (try omega)
        | false =>
          have hh : ¬ l.head? = some e4 := fun h => by rw [h1.2 h] at hf; cases hf
          by_cases hc : c = 0 <;> by_cases hb2 : b = 2 <;> by_cases ha : a ≤ (l.length : Int) <;> simp [asrt_iff, br_iff, ieq_t, ieq_f, ine_t, ine_f, ilt_t, ilt_f, ile_t, ile_f, igt_t, igt_f, ige_t, ige_f, nlt_t, nlt_f, nle_t, nle_f, neq_t, neq_f, beq2_t, beq2_f, bnot_t, bnot_f, band_t, band_f, bite_t, bite_f, bimp_t, bimp_f, iadd_e, isub_e, imul_e, ofN_e, nOf_e, nAdd_e, nDiff_e, room_e, lenI_e, gI_e, gB_e, imin_e, imax_e, cat_e, pt_e, put_e, some_f, mayS, valS, modeS, sb, rb, evictB, evictV, hh, hf, hc, hb2, ha, b1]
          all_goals (try omega)
      · have hm : mayS l a b c e1 e2 1 e4 = false := by
          unfold mayS
          rw [if_neg c9, if_neg c7, if_neg c8, if_neg hs, if_neg hv]
        simp [asrt_iff, br_iff, ieq_t, ieq_f, ine_t, ine_f, ilt_t, ilt_f, ile_t, ile_f, igt_t, igt_f, ige_t, ige_f, nlt_t, nlt_f, nle_t, nle_f, neq_t, neq_f, beq2_t, beq2_f, bnot_t, bnot_f, band_t, band_f, bite_t, bite_f, bimp_t, bimp_f, iadd_e, isub_e, imul_e, ofN_e, nOf_e, nAdd_e, nDiff_e, room_e, lenI_e, gI_e, gB_e, imin_e, imax_e, cat_e, pt_e, put_e, some_f, hm, valS, modeS, c7, c8, c9, sb, rb]
    · have hm : mayS l a b c e1 e2 e3 e4 = false := by
        unfold mayS evictB
        rw [if_neg hs, if_neg hv]
        simp [ieq, r1]
      simp [asrt_iff, br_iff, ieq_t, ieq_f, ine_t, ine_f, ilt_t, ilt_f, ile_t, ile_f, igt_t, igt_f, ige_t, ige_f, nlt_t, nlt_f, nle_t, nle_f, neq_t, neq_f, beq2_t, beq2_f, bnot_t, bnot_f, band_t, band_f, bite_t, bite_f, bimp_t, bimp_f, iadd_e, isub_e, imul_e, ofN_e, nOf_e, nAdd_e, nDiff_e, room_e, lenI_e, gI_e, gB_e, imin_e, imax_e, cat_e, pt_e, put_e, some_f, hm, valS, modeS, r1, sb, rb]
  · cases h


def tabG : List (FuncId × Pure1) := [(17, Frdo), (22, Frsends), (24, Frrecvs)] ++ tabF3

theorem ok_tabG : ∀ p ∈ tabG, PureOK Try.prog p.1 p.2 := by
  intro p hp
  simp only [tabG, List.mem_append, List.mem_cons, List.not_mem_nil, or_false] at hp
  rcases hp with (rfl | rfl | rfl) | hp
  · exact ok_rdo
  · exact ok_rsends
  · exact ok_rrecvs
  · exact ok_tabF3 p hp


def spec_rall : LoopSpec := { n := 32, keep := [1, 2, 4, 6], srcs := [.tmp 2, .tmp 4], keepE := [1, 2, 4, 5], srcsE := [.tmp 2, .tmp 4], goes := fun vals objs Q => match vals, objs with
  | [.sl n [.int .i64 c0, .int .i64 ks, .int .i64 vs, .int .i64 rs, .int .i64 gs], .ptr 0 0 0, .ptr 1 0 0, .int .i64 i], [some (.var [.sl k [.int .i64 x], .int .i64 a, .int .i64 b, .int .i64 c]), some (.var [.sl z [.int .i64 zl], .int .i64 z1, .int .i64 z2, .int .i64 z3])] => asrt (runOk k n i) (br (ieq (runC x a b c ks vs rs gs i) (ofN n)) (Q (.exit 0) [.sl n [.int .i64 c0, .int .i64 ks, .int .i64 vs, .int .i64 rs, .int .i64 gs], .ptr 0 0 0, .ptr 1 0 0, .top] [some (.var [.sl (lenI (runV x a b c ks vs rs gs i)) [.int .i64 (runV x a b c ks vs rs gs i)], .int .i64 a, .int .i64 b, .int .i64 (runM x a b c ks vs rs gs i)]), some (.var [.sl z [.int .i64 zl], .int .i64 z1, .int .i64 z2, .int .i64 z3])]) (Q .ret [.sl n [.int .i64 c0, .int .i64 ks, .int .i64 vs, .int .i64 rs, .int .i64 gs], .ptr 0 0 0, .ptr 1 0 0, .int .i64 (runC x a b c ks vs rs gs i)] [some (.var [.sl (lenI (runV x a b c ks vs rs gs i)) [.int .i64 (runV x a b c ks vs rs gs i)], .int .i64 a, .int .i64 b, .int .i64 (runM x a b c ks vs rs gs i)]), some (.var [.sl (lenI (runV x a b c ks vs rs gs i)) [.int .i64 (runV x a b c ks vs rs gs i)], .int .i64 a, .int .i64 b, .int .i64 (runM x a b c ks vs rs gs i)])]))
  | _, _ => False }

theorem lp_rall (n : Nat) (c0 ks vs rs gs : List Int) (i : Int) (k : Nat) (x : List Int) (a b c : Int) (z : Nat) (zl : List Int) (z1 z2 z3 : Int) (mu : List AV → Heap → Nat) (Q : Ex → List AV → Heap → Prop) : runCode Try.prog (tabS tabG) (callN Try.prog (tabS tabG) noL 11) (fun _ => none) (bodyOf Try.prog 20 0) 0 ⟨mkT (spec_rall).keep [.sl n [.int .i64 c0, .int .i64 ks, .int .i64 vs, .int .i64 rs, .int .i64 gs], .ptr 0 0 0, .ptr 1 0 0, .int .i64 i] (spec_rall).n 0, [some (.var [.sl k [.int .i64 x], .int .i64 a, .int .i64 b, .int .i64 c]), some (.var [.sl z [.int .i64 zl], .int .i64 z1, .int .i64 z2, .int .i64 z3])]⟩ ((spec_rall).ends mu [.sl n [.int .i64 c0, .int .i64 ks, .int .i64 vs, .int .i64 rs, .int .i64 gs], .ptr 0 0 0, .ptr 1 0 0, .int .i64 i] [some (.var [.sl k [.int .i64 x], .int .i64 a, .int .i64 b, .int .i64 c]), some (.var [.sl z [.int .i64 zl], .int .i64 z1, .int .i64 z2, .int .i64 z3])] Q) = (
  br (ilt i (ofN n))
    (asrt (band (ile 0 i) (ilt i (ofN n)))
      (asrt (nlt k 1073741824)
        (br (bnot (mayS x a b c (gI ks (nOf i)) (gI vs (nOf i)) (gI rs (nOf i)) (gI gs (nOf i))))
          (Q Ex.ret
            [AV.sl n
                [Col.int IntKind.i64 c0, Col.int IntKind.i64 ks, Col.int IntKind.i64 vs, Col.int IntKind.i64 rs,
                  Col.int IntKind.i64 gs],
              AV.ptr 0 0 0, AV.ptr 1 0 0, AV.int IntKind.i64 i]
            [some
                (AObj.var
                  [AV.sl k [Col.int IntKind.i64 x], AV.int IntKind.i64 a, AV.int IntKind.i64 b, AV.int IntKind.i64 c]),
              some
                (AObj.var
                  [AV.sl k [Col.int IntKind.i64 x], AV.int IntKind.i64 a, AV.int IntKind.i64 b, AV.int IntKind.i64 c])])
          ((mu
                    [AV.sl n
                        [Col.int IntKind.i64 c0, Col.int IntKind.i64 ks, Col.int IntKind.i64 vs, Col.int IntKind.i64 rs,
                          Col.int IntKind.i64 gs],
                      AV.ptr 0 0 0, AV.ptr 1 0 0, AV.int IntKind.i64 (iadd IntKind.i64 i 1)]
                    [some
                        (AObj.var
                          [AV.sl (lenI (valS x a b c (gI ks (nOf i)) (gI vs (nOf i)) (gI rs (nOf i)) (gI gs (nOf i))))
                              [Col.int IntKind.i64
                                  (valS x a b c (gI ks (nOf i)) (gI vs (nOf i)) (gI rs (nOf i)) (gI gs (nOf i)))],
                            AV.int IntKind.i64 a, AV.int IntKind.i64 b,
                            AV.int IntKind.i64
                              (modeS x a b c (gI ks (nOf i)) (gI vs (nOf i)) (gI rs (nOf i)) (gI gs (nOf i)))]),
                      some
                        (AObj.var
                          [AV.sl z [Col.int IntKind.i64 zl], AV.int IntKind.i64 z1, AV.int IntKind.i64 z2,
                            AV.int IntKind.i64 z3])]).succ.le
              (mu
                [AV.sl n
                    [Col.int IntKind.i64 c0, Col.int IntKind.i64 ks, Col.int IntKind.i64 vs, Col.int IntKind.i64 rs,
                      Col.int IntKind.i64 gs],
                  AV.ptr 0 0 0, AV.ptr 1 0 0, AV.int IntKind.i64 i]
                [some
                    (AObj.var
                      [AV.sl k [Col.int IntKind.i64 x], AV.int IntKind.i64 a, AV.int IntKind.i64 b,
                        AV.int IntKind.i64 c]),
                  some
                    (AObj.var
                      [AV.sl z [Col.int IntKind.i64 zl], AV.int IntKind.i64 z1, AV.int IntKind.i64 z2,
                        AV.int IntKind.i64 z3])]) ∧
            asrt
              (runOk (lenI (valS x a b c (gI ks (nOf i)) (gI vs (nOf i)) (gI rs (nOf i)) (gI gs (nOf i)))) n
                (iadd IntKind.i64 i 1))
              (br
                (ieq
                  (runC (valS x a b c (gI ks (nOf i)) (gI vs (nOf i)) (gI rs (nOf i)) (gI gs (nOf i))) a b
                    (modeS x a b c (gI ks (nOf i)) (gI vs (nOf i)) (gI rs (nOf i)) (gI gs (nOf i))) ks vs rs gs
                    (iadd IntKind.i64 i 1))
                  (ofN n))
                (Q (Ex.exit 0)
                  [AV.sl n
                      [Col.int IntKind.i64 c0, Col.int IntKind.i64 ks, Col.int IntKind.i64 vs, Col.int IntKind.i64 rs,
                        Col.int IntKind.i64 gs],
                    AV.ptr 0 0 0, AV.ptr 1 0 0, AV.top]
                  [some
                      (AObj.var
                        [AV.sl
                            (lenI
                              (runV (valS x a b c (gI ks (nOf i)) (gI vs (nOf i)) (gI rs (nOf i)) (gI gs (nOf i))) a b
                                (modeS x a b c (gI ks (nOf i)) (gI vs (nOf i)) (gI rs (nOf i)) (gI gs (nOf i))) ks vs rs
                                gs (iadd IntKind.i64 i 1)))
                            [Col.int IntKind.i64
                                (runV (valS x a b c (gI ks (nOf i)) (gI vs (nOf i)) (gI rs (nOf i)) (gI gs (nOf i))) a b
                                  (modeS x a b c (gI ks (nOf i)) (gI vs (nOf i)) (gI rs (nOf i)) (gI gs (nOf i))) ks vs
                                  rs gs (iadd IntKind.i64 i 1))],
                          AV.int IntKind.i64 a, AV.int IntKind.i64 b,
                          AV.int IntKind.i64
                            (runM (valS x a b c (gI ks (nOf i)) (gI vs (nOf i)) (gI rs (nOf i)) (gI gs (nOf i))) a b
                              (modeS x a b c (gI ks (nOf i)) (gI vs (nOf i)) (gI rs (nOf i)) (gI gs (nOf i))) ks vs rs
                              gs (iadd IntKind.i64 i 1))]),
                    some
                      (AObj.var
                        [AV.sl z [Col.int IntKind.i64 zl], AV.int IntKind.i64 z1, AV.int IntKind.i64 z2,
                          AV.int IntKind.i64 z3])])
                (Q Ex.ret
                  [AV.sl n
                      [Col.int IntKind.i64 c0, Col.int IntKind.i64 ks, Col.int IntKind.i64 vs, Col.int IntKind.i64 rs,
                        Col.int IntKind.i64 gs],
                    AV.ptr 0 0 0, AV.ptr 1 0 0,
                    AV.int IntKind.i64
                      (runC (valS x a b c (gI ks (nOf i)) (gI vs (nOf i)) (gI rs (nOf i)) (gI gs (nOf i))) a b
                        (modeS x a b c (gI ks (nOf i)) (gI vs (nOf i)) (gI rs (nOf i)) (gI gs (nOf i))) ks vs rs gs
                        (iadd IntKind.i64 i 1))]
                  [some
                      (AObj.var
                        [AV.sl
                            (lenI
                              (runV (valS x a b c (gI ks (nOf i)) (gI vs (nOf i)) (gI rs (nOf i)) (gI gs (nOf i))) a b
                                (modeS x a b c (gI ks (nOf i)) (gI vs (nOf i)) (gI rs (nOf i)) (gI gs (nOf i))) ks vs rs
                                gs (iadd IntKind.i64 i 1)))
                            [Col.int IntKind.i64
                                (runV (valS x a b c (gI ks (nOf i)) (gI vs (nOf i)) (gI rs (nOf i)) (gI gs (nOf i))) a b
                                  (modeS x a b c (gI ks (nOf i)) (gI vs (nOf i)) (gI rs (nOf i)) (gI gs (nOf i))) ks vs
                                  rs gs (iadd IntKind.i64 i 1))],
                          AV.int IntKind.i64 a, AV.int IntKind.i64 b,
                          AV.int IntKind.i64
                            (runM (valS x a b c (gI ks (nOf i)) (gI vs (nOf i)) (gI rs (nOf i)) (gI gs (nOf i))) a b
                              (modeS x a b c (gI ks (nOf i)) (gI vs (nOf i)) (gI rs (nOf i)) (gI gs (nOf i))) ks vs rs
                              gs (iadd IntKind.i64 i 1))]),
                    some
                      (AObj.var
                        [AV.sl
                            (lenI
                              (runV (valS x a b c (gI ks (nOf i)) (gI vs (nOf i)) (gI rs (nOf i)) (gI gs (nOf i))) a b
                                (modeS x a b c (gI ks (nOf i)) (gI vs (nOf i)) (gI rs (nOf i)) (gI gs (nOf i))) ks vs rs
                                gs (iadd IntKind.i64 i 1)))
                            [Col.int IntKind.i64
                                (runV (valS x a b c (gI ks (nOf i)) (gI vs (nOf i)) (gI rs (nOf i)) (gI gs (nOf i))) a b
                                  (modeS x a b c (gI ks (nOf i)) (gI vs (nOf i)) (gI rs (nOf i)) (gI gs (nOf i))) ks vs
                                  rs gs (iadd IntKind.i64 i 1))],
                          AV.int IntKind.i64 a, AV.int IntKind.i64 b,
                          AV.int IntKind.i64
                            (runM (valS x a b c (gI ks (nOf i)) (gI vs (nOf i)) (gI rs (nOf i)) (gI gs (nOf i))) a b
                              (modeS x a b c (gI ks (nOf i)) (gI vs (nOf i)) (gI rs (nOf i)) (gI gs (nOf i))) ks vs rs
                              gs (iadd IntKind.i64 i 1))])]))))))
    (Q (Ex.exit 0)
      [AV.sl n
          [Col.int IntKind.i64 c0, Col.int IntKind.i64 ks, Col.int IntKind.i64 vs, Col.int IntKind.i64 rs,
            Col.int IntKind.i64 gs],
        AV.ptr 0 0 0, AV.ptr 1 0 0, AV.top]
      [some
          (AObj.var
            [AV.sl k [Col.int IntKind.i64 x], AV.int IntKind.i64 a, AV.int IntKind.i64 b, AV.int IntKind.i64 c]),
        some
          (AObj.var
            [AV.sl z [Col.int IntKind.i64 zl], AV.int IntKind.i64 z1, AV.int IntKind.i64 z2, AV.int IntKind.i64 z3])])) := by kernel_rfl

theorem loop_rall : LoopOK Try.prog (bodyOf Try.prog 20 0) spec_rall.summ := by
  refine tab_loop mixed (l := tabG) ok_tabG (i := 0) spec_rall (fun vals objs => match vals, objs with
    | [.sl n [.int .i64 c0, .int .i64 ks, .int .i64 vs, .int .i64 rs, .int .i64 gs], .ptr 0 0 0, .ptr 1 0 0, .int .i64 i], [some (.var [.sl k [.int .i64 x], .int .i64 a, .int .i64 b, .int .i64 c]), some (.var [.sl z [.int .i64 zl], .int .i64 z1, .int .i64 z2, .int .i64 z3])] => (n - i).toNat
    | _, _ => 0) fun vals objs Q h1 h2 wf wo hg => ?_
  unfold spec_rall at hg
  simp only at hg
  split at hg
  · rename_i n c0 ks vs rs gs i k x a b c z zl z1 z2 z3
    clear h1 h2
    try simp only [WFL, WF, List.mem_cons, List.not_mem_nil, or_false, forall_eq, Col.len, and_true, true_and] at wf
    rw [lp_rall]
    simp only [asrt_iff, br_iff, band_t, neq_t, ieq_t, ieq_f] at hg
    obtain ⟨hk, g1, g2⟩ := hg
    obtain ⟨w1, w2, w3, w4, w5⟩ : c0.length = n ∧ ks.length = n ∧ vs.length = n ∧ rs.length = n ∧ gs.length = n := by simp [WFL, WF, Col.len] at wf; exact wf
    have hx : x.length = k := by simp [WFH, WFO, Col.len, WFL, WF] at wo; exact wo.1
    simp [runOk] at hk
    obtain ⟨⟨⟨k1, h0⟩, hn⟩, hq⟩ := hk
    obtain ⟨j, rfl⟩ := Int.eq_ofNat_of_zero_le h0
    simp only [Int.ofNat_eq_natCast] at *
    simp [asrt_iff, br_iff, ieq_t, ieq_f, ine_t, ine_f, ilt_t, ilt_f, ile_t, ile_f, igt_t, igt_f, ige_t, ige_f, nlt_t, nlt_f, nle_t, nle_f, neq_t, neq_f, beq2_t, beq2_f, bnot_t, bnot_f, band_t, band_f, bite_t, bite_f, bimp_t, bimp_f, iadd_e, isub_e, imul_e, ofN_e, nOf_e, nAdd_e, nDiff_e, room_e, lenI_e, gI_e, gB_e, imin_e, imax_e, cat_e, pt_e, put_e, some_f] at g1 g2 ⊢
    refine ⟨fun hlt => ⟨hlt, by omega, fun hm => ?_, fun hm => ?_⟩, fun hge => ?_⟩
    · obtain ⟨e1, e2, e3⟩ := run_no (by omega) (by omega) (by omega) (by omega) hm
      rw [e1, e2, e3, hx] at g2
      exact g2 (by omega)
    · obtain ⟨e1, e2, e3⟩ := run_go (by omega) (by omega) (by omega) (by omega) hm
      rw [e1, e2, e3] at g1 g2
      rw [wr (by omega) (by omega)]
      have hv := valS_le x a b c (ks[j]?.getD 0) (vs[j]?.getD 0) (rs[j]?.getD 0) (gs[j]?.getD 0)
      refine ⟨by omega, ?_, g1, g2⟩
      simp [runOk]
      omega
    · obtain ⟨e1, e2, e3⟩ := run_end (x := x) (a := a) (b := b) (c := c) (ks := ks) (vs := vs) (rs := rs) (gs := gs) (j := j) (by omega) (by omega) (by omega) (by omega)
      rw [e1, e2, e3, hx] at g1
      exact g1 (by omega)
  · exact hg.elim


def Lrall : Nat → Option LoopS := fun i => match i with
  | 0 => some (.summ spec_rall.summ)
  | _ => none

theorem ok_Lrall : ∀ i s, Lrall i = some (.summ s) → onlyLoop Try.prog 20 i = true ∧ LoopOK Try.prog (bodyOf Try.prog 20 i) s := by
  intro i s h
  unfold Lrall at h
  split at h
  · cases h; exact ⟨by kernel_rfl, loop_rall⟩
  · cases h


def Frall : Pure1 := fun
  | [.agg [.sl k [.int .i64 x], .int .i64 a, .int .i64 b, .int .i64 c], .sl n [.int .i64 c0, .int .i64 ks, .int .i64 vs, .int .i64 rs, .int .i64 gs]] => some (some (runOk k n 0), .tup [.agg [.sl (lenI (runV x a b c ks vs rs gs 0)) [.int .i64 (runV x a b c ks vs rs gs 0)], .int .i64 a, .int .i64 b, .int .i64 (runM x a b c ks vs rs gs 0)], .int .i64 (runC x a b c ks vs rs gs 0)])
  | _ => none

theorem vc_rall (k : Nat) (x : List Int) (a b c : Int) (n : Nat) (c0 ks vs rs gs : List Int) (r : AV) : VC Try.prog (tabS tabG) (oneL 20 Lrall) false 20 [.agg [.sl k [.int .i64 x], .int .i64 a, .int .i64 b, .int .i64 c], .sl n [.int .i64 c0, .int .i64 ks, .int .i64 vs, .int .i64 rs, .int .i64 gs]] r = (
  asrt (runOk k n 0)
    (br (ieq (runC x a b c ks vs rs gs 0) (ofN n))
      (some
          (AV.tup
            [AV.agg
                [AV.sl (lenI (runV x a b c ks vs rs gs 0)) [Col.int IntKind.i64 (runV x a b c ks vs rs gs 0)],
                  AV.int IntKind.i64 a, AV.int IntKind.i64 b, AV.int IntKind.i64 (runM x a b c ks vs rs gs 0)],
              AV.int IntKind.i64 (ofN n)]) =
        some r)
      (some
          (AV.tup
            [AV.agg
                [AV.sl (lenI (runV x a b c ks vs rs gs 0)) [Col.int IntKind.i64 (runV x a b c ks vs rs gs 0)],
                  AV.int IntKind.i64 a, AV.int IntKind.i64 b, AV.int IntKind.i64 (runM x a b c ks vs rs gs 0)],
              AV.int IntKind.i64 (runC x a b c ks vs rs gs 0)]) =
        some r))) := by kernel_rfl

theorem ok_rall : PureOK Try.prog 20 Frall := by
  refine tab_loops mixed (l := tabG) ok_tabG false Lrall (by kernel_rfl) ok_Lrall fun xs b r h hb wf => ?_
  unfold Frall at h
  split at h
  · rename_i k x a b c n c0 ks vs rs gs
    cases h
    try rw [some_f] at hb
    try simp only [WFL, WF, List.mem_cons, List.not_mem_nil, or_false, forall_eq, Col.len, and_true, true_and] at wf
    rw [vc_rall]
    simp [asrt_iff, br_iff, ieq_t, ieq_f, ine_t, ine_f, ilt_t, ilt_f, ile_t, ile_f, igt_t, igt_f, ige_t, ige_f, nlt_t, nlt_f, nle_t, nle_f, neq_t, neq_f, beq2_t, beq2_f, bnot_t, bnot_f, band_t, band_f, bite_t, bite_f, bimp_t, bimp_f, iadd_e, isub_e, imul_e, ofN_e, nOf_e, nAdd_e, nDiff_e, room_e, lenI_e, gI_e, gB_e, imin_e, imax_e, cat_e, pt_e, put_e, some_f] at hb ⊢
    exact ⟨hb, fun h => h.symm⟩
  · cases h


def tabH : List (FuncId × Pure1) := [(20, Frall)] ++ tabG

theorem ok_tabH : ∀ p ∈ tabH, PureOK Try.prog p.1 p.2 := by
  intro p hp
  simp only [tabH, List.mem_append, List.mem_cons, List.not_mem_nil, or_false] at hp
  rcases hp with (rfl) | hp
  · exact ok_rall
  · exact ok_tabG p hp


end Go.Own
