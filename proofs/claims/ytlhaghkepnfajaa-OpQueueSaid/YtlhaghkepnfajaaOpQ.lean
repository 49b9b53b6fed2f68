/- What may be told of a queue is a result that it may end with. -/
import Derived.Test.YtlhaghkepnfajaaFifoDo
namespace Go.Own
open Go Go.Proofs
set_option maxRecDepth 100000
set_option linter.unusedVariables false
set_option linter.unusedSimpArgs false

def opSide (k : Int) : Int := if 1 ≤ k ∧ k ≤ 3 then 1 else if 4 ≤ k ∧ k ≤ 6 then 2 else if 7 ≤ k ∧ k ≤ 8 then 3 else 0

def opTimed (k : Int) : Bool := decide (k = 3 ∨ k = 6)

def opEnds (k r : Int) : Bool := decide (0 < opSide k) && (if r = 6 ∨ r = 7 then decide (opSide k ≠ 3) else if r = 1 then true else if r = 2 then decide (k = 2) else if r = 4 then decide (k = 5) else if r = 3 then decide (opSide k = 1) else if r = 5 then opTimed k else false)


def Fside : Pure1 := fun
  | [.int .i64 k] => some (none, .int .i64 (opSide k))
  | _ => none

theorem vc_side (k : Int) (r : AV) : VC Try.prog (tabS tab0) noL false 17 [.int .i64 k] r = (
  br (ieq k 1) (some (AV.int IntKind.i64 1) = some r)
    (br (ieq k 2) (some (AV.int IntKind.i64 1) = some r)
      (br (ieq k 3) (some (AV.int IntKind.i64 1) = some r)
        (br (ieq k 4) (some (AV.int IntKind.i64 2) = some r)
          (br (ieq k 5) (some (AV.int IntKind.i64 2) = some r)
            (br (ieq k 6) (some (AV.int IntKind.i64 2) = some r)
              (br (ieq k 7) (some (AV.int IntKind.i64 3) = some r)
                (br (ieq k 8) (some (AV.int IntKind.i64 3) = some r) (some (AV.int IntKind.i64 0) = some r))))))))) := by kernel_rfl

theorem ok_side : PureOK Try.prog 17 Fside := by
  refine tab_plain mixed (l := tab0) ok_tab0 false (by kernel_rfl) fun xs b r h hb wf => ?_
  unfold Fside at h
  split at h
  · rename_i k
    cases h
    try rw [some_f] at hb
    try simp only [WFL, WF, List.mem_cons, List.not_mem_nil, or_false, forall_eq, Col.len, and_true, true_and] at wf
    rw [vc_side]
    simp [asrt_iff, br_iff, ieq_t, ieq_f, ine_t, ine_f, ilt_t, ilt_f, ile_t, ile_f, igt_t, igt_f, ige_t, ige_f, nlt_t, nlt_f, nle_t, nle_f, neq_t, neq_f, beq2_t, beq2_f, bnot_t, bnot_f, band_t, band_f, bite_t, bite_f, bimp_t, bimp_f, iadd_e, isub_e, imul_e, ofN_e, nOf_e, nAdd_e, nDiff_e, room_e, lenI_e, gI_e, gB_e, imin_e, imax_e, cat_e, pt_e, put_e, some_f, opSide]
    grind (splits := 40)
  · cases h


def tabO0 : List (FuncId × Pure1) := [(17, Fside)]

theorem ok_tabO0 : ∀ p ∈ tabO0, PureOK Try.prog p.1 p.2 := by
  intro p hp
  simp only [tabO0, List.mem_cons, List.not_mem_nil, or_false] at hp
  rcases hp with rfl
  · exact ok_side


def FopCheck : Pure1 := fun
  | [.int .i64 k] => some (none, .bool (igt (opSide k) 0))
  | _ => none

theorem vc_opCheck (k : Int) (r : AV) : VC Try.prog (tabS tabO0) noL false 15 [.int .i64 k] r = (
some (AV.bool (igt (opSide k) 0)) = some r) := by kernel_rfl

theorem ok_opCheck : PureOK Try.prog 15 FopCheck := by
  refine tab_plain mixed (l := tabO0) ok_tabO0 false (by kernel_rfl) fun xs b r h hb wf => ?_
  unfold FopCheck at h
  split at h
  · rename_i k
    cases h
    try rw [some_f] at hb
    try simp only [WFL, WF, List.mem_cons, List.not_mem_nil, or_false, forall_eq, Col.len, and_true, true_and] at wf
    rw [vc_opCheck]
    all_goals (try simp [asrt_iff, br_iff, ieq_t, ieq_f, ine_t, ine_f, ilt_t, ilt_f, ile_t, ile_f, igt_t, igt_f, ige_t, ige_f, nlt_t, nlt_f, nle_t, nle_f, neq_t, neq_f, beq2_t, beq2_f, bnot_t, bnot_f, band_t, band_f, bite_t, bite_f, bimp_t, bimp_f, iadd_e, isub_e, imul_e, ofN_e, nOf_e, nAdd_e, nDiff_e, room_e, lenI_e, gI_e, gB_e, imin_e, imax_e, cat_e, pt_e, put_e, some_f])
  · cases h


def FopTimed : Pure1 := fun
  | [.int .i64 k] => some (none, .bool (opTimed k))
  | _ => none

theorem vc_opTimed (k : Int) (r : AV) : VC Try.prog (tabS tabO0) noL false 19 [.int .i64 k] r = (
some (AV.bool (bite (ieq k 3) true (ieq k 6))) = some r) := by kernel_rfl

theorem ok_opTimed : PureOK Try.prog 19 FopTimed := by
  refine tab_plain mixed (l := tabO0) ok_tabO0 false (by kernel_rfl) fun xs b r h hb wf => ?_
  unfold FopTimed at h
  split at h
  · rename_i k
    cases h
    try rw [some_f] at hb
    try simp only [WFL, WF, List.mem_cons, List.not_mem_nil, or_false, forall_eq, Col.len, and_true, true_and] at wf
    rw [vc_opTimed]
    simp only [bite_and, bite_or]
    simp [asrt_iff, br_iff, ieq_t, ieq_f, ine_t, ine_f, ilt_t, ilt_f, ile_t, ile_f, igt_t, igt_f, ige_t, ige_f, nlt_t, nlt_f, nle_t, nle_f, neq_t, neq_f, beq2_t, beq2_f, bnot_t, bnot_f, band_t, band_f, bite_t, bite_f, bimp_t, bimp_f, iadd_e, isub_e, imul_e, ofN_e, nOf_e, nAdd_e, nDiff_e, room_e, lenI_e, gI_e, gB_e, imin_e, imax_e, cat_e, pt_e, put_e, some_f, opTimed]
    rw [Bool.eq_iff_iff]
    simp [asrt_iff, br_iff, ieq_t, ieq_f, ine_t, ine_f, ilt_t, ilt_f, ile_t, ile_f, igt_t, igt_f, ige_t, ige_f, nlt_t, nlt_f, nle_t, nle_f, neq_t, neq_f, beq2_t, beq2_f, bnot_t, bnot_f, band_t, band_f, bite_t, bite_f, bimp_t, bimp_f, iadd_e, isub_e, imul_e, ofN_e, nOf_e, nAdd_e, nDiff_e, room_e, lenI_e, gI_e, gB_e, imin_e, imax_e, cat_e, pt_e, put_e, some_f]
  · cases h


def tabO1 : List (FuncId × Pure1) := [(15, FopCheck), (19, FopTimed)] ++ tabO0

theorem ok_tabO1 : ∀ p ∈ tabO1, PureOK Try.prog p.1 p.2 := by
  intro p hp
  simp only [tabO1, List.mem_append, List.mem_cons, List.not_mem_nil, or_false] at hp
  rcases hp with (rfl | rfl) | hp
  · exact ok_opCheck
  · exact ok_opTimed
  · exact ok_tabO0 p hp


def FopEnds : Pure1 := fun
  | [.int .i64 k, .int .i64 s] => some (none, .bool (opEnds k s))
  | _ => none

theorem vc_opEnds (k s : Int) (r : AV) : VC Try.prog (tabS tabO1) noL false 25 [.int .i64 k, .int .i64 s] r = (
  br (bnot (igt (opSide k) 0)) (some (AV.bool false) = some r)
    (br (ieq s 6) (br (ieq (opSide k) 3) (some (AV.bool false) = some r) (some (AV.bool true) = some r))
      (br (ieq s 7) (br (ieq (opSide k) 3) (some (AV.bool false) = some r) (some (AV.bool true) = some r))
        (br (ieq s 1) (some (AV.bool true) = some r)
          (br (ieq s 2) (some (AV.bool (ieq k 2)) = some r)
            (br (ieq s 4) (some (AV.bool (ieq k 5)) = some r)
              (br (ieq s 3) (some (AV.bool (ieq (opSide k) 1)) = some r)
                (br (ieq s 5) (some (AV.bool (opTimed k)) = some r) (some (AV.bool false) = some r))))))))) := by kernel_rfl

theorem ok_opEnds : PureOK Try.prog 25 FopEnds := by
  refine tab_plain mixed (l := tabO1) ok_tabO1 false (by kernel_rfl) fun xs b r h hb wf => ?_
  unfold FopEnds at h
  split at h
  · rename_i k s
    cases h
    try rw [some_f] at hb
    try simp only [WFL, WF, List.mem_cons, List.not_mem_nil, or_false, forall_eq, Col.len, and_true, true_and] at wf
    rw [vc_opEnds]
    have key : s = 1 ∨ s = 2 ∨ s = 3 ∨ s = 4 ∨ s = 5 ∨ s = 6 ∨ s = 7 ∨ (¬ s = 1 ∧ ¬ s = 2 ∧ ¬ s = 3 ∧ ¬ s = 4 ∧ ¬ s = 5 ∧ ¬ s = 6 ∧ ¬ s = 7) := by omega
    by_cases hp : 0 < opSide k
    · have hp' : ¬ opSide k ≤ 0 := by omega
      rcases key with rfl | rfl | rfl | rfl | rfl | rfl | rfl | ⟨u1, u2, u3, u4, u5, u6, u7⟩ <;> simp [asrt_iff, br_iff, ieq_t, ieq_f, ine_t, ine_f, ilt_t, ilt_f, ile_t, ile_f, igt_t, igt_f, ige_t, ige_f, nlt_t, nlt_f, nle_t, nle_f, neq_t, neq_f, beq2_t, beq2_f, bnot_t, bnot_f, band_t, band_f, bite_t, bite_f, bimp_t, bimp_f, iadd_e, isub_e, imul_e, ofN_e, nOf_e, nAdd_e, nDiff_e, room_e, lenI_e, gI_e, gB_e, imin_e, imax_e, cat_e, pt_e, put_e, some_f, opEnds, hp, hp', ieq, *]
      all_goals (try grind)
    · have hp' : opSide k ≤ 0 := by omega
      simp [asrt_iff, br_iff, ieq_t, ieq_f, ine_t, ine_f, ilt_t, ilt_f, ile_t, ile_f, igt_t, igt_f, ige_t, ige_f, nlt_t, nlt_f, nle_t, nle_f, neq_t, neq_f, beq2_t, beq2_f, bnot_t, bnot_f, band_t, band_f, bite_t, bite_f, bimp_t, bimp_f, iadd_e, isub_e, imul_e, ofN_e, nOf_e, nAdd_e, nDiff_e, room_e, lenI_e, gI_e, gB_e, imin_e, imax_e, cat_e, pt_e, put_e, some_f, opEnds, hp, hp']
  · cases h


def tabO2 : List (FuncId × Pure1) := [(25, FopEnds), (44, Fdo)] ++ tabO1

theorem ok_tabO2 : ∀ p ∈ tabO2, PureOK Try.prog p.1 p.2 := by
  intro p hp
  simp only [tabO2, List.mem_append, List.mem_cons, List.not_mem_nil, or_false] at hp
  rcases hp with (rfl | rfl) | hp
  · exact ok_opEnds
  · exact ok_do
  · exact ok_tabO1 p hp


def Fawake11 : Pure1 := fun
  | [] => some (none, .bool true)
  | _ => none

theorem ok_awake11 : PureOK Try.prog 14 Fawake11 := by
  refine tab_plain mixed (l := tabO2) ok_tabO2 false (by kernel_rfl) fun xs b r h hb wf => ?_
  unfold Fawake11 at h
  split at h
  · cases h
    have e : VC Try.prog (tabS tabO2) noL false 14 [] (.bool true) = (some (AV.bool true) = some (AV.bool true)) := by kernel_rfl
    rw [e]
  · cases h

def tabO3 : List (FuncId × Pure1) := [(14, Fawake11)] ++ tabO2

theorem ok_tabO3 : ∀ p ∈ tabO3, PureOK Try.prog p.1 p.2 := by
  intro p hp
  simp only [tabO3, List.mem_append, List.mem_cons, List.not_mem_nil, or_false] at hp
  rcases hp with (rfl) | hp
  · exact ok_awake11
  · exact ok_tabO2 p hp


theorem may_ends {l : List Int} {a b c e1 e2 e3 e4 : Int} (h9 : ¬ e1 = 9) (h : mayS l a b c e1 e2 e3 e4 = true) : 0 < opSide e1 ∧ opEnds e1 e3 = true := by
  unfold mayS at h
  rw [if_neg h9] at h
  by_cases h7 : e1 = 7
  · subst h7
    simp [ieq] at h
    subst h
    simp [opSide, opEnds]
  rw [if_neg h7] at h
  by_cases h8 : e1 = 8
  · subst h8
    simp [ieq] at h
    subst h
    simp [opSide, opEnds]
  rw [if_neg h8] at h
  by_cases hs : 1 ≤ e1 ∧ e1 ≤ 3
  · rw [if_pos hs] at h
    have so : opSide e1 = 1 := by simp [opSide, hs]
    simp only [opEnds, so]
    unfold sendB at h
    by_cases h3 : e3 = 1
    · simp [h3]
    · rw [if_neg h3] at h
      simp at h
      simp [opTimed, h3]
      grind
  rw [if_neg hs] at h
  by_cases hv : 4 ≤ e1 ∧ e1 ≤ 6
  · rw [if_pos hv] at h
    have so : opSide e1 = 2 := by simp [opSide, hv, hs]
    simp only [opEnds, so]
    unfold recvB at h
    by_cases h3 : e3 = 1
    · simp [h3]
    · rw [if_neg h3] at h
      simp at h
      simp [opTimed, h3]
      grind
  rw [if_neg hv] at h
  cases h

def FLOpQueue : Pure1 := fun
  | [.agg [.sl n [.int .i64 l], .int .i64 a, .int .i64 b, .int .i64 c], .agg [.int .i64 e0, .int .i64 e1, .int .i64 e2, .int .i64 e3, .int .i64 e4]] => some (none, .bool true)
  | _ => none

theorem vc_LOpQueue (n : Nat) (l : List Int) (a b c e0 e1 e2 e3 e4 : Int) (r : AV) : VC Try.prog (tabS tabO3) noL false 13 [.agg [.sl n [.int .i64 l], .int .i64 a, .int .i64 b, .int .i64 c], .agg [.int .i64 e0, .int .i64 e1, .int .i64 e2, .int .i64 e3, .int .i64 e4]] r = (
  br (bite (igt (ofN n) 100) true (ieq e1 9)) (some (AV.bool true) = some r)
    (asrt (nlt n 1073741824)
      (some (AV.bool (bite (bnot (mayS l a b c e1 e2 e3 e4)) true (bite (opEnds e1 e3) (igt (opSide e1) 0) false))) =
        some r))) := by kernel_rfl

theorem ok_LOpQueue : PureOK Try.prog 13 FLOpQueue := by
  refine tab_plain mixed (l := tabO3) ok_tabO3 false (by kernel_rfl) fun xs b r h hb wf => ?_
  unfold FLOpQueue at h
  split at h
  · rename_i n l a b c e0 e1 e2 e3 e4
    cases h
    try rw [some_f] at hb
    try simp only [WFL, WF, List.mem_cons, List.not_mem_nil, or_false, forall_eq, Col.len, and_true, true_and] at wf
    rw [vc_LOpQueue]
    simp only [bite_and, bite_or]
    rw [br_iff]
    refine ⟨fun _ => trivial, fun hg => ?_⟩
    simp only [Bool.or_eq_false_iff, igt_f, ieq_f, ofN_e] at hg
    obtain ⟨g1, g2⟩ := hg
    have b2 : n < 1073741824 := by omega
    cases hm : mayS l a b c e1 e2 e3 e4 with
    | false => simp [asrt_iff, br_iff, ieq_t, ieq_f, ine_t, ine_f, ilt_t, ilt_f, ile_t, ile_f, igt_t, igt_f, ige_t, ige_f, nlt_t, nlt_f, nle_t, nle_f, neq_t, neq_f, beq2_t, beq2_f, bnot_t, bnot_f, band_t, band_f, bite_t, bite_f, bimp_t, bimp_f, iadd_e, isub_e, imul_e, ofN_e, nOf_e, nAdd_e, nDiff_e, room_e, lenI_e, gI_e, gB_e, imin_e, imax_e, cat_e, pt_e, put_e, some_f, hm, b2]
    | true =>
      obtain ⟨m1, m2⟩ := may_ends g2 hm
      simp [asrt_iff, br_iff, ieq_t, ieq_f, ine_t, ine_f, ilt_t, ilt_f, ile_t, ile_f, igt_t, igt_f, ige_t, ige_f, nlt_t, nlt_f, nle_t, nle_f, neq_t, neq_f, beq2_t, beq2_f, bnot_t, bnot_f, band_t, band_f, bite_t, bite_f, bimp_t, bimp_f, iadd_e, isub_e, imul_e, ofN_e, nOf_e, nAdd_e, nDiff_e, room_e, lenI_e, gI_e, gB_e, imin_e, imax_e, cat_e, pt_e, put_e, some_f, hm, b2, m1, m2]
  · cases h


abbrev Qu := List Int × Int × Int × Int

abbrev Ent := Int × Int × Int × Int × Int

theorem op_48 : OpA Try.prog 48 (fun e : Qu => [.sl e.1.length [.int .i64 e.1], .int .i64 e.2.1, .int .i64 e.2.2.1, .int .i64 e.2.2.2]) (fun e => True) := by
  have h := opA_struct (n := 4) Try.underlying48 (by kernel_rfl) (opF_cons (n := 1) rfl (by kernel_rfl) (opA_ints Try.underlying46 Try.underlying3 (by kernel_rfl)) (opF_cons (n := 1) rfl (by kernel_rfl) (opA_int Try.underlying3) (opF_cons (n := 1) rfl (by kernel_rfl) (opA_int Try.underlying3) (opF_last (n := 1) rfl (by kernel_rfl) (opA_int Try.underlying3)))))
  intro w H enc base spare held fuel cs x hx
  obtain ⟨a, h1, _⟩ := h w H enc base spare held fuel cs x hx
  exact ⟨a, h1, trivial⟩

theorem op_50 : OpA Try.prog 50 (fun e : Ent => [.int .i64 e.1, .int .i64 e.2.1, .int .i64 e.2.2.1, .int .i64 e.2.2.2.1, .int .i64 e.2.2.2.2]) (fun e => True) := by
  have h := opA_struct (n := 5) Try.underlying50 (by kernel_rfl) (opF_cons (n := 1) rfl (by kernel_rfl) (opA_int Try.underlying3) (opF_cons (n := 1) rfl (by kernel_rfl) (opA_int Try.underlying3) (opF_cons (n := 1) rfl (by kernel_rfl) (opA_int Try.underlying3) (opF_cons (n := 1) rfl (by kernel_rfl) (opA_int Try.underlying3) (opF_last (n := 1) rfl (by kernel_rfl) (opA_int Try.underlying3))))))
  intro w H enc base spare held fuel cs x hx
  obtain ⟨a, h1, _⟩ := h w H enc base spare held fuel cs x hx
  exact ⟨a, h1, trivial⟩

theorem law_OpQueue (a0 : Qu) (a1 : Ent) (_ : True) (_ : True) :
    ∃ b, FLOpQueue [.agg [.sl a0.1.length [.int .i64 a0.1], .int .i64 a0.2.1, .int .i64 a0.2.2.1, .int .i64 a0.2.2.2], .agg [.int .i64 a1.1, .int .i64 a1.2.1, .int .i64 a1.2.2.1, .int .i64 a1.2.2.2.1, .int .i64 a1.2.2.2.2]] = some (b, .bool true) ∧ b ≠ some false := ⟨none, rfl, by simp⟩

end Go.Own
