/- Dues: what the laws begin with. -/
import Derived.Test.YtmilniofdpgbnaaDueE
namespace Go.Own
open Go Go.Proofs
set_option maxRecDepth 100000
set_option linter.unusedVariables false
set_option linter.unusedSimpArgs false

def duEq (n : Nat) (ss sv : List Int) (n' : Nat) (ss' sv' : List Int) : Bool := decide (n = n' ∧ ss = ss' ∧ sv = sv')


def spec_duSame : LoopSpec := { n := 26, keep := [0, 1, 5], srcs := [], keepE := [], srcsE := [], goes := fun vals objs Q => match vals, objs with
  | [.sl n [.int .i64 ss, .int .i64 sv], .sl n' [.int .i64 ss', .int .i64 sv'], .int .i64 i], [] => asrt (band (nle n big) (band (ile 0 i) (band (ile i (ofN n)) (duEq n ss sv n' ss' sv')))) (Q (.exit 0) [] [])
  | _, _ => False }

theorem lp_duSame (n : Nat) (ss sv : List Int) (n' : Nat) (ss' sv' : List Int) (i : Int) (mu : List AV → Heap → Nat) (Q : Ex → List AV → Heap → Prop) : runCode Try.prog (tabS tab0) (callN Try.prog (tabS tab0) noL 11) (fun _ => none) (bodyOf Try.prog 29 0) 0 ⟨mkT (spec_duSame).keep [.sl n [.int .i64 ss, .int .i64 sv], .sl n' [.int .i64 ss', .int .i64 sv'], .int .i64 i] (spec_duSame).n 0, []⟩ ((spec_duSame).ends mu [.sl n [.int .i64 ss, .int .i64 sv], .sl n' [.int .i64 ss', .int .i64 sv'], .int .i64 i] ([]) Q) = (
  br (ilt i (ofN n))
    (asrt (band (ile 0 i) (ilt i (ofN n)))
      (asrt (band (ile 0 i) (ilt i (ofN n')))
        (br (bnot (band (ieq (gI ss (nOf i)) (gI ss' (nOf i))) (band (ieq (gI sv (nOf i)) (gI sv' (nOf i))) true)))
          (Q Ex.ret [] [])
          ((mu
                    [AV.sl n [Col.int IntKind.i64 ss, Col.int IntKind.i64 sv],
                      AV.sl n' [Col.int IntKind.i64 ss', Col.int IntKind.i64 sv'],
                      AV.int IntKind.i64 (iadd IntKind.i64 i 1)]
                    []).succ.le
              (mu
                [AV.sl n [Col.int IntKind.i64 ss, Col.int IntKind.i64 sv],
                  AV.sl n' [Col.int IntKind.i64 ss', Col.int IntKind.i64 sv'], AV.int IntKind.i64 i]
                []) ∧
            asrt
              (band (nle n big)
                (band (ile 0 (iadd IntKind.i64 i 1))
                  (band (ile (iadd IntKind.i64 i 1) (ofN n)) (duEq n ss sv n' ss' sv'))))
              (Q (Ex.exit 0) [] [])))))
    (Q (Ex.exit 0) [] [])) := by kernel_rfl

theorem loop_duSame : LoopOK Try.prog (bodyOf Try.prog 29 0) spec_duSame.summ := by
  refine tab_loop mixed (l := tab0) ok_tab0 (i := 0) spec_duSame (fun vals objs => match vals, objs with
    | [.sl n [.int .i64 ss, .int .i64 sv], .sl n' [.int .i64 ss', .int .i64 sv'], .int .i64 i], [] => (n - i).toNat
    | _, _ => 0) fun vals objs Q h1 h2 wf wo hg => ?_
  unfold spec_duSame at hg
  simp only at hg
  split at hg
  · rename_i n ss sv n' ss' sv' i
    clear h1 h2
    try simp only [WFL, WF, List.mem_cons, List.not_mem_nil, or_false, forall_eq_or_imp, forall_eq, Col.len, and_true, true_and] at wf
    rw [lp_duSame]
    simp only [asrt_iff, band_t, nle_t, ile_t, ofN_e, duEq, decide_eq_true_eq] at hg
    obtain ⟨⟨hb, h0, hn, he⟩, hg⟩ := hg
    obtain ⟨rfl, rfl, rfl⟩ := he
    obtain ⟨k, rfl⟩ := Int.eq_ofNat_of_zero_le h0
    have hb' : n ≤ 2 ^ 50 := by simpa [big] using hb
    have hw : IntKind.i64.wrap ((k : Int) + 1) = (k : Int) + 1 := wr (by simp at hn; omega) (by simp at hn; omega)
    simp at hn
    simp [asrt_iff, br_iff, ieq_t, ieq_f, ine_t, ine_f, ilt_t, ilt_f, ile_t, ile_f, igt_t, igt_f, ige_t, ige_f, nlt_t, nlt_f, nle_t, nle_f, neq_t, neq_f, beq2_t, beq2_f, bnot_t, bnot_f, band_t, band_f, bite_t, bite_f, bimp_t, bimp_f, iadd_e, isub_e, imul_e, ofN_e, nOf_e, nAdd_e, nDiff_e, room_e, lenI_e, gI_e, gB_e, imin_e, imax_e, cat_e, pt_e, put_e, some_f, hw, hb, hg, duEq]
    omega
  · exact hg.elim


def LduSame : Nat → Option LoopS := fun i => match i with
  | 0 => some (.summ spec_duSame.summ)
  | _ => none

theorem ok_LduSame : ∀ i x, LduSame i = some x → LoopHyp Try.prog 29 i x := by
  intro i s h
  unfold LduSame at h
  split at h
  · cases h; exact ⟨by kernel_rfl, loop_duSame⟩
  · cases h


def FduSame : Pure1 := fun
  | [.sl n [.int .i64 ss, .int .i64 sv], .sl n' [.int .i64 ss', .int .i64 sv']] => some (some (band (nle n big) (duEq n ss sv n' ss' sv')), .bool true)
  | _ => none

theorem vc_duSame (n : Nat) (ss sv : List Int) (n' : Nat) (ss' sv' : List Int) (r : AV) : VC Try.prog (tabS tab0) (oneL 29 LduSame) false 29 [.sl n [.int .i64 ss, .int .i64 sv], .sl n' [.int .i64 ss', .int .i64 sv']] r = (
  br (ine (ofN n) (ofN n')) (some (AV.bool false) = some r)
    (asrt (band (nle n big) (band (ile 0 (ofN n)) (duEq n ss sv n' ss' sv'))) (some (AV.bool true) = some r))) := by kernel_rfl

theorem ok_duSame : PureOK Try.prog 29 FduSame := by
  refine tab_loops mixed (l := tab0) ok_tab0 false LduSame (by kernel_rfl) ok_LduSame fun xs b r h hb wf => ?_
  unfold FduSame at h
  split at h
  · rename_i n ss sv n' ss' sv'
    cases h
    try rw [some_f] at hb
    try simp only [WFL, WF, List.mem_cons, List.not_mem_nil, or_false, forall_eq_or_imp, forall_eq, Col.len, and_true, true_and] at wf
    rw [vc_duSame]
    simp only [band_t, duEq, decide_eq_true_eq] at hb
    obtain ⟨hn, he⟩ := hb
    obtain ⟨rfl, rfl, rfl⟩ := he
    simp [asrt_iff, br_iff, ieq_t, ieq_f, ine_t, ine_f, ilt_t, ilt_f, ile_t, ile_f, igt_t, igt_f, ige_t, ige_f, nlt_t, nlt_f, nle_t, nle_f, neq_t, neq_f, beq2_t, beq2_f, bnot_t, bnot_f, band_t, band_f, bite_t, bite_f, bimp_t, bimp_f, iadd_e, isub_e, imul_e, ofN_e, nOf_e, nAdd_e, nDiff_e, room_e, lenI_e, gI_e, gB_e, imin_e, imax_e, cat_e, pt_e, put_e, some_f, duEq] at hn ⊢
    exact hn
  · cases h


def tabDG : List (FuncId × Pure1) := [(28, Fput), (30, Fdrop), (32, Ffirst), (31, Flate), (29, FduSame)] ++ tabD1

theorem ok_tabDG : ∀ p ∈ tabDG, PureOK Try.prog p.1 p.2 := by
  intro p hp
  simp only [tabDG, List.mem_append, List.mem_cons, List.not_mem_nil, or_false] at hp
  rcases hp with (rfl | rfl | rfl | rfl | rfl) | hp
  · exact ok_put
  · exact ok_drop
  · exact ok_first
  · exact ok_late
  · exact ok_duSame
  · exact ok_tabD1 p hp


def Fawake4 : Pure1 := fun
  | [] => some (none, .bool true)
  | _ => none

theorem ok_awake4 : PureOK Try.prog 26 Fawake4 := by
  refine tab_plain mixed (l := tabDG) ok_tabDG false (by kernel_rfl) fun xs b r h hb wf => ?_
  unfold Fawake4 at h
  split at h
  · cases h
    have e : VC Try.prog (tabS tabDG) noL false 26 [] (.bool true) = (some (AV.bool true) = some (AV.bool true)) := by kernel_rfl
    rw [e]
  · cases h

def tabDH : List (FuncId × Pure1) := [(26, Fawake4)] ++ tabDG

theorem ok_tabDH : ∀ p ∈ tabDH, PureOK Try.prog p.1 p.2 := by
  intro p hp
  simp only [tabDH, List.mem_append, List.mem_cons, List.not_mem_nil, or_false] at hp
  rcases hp with (rfl) | hp
  · exact ok_awake4
  · exact ok_tabDG p hp


end Go.Own
