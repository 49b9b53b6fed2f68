/- What many functions share. -/
import Derived.Test.YtmilniofdpgbnaaOwn
import Derived.Test.YtmilniofdpgbnaaProg
import Derived.Test.YtmilniofdpgbnaaChecked
namespace Go.Own
open Go Go.Proofs
set_option maxRecDepth 100000
set_option linter.unusedVariables false
set_option linter.unusedSimpArgs false

theorem mixed : Try.prog.follows .mixedOrders = true := Try.checked.mixed

def big : Nat := 2 ^ 50

def sameFrom (l m : List Int) (i : Int) : Bool := l.drop i.toNat == m.drop i.toNat

def sameI (l m : List Int) : Bool := l == m


theorem bite_and (c p : Bool) : bite c p false = (c && p) := by cases c <;> rfl

theorem bite_or (c q : Bool) : bite c true q = (c || q) := by cases c <;> rfl

theorem le_big {n : Nat} (h : n ≤ 1073741824) : n ≤ big := by unfold big; omega

def tab0 : List (FuncId × Pure1) := []

theorem ok_tab0 : ∀ p ∈ tab0, PureOK Try.prog p.1 p.2 := by
  intro p hp
  simp only [tab0, List.mem_cons, List.not_mem_nil, or_false] at hp


theorem sameFrom_lt {l m : List Int} {i : Nat} (h : i < l.length) (h' : i < m.length) : sameFrom l m (i : Int) = (decide (l[i]?.getD 0 = m[i]?.getD 0) && sameFrom l m ((i : Int) + 1)) := by
  unfold sameFrom
  rw [show (i : Int).toNat = i by omega, show ((i : Int) + 1).toNat = i + 1 by omega, List.drop_eq_getElem_cons h, List.drop_eq_getElem_cons h', List.cons_beq_cons]
  simp [h, h']
  rfl

theorem sameFrom_ge {l m : List Int} {i : Nat} (h : l.length ≤ i) (h' : m.length ≤ i) : sameFrom l m (i : Int) = true := by
  unfold sameFrom
  rw [show (i : Int).toNat = i by omega, List.drop_eq_nil_of_le h, List.drop_eq_nil_of_le h']
  rfl

def spec_ints : LoopSpec := { n := 26, keep := [0, 1, 5], srcs := [], keepE := [4], srcsE := [], goes := fun vals objs Q => match vals, objs with
  | [.sl n [.int .i64 l], .sl n' [.int .i64 l'], .int .i64 i], [] => asrt (band (nle n big) (band (neq n n') (band (ile 0 i) (ile i (ofN n))))) (br (sameFrom l l' i) (Q (.exit 0) [.top] []) (Q .ret [.bool false] []))
  | _, _ => False }

theorem lp_ints (n : Nat) (l : List Int) (n' : Nat) (l' : List Int) (i : Int) (mu : List AV → Heap → Nat) (Q : Ex → List AV → Heap → Prop) : runCode Try.prog (tabS tab0) (callN Try.prog (tabS tab0) noL 11) (fun _ => none) (bodyOf Try.prog 25 0) 0 ⟨mkT (spec_ints).keep [.sl n [.int .i64 l], .sl n' [.int .i64 l'], .int .i64 i] (spec_ints).n 0, []⟩ ((spec_ints).ends mu [.sl n [.int .i64 l], .sl n' [.int .i64 l'], .int .i64 i] ([]) Q) = (
  br (ilt i (ofN n))
    (asrt (band (ile 0 i) (ilt i (ofN n)))
      (asrt (band (ile 0 i) (ilt i (ofN n')))
        (br (ine (gI l (nOf i)) (gI l' (nOf i))) (Q Ex.ret [AV.bool false] [])
          ((mu
                    [AV.sl n [Col.int IntKind.i64 l], AV.sl n' [Col.int IntKind.i64 l'],
                      AV.int IntKind.i64 (iadd IntKind.i64 i 1)]
                    []).succ.le
              (mu [AV.sl n [Col.int IntKind.i64 l], AV.sl n' [Col.int IntKind.i64 l'], AV.int IntKind.i64 i] []) ∧
            asrt
              (band (nle n big)
                (band (neq n n') (band (ile 0 (iadd IntKind.i64 i 1)) (ile (iadd IntKind.i64 i 1) (ofN n)))))
              (br (sameFrom l l' (iadd IntKind.i64 i 1)) (Q (Ex.exit 0) [AV.top] []) (Q Ex.ret [AV.bool false] []))))))
    (Q (Ex.exit 0) [AV.top] [])) := by kernel_rfl

theorem loop_ints : LoopOK Try.prog (bodyOf Try.prog 25 0) spec_ints.summ := by
  refine tab_loop mixed (l := tab0) ok_tab0 (i := 0) spec_ints (fun vals objs => match vals, objs with
    | [.sl n [.int .i64 l], .sl n' [.int .i64 l'], .int .i64 i], [] => (n - i).toNat
    | _, _ => 0) fun vals objs Q h1 h2 wf wo hg => ?_
  unfold spec_ints at hg
  simp only at hg
  split at hg
  · rename_i n l n' l' i
    clear h1 h2
    try simp only [WFL, WF, List.mem_cons, List.not_mem_nil, or_false, forall_eq_or_imp, forall_eq, Col.len, and_true, true_and] at wf
    rw [lp_ints]
    obtain ⟨w1, w2⟩ := wf
    simp [asrt_iff, br_iff, ieq_t, ieq_f, ine_t, ine_f, ilt_t, ilt_f, ile_t, ile_f, igt_t, igt_f, ige_t, ige_f, nlt_t, nlt_f, nle_t, nle_f, neq_t, neq_f, beq2_t, beq2_f, bnot_t, bnot_f, band_t, band_f, bite_t, bite_f, bimp_t, bimp_f, iadd_e, isub_e, imul_e, ofN_e, nOf_e, nAdd_e, nDiff_e, room_e, lenI_e, gI_e, gB_e, imin_e, imax_e, cat_e, pt_e, put_e, some_f] at hg ⊢
    obtain ⟨⟨hb, rfl, h0, hn⟩, hg⟩ := hg
    obtain ⟨i, rfl⟩ := Int.eq_ofNat_of_zero_le h0
    have hb' : n ≤ 2 ^ 50 := by simpa [big] using hb
    simp at hn hg ⊢
    refine ⟨fun hlt => ?_, fun hge => ?_⟩
    · rw [wr (by omega) (by omega)]
      rw [sameFrom_lt (by omega) (by omega)] at hg
      refine ⟨hlt, fun hx => ?_, fun hx => ?_⟩
      · rw [decide_eq_false hx] at hg
        simpa using hg
      · rw [decide_eq_true hx] at hg
        refine ⟨by omega, ⟨hb, by omega, by omega⟩, ?_⟩
        simpa using hg
    · rw [sameFrom_ge (by omega) (by omega)] at hg
      simpa using hg
  · exact hg.elim


def Lints : Nat → Option LoopS := fun i => match i with
  | 0 => some (.summ spec_ints.summ)
  | _ => none

theorem ok_Lints : ∀ i x, Lints i = some x → LoopHyp Try.prog 25 i x := by
  intro i s h
  unfold Lints at h
  split at h
  · cases h; exact ⟨by kernel_rfl, loop_ints⟩
  · cases h


def Fints : Pure1 := fun
  | [.sl n [.int .i64 l], .sl n' [.int .i64 l']] => some (some (nle n big), .bool (sameI l l'))
  | _ => none

theorem vc_ints (n : Nat) (l : List Int) (n' : Nat) (l' : List Int) (r : AV) : VC Try.prog (tabS tab0) (oneL 25 Lints) false 25 [.sl n [.int .i64 l], .sl n' [.int .i64 l']] r = (
  br (ine (ofN n) (ofN n')) (some (AV.bool false) = some r)
    (asrt (band (nle n big) (band (neq n n') (ile 0 (ofN n))))
      (br (sameFrom l l' 0) (some (AV.bool true) = some r) (some (AV.bool false) = some r)))) := by kernel_rfl

theorem ok_ints : PureOK Try.prog 25 Fints := by
  refine tab_loops mixed (l := tab0) ok_tab0 false Lints (by kernel_rfl) ok_Lints fun xs b r h hb wf => ?_
  unfold Fints at h
  split at h
  · rename_i n l n' l'
    cases h
    try rw [some_f] at hb
    try simp only [WFL, WF, List.mem_cons, List.not_mem_nil, or_false, forall_eq_or_imp, forall_eq, Col.len, and_true, true_and] at wf
    rw [vc_ints]
    obtain ⟨w1, w2⟩ := wf
    have e : sameFrom l l' 0 = sameI l l' := by simp [sameFrom, sameI]
    simp [asrt_iff, br_iff, ieq_t, ieq_f, ine_t, ine_f, ilt_t, ilt_f, ile_t, ile_f, igt_t, igt_f, ige_t, ige_f, nlt_t, nlt_f, nle_t, nle_f, neq_t, neq_f, beq2_t, beq2_f, bnot_t, bnot_f, band_t, band_f, bite_t, bite_f, bimp_t, bimp_f, iadd_e, isub_e, imul_e, ofN_e, nOf_e, nAdd_e, nDiff_e, room_e, lenI_e, gI_e, gB_e, imin_e, imax_e, cat_e, pt_e, put_e, some_f, e] at hb ⊢
    refine ⟨fun h => ?_, fun h => ⟨hb, ?_⟩⟩
    · simp [sameI]
      intro h2
      exact h (by rw [← w1, ← w2, h2])
    · trace_state
      grind
  · cases h


end Go.Own
