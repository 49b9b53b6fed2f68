/- The fabric's functions. -/
import Derived.Test.YtdoapbopldhakaaGreatConf
namespace Go.Own
open Go Go.Proofs
set_option maxRecDepth 100000
set_option linter.unusedVariables false
set_option linter.unusedSimpArgs false

def roomOf (lg th po wt sp yi : Int) : Int := if confE lg th po wt sp yi = 0 then 2 ^ lg.toNat else 0

def amOk (th : Int) (ll : List (List Int)) : Bool := ll.all fun l => lineOk l && decide (amBadAt th l 0 < 0)

def stOk (lg th po wt sp yi hd tl md : Int) (ns : Nat) (ss : List Int) (n1 : Nat) (l1 : List Int) (n2 : Nat) (l2 : List Int) (fe : Int) (n3 : Nat) (l3 : List Int) (ee : Int) (n4 : Nat) (l4 : List Int) (now : Int) (nt : Nat) (st kd un pc rg sn tr : List Int) (lt : List Bool) (rs : List Int) : Bool :=
  decide (roomOf lg th po wt sp yi ≠ 0) && wordOk hd tl md (roomOf lg th po wt sp yi) && decide ((ns : Int) = roomOf lg th po wt sp yi) && slotsOk ns ss && amOk th [l1, l2, l3, l4] && evOk fe l3 && evOk ee l4 && decide (0 ≤ now ∧ now ≤ 1099511627776 ∧ (nt : Int) = th) && decide (badThAt nt st kd un pc rg sn tr lt rs 0 < 0)

def amFrom (th : Int) (ll : List (List Int)) (i : Int) : Bool := amOk th (ll.drop i.toNat)

def fewL (ll : List (List Int)) : Bool := ll.all fun l => decide (l.length ≤ 17592186044416)

def fewB (ns n1 n2 n3 n4 nt nl : Nat) : Bool := decide (ns ≤ 1000000 ∧ n1 ≤ 1000000 ∧ n2 ≤ 1000000 ∧ n3 ≤ 1000000 ∧ n4 ≤ 1000000 ∧ nt ≤ 1000000 ∧ nl ≤ 1000000)

/-- Rows as long as memory is. -/
def wideB (ns n1 n2 n3 n4 nt nl : Nat) : Bool := decide (ns ≤ 8796093022208 ∧ n1 ≤ 17592186044416 ∧ n2 ≤ 17592186044416 ∧ n3 ≤ 17592186044416 ∧ n4 ≤ 17592186044416 ∧ nt ≤ 1599289640401 ∧ nl ≤ 3518437208883)


def Fidx2 : Pure1 := fun xs => match FindexBad xs with
  | some x => some x
  | none => FidxAm xs

theorem ok_idx2 : PureOK Tryz.prog 103 Fidx2 := by
  refine ⟨ok_indexBad.1, fun c xs vs b r h1 h2 h3 h4 h5 => ?_⟩
  unfold Fidx2 at h4
  split at h4
  · rename_i x hx
    cases h4
    exact ok_indexBad.2 c xs vs _ _ h1 h2 h3 hx h5
  · exact ok_idxAm.2 c xs vs b r h1 h2 h3 h4 h5

def Froom : Pure1 := fun
  | [.agg [.int .i64 lg, .int .i64 th, .int .i64 po, .int .i64 wt, .int .i64 sp, .int .i64 yi, .bool sg]] => some (none, .int .i64 (roomOf lg th po wt sp yi))
  | _ => none

theorem vc_room (lg th po wt sp yi : Int) (sg : Bool) (r : AV) : VC Tryz.prog (tabS tabK0) noL false 37 [.agg [.int .i64 lg, .int .i64 th, .int .i64 po, .int .i64 wt, .int .i64 sp, .int .i64 yi, .bool sg]] r = (
  br (ine (confE lg th po wt sp yi) 0) (some (AV.int IntKind.i64 0) = some r)
    (asrt (ile 0 lg) (some (AV.int IntKind.i64 (ishl IntKind.i64 1 lg)) = some r))) := by kernel_rfl

theorem ok_room : PureOK Tryz.prog 37 Froom := by
  refine tab_plain mixed (l := tabK0) ok_tabK0 false (by kernel_rfl) fun xs b r h hb wf => ?_
  unfold Froom at h
  split at h
  · rename_i lg th po wt sp yi sg
    cases h
    try rw [some_f] at hb
    try simp only [WFL, WF, List.mem_cons, List.not_mem_nil, or_false, forall_eq_or_imp, forall_eq, Col.len, and_true, true_and] at wf
    rw [vc_room]
    have hlg : confE lg th po wt sp yi = 0 → 1 ≤ lg ∧ lg ≤ 6 := by
      unfold confE
      split
      · intro _; omega
      · intro h; omega
    by_cases c : confE lg th po wt sp yi = 0
    · obtain ⟨q1, q2⟩ := hlg c
      have e : ishl .i64 1 lg = 2 ^ lg.toNat := by
        have : lg = 1 ∨ lg = 2 ∨ lg = 3 ∨ lg = 4 ∨ lg = 5 ∨ lg = 6 := by omega
        rcases this with rfl | rfl | rfl | rfl | rfl | rfl <;> rfl
      simp [asrt_iff, br_iff, ieq_t, ieq_f, ine_t, ine_f, ilt_t, ilt_f, ile_t, ile_f, igt_t, igt_f, ige_t, ige_f, nlt_t, nlt_f, nle_t, nle_f, neq_t, neq_f, beq2_t, beq2_f, bnot_t, bnot_f, band_t, band_f, bite_t, bite_f, bimp_t, bimp_f, iadd_e, isub_e, imul_e, ofN_e, nOf_e, nAdd_e, nDiff_e, room_e, lenI_e, gI_e, gB_e, imin_e, imax_e, cat_e, pt_e, put_e, some_f, roomOf, c, e]
      omega
    · simp [asrt_iff, br_iff, ieq_t, ieq_f, ine_t, ine_f, ilt_t, ilt_f, ile_t, ile_f, igt_t, igt_f, ige_t, ige_f, nlt_t, nlt_f, nle_t, nle_f, neq_t, neq_f, beq2_t, beq2_f, bnot_t, bnot_f, band_t, band_f, bite_t, bite_f, bimp_t, bimp_f, iadd_e, isub_e, imul_e, ofN_e, nOf_e, nAdd_e, nDiff_e, room_e, lenI_e, gI_e, gB_e, imin_e, imax_e, cat_e, pt_e, put_e, some_f, roomOf, c]
  · cases h


def tabK1 : List (FuncId × Pure1) := [(69, FcloneSlot), (71, FcloneTh), (72, FcloneLog), (70, FcloneW), (37, Froom), (103, Fidx2), (89, FcheckW), (63, FposCheck), (64, FslotChk), (66, FevCheckW), (91, FidxTh)]

theorem ok_tabK1 : ∀ p ∈ tabK1, PureOK Tryz.prog p.1 p.2 := by
  intro p hp
  simp only [tabK1, List.mem_cons, List.not_mem_nil, or_false] at hp
  rcases hp with rfl | rfl | rfl | rfl | rfl | rfl | rfl | rfl | rfl | rfl | rfl
  · exact ok_cloneSlot
  · exact ok_cloneTh
  · exact ok_cloneLog
  · exact ok_cloneW
  · exact ok_room
  · exact ok_idx2
  · exact ok_checkW
  · exact ok_posCheck
  · exact ok_slotChk
  · exact ok_evCheckW
  · exact ok_idxTh


def spec_among : LoopSpec := { n := 24, keep := [2, 5, 9, 10, 11], srcs := [.tmp 2], keepE := [4], srcsE := [], goes := fun vals objs Q => match vals, objs with
  | [.ptr 0 0 0, .fn (.func 88) [] [.ptr 0 0 0], .sl n [.ints .i64 ll], .int .i64 m, .int .i64 i], [some (.var [.int .i64 th])] => asrt (band (fewL ll) (band (nle n 1000000) (band (ieq m (ofN n)) (band (ile 0 i) (ile i (ofN n)))))) (br (amFrom th ll i) (Q (.exit 0) [.top] []) (Q .ret [.bool false] []))
  | _, _ => False }

theorem lp_among (n : Nat) (ll : List (List Int)) (m i : Int) (th : Int) (mu : List AV → Heap → Nat) (Q : Ex → List AV → Heap → Prop) : runCode Tryz.prog (tabS tabK1) (callN Tryz.prog (tabS tabK1) noL 11) (fun _ => none) (bodyOf Tryz.prog 65 0) 0 ⟨mkT (spec_among).keep [.ptr 0 0 0, .fn (.func 88) [] [.ptr 0 0 0], .sl n [.ints .i64 ll], .int .i64 m, .int .i64 i] (spec_among).n 0, [some (.var [.int .i64 th])]⟩ ((spec_among).ends mu [.ptr 0 0 0, .fn (.func 88) [] [.ptr 0 0 0], .sl n [.ints .i64 ll], .int .i64 m, .int .i64 i] ([some (.var [.int .i64 th])]) Q) = (
  br (ilt i m)
    (asrt (band (ile 0 i) (ilt i (ofN n)))
      (asrt (nle (lenI (gL ll (nOf i))) big)
        (br (bnot (bnot (lineOk (gL ll (nOf i)))))
          (asrt (nle (lenI (gL ll (nOf i))) big)
            (br (ige (amBadAt th (gL ll (nOf i)) 0) 0) (Q Ex.ret [AV.bool false] [])
              ((mu
                        [AV.ptr 0 0 0, AV.fn (Fn.func 88) [] [AV.ptr 0 0 0], AV.sl n [Col.ints IntKind.i64 ll],
                          AV.int IntKind.i64 m, AV.int IntKind.i64 (iadd IntKind.i64 i 1)]
                        [some (AObj.var [AV.int IntKind.i64 th])]).succ.le
                  (mu
                    [AV.ptr 0 0 0, AV.fn (Fn.func 88) [] [AV.ptr 0 0 0], AV.sl n [Col.ints IntKind.i64 ll],
                      AV.int IntKind.i64 m, AV.int IntKind.i64 i]
                    [some (AObj.var [AV.int IntKind.i64 th])]) ∧
                asrt
                  (band (fewL ll)
                    (band (nle n 1000000)
                      (band (ieq m (ofN n))
                        (band (ile 0 (iadd IntKind.i64 i 1)) (ile (iadd IntKind.i64 i 1) (ofN n))))))
                  (br (amFrom th ll (iadd IntKind.i64 i 1)) (Q (Ex.exit 0) [AV.top] [])
                    (Q Ex.ret [AV.bool false] [])))))
          (Q Ex.ret [AV.bool false] []))))
    (Q (Ex.exit 0) [AV.top] [])) := by kernel_rfl

theorem loop_among : LoopOK Tryz.prog (bodyOf Tryz.prog 65 0) spec_among.summ := by
  refine tab_loop mixed (l := tabK1) ok_tabK1 (i := 0) spec_among (fun vals objs => match vals, objs with
    | [.ptr 0 0 0, .fn (.func 88) [] [.ptr 0 0 0], .sl n [.ints .i64 ll], .int .i64 m, .int .i64 i], [some (.var [.int .i64 th])] => (m - i).toNat
    | _, _ => 0) fun vals objs Q h1 h2 wf wo hg => ?_
  unfold spec_among at hg
  simp only at hg
  split at hg
  · rename_i n ll m i th
    clear h1 h2
    try simp only [WFL, WF, List.mem_cons, List.not_mem_nil, or_false, forall_eq_or_imp, forall_eq, Col.len, and_true, true_and] at wf
    rw [lp_among]
    have hl : ll.length = n := by simpa using wf
    simp only [asrt_iff, band_t, nle_t, ieq_t, ile_t, ofN_e] at hg
    obtain ⟨⟨hf, hb, rfl, h0, hn⟩, hg⟩ := hg
    obtain ⟨k, rfl⟩ := Int.eq_ofNat_of_zero_le h0
    simp at hn
    have hw : IntKind.i64.wrap ((k : Int) + 1) = (k : Int) + 1 := wr (by omega) (by omega)
    have e1 : (k : Int).toNat = k := by omega
    have e2 : ((k : Int) + 1).toNat = k + 1 := by omega
    rw [br_iff, ilt_t, ilt_f]
    refine ⟨fun hk => ?_, fun hk => ?_⟩
    · have hkl : k < ll.length := by omega
      have gl : gL ll (nOf (k : Int)) = ll[k] := by simp [gL, nOf_e, List.getD, hkl]
      have am : amFrom th ll (k : Int) = ((lineOk ll[k] && decide (amBadAt th ll[k] 0 < 0)) && amFrom th ll ((k : Int) + 1)) := by
        unfold amFrom amOk
        rw [e1, e2, List.drop_eq_getElem_cons hkl, List.all_cons]
      have fl : ll[k].length ≤ 17592186044416 := by
        have := List.all_eq_true.1 hf ll[k] (List.getElem_mem hkl)
        simpa using this
      have fb : ll[k].length ≤ big := le_bigW fl
      rw [gl]
      rw [am] at hg
      simp [asrt_iff, br_iff, ieq_t, ieq_f, ine_t, ine_f, ilt_t, ilt_f, ile_t, ile_f, igt_t, igt_f, ige_t, ige_f, nlt_t, nlt_f, nle_t, nle_f, neq_t, neq_f, beq2_t, beq2_f, bnot_t, bnot_f, band_t, band_f, bite_t, bite_f, bimp_t, bimp_f, iadd_e, isub_e, imul_e, ofN_e, nOf_e, nAdd_e, nDiff_e, room_e, lenI_e, gI_e, gB_e, imin_e, imax_e, cat_e, pt_e, put_e, some_f, hw, fb, hf, hb] at hg ⊢
      refine ⟨by omega, fun h1 => ⟨fun h2 => ?_, fun h2 => ⟨by omega, by omega, fun h3 => ?_, fun h3 => ?_⟩⟩, fun h1 => ?_⟩ <;> grind
    · have am : amFrom th ll (k : Int) = true := by
        unfold amFrom amOk
        rw [e1, List.drop_eq_nil_of_le (by omega)]
        rfl
      rw [am] at hg
      simpa [asrt_iff, br_iff, ieq_t, ieq_f, ine_t, ine_f, ilt_t, ilt_f, ile_t, ile_f, igt_t, igt_f, ige_t, ige_f, nlt_t, nlt_f, nle_t, nle_f, neq_t, neq_f, beq2_t, beq2_f, bnot_t, bnot_f, band_t, band_f, bite_t, bite_f, bimp_t, bimp_f, iadd_e, isub_e, imul_e, ofN_e, nOf_e, nAdd_e, nDiff_e, room_e, lenI_e, gI_e, gB_e, imin_e, imax_e, cat_e, pt_e, put_e, some_f] using hg
  · exact hg.elim


def Lamong : Nat → Option LoopS := fun i => match i with
  | 0 => some (.summ spec_among.summ)
  | _ => none

theorem ok_Lamong : ∀ i x, Lamong i = some x → LoopHyp Tryz.prog 65 i x := by
  intro i s h
  unfold Lamong at h
  split at h
  · cases h; exact ⟨by kernel_rfl, loop_among⟩
  · cases h


def Famong : Pure1 := fun
  | [.int .i64 th, .sl n [.ints .i64 ll]] => some (some (band (fewL ll) (nle n 1000000)), .bool (amOk th ll))
  | _ => none

theorem vc_among (th : Int) (n : Nat) (ll : List (List Int)) (r : AV) : VC Tryz.prog (tabS tabK1) (oneL 65 Lamong) false 65 [.int .i64 th, .sl n [.ints .i64 ll]] r = (
  asrt (band (fewL ll) (band (nle n 1000000) (band (ieq (ofN n) (ofN n)) (ile 0 (ofN n)))))
    (br (amFrom th ll 0) (some (AV.bool true) = some r) (some (AV.bool false) = some r))) := by kernel_rfl

theorem ok_among : PureOK Tryz.prog 65 Famong := by
  refine tab_loops mixed (l := tabK1) ok_tabK1 false Lamong (by kernel_rfl) ok_Lamong fun xs b r h hb wf => ?_
  unfold Famong at h
  split at h
  · rename_i th n ll
    cases h
    try rw [some_f] at hb
    try simp only [WFL, WF, List.mem_cons, List.not_mem_nil, or_false, forall_eq_or_imp, forall_eq, Col.len, and_true, true_and] at wf
    rw [vc_among]
    have e : amFrom th ll 0 = amOk th ll := by simp [amFrom]
    simp [asrt_iff, br_iff, ieq_t, ieq_f, ine_t, ine_f, ilt_t, ilt_f, ile_t, ile_f, igt_t, igt_f, ige_t, ige_f, nlt_t, nlt_f, nle_t, nle_f, neq_t, neq_f, beq2_t, beq2_f, bnot_t, bnot_f, band_t, band_f, bite_t, bite_f, bimp_t, bimp_f, iadd_e, isub_e, imul_e, ofN_e, nOf_e, nAdd_e, nDiff_e, room_e, lenI_e, gI_e, gB_e, imin_e, imax_e, cat_e, pt_e, put_e, some_f, e] at hb ⊢
    exact hb
  · cases h


end Go.Own
