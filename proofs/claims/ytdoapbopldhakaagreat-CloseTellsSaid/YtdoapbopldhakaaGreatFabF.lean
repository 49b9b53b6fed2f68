/- New slots, and what a thread begins. -/
import Derived.Test.YtdoapbopldhakaaGreatFabO
namespace Go.Own
open Go Go.Proofs
set_option maxRecDepth 100000
set_option linter.unusedVariables false
set_option linter.unusedSimpArgs false

/-- The stamps from i on are their places. -/
def stampsTo (n : Nat) (a : List Int) (i : Nat) : List Int := a.take i ++ ((List.range n).drop i).map Int.ofNat

def stamps0 (n : Nat) : List Int := (List.range n).map Int.ofNat

def slotN (room : Int) : Nat := if 1 ≤ room ∧ room ≤ 64 then room.toNat else 0

def invI (e x y : Int) : Int := if e = 0 then x else y

def invB (e : Int) (y : Bool) : Bool := if e = 0 then false else y

def invU (kind un : Int) : Int := if opTimed kind then un else 0


theorem stampsTo_put {n k : Nat} {a : List Int} (ha : a.length = n) (hk : k < n) : stampsTo n (a.set k (k : Int)) (k + 1) = stampsTo n a k := by
  unfold stampsTo
  have e : ((List.range n).drop k).map Int.ofNat = (k : Int) :: ((List.range n).drop (k + 1)).map Int.ofNat := by
    rw [List.drop_eq_getElem_cons (by simpa using hk)]
    simp
  rw [e]
  apply List.ext_getElem?
  intro x
  simp only [List.getElem?_append, List.length_take, List.length_set, List.getElem?_take, List.getElem?_set, List.getElem?_cons]
  by_cases h1 : x < k
  · rw [if_pos (by omega), if_pos (by omega), if_neg (by omega), if_pos (by omega), if_pos h1]
  · by_cases h2 : x = k
    · subst h2
      rw [if_pos (by omega), if_pos (by omega), if_pos rfl, if_pos (by omega), if_neg (by omega)]
      have : x - min x a.length = 0 := by omega
      rw [this]
      rfl
    · rw [if_neg (by omega), if_neg (by omega)]
      have e3 : x - min k a.length ≠ 0 := by omega
      have e4 : x - min (k + 1) a.length = x - min k a.length - 1 := by omega
      rw [if_neg e3, e4]

theorem stampsTo_all {n : Nat} {a : List Int} (ha : a.length = n) : stampsTo n a n = a := by
  unfold stampsTo
  rw [List.drop_eq_nil_of_le (by simp), ← ha]
  simp

theorem stampsTo_zero {n : Nat} {a : List Int} : stampsTo n a 0 = stamps0 n := by
  simp [stampsTo, stamps0]

def spec_slotNew : LoopSpec := { n := 25, keep := [3, 14, 15], srcs := [.tmp 3], keepE := [3], srcsE := [.tmp 3], goes := fun vals objs Q => match vals, objs with
  | [.full 0, .int .i64 m, .int .i64 i], [some (.row 87 n [.int .i64 a, .int .i64 b])] => asrt (band (nle n 64) (band (ieq m (ofN n)) (band (ile 0 i) (ile i (ofN n))))) (Q (.exit 0) [.full 0] [some (.row 87 n [.int .i64 (stampsTo n a (nOf i)), .int .i64 b])])
  | _, _ => False }

theorem lp_slotNew (m i : Int) (n : Nat) (a b : List Int) (mu : List AV → Heap → Nat) (Q : Ex → List AV → Heap → Prop) : runCode Tryz.prog (tabS tab0) (callN Tryz.prog (tabS tab0) noL 11) (fun _ => none) (bodyOf Tryz.prog 36 0) 0 ⟨mkT (spec_slotNew).keep [.full 0, .int .i64 m, .int .i64 i] (spec_slotNew).n 0, [some (.row 87 n [.int .i64 a, .int .i64 b])]⟩ ((spec_slotNew).ends mu [.full 0, .int .i64 m, .int .i64 i] ([some (.row 87 n [.int .i64 a, .int .i64 b])]) Q) = (
  br (ilt i m)
    (asrt (band (ile 0 i) (ilt i (ofN n)))
      (asrt (nlt (nOf i) n)
        ((mu [AV.full 0, AV.int IntKind.i64 m, AV.int IntKind.i64 (iadd IntKind.i64 i 1)]
                  [some (AObj.row 87 n [Col.int IntKind.i64 (put a (nOf i) i), Col.int IntKind.i64 b])]).succ.le
            (mu [AV.full 0, AV.int IntKind.i64 m, AV.int IntKind.i64 i]
              [some (AObj.row 87 n [Col.int IntKind.i64 a, Col.int IntKind.i64 b])]) ∧
          asrt
            (band (nle n 64)
              (band (ieq m (ofN n)) (band (ile 0 (iadd IntKind.i64 i 1)) (ile (iadd IntKind.i64 i 1) (ofN n)))))
            (Q (Ex.exit 0) [AV.full 0]
              [some
                  (AObj.row 87 n
                    [Col.int IntKind.i64 (stampsTo n (put a (nOf i) i) (nOf (iadd IntKind.i64 i 1))),
                      Col.int IntKind.i64 b])]))))
    (Q (Ex.exit 0) [AV.full 0] [some (AObj.row 87 n [Col.int IntKind.i64 a, Col.int IntKind.i64 b])])) := by kernel_rfl

theorem loop_slotNew : LoopOK Tryz.prog (bodyOf Tryz.prog 36 0) spec_slotNew.summ := by
  refine tab_loop mixed (l := tab0) ok_tab0 (i := 0) spec_slotNew (fun vals objs => match vals, objs with
    | [.full 0, .int .i64 m, .int .i64 i], [some (.row 87 n [.int .i64 a, .int .i64 b])] => (m - i).toNat
    | _, _ => 0) fun vals objs Q h1 h2 wf wo hg => ?_
  unfold spec_slotNew at hg
  simp only at hg
  split at hg
  · rename_i m i n a b
    clear h1 h2
    try simp only [WFL, WF, List.mem_cons, List.not_mem_nil, or_false, forall_eq_or_imp, forall_eq, Col.len, and_true, true_and] at wf
    rw [lp_slotNew]
    obtain ⟨wa, wb⟩ : a.length = n ∧ b.length = n := by simpa [WFO, Col.len] using wo _ (List.mem_singleton.2 rfl) _ rfl
    simp only [asrt_iff, band_t, nle_t, ieq_t, ile_t, ofN_e] at hg
    obtain ⟨⟨hn, rfl, h0, hi⟩, hg⟩ := hg
    obtain ⟨k, rfl⟩ := Int.eq_ofNat_of_zero_le h0
    have hw : IntKind.i64.wrap ((k : Int) + 1) = (k : Int) + 1 := wr (by omega) (by omega)
    have e1 : (k : Int).toNat = k := by omega
    have e2 : ((k : Int) + 1).toNat = k + 1 := by omega
    simp [asrt_iff, br_iff, ieq_t, ieq_f, ine_t, ine_f, ilt_t, ilt_f, ile_t, ile_f, igt_t, igt_f, ige_t, ige_f, nlt_t, nlt_f, nle_t, nle_f, neq_t, neq_f, beq2_t, beq2_f, bnot_t, bnot_f, band_t, band_f, bite_t, bite_f, bimp_t, bimp_f, iadd_e, isub_e, imul_e, ofN_e, nOf_e, nAdd_e, nDiff_e, room_e, lenI_e, gI_e, gB_e, imin_e, imax_e, cat_e, pt_e, put_e, some_f, SR.fitW_fit, SR.wid_fit, hw, e2] at hg ⊢
    refine ⟨fun hk => ⟨hk, by omega, ⟨hn, by omega, by omega⟩, ?_⟩, fun hk => ?_⟩
    · rw [stampsTo_put (by omega) hk]
      exact hg
    · have : k = n := by omega
      subst this
      rw [stampsTo_all wa] at hg
      exact hg
  · exact hg.elim


def LslotNew : Nat → Option LoopS := fun i => match i with
  | 0 => some (.summ spec_slotNew.summ)
  | _ => none

theorem ok_LslotNew : ∀ i x, LslotNew i = some x → LoopHyp Tryz.prog 36 i x := by
  intro i s h
  unfold LslotNew at h
  split at h
  · cases h; exact ⟨by kernel_rfl, loop_slotNew⟩
  · cases h


def FslotNew : Pure1 := fun
  | [.int .i64 room] => some (none, .own 87 (slotN room) [.int .i64 (stamps0 (slotN room)), .int .i64 (rI (slotN room))])
  | _ => none

theorem vc_slotNew (room : Int) (r : AV) : VC Tryz.prog (tabS tab0) (oneL 36 LslotNew) true 36 [.int .i64 room] r = (
  br (bite (ilt room 1) true (igt room 64))
    (some (AV.own 87 0 [Col.int IntKind.i64 [], Col.int IntKind.i64 []]) = some r)
    (asrt (band (ile 0 room) (band (ile room 1073741824) (ieq room room)))
      (asrt (band (nle (nOf room) 64) (band (ieq (ofN (nOf room)) (ofN (nOf room))) (ile 0 (ofN (nOf room)))))
        (some
            (AV.own 87 (nOf room)
              [Col.int IntKind.i64 (stampsTo (nOf room) (rI (nOf room)) 0), Col.int IntKind.i64 (rI (nOf room))]) =
          some r)))) := by kernel_rfl

theorem ok_slotNew : PureOK Tryz.prog 36 FslotNew := by
  refine tab_loops mixed (l := tab0) ok_tab0 true LslotNew (by kernel_rfl) ok_LslotNew fun xs b r h hb wf => ?_
  unfold FslotNew at h
  split at h
  · rename_i room
    cases h
    try rw [some_f] at hb
    try simp only [WFL, WF, List.mem_cons, List.not_mem_nil, or_false, forall_eq_or_imp, forall_eq, Col.len, and_true, true_and] at wf
    rw [vc_slotNew]
    unfold slotN
    by_cases hc : 1 ≤ room ∧ room ≤ 64
    · have q1 : ¬ room < 1 := by omega
      have q2 : ¬ room > 64 := by omega
      rw [if_pos hc]
      simp [asrt_iff, br_iff, ieq_t, ieq_f, ine_t, ine_f, ilt_t, ilt_f, ile_t, ile_f, igt_t, igt_f, ige_t, ige_f, nlt_t, nlt_f, nle_t, nle_f, neq_t, neq_f, beq2_t, beq2_f, bnot_t, bnot_f, band_t, band_f, bite_t, bite_f, bimp_t, bimp_f, iadd_e, isub_e, imul_e, ofN_e, nOf_e, nAdd_e, nDiff_e, room_e, lenI_e, gI_e, gB_e, imin_e, imax_e, cat_e, pt_e, put_e, some_f, SR.fitW_fit, SR.wid_fit, q1, q2, stampsTo_zero]
      omega
    · rw [if_neg hc]
      simp [asrt_iff, br_iff, ieq_t, ieq_f, ine_t, ine_f, ilt_t, ilt_f, ile_t, ile_f, igt_t, igt_f, ige_t, ige_f, nlt_t, nlt_f, nle_t, nle_f, neq_t, neq_f, beq2_t, beq2_f, bnot_t, bnot_f, band_t, band_f, bite_t, bite_f, bimp_t, bimp_f, iadd_e, isub_e, imul_e, ofN_e, nOf_e, nAdd_e, nDiff_e, room_e, lenI_e, gI_e, gB_e, imin_e, imax_e, cat_e, pt_e, put_e, some_f, SR.fitW_fit, SR.wid_fit, stamps0, rI]
      omega
  · cases h


def FthInvoke : Pure1 := fun
  | [.agg [.int .i64 st, .int .i64 kd, .int .i64 vl, .int .i64 un, .int .i64 pc, .int .i64 rg, .int .i64 sn, .int .i64 tr, .bool lt, .int .i64 rs, .int .i64 gt], .int .i64 kind, .int .i64 val, .int .i64 ut] => some (none, .tup [.agg [.int .i64 (invI (invE st kind ut) 1 st), .int .i64 (invI (invE st kind ut) kind kd), .int .i64 (invI (invE st kind ut) val vl), .int .i64 (invI (invE st kind ut) (invU kind ut) un), .int .i64 (invI (invE st kind ut) 0 pc), .int .i64 (invI (invE st kind ut) 0 rg), .int .i64 (invI (invE st kind ut) 0 sn), .int .i64 (invI (invE st kind ut) 0 tr), .bool (invB (invE st kind ut) lt), .int .i64 (invI (invE st kind ut) 0 rs), .int .i64 (invI (invE st kind ut) 0 gt)], .int .i64 (invE st kind ut)])
  | _ => none

theorem vc_thInvoke (st kd vl un pc rg sn tr : Int) (lt : Bool) (rs gt : Int) (kind val ut : Int) (r : AV) : VC Tryz.prog (tabS tabT3) noL false 43 [.agg [.int .i64 st, .int .i64 kd, .int .i64 vl, .int .i64 un, .int .i64 pc, .int .i64 rg, .int .i64 sn, .int .i64 tr, .bool lt, .int .i64 rs, .int .i64 gt], .int .i64 kind, .int .i64 val, .int .i64 ut] r = (
  br (ine st 0)
    (some
        (AV.tup
          [AV.agg
              [AV.int IntKind.i64 st, AV.int IntKind.i64 kd, AV.int IntKind.i64 vl, AV.int IntKind.i64 un,
                AV.int IntKind.i64 pc, AV.int IntKind.i64 rg, AV.int IntKind.i64 sn, AV.int IntKind.i64 tr, AV.bool lt,
                AV.int IntKind.i64 rs, AV.int IntKind.i64 gt],
            AV.int IntKind.i64 120]) =
      some r)
    (br (bnot (igt (opSide kind) 0))
      (some
          (AV.tup
            [AV.agg
                [AV.int IntKind.i64 st, AV.int IntKind.i64 kd, AV.int IntKind.i64 vl, AV.int IntKind.i64 un,
                  AV.int IntKind.i64 pc, AV.int IntKind.i64 rg, AV.int IntKind.i64 sn, AV.int IntKind.i64 tr,
                  AV.bool lt, AV.int IntKind.i64 rs, AV.int IntKind.i64 gt],
              AV.int IntKind.i64 190]) =
        some r)
      (br (bite (opTimed kind) (bnot (band (ige ut 0) (ile ut 1099511627776))) false)
        (some
            (AV.tup
              [AV.agg
                  [AV.int IntKind.i64 st, AV.int IntKind.i64 kd, AV.int IntKind.i64 vl, AV.int IntKind.i64 un,
                    AV.int IntKind.i64 pc, AV.int IntKind.i64 rg, AV.int IntKind.i64 sn, AV.int IntKind.i64 tr,
                    AV.bool lt, AV.int IntKind.i64 rs, AV.int IntKind.i64 gt],
                AV.int IntKind.i64 50]) =
          some r)
        (br (bnot (opTimed kind))
          (some
              (AV.tup
                [AV.agg
                    [AV.int IntKind.i64 1, AV.int IntKind.i64 kind, AV.int IntKind.i64 val, AV.int IntKind.i64 0,
                      AV.int IntKind.i64 0, AV.int IntKind.i64 0, AV.int IntKind.i64 0, AV.int IntKind.i64 0,
                      AV.bool false, AV.int IntKind.i64 0, AV.int IntKind.i64 0],
                  AV.int IntKind.i64 0]) =
            some r)
          (some
              (AV.tup
                [AV.agg
                    [AV.int IntKind.i64 1, AV.int IntKind.i64 kind, AV.int IntKind.i64 val, AV.int IntKind.i64 ut,
                      AV.int IntKind.i64 0, AV.int IntKind.i64 0, AV.int IntKind.i64 0, AV.int IntKind.i64 0,
                      AV.bool false, AV.int IntKind.i64 0, AV.int IntKind.i64 0],
                  AV.int IntKind.i64 0]) =
            some r))))) := by kernel_rfl

theorem ok_thInvoke : PureOK Tryz.prog 43 FthInvoke := by
  refine tab_plain mixed (l := tabT3) ok_tabT3 false (by kernel_rfl) fun xs b r h hb wf => ?_
  unfold FthInvoke at h
  split at h
  · rename_i st kd vl un pc rg sn tr lt rs gt kind val ut
    cases h
    try rw [some_f] at hb
    try simp only [WFL, WF, List.mem_cons, List.not_mem_nil, or_false, forall_eq_or_imp, forall_eq, Col.len, and_true, true_and] at wf
    rw [vc_thInvoke]
    simp only [bite_and, bite_or]
    have h0 : 0 ≤ opSide kind := by unfold opSide; repeat' split <;> omega
    by_cases c1 : st = 0 <;> by_cases c2 : opSide kind = 0 <;> by_cases c3 : opTimed kind = true <;> by_cases c4 : 0 ≤ ut ∧ ut ≤ 1099511627776 <;> simp [asrt_iff, br_iff, ieq_t, ieq_f, ine_t, ine_f, ilt_t, ilt_f, ile_t, ile_f, igt_t, igt_f, ige_t, ige_f, nlt_t, nlt_f, nle_t, nle_f, neq_t, neq_f, beq2_t, beq2_f, bnot_t, bnot_f, band_t, band_f, bite_t, bite_f, bimp_t, bimp_f, iadd_e, isub_e, imul_e, ofN_e, nOf_e, nAdd_e, nDiff_e, room_e, lenI_e, gI_e, gB_e, imin_e, imax_e, cat_e, pt_e, put_e, some_f, SR.fitW_fit, SR.wid_fit, invI, invB, invU, invE, c1, c2, c3, c4]
    all_goals first
      | omega
      | grind
  · cases h


end Go.Own
