/- Queues: All. -/
import Derived.Test.YtmilniofdpgbnaaFifoDo
namespace Go.Own
open Go Go.Proofs
set_option maxRecDepth 100000
set_option linter.unusedVariables false
set_option linter.unusedSimpArgs false

structure En where
  k : Int
  v : Int
  r : Int
  g : Int

def ens : List Int → List Int → List Int → List Int → List En
  | k :: ks, v :: vs, r :: rs, g :: gs => ⟨k, v, r, g⟩ :: ens ks vs rs gs
  | _, _, _, _ => []

/-- Entries, as far as each may be told: values, mode, and how many. -/
def run (a b : Int) : List Int → Int → List En → List Int × Int × Nat
  | l, c, [] => (l, c, 0)
  | l, c, e :: es => if mayS l a b c e.k e.v e.r e.g then
      ((run a b (valS l a b c e.k e.v e.r e.g) (modeS l a b c e.k e.v e.r e.g) es).1, (run a b (valS l a b c e.k e.v e.r e.g) (modeS l a b c e.k e.v e.r e.g) es).2.1, (run a b (valS l a b c e.k e.v e.r e.g) (modeS l a b c e.k e.v e.r e.g) es).2.2 + 1)
    else (l, c, 0)

def runV (l : List Int) (a b c : Int) (ks vs rs gs : List Int) (i : Int) : List Int := (run a b l c ((ens ks vs rs gs).drop i.toNat)).1

def runM (l : List Int) (a b c : Int) (ks vs rs gs : List Int) (i : Int) : Int := (run a b l c ((ens ks vs rs gs).drop i.toNat)).2.1

def runC (l : List Int) (a b c : Int) (ks vs rs gs : List Int) (i : Int) : Int := i + (run a b l c ((ens ks vs rs gs).drop i.toNat)).2.2

def runOk (k n : Nat) (i : Int) : Bool := decide ((k : Int) + n - i ≤ 1000000) && decide (0 ≤ i) && decide (i ≤ n) && decide (n ≤ 1000000)

def sendsB (k : Int) : Bool := decide (1 ≤ k ∧ k ≤ 3)

def recvsB (k : Int) : Bool := decide (4 ≤ k ∧ k ≤ 6)


theorem ens_len : ∀ (ks vs rs gs : List Int), vs.length = ks.length → rs.length = ks.length → gs.length = ks.length → (ens ks vs rs gs).length = ks.length
  | [], [], [], [], _, _, _ => rfl
  | k :: ks, v :: vs, r :: rs, g :: gs, h1, h2, h3 => by
    simp only [List.length_cons, Nat.add_right_cancel_iff] at h1 h2 h3
    simp [ens, ens_len ks vs rs gs h1 h2 h3]
  | [], _ :: _, _, _, h, _, _ => by simp at h
  | [], [], _ :: _, _, _, h, _ => by simp at h
  | [], [], [], _ :: _, _, _, h => by simp at h
  | _ :: _, [], _, _, h, _, _ => by simp at h
  | _ :: _, _ :: _, [], _, _, h, _ => by simp at h
  | _ :: _, _ :: _, _ :: _, [], _, _, h => by simp at h

theorem ens_get : ∀ (ks vs rs gs : List Int) (i : Nat), vs.length = ks.length → rs.length = ks.length → gs.length = ks.length → i < ks.length → (ens ks vs rs gs)[i]? = some ⟨ks[i]?.getD 0, vs[i]?.getD 0, rs[i]?.getD 0, gs[i]?.getD 0⟩
  | k :: ks, v :: vs, r :: rs, g :: gs, 0, _, _, _, _ => by simp [ens]
  | k :: ks, v :: vs, r :: rs, g :: gs, i + 1, h1, h2, h3, h4 => by
    simp only [List.length_cons, Nat.add_right_cancel_iff, Nat.add_lt_add_iff_right] at h1 h2 h3 h4
    simpa [ens] using ens_get ks vs rs gs i h1 h2 h3 h4
  | [], _, _, _, _, _, _, _, h => by simp at h
  | _ :: _, [], _, _, _, h, _, _, _ => by simp at h
  | _ :: _, _ :: _, [], _, _, _, h, _, _ => by simp at h
  | _ :: _, _ :: _, _ :: _, [], _, _, _, h, _ => by simp at h

theorem ens_drop (ks vs rs gs : List Int) (i : Nat) (h1 : vs.length = ks.length) (h2 : rs.length = ks.length) (h3 : gs.length = ks.length) (h : i < ks.length) :
    (ens ks vs rs gs).drop i = ⟨ks[i]?.getD 0, vs[i]?.getD 0, rs[i]?.getD 0, gs[i]?.getD 0⟩ :: (ens ks vs rs gs).drop (i + 1) := by
  have hl := ens_len ks vs rs gs h1 h2 h3
  rw [List.drop_eq_getElem_cons (by omega)]
  have := ens_get ks vs rs gs i h1 h2 h3 h
  rw [List.getElem?_eq_getElem (by omega)] at this
  rw [Option.some.inj this]

theorem valS_le (l : List Int) (a b c e1 e2 e3 e4 : Int) : (valS l a b c e1 e2 e3 e4).length ≤ l.length + 1 := by
  have h1 := evictV_le l e4
  have h2 := sendV_le l e2 e3
  have h3 := recvV_le l e3 e4
  unfold valS
  repeat' split
  all_goals omega

theorem run_no {x : List Int} {a b c : Int} {ks vs rs gs : List Int} {j : Nat} (h1 : vs.length = ks.length) (h2 : rs.length = ks.length) (h3 : gs.length = ks.length) (h : j < ks.length)
    (hm : mayS x a b c (ks[j]?.getD 0) (vs[j]?.getD 0) (rs[j]?.getD 0) (gs[j]?.getD 0) = false) :
    runV x a b c ks vs rs gs (j : Int) = x ∧ runM x a b c ks vs rs gs (j : Int) = c ∧ runC x a b c ks vs rs gs (j : Int) = j := by
  unfold runV runM runC
  simp only [Int.toNat_natCast, ens_drop ks vs rs gs j h1 h2 h3 h, run, hm]
  simp

theorem run_go {x : List Int} {a b c : Int} {ks vs rs gs : List Int} {j : Nat} (h1 : vs.length = ks.length) (h2 : rs.length = ks.length) (h3 : gs.length = ks.length) (h : j < ks.length)
    (hm : mayS x a b c (ks[j]?.getD 0) (vs[j]?.getD 0) (rs[j]?.getD 0) (gs[j]?.getD 0) = true) :
    runV x a b c ks vs rs gs (j : Int) = runV (valS x a b c (ks[j]?.getD 0) (vs[j]?.getD 0) (rs[j]?.getD 0) (gs[j]?.getD 0)) a b (modeS x a b c (ks[j]?.getD 0) (vs[j]?.getD 0) (rs[j]?.getD 0) (gs[j]?.getD 0)) ks vs rs gs ((j : Int) + 1) ∧
    runM x a b c ks vs rs gs (j : Int) = runM (valS x a b c (ks[j]?.getD 0) (vs[j]?.getD 0) (rs[j]?.getD 0) (gs[j]?.getD 0)) a b (modeS x a b c (ks[j]?.getD 0) (vs[j]?.getD 0) (rs[j]?.getD 0) (gs[j]?.getD 0)) ks vs rs gs ((j : Int) + 1) ∧
    runC x a b c ks vs rs gs (j : Int) = runC (valS x a b c (ks[j]?.getD 0) (vs[j]?.getD 0) (rs[j]?.getD 0) (gs[j]?.getD 0)) a b (modeS x a b c (ks[j]?.getD 0) (vs[j]?.getD 0) (rs[j]?.getD 0) (gs[j]?.getD 0)) ks vs rs gs ((j : Int) + 1) := by
  unfold runV runM runC
  rw [show ((j : Int) + 1).toNat = j + 1 by omega, Int.toNat_natCast, ens_drop ks vs rs gs j h1 h2 h3 h]
  simp only [run, hm, if_true]
  refine ⟨trivial, trivial, ?_⟩
  omega

theorem run_end {x : List Int} {a b c : Int} {ks vs rs gs : List Int} {j : Nat} (h1 : vs.length = ks.length) (h2 : rs.length = ks.length) (h3 : gs.length = ks.length) (h : ks.length ≤ j) :
    runV x a b c ks vs rs gs (j : Int) = x ∧ runM x a b c ks vs rs gs (j : Int) = c ∧ runC x a b c ks vs rs gs (j : Int) = j := by
  have hl := ens_len ks vs rs gs h1 h2 h3
  unfold runV runM runC
  rw [Int.toNat_natCast, List.drop_eq_nil_of_le (by omega)]
  simp [run]

def Fsends : Pure1 := fun
  | [.int .i64 k] => some (none, .bool (sendsB k))
  | _ => none

theorem vc_sends (k : Int) (r : AV) : VC Try.prog (tabS tabF0) noL false 21 [.int .i64 k] r = (
some (AV.bool (bite (bite (ieq k 1) true (ieq k 2)) true (ieq k 3))) = some r) := by kernel_rfl

theorem ok_sends : PureOK Try.prog 21 Fsends := by
  refine tab_plain mixed (l := tabF0) ok_tabF0 false (by kernel_rfl) fun xs b r h hb wf => ?_
  unfold Fsends at h
  split at h
  · rename_i k
    cases h
    try rw [some_f] at hb
    try simp only [WFL, WF, List.mem_cons, List.not_mem_nil, or_false, forall_eq, Col.len, and_true, true_and] at wf
    rw [vc_sends]
    simp only [bite_and, bite_or]
    simp [asrt_iff, br_iff, ieq_t, ieq_f, ine_t, ine_f, ilt_t, ilt_f, ile_t, ile_f, igt_t, igt_f, ige_t, ige_f, nlt_t, nlt_f, nle_t, nle_f, neq_t, neq_f, beq2_t, beq2_f, bnot_t, bnot_f, band_t, band_f, bite_t, bite_f, bimp_t, bimp_f, iadd_e, isub_e, imul_e, ofN_e, nOf_e, nAdd_e, nDiff_e, room_e, lenI_e, gI_e, gB_e, imin_e, imax_e, cat_e, pt_e, put_e, some_f, sendsB]
    rw [Bool.eq_iff_iff]
    simp [asrt_iff, br_iff, ieq_t, ieq_f, ine_t, ine_f, ilt_t, ilt_f, ile_t, ile_f, igt_t, igt_f, ige_t, ige_f, nlt_t, nlt_f, nle_t, nle_f, neq_t, neq_f, beq2_t, beq2_f, bnot_t, bnot_f, band_t, band_f, bite_t, bite_f, bimp_t, bimp_f, iadd_e, isub_e, imul_e, ofN_e, nOf_e, nAdd_e, nDiff_e, room_e, lenI_e, gI_e, gB_e, imin_e, imax_e, cat_e, pt_e, put_e, some_f]
    omega
  · cases h


def Frecvs : Pure1 := fun
  | [.int .i64 k] => some (none, .bool (recvsB k))
  | _ => none

theorem vc_recvs (k : Int) (r : AV) : VC Try.prog (tabS tabF0) noL false 23 [.int .i64 k] r = (
some (AV.bool (bite (bite (ieq k 4) true (ieq k 5)) true (ieq k 6))) = some r) := by kernel_rfl

theorem ok_recvs : PureOK Try.prog 23 Frecvs := by
  refine tab_plain mixed (l := tabF0) ok_tabF0 false (by kernel_rfl) fun xs b r h hb wf => ?_
  unfold Frecvs at h
  split at h
  · rename_i k
    cases h
    try rw [some_f] at hb
    try simp only [WFL, WF, List.mem_cons, List.not_mem_nil, or_false, forall_eq, Col.len, and_true, true_and] at wf
    rw [vc_recvs]
    simp only [bite_and, bite_or]
    simp [asrt_iff, br_iff, ieq_t, ieq_f, ine_t, ine_f, ilt_t, ilt_f, ile_t, ile_f, igt_t, igt_f, ige_t, ige_f, nlt_t, nlt_f, nle_t, nle_f, neq_t, neq_f, beq2_t, beq2_f, bnot_t, bnot_f, band_t, band_f, bite_t, bite_f, bimp_t, bimp_f, iadd_e, isub_e, imul_e, ofN_e, nOf_e, nAdd_e, nDiff_e, room_e, lenI_e, gI_e, gB_e, imin_e, imax_e, cat_e, pt_e, put_e, some_f, recvsB]
    rw [Bool.eq_iff_iff]
    simp [asrt_iff, br_iff, ieq_t, ieq_f, ine_t, ine_f, ilt_t, ilt_f, ile_t, ile_f, igt_t, igt_f, ige_t, ige_f, nlt_t, nlt_f, nle_t, nle_f, neq_t, neq_f, beq2_t, beq2_f, bnot_t, bnot_f, band_t, band_f, bite_t, bite_f, bimp_t, bimp_f, iadd_e, isub_e, imul_e, ofN_e, nOf_e, nAdd_e, nDiff_e, room_e, lenI_e, gI_e, gB_e, imin_e, imax_e, cat_e, pt_e, put_e, some_f]
    omega
  · cases h


def Fqsame : Pure1 := fun
  | [.agg [.sl n [.int .i64 l], .int .i64 a, .int .i64 b, .int .i64 c], .agg [.sl n' [.int .i64 l'], .int .i64 a', .int .i64 b', .int .i64 c']] => some (some (nle n big), .bool (band (sameI l l') (band (ieq a a') (band (ieq b b') (ieq c c')))))
  | _ => none

theorem vc_qsame (n : Nat) (l : List Int) (a b c : Int) (n' : Nat) (l' : List Int) (a' b' c' : Int) (r : AV) : VC Try.prog (tabS tabF0) noL false 18 [.agg [.sl n [.int .i64 l], .int .i64 a, .int .i64 b, .int .i64 c], .agg [.sl n' [.int .i64 l'], .int .i64 a', .int .i64 b', .int .i64 c']] r = (
  asrt (nle n big)
    (some (AV.bool (bite (bite (bite (sameI l l') (ieq a a') false) (ieq b b') false) (ieq c c') false)) = some r)) := by kernel_rfl

theorem ok_qsame : PureOK Try.prog 18 Fqsame := by
  refine tab_plain mixed (l := tabF0) ok_tabF0 false (by kernel_rfl) fun xs b r h hb wf => ?_
  unfold Fqsame at h
  split at h
  · rename_i n l a b c n' l' a' b' c'
    cases h
    try rw [some_f] at hb
    try simp only [WFL, WF, List.mem_cons, List.not_mem_nil, or_false, forall_eq, Col.len, and_true, true_and] at wf
    rw [vc_qsame]
    simp only [bite_and, bite_or]
    simp [asrt_iff, br_iff, ieq_t, ieq_f, ine_t, ine_f, ilt_t, ilt_f, ile_t, ile_f, igt_t, igt_f, ige_t, ige_f, nlt_t, nlt_f, nle_t, nle_f, neq_t, neq_f, beq2_t, beq2_f, bnot_t, bnot_f, band_t, band_f, bite_t, bite_f, bimp_t, bimp_f, iadd_e, isub_e, imul_e, ofN_e, nOf_e, nAdd_e, nDiff_e, room_e, lenI_e, gI_e, gB_e, imin_e, imax_e, cat_e, pt_e, put_e, some_f] at hb ⊢
    try grind [ieq, ine, ilt, ile, igt, ige, nlt, nle, neq, beq2, bnot, band, bite, bimp, le_big]
  · cases h


def tabF1 : List (FuncId × Pure1) := [(16, Fdo), (21, Fsends), (23, Frecvs), (18, Fqsame)] ++ tabF0

theorem ok_tabF1 : ∀ p ∈ tabF1, PureOK Try.prog p.1 p.2 := by
  intro p hp
  simp only [tabF1, List.mem_append, List.mem_cons, List.not_mem_nil, or_false] at hp
  rcases hp with (rfl | rfl | rfl | rfl) | hp
  · exact ok_do
  · exact ok_sends
  · exact ok_recvs
  · exact ok_qsame
  · exact ok_tabF0 p hp


def spec_qall : LoopSpec := { n := 35, keep := [1, 4, 6, 13, 14, 15], srcs := [.tmp 4, .tmp 6], keepE := [1, 4, 5, 6], srcsE := [.tmp 4, .tmp 6], goes := fun vals objs Q => match vals, objs with
  | [.sl q qc, .ptr 0 0 0, .ptr 1 0 0, .sl n [.int .i64 c0, .int .i64 ks, .int .i64 vs, .int .i64 rs, .int .i64 gs], .int .i64 m, .int .i64 i], [some (.var [.sl z [.int .i64 zl], .int .i64 z1, .int .i64 z2, .int .i64 z3]), some (.var [.sl k [.int .i64 x], .int .i64 a, .int .i64 b, .int .i64 c])] => asrt (band (neq q n) (band (ieq m (ofN n)) (runOk k n i))) (br (ieq (runC x a b c ks vs rs gs i) (ofN n)) (Q (.exit 0) [.sl q qc, .ptr 0 0 0, .top, .ptr 1 0 0] [some (.var [.sl z [.int .i64 zl], .int .i64 z1, .int .i64 z2, .int .i64 z3]), some (.var [.sl (lenI (runV x a b c ks vs rs gs i)) [.int .i64 (runV x a b c ks vs rs gs i)], .int .i64 a, .int .i64 b, .int .i64 (runM x a b c ks vs rs gs i)])]) (Q .ret [.sl q qc, .ptr 0 0 0, .int .i64 (runC x a b c ks vs rs gs i), .ptr 1 0 0] [some (.var [.sl (lenI (runV x a b c ks vs rs gs i)) [.int .i64 (runV x a b c ks vs rs gs i)], .int .i64 a, .int .i64 b, .int .i64 (runM x a b c ks vs rs gs i)]), some (.var [.sl (lenI (runV x a b c ks vs rs gs i)) [.int .i64 (runV x a b c ks vs rs gs i)], .int .i64 a, .int .i64 b, .int .i64 (runM x a b c ks vs rs gs i)])]))
  | _, _ => False }

theorem lp_qall (q : Nat) (qc : List Col) (n : Nat) (c0 ks vs rs gs : List Int) (m i : Int) (z : Nat) (zl : List Int) (z1 z2 z3 : Int) (k : Nat) (x : List Int) (a b c : Int) (mu : List AV → Heap → Nat) (Q : Ex → List AV → Heap → Prop) : runCode Try.prog (tabS tabF1) (callN Try.prog (tabS tabF1) noL 11) (fun _ => none) (bodyOf Try.prog 19 0) 0 ⟨mkT (spec_qall).keep [.sl q qc, .ptr 0 0 0, .ptr 1 0 0, .sl n [.int .i64 c0, .int .i64 ks, .int .i64 vs, .int .i64 rs, .int .i64 gs], .int .i64 m, .int .i64 i] (spec_qall).n 0, [some (.var [.sl z [.int .i64 zl], .int .i64 z1, .int .i64 z2, .int .i64 z3]), some (.var [.sl k [.int .i64 x], .int .i64 a, .int .i64 b, .int .i64 c])]⟩ ((spec_qall).ends mu [.sl q qc, .ptr 0 0 0, .ptr 1 0 0, .sl n [.int .i64 c0, .int .i64 ks, .int .i64 vs, .int .i64 rs, .int .i64 gs], .int .i64 m, .int .i64 i] [some (.var [.sl z [.int .i64 zl], .int .i64 z1, .int .i64 z2, .int .i64 z3]), some (.var [.sl k [.int .i64 x], .int .i64 a, .int .i64 b, .int .i64 c])] Q) = (
  br (ilt i m)
    (asrt (band (ile 0 i) (ilt i (ofN n)))
      (asrt (nlt k 1073741824)
        (br (bnot (mayS x a b c (gI ks (nOf i)) (gI vs (nOf i)) (gI rs (nOf i)) (gI gs (nOf i))))
          (Q Ex.ret [AV.sl q qc, AV.ptr 0 0 0, AV.int IntKind.i64 i, AV.ptr 1 0 0]
            [some
                (AObj.var
                  [AV.sl k [Col.int IntKind.i64 x], AV.int IntKind.i64 a, AV.int IntKind.i64 b, AV.int IntKind.i64 c]),
              some
                (AObj.var
                  [AV.sl k [Col.int IntKind.i64 x], AV.int IntKind.i64 a, AV.int IntKind.i64 b, AV.int IntKind.i64 c])])
          ((mu
                    [AV.sl q qc, AV.ptr 0 0 0, AV.ptr 1 0 0,
                      AV.sl n
                        [Col.int IntKind.i64 c0, Col.int IntKind.i64 ks, Col.int IntKind.i64 vs, Col.int IntKind.i64 rs,
                          Col.int IntKind.i64 gs],
                      AV.int IntKind.i64 m, AV.int IntKind.i64 (iadd IntKind.i64 i 1)]
                    [some
                        (AObj.var
                          [AV.sl z [Col.int IntKind.i64 zl], AV.int IntKind.i64 z1, AV.int IntKind.i64 z2,
                            AV.int IntKind.i64 z3]),
                      some
                        (AObj.var
                          [AV.sl (lenI (valS x a b c (gI ks (nOf i)) (gI vs (nOf i)) (gI rs (nOf i)) (gI gs (nOf i))))
                              [Col.int IntKind.i64
                                  (valS x a b c (gI ks (nOf i)) (gI vs (nOf i)) (gI rs (nOf i)) (gI gs (nOf i)))],
                            AV.int IntKind.i64 a, AV.int IntKind.i64 b,
                            AV.int IntKind.i64
                              (modeS x a b c (gI ks (nOf i)) (gI vs (nOf i)) (gI rs (nOf i))
                                (gI gs (nOf i)))])]).succ.le
              (mu
                [AV.sl q qc, AV.ptr 0 0 0, AV.ptr 1 0 0,
                  AV.sl n
                    [Col.int IntKind.i64 c0, Col.int IntKind.i64 ks, Col.int IntKind.i64 vs, Col.int IntKind.i64 rs,
                      Col.int IntKind.i64 gs],
                  AV.int IntKind.i64 m, AV.int IntKind.i64 i]
                [some
                    (AObj.var
                      [AV.sl z [Col.int IntKind.i64 zl], AV.int IntKind.i64 z1, AV.int IntKind.i64 z2,
                        AV.int IntKind.i64 z3]),
                  some
                    (AObj.var
                      [AV.sl k [Col.int IntKind.i64 x], AV.int IntKind.i64 a, AV.int IntKind.i64 b,
                        AV.int IntKind.i64 c])]) ∧
            asrt
              (band (neq q n)
                (band (ieq m (ofN n))
                  (runOk (lenI (valS x a b c (gI ks (nOf i)) (gI vs (nOf i)) (gI rs (nOf i)) (gI gs (nOf i)))) n
                    (iadd IntKind.i64 i 1))))
              (br
                (ieq
                  (runC (valS x a b c (gI ks (nOf i)) (gI vs (nOf i)) (gI rs (nOf i)) (gI gs (nOf i))) a b
                    (modeS x a b c (gI ks (nOf i)) (gI vs (nOf i)) (gI rs (nOf i)) (gI gs (nOf i))) ks vs rs gs
                    (iadd IntKind.i64 i 1))
                  (ofN n))
                (Q (Ex.exit 0) [AV.sl q qc, AV.ptr 0 0 0, AV.top, AV.ptr 1 0 0]
                  [some
                      (AObj.var
                        [AV.sl z [Col.int IntKind.i64 zl], AV.int IntKind.i64 z1, AV.int IntKind.i64 z2,
                          AV.int IntKind.i64 z3]),
                    some
                      (AObj.var
                        [AV.sl
                            (lenI
                              (runV (valS x a b c (gI ks (nOf i)) (gI vs (nOf i)) (gI rs (nOf i)) (gI gs (nOf i))) a b
                                (modeS x a b c (gI ks (nOf i)) (gI vs (nOf i)) (gI rs (nOf i)) (gI gs (nOf i))) ks vs rs
                                gs (iadd IntKind.i64 i 1)))
                            [Col.int IntKind.i64
                                (runV (valS x a b c (gI ks (nOf i)) (gI vs (nOf i)) (gI rs (nOf i)) (gI gs (nOf i))) a b
                                  (modeS x a b c (gI ks (nOf i)) (gI vs (nOf i)) (gI rs (nOf i)) (gI gs (nOf i))) ks vs
                                  rs gs (iadd IntKind.i64 i 1))],
                          AV.int IntKind.i64 a, AV.int IntKind.i64 b,
                          AV.int IntKind.i64
                            (runM (valS x a b c (gI ks (nOf i)) (gI vs (nOf i)) (gI rs (nOf i)) (gI gs (nOf i))) a b
                              (modeS x a b c (gI ks (nOf i)) (gI vs (nOf i)) (gI rs (nOf i)) (gI gs (nOf i))) ks vs rs
                              gs (iadd IntKind.i64 i 1))])])
                (Q Ex.ret
                  [AV.sl q qc, AV.ptr 0 0 0,
                    AV.int IntKind.i64
                      (runC (valS x a b c (gI ks (nOf i)) (gI vs (nOf i)) (gI rs (nOf i)) (gI gs (nOf i))) a b
                        (modeS x a b c (gI ks (nOf i)) (gI vs (nOf i)) (gI rs (nOf i)) (gI gs (nOf i))) ks vs rs gs
                        (iadd IntKind.i64 i 1)),
                    AV.ptr 1 0 0]
                  [some
                      (AObj.var
                        [AV.sl
                            (lenI
                              (runV (valS x a b c (gI ks (nOf i)) (gI vs (nOf i)) (gI rs (nOf i)) (gI gs (nOf i))) a b
                                (modeS x a b c (gI ks (nOf i)) (gI vs (nOf i)) (gI rs (nOf i)) (gI gs (nOf i))) ks vs rs
                                gs (iadd IntKind.i64 i 1)))
                            [Col.int IntKind.i64
                                (runV (valS x a b c (gI ks (nOf i)) (gI vs (nOf i)) (gI rs (nOf i)) (gI gs (nOf i))) a b
                                  (modeS x a b c (gI ks (nOf i)) (gI vs (nOf i)) (gI rs (nOf i)) (gI gs (nOf i))) ks vs
                                  rs gs (iadd IntKind.i64 i 1))],
                          AV.int IntKind.i64 a, AV.int IntKind.i64 b,
                          AV.int IntKind.i64
                            (runM (valS x a b c (gI ks (nOf i)) (gI vs (nOf i)) (gI rs (nOf i)) (gI gs (nOf i))) a b
                              (modeS x a b c (gI ks (nOf i)) (gI vs (nOf i)) (gI rs (nOf i)) (gI gs (nOf i))) ks vs rs
                              gs (iadd IntKind.i64 i 1))]),
                    some
                      (AObj.var
                        [AV.sl
                            (lenI
                              (runV (valS x a b c (gI ks (nOf i)) (gI vs (nOf i)) (gI rs (nOf i)) (gI gs (nOf i))) a b
                                (modeS x a b c (gI ks (nOf i)) (gI vs (nOf i)) (gI rs (nOf i)) (gI gs (nOf i))) ks vs rs
                                gs (iadd IntKind.i64 i 1)))
                            [Col.int IntKind.i64
                                (runV (valS x a b c (gI ks (nOf i)) (gI vs (nOf i)) (gI rs (nOf i)) (gI gs (nOf i))) a b
                                  (modeS x a b c (gI ks (nOf i)) (gI vs (nOf i)) (gI rs (nOf i)) (gI gs (nOf i))) ks vs
                                  rs gs (iadd IntKind.i64 i 1))],
                          AV.int IntKind.i64 a, AV.int IntKind.i64 b,
                          AV.int IntKind.i64
                            (runM (valS x a b c (gI ks (nOf i)) (gI vs (nOf i)) (gI rs (nOf i)) (gI gs (nOf i))) a b
                              (modeS x a b c (gI ks (nOf i)) (gI vs (nOf i)) (gI rs (nOf i)) (gI gs (nOf i))) ks vs rs
                              gs (iadd IntKind.i64 i 1))])]))))))
    (Q (Ex.exit 0) [AV.sl q qc, AV.ptr 0 0 0, AV.top, AV.ptr 1 0 0]
      [some
          (AObj.var
            [AV.sl z [Col.int IntKind.i64 zl], AV.int IntKind.i64 z1, AV.int IntKind.i64 z2, AV.int IntKind.i64 z3]),
        some
          (AObj.var
            [AV.sl k [Col.int IntKind.i64 x], AV.int IntKind.i64 a, AV.int IntKind.i64 b, AV.int IntKind.i64 c])])) := by kernel_rfl

theorem loop_qall : LoopOK Try.prog (bodyOf Try.prog 19 0) spec_qall.summ := by
  refine tab_loop mixed (l := tabF1) ok_tabF1 (i := 0) spec_qall (fun vals objs => match vals, objs with
    | [.sl q qc, .ptr 0 0 0, .ptr 1 0 0, .sl n [.int .i64 c0, .int .i64 ks, .int .i64 vs, .int .i64 rs, .int .i64 gs], .int .i64 m, .int .i64 i], [some (.var [.sl z [.int .i64 zl], .int .i64 z1, .int .i64 z2, .int .i64 z3]), some (.var [.sl k [.int .i64 x], .int .i64 a, .int .i64 b, .int .i64 c])] => (m - i).toNat
    | _, _ => 0) fun vals objs Q h1 h2 wf wo hg => ?_
  unfold spec_qall at hg
  simp only at hg
  split at hg
  · rename_i q qc n c0 ks vs rs gs m i z zl z1 z2 z3 k x a b c
    clear h1 h2
    try simp only [WFL, WF, List.mem_cons, List.not_mem_nil, or_false, forall_eq, Col.len, and_true, true_and] at wf
    rw [lp_qall]
    simp only [asrt_iff, br_iff, band_t, neq_t, ieq_t, ieq_f] at hg
    obtain ⟨⟨rfl, rfl, hk⟩, g1, g2⟩ := hg
    obtain ⟨w1, w2, w3, w4, w5⟩ : c0.length = q ∧ ks.length = q ∧ vs.length = q ∧ rs.length = q ∧ gs.length = q := by simp [WFL, WF, Col.len] at wf; exact wf.2
    have hx : x.length = k := by simp [WFH, WFO, Col.len, WFL, WF] at wo; exact wo.2
    simp [runOk] at hk
    obtain ⟨⟨⟨k1, h0⟩, hn⟩, hq⟩ := hk
    obtain ⟨j, rfl⟩ := Int.eq_ofNat_of_zero_le h0
    simp only [Int.ofNat_eq_natCast] at *
    simp [asrt_iff, br_iff, ieq_t, ieq_f, ine_t, ine_f, ilt_t, ilt_f, ile_t, ile_f, igt_t, igt_f, ige_t, ige_f, nlt_t, nlt_f, nle_t, nle_f, neq_t, neq_f, beq2_t, beq2_f, bnot_t, bnot_f, band_t, band_f, bite_t, bite_f, bimp_t, bimp_f, iadd_e, isub_e, imul_e, ofN_e, nOf_e, nAdd_e, nDiff_e, room_e, lenI_e, gI_e, gB_e, imin_e, imax_e, cat_e, pt_e, put_e, some_f] at g1 g2 ⊢
    refine ⟨fun hlt => ⟨hlt, by omega, fun hm => ?_, fun hm => ?_⟩, fun hge => ?_⟩
    · obtain ⟨e1, e2, e3⟩ := run_no (by omega) (by omega) (by omega) (by omega) hm
      rw [e1, e2, e3, hx] at g2
      exact g2 (by omega)
    · obtain ⟨e1, e2, e3⟩ := run_go (by omega) (by omega) (by omega) (by omega) hm
      rw [e1, e2, e3] at g1 g2
      rw [wr (by omega) (by omega)]
      have hv := valS_le x a b c (ks[j]?.getD 0) (vs[j]?.getD 0) (rs[j]?.getD 0) (gs[j]?.getD 0)
      refine ⟨by omega, ?_, g1, g2⟩
      simp [runOk]
      omega
    · obtain ⟨e1, e2, e3⟩ := run_end (x := x) (a := a) (b := b) (c := c) (ks := ks) (vs := vs) (rs := rs) (gs := gs) (j := j) (by omega) (by omega) (by omega) (by omega)
      rw [e1, e2, e3, hx] at g1
      exact g1 (by omega)
  · exact hg.elim


def Lqall : Nat → Option LoopS := fun i => match i with
  | 0 => some (.summ spec_qall.summ)
  | _ => none

theorem ok_Lqall : ∀ i s, Lqall i = some (.summ s) → onlyLoop Try.prog 19 i = true ∧ LoopOK Try.prog (bodyOf Try.prog 19 i) s := by
  intro i s h
  unfold Lqall at h
  split at h
  · cases h; exact ⟨by kernel_rfl, loop_qall⟩
  · cases h


def Fall : Pure1 := fun
  | [.agg [.sl k [.int .i64 x], .int .i64 a, .int .i64 b, .int .i64 c], .sl n [.int .i64 c0, .int .i64 ks, .int .i64 vs, .int .i64 rs, .int .i64 gs]] => some (some (runOk k n 0), .tup [.agg [.sl (lenI (runV x a b c ks vs rs gs 0)) [.int .i64 (runV x a b c ks vs rs gs 0)], .int .i64 a, .int .i64 b, .int .i64 (runM x a b c ks vs rs gs 0)], .int .i64 (runC x a b c ks vs rs gs 0)])
  | _ => none

theorem vc_all (k : Nat) (x : List Int) (a b c : Int) (n : Nat) (c0 ks vs rs gs : List Int) (r : AV) : VC Try.prog (tabS tabF1) (oneL 19 Lqall) false 19 [.agg [.sl k [.int .i64 x], .int .i64 a, .int .i64 b, .int .i64 c], .sl n [.int .i64 c0, .int .i64 ks, .int .i64 vs, .int .i64 rs, .int .i64 gs]] r = (
  asrt (nle k 1073741824)
    (asrt (band (neq n n) (band (ieq (ofN n) (ofN n)) (runOk k n 0)))
      (br (ieq (runC x a b c ks vs rs gs 0) (ofN n))
        (some
            (AV.tup
              [AV.agg
                  [AV.sl (lenI (runV x a b c ks vs rs gs 0)) [Col.int IntKind.i64 (runV x a b c ks vs rs gs 0)],
                    AV.int IntKind.i64 a, AV.int IntKind.i64 b, AV.int IntKind.i64 (runM x a b c ks vs rs gs 0)],
                AV.int IntKind.i64 (ofN n)]) =
          some r)
        (some
            (AV.tup
              [AV.agg
                  [AV.sl (lenI (runV x a b c ks vs rs gs 0)) [Col.int IntKind.i64 (runV x a b c ks vs rs gs 0)],
                    AV.int IntKind.i64 a, AV.int IntKind.i64 b, AV.int IntKind.i64 (runM x a b c ks vs rs gs 0)],
                AV.int IntKind.i64 (runC x a b c ks vs rs gs 0)]) =
          some r)))) := by kernel_rfl

theorem ok_all : PureOK Try.prog 19 Fall := by
  refine tab_loops mixed (l := tabF1) ok_tabF1 false Lqall (by kernel_rfl) ok_Lqall fun xs b r h hb wf => ?_
  unfold Fall at h
  split at h
  · rename_i k x a b c n c0 ks vs rs gs
    cases h
    try rw [some_f] at hb
    try simp only [WFL, WF, List.mem_cons, List.not_mem_nil, or_false, forall_eq, Col.len, and_true, true_and] at wf
    rw [vc_all]
    simp [asrt_iff, br_iff, ieq_t, ieq_f, ine_t, ine_f, ilt_t, ilt_f, ile_t, ile_f, igt_t, igt_f, ige_t, ige_f, nlt_t, nlt_f, nle_t, nle_f, neq_t, neq_f, beq2_t, beq2_f, bnot_t, bnot_f, band_t, band_f, bite_t, bite_f, bimp_t, bimp_f, iadd_e, isub_e, imul_e, ofN_e, nOf_e, nAdd_e, nDiff_e, room_e, lenI_e, gI_e, gB_e, imin_e, imax_e, cat_e, pt_e, put_e, some_f] at hb ⊢
    have hb' := hb
    simp [runOk] at hb'
    exact ⟨by omega, hb, fun h => h.symm⟩
  · cases h


def tabF2 : List (FuncId × Pure1) := [(19, Fall)] ++ tabF1

theorem ok_tabF2 : ∀ p ∈ tabF2, PureOK Try.prog p.1 p.2 := by
  intro p hp
  simp only [tabF2, List.mem_append, List.mem_cons, List.not_mem_nil, or_false] at hp
  rcases hp with (rfl) | hp
  · exact ok_all
  · exact ok_tabF1 p hp


def Fawake3 : Pure1 := fun
  | [] => some (none, .bool true)
  | _ => none

theorem ok_awake3 : PureOK Try.prog 15 Fawake3 := by
  refine tab_plain mixed (l := tabF2) ok_tabF2 false (by kernel_rfl) fun xs b r h hb wf => ?_
  unfold Fawake3 at h
  split at h
  · cases h
    have e : VC Try.prog (tabS tabF2) noL false 15 [] (.bool true) = (some (AV.bool true) = some (AV.bool true)) := by kernel_rfl
    rw [e]
  · cases h

def tabF3 : List (FuncId × Pure1) := [(15, Fawake3)] ++ tabF2

theorem ok_tabF3 : ∀ p ∈ tabF3, PureOK Try.prog p.1 p.2 := by
  intro p hp
  simp only [tabF3, List.mem_append, List.mem_cons, List.not_mem_nil, or_false] at hp
  rcases hp with (rfl) | hp
  · exact ok_awake3
  · exact ok_tabF2 p hp


end Go.Own
