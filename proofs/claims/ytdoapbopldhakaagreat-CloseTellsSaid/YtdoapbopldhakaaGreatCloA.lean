/- Who closes: all who wait for an event are woken. -/
import Derived.Test.YtdoapbopldhakaaGreatFabQ
namespace Go.Own
open Go Go.Proofs
set_option maxRecDepth 100000
set_option linter.unusedVariables false
set_option linter.unusedSimpArgs false

def SR.wakes (s : SR) (l : List Int) (i : Nat) : SR := (l.drop i).foldl SR.wake s


def SR.hand (s : SR) (id : Int) (k : Nat) : List AV := [.int .i64 s.lg, .int .i64 s.th, .int .i64 s.po, .int .i64 s.wt, .int .i64 s.sp, .int .i64 s.yi, .bool s.sg, .int .i64 s.hd, .int .i64 s.tl, .int .i64 s.md, .full k, .full (k + 1), .full (k + 2), .int .i64 s.fe, .full (k + 3), .int .i64 s.ee, .full (k + 4), .int .i64 s.now, .full (k + 5), .full (k + 6), .int .i64 id]

def SR.rowsH (s : SR) : Heap := [some (.row 87 s.ns [.int .i64 s.ss, .int .i64 s.sv]), some (.row 3 s.n1 [.int .i64 s.l1]), some (.row 3 s.n2 [.int .i64 s.l2]), some (.row 3 s.n3 [.int .i64 s.l3]), some (.row 3 s.n4 [.int .i64 s.l4]), some (.row 49 s.nt [.int .i64 s.st, .int .i64 s.kd, .int .i64 s.vl, .int .i64 s.un, .int .i64 s.pc, .int .i64 s.rg, .int .i64 s.sn, .int .i64 s.tr, .bool s.lt, .int .i64 s.rs, .int .i64 s.gt]), some (.row 51 s.nl [.int .i64 s.c0, .int .i64 s.ks, .int .i64 s.vs, .int .i64 s.rr, .int .i64 s.gs])]

def handIn (s : SR) (id : Int) (n : Nat) (l : List Int) : Heap := some (.var (s.hand id 2)) :: some (.row 3 n [.int .i64 l]) :: s.rowsH

def handOut (s : SR) (id : Int) : Heap := some (.var (s.hand id 1)) :: s.rowsH

def asHand : Heap → Option (SR × Int × Nat × List Int)
  | [some (.var [a0, a1, a2, a3, a4, a5, a6, a7, a8, a9, .full 2, .full 3, .full 4, a13, .full 5, a15, .full 6, a17, .full 7, .full 8, .int .i64 id]), some (.row 3 n [.int .i64 l]), some (.row 87 m0 q0), some (.row 3 m1 q1), some (.row 3 m2 q2), some (.row 3 m3 q3), some (.row 3 m4 q4), some (.row 49 m5 q5), some (.row 51 m6 q6)] =>
    (match asSR (.agg [a0, a1, a2, a3, a4, a5, a6, a7, a8, a9, .sl m0 q0, .sl m1 q1, .sl m2 q2, a13, .sl m3 q3, a15, .sl m4 q4, a17, .sl m5 q5, .sl m6 q6]) with
      | some s => some (s, id, n, l)
      | none => none)
  | _ => none

theorem asHand_some {os : Heap} {s : SR} {id : Int} {n : Nat} {l : List Int} (h : asHand os = some (s, id, n, l)) : os = handIn s id n l := by
  unfold asHand at h
  split at h
  · split at h
    · rename_i s' hs
      cases h
      have := asSR_some hs
      simp only [SR.av, SR.cells, AV.agg.injEq, List.cons.injEq, AV.sl.injEq, and_true] at this
      obtain ⟨rfl, rfl, rfl, rfl, rfl, rfl, rfl, rfl, rfl, rfl, ⟨rfl, rfl⟩, ⟨rfl, rfl⟩, ⟨rfl, rfl⟩, rfl, ⟨rfl, rfl⟩, rfl, ⟨rfl, rfl⟩, rfl, ⟨rfl, rfl⟩, rfl, rfl⟩ := this
      rfl
    · cases h
  · cases h

theorem SR.wake_fit (s : SR) (x : Int) : (s.wake x).fit = s.fit := by
  unfold SR.wake
  split <;> rfl

theorem SR.wakes_lt (s : SR) (l : List Int) {i : Nat} (h : i < l.length) : s.wakes l i = (s.wake (l.getD i 0)).wakes l (i + 1) := by
  unfold SR.wakes
  rw [List.drop_eq_getElem_cons h, List.foldl_cons]
  simp [h]

theorem SR.wakes_ge (s : SR) (l : List Int) {i : Nat} (h : l.length ≤ i) : s.wakes l i = s := by
  unfold SR.wakes
  rw [List.drop_eq_nil_of_le h]
  rfl

def tabC0 : List (FuncId × Pure1) := [(16, Ffwake), (53, FnotifyAll)] ++ tabK3

theorem ok_tabC0 : ∀ p ∈ tabC0, PureOK Tryz.prog p.1 p.2 := by
  intro p hp
  simp only [tabC0, List.mem_append, List.mem_cons, List.not_mem_nil, or_false] at hp
  rcases hp with (rfl | rfl) | hp
  · exact ok_fwake
  · exact ok_notifyAll
  · exact ok_tabK3 p hp


def spec_wake : LoopSpec := { n := 34, keep := [0, 18, 19, 20], srcs := [.tmp 0, .tmp 18, .cell 0 10, .cell 0 11, .cell 0 12, .cell 0 14, .cell 0 16, .cell 0 18, .cell 0 19], keepE := [0], srcsE := [.tmp 0, .cell 0 10, .cell 0 11, .cell 0 12, .cell 0 14, .cell 0 16, .cell 0 18, .cell 0 19], goes := fun vals objs Q => match vals with
  | [.ptr 0 0 0, .full 1, .int .i64 m, .int .i64 i] => (match asHand objs with
    | some (s, id, n, l) => asrt (band (SR.fit s) (band (nle n 1000000) (band (ieq m (ofN n)) (band (ile 0 i) (ile i (ofN n)))))) (Q (.exit 0) [.ptr 0 0 0] (handOut (SR.wakes s l (nOf i)) id))
    | none => False)
  | _ => False }

theorem lp_wake (s : SR) (id m i : Int) (n : Nat) (l : List Int) (mu : List AV → Heap → Nat) (Q : Ex → List AV → Heap → Prop) : runCode Tryz.prog (tabS tabC0) (callN Tryz.prog (tabS tabC0) noL 11) (fun _ => none) (bodyOf Tryz.prog 26 0) 0 ⟨mkT (spec_wake).keep [.ptr 0 0 0, .full 1, .int .i64 m, .int .i64 i] (spec_wake).n 0, handIn s id n l⟩ ((spec_wake).endsA mu [.ptr 0 0 0, .full 1, .int .i64 m, .int .i64 i] (handIn s id n l) Q) = (
  br (ilt i m)
    (asrt (band (ile 0 i) (ilt i (ofN n)))
      (asrt (nlt (nOf i) n)
        (asrt s.fit
          ((mu [AV.ptr 0 0 0, AV.full 1, AV.int IntKind.i64 m, AV.int IntKind.i64 (iadd IntKind.i64 i 1)]
                    [some
                        (AObj.var
                          [AV.int IntKind.i64 (s.wake (gI l (nOf i))).1, AV.int IntKind.i64 (s.wake (gI l (nOf i))).2,
                            AV.int IntKind.i64 (s.wake (gI l (nOf i))).3, AV.int IntKind.i64 (s.wake (gI l (nOf i))).4,
                            AV.int IntKind.i64 (s.wake (gI l (nOf i))).5, AV.int IntKind.i64 (s.wake (gI l (nOf i))).6,
                            AV.bool (s.wake (gI l (nOf i))).7, AV.int IntKind.i64 (s.wake (gI l (nOf i))).8,
                            AV.int IntKind.i64 (s.wake (gI l (nOf i))).9, AV.int IntKind.i64 (s.wake (gI l (nOf i))).10,
                            AV.full 2, AV.full 3, AV.full 4, AV.int IntKind.i64 (s.wake (gI l (nOf i))).18, AV.full 5,
                            AV.int IntKind.i64 (s.wake (gI l (nOf i))).21, AV.full 6,
                            AV.int IntKind.i64 (s.wake (gI l (nOf i))).24, AV.full 7, AV.full 8,
                            AV.int IntKind.i64 id]),
                      some (AObj.row 3 n [Col.int IntKind.i64 l]),
                      some
                        (AObj.row 87 (s.wake (gI l (nOf i))).11
                          [Col.int IntKind.i64 (s.wake (gI l (nOf i))).12,
                            Col.int IntKind.i64 (s.wake (gI l (nOf i))).13]),
                      some (AObj.row 3 (s.wake (gI l (nOf i))).14 [Col.int IntKind.i64 (s.wake (gI l (nOf i))).15]),
                      some (AObj.row 3 (s.wake (gI l (nOf i))).16 [Col.int IntKind.i64 (s.wake (gI l (nOf i))).17]),
                      some (AObj.row 3 (s.wake (gI l (nOf i))).19 [Col.int IntKind.i64 (s.wake (gI l (nOf i))).20]),
                      some (AObj.row 3 (s.wake (gI l (nOf i))).22 [Col.int IntKind.i64 (s.wake (gI l (nOf i))).23]),
                      some
                        (AObj.row 49 (s.wake (gI l (nOf i))).25
                          [Col.int IntKind.i64 (s.wake (gI l (nOf i))).26,
                            Col.int IntKind.i64 (s.wake (gI l (nOf i))).27,
                            Col.int IntKind.i64 (s.wake (gI l (nOf i))).28,
                            Col.int IntKind.i64 (s.wake (gI l (nOf i))).29,
                            Col.int IntKind.i64 (s.wake (gI l (nOf i))).30,
                            Col.int IntKind.i64 (s.wake (gI l (nOf i))).31,
                            Col.int IntKind.i64 (s.wake (gI l (nOf i))).32,
                            Col.int IntKind.i64 (s.wake (gI l (nOf i))).33, Col.bool (s.wake (gI l (nOf i))).34,
                            Col.int IntKind.i64 (s.wake (gI l (nOf i))).35,
                            Col.int IntKind.i64 (s.wake (gI l (nOf i))).36]),
                      some
                        (AObj.row 51 (s.wake (gI l (nOf i))).37
                          [Col.int IntKind.i64 (s.wake (gI l (nOf i))).38,
                            Col.int IntKind.i64 (s.wake (gI l (nOf i))).39,
                            Col.int IntKind.i64 (s.wake (gI l (nOf i))).40,
                            Col.int IntKind.i64 (s.wake (gI l (nOf i))).41,
                            Col.int IntKind.i64 (s.wake (gI l (nOf i))).42])]).succ.le
              (mu [AV.ptr 0 0 0, AV.full 1, AV.int IntKind.i64 m, AV.int IntKind.i64 i]
                [some
                    (AObj.var
                      [AV.int IntKind.i64 s.1, AV.int IntKind.i64 s.2, AV.int IntKind.i64 s.3, AV.int IntKind.i64 s.4,
                        AV.int IntKind.i64 s.5, AV.int IntKind.i64 s.6, AV.bool s.7, AV.int IntKind.i64 s.8,
                        AV.int IntKind.i64 s.9, AV.int IntKind.i64 s.10, AV.full 2, AV.full 3, AV.full 4,
                        AV.int IntKind.i64 s.18, AV.full 5, AV.int IntKind.i64 s.21, AV.full 6, AV.int IntKind.i64 s.24,
                        AV.full 7, AV.full 8, AV.int IntKind.i64 id]),
                  some (AObj.row 3 n [Col.int IntKind.i64 l]),
                  some (AObj.row 87 s.11 [Col.int IntKind.i64 s.12, Col.int IntKind.i64 s.13]),
                  some (AObj.row 3 s.14 [Col.int IntKind.i64 s.15]), some (AObj.row 3 s.16 [Col.int IntKind.i64 s.17]),
                  some (AObj.row 3 s.19 [Col.int IntKind.i64 s.20]), some (AObj.row 3 s.22 [Col.int IntKind.i64 s.23]),
                  some
                    (AObj.row 49 s.25
                      [Col.int IntKind.i64 s.26, Col.int IntKind.i64 s.27, Col.int IntKind.i64 s.28,
                        Col.int IntKind.i64 s.29, Col.int IntKind.i64 s.30, Col.int IntKind.i64 s.31,
                        Col.int IntKind.i64 s.32, Col.int IntKind.i64 s.33, Col.bool s.34, Col.int IntKind.i64 s.35,
                        Col.int IntKind.i64 s.36]),
                  some
                    (AObj.row 51 s.37
                      [Col.int IntKind.i64 s.38, Col.int IntKind.i64 s.39, Col.int IntKind.i64 s.40,
                        Col.int IntKind.i64 s.41, Col.int IntKind.i64 s.42])]) ∧
            asrt
              (band (s.wake (gI l (nOf i))).fit
                (band (nle n 1000000)
                  (band (ieq m (ofN n)) (band (ile 0 (iadd IntKind.i64 i 1)) (ile (iadd IntKind.i64 i 1) (ofN n))))))
              (Q (Ex.exit 0) [AV.ptr 0 0 0]
                [some
                    (AObj.var
                      [AV.int IntKind.i64 ((s.wake (gI l (nOf i))).wakes l (nOf (iadd IntKind.i64 i 1))).1,
                        AV.int IntKind.i64 ((s.wake (gI l (nOf i))).wakes l (nOf (iadd IntKind.i64 i 1))).2,
                        AV.int IntKind.i64 ((s.wake (gI l (nOf i))).wakes l (nOf (iadd IntKind.i64 i 1))).3,
                        AV.int IntKind.i64 ((s.wake (gI l (nOf i))).wakes l (nOf (iadd IntKind.i64 i 1))).4,
                        AV.int IntKind.i64 ((s.wake (gI l (nOf i))).wakes l (nOf (iadd IntKind.i64 i 1))).5,
                        AV.int IntKind.i64 ((s.wake (gI l (nOf i))).wakes l (nOf (iadd IntKind.i64 i 1))).6,
                        AV.bool ((s.wake (gI l (nOf i))).wakes l (nOf (iadd IntKind.i64 i 1))).7,
                        AV.int IntKind.i64 ((s.wake (gI l (nOf i))).wakes l (nOf (iadd IntKind.i64 i 1))).8,
                        AV.int IntKind.i64 ((s.wake (gI l (nOf i))).wakes l (nOf (iadd IntKind.i64 i 1))).9,
                        AV.int IntKind.i64 ((s.wake (gI l (nOf i))).wakes l (nOf (iadd IntKind.i64 i 1))).10, AV.full 1,
                        AV.full 2, AV.full 3,
                        AV.int IntKind.i64 ((s.wake (gI l (nOf i))).wakes l (nOf (iadd IntKind.i64 i 1))).18, AV.full 4,
                        AV.int IntKind.i64 ((s.wake (gI l (nOf i))).wakes l (nOf (iadd IntKind.i64 i 1))).21, AV.full 5,
                        AV.int IntKind.i64 ((s.wake (gI l (nOf i))).wakes l (nOf (iadd IntKind.i64 i 1))).24, AV.full 6,
                        AV.full 7, AV.int IntKind.i64 id]),
                  some
                    (AObj.row 87 ((s.wake (gI l (nOf i))).wakes l (nOf (iadd IntKind.i64 i 1))).11
                      [Col.int IntKind.i64 ((s.wake (gI l (nOf i))).wakes l (nOf (iadd IntKind.i64 i 1))).12,
                        Col.int IntKind.i64 ((s.wake (gI l (nOf i))).wakes l (nOf (iadd IntKind.i64 i 1))).13]),
                  some
                    (AObj.row 3 ((s.wake (gI l (nOf i))).wakes l (nOf (iadd IntKind.i64 i 1))).14
                      [Col.int IntKind.i64 ((s.wake (gI l (nOf i))).wakes l (nOf (iadd IntKind.i64 i 1))).15]),
                  some
                    (AObj.row 3 ((s.wake (gI l (nOf i))).wakes l (nOf (iadd IntKind.i64 i 1))).16
                      [Col.int IntKind.i64 ((s.wake (gI l (nOf i))).wakes l (nOf (iadd IntKind.i64 i 1))).17]),
                  some
                    (AObj.row 3 ((s.wake (gI l (nOf i))).wakes l (nOf (iadd IntKind.i64 i 1))).19
                      [Col.int IntKind.i64 ((s.wake (gI l (nOf i))).wakes l (nOf (iadd IntKind.i64 i 1))).20]),
                  some
                    (AObj.row 3 ((s.wake (gI l (nOf i))).wakes l (nOf (iadd IntKind.i64 i 1))).22
                      [Col.int IntKind.i64 ((s.wake (gI l (nOf i))).wakes l (nOf (iadd IntKind.i64 i 1))).23]),
                  some
                    (AObj.row 49 ((s.wake (gI l (nOf i))).wakes l (nOf (iadd IntKind.i64 i 1))).25
                      [Col.int IntKind.i64 ((s.wake (gI l (nOf i))).wakes l (nOf (iadd IntKind.i64 i 1))).26,
                        Col.int IntKind.i64 ((s.wake (gI l (nOf i))).wakes l (nOf (iadd IntKind.i64 i 1))).27,
                        Col.int IntKind.i64 ((s.wake (gI l (nOf i))).wakes l (nOf (iadd IntKind.i64 i 1))).28,
                        Col.int IntKind.i64 ((s.wake (gI l (nOf i))).wakes l (nOf (iadd IntKind.i64 i 1))).29,
                        Col.int IntKind.i64 ((s.wake (gI l (nOf i))).wakes l (nOf (iadd IntKind.i64 i 1))).30,
                        Col.int IntKind.i64 ((s.wake (gI l (nOf i))).wakes l (nOf (iadd IntKind.i64 i 1))).31,
                        Col.int IntKind.i64 ((s.wake (gI l (nOf i))).wakes l (nOf (iadd IntKind.i64 i 1))).32,
                        Col.int IntKind.i64 ((s.wake (gI l (nOf i))).wakes l (nOf (iadd IntKind.i64 i 1))).33,
                        Col.bool ((s.wake (gI l (nOf i))).wakes l (nOf (iadd IntKind.i64 i 1))).34,
                        Col.int IntKind.i64 ((s.wake (gI l (nOf i))).wakes l (nOf (iadd IntKind.i64 i 1))).35,
                        Col.int IntKind.i64 ((s.wake (gI l (nOf i))).wakes l (nOf (iadd IntKind.i64 i 1))).36]),
                  some
                    (AObj.row 51 ((s.wake (gI l (nOf i))).wakes l (nOf (iadd IntKind.i64 i 1))).37
                      [Col.int IntKind.i64 ((s.wake (gI l (nOf i))).wakes l (nOf (iadd IntKind.i64 i 1))).38,
                        Col.int IntKind.i64 ((s.wake (gI l (nOf i))).wakes l (nOf (iadd IntKind.i64 i 1))).39,
                        Col.int IntKind.i64 ((s.wake (gI l (nOf i))).wakes l (nOf (iadd IntKind.i64 i 1))).40,
                        Col.int IntKind.i64 ((s.wake (gI l (nOf i))).wakes l (nOf (iadd IntKind.i64 i 1))).41,
                        Col.int IntKind.i64 ((s.wake (gI l (nOf i))).wakes l (nOf (iadd IntKind.i64 i 1))).42])])))))
    (Q (Ex.exit 0) [AV.ptr 0 0 0]
      [some
          (AObj.var
            [AV.int IntKind.i64 s.1, AV.int IntKind.i64 s.2, AV.int IntKind.i64 s.3, AV.int IntKind.i64 s.4,
              AV.int IntKind.i64 s.5, AV.int IntKind.i64 s.6, AV.bool s.7, AV.int IntKind.i64 s.8,
              AV.int IntKind.i64 s.9, AV.int IntKind.i64 s.10, AV.full 1, AV.full 2, AV.full 3, AV.int IntKind.i64 s.18,
              AV.full 4, AV.int IntKind.i64 s.21, AV.full 5, AV.int IntKind.i64 s.24, AV.full 6, AV.full 7,
              AV.int IntKind.i64 id]),
        some (AObj.row 87 s.11 [Col.int IntKind.i64 s.12, Col.int IntKind.i64 s.13]),
        some (AObj.row 3 s.14 [Col.int IntKind.i64 s.15]), some (AObj.row 3 s.16 [Col.int IntKind.i64 s.17]),
        some (AObj.row 3 s.19 [Col.int IntKind.i64 s.20]), some (AObj.row 3 s.22 [Col.int IntKind.i64 s.23]),
        some
          (AObj.row 49 s.25
            [Col.int IntKind.i64 s.26, Col.int IntKind.i64 s.27, Col.int IntKind.i64 s.28, Col.int IntKind.i64 s.29,
              Col.int IntKind.i64 s.30, Col.int IntKind.i64 s.31, Col.int IntKind.i64 s.32, Col.int IntKind.i64 s.33,
              Col.bool s.34, Col.int IntKind.i64 s.35, Col.int IntKind.i64 s.36]),
        some
          (AObj.row 51 s.37
            [Col.int IntKind.i64 s.38, Col.int IntKind.i64 s.39, Col.int IntKind.i64 s.40, Col.int IntKind.i64 s.41,
              Col.int IntKind.i64 s.42])])) := by kernel_rfl

theorem loop_wake : LoopFr Tryz.prog (bodyOf Tryz.prog 26 0) spec_wake.framed := by
  refine tab_loopA mixed (l := tabC0) ok_tabC0 (i := 0) spec_wake (fun vals objs => match vals with
    | [.ptr 0 0 0, .full 1, .int .i64 m, .int .i64 i] => (m - i).toNat
    | _ => 0) fun vals objs Q h1 h2 wf wo hg => ?_
  unfold spec_wake at hg
  simp only at hg
  split at hg
  · rename_i m i
    clear h1 h2
    split at hg
    · rename_i s id n l hx
      have e := asHand_some hx
      subst e
      clear hx
      rw [lp_wake]
      have wl : l.length = n := by simpa [WFO, Col.len] using wo (some (.row 3 n [.int .i64 l])) (by simp [handIn]) _ rfl
      simp only [asrt_iff, band_t, nle_t, ieq_t, ile_t, ofN_e] at hg
      obtain ⟨⟨hf, hn, rfl, h0, hi⟩, hg⟩ := hg
      obtain ⟨k, rfl⟩ := Int.eq_ofNat_of_zero_le h0
      have hw : IntKind.i64.wrap ((k : Int) + 1) = (k : Int) + 1 := wr (by omega) (by omega)
      have e2 : ((k : Int) + 1).toNat = k + 1 := by omega
      have e3 : (k : Int).toNat = k := by omega
      rw [br_iff, ilt_t, ilt_f]
      refine ⟨fun hk => ?_, fun hk => ?_⟩
      · have hk' : k < l.length := by omega
        have e4 : nOf (iadd .i64 (k : Int) 1) = k + 1 := by rw [iadd_e, hw, nOf_e, e2]
        have e5 : gI l (nOf (k : Int)) = l.getD k 0 := by rw [gI_e, nOf_e, e3]; simp [List.getD_eq_getElem?_getD]
        have e6 : nOf (k : Int) = k := by rw [nOf_e, e3]
        rw [e6, SR.wakes_lt s l hk'] at hg
        simp only [asrt_iff]
        refine ⟨by simp [asrt_iff, br_iff, ieq_t, ieq_f, ine_t, ine_f, ilt_t, ilt_f, ile_t, ile_f, igt_t, igt_f, ige_t, ige_f, nlt_t, nlt_f, nle_t, nle_f, neq_t, neq_f, beq2_t, beq2_f, bnot_t, bnot_f, band_t, band_f, bite_t, bite_f, bimp_t, bimp_f, iadd_e, isub_e, imul_e, ofN_e, nOf_e, nAdd_e, nDiff_e, room_e, lenI_e, gI_e, gB_e, imin_e, imax_e, cat_e, pt_e, put_e, some_f, SR.fitW_fit, SR.wid_fit]; omega, by simp [asrt_iff, br_iff, ieq_t, ieq_f, ine_t, ine_f, ilt_t, ilt_f, ile_t, ile_f, igt_t, igt_f, ige_t, ige_f, nlt_t, nlt_f, nle_t, nle_f, neq_t, neq_f, beq2_t, beq2_f, bnot_t, bnot_f, band_t, band_f, bite_t, bite_f, bimp_t, bimp_f, iadd_e, isub_e, imul_e, ofN_e, nOf_e, nAdd_e, nDiff_e, room_e, lenI_e, gI_e, gB_e, imin_e, imax_e, cat_e, pt_e, put_e, some_f, SR.fitW_fit, SR.wid_fit]; omega, hf, ?_, ?_, ?_⟩
        · simp [asrt_iff, br_iff, ieq_t, ieq_f, ine_t, ine_f, ilt_t, ilt_f, ile_t, ile_f, igt_t, igt_f, ige_t, ige_f, nlt_t, nlt_f, nle_t, nle_f, neq_t, neq_f, beq2_t, beq2_f, bnot_t, bnot_f, band_t, band_f, bite_t, bite_f, bimp_t, bimp_f, iadd_e, isub_e, imul_e, ofN_e, nOf_e, nAdd_e, nDiff_e, room_e, lenI_e, gI_e, gB_e, imin_e, imax_e, cat_e, pt_e, put_e, some_f, SR.fitW_fit, SR.wid_fit, hw]; omega
        · simp [asrt_iff, br_iff, ieq_t, ieq_f, ine_t, ine_f, ilt_t, ilt_f, ile_t, ile_f, igt_t, igt_f, ige_t, ige_f, nlt_t, nlt_f, nle_t, nle_f, neq_t, neq_f, beq2_t, beq2_f, bnot_t, bnot_f, band_t, band_f, bite_t, bite_f, bimp_t, bimp_f, iadd_e, isub_e, imul_e, ofN_e, nOf_e, nAdd_e, nDiff_e, room_e, lenI_e, gI_e, gB_e, imin_e, imax_e, cat_e, pt_e, put_e, some_f, SR.fitW_fit, SR.wid_fit, SR.wake_fit, hf, hw, hn]; omega
        · rw [e5, e4]
          exact hg
      · have e6 : nOf (k : Int) = k := by rw [nOf_e, e3]
        rw [e6, SR.wakes_ge s l (by omega)] at hg
        exact hg
    · exact hg.elim
  · exact hg.elim

def Lwake : Nat → Option LoopS := fun i => match i with
  | 0 => some (.frame spec_wake.framed)
  | _ => none

theorem ok_Lwake : ∀ i x, Lwake i = some x → LoopHyp Tryz.prog 26 i x := by
  intro i s h
  unfold Lwake at h
  split at h
  · cases h; exact ⟨by kernel_rfl, loop_wake⟩
  · cases h


end Go.Own
