/- A law of who closes: no step changes more than one thing, nor any thread but itself, and those that it wakes. -/
import Derived.Test.YtdoapbopldhakaaCloLaw
import Derived.Test.YtdoapbopldhakaaFabOpen
namespace Go.Own
open Go Go.Proofs
set_option maxRecDepth 100000
set_option linter.unusedVariables false
set_option linter.unusedSimpArgs false

def one0 (b : Bool) : Int := if b then 0 else 1

def things (s t : SR) : Int := one0 (decide (s.hd = t.hd ∧ s.tl = t.tl ∧ s.md = t.md)) + one0 (sameI s.l1 t.l1) + one0 (sameI s.l2 t.l2) + one0 (decide (s.fe = t.fe) && sameI s.l3 t.l3) + one0 (decide (s.ee = t.ee) && sameI s.l4 t.l4)

def thSameAt (s t : SR) (j : Nat) : Bool := decide (s.st.getD j 0 = t.st.getD j 0 ∧ s.kd.getD j 0 = t.kd.getD j 0 ∧ s.vl.getD j 0 = t.vl.getD j 0 ∧ s.un.getD j 0 = t.un.getD j 0 ∧ s.pc.getD j 0 = t.pc.getD j 0 ∧ s.rg.getD j 0 = t.rg.getD j 0 ∧ s.sn.getD j 0 = t.sn.getD j 0 ∧ s.tr.getD j 0 = t.tr.getD j 0 ∧ s.lt.getD j false = t.lt.getD j false ∧ s.rs.getD j 0 = t.rs.getD j 0 ∧ s.gt.getD j 0 = t.gt.getD j 0)

def wokeAt (s t : SR) (j : Nat) : Bool := decide (s.st.getD j 0 = 2 ∧ t.st.getD j 0 = 1 ∧ s.kd.getD j 0 = t.kd.getD j 0 ∧ s.vl.getD j 0 = t.vl.getD j 0 ∧ s.un.getD j 0 = t.un.getD j 0 ∧ s.pc.getD j 0 = t.pc.getD j 0 ∧ s.rg.getD j 0 = t.rg.getD j 0 ∧ s.sn.getD j 0 = t.sn.getD j 0 ∧ s.tr.getD j 0 = t.tr.getD j 0 ∧ s.lt.getD j false = t.lt.getD j false ∧ s.rs.getD j 0 = t.rs.getD j 0 ∧ s.gt.getD j 0 = t.gt.getD j 0)

/-- All threads from the i-th on but one are as they were, or were woken. -/
def othersOk (s t : SR) (id : Int) (i : Nat) : Bool := ((List.range s.nt).drop i).all fun j => decide ((j : Int) = id) || thSameAt s t j || wokeAt s t j


def spec_ints14 : LoopSpec := { n := 26, keep := [0, 1, 5], srcs := [], keepE := [4], srcsE := [], goes := fun vals objs Q => match vals, objs with
  | [.sl n [.int .i64 l], .sl n' [.int .i64 l'], .int .i64 i], [] => asrt (band (nle n big) (band (neq n n') (band (ile 0 i) (ile i (ofN n))))) (br (sameFrom l l' i) (Q (.exit 0) [.top] []) (Q .ret [.bool false] []))
  | _, _ => False }

theorem lp_ints14 (n : Nat) (l : List Int) (n' : Nat) (l' : List Int) (i : Int) (mu : List AV → Heap → Nat) (Q : Ex → List AV → Heap → Prop) : runCode Try.prog (tabS tab0) (callN Try.prog (tabS tab0) noL 11) (fun _ => none) (bodyOf Try.prog 29 0) 0 ⟨mkT (spec_ints14).keep [.sl n [.int .i64 l], .sl n' [.int .i64 l'], .int .i64 i] (spec_ints14).n 0, []⟩ ((spec_ints14).ends mu [.sl n [.int .i64 l], .sl n' [.int .i64 l'], .int .i64 i] ([]) Q) = (
  br (ilt i (ofN n))
    (asrt (band (ile 0 i) (ilt i (ofN n)))
      (asrt (band (ile 0 i) (ilt i (ofN n')))
        (br (ine (gI l (nOf i)) (gI l' (nOf i))) (Q Ex.ret [AV.bool false] [])
          ((mu
                    [AV.sl n [Col.int IntKind.i64 l], AV.sl n' [Col.int IntKind.i64 l'],
                      AV.int IntKind.i64 (iadd IntKind.i64 i 1)]
                    []).succ.le
              (mu [AV.sl n [Col.int IntKind.i64 l], AV.sl n' [Col.int IntKind.i64 l'], AV.int IntKind.i64 i] []) ∧
            asrt
              (band (nle n big)
                (band (neq n n') (band (ile 0 (iadd IntKind.i64 i 1)) (ile (iadd IntKind.i64 i 1) (ofN n)))))
              (br (sameFrom l l' (iadd IntKind.i64 i 1)) (Q (Ex.exit 0) [AV.top] []) (Q Ex.ret [AV.bool false] []))))))
    (Q (Ex.exit 0) [AV.top] [])) := by kernel_rfl

theorem loop_ints14 : LoopOK Try.prog (bodyOf Try.prog 29 0) spec_ints14.summ := by
  refine tab_loop mixed (l := tab0) ok_tab0 (i := 0) spec_ints14 (fun vals objs => match vals, objs with
    | [.sl n [.int .i64 l], .sl n' [.int .i64 l'], .int .i64 i], [] => (n - i).toNat
    | _, _ => 0) fun vals objs Q h1 h2 wf wo hg => ?_
  unfold spec_ints14 at hg
  simp only at hg
  split at hg
  · rename_i n l n' l' i
    clear h1 h2
    try simp only [WFL, WF, List.mem_cons, List.not_mem_nil, or_false, forall_eq_or_imp, forall_eq, Col.len, and_true, true_and] at wf
    rw [lp_ints14]
    obtain ⟨w1, w2⟩ := wf
    simp [asrt_iff, br_iff, ieq_t, ieq_f, ine_t, ine_f, ilt_t, ilt_f, ile_t, ile_f, igt_t, igt_f, ige_t, ige_f, nlt_t, nlt_f, nle_t, nle_f, neq_t, neq_f, beq2_t, beq2_f, bnot_t, bnot_f, band_t, band_f, bite_t, bite_f, bimp_t, bimp_f, iadd_e, isub_e, imul_e, ofN_e, nOf_e, nAdd_e, nDiff_e, room_e, lenI_e, gI_e, gB_e, imin_e, imax_e, cat_e, pt_e, put_e, some_f] at hg ⊢
    obtain ⟨⟨hb, rfl, h0, hn⟩, hg⟩ := hg
    obtain ⟨i, rfl⟩ := Int.eq_ofNat_of_zero_le h0
    have hb' : n ≤ 2 ^ 50 := by simpa [big] using hb
    simp at hn hg ⊢
    refine ⟨fun hlt => ?_, fun hge => ?_⟩
    · rw [wr (by omega) (by omega)]
      rw [sameFrom_lt (by omega) (by omega)] at hg
      refine ⟨hlt, fun hx => ?_, fun hx => ?_⟩
      · rw [decide_eq_false hx] at hg
        simpa using hg
      · rw [decide_eq_true hx] at hg
        refine ⟨by omega, ⟨hb, by omega, by omega⟩, ?_⟩
        simpa using hg
    · rw [sameFrom_ge (by omega) (by omega)] at hg
      simpa using hg
  · exact hg.elim


def Lints14 : Nat → Option LoopS := fun i => match i with
  | 0 => some (.summ spec_ints14.summ)
  | _ => none

theorem ok_Lints14 : ∀ i x, Lints14 i = some x → LoopHyp Try.prog 29 i x := by
  intro i s h
  unfold Lints14 at h
  split at h
  · cases h; exact ⟨by kernel_rfl, loop_ints14⟩
  · cases h


def Fints14 : Pure1 := fun
  | [.sl n [.int .i64 l], .sl n' [.int .i64 l']] => some (some (nle n big), .bool (sameI l l'))
  | _ => none

theorem vc_ints14 (n : Nat) (l : List Int) (n' : Nat) (l' : List Int) (r : AV) : VC Try.prog (tabS tab0) (oneL 29 Lints14) false 29 [.sl n [.int .i64 l], .sl n' [.int .i64 l']] r = (
  br (ine (ofN n) (ofN n')) (some (AV.bool false) = some r)
    (asrt (band (nle n big) (band (neq n n') (ile 0 (ofN n))))
      (br (sameFrom l l' 0) (some (AV.bool true) = some r) (some (AV.bool false) = some r)))) := by kernel_rfl

theorem ok_ints14 : PureOK Try.prog 29 Fints14 := by
  refine tab_loops mixed (l := tab0) ok_tab0 false Lints14 (by kernel_rfl) ok_Lints14 fun xs b r h hb wf => ?_
  unfold Fints14 at h
  split at h
  · rename_i n l n' l'
    cases h
    try rw [some_f] at hb
    try simp only [WFL, WF, List.mem_cons, List.not_mem_nil, or_false, forall_eq_or_imp, forall_eq, Col.len, and_true, true_and] at wf
    rw [vc_ints14]
    obtain ⟨w1, w2⟩ := wf
    have e : sameFrom l l' 0 = sameI l l' := by simp [sameFrom, sameI]
    simp [asrt_iff, br_iff, ieq_t, ieq_f, ine_t, ine_f, ilt_t, ilt_f, ile_t, ile_f, igt_t, igt_f, ige_t, ige_f, nlt_t, nlt_f, nle_t, nle_f, neq_t, neq_f, beq2_t, beq2_f, bnot_t, bnot_f, band_t, band_f, bite_t, bite_f, bimp_t, bimp_f, iadd_e, isub_e, imul_e, ofN_e, nOf_e, nAdd_e, nDiff_e, room_e, lenI_e, gI_e, gB_e, imin_e, imax_e, cat_e, pt_e, put_e, some_f, e] at hb ⊢
    refine ⟨fun h => ?_, fun h => ⟨hb, ?_⟩⟩
    · simp [sameI]
      intro h2
      exact h (by rw [← w1, ← w2, h2])
    ·   grind
  · cases h


theorem SR.shut_eq {s : SR} {id : Int} (hc : s.closer id = true) (hp : s.pc.getD id.toNat 0 = 0) : s.step id = { s with md := closeM s.md (cmode (s.kd.getD id.toNat 0)), rs := s.rs.set id.toNat 1, gt := s.gt.set id.toNat 0, nl := s.nl + 1, c0 := s.c0 ++ [id], ks := s.ks ++ [s.kd.getD id.toNat 0], vs := s.vs ++ [s.vl.getD id.toNat 0], rr := s.rr ++ [1], gs := s.gs ++ [0], pc := s.pc.set id.toNat 1 } := by
  obtain ⟨c1, c2, c3, c4, c5⟩ := SR.closer_is hc
  have hk9 : s.kd.getD id.toNat 0 ≠ 9 := by intro e; rw [e] at c5; simp [opSide] at c5
  have e1 : s.step id = s.shut id := by unfold SR.step; rw [if_pos hc, if_pos hp]
  have is1 : ({ s with md := closeM s.md (cmode (s.kd.getD id.toNat 0)) } : SR).is id = true := by
    simp only [SR.is, SR.md_ok c1 (s.kd.getD id.toNat 0), Bool.true_and, decide_eq_true_eq]
    exact ⟨c2, c3⟩
  rw [e1]
  unfold SR.shut
  simp only [SR.tell_is is1 _ _ _ hk9]

theorem SR.bell_eq {s : SR} {id : Int} (hc : s.closer id = true) (hp : s.pc.getD id.toNat 0 = 1) : s.step id = { s with fe := comeE s.fe s.l3, n3 := (allL s.fe s.l3).length, l3 := allL s.fe s.l3, st := s.bell.st, pc := s.pc.set id.toNat 2 } := by
  have e2 : s.step id = { s.bell with pc := s.bell.pc.set id.toNat 2 } := by unfold SR.step; rw [if_pos hc, if_neg (by omega), if_pos hp]
  have b1 := SR.wakes_same (allO s.fe s.l3) 0 { s with fe := comeE s.fe s.l3, n3 := (allL s.fe s.l3).length, l3 := allL s.fe s.l3 }
  rw [e2]
  unfold SR.bell at b1 ⊢
  rw [b1]

theorem SR.done_eq {s : SR} {id : Int} (hc : s.closer id = true) (hp : s.pc.getD id.toNat 0 ≠ 0) (hp1 : s.pc.getD id.toNat 0 ≠ 1) : s.step id = { s with ee := comeE s.ee s.l4, n4 := (allL s.ee s.l4).length, l4 := allL s.ee s.l4, st := (s.bell2.done id).st, pc := (s.bell2.done id).pc, rg := (s.bell2.done id).rg, sn := (s.bell2.done id).sn, tr := (s.bell2.done id).tr, lt := (s.bell2.done id).lt } := by
  have e3 : s.step id = s.bell2.done id := by unfold SR.step; rw [if_pos hc, if_neg hp, if_neg hp1]
  have b2 := SR.wakes_same (allO s.ee s.l4) 0 { s with ee := comeE s.ee s.l4, n4 := (allL s.ee s.l4).length, l4 := allL s.ee s.l4 }
  have z : ∀ t u : SR, t = { u with st := t.st } → t.done id = { u with st := (t.done id).st, pc := (t.done id).pc, rg := (t.done id).rg, sn := (t.done id).sn, tr := (t.done id).tr, lt := (t.done id).lt } := by
    intro t u h
    obtain ⟨q, hq⟩ : ∃ q, t = { u with st := q } := ⟨_, h⟩
    subst hq
    rfl
  rw [e3]
  exact z _ _ b2

theorem SR.wake_at (s : SR) (x : Int) (j : Nat) : (s.wake x).st.getD j 0 = s.st.getD j 0 ∨ (s.st.getD j 0 = 2 ∧ (s.wake x).st.getD j 0 = 1) := by
  by_cases h : s.st.getD j 0 = 2
  · unfold SR.wake
    split
    · dsimp only
      rw [getD_set]
      split
      · rename_i he
        rw [he.1, h]
        exact .inr ⟨rfl, rfl⟩
      · exact .inl rfl
    · exact .inl rfl
  · exact .inl (SR.wake_st s x j h)

theorem SR.wakes_at (l : List Int) (i j : Nat) (s : SR) : (s.wakes l i).st.getD j 0 = s.st.getD j 0 ∨ (s.st.getD j 0 = 2 ∧ (s.wakes l i).st.getD j 0 = 1) := by
  unfold SR.wakes
  generalize l.drop i = m
  induction m generalizing s with
  | nil => exact .inl rfl
  | cons x m ih =>
    rw [List.foldl_cons]
    rcases SR.wake_at s x j with h | ⟨h1, h2⟩
    · rcases ih (s.wake x) with g | ⟨g1, g2⟩
      · exact .inl (g.trans h)
      · exact .inr ⟨h ▸ g1, g2⟩
    · have h3 : (s.wake x).st.getD j 0 ≠ 2 := by omega
      rcases ih (s.wake x) with g | ⟨g1, g2⟩
      · exact .inr ⟨h1, g.trans h2⟩
      · exact absurd g1 h3

theorem same_or {s t : SR} {j : Nat} (h0 : t.st.getD j 0 = s.st.getD j 0 ∨ (s.st.getD j 0 = 2 ∧ t.st.getD j 0 = 1)) (h1 : s.kd.getD j 0 = t.kd.getD j 0 ∧ s.vl.getD j 0 = t.vl.getD j 0 ∧ s.un.getD j 0 = t.un.getD j 0 ∧ s.pc.getD j 0 = t.pc.getD j 0 ∧ s.rg.getD j 0 = t.rg.getD j 0 ∧ s.sn.getD j 0 = t.sn.getD j 0 ∧ s.tr.getD j 0 = t.tr.getD j 0 ∧ s.lt.getD j false = t.lt.getD j false ∧ s.rs.getD j 0 = t.rs.getD j 0 ∧ s.gt.getD j 0 = t.gt.getD j 0) : (thSameAt s t j || wokeAt s t j) = true := by
  simp only [Bool.or_eq_true, thSameAt, wokeAt, decide_eq_true_eq]
  rcases h0 with h0 | ⟨h0, h2⟩
  · exact .inl ⟨h0.symm, h1⟩
  · exact .inr ⟨h0, h2, h1⟩

theorem set_ne {l : List Int} {i j : Nat} {x : Int} (h : i ≠ j) : (l.set i x).getD j 0 = l.getD j 0 := by rw [getD_set, if_neg (fun hh => h hh.1)]

theorem setb_ne {l : List Bool} {i j : Nat} {x : Bool} (h : i ≠ j) : (l.set i x).getD j false = l.getD j false := by rw [getB_set, if_neg (fun hh => h hh.1)]

theorem SR.step_others {s : SR} {id : Int} (j : Nat) (hj : (j : Int) ≠ id) : (thSameAt s (s.step id) j || wokeAt s (s.step id) j) = true := by
  cases hc : s.closer id with
  | false =>
    have e : s.step id = s := by unfold SR.step; rw [if_neg (by rw [hc]; simp)]
    rw [e]
    exact same_or (.inl rfl) ⟨rfl, rfl, rfl, rfl, rfl, rfl, rfl, rfl, rfl, rfl⟩
  | true =>
    obtain ⟨c1, c2, c3, c4, c5⟩ := SR.closer_is hc
    have hn : id.toNat ≠ j := by omega
    by_cases p0 : s.pc.getD id.toNat 0 = 0
    · rw [SR.shut_eq hc p0]
      exact same_or (.inl rfl) ⟨rfl, rfl, rfl, (set_ne hn).symm, rfl, rfl, rfl, rfl, (set_ne hn).symm, (set_ne hn).symm⟩
    · by_cases p1 : s.pc.getD id.toNat 0 = 1
      · rw [SR.bell_eq hc p1]
        exact same_or (SR.wakes_at _ _ _ _) ⟨rfl, rfl, rfl, (set_ne hn).symm, rfl, rfl, rfl, rfl, rfl, rfl⟩
      · rw [SR.done_eq hc p0 p1]
        have b2 := SR.wakes_same (allO s.ee s.l4) 0 { s with ee := comeE s.ee s.l4, n4 := (allL s.ee s.l4).length, l4 := allL s.ee s.l4 }
        have q : ∀ f : SR → List Int, (∀ (u : SR) (x : List Int), f { u with st := x } = f u) → f s.bell2 = f { s with ee := comeE s.ee s.l4, n4 := (allL s.ee s.l4).length, l4 := allL s.ee s.l4 } := by
          intro f hf
          unfold SR.bell2
          rw [b2, hf]
        have qb : s.bell2.lt = s.lt := by
          unfold SR.bell2
          rw [b2]
        refine same_or ?_ ⟨rfl, rfl, rfl, ?_, ?_, ?_, ?_, ?_, rfl, rfl⟩
        · show (s.bell2.st.set _ _).getD j 0 = _ ∨ (_ ∧ (s.bell2.st.set _ _).getD j 0 = 1)
          rw [set_ne hn]
          exact SR.wakes_at _ _ _ _
        · show _ = (s.bell2.pc.set _ _).getD j 0
          rw [set_ne hn, q SR.pc (fun _ _ => rfl)]
        · show _ = (s.bell2.rg.set _ _).getD j 0
          rw [set_ne hn, q SR.rg (fun _ _ => rfl)]
        · show _ = (s.bell2.sn.set _ _).getD j 0
          rw [set_ne hn, q SR.sn (fun _ _ => rfl)]
        · show _ = (s.bell2.tr.set _ _).getD j 0
          rw [set_ne hn, q SR.tr (fun _ _ => rfl)]
        · show _ = (s.bell2.lt.set _ _).getD j false
          rw [setb_ne hn, qb]

/-- What no step of who closes changes, and that it changes one thing at most. -/
theorem SR.step_things (s : SR) (id : Int) : things s (s.step id) ≤ 1 ∧ (s.step id).ns = s.ns ∧ (s.step id).ss = s.ss ∧ (s.step id).sv = s.sv ∧ (s.step id).nt = s.nt ∧ (s.step id).lg = s.lg ∧ (s.step id).th = s.th ∧ (s.step id).po = s.po ∧ (s.step id).wt = s.wt ∧ (s.step id).sp = s.sp ∧ (s.step id).yi = s.yi ∧ (s.step id).sg = s.sg ∧ (s.step id).now = s.now ∧ (s.step id).l1 = s.l1 ∧ (s.step id).l2 = s.l2 ∧ (s.step id).n1 = s.n1 ∧ (s.step id).n2 = s.n2 ∧ (s.step id).hd = s.hd ∧ (s.step id).tl = s.tl := by
  have sI : ∀ l : List Int, sameI l l = true := fun l => by simp [sameI]
  have le1 : ∀ b, one0 b ≤ 1 := fun b => by cases b <;> decide
  have z : one0 true = 0 := rfl
  cases hc : s.closer id with
  | false =>
    have e : s.step id = s := by unfold SR.step; rw [if_neg (by rw [hc]; simp)]
    rw [e]
    refine ⟨?_, rfl, rfl, rfl, rfl, rfl, rfl, rfl, rfl, rfl, rfl, rfl, rfl, rfl, rfl, rfl, rfl, rfl, rfl⟩
    simp [things, sI, z]
  | true =>
    by_cases p0 : s.pc.getD id.toNat 0 = 0
    · rw [SR.shut_eq hc p0]
      refine ⟨?_, rfl, rfl, rfl, rfl, rfl, rfl, rfl, rfl, rfl, rfl, rfl, rfl, rfl, rfl, rfl, rfl, rfl, rfl⟩
      simp [things, sI, z, le1]
    · by_cases p1 : s.pc.getD id.toNat 0 = 1
      · rw [SR.bell_eq hc p1]
        refine ⟨?_, rfl, rfl, rfl, rfl, rfl, rfl, rfl, rfl, rfl, rfl, rfl, rfl, rfl, rfl, rfl, rfl, rfl, rfl⟩
        simp [things, sI, z, le1]
      · rw [SR.done_eq hc p0 p1]
        refine ⟨?_, rfl, rfl, rfl, rfl, rfl, rfl, rfl, rfl, rfl, rfl, rfl, rfl, rfl, rfl, rfl, rfl, rfl, rfl⟩
        simp [things, sI, z, le1]

theorem others_lt {s t : SR} {id : Int} {k : Nat} (h : k < s.nt) : othersOk s t id k = ((decide ((k : Int) = id) || thSameAt s t k || wokeAt s t k) && othersOk s t id (k + 1)) := by
  unfold othersOk
  rw [List.drop_eq_getElem_cons (by simpa using h), List.all_cons]
  simp

def tabI : List (FuncId × Pure1) := [(29, Fints14)] ++ tabH

theorem ok_tabI : ∀ p ∈ tabI, PureOK Try.prog p.1 p.2 := by
  intro p hp
  simp only [tabI, List.mem_append, List.mem_cons, List.not_mem_nil, or_false] at hp
  rcases hp with (rfl) | hp
  · exact ok_ints14
  · exact ok_tabH p hp


def spec_things : LoopSpec := { n := 96, keep := [2, 3, 5, 6], srcs := [.tmp 2, .tmp 3], keepE := [2, 3, 5], srcsE := [.tmp 2, .tmp 3], goes := fun vals objs Q => match vals, objs with
  | [.ptr 0 0 0, .ptr 1 0 0, .int .i64 n, .int .i64 i], [some (.var c_s), some (.var c_t)] => (match asSR (.agg c_s) with | some s => (match asSR (.agg c_t) with | some t => asrt (band (nle s.ns 1000000) (band (slEq s.ns s.ss s.sv t.ns t.ss t.sv) (band (ile 0 i) (ile i (ofN s.ns))))) (Q (.exit 0) [.ptr 0 0 0, .ptr 1 0 0, .int .i64 n] [some (.var s.cells), some (.var t.cells)]) | none => False) | none => False)
  | _, _ => False }

theorem lp_things (n i : Int) (s t : SR) (mu : List AV → Heap → Nat) (Q : Ex → List AV → Heap → Prop) : runCode Try.prog (tabS tabI) (callN Try.prog (tabS tabI) noL 11) (fun _ => none) (bodyOf Try.prog 11 0) 0 ⟨mkT (spec_things).keep [.ptr 0 0 0, .ptr 1 0 0, .int .i64 n, .int .i64 i] (spec_things).n 0, [some (.var s.cells), some (.var t.cells)]⟩ ((spec_things).ends mu [.ptr 0 0 0, .ptr 1 0 0, .int .i64 n, .int .i64 i] ([some (.var s.cells), some (.var t.cells)]) Q) = (
  br (bite (ilt i (ofN s.11)) (ilt i (ofN t.11)) false)
    (asrt (band (ile 0 i) (ilt i (ofN s.11)))
      (asrt (band (ile 0 i) (ilt i (ofN t.11)))
        (br
          (bnot (band (ieq (gI s.12 (nOf i)) (gI t.12 (nOf i))) (band (ieq (gI s.13 (nOf i)) (gI t.13 (nOf i))) true)))
          ((mu
                    [AV.ptr 0 0 0, AV.ptr 1 0 0, AV.int IntKind.i64 (iadd IntKind.i64 n 1),
                      AV.int IntKind.i64 (iadd IntKind.i64 i 1)]
                    [some
                        (AObj.var
                          [AV.int IntKind.i64 s.1, AV.int IntKind.i64 s.2, AV.int IntKind.i64 s.3,
                            AV.int IntKind.i64 s.4, AV.int IntKind.i64 s.5, AV.int IntKind.i64 s.6, AV.bool s.7,
                            AV.int IntKind.i64 s.8, AV.int IntKind.i64 s.9, AV.int IntKind.i64 s.10,
                            AV.sl s.11 [Col.int IntKind.i64 s.12, Col.int IntKind.i64 s.13],
                            AV.sl s.14 [Col.int IntKind.i64 s.15], AV.sl s.16 [Col.int IntKind.i64 s.17],
                            AV.int IntKind.i64 s.18, AV.sl s.19 [Col.int IntKind.i64 s.20], AV.int IntKind.i64 s.21,
                            AV.sl s.22 [Col.int IntKind.i64 s.23], AV.int IntKind.i64 s.24,
                            AV.sl s.25
                              [Col.int IntKind.i64 s.26, Col.int IntKind.i64 s.27, Col.int IntKind.i64 s.28,
                                Col.int IntKind.i64 s.29, Col.int IntKind.i64 s.30, Col.int IntKind.i64 s.31,
                                Col.int IntKind.i64 s.32, Col.int IntKind.i64 s.33, Col.bool s.34,
                                Col.int IntKind.i64 s.35, Col.int IntKind.i64 s.36],
                            AV.sl s.37
                              [Col.int IntKind.i64 s.38, Col.int IntKind.i64 s.39, Col.int IntKind.i64 s.40,
                                Col.int IntKind.i64 s.41, Col.int IntKind.i64 s.42]]),
                      some
                        (AObj.var
                          [AV.int IntKind.i64 t.1, AV.int IntKind.i64 t.2, AV.int IntKind.i64 t.3,
                            AV.int IntKind.i64 t.4, AV.int IntKind.i64 t.5, AV.int IntKind.i64 t.6, AV.bool t.7,
                            AV.int IntKind.i64 t.8, AV.int IntKind.i64 t.9, AV.int IntKind.i64 t.10,
                            AV.sl t.11 [Col.int IntKind.i64 t.12, Col.int IntKind.i64 t.13],
                            AV.sl t.14 [Col.int IntKind.i64 t.15], AV.sl t.16 [Col.int IntKind.i64 t.17],
                            AV.int IntKind.i64 t.18, AV.sl t.19 [Col.int IntKind.i64 t.20], AV.int IntKind.i64 t.21,
                            AV.sl t.22 [Col.int IntKind.i64 t.23], AV.int IntKind.i64 t.24,
                            AV.sl t.25
                              [Col.int IntKind.i64 t.26, Col.int IntKind.i64 t.27, Col.int IntKind.i64 t.28,
                                Col.int IntKind.i64 t.29, Col.int IntKind.i64 t.30, Col.int IntKind.i64 t.31,
                                Col.int IntKind.i64 t.32, Col.int IntKind.i64 t.33, Col.bool t.34,
                                Col.int IntKind.i64 t.35, Col.int IntKind.i64 t.36],
                            AV.sl t.37
                              [Col.int IntKind.i64 t.38, Col.int IntKind.i64 t.39, Col.int IntKind.i64 t.40,
                                Col.int IntKind.i64 t.41, Col.int IntKind.i64 t.42]])]).succ.le
              (mu [AV.ptr 0 0 0, AV.ptr 1 0 0, AV.int IntKind.i64 n, AV.int IntKind.i64 i]
                [some
                    (AObj.var
                      [AV.int IntKind.i64 s.1, AV.int IntKind.i64 s.2, AV.int IntKind.i64 s.3, AV.int IntKind.i64 s.4,
                        AV.int IntKind.i64 s.5, AV.int IntKind.i64 s.6, AV.bool s.7, AV.int IntKind.i64 s.8,
                        AV.int IntKind.i64 s.9, AV.int IntKind.i64 s.10,
                        AV.sl s.11 [Col.int IntKind.i64 s.12, Col.int IntKind.i64 s.13],
                        AV.sl s.14 [Col.int IntKind.i64 s.15], AV.sl s.16 [Col.int IntKind.i64 s.17],
                        AV.int IntKind.i64 s.18, AV.sl s.19 [Col.int IntKind.i64 s.20], AV.int IntKind.i64 s.21,
                        AV.sl s.22 [Col.int IntKind.i64 s.23], AV.int IntKind.i64 s.24,
                        AV.sl s.25
                          [Col.int IntKind.i64 s.26, Col.int IntKind.i64 s.27, Col.int IntKind.i64 s.28,
                            Col.int IntKind.i64 s.29, Col.int IntKind.i64 s.30, Col.int IntKind.i64 s.31,
                            Col.int IntKind.i64 s.32, Col.int IntKind.i64 s.33, Col.bool s.34, Col.int IntKind.i64 s.35,
                            Col.int IntKind.i64 s.36],
                        AV.sl s.37
                          [Col.int IntKind.i64 s.38, Col.int IntKind.i64 s.39, Col.int IntKind.i64 s.40,
                            Col.int IntKind.i64 s.41, Col.int IntKind.i64 s.42]]),
                  some
                    (AObj.var
                      [AV.int IntKind.i64 t.1, AV.int IntKind.i64 t.2, AV.int IntKind.i64 t.3, AV.int IntKind.i64 t.4,
                        AV.int IntKind.i64 t.5, AV.int IntKind.i64 t.6, AV.bool t.7, AV.int IntKind.i64 t.8,
                        AV.int IntKind.i64 t.9, AV.int IntKind.i64 t.10,
                        AV.sl t.11 [Col.int IntKind.i64 t.12, Col.int IntKind.i64 t.13],
                        AV.sl t.14 [Col.int IntKind.i64 t.15], AV.sl t.16 [Col.int IntKind.i64 t.17],
                        AV.int IntKind.i64 t.18, AV.sl t.19 [Col.int IntKind.i64 t.20], AV.int IntKind.i64 t.21,
                        AV.sl t.22 [Col.int IntKind.i64 t.23], AV.int IntKind.i64 t.24,
                        AV.sl t.25
                          [Col.int IntKind.i64 t.26, Col.int IntKind.i64 t.27, Col.int IntKind.i64 t.28,
                            Col.int IntKind.i64 t.29, Col.int IntKind.i64 t.30, Col.int IntKind.i64 t.31,
                            Col.int IntKind.i64 t.32, Col.int IntKind.i64 t.33, Col.bool t.34, Col.int IntKind.i64 t.35,
                            Col.int IntKind.i64 t.36],
                        AV.sl t.37
                          [Col.int IntKind.i64 t.38, Col.int IntKind.i64 t.39, Col.int IntKind.i64 t.40,
                            Col.int IntKind.i64 t.41, Col.int IntKind.i64 t.42]])]) ∧
            asrt
              (band (nle s.11 1000000)
                (band (slEq s.11 s.12 s.13 t.11 t.12 t.13)
                  (band (ile 0 (iadd IntKind.i64 i 1)) (ile (iadd IntKind.i64 i 1) (ofN s.11)))))
              (Q (Ex.exit 0) [AV.ptr 0 0 0, AV.ptr 1 0 0, AV.int IntKind.i64 (iadd IntKind.i64 n 1)]
                [some
                    (AObj.var
                      [AV.int IntKind.i64 s.1, AV.int IntKind.i64 s.2, AV.int IntKind.i64 s.3, AV.int IntKind.i64 s.4,
                        AV.int IntKind.i64 s.5, AV.int IntKind.i64 s.6, AV.bool s.7, AV.int IntKind.i64 s.8,
                        AV.int IntKind.i64 s.9, AV.int IntKind.i64 s.10,
                        AV.sl s.11 [Col.int IntKind.i64 s.12, Col.int IntKind.i64 s.13],
                        AV.sl s.14 [Col.int IntKind.i64 s.15], AV.sl s.16 [Col.int IntKind.i64 s.17],
                        AV.int IntKind.i64 s.18, AV.sl s.19 [Col.int IntKind.i64 s.20], AV.int IntKind.i64 s.21,
                        AV.sl s.22 [Col.int IntKind.i64 s.23], AV.int IntKind.i64 s.24,
                        AV.sl s.25
                          [Col.int IntKind.i64 s.26, Col.int IntKind.i64 s.27, Col.int IntKind.i64 s.28,
                            Col.int IntKind.i64 s.29, Col.int IntKind.i64 s.30, Col.int IntKind.i64 s.31,
                            Col.int IntKind.i64 s.32, Col.int IntKind.i64 s.33, Col.bool s.34, Col.int IntKind.i64 s.35,
                            Col.int IntKind.i64 s.36],
                        AV.sl s.37
                          [Col.int IntKind.i64 s.38, Col.int IntKind.i64 s.39, Col.int IntKind.i64 s.40,
                            Col.int IntKind.i64 s.41, Col.int IntKind.i64 s.42]]),
                  some
                    (AObj.var
                      [AV.int IntKind.i64 t.1, AV.int IntKind.i64 t.2, AV.int IntKind.i64 t.3, AV.int IntKind.i64 t.4,
                        AV.int IntKind.i64 t.5, AV.int IntKind.i64 t.6, AV.bool t.7, AV.int IntKind.i64 t.8,
                        AV.int IntKind.i64 t.9, AV.int IntKind.i64 t.10,
                        AV.sl t.11 [Col.int IntKind.i64 t.12, Col.int IntKind.i64 t.13],
                        AV.sl t.14 [Col.int IntKind.i64 t.15], AV.sl t.16 [Col.int IntKind.i64 t.17],
                        AV.int IntKind.i64 t.18, AV.sl t.19 [Col.int IntKind.i64 t.20], AV.int IntKind.i64 t.21,
                        AV.sl t.22 [Col.int IntKind.i64 t.23], AV.int IntKind.i64 t.24,
                        AV.sl t.25
                          [Col.int IntKind.i64 t.26, Col.int IntKind.i64 t.27, Col.int IntKind.i64 t.28,
                            Col.int IntKind.i64 t.29, Col.int IntKind.i64 t.30, Col.int IntKind.i64 t.31,
                            Col.int IntKind.i64 t.32, Col.int IntKind.i64 t.33, Col.bool t.34, Col.int IntKind.i64 t.35,
                            Col.int IntKind.i64 t.36],
                        AV.sl t.37
                          [Col.int IntKind.i64 t.38, Col.int IntKind.i64 t.39, Col.int IntKind.i64 t.40,
                            Col.int IntKind.i64 t.41, Col.int IntKind.i64 t.42]])]))
          ((mu [AV.ptr 0 0 0, AV.ptr 1 0 0, AV.int IntKind.i64 n, AV.int IntKind.i64 (iadd IntKind.i64 i 1)]
                    [some
                        (AObj.var
                          [AV.int IntKind.i64 s.1, AV.int IntKind.i64 s.2, AV.int IntKind.i64 s.3,
                            AV.int IntKind.i64 s.4, AV.int IntKind.i64 s.5, AV.int IntKind.i64 s.6, AV.bool s.7,
                            AV.int IntKind.i64 s.8, AV.int IntKind.i64 s.9, AV.int IntKind.i64 s.10,
                            AV.sl s.11 [Col.int IntKind.i64 s.12, Col.int IntKind.i64 s.13],
                            AV.sl s.14 [Col.int IntKind.i64 s.15], AV.sl s.16 [Col.int IntKind.i64 s.17],
                            AV.int IntKind.i64 s.18, AV.sl s.19 [Col.int IntKind.i64 s.20], AV.int IntKind.i64 s.21,
                            AV.sl s.22 [Col.int IntKind.i64 s.23], AV.int IntKind.i64 s.24,
                            AV.sl s.25
                              [Col.int IntKind.i64 s.26, Col.int IntKind.i64 s.27, Col.int IntKind.i64 s.28,
                                Col.int IntKind.i64 s.29, Col.int IntKind.i64 s.30, Col.int IntKind.i64 s.31,
                                Col.int IntKind.i64 s.32, Col.int IntKind.i64 s.33, Col.bool s.34,
                                Col.int IntKind.i64 s.35, Col.int IntKind.i64 s.36],
                            AV.sl s.37
                              [Col.int IntKind.i64 s.38, Col.int IntKind.i64 s.39, Col.int IntKind.i64 s.40,
                                Col.int IntKind.i64 s.41, Col.int IntKind.i64 s.42]]),
                      some
                        (AObj.var
                          [AV.int IntKind.i64 t.1, AV.int IntKind.i64 t.2, AV.int IntKind.i64 t.3,
                            AV.int IntKind.i64 t.4, AV.int IntKind.i64 t.5, AV.int IntKind.i64 t.6, AV.bool t.7,
                            AV.int IntKind.i64 t.8, AV.int IntKind.i64 t.9, AV.int IntKind.i64 t.10,
                            AV.sl t.11 [Col.int IntKind.i64 t.12, Col.int IntKind.i64 t.13],
                            AV.sl t.14 [Col.int IntKind.i64 t.15], AV.sl t.16 [Col.int IntKind.i64 t.17],
                            AV.int IntKind.i64 t.18, AV.sl t.19 [Col.int IntKind.i64 t.20], AV.int IntKind.i64 t.21,
                            AV.sl t.22 [Col.int IntKind.i64 t.23], AV.int IntKind.i64 t.24,
                            AV.sl t.25
                              [Col.int IntKind.i64 t.26, Col.int IntKind.i64 t.27, Col.int IntKind.i64 t.28,
                                Col.int IntKind.i64 t.29, Col.int IntKind.i64 t.30, Col.int IntKind.i64 t.31,
                                Col.int IntKind.i64 t.32, Col.int IntKind.i64 t.33, Col.bool t.34,
                                Col.int IntKind.i64 t.35, Col.int IntKind.i64 t.36],
                            AV.sl t.37
                              [Col.int IntKind.i64 t.38, Col.int IntKind.i64 t.39, Col.int IntKind.i64 t.40,
                                Col.int IntKind.i64 t.41, Col.int IntKind.i64 t.42]])]).succ.le
              (mu [AV.ptr 0 0 0, AV.ptr 1 0 0, AV.int IntKind.i64 n, AV.int IntKind.i64 i]
                [some
                    (AObj.var
                      [AV.int IntKind.i64 s.1, AV.int IntKind.i64 s.2, AV.int IntKind.i64 s.3, AV.int IntKind.i64 s.4,
                        AV.int IntKind.i64 s.5, AV.int IntKind.i64 s.6, AV.bool s.7, AV.int IntKind.i64 s.8,
                        AV.int IntKind.i64 s.9, AV.int IntKind.i64 s.10,
                        AV.sl s.11 [Col.int IntKind.i64 s.12, Col.int IntKind.i64 s.13],
                        AV.sl s.14 [Col.int IntKind.i64 s.15], AV.sl s.16 [Col.int IntKind.i64 s.17],
                        AV.int IntKind.i64 s.18, AV.sl s.19 [Col.int IntKind.i64 s.20], AV.int IntKind.i64 s.21,
                        AV.sl s.22 [Col.int IntKind.i64 s.23], AV.int IntKind.i64 s.24,
                        AV.sl s.25
                          [Col.int IntKind.i64 s.26, Col.int IntKind.i64 s.27, Col.int IntKind.i64 s.28,
                            Col.int IntKind.i64 s.29, Col.int IntKind.i64 s.30, Col.int IntKind.i64 s.31,
                            Col.int IntKind.i64 s.32, Col.int IntKind.i64 s.33, Col.bool s.34, Col.int IntKind.i64 s.35,
                            Col.int IntKind.i64 s.36],
                        AV.sl s.37
                          [Col.int IntKind.i64 s.38, Col.int IntKind.i64 s.39, Col.int IntKind.i64 s.40,
                            Col.int IntKind.i64 s.41, Col.int IntKind.i64 s.42]]),
                  some
                    (AObj.var
                      [AV.int IntKind.i64 t.1, AV.int IntKind.i64 t.2, AV.int IntKind.i64 t.3, AV.int IntKind.i64 t.4,
                        AV.int IntKind.i64 t.5, AV.int IntKind.i64 t.6, AV.bool t.7, AV.int IntKind.i64 t.8,
                        AV.int IntKind.i64 t.9, AV.int IntKind.i64 t.10,
                        AV.sl t.11 [Col.int IntKind.i64 t.12, Col.int IntKind.i64 t.13],
                        AV.sl t.14 [Col.int IntKind.i64 t.15], AV.sl t.16 [Col.int IntKind.i64 t.17],
                        AV.int IntKind.i64 t.18, AV.sl t.19 [Col.int IntKind.i64 t.20], AV.int IntKind.i64 t.21,
                        AV.sl t.22 [Col.int IntKind.i64 t.23], AV.int IntKind.i64 t.24,
                        AV.sl t.25
                          [Col.int IntKind.i64 t.26, Col.int IntKind.i64 t.27, Col.int IntKind.i64 t.28,
                            Col.int IntKind.i64 t.29, Col.int IntKind.i64 t.30, Col.int IntKind.i64 t.31,
                            Col.int IntKind.i64 t.32, Col.int IntKind.i64 t.33, Col.bool t.34, Col.int IntKind.i64 t.35,
                            Col.int IntKind.i64 t.36],
                        AV.sl t.37
                          [Col.int IntKind.i64 t.38, Col.int IntKind.i64 t.39, Col.int IntKind.i64 t.40,
                            Col.int IntKind.i64 t.41, Col.int IntKind.i64 t.42]])]) ∧
            asrt
              (band (nle s.11 1000000)
                (band (slEq s.11 s.12 s.13 t.11 t.12 t.13)
                  (band (ile 0 (iadd IntKind.i64 i 1)) (ile (iadd IntKind.i64 i 1) (ofN s.11)))))
              (Q (Ex.exit 0) [AV.ptr 0 0 0, AV.ptr 1 0 0, AV.int IntKind.i64 n]
                [some
                    (AObj.var
                      [AV.int IntKind.i64 s.1, AV.int IntKind.i64 s.2, AV.int IntKind.i64 s.3, AV.int IntKind.i64 s.4,
                        AV.int IntKind.i64 s.5, AV.int IntKind.i64 s.6, AV.bool s.7, AV.int IntKind.i64 s.8,
                        AV.int IntKind.i64 s.9, AV.int IntKind.i64 s.10,
                        AV.sl s.11 [Col.int IntKind.i64 s.12, Col.int IntKind.i64 s.13],
                        AV.sl s.14 [Col.int IntKind.i64 s.15], AV.sl s.16 [Col.int IntKind.i64 s.17],
                        AV.int IntKind.i64 s.18, AV.sl s.19 [Col.int IntKind.i64 s.20], AV.int IntKind.i64 s.21,
                        AV.sl s.22 [Col.int IntKind.i64 s.23], AV.int IntKind.i64 s.24,
                        AV.sl s.25
                          [Col.int IntKind.i64 s.26, Col.int IntKind.i64 s.27, Col.int IntKind.i64 s.28,
                            Col.int IntKind.i64 s.29, Col.int IntKind.i64 s.30, Col.int IntKind.i64 s.31,
                            Col.int IntKind.i64 s.32, Col.int IntKind.i64 s.33, Col.bool s.34, Col.int IntKind.i64 s.35,
                            Col.int IntKind.i64 s.36],
                        AV.sl s.37
                          [Col.int IntKind.i64 s.38, Col.int IntKind.i64 s.39, Col.int IntKind.i64 s.40,
                            Col.int IntKind.i64 s.41, Col.int IntKind.i64 s.42]]),
                  some
                    (AObj.var
                      [AV.int IntKind.i64 t.1, AV.int IntKind.i64 t.2, AV.int IntKind.i64 t.3, AV.int IntKind.i64 t.4,
                        AV.int IntKind.i64 t.5, AV.int IntKind.i64 t.6, AV.bool t.7, AV.int IntKind.i64 t.8,
                        AV.int IntKind.i64 t.9, AV.int IntKind.i64 t.10,
                        AV.sl t.11 [Col.int IntKind.i64 t.12, Col.int IntKind.i64 t.13],
                        AV.sl t.14 [Col.int IntKind.i64 t.15], AV.sl t.16 [Col.int IntKind.i64 t.17],
                        AV.int IntKind.i64 t.18, AV.sl t.19 [Col.int IntKind.i64 t.20], AV.int IntKind.i64 t.21,
                        AV.sl t.22 [Col.int IntKind.i64 t.23], AV.int IntKind.i64 t.24,
                        AV.sl t.25
                          [Col.int IntKind.i64 t.26, Col.int IntKind.i64 t.27, Col.int IntKind.i64 t.28,
                            Col.int IntKind.i64 t.29, Col.int IntKind.i64 t.30, Col.int IntKind.i64 t.31,
                            Col.int IntKind.i64 t.32, Col.int IntKind.i64 t.33, Col.bool t.34, Col.int IntKind.i64 t.35,
                            Col.int IntKind.i64 t.36],
                        AV.sl t.37
                          [Col.int IntKind.i64 t.38, Col.int IntKind.i64 t.39, Col.int IntKind.i64 t.40,
                            Col.int IntKind.i64 t.41, Col.int IntKind.i64 t.42]])])))))
    (Q (Ex.exit 0) [AV.ptr 0 0 0, AV.ptr 1 0 0, AV.int IntKind.i64 n]
      [some
          (AObj.var
            [AV.int IntKind.i64 s.1, AV.int IntKind.i64 s.2, AV.int IntKind.i64 s.3, AV.int IntKind.i64 s.4,
              AV.int IntKind.i64 s.5, AV.int IntKind.i64 s.6, AV.bool s.7, AV.int IntKind.i64 s.8,
              AV.int IntKind.i64 s.9, AV.int IntKind.i64 s.10,
              AV.sl s.11 [Col.int IntKind.i64 s.12, Col.int IntKind.i64 s.13], AV.sl s.14 [Col.int IntKind.i64 s.15],
              AV.sl s.16 [Col.int IntKind.i64 s.17], AV.int IntKind.i64 s.18, AV.sl s.19 [Col.int IntKind.i64 s.20],
              AV.int IntKind.i64 s.21, AV.sl s.22 [Col.int IntKind.i64 s.23], AV.int IntKind.i64 s.24,
              AV.sl s.25
                [Col.int IntKind.i64 s.26, Col.int IntKind.i64 s.27, Col.int IntKind.i64 s.28, Col.int IntKind.i64 s.29,
                  Col.int IntKind.i64 s.30, Col.int IntKind.i64 s.31, Col.int IntKind.i64 s.32,
                  Col.int IntKind.i64 s.33, Col.bool s.34, Col.int IntKind.i64 s.35, Col.int IntKind.i64 s.36],
              AV.sl s.37
                [Col.int IntKind.i64 s.38, Col.int IntKind.i64 s.39, Col.int IntKind.i64 s.40, Col.int IntKind.i64 s.41,
                  Col.int IntKind.i64 s.42]]),
        some
          (AObj.var
            [AV.int IntKind.i64 t.1, AV.int IntKind.i64 t.2, AV.int IntKind.i64 t.3, AV.int IntKind.i64 t.4,
              AV.int IntKind.i64 t.5, AV.int IntKind.i64 t.6, AV.bool t.7, AV.int IntKind.i64 t.8,
              AV.int IntKind.i64 t.9, AV.int IntKind.i64 t.10,
              AV.sl t.11 [Col.int IntKind.i64 t.12, Col.int IntKind.i64 t.13], AV.sl t.14 [Col.int IntKind.i64 t.15],
              AV.sl t.16 [Col.int IntKind.i64 t.17], AV.int IntKind.i64 t.18, AV.sl t.19 [Col.int IntKind.i64 t.20],
              AV.int IntKind.i64 t.21, AV.sl t.22 [Col.int IntKind.i64 t.23], AV.int IntKind.i64 t.24,
              AV.sl t.25
                [Col.int IntKind.i64 t.26, Col.int IntKind.i64 t.27, Col.int IntKind.i64 t.28, Col.int IntKind.i64 t.29,
                  Col.int IntKind.i64 t.30, Col.int IntKind.i64 t.31, Col.int IntKind.i64 t.32,
                  Col.int IntKind.i64 t.33, Col.bool t.34, Col.int IntKind.i64 t.35, Col.int IntKind.i64 t.36],
              AV.sl t.37
                [Col.int IntKind.i64 t.38, Col.int IntKind.i64 t.39, Col.int IntKind.i64 t.40, Col.int IntKind.i64 t.41,
                  Col.int IntKind.i64 t.42]])])) := by kernel_rfl

theorem loop_things : LoopOK Try.prog (bodyOf Try.prog 11 0) spec_things.summ := by
  refine tab_loop mixed (l := tabI) ok_tabI (i := 0) spec_things (fun vals objs => match vals, objs with
    | [.ptr 0 0 0, .ptr 1 0 0, .int .i64 n, .int .i64 i], [some (.var c_s), some (.var c_t)] => (match asSR (.agg c_s) with | some s => (ofN s.ns - i).toNat | none => 0)
    | _, _ => 0) fun vals objs Q h1 h2 wf wo hg => ?_
  unfold spec_things at hg
  simp only at hg
  split at hg
  · rename_i n i c_s c_t
    clear h1 h2
    have hh : ∃ s t, asSR (.agg c_s) = some s ∧ asSR (.agg c_t) = some t := by
      cases e_s : asSR (.agg c_s) with
      | none => rw [e_s] at hg; exact hg.elim
      | some s =>
        rw [e_s] at hg; simp only at hg
        cases e_t : asSR (.agg c_t) with
        | none => rw [e_t] at hg; exact hg.elim
        | some t =>
          rw [e_t] at hg; simp only at hg
          exact ⟨s, t, rfl, rfl⟩
    obtain ⟨s, t, h_s, h_t⟩ := hh
    have e_s := cells_of h_s
    have e_t := cells_of h_t
    rw [h_s] at hg; simp only at hg
    rw [h_t] at hg; simp only at hg
    subst e_s
    subst e_t
    try simp only [WFL, WF, List.mem_cons, List.not_mem_nil, or_false, forall_eq_or_imp, forall_eq, Col.len, and_true, true_and] at wf
    rw [lp_things]
    simp only [asrt_iff, band_t, nle_t, ile_t, ofN_e, slEq, decide_eq_true_eq] at hg
    obtain ⟨⟨hn, ⟨e1, e2, e3⟩, h0, hi⟩, hg⟩ := hg
    obtain ⟨k, rfl⟩ := Int.eq_ofNat_of_zero_le h0
    have hw : IntKind.i64.wrap ((k : Int) + 1) = (k : Int) + 1 := wr (by omega) (by omega)
    have hk : k ≤ s.ns := by omega
    have sl : slEq s.ns s.ss s.sv t.ns t.ss t.sv = true := by simp only [slEq, decide_eq_true_eq]; exact ⟨e1, e2, e3⟩
    simp only [← e2, ← e3]
    have sl2 : slEq s.ns s.ss s.sv t.ns s.ss s.sv = true := by simp only [slEq, decide_eq_true_eq]; exact ⟨e1, trivial, trivial⟩
    have x_s := h_s
    unfold SR.cells at x_s
    simp only [SR.cells, ← e1, ← e2, ← e3] at hg
    simp [asrt_iff, br_iff, ieq_t, ieq_f, ine_t, ine_f, ilt_t, ilt_f, ile_t, ile_f, igt_t, igt_f, ige_t, ige_f, nlt_t, nlt_f, nle_t, nle_f, neq_t, neq_f, beq2_t, beq2_f, bnot_t, bnot_f, band_t, band_f, bite_t, bite_f, bimp_t, bimp_f, iadd_e, isub_e, imul_e, ofN_e, nOf_e, nAdd_e, nDiff_e, room_e, lenI_e, gI_e, gB_e, imin_e, imax_e, cat_e, pt_e, put_e, some_f, hw, sl2, x_s, ← e1, hn, hg]
    intro hlt
    exact ⟨hlt, by omega, by simp [slEq], by omega, by omega⟩
  · exact hg.elim


def Lthings : Nat → Option LoopS := fun i => match i with
  | 0 => some (.summ spec_things.summ)
  | _ => none

theorem ok_Lthings : ∀ i x, Lthings i = some x → LoopHyp Try.prog 11 i x := by
  intro i s h
  unfold Lthings at h
  split at h
  · cases h; exact ⟨by kernel_rfl, loop_things⟩
  · cases h


def Fthings : Pure1 := fun
  | [a_s, a_t] => (match asSR a_s with | some s => (match asSR a_t with | some t => some (some (band (band (SR.fit s) (band (sameI s.l1 t.l1) (sameI s.l2 t.l2))) (band (SR.fit t) (slEq s.ns s.ss s.sv t.ns t.ss t.sv))), .int .i64 (things s t)) | none => none) | none => none)
  | _ => none

theorem vc_things (s t : SR) (r : AV) : VC Try.prog (tabS tabI) (oneL 11 Lthings) false 11 [s.av, t.av] r = (
  br (bnot (band (ieq s.8 t.8) (band (ieq s.9 t.9) (band (ieq s.10 t.10) true))))
    (asrt (band (nle s.11 1000000) (band (slEq s.11 s.12 s.13 t.11 t.12 t.13) (ile 0 (ofN s.11))))
      (asrt (nle s.14 big)
        (br (bnot (sameI s.15 t.15))
          (asrt (nle s.16 big)
            (br (bnot (sameI s.17 t.17))
              (asrt (bimp (bnot (ine s.18 t.18)) (nle s.19 big))
                (br (bite (ine s.18 t.18) true (bnot (sameI s.20 t.20)))
                  (asrt (bimp (bnot (ine s.21 t.21)) (nle s.22 big))
                    (br (bite (ine s.21 t.21) true (bnot (sameI s.23 t.23))) (some (AV.int IntKind.i64 5) = some r)
                      (some (AV.int IntKind.i64 4) = some r)))
                  (asrt (bimp (bnot (ine s.21 t.21)) (nle s.22 big))
                    (br (bite (ine s.21 t.21) true (bnot (sameI s.23 t.23))) (some (AV.int IntKind.i64 4) = some r)
                      (some (AV.int IntKind.i64 3) = some r)))))
              (asrt (bimp (bnot (ine s.18 t.18)) (nle s.19 big))
                (br (bite (ine s.18 t.18) true (bnot (sameI s.20 t.20)))
                  (asrt (bimp (bnot (ine s.21 t.21)) (nle s.22 big))
                    (br (bite (ine s.21 t.21) true (bnot (sameI s.23 t.23))) (some (AV.int IntKind.i64 4) = some r)
                      (some (AV.int IntKind.i64 3) = some r)))
                  (asrt (bimp (bnot (ine s.21 t.21)) (nle s.22 big))
                    (br (bite (ine s.21 t.21) true (bnot (sameI s.23 t.23))) (some (AV.int IntKind.i64 3) = some r)
                      (some (AV.int IntKind.i64 2) = some r)))))))
          (asrt (nle s.16 big)
            (br (bnot (sameI s.17 t.17))
              (asrt (bimp (bnot (ine s.18 t.18)) (nle s.19 big))
                (br (bite (ine s.18 t.18) true (bnot (sameI s.20 t.20)))
                  (asrt (bimp (bnot (ine s.21 t.21)) (nle s.22 big))
                    (br (bite (ine s.21 t.21) true (bnot (sameI s.23 t.23))) (some (AV.int IntKind.i64 4) = some r)
                      (some (AV.int IntKind.i64 3) = some r)))
                  (asrt (bimp (bnot (ine s.21 t.21)) (nle s.22 big))
                    (br (bite (ine s.21 t.21) true (bnot (sameI s.23 t.23))) (some (AV.int IntKind.i64 3) = some r)
                      (some (AV.int IntKind.i64 2) = some r)))))
              (asrt (bimp (bnot (ine s.18 t.18)) (nle s.19 big))
                (br (bite (ine s.18 t.18) true (bnot (sameI s.20 t.20)))
                  (asrt (bimp (bnot (ine s.21 t.21)) (nle s.22 big))
                    (br (bite (ine s.21 t.21) true (bnot (sameI s.23 t.23))) (some (AV.int IntKind.i64 3) = some r)
                      (some (AV.int IntKind.i64 2) = some r)))
                  (asrt (bimp (bnot (ine s.21 t.21)) (nle s.22 big))
                    (br (bite (ine s.21 t.21) true (bnot (sameI s.23 t.23))) (some (AV.int IntKind.i64 2) = some r)
                      (some (AV.int IntKind.i64 1) = some r))))))))))
    (asrt (band (nle s.11 1000000) (band (slEq s.11 s.12 s.13 t.11 t.12 t.13) (ile 0 (ofN s.11))))
      (asrt (nle s.14 big)
        (br (bnot (sameI s.15 t.15))
          (asrt (nle s.16 big)
            (br (bnot (sameI s.17 t.17))
              (asrt (bimp (bnot (ine s.18 t.18)) (nle s.19 big))
                (br (bite (ine s.18 t.18) true (bnot (sameI s.20 t.20)))
                  (asrt (bimp (bnot (ine s.21 t.21)) (nle s.22 big))
                    (br (bite (ine s.21 t.21) true (bnot (sameI s.23 t.23))) (some (AV.int IntKind.i64 4) = some r)
                      (some (AV.int IntKind.i64 3) = some r)))
                  (asrt (bimp (bnot (ine s.21 t.21)) (nle s.22 big))
                    (br (bite (ine s.21 t.21) true (bnot (sameI s.23 t.23))) (some (AV.int IntKind.i64 3) = some r)
                      (some (AV.int IntKind.i64 2) = some r)))))
              (asrt (bimp (bnot (ine s.18 t.18)) (nle s.19 big))
                (br (bite (ine s.18 t.18) true (bnot (sameI s.20 t.20)))
                  (asrt (bimp (bnot (ine s.21 t.21)) (nle s.22 big))
                    (br (bite (ine s.21 t.21) true (bnot (sameI s.23 t.23))) (some (AV.int IntKind.i64 3) = some r)
                      (some (AV.int IntKind.i64 2) = some r)))
                  (asrt (bimp (bnot (ine s.21 t.21)) (nle s.22 big))
                    (br (bite (ine s.21 t.21) true (bnot (sameI s.23 t.23))) (some (AV.int IntKind.i64 2) = some r)
                      (some (AV.int IntKind.i64 1) = some r)))))))
          (asrt (nle s.16 big)
            (br (bnot (sameI s.17 t.17))
              (asrt (bimp (bnot (ine s.18 t.18)) (nle s.19 big))
                (br (bite (ine s.18 t.18) true (bnot (sameI s.20 t.20)))
                  (asrt (bimp (bnot (ine s.21 t.21)) (nle s.22 big))
                    (br (bite (ine s.21 t.21) true (bnot (sameI s.23 t.23))) (some (AV.int IntKind.i64 3) = some r)
                      (some (AV.int IntKind.i64 2) = some r)))
                  (asrt (bimp (bnot (ine s.21 t.21)) (nle s.22 big))
                    (br (bite (ine s.21 t.21) true (bnot (sameI s.23 t.23))) (some (AV.int IntKind.i64 2) = some r)
                      (some (AV.int IntKind.i64 1) = some r)))))
              (asrt (bimp (bnot (ine s.18 t.18)) (nle s.19 big))
                (br (bite (ine s.18 t.18) true (bnot (sameI s.20 t.20)))
                  (asrt (bimp (bnot (ine s.21 t.21)) (nle s.22 big))
                    (br (bite (ine s.21 t.21) true (bnot (sameI s.23 t.23))) (some (AV.int IntKind.i64 2) = some r)
                      (some (AV.int IntKind.i64 1) = some r)))
                  (asrt (bimp (bnot (ine s.21 t.21)) (nle s.22 big))
                    (br (bite (ine s.21 t.21) true (bnot (sameI s.23 t.23))) (some (AV.int IntKind.i64 1) = some r)
                      (some (AV.int IntKind.i64 0) = some r))))))))))) := by kernel_rfl

theorem ok_things : PureOK Try.prog 11 Fthings := by
  refine tab_loops mixed (l := tabI) ok_tabI false Lthings (by kernel_rfl) ok_Lthings fun xs b r h hb wf => ?_
  unfold Fthings at h
  split at h
  · rename_i a_s a_t
    split at h
    · rename_i s h_s
      obtain rfl := asSR_some h_s
      split at h
      · rename_i t h_t
        obtain rfl := asSR_some h_t
        cases h
        try rw [some_f] at hb
        simp only [WFL, WF, List.mem_cons, List.not_mem_nil, or_false, forall_eq_or_imp, forall_eq, Col.len, and_true, true_and, wf_av] at wf
        rw [vc_things]
        simp only [band_t] at hb
        obtain ⟨⟨hb, a2, a3⟩, hb2, hb3⟩ := hb
        obtain ⟨q1, q2, q3, q4, q5, q6, q7⟩ := SR.few_le (SR.fit_few hb)
        have q : ∀ n, n ≤ 1000000 → n ≤ big := fun n h => le_big (by omega)
        by_cases a1 : s.hd = t.hd ∧ s.tl = t.tl ∧ s.md = t.md <;> by_cases a4 : s.fe = t.fe <;> cases a5 : sameI s.l3 t.l3 <;> by_cases a6 : s.ee = t.ee <;> cases a7 : sameI s.l4 t.l4 <;> simp [asrt_iff, br_iff, ieq_t, ieq_f, ine_t, ine_f, ilt_t, ilt_f, ile_t, ile_f, igt_t, igt_f, ige_t, ige_f, nlt_t, nlt_f, nle_t, nle_f, neq_t, neq_f, beq2_t, beq2_f, bnot_t, bnot_f, band_t, band_f, bite_t, bite_f, bimp_t, bimp_f, iadd_e, isub_e, imul_e, ofN_e, nOf_e, nAdd_e, nDiff_e, room_e, lenI_e, gI_e, gB_e, imin_e, imax_e, cat_e, pt_e, put_e, some_f, things, one0, hb3, q, q1, q2, q3, q4, q5, a1, a2, a3, a4, a5, a6, a7]
      · cases h
    · cases h
  · cases h


def tabJ : List (FuncId × Pure1) := [(11, Fthings)] ++ tabI

theorem ok_tabJ : ∀ p ∈ tabJ, PureOK Try.prog p.1 p.2 := by
  intro p hp
  simp only [tabJ, List.mem_append, List.mem_cons, List.not_mem_nil, or_false] at hp
  rcases hp with (rfl) | hp
  · exact ok_things
  · exact ok_tabI p hp


def spec_others : LoopSpec := { n := 133, keep := [2, 6, 7, 1, 5], srcs := [.tmp 2, .tmp 6], keepE := [2, 6, 1, 5], srcsE := [.tmp 2, .tmp 6], goes := fun vals objs Q => match vals, objs with
  | [.ptr 0 0 0, .ptr 1 0 0, .int .i64 i, .int .i64 id, .bool up], [some (.var c_s), some (.var c_t)] => (match asSR (.agg c_s) with | some s => (match asSR (.agg c_t) with | some t => asrt (band (nle s.nt 1000000) (band (neq s.nt t.nt) (band (ile 0 i) (band (ile i (ofN s.nt)) (othersOk s t id (nOf i)))))) (Q (.exit 0) [.ptr 0 0 0, .ptr 1 0 0, .int .i64 id, .bool up] [some (.var s.cells), some (.var t.cells)]) | none => False) | none => False)
  | _, _ => False }

theorem lp_others (i id : Int) (up : Bool) (s t : SR) (mu : List AV → Heap → Nat) (Q : Ex → List AV → Heap → Prop) : runCode Try.prog (tabS tabJ) (callN Try.prog (tabS tabJ) noL 11) (fun _ => none) (bodyOf Try.prog 3 0) 0 ⟨mkT (spec_others).keep [.ptr 0 0 0, .ptr 1 0 0, .int .i64 i, .int .i64 id, .bool up] (spec_others).n 0, [some (.var s.cells), some (.var t.cells)]⟩ ((spec_others).ends mu [.ptr 0 0 0, .ptr 1 0 0, .int .i64 i, .int .i64 id, .bool up] ([some (.var s.cells), some (.var t.cells)]) Q) = (
  br (bite (ilt i (ofN s.25)) (ilt i (ofN t.25)) false)
    (asrt (band (ile 0 i) (ilt i (ofN s.25)))
      (asrt (bimp (ine i id) (band (ile 0 i) (ilt i (ofN t.25))))
        (asrt (bimp (ine i id) (band (ile 0 i) (ilt i (ofN s.25))))
          (asrt
            (bimp
              (bite (ine i id)
                (bnot
                  (band (ieq (gI t.26 (nOf i)) (gI s.26 (nOf i)))
                    (band (ieq (gI t.27 (nOf i)) (gI s.27 (nOf i)))
                      (band (ieq (gI t.28 (nOf i)) (gI s.28 (nOf i)))
                        (band (ieq (gI t.29 (nOf i)) (gI s.29 (nOf i)))
                          (band (ieq (gI t.30 (nOf i)) (gI s.30 (nOf i)))
                            (band (ieq (gI t.31 (nOf i)) (gI s.31 (nOf i)))
                              (band (ieq (gI t.32 (nOf i)) (gI s.32 (nOf i)))
                                (band (ieq (gI t.33 (nOf i)) (gI s.33 (nOf i)))
                                  (band (beq2 (gB t.34 (nOf i)) (gB s.34 (nOf i)))
                                    (band (ieq (gI t.35 (nOf i)) (gI s.35 (nOf i)))
                                      (band (ieq (gI t.36 (nOf i)) (gI s.36 (nOf i))) true))))))))))))
                false)
              (band (ile 0 i) (ilt i (ofN s.25))))
            (asrt
              (bimp
                (band
                  (bite (ine i id)
                    (bnot
                      (band (ieq (gI t.26 (nOf i)) (gI s.26 (nOf i)))
                        (band (ieq (gI t.27 (nOf i)) (gI s.27 (nOf i)))
                          (band (ieq (gI t.28 (nOf i)) (gI s.28 (nOf i)))
                            (band (ieq (gI t.29 (nOf i)) (gI s.29 (nOf i)))
                              (band (ieq (gI t.30 (nOf i)) (gI s.30 (nOf i)))
                                (band (ieq (gI t.31 (nOf i)) (gI s.31 (nOf i)))
                                  (band (ieq (gI t.32 (nOf i)) (gI s.32 (nOf i)))
                                    (band (ieq (gI t.33 (nOf i)) (gI s.33 (nOf i)))
                                      (band (beq2 (gB t.34 (nOf i)) (gB s.34 (nOf i)))
                                        (band (ieq (gI t.35 (nOf i)) (gI s.35 (nOf i)))
                                          (band (ieq (gI t.36 (nOf i)) (gI s.36 (nOf i))) true))))))))))))
                    false)
                  (bnot (ine (gI s.26 (nOf i)) 2)))
                (band (ile 0 i) (ilt i (ofN t.25))))
              (br
                (bite
                  (bite (ine i id)
                    (bnot
                      (band (ieq (gI t.26 (nOf i)) (gI s.26 (nOf i)))
                        (band (ieq (gI t.27 (nOf i)) (gI s.27 (nOf i)))
                          (band (ieq (gI t.28 (nOf i)) (gI s.28 (nOf i)))
                            (band (ieq (gI t.29 (nOf i)) (gI s.29 (nOf i)))
                              (band (ieq (gI t.30 (nOf i)) (gI s.30 (nOf i)))
                                (band (ieq (gI t.31 (nOf i)) (gI s.31 (nOf i)))
                                  (band (ieq (gI t.32 (nOf i)) (gI s.32 (nOf i)))
                                    (band (ieq (gI t.33 (nOf i)) (gI s.33 (nOf i)))
                                      (band (beq2 (gB t.34 (nOf i)) (gB s.34 (nOf i)))
                                        (band (ieq (gI t.35 (nOf i)) (gI s.35 (nOf i)))
                                          (band (ieq (gI t.36 (nOf i)) (gI s.36 (nOf i))) true))))))))))))
                    false)
                  (bite (ine (gI s.26 (nOf i)) 2) true
                    (bnot
                      (band (ieq (gI t.26 (nOf i)) 1)
                        (band (ieq (gI t.27 (nOf i)) (gI s.27 (nOf i)))
                          (band (ieq (gI t.28 (nOf i)) (gI s.28 (nOf i)))
                            (band (ieq (gI t.29 (nOf i)) (gI s.29 (nOf i)))
                              (band (ieq (gI t.30 (nOf i)) (gI s.30 (nOf i)))
                                (band (ieq (gI t.31 (nOf i)) (gI s.31 (nOf i)))
                                  (band (ieq (gI t.32 (nOf i)) (gI s.32 (nOf i)))
                                    (band (ieq (gI t.33 (nOf i)) (gI s.33 (nOf i)))
                                      (band (beq2 (gB t.34 (nOf i)) (gB s.34 (nOf i)))
                                        (band (ieq (gI t.35 (nOf i)) (gI s.35 (nOf i)))
                                          (band (ieq (gI t.36 (nOf i)) (gI s.36 (nOf i))) true)))))))))))))
                  false)
                (Q Ex.ret [AV.ptr 0 0 0, AV.ptr 1 0 0, AV.int IntKind.i64 id, AV.bool up]
                  [some
                      (AObj.var
                        [AV.int IntKind.i64 s.1, AV.int IntKind.i64 s.2, AV.int IntKind.i64 s.3, AV.int IntKind.i64 s.4,
                          AV.int IntKind.i64 s.5, AV.int IntKind.i64 s.6, AV.bool s.7, AV.int IntKind.i64 s.8,
                          AV.int IntKind.i64 s.9, AV.int IntKind.i64 s.10,
                          AV.sl s.11 [Col.int IntKind.i64 s.12, Col.int IntKind.i64 s.13],
                          AV.sl s.14 [Col.int IntKind.i64 s.15], AV.sl s.16 [Col.int IntKind.i64 s.17],
                          AV.int IntKind.i64 s.18, AV.sl s.19 [Col.int IntKind.i64 s.20], AV.int IntKind.i64 s.21,
                          AV.sl s.22 [Col.int IntKind.i64 s.23], AV.int IntKind.i64 s.24,
                          AV.sl s.25
                            [Col.int IntKind.i64 s.26, Col.int IntKind.i64 s.27, Col.int IntKind.i64 s.28,
                              Col.int IntKind.i64 s.29, Col.int IntKind.i64 s.30, Col.int IntKind.i64 s.31,
                              Col.int IntKind.i64 s.32, Col.int IntKind.i64 s.33, Col.bool s.34,
                              Col.int IntKind.i64 s.35, Col.int IntKind.i64 s.36],
                          AV.sl s.37
                            [Col.int IntKind.i64 s.38, Col.int IntKind.i64 s.39, Col.int IntKind.i64 s.40,
                              Col.int IntKind.i64 s.41, Col.int IntKind.i64 s.42]]),
                    some
                      (AObj.var
                        [AV.int IntKind.i64 t.1, AV.int IntKind.i64 t.2, AV.int IntKind.i64 t.3, AV.int IntKind.i64 t.4,
                          AV.int IntKind.i64 t.5, AV.int IntKind.i64 t.6, AV.bool t.7, AV.int IntKind.i64 t.8,
                          AV.int IntKind.i64 t.9, AV.int IntKind.i64 t.10,
                          AV.sl t.11 [Col.int IntKind.i64 t.12, Col.int IntKind.i64 t.13],
                          AV.sl t.14 [Col.int IntKind.i64 t.15], AV.sl t.16 [Col.int IntKind.i64 t.17],
                          AV.int IntKind.i64 t.18, AV.sl t.19 [Col.int IntKind.i64 t.20], AV.int IntKind.i64 t.21,
                          AV.sl t.22 [Col.int IntKind.i64 t.23], AV.int IntKind.i64 t.24,
                          AV.sl t.25
                            [Col.int IntKind.i64 t.26, Col.int IntKind.i64 t.27, Col.int IntKind.i64 t.28,
                              Col.int IntKind.i64 t.29, Col.int IntKind.i64 t.30, Col.int IntKind.i64 t.31,
                              Col.int IntKind.i64 t.32, Col.int IntKind.i64 t.33, Col.bool t.34,
                              Col.int IntKind.i64 t.35, Col.int IntKind.i64 t.36],
                          AV.sl t.37
                            [Col.int IntKind.i64 t.38, Col.int IntKind.i64 t.39, Col.int IntKind.i64 t.40,
                              Col.int IntKind.i64 t.41, Col.int IntKind.i64 t.42]])])
                ((mu
                          [AV.ptr 0 0 0, AV.ptr 1 0 0, AV.int IntKind.i64 (iadd IntKind.i64 i 1), AV.int IntKind.i64 id,
                            AV.bool up]
                          [some
                              (AObj.var
                                [AV.int IntKind.i64 s.1, AV.int IntKind.i64 s.2, AV.int IntKind.i64 s.3,
                                  AV.int IntKind.i64 s.4, AV.int IntKind.i64 s.5, AV.int IntKind.i64 s.6, AV.bool s.7,
                                  AV.int IntKind.i64 s.8, AV.int IntKind.i64 s.9, AV.int IntKind.i64 s.10,
                                  AV.sl s.11 [Col.int IntKind.i64 s.12, Col.int IntKind.i64 s.13],
                                  AV.sl s.14 [Col.int IntKind.i64 s.15], AV.sl s.16 [Col.int IntKind.i64 s.17],
                                  AV.int IntKind.i64 s.18, AV.sl s.19 [Col.int IntKind.i64 s.20],
                                  AV.int IntKind.i64 s.21, AV.sl s.22 [Col.int IntKind.i64 s.23],
                                  AV.int IntKind.i64 s.24,
                                  AV.sl s.25
                                    [Col.int IntKind.i64 s.26, Col.int IntKind.i64 s.27, Col.int IntKind.i64 s.28,
                                      Col.int IntKind.i64 s.29, Col.int IntKind.i64 s.30, Col.int IntKind.i64 s.31,
                                      Col.int IntKind.i64 s.32, Col.int IntKind.i64 s.33, Col.bool s.34,
                                      Col.int IntKind.i64 s.35, Col.int IntKind.i64 s.36],
                                  AV.sl s.37
                                    [Col.int IntKind.i64 s.38, Col.int IntKind.i64 s.39, Col.int IntKind.i64 s.40,
                                      Col.int IntKind.i64 s.41, Col.int IntKind.i64 s.42]]),
                            some
                              (AObj.var
                                [AV.int IntKind.i64 t.1, AV.int IntKind.i64 t.2, AV.int IntKind.i64 t.3,
                                  AV.int IntKind.i64 t.4, AV.int IntKind.i64 t.5, AV.int IntKind.i64 t.6, AV.bool t.7,
                                  AV.int IntKind.i64 t.8, AV.int IntKind.i64 t.9, AV.int IntKind.i64 t.10,
                                  AV.sl t.11 [Col.int IntKind.i64 t.12, Col.int IntKind.i64 t.13],
                                  AV.sl t.14 [Col.int IntKind.i64 t.15], AV.sl t.16 [Col.int IntKind.i64 t.17],
                                  AV.int IntKind.i64 t.18, AV.sl t.19 [Col.int IntKind.i64 t.20],
                                  AV.int IntKind.i64 t.21, AV.sl t.22 [Col.int IntKind.i64 t.23],
                                  AV.int IntKind.i64 t.24,
                                  AV.sl t.25
                                    [Col.int IntKind.i64 t.26, Col.int IntKind.i64 t.27, Col.int IntKind.i64 t.28,
                                      Col.int IntKind.i64 t.29, Col.int IntKind.i64 t.30, Col.int IntKind.i64 t.31,
                                      Col.int IntKind.i64 t.32, Col.int IntKind.i64 t.33, Col.bool t.34,
                                      Col.int IntKind.i64 t.35, Col.int IntKind.i64 t.36],
                                  AV.sl t.37
                                    [Col.int IntKind.i64 t.38, Col.int IntKind.i64 t.39, Col.int IntKind.i64 t.40,
                                      Col.int IntKind.i64 t.41, Col.int IntKind.i64 t.42]])]).succ.le
                    (mu [AV.ptr 0 0 0, AV.ptr 1 0 0, AV.int IntKind.i64 i, AV.int IntKind.i64 id, AV.bool up]
                      [some
                          (AObj.var
                            [AV.int IntKind.i64 s.1, AV.int IntKind.i64 s.2, AV.int IntKind.i64 s.3,
                              AV.int IntKind.i64 s.4, AV.int IntKind.i64 s.5, AV.int IntKind.i64 s.6, AV.bool s.7,
                              AV.int IntKind.i64 s.8, AV.int IntKind.i64 s.9, AV.int IntKind.i64 s.10,
                              AV.sl s.11 [Col.int IntKind.i64 s.12, Col.int IntKind.i64 s.13],
                              AV.sl s.14 [Col.int IntKind.i64 s.15], AV.sl s.16 [Col.int IntKind.i64 s.17],
                              AV.int IntKind.i64 s.18, AV.sl s.19 [Col.int IntKind.i64 s.20], AV.int IntKind.i64 s.21,
                              AV.sl s.22 [Col.int IntKind.i64 s.23], AV.int IntKind.i64 s.24,
                              AV.sl s.25
                                [Col.int IntKind.i64 s.26, Col.int IntKind.i64 s.27, Col.int IntKind.i64 s.28,
                                  Col.int IntKind.i64 s.29, Col.int IntKind.i64 s.30, Col.int IntKind.i64 s.31,
                                  Col.int IntKind.i64 s.32, Col.int IntKind.i64 s.33, Col.bool s.34,
                                  Col.int IntKind.i64 s.35, Col.int IntKind.i64 s.36],
                              AV.sl s.37
                                [Col.int IntKind.i64 s.38, Col.int IntKind.i64 s.39, Col.int IntKind.i64 s.40,
                                  Col.int IntKind.i64 s.41, Col.int IntKind.i64 s.42]]),
                        some
                          (AObj.var
                            [AV.int IntKind.i64 t.1, AV.int IntKind.i64 t.2, AV.int IntKind.i64 t.3,
                              AV.int IntKind.i64 t.4, AV.int IntKind.i64 t.5, AV.int IntKind.i64 t.6, AV.bool t.7,
                              AV.int IntKind.i64 t.8, AV.int IntKind.i64 t.9, AV.int IntKind.i64 t.10,
                              AV.sl t.11 [Col.int IntKind.i64 t.12, Col.int IntKind.i64 t.13],
                              AV.sl t.14 [Col.int IntKind.i64 t.15], AV.sl t.16 [Col.int IntKind.i64 t.17],
                              AV.int IntKind.i64 t.18, AV.sl t.19 [Col.int IntKind.i64 t.20], AV.int IntKind.i64 t.21,
                              AV.sl t.22 [Col.int IntKind.i64 t.23], AV.int IntKind.i64 t.24,
                              AV.sl t.25
                                [Col.int IntKind.i64 t.26, Col.int IntKind.i64 t.27, Col.int IntKind.i64 t.28,
                                  Col.int IntKind.i64 t.29, Col.int IntKind.i64 t.30, Col.int IntKind.i64 t.31,
                                  Col.int IntKind.i64 t.32, Col.int IntKind.i64 t.33, Col.bool t.34,
                                  Col.int IntKind.i64 t.35, Col.int IntKind.i64 t.36],
                              AV.sl t.37
                                [Col.int IntKind.i64 t.38, Col.int IntKind.i64 t.39, Col.int IntKind.i64 t.40,
                                  Col.int IntKind.i64 t.41, Col.int IntKind.i64 t.42]])]) ∧
                  asrt
                    (band (nle s.25 1000000)
                      (band (neq s.25 t.25)
                        (band (ile 0 (iadd IntKind.i64 i 1))
                          (band (ile (iadd IntKind.i64 i 1) (ofN s.25))
                            (othersOk s t id (nOf (iadd IntKind.i64 i 1)))))))
                    (Q (Ex.exit 0) [AV.ptr 0 0 0, AV.ptr 1 0 0, AV.int IntKind.i64 id, AV.bool up]
                      [some
                          (AObj.var
                            [AV.int IntKind.i64 s.1, AV.int IntKind.i64 s.2, AV.int IntKind.i64 s.3,
                              AV.int IntKind.i64 s.4, AV.int IntKind.i64 s.5, AV.int IntKind.i64 s.6, AV.bool s.7,
                              AV.int IntKind.i64 s.8, AV.int IntKind.i64 s.9, AV.int IntKind.i64 s.10,
                              AV.sl s.11 [Col.int IntKind.i64 s.12, Col.int IntKind.i64 s.13],
                              AV.sl s.14 [Col.int IntKind.i64 s.15], AV.sl s.16 [Col.int IntKind.i64 s.17],
                              AV.int IntKind.i64 s.18, AV.sl s.19 [Col.int IntKind.i64 s.20], AV.int IntKind.i64 s.21,
                              AV.sl s.22 [Col.int IntKind.i64 s.23], AV.int IntKind.i64 s.24,
                              AV.sl s.25
                                [Col.int IntKind.i64 s.26, Col.int IntKind.i64 s.27, Col.int IntKind.i64 s.28,
                                  Col.int IntKind.i64 s.29, Col.int IntKind.i64 s.30, Col.int IntKind.i64 s.31,
                                  Col.int IntKind.i64 s.32, Col.int IntKind.i64 s.33, Col.bool s.34,
                                  Col.int IntKind.i64 s.35, Col.int IntKind.i64 s.36],
                              AV.sl s.37
                                [Col.int IntKind.i64 s.38, Col.int IntKind.i64 s.39, Col.int IntKind.i64 s.40,
                                  Col.int IntKind.i64 s.41, Col.int IntKind.i64 s.42]]),
                        some
                          (AObj.var
                            [AV.int IntKind.i64 t.1, AV.int IntKind.i64 t.2, AV.int IntKind.i64 t.3,
                              AV.int IntKind.i64 t.4, AV.int IntKind.i64 t.5, AV.int IntKind.i64 t.6, AV.bool t.7,
                              AV.int IntKind.i64 t.8, AV.int IntKind.i64 t.9, AV.int IntKind.i64 t.10,
                              AV.sl t.11 [Col.int IntKind.i64 t.12, Col.int IntKind.i64 t.13],
                              AV.sl t.14 [Col.int IntKind.i64 t.15], AV.sl t.16 [Col.int IntKind.i64 t.17],
                              AV.int IntKind.i64 t.18, AV.sl t.19 [Col.int IntKind.i64 t.20], AV.int IntKind.i64 t.21,
                              AV.sl t.22 [Col.int IntKind.i64 t.23], AV.int IntKind.i64 t.24,
                              AV.sl t.25
                                [Col.int IntKind.i64 t.26, Col.int IntKind.i64 t.27, Col.int IntKind.i64 t.28,
                                  Col.int IntKind.i64 t.29, Col.int IntKind.i64 t.30, Col.int IntKind.i64 t.31,
                                  Col.int IntKind.i64 t.32, Col.int IntKind.i64 t.33, Col.bool t.34,
                                  Col.int IntKind.i64 t.35, Col.int IntKind.i64 t.36],
                              AV.sl t.37
                                [Col.int IntKind.i64 t.38, Col.int IntKind.i64 t.39, Col.int IntKind.i64 t.40,
                                  Col.int IntKind.i64 t.41, Col.int IntKind.i64 t.42]])]))))))))
    (Q (Ex.exit 0) [AV.ptr 0 0 0, AV.ptr 1 0 0, AV.int IntKind.i64 id, AV.bool up]
      [some
          (AObj.var
            [AV.int IntKind.i64 s.1, AV.int IntKind.i64 s.2, AV.int IntKind.i64 s.3, AV.int IntKind.i64 s.4,
              AV.int IntKind.i64 s.5, AV.int IntKind.i64 s.6, AV.bool s.7, AV.int IntKind.i64 s.8,
              AV.int IntKind.i64 s.9, AV.int IntKind.i64 s.10,
              AV.sl s.11 [Col.int IntKind.i64 s.12, Col.int IntKind.i64 s.13], AV.sl s.14 [Col.int IntKind.i64 s.15],
              AV.sl s.16 [Col.int IntKind.i64 s.17], AV.int IntKind.i64 s.18, AV.sl s.19 [Col.int IntKind.i64 s.20],
              AV.int IntKind.i64 s.21, AV.sl s.22 [Col.int IntKind.i64 s.23], AV.int IntKind.i64 s.24,
              AV.sl s.25
                [Col.int IntKind.i64 s.26, Col.int IntKind.i64 s.27, Col.int IntKind.i64 s.28, Col.int IntKind.i64 s.29,
                  Col.int IntKind.i64 s.30, Col.int IntKind.i64 s.31, Col.int IntKind.i64 s.32,
                  Col.int IntKind.i64 s.33, Col.bool s.34, Col.int IntKind.i64 s.35, Col.int IntKind.i64 s.36],
              AV.sl s.37
                [Col.int IntKind.i64 s.38, Col.int IntKind.i64 s.39, Col.int IntKind.i64 s.40, Col.int IntKind.i64 s.41,
                  Col.int IntKind.i64 s.42]]),
        some
          (AObj.var
            [AV.int IntKind.i64 t.1, AV.int IntKind.i64 t.2, AV.int IntKind.i64 t.3, AV.int IntKind.i64 t.4,
              AV.int IntKind.i64 t.5, AV.int IntKind.i64 t.6, AV.bool t.7, AV.int IntKind.i64 t.8,
              AV.int IntKind.i64 t.9, AV.int IntKind.i64 t.10,
              AV.sl t.11 [Col.int IntKind.i64 t.12, Col.int IntKind.i64 t.13], AV.sl t.14 [Col.int IntKind.i64 t.15],
              AV.sl t.16 [Col.int IntKind.i64 t.17], AV.int IntKind.i64 t.18, AV.sl t.19 [Col.int IntKind.i64 t.20],
              AV.int IntKind.i64 t.21, AV.sl t.22 [Col.int IntKind.i64 t.23], AV.int IntKind.i64 t.24,
              AV.sl t.25
                [Col.int IntKind.i64 t.26, Col.int IntKind.i64 t.27, Col.int IntKind.i64 t.28, Col.int IntKind.i64 t.29,
                  Col.int IntKind.i64 t.30, Col.int IntKind.i64 t.31, Col.int IntKind.i64 t.32,
                  Col.int IntKind.i64 t.33, Col.bool t.34, Col.int IntKind.i64 t.35, Col.int IntKind.i64 t.36],
              AV.sl t.37
                [Col.int IntKind.i64 t.38, Col.int IntKind.i64 t.39, Col.int IntKind.i64 t.40, Col.int IntKind.i64 t.41,
                  Col.int IntKind.i64 t.42]])])) := by kernel_rfl

theorem loop_others : LoopOK Try.prog (bodyOf Try.prog 3 0) spec_others.summ := by
  refine tab_loop mixed (l := tabJ) ok_tabJ (i := 0) spec_others (fun vals objs => match vals, objs with
    | [.ptr 0 0 0, .ptr 1 0 0, .int .i64 i, .int .i64 id, .bool up], [some (.var c_s), some (.var c_t)] => (match asSR (.agg c_s) with | some s => (ofN s.nt - i).toNat | none => 0)
    | _, _ => 0) fun vals objs Q h1 h2 wf wo hg => ?_
  unfold spec_others at hg
  simp only at hg
  split at hg
  · rename_i i id up c_s c_t
    clear h1 h2
    have hh : ∃ s t, asSR (.agg c_s) = some s ∧ asSR (.agg c_t) = some t := by
      cases e_s : asSR (.agg c_s) with
      | none => rw [e_s] at hg; exact hg.elim
      | some s =>
        rw [e_s] at hg; simp only at hg
        cases e_t : asSR (.agg c_t) with
        | none => rw [e_t] at hg; exact hg.elim
        | some t =>
          rw [e_t] at hg; simp only at hg
          exact ⟨s, t, rfl, rfl⟩
    obtain ⟨s, t, h_s, h_t⟩ := hh
    have e_s := cells_of h_s
    have e_t := cells_of h_t
    rw [h_s] at hg; simp only at hg
    rw [h_t] at hg; simp only at hg
    subst e_s
    subst e_t
    try simp only [WFL, WF, List.mem_cons, List.not_mem_nil, or_false, forall_eq_or_imp, forall_eq, Col.len, and_true, true_and] at wf
    rw [lp_others]
    simp only [asrt_iff, band_t, nle_t, neq_t, ile_t, ofN_e] at hg
    obtain ⟨⟨hn, en, h0, hi, ho⟩, hg⟩ := hg
    obtain ⟨k, rfl⟩ := Int.eq_ofNat_of_zero_le h0
    have hw : IntKind.i64.wrap ((k : Int) + 1) = (k : Int) + 1 := wr (by omega) (by omega)
    have e2 : ((k : Int) + 1).toNat = k + 1 := by omega
    have e3 : (k : Int).toNat = k := by omega
    rw [nOf_e, e3] at ho
    have x_s := h_s
    unfold SR.cells at x_s
    simp only [SR.cells, ← en] at hg
    by_cases hk : k < s.nt
    · rw [others_lt hk] at ho
      simp only [Bool.and_eq_true, Bool.or_eq_true, decide_eq_true_eq] at ho
      obtain ⟨ho, ho2⟩ := ho
      simp only [bite_and, bite_or]
      rcases ho with (ho | ho) | ho
      · subst ho
        simp [asrt_iff, br_iff, ieq_t, ieq_f, ine_t, ine_f, ilt_t, ilt_f, ile_t, ile_f, igt_t, igt_f, ige_t, ige_f, nlt_t, nlt_f, nle_t, nle_f, neq_t, neq_f, beq2_t, beq2_f, bnot_t, bnot_f, band_t, band_f, bite_t, bite_f, bimp_t, bimp_f, iadd_e, isub_e, imul_e, ofN_e, nOf_e, nAdd_e, nDiff_e, room_e, lenI_e, gI_e, gB_e, imin_e, imax_e, cat_e, pt_e, put_e, some_f, hw, e2, ho2, hn, hk, hg, x_s, ← en]
        omega
      · simp only [thSameAt, decide_eq_true_eq, List.getD_eq_getElem?_getD] at ho
        obtain ⟨b1, b2, b3, b4, b5, b6, b7, b8, b9, ba, bb⟩ := ho
        simp [asrt_iff, br_iff, ieq_t, ieq_f, ine_t, ine_f, ilt_t, ilt_f, ile_t, ile_f, igt_t, igt_f, ige_t, ige_f, nlt_t, nlt_f, nle_t, nle_f, neq_t, neq_f, beq2_t, beq2_f, bnot_t, bnot_f, band_t, band_f, bite_t, bite_f, bimp_t, bimp_f, iadd_e, isub_e, imul_e, ofN_e, nOf_e, nAdd_e, nDiff_e, room_e, lenI_e, gI_e, gB_e, imin_e, imax_e, cat_e, pt_e, put_e, some_f, hw, e2, ho2, hn, hk, hg, x_s, ← en, b1, b2, b3, b4, b5, b6, b7, b8, b9, ba, bb]
        omega
      · simp only [wokeAt, decide_eq_true_eq, List.getD_eq_getElem?_getD] at ho
        obtain ⟨b0, b1, b2, b3, b4, b5, b6, b7, b8, b9, ba, bb⟩ := ho
        simp [asrt_iff, br_iff, ieq_t, ieq_f, ine_t, ine_f, ilt_t, ilt_f, ile_t, ile_f, igt_t, igt_f, ige_t, ige_f, nlt_t, nlt_f, nle_t, nle_f, neq_t, neq_f, beq2_t, beq2_f, bnot_t, bnot_f, band_t, band_f, bite_t, bite_f, bimp_t, bimp_f, iadd_e, isub_e, imul_e, ofN_e, nOf_e, nAdd_e, nDiff_e, room_e, lenI_e, gI_e, gB_e, imin_e, imax_e, cat_e, pt_e, put_e, some_f, hw, e2, ho2, hn, hk, hg, x_s, ← en, b0, b1, b2, b3, b4, b5, b6, b7, b8, b9, ba, bb]
        omega
    · have e : k = s.nt := by omega
      simp only [bite_and]
      have hk' : ¬ ((k : Int) < (s.nt : Int)) := by omega
      simp [asrt_iff, br_iff, ieq_t, ieq_f, ine_t, ine_f, ilt_t, ilt_f, ile_t, ile_f, igt_t, igt_f, ige_t, ige_f, nlt_t, nlt_f, nle_t, nle_f, neq_t, neq_f, beq2_t, beq2_f, bnot_t, bnot_f, band_t, band_f, bite_t, bite_f, bimp_t, bimp_f, iadd_e, isub_e, imul_e, ofN_e, nOf_e, nAdd_e, nDiff_e, room_e, lenI_e, gI_e, gB_e, imin_e, imax_e, cat_e, pt_e, put_e, some_f, hk']
      simpa only [← en] using hg
  · exact hg.elim


def Lothers : Nat → Option LoopS := fun i => match i with
  | 0 => some (.summ spec_others.summ)
  | _ => none

theorem ok_Lothers : ∀ i x, Lothers i = some x → LoopHyp Try.prog 3 i x := by
  intro i s h
  unfold Lothers at h
  split at h
  · cases h; exact ⟨by kernel_rfl, loop_others⟩
  · cases h


def FLCloseOne : Pure1 := fun
  | [a_s, .int .i64 id] => (match asSR a_s with | some s => some (some (in64 s.hd s.tl), .bool true) | none => none)
  | _ => none

theorem vc_LCloseOne (s : SR) (id : Int) (r : AV) : VC Try.prog (tabS tabJ) (oneL 3 Lothers) false 3 [s.av, .int .i64 id] r = (
  br (bnot s.few13) (some (AV.bool true) = some r)
    (asrt s.fit
      (asrt
        (band (nle s.25 1000000)
          (band (neq s.25 (s.step id).25) (band (ile 0 (ofN s.25)) (othersOk s (s.step id) id 0))))
        (asrt
          (band (band s.fit (band (sameI s.15 (s.step id).15) (sameI s.17 (s.step id).17)))
            (band (s.step id).fit (slEq s.11 s.12 s.13 (s.step id).11 (s.step id).12 (s.step id).13)))
          (asrt
            (bimp
              (bite
                (bite (bite (ile (things s (s.step id)) 1) (ieq (ofN (s.step id).25) (ofN s.25)) false)
                  (band (ieq (s.step id).1 s.1)
                    (band (ieq (s.step id).2 s.2)
                      (band (ieq (s.step id).3 s.3)
                        (band (ieq (s.step id).4 s.4)
                          (band (ieq (s.step id).5 s.5)
                            (band (ieq (s.step id).6 s.6) (band (beq2 (s.step id).7 s.7) true)))))))
                  false)
                (ieq (s.step id).24 s.24) false)
              (nle (s.step id).14 big))
            (asrt
              (bimp
                (bite
                  (bite
                    (bite (bite (ile (things s (s.step id)) 1) (ieq (ofN (s.step id).25) (ofN s.25)) false)
                      (band (ieq (s.step id).1 s.1)
                        (band (ieq (s.step id).2 s.2)
                          (band (ieq (s.step id).3 s.3)
                            (band (ieq (s.step id).4 s.4)
                              (band (ieq (s.step id).5 s.5)
                                (band (ieq (s.step id).6 s.6) (band (beq2 (s.step id).7 s.7) true)))))))
                      false)
                    (ieq (s.step id).24 s.24) false)
                  (sameI (s.step id).15 s.15) false)
                (nle (s.step id).16 big))
              (some
                  (AV.bool
                    (bite
                      (bite
                        (bite
                          (bite
                            (bite
                              (bite (bite (ile (things s (s.step id)) 1) (ieq (ofN (s.step id).25) (ofN s.25)) false)
                                (band (ieq (s.step id).1 s.1)
                                  (band (ieq (s.step id).2 s.2)
                                    (band (ieq (s.step id).3 s.3)
                                      (band (ieq (s.step id).4 s.4)
                                        (band (ieq (s.step id).5 s.5)
                                          (band (ieq (s.step id).6 s.6) (band (beq2 (s.step id).7 s.7) true)))))))
                                false)
                              (ieq (s.step id).24 s.24) false)
                            (sameI (s.step id).15 s.15) false)
                          (sameI (s.step id).17 s.17) false)
                        (ieq (s.step id).8 s.8) false)
                      (ieq (s.step id).9 s.9) false)) =
                some r))))))) := by kernel_rfl

theorem ok_LCloseOne : PureOK Try.prog 3 FLCloseOne := by
  refine tab_loops mixed (l := tabJ) ok_tabJ false Lothers (by kernel_rfl) ok_Lothers fun xs b r h hb wf => ?_
  unfold FLCloseOne at h
  split at h
  · rename_i a_s id
    split at h
    · rename_i s h_s
      obtain rfl := asSR_some h_s
      cases h
      try rw [some_f] at hb
      simp only [WFL, WF, List.mem_cons, List.not_mem_nil, or_false, forall_eq_or_imp, forall_eq, Col.len, and_true, true_and, wf_av] at wf
      rw [vc_LCloseOne]
      cases c0 : s.few13 with
      | false => simp [asrt_iff, br_iff, ieq_t, ieq_f, ine_t, ine_f, ilt_t, ilt_f, ile_t, ile_f, igt_t, igt_f, ige_t, ige_f, nlt_t, nlt_f, nle_t, nle_f, neq_t, neq_f, beq2_t, beq2_f, bnot_t, bnot_f, band_t, band_f, bite_t, bite_f, bimp_t, bimp_f, iadd_e, isub_e, imul_e, ofN_e, nOf_e, nAdd_e, nDiff_e, room_e, lenI_e, gI_e, gB_e, imin_e, imax_e, cat_e, pt_e, put_e, some_f, c0]
      | true =>
        have hf := c0
        simp [SR.few13] at hf
        have hfit : s.fit = true := (SR.fit_iff s).2 ⟨hb, by omega⟩
        obtain ⟨f1, n1⟩ := SR.step_fit (k := 9) wf hfit (by omega) id
        obtain ⟨g1, g2, g3, g4, g5, g6, g7, g8, g9, ga, gb, gc, gd, ge, gf, gg, gh, gi, gj⟩ := SR.step_things s id
        have ho : othersOk s (s.step id) id 0 = true := by
          unfold othersOk
          rw [List.all_eq_true]
          intro j hj
          by_cases e : (j : Int) = id
          · simp [e]
          · have := SR.step_others (s := s) j e
            rw [Bool.or_assoc, this]
            simp
        have sI : ∀ l : List Int, sameI l l = true := fun l => by simp [sameI]
        have sl : slEq s.ns s.ss s.sv s.ns s.ss s.sv = true := by simp [slEq]
        have q : ∀ n, n ≤ 1000000 → n ≤ big := fun n h => le_big (by omega)
        have p1 : s.nt ≤ 1000000 := by omega
        have p2 : s.n1 ≤ 1000000 := by omega
        have p3 : s.n2 ≤ 1000000 := by omega
        simp only [bite_and, bite_or]
        simp [asrt_iff, br_iff, ieq_t, ieq_f, ine_t, ine_f, ilt_t, ilt_f, ile_t, ile_f, igt_t, igt_f, ige_t, ige_f, nlt_t, nlt_f, nle_t, nle_f, neq_t, neq_f, beq2_t, beq2_f, bnot_t, bnot_f, band_t, band_f, bite_t, bite_f, bimp_t, bimp_f, iadd_e, isub_e, imul_e, ofN_e, nOf_e, nAdd_e, nDiff_e, room_e, lenI_e, gI_e, gB_e, imin_e, imax_e, cat_e, pt_e, put_e, some_f, c0, hfit, f1, ho, g1, g2, g3, g4, g5, g6, g7, g8, g9, ga, gb, gc, gd, ge, gf, gg, gh, gi, gj, sI, sl, q, p1, p2, p3]
    · cases h
  · cases h


theorem law_CloseOne (a0 : SR) (a1 : Int) (h0 : in64 a0.hd a0.tl = true) (_ : (Lit.int .i64 a1).wf = true) :
    ∃ b, FLCloseOne [.agg a0.cells, .int .i64 a1] = some (b, .bool true) ∧ b ≠ some false :=
  ⟨some (in64 a0.hd a0.tl), rfl, by simp [h0]⟩

end Go.Own
