/- Configurations: Check goes through a range over a function, whose rounds are walked here. -/
import Derived.Test.YtdoapbopldhakaaGreatConfA
namespace Go.Own
open Go Go.Proofs Go.RowKit
set_option maxRecDepth 100000
set_option linter.unusedVariables false
set_option linter.unusedSimpArgs false
set_option maxHeartbeats 1000000

def confE (lg th po wt sp yi : Int) : Int := if 1 ≤ lg ∧ lg ≤ 6 ∧ 1 ≤ th ∧ th ≤ 16 ∧ 0 ≤ po ∧ po ≤ 2 ∧ 0 ≤ wt ∧ wt ≤ 3 ∧ 0 ≤ sp ∧ sp ≤ (if wt = 2 then 8 else 0) ∧ 0 ≤ yi ∧ yi ≤ (if wt = 2 then 8 else 0) then 0 else 20

def triesOf (wt : Int) : Int := if wt = 2 then 8 else 0


def Ftries : Pure1 := fun
  | [.agg [.int .i64 lg, .int .i64 th, .int .i64 po, .int .i64 wt, .int .i64 sp, .int .i64 yi, .bool sg]] => some (none, .int .i64 (triesOf wt))
  | _ => none

theorem vc_tries (lg th po wt sp yi : Int) (sg : Bool) (r : AV) : VC Tryz.prog (tabS tab0) noL false 81 [.agg [.int .i64 lg, .int .i64 th, .int .i64 po, .int .i64 wt, .int .i64 sp, .int .i64 yi, .bool sg]] r = (
  br (ieq wt 2) (some (AV.int IntKind.i64 8) = some r) (some (AV.int IntKind.i64 0) = some r)) := by kernel_rfl

theorem ok_tries : PureOK Tryz.prog 81 Ftries := by
  refine tab_plain mixed (l := tab0) ok_tab0 false (by kernel_rfl) fun xs b r h hb wf => ?_
  unfold Ftries at h
  split at h
  · rename_i lg th po wt sp yi sg
    cases h
    try rw [some_f] at hb
    try simp only [WFL, WF, List.mem_cons, List.not_mem_nil, or_false, forall_eq_or_imp, forall_eq, Col.len, and_true, true_and] at wf
    rw [vc_tries]
    simp [asrt_iff, br_iff, ieq_t, ieq_f, ine_t, ine_f, ilt_t, ilt_f, ile_t, ile_f, igt_t, igt_f, ige_t, ige_f, nlt_t, nlt_f, nle_t, nle_f, neq_t, neq_f, beq2_t, beq2_f, bnot_t, bnot_f, band_t, band_f, bite_t, bite_f, bimp_t, bimp_f, iadd_e, isub_e, imul_e, ofN_e, nOf_e, nAdd_e, nDiff_e, room_e, lenI_e, gI_e, gB_e, imin_e, imax_e, cat_e, pt_e, put_e, some_f, triesOf]
    try grind
  · cases h


/-- The call's own record of a loop lies where it was laid, and all that was there stays. -/
structure InLoop (w : World) (rc : Loop) (st : LoopState) (pe : Option Code) (res : Int) (W : World) : Prop where
  keep : ∀ x, x < w.heap.size → W.heap[x]? = w.heap[x]?
  rest : Rest w W
  size : w.heap.size + 4 ≤ W.heap.size
  res : W.heap[w.heap.size + 1]? = some (.cells #[.int .i64 res] 44 (0, 0))
  defers : W.heap[w.heap.size + 2]? = some (.deferred (some []))
  loop : W.heap[w.heap.size + 3]? = some (.loop { rc with state := st, pending := pe })

structure Halt (p : Prop) : Prop where out : p

/-- What is at rest stays in a world in which all that was there does. -/
theorem InLoop.next {w : World} {rc : Loop} {st : LoopState} {pe : Option Code} {res : Int} {W W' : World} (h : InLoop w rc st pe res W)
    (hk : ∀ x, x < W.heap.size → W'.heap[x]? = W.heap[x]?) (hs : W.heap.size ≤ W'.heap.size) (hr : Rest W W') : InLoop w rc st pe res W' := by
  have := h.size
  exact ⟨fun x hx => (hk x (by omega)).trans (h.keep x hx), ⟨hr.1.trans h.rest.1, hr.2.1.trans h.rest.2.1, hr.2.2.trans h.rest.2.2⟩, by omega, (hk _ (by omega)).trans h.res, (hk _ (by omega)).trans h.defers, (hk _ (by omega)).trans h.loop⟩

theorem tries_in (lg th po wt sp yi : Int) (sg : Bool) (W : World) (m : Nat) : CallsIn Fence.wide m Tryz.prog 81 #[.agg #[.int .i64 lg, .int .i64 th, .int .i64 po, .int .i64 wt, .int .i64 sp, .int .i64 yi, .bool sg]] W
    fun e W' => ∃ v, e = .returned v ∧ v = .int .i64 (triesOf wt) ∧ (∀ x, x < W.heap.size → W'.heap[x]? = W.heap[x]?) ∧ W.heap.size ≤ W'.heap.size ∧ Rest W W' := by
  refine callsIn_wide.2 ?_
  refine Calls.mono (ok_tries.2 ⟨W, fun _ => none, fun x => x < W.heap.size⟩ [.agg [.int .i64 lg, .int .i64 th, .int .i64 po, .int .i64 wt, .int .i64 sp, .int .i64 yi, .bool sg]] _ none (.int .i64 (triesOf wt)) (fun x h => h) (fun _ => rfl) ?_ rfl (by simp)) ?_
  · simp [RelL, Rel]
  · rintro e w' ⟨v, c', ps, rfl, rfl, hle, hk, _, hg, _⟩
    refine ⟨v, rfl, ?_, hk, hle.size, hle.rest⟩
    simp [Gives, GiveCells, GiveLeaf, Rel] at hg
    exact hg.2

theorem conf_bounds (lg th po wt sp yi : Int) (sg : Bool) (w V : World) (rc : Loop) (k : Nat) (hps : rc.params = #[9, 10]) (h1 : InLoop w rc .ready none 0 (V.alloc (.loop rc)))
    (hround : ∀ W (x a b : Int), InLoop w rc .ready none 0 W → ∀ m, RoundIn Fence.wide m Tryz.prog (w.heap.size + 3) rc.fn ((rc.params.zip #[.int .i64 x, .agg #[.int .i64 a, .int .i64 b]]).foldl (fun (tmps : Array Value) (p : Tmp × Value) => tmps.setIfInBounds p.1 p.2) rc.tmps) rc.assign rc.body W fun e W' =>
      ∃ c, e = .returned (.bool c) ∧ (∀ x, w.heap.size + 4 ≤ x → x < W.heap.size → W'.heap[x]? = W.heap[x]?) ∧ W.heap.size ≤ W'.heap.size ∧ ((c = true ∧ (a ≤ x ∧ x ≤ b) ∧ InLoop w rc .ready none 0 W') ∨ (c = false ∧ ¬ (a ≤ x ∧ x ≤ b) ∧ InLoop w rc .done (some .ret) 20 W'))) :
    CallsIn Fence.wide k Tryz.prog 60 #[.agg #[.int .i64 lg, .int .i64 th, .int .i64 po, .int .i64 wt, .int .i64 sp, .int .i64 yi, .bool sg], .func (.yield (w.heap.size + 3)) #[] #[]] (V.alloc (.loop rc))
      fun e W' => (∃ v, e = .returned v) ∧ (((1 ≤ lg ∧ lg ≤ 6 ∧ 1 ≤ th ∧ th ≤ 16 ∧ 0 ≤ po ∧ po ≤ 2 ∧ 0 ≤ wt ∧ wt ≤ 3 ∧ 0 ≤ sp ∧ sp ≤ triesOf wt ∧ 0 ≤ yi ∧ yi ≤ triesOf wt) ∧ InLoop w rc .ready none 0 W') ∨ (¬ (1 ≤ lg ∧ lg ≤ 6 ∧ 1 ≤ th ∧ th ≤ 16 ∧ 0 ≤ po ∧ po ≤ 2 ∧ 0 ≤ wt ∧ wt ≤ 3 ∧ 0 ≤ sp ∧ sp ≤ triesOf wt ∧ 0 ≤ yi ∧ yi ≤ triesOf wt) ∧ InLoop w rc .done (some .ret) 20 W')) := by
  generalize V.alloc (.loop rc) = W1 at h1
  refine callsIn_of_wp Tryz.func60 rfl trivial ?_ rfl
  simp only [Tryz.ntmps60, List.size_toArray, List.length_cons, List.length_nil, Nat.reduceAdd, Nat.reduceSub, Array.replicate_succ, Array.replicate_zero, List.push_toArray, List.append_toArray, List.nil_append, List.cons_append]
  gi_wp2
  refine wpIn_region_any (by kernel_rfl) ?_
  refine canon (by kernel_rfl) (by kernel_rfl) (bs0 (l := w.heap.size + 3) (B := W1.heap.size) (lg := lg) (th := th) (po := po) (wt := wt) (sp := sp) (yi := yi) (sg := sg) (T := triesOf wt) (J := fun W => InLoop w rc .ready none 0 W ∧ W1.heap.size < W.heap.size ∧ W.heap[W1.heap.size]? = some (.cells #[.int .i64 lg, .int .i64 th, .int .i64 po, .int .i64 wt, .int .i64 sp, .int .i64 yi, .bool sg] 93 (0, 0))) (Jx := fun W => InLoop w rc .done (some .ret) 20 W) ⟨?_, ?_, ?_, ?_, ?_, ?_⟩ ?_ trivial)
  · rintro W ⟨_, _, h⟩
    refine ⟨?_, ?_, ?_, ?_, ?_, ?_, ?_⟩ <;> · rw [cell_of_arr h]; rfl
  · rintro W m ⟨h, h2, h3⟩
    refine (tries_in lg th po wt sp yi sg W m).mono ?_
    rintro e W' ⟨v, rfl, hv, hk, hs, hr⟩
    exact ⟨v, rfl, hv, h.next hk hs hr, by omega, (hk _ h2).trans h3⟩
  · rintro W x a b ⟨h, h2, h3⟩
    have hsz := h1.size
    refine ⟨_, _, _, _, run_yield h.loop (by simp [hps]), fun m => (hround W x a b h m).mono ?_⟩
    rintro e W' ⟨c, rfl, hk, hs, hc⟩
    refine ⟨c, rfl, ?_⟩
    rcases hc with ⟨q1, q2, q3⟩ | ⟨q1, q2, q3⟩
    · exact .inl ⟨q1, q2, q3, by omega, (hk _ (by omega) h2).trans h3⟩
    · exact .inr ⟨q1, q2, q3⟩
  · intro c a t v w h
    cases t <;> exact h
  · rintro tm W ⟨h, _⟩ hc
    go_end0
    exact ⟨⟨_, rfl⟩, .inl ⟨hc, h⟩⟩
  · rintro tm W h hc
    go_end0
    exact ⟨⟨_, rfl⟩, .inr ⟨hc, h⟩⟩
  · refine ⟨?_, ?_, ?_⟩
    · refine h1.next (fun x hx => ?_) ?_ ⟨rfl, rfl, rfl⟩
      · exact heap_push_old W1 _ hx
      · show _ ≤ Array.size (Array.push _ _)
        rw [Array.size_push]
        omega
    · show _ < Array.size (Array.push _ _)
      rw [Array.size_push]
      omega
    · exact heap_push_new W1 _

theorem four_push (h : Array Obj) (a b c d : Obj) : (∀ x, x < h.size → ((((h.push a).push b).push c).push d)[x]? = h[x]?) ∧ ((((h.push a).push b).push c).push d).size = h.size + 4 ∧ ((((h.push a).push b).push c).push d)[h.size + 1]? = some b ∧ ((((h.push a).push b).push c).push d)[h.size + 2]? = some c ∧ ((((h.push a).push b).push c).push d)[h.size + 3]? = some d := by
  refine ⟨fun x hx => ?_, by simp, ?_, ?_, ?_⟩
  · rw [Array.getElem?_push, Array.getElem?_push, Array.getElem?_push, Array.getElem?_push]
    simp only [Array.size_push]
    rw [if_neg (by omega), if_neg (by omega), if_neg (by omega), if_neg (by omega)]
  · rw [Array.getElem?_push, Array.getElem?_push, Array.getElem?_push]
    simp only [Array.size_push]
    rw [if_neg (by omega), if_neg (by omega)]
    simp
  · rw [Array.getElem?_push, Array.getElem?_push]
    simp only [Array.size_push]
    rw [if_neg (by omega)]
    simp
  · rw [Array.getElem?_push]
    simp

/-- Behind the loop. -/
structure Left (w : World) (res : Int) (W : World) : Prop where
  keep : ∀ x, x < w.heap.size → W.heap[x]? = w.heap[x]?
  rest : Rest w W
  size : w.heap.size + 4 ≤ W.heap.size
  res : W.heap[w.heap.size + 1]? = some (.cells #[.int .i64 res] 44 (0, 0))
  defers : W.heap[w.heap.size + 2]? = some (.deferred (some []))

theorem InLoop.left {w : World} {rc : Loop} {st : LoopState} {pe : Option Code} {res : Int} {W : World} (h : InLoop w rc st pe res W) (hst : st ≠ .busy) {P : Program} :
    ∃ W', (Instr.endLoop (w.heap.size + 3)).run P W = .ok pe W' ∧ Left w res W' := by
  have hsz := h.size
  refine ⟨_, run_endLoop h.loop hst, ?_, ?_, ?_, ?_, ?_⟩
  · intro x h1
    rw [World.putObj_heap_other (by omega)]
    exact h.keep x h1
  · exact ⟨h.rest.1, h.rest.2.1, h.rest.2.2⟩
  · rw [World.putObj_size]; omega
  · rw [World.putObj_heap_other (by omega)]
    exact h.res
  · rw [World.putObj_heap_other (by omega)]
    exact h.defers

theorem Left.fin {w : World} {res : Int} {W : World} (h : Left w res W) : (W.putObj (w.heap.size + 2) (.deferred none)).heap[w.heap.size + 1]? = some (.cells #[.int .i64 res] 44 (0, 0)) ∧ (∀ x, x < w.heap.size → (W.putObj (w.heap.size + 2) (.deferred none)).heap[x]? = w.heap[x]?) ∧ w.heap.size ≤ (W.putObj (w.heap.size + 2) (.deferred none)).heap.size ∧ Rest w (W.putObj (w.heap.size + 2) (.deferred none)) := by
  have := h.size
  refine ⟨?_, fun x hx => ?_, ?_, h.rest⟩
  · rw [World.putObj_heap_other (by omega)]
    exact h.res
  · rw [World.putObj_heap_other (by omega)]
    exact h.keep x hx
  · rw [World.putObj_size]; omega

theorem conf_results {tmps : Array Value} {W : World} {bb : Nat} {res : Int} (h2 : tmps.getD 2 undef = .pointer (some ⟨bb, 0, none⟩)) (hres : W.heap[bb]? = some (.cells #[.int .i64 res] 44 (0, 0))) :
    (results Tryz.f35 tmps).run Tryz.prog W = .ok (.int .i64 res) W := by
  refine run_results (vs := [.int .i64 res]) ?_
  have e : (loadVar 44 ⟨bb, 0, none⟩).run Tryz.prog W = .ok (.int .i64 res) W := by
    have hc : W.cell? ⟨bb, 0, none⟩ = some (.int .i64 res) := (cell_of_arr hres 0).trans rfl
    go_simp
  show ([ResultVar.cell 2 44].mapM (readR tmps)).run Tryz.prog W = _
  simp only [List.mapM_cons, List.mapM_nil, readR, h2, asAddr, Sem.run_bind, Sem.run_pure, Result.andThen_ok, e]

/-- A round has begun: a block is laid, and the record is busy. -/
structure InRound (w : World) (rc : Loop) (o : Obj) (W W2 : World) : Prop where
  size : W2.heap.size = W.heap.size + 1
  keep : ∀ x, x ≠ w.heap.size + 3 → x < W.heap.size → W2.heap[x]? = W.heap[x]?
  loop : W2.heap[w.heap.size + 3]? = some (.loop { rc with state := .busy, pending := none })
  new : W2.heap[W.heap.size]? = some o
  rest : Rest W W2

theorem InLoop.busy {w : World} {rc : Loop} {W : World} {P : Program} (h : InLoop w rc .ready none 0 W) (o : Obj) : ∃ W2, (Instr.beginRound (w.heap.size + 3)).run P (W.alloc o) = .ok () W2 ∧ InRound w rc o W W2 := by
  have hsz := h.size
  have hl : (W.alloc o).heap[w.heap.size + 3]? = some (.loop { rc with state := .ready, pending := none }) := (heap_push_old W _ (by omega)).trans h.loop
  refine ⟨_, run_beginRound hl rfl, ?_, ?_, ?_, ?_, rfl, rfl, rfl⟩
  · rw [World.putObj_size, World.size_alloc]
  · intro x h1 h2
    rw [World.putObj_heap_other h1]
    exact heap_push_old W _ h2
  · exact World.putObj_heap_same (by rw [World.size_alloc]; omega)
  · rw [World.putObj_heap_other (by omega)]
    exact heap_push_new W _

/-- How a round ends. -/
theorem InRound.normal {w : World} {rc : Loop} {o : Obj} {W W2 : World} {P : Program} (h : InLoop w rc .ready none 0 W) (r : InRound w rc o W W2) :
    ∃ W', (Instr.endRound (w.heap.size + 3) none).run P W2 = .ok (.bool true) W' ∧ (∀ x, w.heap.size + 4 ≤ x → x < W.heap.size → W'.heap[x]? = W.heap[x]?) ∧ W.heap.size ≤ W'.heap.size ∧ InLoop w rc .ready none 0 W' := by
  have hsz := h.size
  have hs := r.size
  refine ⟨_, run_endRound none r.loop, ?_, ?_, ?_, ?_, ?_, ?_, ?_, ?_⟩
  · intro x h1 h2
    rw [World.putObj_heap_other (by omega)]
    exact r.keep x (by omega) h2
  · rw [World.putObj_size]; omega
  · intro x h1
    rw [World.putObj_heap_other (by omega)]
    exact (r.keep x (by omega) (by omega)).trans (h.keep x h1)
  · exact ⟨r.rest.1.trans h.rest.1, r.rest.2.1.trans h.rest.2.1, r.rest.2.2.trans h.rest.2.2⟩
  · rw [World.putObj_size]; omega
  · rw [World.putObj_heap_other (by omega)]
    exact (r.keep _ (by omega) (by omega)).trans h.res
  · rw [World.putObj_heap_other (by omega)]
    exact (r.keep _ (by omega) (by omega)).trans h.defers
  · exact World.putObj_heap_same (by omega)

theorem InRound.ret {w : World} {rc : Loop} {o : Obj} {W W2 : World} {P : Program} (h : InLoop w rc .ready none 0 W) (r : InRound w rc o W W2) :
    ∃ W', (Instr.endRound (w.heap.size + 3) (some .ret)).run P (W2.setCell ⟨w.heap.size + 1, 0, none⟩ (.int .i64 20)) = .ok (.bool false) W' ∧ (∀ x, w.heap.size + 4 ≤ x → x < W.heap.size → W'.heap[x]? = W.heap[x]?) ∧ W.heap.size ≤ W'.heap.size ∧ InLoop w rc .done (some .ret) 20 W' := by
  have hsz := h.size
  have hs := r.size
  have hr : (W2.setCell ⟨w.heap.size + 1, 0, none⟩ (.int .i64 20)).heap[w.heap.size + 1]? = some (.cells #[.int .i64 20] 44 (0, 0)) := one_setCell ((r.keep _ (by omega) (by omega)).trans h.res)
  have ho : ∀ x, x ≠ w.heap.size + 1 → (W2.setCell ⟨w.heap.size + 1, 0, none⟩ (.int .i64 20)).heap[x]? = W2.heap[x]? := fun x hx => Below.heap_setCell _ _ _ _ hx
  have hz : (W2.setCell ⟨w.heap.size + 1, 0, none⟩ (.int .i64 20)).heap.size = W2.heap.size := by simp
  have hl := (ho (w.heap.size + 3) (by omega)).trans r.loop
  refine ⟨_, run_endRound (some .ret) hl, ?_, ?_, ?_, ?_, ?_, ?_, ?_, ?_⟩
  · intro x h1 h2
    rw [World.putObj_heap_other (by omega), ho _ (by omega)]
    exact r.keep x (by omega) h2
  · rw [World.putObj_size]; omega
  · intro x h1
    rw [World.putObj_heap_other (by omega), ho _ (by omega)]
    exact (r.keep x (by omega) (by omega)).trans (h.keep x h1)
  · exact ⟨r.rest.1.trans h.rest.1, r.rest.2.1.trans h.rest.2.1, r.rest.2.2.trans h.rest.2.2⟩
  · rw [World.putObj_size]; omega
  · rw [World.putObj_heap_other (by omega)]
    exact hr
  · rw [World.putObj_heap_other (by omega), ho _ (by omega)]
    exact (r.keep _ (by omega) (by omega)).trans h.defers
  · exact World.putObj_heap_same (by omega)

attribute [local go_sem] Oper.semAt_some

theorem conf_calls (lg th po wt sp yi : Int) (sg : Bool) (w : World) : Calls Tryz.prog 35 #[.agg #[.int .i64 lg, .int .i64 th, .int .i64 po, .int .i64 wt, .int .i64 sp, .int .i64 yi, .bool sg]] w
    fun e w' => e = .returned (.int .i64 (confE lg th po wt sp yi)) ∧ (∀ x, x < w.heap.size → w'.heap[x]? = w.heap[x]?) ∧ w.heap.size ≤ w'.heap.size ∧ Rest w w' := by
  refine (callsIn_wide (n := 9)).1 ?_
  refine callsIn_of_wp_marks Tryz.func35 rfl trivial ?_ rfl
  simp only [Tryz.ntmps35, List.size_toArray, List.length_cons, List.length_nil, Nat.reduceAdd, Nat.reduceSub, Array.replicate_succ, Array.replicate_zero, List.push_toArray, List.append_toArray, List.nil_append, List.cons_append]
  gi_wp2
  obtain ⟨cf, hcf⟩ : ∃ cf : Value, cf = .agg #[.int .i64 lg, .int .i64 th, .int .i64 po, .int .i64 wt, .int .i64 sp, .int .i64 yi, .bool sg] := ⟨_, rfl⟩
  rw [← hcf]
  refine wpIn_rangeFunc ?_
  intro fn _
  refine ⟨_, _, _, { target := .fn (.func 60) #[], args := #[cf, .func (.yield (w.heap.size + 3)) #[] #[]] }, ?_, 60, #[cf, .func (.yield (w.heap.size + 3)) #[] #[]], ?_, run_enterLoop_outer _ _ _ _ _, ?_⟩
  rotate_left 2
  refine ⟨?_, fun _ _ => trivial, ?_, fun h => (by cases h), ?_⟩
  · simp only [resolve, rangeCall]
    simp [go_sem]
    rfl
  · simp [invoke, go_sem]
    rfl
  subst hcf
  refine (conf_bounds lg th po wt sp yi sg w _ _ _ rfl ?_ ?_).mono ?_
  · obtain ⟨q1, q2, q3, q4, q5⟩ := four_push w.heap (Obj.cells #[.int .i64 lg, .int .i64 th, .int .i64 po, .int .i64 wt, .int .i64 sp, .int .i64 yi, .bool sg] 23) (Obj.cells #[.int .i64 0] 44) (.deferred (some [])) _
    exact ⟨q1, ⟨rfl, rfl, rfl⟩, Nat.le_of_eq q2.symm, q3, q4, q5⟩
  · intro W x a b h m
    refine roundIn_of_wpIn trivial ?_
    simp only [List.zip_toArray, List.zip_cons_cons, List.zip_nil_right, List.foldl_toArray, List.foldl_cons, List.foldl_nil]
    gi_wp2
    have hsz := h.size
    obtain ⟨W2, hb2, r⟩ := h.busy (P := Tryz.prog) (Obj.cells #[.int .i64 a, .int .i64 b] 94)
    refine ⟨W2, hb2, ?_⟩
    have k3 := r.new
    have k5 := (r.keep _ (by omega) (by omega)).trans h.res
    have s0 : W2.cell? ⟨W.heap.size, 0, none⟩ = some (.int .i64 a) := by rw [cell_of_arr k3]; rfl
    have s1 : W2.cell? ⟨W.heap.size, 1, none⟩ = some (.int .i64 b) := by rw [cell_of_arr k3]; rfl
    have r0 : W2.cell? ⟨w.heap.size + 1, 0, none⟩ = some (.int .i64 0) := by rw [cell_of_arr k5]; rfl
    have r1 : W2.frozen? ⟨w.heap.size + 1, 0, none⟩ = false := by simp [World.frozen?, k5]
    gi_wp2
    all_goals first
      | (obtain ⟨W', e1, e2, e3, e4⟩ := InRound.ret (P := Tryz.prog) h r; exact ⟨_, W', e1, false, rfl, e2, e3, .inr ⟨rfl, by omega, e4⟩⟩)
      | (obtain ⟨W', e1, e2, e3, e4⟩ := InRound.normal (P := Tryz.prog) h r; exact ⟨_, W', e1, true, rfl, e2, e3, .inl ⟨rfl, by omega, e4⟩⟩)
      | (obtain ⟨W', e1, e2, e3, e4⟩ := InRound.ret (P := Tryz.prog) h r; exact ⟨_, W', e1, .inl ⟨rfl, e2, e3, by omega, e4⟩⟩)
      | (obtain ⟨W', e1, e2, e3, e4⟩ := InRound.normal (P := Tryz.prog) h r; exact ⟨_, W', e1, .inr ⟨rfl, e2, e3, by omega, e4⟩⟩)
  · rintro e w' ⟨⟨v, rfl⟩, (⟨hc, h⟩ | ⟨hc, h⟩)⟩
    · obtain ⟨W3, hend, hA⟩ := h.left (by simp) (P := Tryz.prog)
      refine ⟨_, W3, by rw [World.size_alloc, World.size_alloc]; exact hend, ?_⟩
      clear h hend
      have hsize := hA.size
      have r0 : W3.cell? ⟨w.heap.size + 1, 0, none⟩ = some (.int .i64 0) := (cell_of_arr hA.res 0).trans rfl
      have r1 : W3.frozen? ⟨w.heap.size + 1, 0, none⟩ = false := by simp [World.frozen?, hA.res]
      dsimp only
      gi_wp2
      have hB : Left w 0 (W3.setCell ⟨w.heap.size + 1, 0, none⟩ (.int .i64 0)) := by
        have ho : ∀ x, x ≠ w.heap.size + 1 → (W3.setCell ⟨w.heap.size + 1, 0, none⟩ (.int .i64 0)).heap[x]? = W3.heap[x]? := fun x hx => Below.heap_setCell _ _ _ _ hx
        exact ⟨fun x hx => (ho x (by omega)).trans (hA.keep x hx), hA.rest, by simpa using hA.size, one_setCell hA.res, (ho _ (by omega)).trans hA.defers⟩
      refine ⟨by simp, .inl ⟨_, _, rfl, by rw [World.size_alloc, World.size_alloc]; exact run_takeDeferred hB.defers, ?_⟩⟩
      obtain ⟨q1, q2, q3, q4⟩ := hB.fin
      refine ⟨_, conf_results rfl q1, ?_, q2, q3, q4⟩
      unfold triesOf at hc
      unfold confE
      rw [if_pos hc]
    · obtain ⟨W3, hend, hA⟩ := h.left (by simp) (P := Tryz.prog)
      refine ⟨_, W3, by rw [World.size_alloc, World.size_alloc]; exact hend, ?_⟩
      clear h hend
      dsimp only
      gi_wp2
      refine ⟨by simp, .inl ⟨_, _, rfl, by rw [World.size_alloc, World.size_alloc]; exact run_takeDeferred hA.defers, ?_⟩⟩
      obtain ⟨q1, q2, q3, q4⟩ := hA.fin
      refine ⟨_, conf_results rfl q1, ?_, q2, q3, q4⟩
      unfold triesOf at hc
      unfold confE
      rw [if_neg hc]

def Fconf : Pure1 := fun
  | [.agg [.int .i64 lg, .int .i64 th, .int .i64 po, .int .i64 wt, .int .i64 sp, .int .i64 yi, .bool sg]] => some (none, .int .i64 (confE lg th po wt sp yi))
  | _ => none

theorem ok_conf : PureOK Tryz.prog 35 Fconf := by
  refine ⟨enters_of (by kernel_rfl), fun c xs vs b r h1 h2 h3 h4 h5 => ?_⟩
  unfold Fconf at h4
  split at h4
  · cases h4
    obtain ⟨vs⟩ := vs
    match vs, h3 with
    | [v], h3 =>
      obtain ⟨⟨ws, rfl, h3⟩, _⟩ := h3
      obtain ⟨ws⟩ := ws
      match ws, h3 with
      | [_, _, _, _, _, _, _], ⟨e1, e2, e3, e4, e5, e6, e7, _⟩ =>
        cases e1; cases e2; cases e3; cases e4; cases e5; cases e6; cases e7
        refine Calls.mono (conf_calls _ _ _ _ _ _ _ c.w) ?_
        rintro e w' ⟨rfl, hk, hs, hr⟩
        refine ⟨_, ⟨w', c.π, c.S⟩, [], rfl, rfl, ⟨fun _ _ h => h, fun _ h => h, fun x hx => hk x (h1 x hx), hs, hr⟩, hk, fun x hx => ⟨.inl hx, Nat.lt_of_lt_of_le (h1 x hx) hs⟩, ?_, ?_, ?_⟩
        · simp [Gives, GiveCells, GiveLeaf, Rel]
        · simp [Apart]
        · simp [NewAt]
  · cases h4

def tabK0 : List (FuncId × Pure1) := [(35, Fconf)]

theorem ok_tabK0 : ∀ p ∈ tabK0, PureOK Tryz.prog p.1 p.2 := by
  intro p hp
  simp only [tabK0, List.mem_cons, List.not_mem_nil, or_false] at hp
  rcases hp with rfl
  · exact ok_conf


end Go.Own
