/- What stands behind it, part 8. -/
import Derived.Test.YtllmihapajeeiaaGreatW7
set_option linter.unusedVariables false
set_option linter.unusedSimpArgs false
section
namespace Go.Own
open Go Go.Proofs Go.RowKit
set_option maxRecDepth 100000
set_option maxHeartbeats 1000000
def confE (lg th po wt sp yi : Int) : Int := if 1 ≤ lg ∧ lg ≤ 6 ∧ 1 ≤ th ∧ th ≤ 16 ∧ 0 ≤ po ∧ po ≤ 2 ∧ 0 ≤ wt ∧ wt ≤ 3 ∧ 0 ≤ sp ∧ sp ≤ (if wt = 2 then 8 else 0) ∧ 0 ≤ yi ∧ yi ≤ (if wt = 2 then 8 else 0) then 0 else 20
def triesOf (wt : Int) : Int := if wt = 2 then 8 else 0
def Ftries : Pure1 := fun
 | [.agg [.int .i64 lg, .int .i64 th, .int .i64 po, .int .i64 wt, .int .i64 sp, .int .i64 yi, .bool sg]] => some (none, .int .i64 (triesOf wt))
 | _ => none
theorem vc_tries (lg th po wt sp yi : Int) (sg : Bool) (r : AV) : VC Tryz.prog (tabS tab0) noL false 78 [.agg [.int .i64 lg, .int .i64 th, .int .i64 po, .int .i64 wt, .int .i64 sp, .int .i64 yi, .bool sg]] r = (
 br (ieq wt 2) (some (AV.int .i64 8) = some r) (some (AV.int .i64 0) = some r)) := by kernel_rfl
theorem ok_tries : PureOK Tryz.prog 78 Ftries := by
 refine tab_plain mixed (l := tab0) ok_tab0 false (by kernel_rfl) fun xs b r h hb wf => ?_
 unfold Ftries at h
 split at h
 ·rename_i lg th po wt sp yi sg
  cases h
  try rw [some_f] at hb
  try simp only [WFL, WF, List.mem_cons, List.not_mem_nil, or_false, forall_eq_or_imp, forall_eq, Col.len, and_true, true_and] at wf
  rw [vc_tries]
  simp [owl, triesOf]
  try grind
 ·cases h
structure InLoop (w : World) (rc : Loop) (st : LoopState) (pe : Option Code) (res : Int) (W : World) : Prop where
 keep : ∀ x, x < w.heap.size → W.heap[x]? = w.heap[x]?
 rest : Rest w W
 size : w.heap.size + 4 ≤ W.heap.size
 res : W.heap[w.heap.size + 1]? = some (.cells #[.int .i64 res] 37 (0, 0))
 defers : W.heap[w.heap.size + 2]? = some (.deferred (some []))
 loop : W.heap[w.heap.size + 3]? = some (.loop { rc with state := st, pending := pe })
theorem InLoop.next {w : World} {rc : Loop} {st : LoopState} {pe : Option Code} {res : Int} {W W' : World} (h : InLoop w rc st pe res W)
  (hk : ∀ x, x < W.heap.size → W'.heap[x]? = W.heap[x]?) (hs : W.heap.size ≤ W'.heap.size) (hr : Rest W W') : InLoop w rc st pe res W' := by
 have := h.size
 exact ⟨fun x hx => (hk x (by omega)).trans (h.keep x hx), ⟨hr.1.trans h.rest.1, hr.2.1.trans h.rest.2.1, hr.2.2.trans h.rest.2.2⟩, by omega, (hk _ (by omega)).trans h.res, (hk _ (by omega)).trans h.defers, (hk _ (by omega)).trans h.loop⟩
theorem tries_in (lg th po wt sp yi : Int) (sg : Bool) (W : World) (m : Nat) : CallsIn Fence.wide m Tryz.prog 78 #[.agg #[.int .i64 lg, .int .i64 th, .int .i64 po, .int .i64 wt, .int .i64 sp, .int .i64 yi, .bool sg]] W
  fun e W' => ∃ v, e = .returned v ∧ v = .int .i64 (triesOf wt) ∧ (∀ x, x < W.heap.size → W'.heap[x]? = W.heap[x]?) ∧ W.heap.size ≤ W'.heap.size ∧ Rest W W' := by
 refine callsIn_wide.2 ?_
 refine Calls.mono (ok_tries.2 ⟨W, fun _ => none, fun x => x < W.heap.size⟩ [.agg [.int .i64 lg, .int .i64 th, .int .i64 po, .int .i64 wt, .int .i64 sp, .int .i64 yi, .bool sg]] _ none (.int .i64 (triesOf wt)) (fun x h => h) (fun _ => rfl) ?_ rfl (by simp)) ?_
 ·simp [RelL, Rel]
 ·rintro e w' ⟨v, c', ps, rfl, rfl, hle, hk, _, hg, _⟩
  refine ⟨v, rfl, ?_, hk, hle.size, hle.rest⟩
  simp [Gives, GiveCells, GiveLeaf, Rel] at hg
  exact hg.2
theorem conf_bounds (lg th po wt sp yi : Int) (sg : Bool) (w V : World) (rc : Loop) (k : Nat) (hps : rc.params = #[9, 10]) (h1 : InLoop w rc .ready none 0 (V.alloc (.loop rc)))
  (hround : ∀ W (x a b : Int), InLoop w rc .ready none 0 W → ∀ m, RoundIn Fence.wide m Tryz.prog (w.heap.size + 3) rc.fn ((rc.params.zip #[.int .i64 x, .agg #[.int .i64 a, .int .i64 b]]).foldl (fun (tmps : Array Value) (p : Tmp × Value) => tmps.setIfInBounds p.1 p.2) rc.tmps) rc.assign rc.body W fun e W' =>
   ∃ c, e = .returned (.bool c) ∧ (∀ x, w.heap.size + 4 ≤ x → x < W.heap.size → W'.heap[x]? = W.heap[x]?) ∧ W.heap.size ≤ W'.heap.size ∧ ((c = true ∧ (a ≤ x ∧ x ≤ b) ∧ InLoop w rc .ready none 0 W') ∨ (c = false ∧ ¬ (a ≤ x ∧ x ≤ b) ∧ InLoop w rc .done (some .ret) 20 W'))) :
  CallsIn Fence.wide k Tryz.prog 48 #[.agg #[.int .i64 lg, .int .i64 th, .int .i64 po, .int .i64 wt, .int .i64 sp, .int .i64 yi, .bool sg], .func (.yield (w.heap.size + 3)) #[] #[]] (V.alloc (.loop rc))
   fun e W' => (∃ v, e = .returned v) ∧ (((1 ≤ lg ∧ lg ≤ 6 ∧ 1 ≤ th ∧ th ≤ 16 ∧ 0 ≤ po ∧ po ≤ 2 ∧ 0 ≤ wt ∧ wt ≤ 3 ∧ 0 ≤ sp ∧ sp ≤ triesOf wt ∧ 0 ≤ yi ∧ yi ≤ triesOf wt) ∧ InLoop w rc .ready none 0 W') ∨ (¬ (1 ≤ lg ∧ lg ≤ 6 ∧ 1 ≤ th ∧ th ≤ 16 ∧ 0 ≤ po ∧ po ≤ 2 ∧ 0 ≤ wt ∧ wt ≤ 3 ∧ 0 ≤ sp ∧ sp ≤ triesOf wt ∧ 0 ≤ yi ∧ yi ≤ triesOf wt) ∧ InLoop w rc .done (some .ret) 20 W')) := by
 generalize V.alloc (.loop rc) = W1 at h1
 refine callsIn_of_wp Tryz.func48 rfl trivial ?_ rfl
 simp only [Tryz.ntmps48, List.size_toArray, List.length_cons, List.length_nil, Nat.reduceAdd, Nat.reduceSub, Array.replicate_succ, Array.replicate_zero, List.push_toArray, List.append_toArray, List.nil_append, List.cons_append]
 gi_wp2
 refine wpIn_region_any (by kernel_rfl) ?_
 refine canon (by kernel_rfl) (by kernel_rfl) (bs0 (l := w.heap.size + 3) (B := W1.heap.size) (lg := lg) (th := th) (po := po) (wt := wt) (sp := sp) (yi := yi) (sg := sg) (T := triesOf wt) (J := fun W => InLoop w rc .ready none 0 W ∧ W1.heap.size < W.heap.size ∧ W.heap[W1.heap.size]? = some (.cells #[.int .i64 lg, .int .i64 th, .int .i64 po, .int .i64 wt, .int .i64 sp, .int .i64 yi, .bool sg] 96 (0, 0))) (Jx := fun W => InLoop w rc .done (some .ret) 20 W) ⟨?_, ?_, ?_, ?_, ?_, ?_⟩ ?_ trivial)
 ·rintro W ⟨_, _, h⟩
  refine ⟨?_, ?_, ?_, ?_, ?_, ?_, ?_⟩ <;> · rw [cell_of_arr h]; rfl
 ·rintro W m ⟨h, h2, h3⟩
  refine (tries_in lg th po wt sp yi sg W m).mono ?_
  rintro e W' ⟨v, rfl, hv, hk, hs, hr⟩
  exact ⟨v, rfl, hv, h.next hk hs hr, by omega, (hk _ h2).trans h3⟩
 ·rintro W x a b ⟨h, h2, h3⟩
  have hsz := h1.size
  refine ⟨_, _, _, _, run_yield h.loop (by simp [hps]), fun m => (hround W x a b h m).mono ?_⟩
  rintro e W' ⟨c, rfl, hk, hs, hc⟩
  refine ⟨c, rfl, ?_⟩
  rcases hc with ⟨q1, q2, q3⟩ | ⟨q1, q2, q3⟩
  ·exact .inl ⟨q1, q2, q3, by omega, (hk _ (by omega) h2).trans h3⟩
  ·exact .inr ⟨q1, q2, q3⟩
 ·intro c a t v w h
  cases t <;> exact h
 ·rintro tm W ⟨h, _⟩ hc
  go_end0
  exact ⟨⟨_, rfl⟩, .inl ⟨hc, h⟩⟩
 ·rintro tm W h hc
  go_end0
  exact ⟨⟨_, rfl⟩, .inr ⟨hc, h⟩⟩
 ·refine ⟨?_, ?_, ?_⟩
  ·refine h1.next (fun x hx => ?_) ?_ ⟨rfl, rfl, rfl⟩
   ·exact heap_push_old W1 _ hx
   ·show _ ≤ Array.size (Array.push _ _)
    rw [Array.size_push]
    omega
  ·show _ < Array.size (Array.push _ _)
   rw [Array.size_push]
   omega
  ·exact heap_push_new W1 _
theorem four_push (h : Array Obj) (a b c d : Obj) : (∀ x, x < h.size → ((((h.push a).push b).push c).push d)[x]? = h[x]?) ∧ ((((h.push a).push b).push c).push d).size = h.size + 4 ∧ ((((h.push a).push b).push c).push d)[h.size + 1]? = some b ∧ ((((h.push a).push b).push c).push d)[h.size + 2]? = some c ∧ ((((h.push a).push b).push c).push d)[h.size + 3]? = some d := by
 refine ⟨fun x hx => ?_, by simp, ?_, ?_, ?_⟩
 ·rw [Array.getElem?_push, Array.getElem?_push, Array.getElem?_push, Array.getElem?_push]
  simp only [Array.size_push]
  rw [if_neg (by omega), if_neg (by omega), if_neg (by omega), if_neg (by omega)]
 ·rw [Array.getElem?_push, Array.getElem?_push, Array.getElem?_push]
  simp only [Array.size_push]
  rw [if_neg (by omega), if_neg (by omega)]
  simp
 ·rw [Array.getElem?_push, Array.getElem?_push]
  simp only [Array.size_push]
  rw [if_neg (by omega)]
  simp
 ·rw [Array.getElem?_push]
  simp
structure Left (w : World) (res : Int) (W : World) : Prop where
 keep : ∀ x, x < w.heap.size → W.heap[x]? = w.heap[x]?
 rest : Rest w W
 size : w.heap.size + 4 ≤ W.heap.size
 res : W.heap[w.heap.size + 1]? = some (.cells #[.int .i64 res] 37 (0, 0))
 defers : W.heap[w.heap.size + 2]? = some (.deferred (some []))
theorem InLoop.left {w : World} {rc : Loop} {st : LoopState} {pe : Option Code} {res : Int} {W : World} (h : InLoop w rc st pe res W) (hst : st ≠ .busy) {P : Program} :
  ∃ W', (Instr.endLoop (w.heap.size + 3)).run P W = .ok pe W' ∧ Left w res W' := by
 have hsz := h.size
 refine ⟨_, run_endLoop h.loop hst, ?_, ?_, ?_, ?_, ?_⟩
 ·intro x h1
  rw [World.putObj_heap_other (by omega)]
  exact h.keep x h1
 ·exact ⟨h.rest.1, h.rest.2.1, h.rest.2.2⟩
 ·rw [World.putObj_size]; omega
 ·rw [World.putObj_heap_other (by omega)]
  exact h.res
 ·rw [World.putObj_heap_other (by omega)]
  exact h.defers
theorem Left.fin {w : World} {res : Int} {W : World} (h : Left w res W) : (W.putObj (w.heap.size + 2) (.deferred none)).heap[w.heap.size + 1]? = some (.cells #[.int .i64 res] 37 (0, 0)) ∧ (∀ x, x < w.heap.size → (W.putObj (w.heap.size + 2) (.deferred none)).heap[x]? = w.heap[x]?) ∧ w.heap.size ≤ (W.putObj (w.heap.size + 2) (.deferred none)).heap.size ∧ Rest w (W.putObj (w.heap.size + 2) (.deferred none)) := by
 have := h.size
 refine ⟨?_, fun x hx => ?_, ?_, h.rest⟩
 ·rw [World.putObj_heap_other (by omega)]
  exact h.res
 ·rw [World.putObj_heap_other (by omega)]
  exact h.keep x hx
 ·rw [World.putObj_size]; omega
theorem conf_results {tmps : Array Value} {W : World} {bb : Nat} {res : Int} (h2 : tmps.getD 2 undef = .pointer (some ⟨bb, 0, none⟩)) (hres : W.heap[bb]? = some (.cells #[.int .i64 res] 37 (0, 0))) :
  (results Tryz.f21 tmps).run Tryz.prog W = .ok (.int .i64 res) W := by
 refine run_results (vs := [.int .i64 res]) ?_
 have e : (loadVar 37 ⟨bb, 0, none⟩).run Tryz.prog W = .ok (.int .i64 res) W := by
  have hc : W.cell? ⟨bb, 0, none⟩ = some (.int .i64 res) := (cell_of_arr hres 0).trans rfl
  go_simp
 show ([ResultVar.cell 2 37].mapM (readR tmps)).run Tryz.prog W = _
 simp only [List.mapM_cons, List.mapM_nil, readR, h2, asAddr, Sem.run_bind, Sem.run_pure, Result.andThen_ok, e]
structure InRound (w : World) (rc : Loop) (o : Obj) (W W2 : World) : Prop where
 size : W2.heap.size = W.heap.size + 1
 keep : ∀ x, x ≠ w.heap.size + 3 → x < W.heap.size → W2.heap[x]? = W.heap[x]?
 loop : W2.heap[w.heap.size + 3]? = some (.loop { rc with state := .busy, pending := none })
 new : W2.heap[W.heap.size]? = some o
 rest : Rest W W2
theorem InLoop.busy {w : World} {rc : Loop} {W : World} {P : Program} (h : InLoop w rc .ready none 0 W) (o : Obj) : ∃ W2, (Instr.beginRound (w.heap.size + 3)).run P (W.alloc o) = .ok () W2 ∧ InRound w rc o W W2 := by
 have hsz := h.size
 have hl : (W.alloc o).heap[w.heap.size + 3]? = some (.loop { rc with state := .ready, pending := none }) := (heap_push_old W _ (by omega)).trans h.loop
 refine ⟨_, run_beginRound hl rfl, ?_, ?_, ?_, ?_, rfl, rfl, rfl⟩
 ·rw [World.putObj_size, World.size_alloc]
 ·intro x h1 h2
  rw [World.putObj_heap_other h1]
  exact heap_push_old W _ h2
 ·exact World.putObj_heap_same (by rw [World.size_alloc]; omega)
 ·rw [World.putObj_heap_other (by omega)]
  exact heap_push_new W _
theorem InRound.normal {w : World} {rc : Loop} {o : Obj} {W W2 : World} {P : Program} (h : InLoop w rc .ready none 0 W) (r : InRound w rc o W W2) :
  ∃ W', (Instr.endRound (w.heap.size + 3) none).run P W2 = .ok (.bool true) W' ∧ (∀ x, w.heap.size + 4 ≤ x → x < W.heap.size → W'.heap[x]? = W.heap[x]?) ∧ W.heap.size ≤ W'.heap.size ∧ InLoop w rc .ready none 0 W' := by
 have hsz := h.size
 have hs := r.size
 refine ⟨_, run_endRound none r.loop, ?_, ?_, ?_, ?_, ?_, ?_, ?_, ?_⟩
 ·intro x h1 h2
  rw [World.putObj_heap_other (by omega)]
  exact r.keep x (by omega) h2
 ·rw [World.putObj_size]; omega
 ·intro x h1
  rw [World.putObj_heap_other (by omega)]
  exact (r.keep x (by omega) (by omega)).trans (h.keep x h1)
 ·exact ⟨r.rest.1.trans h.rest.1, r.rest.2.1.trans h.rest.2.1, r.rest.2.2.trans h.rest.2.2⟩
 ·rw [World.putObj_size]; omega
 ·rw [World.putObj_heap_other (by omega)]
  exact (r.keep _ (by omega) (by omega)).trans h.res
 ·rw [World.putObj_heap_other (by omega)]
  exact (r.keep _ (by omega) (by omega)).trans h.defers
 ·exact World.putObj_heap_same (by omega)
theorem InRound.ret {w : World} {rc : Loop} {o : Obj} {W W2 : World} {P : Program} (h : InLoop w rc .ready none 0 W) (r : InRound w rc o W W2) :
  ∃ W', (Instr.endRound (w.heap.size + 3) (some .ret)).run P (W2.setCell ⟨w.heap.size + 1, 0, none⟩ (.int .i64 20)) = .ok (.bool false) W' ∧ (∀ x, w.heap.size + 4 ≤ x → x < W.heap.size → W'.heap[x]? = W.heap[x]?) ∧ W.heap.size ≤ W'.heap.size ∧ InLoop w rc .done (some .ret) 20 W' := by
 have hsz := h.size
 have hs := r.size
 have hr : (W2.setCell ⟨w.heap.size + 1, 0, none⟩ (.int .i64 20)).heap[w.heap.size + 1]? = some (.cells #[.int .i64 20] 37 (0, 0)) := one_setCell ((r.keep _ (by omega) (by omega)).trans h.res)
 have ho : ∀ x, x ≠ w.heap.size + 1 → (W2.setCell ⟨w.heap.size + 1, 0, none⟩ (.int .i64 20)).heap[x]? = W2.heap[x]? := fun x hx => Below.heap_setCell _ _ _ _ hx
 have hz : (W2.setCell ⟨w.heap.size + 1, 0, none⟩ (.int .i64 20)).heap.size = W2.heap.size := by simp
 have hl := (ho (w.heap.size + 3) (by omega)).trans r.loop
 refine ⟨_, run_endRound (some .ret) hl, ?_, ?_, ?_, ?_, ?_, ?_, ?_, ?_⟩
 ·intro x h1 h2
  rw [World.putObj_heap_other (by omega), ho _ (by omega)]
  exact r.keep x (by omega) h2
 ·rw [World.putObj_size]; omega
 ·intro x h1
  rw [World.putObj_heap_other (by omega), ho _ (by omega)]
  exact (r.keep x (by omega) (by omega)).trans (h.keep x h1)
 ·exact ⟨r.rest.1.trans h.rest.1, r.rest.2.1.trans h.rest.2.1, r.rest.2.2.trans h.rest.2.2⟩
 ·rw [World.putObj_size]; omega
 ·rw [World.putObj_heap_other (by omega)]
  exact hr
 ·rw [World.putObj_heap_other (by omega), ho _ (by omega)]
  exact (r.keep _ (by omega) (by omega)).trans h.defers
 ·exact World.putObj_heap_same (by omega)
attribute [local go_sem] Oper.semAt_some
theorem conf_calls (lg th po wt sp yi : Int) (sg : Bool) (w : World) : Calls Tryz.prog 21 #[.agg #[.int .i64 lg, .int .i64 th, .int .i64 po, .int .i64 wt, .int .i64 sp, .int .i64 yi, .bool sg]] w
  fun e w' => e = .returned (.int .i64 (confE lg th po wt sp yi)) ∧ (∀ x, x < w.heap.size → w'.heap[x]? = w.heap[x]?) ∧ w.heap.size ≤ w'.heap.size ∧ Rest w w' := by
 refine (callsIn_wide (n := 9)).1 ?_
 refine callsIn_of_wp_marks Tryz.func21 rfl trivial ?_ rfl
 simp only [Tryz.ntmps21, List.size_toArray, List.length_cons, List.length_nil, Nat.reduceAdd, Nat.reduceSub, Array.replicate_succ, Array.replicate_zero, List.push_toArray, List.append_toArray, List.nil_append, List.cons_append]
 gi_wp2
 obtain ⟨cf, hcf⟩ : ∃ cf : Value, cf = .agg #[.int .i64 lg, .int .i64 th, .int .i64 po, .int .i64 wt, .int .i64 sp, .int .i64 yi, .bool sg] := ⟨_, rfl⟩
 rw [← hcf]
 refine wpIn_rangeFunc ?_
 intro fn _
 refine ⟨_, _, _, { target := .fn (.func 48) #[], args := #[cf, .func (.yield (w.heap.size + 3)) #[] #[]] }, ?_, 48, #[cf, .func (.yield (w.heap.size + 3)) #[] #[]], ?_, run_enterLoop_outer _ _ _ _ _, ?_⟩
 rotate_left 2
 refine ⟨?_, fun _ _ => trivial, ?_, fun h => (by cases h), ?_⟩
 ·simp only [resolve, rangeCall]
  simp [go_sem]
  rfl
 ·simp [invoke, go_sem]
  rfl
 subst hcf
 refine (conf_bounds lg th po wt sp yi sg w _ _ _ rfl ?_ ?_).mono ?_
 ·obtain ⟨q1, q2, q3, q4, q5⟩ := four_push w.heap (Obj.cells #[.int .i64 lg, .int .i64 th, .int .i64 po, .int .i64 wt, .int .i64 sp, .int .i64 yi, .bool sg] 23) (Obj.cells #[.int .i64 0] 37) (.deferred (some [])) _
  exact ⟨q1, ⟨rfl, rfl, rfl⟩, Nat.le_of_eq q2.symm, q3, q4, q5⟩
 ·intro W x a b h m
  refine roundIn_of_wpIn trivial ?_
  simp only [List.zip_toArray, List.zip_cons_cons, List.zip_nil_right, List.foldl_toArray, List.foldl_cons, List.foldl_nil]
  gi_wp2
  have hsz := h.size
  obtain ⟨W2, hb2, r⟩ := h.busy (P := Tryz.prog) (Obj.cells #[.int .i64 a, .int .i64 b] 97)
  refine ⟨W2, hb2, ?_⟩
  have k3 := r.new
  have k5 := (r.keep _ (by omega) (by omega)).trans h.res
  have s0 : W2.cell? ⟨W.heap.size, 0, none⟩ = some (.int .i64 a) := by rw [cell_of_arr k3]; rfl
  have s1 : W2.cell? ⟨W.heap.size, 1, none⟩ = some (.int .i64 b) := by rw [cell_of_arr k3]; rfl
  have r0 : W2.cell? ⟨w.heap.size + 1, 0, none⟩ = some (.int .i64 0) := by rw [cell_of_arr k5]; rfl
  have r1 : W2.frozen? ⟨w.heap.size + 1, 0, none⟩ = false := by simp [World.frozen?, k5]
  gi_wp2
  all_goals first
   | (obtain ⟨W', e1, e2, e3, e4⟩ := InRound.ret (P := Tryz.prog) h r; exact ⟨_, W', e1, false, rfl, e2, e3, .inr ⟨rfl, by omega, e4⟩⟩)
   | (obtain ⟨W', e1, e2, e3, e4⟩ := InRound.normal (P := Tryz.prog) h r; exact ⟨_, W', e1, true, rfl, e2, e3, .inl ⟨rfl, by omega, e4⟩⟩)
   | (obtain ⟨W', e1, e2, e3, e4⟩ := InRound.ret (P := Tryz.prog) h r; exact ⟨_, W', e1, .inl ⟨rfl, e2, e3, by omega, e4⟩⟩)
   | (obtain ⟨W', e1, e2, e3, e4⟩ := InRound.normal (P := Tryz.prog) h r; exact ⟨_, W', e1, .inr ⟨rfl, e2, e3, by omega, e4⟩⟩)
 ·rintro e w' ⟨⟨v, rfl⟩, (⟨hc, h⟩ | ⟨hc, h⟩)⟩
  ·obtain ⟨W3, hend, hA⟩ := h.left (by simp) (P := Tryz.prog)
   refine ⟨_, W3, by rw [World.size_alloc, World.size_alloc]; exact hend, ?_⟩
   clear h hend
   have hsize := hA.size
   have r0 : W3.cell? ⟨w.heap.size + 1, 0, none⟩ = some (.int .i64 0) := (cell_of_arr hA.res 0).trans rfl
   have r1 : W3.frozen? ⟨w.heap.size + 1, 0, none⟩ = false := by simp [World.frozen?, hA.res]
   dsimp only
   gi_wp2
   have hB : Left w 0 (W3.setCell ⟨w.heap.size + 1, 0, none⟩ (.int .i64 0)) := by
    have ho : ∀ x, x ≠ w.heap.size + 1 → (W3.setCell ⟨w.heap.size + 1, 0, none⟩ (.int .i64 0)).heap[x]? = W3.heap[x]? := fun x hx => Below.heap_setCell _ _ _ _ hx
    exact ⟨fun x hx => (ho x (by omega)).trans (hA.keep x hx), hA.rest, by simpa using hA.size, one_setCell hA.res, (ho _ (by omega)).trans hA.defers⟩
   refine ⟨by simp, .inl ⟨_, _, rfl, by rw [World.size_alloc, World.size_alloc]; exact run_takeDeferred hB.defers, ?_⟩⟩
   obtain ⟨q1, q2, q3, q4⟩ := hB.fin
   refine ⟨_, conf_results rfl q1, ?_, q2, q3, q4⟩
   unfold triesOf at hc
   unfold confE
   rw [if_pos hc]
  ·obtain ⟨W3, hend, hA⟩ := h.left (by simp) (P := Tryz.prog)
   refine ⟨_, W3, by rw [World.size_alloc, World.size_alloc]; exact hend, ?_⟩
   clear h hend
   dsimp only
   gi_wp2
   refine ⟨by simp, .inl ⟨_, _, rfl, by rw [World.size_alloc, World.size_alloc]; exact run_takeDeferred hA.defers, ?_⟩⟩
   obtain ⟨q1, q2, q3, q4⟩ := hA.fin
   refine ⟨_, conf_results rfl q1, ?_, q2, q3, q4⟩
   unfold triesOf at hc
   unfold confE
   rw [if_neg hc]
def Fconf : Pure1 := fun
 | [.agg [.int .i64 lg, .int .i64 th, .int .i64 po, .int .i64 wt, .int .i64 sp, .int .i64 yi, .bool sg]] => some (none, .int .i64 (confE lg th po wt sp yi))
 | _ => none
theorem ok_conf : PureOK Tryz.prog 21 Fconf := by
 refine ⟨enters_of (by kernel_rfl), fun c xs vs b r h1 h2 h3 h4 h5 => ?_⟩
 unfold Fconf at h4
 split at h4
 ·cases h4
  obtain ⟨vs⟩ := vs
  match vs, h3 with
  | [v], h3 =>
   obtain ⟨⟨ws, rfl, h3⟩, _⟩ := h3
   obtain ⟨ws⟩ := ws
   match ws, h3 with
   | [_, _, _, _, _, _, _], ⟨e1, e2, e3, e4, e5, e6, e7, _⟩ =>
    cases e1; cases e2; cases e3; cases e4; cases e5; cases e6; cases e7
    refine Calls.mono (conf_calls _ _ _ _ _ _ _ c.w) ?_
    rintro e w' ⟨rfl, hk, hs, hr⟩
    refine ⟨_, ⟨w', c.π, c.S⟩, [], rfl, rfl, ⟨fun _ _ h => h, fun _ h => h, fun x hx => hk x (h1 x hx), hs, hr⟩, hk, fun x hx => ⟨.inl hx, Nat.lt_of_lt_of_le (h1 x hx) hs⟩, ?_, ?_, ?_⟩
    ·simp [Gives, GiveCells, GiveLeaf, Rel]
    ·simp [Apart]
    ·simp [NewAt]
 ·cases h4
def tabK0 : List (FuncId × Pure1) := [(21, Fconf)]
theorem ok_tabK0 : ∀ p ∈ tabK0, PureOK Tryz.prog p.1 p.2 := by
 intro p hp
 simp only [tabK0, List.mem_cons, List.not_mem_nil, or_false] at hp
 rcases hp with rfl
 ·exact ok_conf
end Go.Own
end
section
namespace Go.Own
open Go Go.Proofs
set_option maxRecDepth 100000
def roomOf (lg th po wt sp yi : Int) : Int := if confE lg th po wt sp yi = 0 then 2 ^ lg.toNat else 0
def amOk (th : Int) (ll : List (List Int)) : Bool := ll.all fun l => lineOk l && decide (amBadAt th l 0 < 0)
def stOk (lg th po wt sp yi hd tl md : Int) (ns : Nat) (ss : List Int) (n1 : Nat) (l1 : List Int) (n2 : Nat) (l2 : List Int) (fe : Int) (n3 : Nat) (l3 : List Int) (ee : Int) (n4 : Nat) (l4 : List Int) (now : Int) (nt : Nat) (st kd un pc rg sn tr : List Int) (lt : List Bool) (rs : List Int) : Bool :=
 decide (roomOf lg th po wt sp yi ≠ 0) && wordOk hd tl md (roomOf lg th po wt sp yi) && decide ((ns : Int) = roomOf lg th po wt sp yi) && slotsOk ns ss && amOk th [l1, l2, l3, l4] && evOk fe l3 && evOk ee l4 && decide (0 ≤ now ∧ now ≤ 1099511627776 ∧ (nt : Int) = th) && decide (badThAt nt st kd un pc rg sn tr lt rs 0 < 0)
def amFrom (th : Int) (ll : List (List Int)) (i : Int) : Bool := amOk th (ll.drop i.toNat)
def fewL (ll : List (List Int)) : Bool := ll.all fun l => decide (l.length ≤ 17592186044416)
def fewB (ns n1 n2 n3 n4 nt nl : Nat) : Bool := decide (ns ≤ 1000000 ∧ n1 ≤ 1000000 ∧ n2 ≤ 1000000 ∧ n3 ≤ 1000000 ∧ n4 ≤ 1000000 ∧ nt ≤ 1000000 ∧ nl ≤ 1000000)
def wideB (ns n1 n2 n3 n4 nt nl : Nat) : Bool := decide (ns ≤ 8796093022208 ∧ n1 ≤ 17592186044416 ∧ n2 ≤ 17592186044416 ∧ n3 ≤ 17592186044416 ∧ n4 ≤ 17592186044416 ∧ nt ≤ 1599289640401 ∧ nl ≤ 3518437208883)
def Fidx2 : Pure1 := fun xs => match FindexBad xs with
 | some x => some x
 | none => FidxAm xs
theorem ok_idx2 : PureOK Tryz.prog 109 Fidx2 := by
 refine ⟨ok_indexBad.1, fun c xs vs b r h1 h2 h3 h4 h5 => ?_⟩
 unfold Fidx2 at h4
 split at h4
 ·rename_i x hx
  cases h4
  exact ok_indexBad.2 c xs vs _ _ h1 h2 h3 hx h5
 ·exact ok_idxAm.2 c xs vs b r h1 h2 h3 h4 h5
def Froom : Pure1 := fun
 | [.agg [.int .i64 lg, .int .i64 th, .int .i64 po, .int .i64 wt, .int .i64 sp, .int .i64 yi, .bool sg]] => some (none, .int .i64 (roomOf lg th po wt sp yi))
 | _ => none
theorem vc_room (lg th po wt sp yi : Int) (sg : Bool) (r : AV) : VC Tryz.prog (tabS tabK0) noL false 23 [.agg [.int .i64 lg, .int .i64 th, .int .i64 po, .int .i64 wt, .int .i64 sp, .int .i64 yi, .bool sg]] r = (
 br (ine (confE lg th po wt sp yi) 0) (some (AV.int .i64 0) = some r) (asrt (ile 0 lg) (some (AV.int .i64 (ishl .i64 1 lg)) = some r))) := by kernel_rfl
theorem ok_room : PureOK Tryz.prog 23 Froom := by
 refine tab_plain mixed (l := tabK0) ok_tabK0 false (by kernel_rfl) fun xs b r h hb wf => ?_
 unfold Froom at h
 split at h
 ·rename_i lg th po wt sp yi sg
  cases h
  try rw [some_f] at hb
  try simp only [WFL, WF, List.mem_cons, List.not_mem_nil, or_false, forall_eq_or_imp, forall_eq, Col.len, and_true, true_and] at wf
  rw [vc_room]
  have hlg : confE lg th po wt sp yi = 0 → 1 ≤ lg ∧ lg ≤ 6 := by
   unfold confE
   split
   ·intro _; omega
   ·intro h; omega
  by_cases c : confE lg th po wt sp yi = 0
  ·obtain ⟨q1, q2⟩ := hlg c
   have e : ishl .i64 1 lg = 2 ^ lg.toNat := by
    have : lg = 1 ∨ lg = 2 ∨ lg = 3 ∨ lg = 4 ∨ lg = 5 ∨ lg = 6 := by omega
    rcases this with rfl | rfl | rfl | rfl | rfl | rfl <;> rfl
   simp [owl, roomOf, c, e]
   omega
  ·simp [owl, roomOf, c]
 ·cases h
def tabK1 : List (FuncId × Pure1) := [(68, FcloneSlot), (70, FcloneTh), (71, FcloneLog), (69, FcloneW), (23, Froom), (109, Fidx2), (89, FcheckW), (63, FposCheck), (64, FslotChk), (66, FevCheckW), (91, FidxTh)]
theorem ok_tabK1 : ∀ p ∈ tabK1, PureOK Tryz.prog p.1 p.2 := by
 intro p hp
 simp only [tabK1, List.mem_cons, List.not_mem_nil, or_false] at hp
 rcases hp with rfl | rfl | rfl | rfl | rfl | rfl | rfl | rfl | rfl | rfl | rfl
 ·exact ok_cloneSlot
 ·exact ok_cloneTh
 ·exact ok_cloneLog
 ·exact ok_cloneW
 ·exact ok_room
 ·exact ok_idx2
 ·exact ok_checkW
 ·exact ok_posCheck
 ·exact ok_slotChk
 ·exact ok_evCheckW
 ·exact ok_idxTh
def spec_among : LoopSpec := { n := 24, keep := [2, 5, 9, 10, 11], srcs := [.tmp 2], keepE := [4], srcsE := [], goes := fun vals objs Q => match vals, objs with
 | [.ptr 0 0 0, .fn (.func 88) [] [.ptr 0 0 0], .sl n [.ints .i64 ll], .int .i64 m, .int .i64 i], [some (.var [.int .i64 th])] => asrt (band (fewL ll) (band (nle n 1000000) (band (ieq m (ofN n)) (band (ile 0 i) (ile i (ofN n)))))) (br (amFrom th ll i) (Q (.exit 0) [.top] []) (Q .ret [.bool false] []))
 | _, _ => False }
theorem lp_among (n : Nat) (ll : List (List Int)) (m i : Int) (th : Int) (mu : List AV → Heap → Nat) (Q : Ex → List AV → Heap → Prop) : runCode Tryz.prog (tabS tabK1) (callN Tryz.prog (tabS tabK1) noL 11) (fun _ => none) (bodyOf Tryz.prog 65 0) 0 ⟨mkT (spec_among).keep [.ptr 0 0 0, .fn (.func 88) [] [.ptr 0 0 0], .sl n [.ints .i64 ll], .int .i64 m, .int .i64 i] (spec_among).n 0, [some (.var [.int .i64 th])]⟩ ((spec_among).ends mu [.ptr 0 0 0, .fn (.func 88) [] [.ptr 0 0 0], .sl n [.ints .i64 ll], .int .i64 m, .int .i64 i] ([some (.var [.int .i64 th])]) Q) = (
 br (ilt i m) (asrt (band (ile 0 i) (ilt i (ofN n))) (asrt (nle (lenI (gL ll (nOf i))) big) (br (bnot (bnot (lineOk (gL ll (nOf i))))) (asrt (nle (lenI (gL ll (nOf i))) big) (br (ige
 (amBadAt th (gL ll (nOf i)) 0) 0) (Q Ex.ret [AV.bool false] []) ((mu [AV.ptr 0 0 0, AV.fn (Fn.func 88) [] [AV.ptr 0 0 0], AV.sl n [Col.ints .i64 ll], AV.int .i64 m, AV.int .i64
 (iadd .i64 i 1)] [some (AObj.var [AV.int .i64 th])]).succ.le (mu [AV.ptr 0 0 0, AV.fn (Fn.func 88) [] [AV.ptr 0 0 0], AV.sl n [Col.ints .i64 ll], AV.int .i64 m, AV.int .i64 i] [some
 (AObj.var [AV.int .i64 th])]) ∧ asrt (band (fewL ll) (band (nle n 1000000) (band (ieq m (ofN n)) (band (ile 0 (iadd .i64 i 1)) (ile (iadd .i64 i 1) (ofN n)))))) (br (amFrom th ll
 (iadd .i64 i 1)) (Q (Ex.exit 0) [AV.top] []) (Q Ex.ret [AV.bool false] []))))) (Q Ex.ret [AV.bool false] [])))) (Q (Ex.exit 0) [AV.top] [])) := by kernel_rfl
theorem loop_among : LoopOK Tryz.prog (bodyOf Tryz.prog 65 0) spec_among.summ := by
 refine tab_loop mixed (l := tabK1) ok_tabK1 (i := 0) spec_among (fun vals objs => match vals, objs with
  | [.ptr 0 0 0, .fn (.func 88) [] [.ptr 0 0 0], .sl n [.ints .i64 ll], .int .i64 m, .int .i64 i], [some (.var [.int .i64 th])] => (m - i).toNat
  | _, _ => 0) fun vals objs Q h1 h2 wf wo hg => ?_
 unfold spec_among at hg
 simp only at hg
 split at hg
 ·rename_i n ll m i th
  clear h1 h2
  try simp only [WFL, WF, List.mem_cons, List.not_mem_nil, or_false, forall_eq_or_imp, forall_eq, Col.len, and_true, true_and] at wf
  rw [lp_among]
  have hl : ll.length = n := by simpa using wf
  simp only [asrt_iff, band_t, nle_t, ieq_t, ile_t, ofN_e] at hg
  obtain ⟨⟨hf, hb, rfl, h0, hn⟩, hg⟩ := hg
  obtain ⟨k, rfl⟩ := Int.eq_ofNat_of_zero_le h0
  simp at hn
  have hw : IntKind.i64.wrap ((k : Int) + 1) = (k : Int) + 1 := wr (by omega) (by omega)
  have e1 : (k : Int).toNat = k := by omega
  have e2 : ((k : Int) + 1).toNat = k + 1 := by omega
  rw [br_iff, ilt_t, ilt_f]
  refine ⟨fun hk => ?_, fun hk => ?_⟩
  ·have hkl : k < ll.length := by omega
   have gl : gL ll (nOf (k : Int)) = ll[k] := by simp [gL, nOf_e, List.getD, hkl]
   have am : amFrom th ll (k : Int) = ((lineOk ll[k] && decide (amBadAt th ll[k] 0 < 0)) && amFrom th ll ((k : Int) + 1)) := by
    unfold amFrom amOk
    rw [e1, e2, List.drop_eq_getElem_cons hkl, List.all_cons]
   have fl : ll[k].length ≤ 17592186044416 := by
    have := List.all_eq_true.1 hf ll[k] (List.getElem_mem hkl)
    simpa using this
   have fb : ll[k].length ≤ big := le_bigW fl
   rw [gl]
   rw [am] at hg
   simp [owl, hw, fb, hf, hb] at hg ⊢
   refine ⟨by omega, fun h1 => ⟨fun h2 => ?_, fun h2 => ⟨by omega, by omega, fun h3 => ?_, fun h3 => ?_⟩⟩, fun h1 => ?_⟩ <;> grind
  ·have am : amFrom th ll (k : Int) = true := by
    unfold amFrom amOk
    rw [e1, List.drop_eq_nil_of_le (by omega)]
    rfl
   rw [am] at hg
   simpa [owl] using hg
 ·exact hg.elim
def Lamong : Nat → Option LoopS := fun i => match i with
 | 0 => some (.summ spec_among.summ)
 | _ => none
theorem ok_Lamong : ∀ i x, Lamong i = some x → LoopHyp Tryz.prog 65 i x := by
 intro i s h
 unfold Lamong at h
 split at h
 ·cases h; exact ⟨by kernel_rfl, loop_among⟩
 ·cases h
def Famong : Pure1 := fun
 | [.int .i64 th, .sl n [.ints .i64 ll]] => some (some (band (fewL ll) (nle n 1000000)), .bool (amOk th ll))
 | _ => none
theorem vc_among (th : Int) (n : Nat) (ll : List (List Int)) (r : AV) : VC Tryz.prog (tabS tabK1) (oneL 65 Lamong) false 65 [.int .i64 th, .sl n [.ints .i64 ll]] r = (
 asrt (band (fewL ll) (band (nle n 1000000) (band (ieq (ofN n) (ofN n)) (ile 0 (ofN n))))) (br (amFrom th ll 0) (some (AV.bool true) = some r) (some (AV.bool false) = some r))) := by kernel_rfl
theorem ok_among : PureOK Tryz.prog 65 Famong := by
 refine tab_loops mixed (l := tabK1) ok_tabK1 false Lamong (by kernel_rfl) ok_Lamong fun xs b r h hb wf => ?_
 unfold Famong at h
 split at h
 ·rename_i th n ll
  cases h
  try rw [some_f] at hb
  try simp only [WFL, WF, List.mem_cons, List.not_mem_nil, or_false, forall_eq_or_imp, forall_eq, Col.len, and_true, true_and] at wf
  rw [vc_among]
  have e : amFrom th ll 0 = amOk th ll := by simp [amFrom]
  simp [owl, e] at hb ⊢
  exact hb
 ·cases h
structure SR where
 lg : Int
 th : Int
 po : Int
 wt : Int
 sp : Int
 yi : Int
 sg : Bool
 hd : Int
 tl : Int
 md : Int
 ns : Nat
 ss : List Int
 sv : List Int
 n1 : Nat
 l1 : List Int
 n2 : Nat
 l2 : List Int
 fe : Int
 n3 : Nat
 l3 : List Int
 ee : Int
 n4 : Nat
 l4 : List Int
 now : Int
 nt : Nat
 st : List Int
 kd : List Int
 vl : List Int
 un : List Int
 pc : List Int
 rg : List Int
 sn : List Int
 tr : List Int
 lt : List Bool
 rs : List Int
 gt : List Int
 nl : Nat
 c0 : List Int
 ks : List Int
 vs : List Int
 rr : List Int
 gs : List Int
 deriving DecidableEq
def SR.cells (s : SR) : List AV := [.int .i64 s.lg, .int .i64 s.th, .int .i64 s.po, .int .i64 s.wt, .int .i64 s.sp, .int .i64 s.yi, .bool s.sg, .int .i64 s.hd, .int .i64 s.tl, .int .i64 s.md, .sl s.ns [.int .i64 s.ss, .int .i64 s.sv], .sl s.n1 [.int .i64 s.l1], .sl s.n2 [.int .i64 s.l2], .int .i64 s.fe, .sl s.n3 [.int .i64 s.l3], .int .i64 s.ee, .sl s.n4 [.int .i64 s.l4], .int .i64 s.now, .sl s.nt [.int .i64 s.st, .int .i64 s.kd, .int .i64 s.vl, .int .i64 s.un, .int .i64 s.pc, .int .i64 s.rg, .int .i64 s.sn, .int .i64 s.tr, .bool s.lt, .int .i64 s.rs, .int .i64 s.gt], .sl s.nl [.int .i64 s.c0, .int .i64 s.ks, .int .i64 s.vs, .int .i64 s.rr, .int .i64 s.gs]]
def SR.nw (s : SR) : List AV := [.int .i64 s.lg, .int .i64 s.th, .int .i64 s.po, .int .i64 s.wt, .int .i64 s.sp, .int .i64 s.yi, .bool s.sg, .int .i64 s.hd, .int .i64 s.tl, .int .i64 s.md, .own 88 s.ns [.int .i64 s.ss, .int .i64 s.sv], .own 3 s.n1 [.int .i64 s.l1], .own 3 s.n2 [.int .i64 s.l2], .int .i64 s.fe, .own 3 s.n3 [.int .i64 s.l3], .int .i64 s.ee, .own 3 s.n4 [.int .i64 s.l4], .int .i64 s.now, .own 51 s.nt [.int .i64 s.st, .int .i64 s.kd, .int .i64 s.vl, .int .i64 s.un, .int .i64 s.pc, .int .i64 s.rg, .int .i64 s.sn, .int .i64 s.tr, .bool s.lt, .int .i64 s.rs, .int .i64 s.gt], .own 53 s.nl [.int .i64 s.c0, .int .i64 s.ks, .int .i64 s.vs, .int .i64 s.rr, .int .i64 s.gs]]
def SR.cl (s : SR) : List AV := [.int .i64 s.lg, .int .i64 s.th, .int .i64 s.po, .int .i64 s.wt, .int .i64 s.sp, .int .i64 s.yi, .bool s.sg, .int .i64 s.hd, .int .i64 s.tl, .int .i64 s.md, .sl s.ns [.int .i64 s.ss, .int .i64 s.sv], .sl s.n1 [.int .i64 s.l1], .sl s.n2 [.int .i64 s.l2], .int .i64 s.fe, .sl s.n3 [.int .i64 s.l3], .int .i64 s.ee, .sl s.n4 [.int .i64 s.l4], .int .i64 s.now, .sl s.nt [.int .i64 s.st, .int .i64 s.kd, .int .i64 s.vl, .int .i64 s.un, .int .i64 s.pc, .int .i64 s.rg, .int .i64 s.sn, .int .i64 s.tr, .bool s.lt, .int .i64 s.rs, .int .i64 s.gt], .sl s.nl [.int .i64 s.c0, .int .i64 s.ks, .int .i64 s.vs, .int .i64 s.rr, .int .i64 s.gs]]
def SR.av (s : SR) : AV := .agg s.cells
def SR.new (s : SR) : AV := .agg [.int .i64 s.lg, .int .i64 s.th, .int .i64 s.po, .int .i64 s.wt, .int .i64 s.sp, .int .i64 s.yi, .bool s.sg, .int .i64 s.hd, .int .i64 s.tl, .int .i64 s.md, .own 88 s.ns [.int .i64 s.ss, .int .i64 s.sv], .own 3 s.n1 [.int .i64 s.l1], .own 3 s.n2 [.int .i64 s.l2], .int .i64 s.fe, .own 3 s.n3 [.int .i64 s.l3], .int .i64 s.ee, .own 3 s.n4 [.int .i64 s.l4], .int .i64 s.now, .own 51 s.nt [.int .i64 s.st, .int .i64 s.kd, .int .i64 s.vl, .int .i64 s.un, .int .i64 s.pc, .int .i64 s.rg, .int .i64 s.sn, .int .i64 s.tr, .bool s.lt, .int .i64 s.rs, .int .i64 s.gt], .own 53 s.nl [.int .i64 s.c0, .int .i64 s.ks, .int .i64 s.vs, .int .i64 s.rr, .int .i64 s.gs]]
def asSR : AV → Option SR
 | .agg [.int .i64 lg, .int .i64 th, .int .i64 po, .int .i64 wt, .int .i64 sp, .int .i64 yi, .bool sg, .int .i64 hd, .int .i64 tl, .int .i64 md, .sl ns [.int .i64 ss, .int .i64 sv], .sl n1 [.int .i64 l1], .sl n2 [.int .i64 l2], .int .i64 fe, .sl n3 [.int .i64 l3], .int .i64 ee, .sl n4 [.int .i64 l4], .int .i64 now, .sl nt [.int .i64 st, .int .i64 kd, .int .i64 vl, .int .i64 un, .int .i64 pc, .int .i64 rg, .int .i64 sn, .int .i64 tr, .bool lt, .int .i64 rs, .int .i64 gt], .sl nl [.int .i64 c0, .int .i64 ks, .int .i64 vs, .int .i64 rr, .int .i64 gs]] => some ⟨lg, th, po, wt, sp, yi, sg, hd, tl, md, ns, ss, sv, n1, l1, n2, l2, fe, n3, l3, ee, n4, l4, now, nt, st, kd, vl, un, pc, rg, sn, tr, lt, rs, gt, nl, c0, ks, vs, rr, gs⟩
 | _ => none
theorem asSR_some {a : AV} {s : SR} (h : asSR a = some s) : a = s.av := by
 unfold asSR at h
 split at h
 ·cases h; rfl
 ·cases h
theorem cells_of {cs : List AV} {s : SR} (h : asSR (.agg cs) = some s) : cs = s.cells := by
 have := asSR_some h
 simp only [SR.av, AV.agg.injEq] at this
 exact this
theorem asSR_cases {a : AV} {X : SR → Prop} (h : match asSR a with | some s => X s | none => False) : ∃ s, asSR a = some s := by
 cases h' : asSR a with
 | some s => exact ⟨s, rfl⟩
 | none => rw [h'] at h; exact h.elim
def SR.ok (s : SR) : Bool := stOk s.lg s.th s.po s.wt s.sp s.yi s.hd s.tl s.md s.ns s.ss s.n1 s.l1 s.n2 s.l2 s.fe s.n3 s.l3 s.ee s.n4 s.l4 s.now s.nt s.st s.kd s.un s.pc s.rg s.sn s.tr s.lt s.rs
def SR.few (s : SR) : Bool := fewB s.ns s.n1 s.n2 s.n3 s.n4 s.nt s.nl
def SR.fit (s : SR) : Bool := in64 s.hd s.tl && fewB s.ns s.n1 s.n2 s.n3 s.n4 s.nt s.nl
def SR.wid (s : SR) : Bool := wideB s.ns s.n1 s.n2 s.n3 s.n4 s.nt s.nl
def SR.fitW (s : SR) : Bool := in64 s.hd s.tl && wideB s.ns s.n1 s.n2 s.n3 s.n4 s.nt s.nl
theorem SR.fitW_fit {s : SR} (h : s.fit = true) : s.fitW = true := by
 simp only [SR.fit, fewB, SR.fitW, wideB, Bool.and_eq_true, decide_eq_true_eq] at h ⊢
 exact ⟨h.1, by omega⟩
theorem SR.wid_fitW {s : SR} (h : s.fitW = true) : s.wid = true := by
 simp only [SR.fitW, Bool.and_eq_true] at h
 exact h.2
theorem SR.wid_fit {s : SR} (h : s.fit = true) : s.wid = true := SR.wid_fitW (SR.fitW_fit h)
structure SR.rows (s : SR) : Prop where
 ss : s.ss.length = s.ns
 sv : s.sv.length = s.ns
 l1 : s.l1.length = s.n1
 l2 : s.l2.length = s.n2
 l3 : s.l3.length = s.n3
 l4 : s.l4.length = s.n4
 st : s.st.length = s.nt
 kd : s.kd.length = s.nt
 vl : s.vl.length = s.nt
 un : s.un.length = s.nt
 pc : s.pc.length = s.nt
 rg : s.rg.length = s.nt
 sn : s.sn.length = s.nt
 tr : s.tr.length = s.nt
 lt : s.lt.length = s.nt
 rs : s.rs.length = s.nt
 gt : s.gt.length = s.nt
 c0 : s.c0.length = s.nl
 ks : s.ks.length = s.nl
 vs : s.vs.length = s.nl
 rr : s.rr.length = s.nl
 gs : s.gs.length = s.nl
theorem wf_av (s : SR) : WF s.av ↔ s.rows := by
 simp only [SR.av, SR.cells, WF, WFL, List.mem_cons, List.not_mem_nil, or_false, forall_eq_or_imp, forall_eq, Col.len, and_true, true_and]
 constructor
 ·rintro ⟨⟨h1, h2⟩, h3, h4, h5, h6, ⟨h7, h8, h9, h10, h11, h12, h13, h14, h15, h16, h17⟩, h18, h19, h20, h21, h22⟩
  exact ⟨h1, h2, h3, h4, h5, h6, h7, h8, h9, h10, h11, h12, h13, h14, h15, h16, h17, h18, h19, h20, h21, h22⟩
 ·rintro ⟨h1, h2, h3, h4, h5, h6, h7, h8, h9, h10, h11, h12, h13, h14, h15, h16, h17, h18, h19, h20, h21, h22⟩
  exact ⟨⟨h1, h2⟩, h3, h4, h5, h6, ⟨h7, h8, h9, h10, h11, h12, h13, h14, h15, h16, h17⟩, h18, h19, h20, h21, h22⟩
def Ffown : Pure1 := fun
 | [a_s] => (match asSR a_s with | some s => some (some (SR.wid s), SR.new s) | none => none)
 | _ => none
theorem vc_fown (s : SR) (r : AV) : VC Tryz.prog (tabS tabK1) noL true 35 [s.av] r = (
 asrt (nle s.11 8796093022208) (asrt (nle s.14 17592186044416) (asrt (nle s.16 17592186044416) (asrt (nle s.19 17592186044416) (asrt (nle s.22 17592186044416) (asrt (nle s.25
 1599289640401) (asrt (nle s.37 3518437208883) (some (AV.agg (SR.nw s)) = some r)))))))) := by kernel_rfl
theorem ok_fown : PureOK Tryz.prog 35 Ffown := by
 refine tab_plain mixed (l := tabK1) ok_tabK1 true (by kernel_rfl) fun xs b r h hb wf => ?_
 unfold Ffown at h
 split at h
 ·rename_i a_s
  split at h
  ·rename_i s h_s
   obtain rfl := asSR_some h_s
   cases h
   try rw [some_f] at hb
   simp only [WFL, WF, List.mem_cons, List.not_mem_nil, or_false, forall_eq_or_imp, forall_eq, Col.len, and_true, true_and, wf_av] at wf
   rw [vc_fown]
   dsimp only [SR.nw]
   simp [SR.wid, wideB] at hb
   simp only [asrt_iff, nle_t]
   refine ⟨by omega, by omega, by omega, by omega, by omega, by omega, by omega, rfl⟩
  ·cases h
 ·cases h
def tabK2 : List (FuncId × Pure1) := [(35, Ffown), (65, Famong)] ++ tabK1
theorem ok_tabK2 : ∀ p ∈ tabK2, PureOK Tryz.prog p.1 p.2 := by
 intro p hp
 simp only [tabK2, List.mem_append, List.mem_cons, List.not_mem_nil, or_false] at hp
 rcases hp with (rfl | rfl) | hp
 ·exact ok_fown
 ·exact ok_among
 ·exact ok_tabK1 p hp
def Fchk : Pure1 := fun
 | [a_s] => (match asSR a_s with | some s => some (some (SR.fitW s), .bool (SR.ok s)) | none => none)
 | _ => none
theorem vc_chk (s : SR) (r : AV) : VC Tryz.prog (tabS tabK2) noL false 33 [s.av] r = (
 br (ieq (roomOf s.1 s.2 s.3 s.4 s.5 s.6) 0) (some (AV.bool false) = some r) (asrt (in64 s.8 s.9) (br (bnot (wordOk s.8 s.9 s.10 (roomOf s.1 s.2 s.3 s.4 s.5 s.6))) (some (AV.bool
 false) = some r) (br (ine (ofN s.11) (roomOf s.1 s.2 s.3 s.4 s.5 s.6)) (some (AV.bool false) = some r) (asrt (nle s.11 big) (br (bnot (slotsOk s.11 s.12)) (some (AV.bool false) =
 some r) (asrt (band (fewL [s.15, s.17, s.20, s.23]) true) (br (bnot (amOk s.2 [s.15, s.17, s.20, s.23])) (some (AV.bool false) = some r) (asrt (nle s.19 big) (br (bnot (evOk s.18
 s.20)) (some (AV.bool false) = some r) (asrt (nle s.22 big) (br (bnot (evOk s.21 s.23)) (some (AV.bool false) = some r) (br (ilt s.24 0) (some (AV.bool false) = some r) (br (igt
 s.24 1099511627776) (some (AV.bool false) = some r) (br (ine (ofN s.25) s.2) (some (AV.bool false) = some r) (asrt (nle s.25 big) (br (ige (badThAt s.25 s.26 s.27 s.29 s.30 s.31
 s.32 s.33 s.34 s.35 0) 0) (some (AV.bool false) = some r) (some (AV.bool true) = some r)))))))))))))))))) := by kernel_rfl
theorem ok_chk : PureOK Tryz.prog 33 Fchk := by
 refine tab_plain mixed (l := tabK2) ok_tabK2 false (by kernel_rfl) fun xs b r h hb wf => ?_
 unfold Fchk at h
 split at h
 ·rename_i a_s
  split at h
  ·rename_i s h_s
   obtain rfl := asSR_some h_s
   cases h
   try rw [some_f] at hb
   simp only [WFL, WF, List.mem_cons, List.not_mem_nil, or_false, forall_eq_or_imp, forall_eq, Col.len, and_true, true_and, wf_av] at wf
   rw [vc_chk]
   simp [SR.fitW, wideB] at hb
   obtain ⟨h64, hb⟩ := hb
   have q : ∀ n, n ≤ 17592186044416 → n ≤ big := fun n h => le_bigW h
   have q1 : s.nt ≤ 17592186044416 := by omega
   have q2 : s.ns ≤ 17592186044416 := by omega
   have w1 := wf.l1
   have w2 := wf.l2
   have w3 := wf.l3
   have w4 := wf.l4
   simp [owl, h64, fewL, w1, w2, w3, w4, hb, q, q1, q2]
   unfold SR.ok stOk
   refine ⟨fun h1 => by simp [h1], fun h1 => ⟨fun h2 => by simp [h2], fun h2 => ⟨fun h3 => by simp [h3], fun h3 => ⟨fun h4 => by simp [h4], fun h4 => ⟨fun h5 => by simp [h5], fun h5 => ⟨fun h6 => by simp [h6], fun h6 => ⟨fun h7 => by simp [h7], fun h7 => ?_⟩⟩⟩⟩⟩⟩⟩
   refine ⟨fun a1 => ?_, fun a1 => ⟨fun a2 => ?_, fun a2 => ⟨fun a3 => ?_, fun a3 => ⟨fun a4 => ?_, fun a4 => ?_⟩⟩⟩⟩
   ·have : ¬ (0 ≤ s.now) := by omega
    simp [this]
   ·have : ¬ (s.now ≤ 1099511627776) := by omega
    simp [this]
   ·simp [a3]
   ·rw [decide_eq_false (show ¬ badThAt s.nt s.st s.kd s.un s.pc s.rg s.sn s.tr s.lt s.rs 0 < 0 by omega), Bool.and_false]
   ·simp [h1, h2, h3, h4, h5, h6, h7, a1, a2, a3, a4]
  ·cases h
 ·cases h
def stampsTo (n : Nat) (a : List Int) (i : Nat) : List Int := a.take i ++ ((List.range n).drop i).map Int.ofNat
def stamps0 (n : Nat) : List Int := (List.range n).map Int.ofNat
def slotN (room : Int) : Nat := if 1 ≤ room ∧ room ≤ 64 then room.toNat else 0
def invI (e x y : Int) : Int := if e = 0 then x else y
def invB (e : Int) (y : Bool) : Bool := if e = 0 then false else y
def invU (kind un : Int) : Int := if opTimed kind then un else 0
theorem stampsTo_put {n k : Nat} {a : List Int} (ha : a.length = n) (hk : k < n) : stampsTo n (a.set k (k : Int)) (k + 1) = stampsTo n a k := by
 unfold stampsTo
 have e : ((List.range n).drop k).map Int.ofNat = (k : Int) :: ((List.range n).drop (k + 1)).map Int.ofNat := by
  rw [List.drop_eq_getElem_cons (by simpa using hk)]
  simp
 rw [e]
 apply List.ext_getElem?
 intro x
 simp only [List.getElem?_append, List.length_take, List.length_set, List.getElem?_take, List.getElem?_set, List.getElem?_cons]
 by_cases h1 : x < k
 ·rw [if_pos (by omega), if_pos (by omega), if_neg (by omega), if_pos (by omega), if_pos h1]
 ·by_cases h2 : x = k
  ·subst h2
   rw [if_pos (by omega), if_pos (by omega), if_pos rfl, if_pos (by omega), if_neg (by omega)]
   have : x - min x a.length = 0 := by omega
   rw [this]
   rfl
  ·rw [if_neg (by omega), if_neg (by omega)]
   have e3 : x - min k a.length ≠ 0 := by omega
   have e4 : x - min (k + 1) a.length = x - min k a.length - 1 := by omega
   rw [if_neg e3, e4]
theorem stampsTo_all {n : Nat} {a : List Int} (ha : a.length = n) : stampsTo n a n = a := by
 unfold stampsTo
 rw [List.drop_eq_nil_of_le (by simp), ← ha]
 simp
theorem stampsTo_zero {n : Nat} {a : List Int} : stampsTo n a 0 = stamps0 n := by
 simp [stampsTo, stamps0]
def spec_slotNew : LoopSpec := { n := 25, keep := [3, 14, 15], srcs := [.tmp 3], keepE := [3], srcsE := [.tmp 3], goes := fun vals objs Q => match vals, objs with
 | [.full 0, .int .i64 m, .int .i64 i], [some (.row 88 n [.int .i64 a, .int .i64 b])] => asrt (band (nle n 64) (band (ieq m (ofN n)) (band (ile 0 i) (ile i (ofN n))))) (Q (.exit 0) [.full 0] [some (.row 88 n [.int .i64 (stampsTo n a (nOf i)), .int .i64 b])])
 | _, _ => False }
theorem lp_slotNew (m i : Int) (n : Nat) (a b : List Int) (mu : List AV → Heap → Nat) (Q : Ex → List AV → Heap → Prop) : runCode Tryz.prog (tabS tab0) (callN Tryz.prog (tabS tab0) noL 11) (fun _ => none) (bodyOf Tryz.prog 22 0) 0 ⟨mkT (spec_slotNew).keep [.full 0, .int .i64 m, .int .i64 i] (spec_slotNew).n 0, [some (.row 88 n [.int .i64 a, .int .i64 b])]⟩ ((spec_slotNew).ends mu [.full 0, .int .i64 m, .int .i64 i] ([some (.row 88 n [.int .i64 a, .int .i64 b])]) Q) = (
 br (ilt i m) (asrt (band (ile 0 i) (ilt i (ofN n))) (asrt (nlt (nOf i) n) ((mu [AV.full 0, AV.int .i64 m, AV.int .i64 (iadd .i64 i 1)] [some (AObj.row 88 n [.int .i64 (put a (nOf i)
 i), .int .i64 b])]).succ.le (mu [AV.full 0, AV.int .i64 m, AV.int .i64 i] [some (AObj.row 88 n [.int .i64 a, .int .i64 b])]) ∧ asrt (band (nle n 64) (band (ieq m (ofN n)) (band (ile
 0 (iadd .i64 i 1)) (ile (iadd .i64 i 1) (ofN n))))) (Q (Ex.exit 0) [AV.full 0] [some (AObj.row 88 n [.int .i64 (stampsTo n (put a (nOf i) i) (nOf (iadd .i64 i 1))), .int .i64
 b])])))) (Q (Ex.exit 0) [AV.full 0] [some (AObj.row 88 n [.int .i64 a, .int .i64 b])])) := by kernel_rfl
theorem loop_slotNew : LoopOK Tryz.prog (bodyOf Tryz.prog 22 0) spec_slotNew.summ := by
 refine tab_loop mixed (l := tab0) ok_tab0 (i := 0) spec_slotNew (fun vals objs => match vals, objs with
  | [.full 0, .int .i64 m, .int .i64 i], [some (.row 88 n [.int .i64 a, .int .i64 b])] => (m - i).toNat
  | _, _ => 0) fun vals objs Q h1 h2 wf wo hg => ?_
 unfold spec_slotNew at hg
 simp only at hg
 split at hg
 ·rename_i m i n a b
  clear h1 h2
  try simp only [WFL, WF, List.mem_cons, List.not_mem_nil, or_false, forall_eq_or_imp, forall_eq, Col.len, and_true, true_and] at wf
  rw [lp_slotNew]
  obtain ⟨wa, wb⟩ : a.length = n ∧ b.length = n := by simpa [WFO, Col.len] using wo _ (List.mem_singleton.2 rfl) _ rfl
  simp only [asrt_iff, band_t, nle_t, ieq_t, ile_t, ofN_e] at hg
  obtain ⟨⟨hn, rfl, h0, hi⟩, hg⟩ := hg
  obtain ⟨k, rfl⟩ := Int.eq_ofNat_of_zero_le h0
  have hw : IntKind.i64.wrap ((k : Int) + 1) = (k : Int) + 1 := wr (by omega) (by omega)
  have e1 : (k : Int).toNat = k := by omega
  have e2 : ((k : Int) + 1).toNat = k + 1 := by omega
  simp [owl, SR.fitW_fit, SR.wid_fit, hw, e2] at hg ⊢
  refine ⟨fun hk => ⟨hk, by omega, ⟨hn, by omega, by omega⟩, ?_⟩, fun hk => ?_⟩
  ·rw [stampsTo_put (by omega) hk]
   exact hg
  ·have : k = n := by omega
   subst this
   rw [stampsTo_all wa] at hg
   exact hg
 ·exact hg.elim
def LslotNew : Nat → Option LoopS := fun i => match i with
 | 0 => some (.summ spec_slotNew.summ)
 | _ => none
theorem ok_LslotNew : ∀ i x, LslotNew i = some x → LoopHyp Tryz.prog 22 i x := by
 intro i s h
 unfold LslotNew at h
 split at h
 ·cases h; exact ⟨by kernel_rfl, loop_slotNew⟩
 ·cases h
def FslotNew : Pure1 := fun
 | [.int .i64 room] => some (none, .own 88 (slotN room) [.int .i64 (stamps0 (slotN room)), .int .i64 (rI (slotN room))])
 | _ => none
theorem vc_slotNew (room : Int) (r : AV) : VC Tryz.prog (tabS tab0) (oneL 22 LslotNew) true 22 [.int .i64 room] r = (
 br (bite (ilt room 1) true (igt room 64)) (some (AV.own 88 0 [.int .i64 [], .int .i64 []]) = some r) (asrt (band (ile 0 room) (band (ile room 1073741824) (ieq room room))) (asrt
 (band (nle (nOf room) 64) (band (ieq (ofN (nOf room)) (ofN (nOf room))) (ile 0 (ofN (nOf room))))) (some (AV.own 88 (nOf room) [.int .i64 (stampsTo (nOf room) (rI (nOf room)) 0),
 .int .i64 (rI (nOf room))]) = some r)))) := by kernel_rfl
theorem ok_slotNew : PureOK Tryz.prog 22 FslotNew := by
 refine tab_loops mixed (l := tab0) ok_tab0 true LslotNew (by kernel_rfl) ok_LslotNew fun xs b r h hb wf => ?_
 unfold FslotNew at h
 split at h
 ·rename_i room
  cases h
  try rw [some_f] at hb
  try simp only [WFL, WF, List.mem_cons, List.not_mem_nil, or_false, forall_eq_or_imp, forall_eq, Col.len, and_true, true_and] at wf
  rw [vc_slotNew]
  unfold slotN
  by_cases hc : 1 ≤ room ∧ room ≤ 64
  ·have q1 : ¬ room < 1 := by omega
   have q2 : ¬ room > 64 := by omega
   rw [if_pos hc]
   simp [owl, SR.fitW_fit, SR.wid_fit, q1, q2, stampsTo_zero]
   omega
  ·rw [if_neg hc]
   simp [owl, SR.fitW_fit, SR.wid_fit, stamps0, rI]
   omega
 ·cases h
def FthInvoke : Pure1 := fun
 | [.agg [.int .i64 st, .int .i64 kd, .int .i64 vl, .int .i64 un, .int .i64 pc, .int .i64 rg, .int .i64 sn, .int .i64 tr, .bool lt, .int .i64 rs, .int .i64 gt], .int .i64 kind, .int .i64 val, .int .i64 ut] => some (none, .tup [.agg [.int .i64 (invI (invE st kind ut) 1 st), .int .i64 (invI (invE st kind ut) kind kd), .int .i64 (invI (invE st kind ut) val vl), .int .i64 (invI (invE st kind ut) (invU kind ut) un), .int .i64 (invI (invE st kind ut) 0 pc), .int .i64 (invI (invE st kind ut) 0 rg), .int .i64 (invI (invE st kind ut) 0 sn), .int .i64 (invI (invE st kind ut) 0 tr), .bool (invB (invE st kind ut) lt), .int .i64 (invI (invE st kind ut) 0 rs), .int .i64 (invI (invE st kind ut) 0 gt)], .int .i64 (invE st kind ut)])
 | _ => none
def zq15 (st : Int) (kd : Int) (vl : Int) (un : Int) (pc : Int) (rg : Int) (sn : Int) (tr : Int) (lt : Bool) (rs : Int) (gt : Int) : List AV :=
 [AV.int .i64 st, AV.int .i64 kd, AV.int .i64 vl, AV.int .i64 un, AV.int .i64 pc, AV.int .i64 rg, AV.int .i64 sn, AV.int .i64 tr, AV.bool lt, AV.int .i64 rs, AV.int .i64 gt]
theorem vc_thInvoke (st kd vl un pc rg sn tr : Int) (lt : Bool) (rs gt : Int) (kind val ut : Int) (r : AV) : VC Tryz.prog (tabS tabT3) noL false 38 [.agg [.int .i64 st, .int .i64 kd, .int .i64 vl, .int .i64 un, .int .i64 pc, .int .i64 rg, .int .i64 sn, .int .i64 tr, .bool lt, .int .i64 rs, .int .i64 gt], .int .i64 kind, .int .i64 val, .int .i64 ut] r = (
 br (ine st 0) (some (AV.tup [AV.agg (zq15 st kd vl un pc rg sn tr lt rs gt), AV.int .i64 120]) = some r) (br (bnot (igt (opSide kind) 0)) (some (AV.tup [AV.agg (zq15 st kd vl un pc
 rg sn tr lt rs gt), AV.int .i64 190]) = some r) (br (bite (opTimed kind) (bnot (band (ige ut 0) (ile ut 1099511627776))) false) (some (AV.tup [AV.agg (zq15 st kd vl un pc rg sn tr
 lt rs gt), AV.int .i64 50]) = some r) (br (bnot (opTimed kind)) (some (AV.tup [AV.agg [AV.int .i64 1, AV.int .i64 kind, AV.int .i64 val, AV.int .i64 0, AV.int .i64 0, AV.int .i64 0,
 AV.int .i64 0, AV.int .i64 0, AV.bool false, AV.int .i64 0, AV.int .i64 0], AV.int .i64 0]) = some r) (some (AV.tup [AV.agg [AV.int .i64 1, AV.int .i64 kind, AV.int .i64 val, AV.int
 .i64 ut, AV.int .i64 0, AV.int .i64 0, AV.int .i64 0, AV.int .i64 0, AV.bool false, AV.int .i64 0, AV.int .i64 0], AV.int .i64 0]) = some r))))) := by kernel_rfl
theorem ok_thInvoke : PureOK Tryz.prog 38 FthInvoke := by
 refine tab_plain mixed (l := tabT3) ok_tabT3 false (by kernel_rfl) fun xs b r h hb wf => ?_
 unfold FthInvoke at h
 split at h
 ·rename_i st kd vl un pc rg sn tr lt rs gt kind val ut
  cases h
  try rw [some_f] at hb
  try simp only [WFL, WF, List.mem_cons, List.not_mem_nil, or_false, forall_eq_or_imp, forall_eq, Col.len, and_true, true_and] at wf
  rw [vc_thInvoke]
  dsimp only [zq15]
  simp only [bite_and, bite_or]
  have h0 : 0 ≤ opSide kind := by unfold opSide; repeat' split <;> omega
  by_cases c1 : st = 0 <;> by_cases c2 : opSide kind = 0 <;> by_cases c3 : opTimed kind = true <;> by_cases c4 : 0 ≤ ut ∧ ut ≤ 1099511627776 <;> simp [owl, SR.fitW_fit, SR.wid_fit, invI, invB, invU, invE, c1, c2, c3, c4]
  all_goals first
   | omega
   | grind
 ·cases h
def SR.is (s : SR) (id : Int) : Bool := s.ok && decide (0 ≤ id ∧ id < s.nt)
def wakeSt (x : Int) : Int := if x = 2 then 1 else x
def SR.wake (s : SR) (id : Int) : SR := if s.is id then { s with st := s.st.set id.toNat (wakeSt (s.st.getD id.toNat 0)) } else s
def SR.invE (s : SR) (id kind ut : Int) : Int := if s.ok then (if mayE s.th s.sg id kind = 0 then Go.Own.invE (s.st.getD id.toNat 0) kind ut else mayE s.th s.sg id kind) else 20
def SR.inv (s : SR) (id kind val ut : Int) : SR := if s.invE id kind ut = 0 then { s with st := s.st.set id.toNat 1, kd := s.kd.set id.toNat kind, vl := s.vl.set id.toNat val, un := s.un.set id.toNat (invU kind ut), pc := s.pc.set id.toNat 0, rg := s.rg.set id.toNat 0, sn := s.sn.set id.toNat 0, tr := s.tr.set id.toNat 0, lt := s.lt.set id.toNat false, rs := s.rs.set id.toNat 0, gt := s.gt.set id.toNat 0 } else s
def SR.tell (s : SR) (id kind res got : Int) : SR := if s.is id then { s with rs := if kind = 9 then s.rs else s.rs.set id.toNat res, gt := if kind = 9 then s.gt else s.gt.set id.toNat got, nl := s.nl + 1, c0 := s.c0 ++ [id], ks := s.ks ++ [kind], vs := s.vs ++ [s.vl.getD id.toNat 0], rr := s.rr ++ [res], gs := s.gs ++ [got] } else s
def zeroSR : SR := ⟨0, 0, 0, 0, 0, 0, false, 0, 0, 0, 0, [], [], 0, [], 0, [], 0, 0, [], 0, 0, [], 0, 0, [], [], [], [], [], [], [], [], [], [], [], 0, [], [], [], [], []⟩
def newSR (lg th po wt sp yi : Int) (sg : Bool) : SR := if confE lg th po wt sp yi = 0 then ⟨lg, th, po, wt, sp, yi, sg, 0, 0, 0, slotN (roomOf lg th po wt sp yi), stamps0 (slotN (roomOf lg th po wt sp yi)), rI (slotN (roomOf lg th po wt sp yi)), 0, [], 0, [], 0, 0, [], 0, 0, [], 0, th.toNat, rI th.toNat, rI th.toNat, rI th.toNat, rI th.toNat, rI th.toNat, rI th.toNat, rI th.toNat, rI th.toNat, rB th.toNat, rI th.toNat, rI th.toNat, 0, [], [], [], [], []⟩ else zeroSR
theorem SR.ok_iff (s : SR) : s.ok = true ↔ roomOf s.lg s.th s.po s.wt s.sp s.yi ≠ 0 ∧ wordOk s.hd s.tl s.md (roomOf s.lg s.th s.po s.wt s.sp s.yi) = true ∧ (s.ns : Int) = roomOf s.lg s.th s.po s.wt s.sp s.yi ∧ slotsOk s.ns s.ss = true ∧ amOk s.th [s.l1, s.l2, s.l3, s.l4] = true ∧ evOk s.fe s.l3 = true ∧ evOk s.ee s.l4 = true ∧ (0 ≤ s.now ∧ s.now ≤ 1099511627776 ∧ (s.nt : Int) = s.th) ∧ badThAt s.nt s.st s.kd s.un s.pc s.rg s.sn s.tr s.lt s.rs 0 < 0 := by
 unfold SR.ok stOk
 simp only [Bool.and_eq_true, decide_eq_true_eq]
 constructor
 ·rintro ⟨⟨⟨⟨⟨⟨⟨⟨h1, h2⟩, h3⟩, h4⟩, h5⟩, h6⟩, h7⟩, h8⟩, h9⟩
  exact ⟨h1, h2, h3, h4, h5, h6, h7, h8, h9⟩
 ·rintro ⟨h1, h2, h3, h4, h5, h6, h7, h8, h9⟩
  exact ⟨⟨⟨⟨⟨⟨⟨⟨h1, h2⟩, h3⟩, h4⟩, h5⟩, h6⟩, h7⟩, h8⟩, h9⟩
theorem confE_th {lg th po wt sp yi : Int} (h : confE lg th po wt sp yi = 0) : 1 ≤ lg ∧ lg ≤ 6 ∧ 1 ≤ th ∧ th ≤ 16 := by
 unfold confE at h
 apply Classical.byContradiction
 intro hn
 rw [if_neg (fun hh => hn ⟨hh.1, hh.2.1, hh.2.2.1, hh.2.2.2.1⟩)] at h
 omega
theorem mayE_is {th id kind : Int} {sg : Bool} (h : mayE th sg id kind = 0) : 0 ≤ id ∧ id < th := by
 unfold mayE at h
 apply Classical.byContradiction
 intro hn
 rw [if_pos (by omega)] at h
 omega
theorem SR.ok_ns {s : SR} (h : s.ok = true) : 1 ≤ s.ns ∧ s.ns ≤ 64 := by
 have := ((SR.ok_iff s).1 h).2.2.2.1
 simp only [slotsOk, Bool.and_eq_true, decide_eq_true_eq] at this
 exact this.2
theorem SR.ok_nt {s : SR} (h : s.ok = true) : (s.nt : Int) = s.th := ((SR.ok_iff s).1 h).2.2.2.2.2.2.2.1.2.2
theorem SR.ok_conf {s : SR} (h : s.ok = true) : confE s.lg s.th s.po s.wt s.sp s.yi = 0 := by
 have := ((SR.ok_iff s).1 h).1
 unfold roomOf at this
 split at this
 ·assumption
 ·exact absurd rfl this
theorem SR.fit_few {s : SR} (h : s.fit = true) : s.few = true := by
 simp only [SR.fit, Bool.and_eq_true] at h
 exact h.2
theorem SR.few_le {s : SR} (h : s.few = true) : s.ns ≤ 1000000 ∧ s.n1 ≤ 1000000 ∧ s.n2 ≤ 1000000 ∧ s.n3 ≤ 1000000 ∧ s.n4 ≤ 1000000 ∧ s.nt ≤ 1000000 ∧ s.nl ≤ 1000000 := by
 simpa [SR.few, fewB] using h
theorem setI_self (l : List Int) (i : Nat) (h : i < l.length) : l.set i (l[i]?.getD 0) = l := by
 simp [h]
theorem setB_self (l : List Bool) (i : Nat) (h : i < l.length) : l.set i (l[i]?.getD false) = l := by
 simp [h]
def tabK3 : List (FuncId × Pure1) := [(21, Fconf), (23, Froom), (22, FslotNew), (33, Fchk), (53, FthWake), (38, FthInvoke), (34, Fmay), (42, FposPlace)] ++ tabK2
theorem ok_tabK3 : ∀ p ∈ tabK3, PureOK Tryz.prog p.1 p.2 := by
 intro p hp
 simp only [tabK3, List.mem_append, List.mem_cons, List.not_mem_nil, or_false] at hp
 rcases hp with (rfl | rfl | rfl | rfl | rfl | rfl | rfl | rfl) | hp
 ·exact ok_conf
 ·exact ok_room
 ·exact ok_slotNew
 ·exact ok_chk
 ·exact ok_thWake
 ·exact ok_thInvoke
 ·exact ok_may
 ·exact ok_posPlace
 ·exact ok_tabK2 p hp
def Ffnew : Pure1 := fun
 | [.agg [.int .i64 lg, .int .i64 th, .int .i64 po, .int .i64 wt, .int .i64 sp, .int .i64 yi, .bool sg]] => some (none, .tup [SR.new (newSR lg th po wt sp yi sg), .int .i64 (confE lg th po wt sp yi)])
 | _ => none
def zq16 : List Col :=
 [.int .i64 [], .int .i64 [], .int .i64 [], .int .i64 [], .int .i64 []]
def zq17 : List Col :=
 [.int .i64 []]
theorem vc_fnew (lg th po wt sp yi : Int) (sg : Bool) (r : AV) : VC Tryz.prog (tabS tabK3) noL true 8 [.agg [.int .i64 lg, .int .i64 th, .int .i64 po, .int .i64 wt, .int .i64 sp, .int .i64 yi, .bool sg]] r = (
 br (ine (confE lg th po wt sp yi) 0) (some (AV.tup [AV.agg [AV.int .i64 0, AV.int .i64 0, AV.int .i64 0, AV.int .i64 0, AV.int .i64 0, AV.int .i64 0, AV.bool false, AV.int .i64 0,
 AV.int .i64 0, AV.int .i64 0, AV.own 88 0 [.int .i64 [], .int .i64 []], AV.own 3 0 zq17, AV.own 3 0 zq17, AV.int .i64 0, AV.own 3 0 zq17, AV.int .i64 0, AV.own 3 0 zq17, AV.int .i64
 0, AV.own 51 0 [.int .i64 [], .int .i64 [], .int .i64 [], .int .i64 [], .int .i64 [], .int .i64 [], .int .i64 [], .int .i64 [], Col.bool [], .int .i64 [], .int .i64 []], AV.own 53 0
 zq16], AV.int .i64 (confE lg th po wt sp yi)]) = some r) (asrt (band (ile 0 th) (band (ile th 1073741824) (ieq th th))) (some (AV.tup [AV.agg [AV.int .i64 lg, AV.int .i64 th, AV.int
 .i64 po, AV.int .i64 wt, AV.int .i64 sp, AV.int .i64 yi, AV.bool sg, AV.int .i64 0, AV.int .i64 0, AV.int .i64 0, AV.own 88 (slotN (roomOf lg th po wt sp yi)) [.int .i64 (stamps0
 (slotN (roomOf lg th po wt sp yi))), .int .i64 (rI (slotN (roomOf lg th po wt sp yi)))], AV.own 3 0 zq17, AV.own 3 0 zq17, AV.int .i64 0, AV.own 3 0 zq17, AV.int .i64 0, AV.own 3 0
 zq17, AV.int .i64 0, AV.own 51 (nOf th) [.int .i64 (rI (nOf th)), .int .i64 (rI (nOf th)), .int .i64 (rI (nOf th)), .int .i64 (rI (nOf th)), .int .i64 (rI (nOf th)), .int .i64 (rI
 (nOf th)), .int .i64 (rI (nOf th)), .int .i64 (rI (nOf th)), Col.bool (rB (nOf th)), .int .i64 (rI (nOf th)), .int .i64 (rI (nOf th))], AV.own 53 0 zq16], AV.int .i64 0]) = some r))) := by kernel_rfl
theorem ok_fnew : PureOK Tryz.prog 8 Ffnew := by
 refine tab_plain mixed (l := tabK3) ok_tabK3 true (by kernel_rfl) fun xs b r h hb wf => ?_
 unfold Ffnew at h
 split at h
 ·rename_i lg th po wt sp yi sg
  cases h
  try rw [some_f] at hb
  try simp only [WFL, WF, List.mem_cons, List.not_mem_nil, or_false, forall_eq_or_imp, forall_eq, Col.len, and_true, true_and] at wf
  rw [vc_fnew]
  dsimp only [zq16, zq17]
  by_cases c : confE lg th po wt sp yi = 0
  ·obtain ⟨_, _, q1, q2⟩ := confE_th c
   have q3 : 0 ≤ th := by omega
   have q4 : th ≤ 1073741824 := by omega
   simp [owl, SR.fitW_fit, SR.wid_fit, c, q3, q4, newSR, SR.new]
  ·simp [owl, SR.fitW_fit, SR.wid_fit, c, newSR, zeroSR, SR.new]
 ·cases h
def Ffvalue : Pure1 := fun
 | [a_s, .int .i64 p] => (match asSR a_s with | some s => some (some (SR.fit s), .int .i64 (iite (band (SR.ok s) (ile 0 p)) (gI s.sv (nOf (placeOf p (ofN s.ns)))) 0)) | none => none)
 | _ => none
theorem vc_fvalue (s : SR) (p : Int) (r : AV) : VC Tryz.prog (tabS tabK3) noL false 155 [s.av, .int .i64 p] r = (
 asrt s.fitW (br (bite (bnot s.ok) true (ilt p 0)) (some (AV.int .i64 0) = some r) (asrt (band (ile 0 (placeOf p (ofN s.11))) (ilt (placeOf p (ofN s.11)) (ofN s.11))) (some (AV.int
 .i64 (gI s.13 (nOf (placeOf p (ofN s.11))))) = some r)))) := by kernel_rfl
theorem ok_fvalue : PureOK Tryz.prog 155 Ffvalue := by
 refine tab_plain mixed (l := tabK3) ok_tabK3 false (by kernel_rfl) fun xs b r h hb wf => ?_
 unfold Ffvalue at h
 split at h
 ·rename_i a_s p
  split at h
  ·rename_i s h_s
   obtain rfl := asSR_some h_s
   cases h
   try rw [some_f] at hb
   simp only [WFL, WF, List.mem_cons, List.not_mem_nil, or_false, forall_eq_or_imp, forall_eq, Col.len, and_true, true_and, wf_av] at wf
   rw [vc_fvalue]
   simp only [bite_and, bite_or]
   by_cases c1 : s.ok = true
   ·obtain ⟨q1, q2⟩ := SR.ok_ns c1
    by_cases c2 : 0 ≤ p
    ·have e : placeOf p s.ns = p % s.ns := by unfold placeOf; rw [if_pos (by omega)]
     have q3 : 0 ≤ p % (s.ns : Int) := Int.emod_nonneg _ (by omega)
     have q4 : p % (s.ns : Int) < s.ns := Int.emod_lt_of_pos _ (by omega)
     have c3 : ¬ p < 0 := by omega
     simp [owl, SR.fitW_fit, SR.wid_fit, hb, c1, c2, c3, e, q3, q4, iite, ile, band]
    ·have c3 : p < 0 := by omega
     simp [owl, SR.fitW_fit, SR.wid_fit, hb, c1, c2, c3, iite, ile, band]
   ·simp [owl, SR.fitW_fit, SR.wid_fit, hb, c1, iite, band]
  ·cases h
 ·cases h
def Ffwake : Pure1 := fun
 | [a_s, .int .i64 id] => (match asSR a_s with | some s => some (some (SR.fit s), SR.new (SR.wake s id)) | none => none)
 | _ => none
theorem vc_fwake (s : SR) (id : Int) (r : AV) : VC Tryz.prog (tabS tabK3) noL true 25 [s.av, .int .i64 id] r = (
 asrt s.wid (asrt s.fitW (br (bite (bite s.ok (ige id 0) false) (ilt id (ofN s.25)) false) (asrt (band (ile 0 id) (ilt id (ofN s.25))) (asrt (nlt (nOf id) s.25) (asrt (nlt (nOf id)
 s.25) (some (AV.agg (SR.nw
 { s with st := (put s.26 (nOf id) (iite (ieq (gI s.26 (nOf id)) 2) 1 (gI s.26 (nOf id)))), kd := (put s.27 (nOf id) (gI s.27 (nOf id))), vl := (put s.28 (nOf id) (gI s.28 (nOf id))), un := (put s.29 (nOf id) (gI s.29 (nOf id))), pc := (put s.30 (nOf id) (gI s.30 (nOf id))), rg := (put s.31 (nOf id) (gI s.31 (nOf id))), sn := (put s.32 (nOf id) (gI s.32 (nOf id))), tr := (put s.33 (nOf id) (gI s.33 (nOf id))), lt := (put s.34 (nOf id) (gB s.34 (nOf id))), rs := (put s.35 (nOf id) (gI s.35 (nOf id))), gt := (put s.36 (nOf id) (gI s.36 (nOf id))) }))
 = some r)))) (some (AV.agg (SR.nw s)) = some r)))) := by kernel_rfl
theorem ok_fwake : PureOK Tryz.prog 25 Ffwake := by
 refine tab_plain mixed (l := tabK3) ok_tabK3 true (by kernel_rfl) fun xs b r h hb wf => ?_
 unfold Ffwake at h
 split at h
 ·rename_i a_s id
  split at h
  ·rename_i s h_s
   obtain rfl := asSR_some h_s
   cases h
   try rw [some_f] at hb
   simp only [WFL, WF, List.mem_cons, List.not_mem_nil, or_false, forall_eq_or_imp, forall_eq, Col.len, and_true, true_and, wf_av] at wf
   rw [vc_fwake]
   dsimp only [SR.nw]
   have hf := SR.fit_few hb
   simp only [bite_and, bite_or]
   by_cases c1 : s.ok = true
   ·by_cases c2 : 0 ≤ id
    ·by_cases c3 : id < s.nt
     ·have q : id.toNat < s.nt := by omega
      have w1 : id.toNat < s.st.length := by have := wf.st; omega
      have w2 : id.toNat < s.kd.length := by have := wf.kd; omega
      have w3 : id.toNat < s.vl.length := by have := wf.vl; omega
      have w4 : id.toNat < s.un.length := by have := wf.un; omega
      have w5 : id.toNat < s.pc.length := by have := wf.pc; omega
      have w6 : id.toNat < s.rg.length := by have := wf.rg; omega
      have w7 : id.toNat < s.sn.length := by have := wf.sn; omega
      have w8 : id.toNat < s.tr.length := by have := wf.tr; omega
      have w9 : id.toNat < s.lt.length := by have := wf.lt; omega
      have wa : id.toNat < s.rs.length := by have := wf.rs; omega
      have wb : id.toNat < s.gt.length := by have := wf.gt; omega
      have e : ∀ x : Int, iite (ieq x 2) 1 x = wakeSt x := fun x => by
       unfold iite ieq wakeSt
       by_cases h : x = 2
       ·subst h; rfl
       ·have h' : (x == 2) = false := by simpa using h
        rw [h']
        simp [h]
      simp [owl, SR.fitW_fit, SR.wid_fit, hb, hf, c1, c2, c3, q, e, SR.wake, SR.is, SR.new, setI_self, setB_self, w1, w2, w3, w4, w5, w6, w7, w8, w9, wa, wb]
      intro hx
      exact absurd hx (by omega)
     ·simp [owl, SR.fitW_fit, SR.wid_fit, hb, hf, c1, c2, c3, SR.wake, SR.is, SR.new]
    ·have c3 : id < s.nt := by omega
     simp [owl, SR.fitW_fit, SR.wid_fit, hb, hf, c1, c2, c3, SR.wake, SR.is, SR.new]
   ·simp [owl, SR.fitW_fit, SR.wid_fit, hb, hf, c1, SR.wake, SR.is, SR.new]
  ·cases h
 ·cases h
def Fftell : Pure1 := fun
 | [a_s, .int .i64 id, .int .i64 kind, .int .i64 res, .int .i64 got] => (match asSR a_s with | some s => some (some (SR.fit s), SR.new (SR.tell s id kind res got)) | none => none)
 | _ => none
def zq18 (s : SR) : List Col :=
 [.int .i64 s.26, .int .i64 s.27, .int .i64 s.28, .int .i64 s.29, .int .i64 s.30, .int .i64 s.31, .int .i64 s.32, .int .i64 s.33, Col.bool s.34, .int .i64 s.35, .int .i64 s.36]
def zq19 (s : SR) (id : Int) (kind : Int) (res : Int) (got : Int) : List Col :=
 [.int .i64 (cat s.38 (cat [] [id])), .int .i64 (cat s.39 (cat [] [kind])), .int .i64 (cat s.40 (cat [] [gI s.28 (nOf id)])), .int .i64 (cat s.41 (cat [] [res])), .int .i64 (cat s.42
 (cat [] [got]))]
def zq20 (s : SR) : List Col :=
 [.int .i64 s.12, .int .i64 s.13]
theorem vc_ftell (s : SR) (id kind res got : Int) (r : AV) : VC Tryz.prog (tabS tabK3) noL true 176 [s.av, .int .i64 id, .int .i64 kind, .int .i64 res, .int .i64 got] r = (
 asrt s.wid (asrt s.fitW (br (bite (bite s.ok (ige id 0) false) (ilt id (ofN s.25)) false) (asrt (band (ile 0 id) (ilt id (ofN s.25))) (asrt (nlt (nOf id) s.25) (br (ine kind 9)
 (asrt (nlt (nOf id) s.25) (asrt (nlt (nOf id) s.25) (asrt (nle (nAdd s.37 1) 3518437208883) (some (AV.agg [AV.int .i64 s.1, AV.int .i64 s.2, AV.int .i64 s.3, AV.int .i64 s.4, AV.int
 .i64 s.5, AV.int .i64 s.6, AV.bool s.7, AV.int .i64 s.8, AV.int .i64 s.9, AV.int .i64 s.10, AV.own 88 s.11 (zq20 s), AV.own 3 s.14 [.int .i64 s.15], AV.own 3 s.16 [.int .i64 s.17],
 AV.int .i64 s.18, AV.own 3 s.19 [.int .i64 s.20], AV.int .i64 s.21, AV.own 3 s.22 [.int .i64 s.23], AV.int .i64 s.24, AV.own 51 s.25 [.int .i64 s.26, .int .i64 s.27, .int .i64 s.28,
 .int .i64 s.29, .int .i64 s.30, .int .i64 s.31, .int .i64 s.32, .int .i64 s.33, Col.bool s.34, .int .i64 (put s.35 (nOf id) res), .int .i64 (put s.36 (nOf id) got)], AV.own 53 (nAdd
 s.37 1) (zq19 s id kind res got)]) = some r)))) (asrt (nle (nAdd s.37 1) 3518437208883) (some (AV.agg [AV.int .i64 s.1, AV.int .i64 s.2, AV.int .i64 s.3, AV.int .i64 s.4, AV.int
 .i64 s.5, AV.int .i64 s.6, AV.bool s.7, AV.int .i64 s.8, AV.int .i64 s.9, AV.int .i64 s.10, AV.own 88 s.11 (zq20 s), AV.own 3 s.14 [.int .i64 s.15], AV.own 3 s.16 [.int .i64 s.17],
 AV.int .i64 s.18, AV.own 3 s.19 [.int .i64 s.20], AV.int .i64 s.21, AV.own 3 s.22 [.int .i64 s.23], AV.int .i64 s.24, AV.own 51 s.25 (zq18 s), AV.own 53 (nAdd s.37 1) (zq19 s id
 kind res got)]) = some r))))) (asrt (nle (nAdd s.37 0) 3518437208883) (some (AV.agg [AV.int .i64 s.1, AV.int .i64 s.2, AV.int .i64 s.3, AV.int .i64 s.4, AV.int .i64 s.5, AV.int .i64
 s.6, AV.bool s.7, AV.int .i64 s.8, AV.int .i64 s.9, AV.int .i64 s.10, AV.own 88 s.11 (zq20 s), AV.own 3 s.14 [.int .i64 s.15], AV.own 3 s.16 [.int .i64 s.17], AV.int .i64 s.18,
 AV.own 3 s.19 [.int .i64 s.20], AV.int .i64 s.21, AV.own 3 s.22 [.int .i64 s.23], AV.int .i64 s.24, AV.own 51 s.25 (zq18 s), AV.own 53 (nAdd s.37 0) [.int .i64 (cat s.38 []), .int
 .i64 (cat s.39 []), .int .i64 (cat s.40 []), .int .i64 (cat s.41 []), .int .i64 (cat s.42 [])]]) = some r))))) := by kernel_rfl
theorem ok_ftell : PureOK Tryz.prog 176 Fftell := by
 refine tab_plain mixed (l := tabK3) ok_tabK3 true (by kernel_rfl) fun xs b r h hb wf => ?_
 unfold Fftell at h
 split at h
 ·rename_i a_s id kind res got
  split at h
  ·rename_i s h_s
   obtain rfl := asSR_some h_s
   cases h
   try rw [some_f] at hb
   simp only [WFL, WF, List.mem_cons, List.not_mem_nil, or_false, forall_eq_or_imp, forall_eq, Col.len, and_true, true_and, wf_av] at wf
   rw [vc_ftell]
   dsimp only [zq18, zq19, zq20]
   have hf := SR.fit_few hb
   have hl := (SR.few_le hf).2.2.2.2.2.2
   simp only [bite_and, bite_or]
   by_cases c1 : s.ok = true
   ·by_cases c2 : 0 ≤ id
    ·by_cases c3 : id < s.nt
     ·have q : id.toNat < s.nt := by omega
      by_cases c4 : kind = 9
      ·simp [owl, SR.fitW_fit, SR.wid_fit, hb, hf, c1, c2, c3, c4, q, SR.tell, SR.is, SR.new]
       omega
      ·simp [owl, SR.fitW_fit, SR.wid_fit, hb, hf, c1, c2, c3, c4, q, SR.tell, SR.is, SR.new]
       omega
     ·simp [owl, SR.fitW_fit, SR.wid_fit, hb, hf, c1, c2, c3, SR.tell, SR.is, SR.new]
      omega
    ·have c3 : id < s.nt := by omega
     simp [owl, SR.fitW_fit, SR.wid_fit, hb, hf, c1, c2, c3, SR.tell, SR.is, SR.new]
     omega
   ·simp [owl, SR.fitW_fit, SR.wid_fit, hb, hf, c1, SR.tell, SR.is, SR.new]
    omega
  ·cases h
 ·cases h
def Ffinvoke : Pure1 := fun
 | [a_s, .int .i64 id, .int .i64 kind, .int .i64 val, .int .i64 ut] => (match asSR a_s with | some s => some (some (SR.fitW s), .tup [SR.new (SR.inv s id kind val ut), .int .i64 (SR.invE s id kind ut)]) | none => none)
 | _ => none
def zq21 (s : SR) (id : Int) : Int :=
 gI s.26 (nOf id)
theorem vc_finvoke (s : SR) (id kind val ut : Int) (r : AV) : VC Tryz.prog (tabS tabK3) noL true 15 [s.av, .int .i64 id, .int .i64 kind, .int .i64 val, .int .i64 ut] r = (
 asrt s.fitW (br s.ok (br (ine (mayE s.2 s.7 id kind) 0) (asrt s.wid (some (AV.tup [AV.agg (SR.nw s), AV.int .i64 (mayE s.2 s.7 id kind)]) = some r)) (asrt s.wid (asrt s.fitW (br
 (bite (bite s.ok (ige id 0) false) (ilt id (ofN s.25)) false) (asrt (band (ile 0 id) (ilt id (ofN s.25))) (asrt (nlt (nOf id) s.25) (asrt (nlt (nOf id) s.25) (some (AV.tup [AV.agg
 (SR.nw
 { s with st := (put s.26 (nOf id) (invI (invE (zq21 s id) kind ut) 1 (zq21 s id))), kd := (put s.27 (nOf id) (invI (invE (zq21 s id) kind ut) kind (gI s.27 (nOf id)))), vl := (put s.28 (nOf id) (invI (invE (zq21 s id) kind ut) val (gI s.28 (nOf id)))), un := (put s.29 (nOf id) (invI (invE (zq21 s id) kind ut) (invU kind ut) (gI s.29 (nOf id)))), pc := (put s.30 (nOf id) (invI (invE (zq21 s id) kind ut) 0 (gI s.30 (nOf id)))), rg := (put s.31 (nOf id) (invI (invE (zq21 s id) kind ut) 0 (gI s.31 (nOf id)))), sn := (put s.32 (nOf id) (invI (invE (zq21 s id) kind ut) 0 (gI s.32 (nOf id)))), tr := (put s.33 (nOf id) (invI (invE (zq21 s id) kind ut) 0 (gI s.33 (nOf id)))), lt := (put s.34 (nOf id) (invB (invE (zq21 s id) kind ut) (gB s.34 (nOf id)))), rs := (put s.35 (nOf id) (invI (invE (zq21 s id) kind ut) 0 (gI s.35 (nOf id)))), gt := (put s.36 (nOf id) (invI (invE (zq21 s id) kind ut) 0 (gI s.36 (nOf id)))) }),
 AV.int .i64 (invE (zq21 s id) kind ut)]) = some r)))) (some (AV.tup [AV.agg (SR.nw s), AV.int .i64 (mayE s.2 s.7 id kind)]) = some r))))) (asrt s.wid (some (AV.tup [AV.agg (SR.nw
 s), AV.int .i64 20]) = some r)))) := by kernel_rfl
theorem ok_finvoke : PureOK Tryz.prog 15 Ffinvoke := by
 refine tab_plain mixed (l := tabK3) ok_tabK3 true (by kernel_rfl) fun xs b r h hb wf => ?_
 unfold Ffinvoke at h
 split at h
 ·rename_i a_s id kind val ut
  split at h
  ·rename_i s h_s
   obtain rfl := asSR_some h_s
   cases h
   try rw [some_f] at hb
   simp only [WFL, WF, List.mem_cons, List.not_mem_nil, or_false, forall_eq_or_imp, forall_eq, Col.len, and_true, true_and, wf_av] at wf
   rw [vc_finvoke]
   dsimp only [SR.nw, zq21]
   have hf := SR.wid_fitW hb
   simp only [bite_and, bite_or]
   by_cases c1 : s.ok = true
   ·have hn := SR.ok_nt c1
    by_cases c2 : mayE s.th s.sg id kind = 0
    ·obtain ⟨q1, q2⟩ := mayE_is c2
     have q3 : id < s.nt := by omega
     have q4 : id.toNat < s.nt := by omega
     have w1 : id.toNat < s.st.length := by have := wf.st; omega
     have w2 : id.toNat < s.kd.length := by have := wf.kd; omega
     have w3 : id.toNat < s.vl.length := by have := wf.vl; omega
     have w4 : id.toNat < s.un.length := by have := wf.un; omega
     have w5 : id.toNat < s.pc.length := by have := wf.pc; omega
     have w6 : id.toNat < s.rg.length := by have := wf.rg; omega
     have w7 : id.toNat < s.sn.length := by have := wf.sn; omega
     have w8 : id.toNat < s.tr.length := by have := wf.tr; omega
     have w9 : id.toNat < s.lt.length := by have := wf.lt; omega
     have wa : id.toNat < s.rs.length := by have := wf.rs; omega
     have wb : id.toNat < s.gt.length := by have := wf.gt; omega
     have e : SR.invE s id kind ut = Go.Own.invE (s.st[id.toNat]?.getD 0) kind ut := by
      unfold SR.invE
      rw [if_pos c1, if_pos c2]
      rfl
     by_cases c3 : Go.Own.invE (s.st[id.toNat]?.getD 0) kind ut = 0
     ·simp [owl, SR.fitW_fit, SR.wid_fit, hb, hf, c1, c2, q1, q3, q4, e, c3, SR.inv, SR.new, invI, invB]
      intro hx
      exact absurd hx (by omega)
     ·have ei : SR.inv s id kind val ut = s := by
       unfold SR.inv
       rw [e, if_neg c3]
      have eE : Go.Own.invE (gI s.st (nOf id)) kind ut = Go.Own.invE (s.st[id.toNat]?.getD 0) kind ut := rfl
      have e2 : ∀ x y, invI (Go.Own.invE (gI s.st (nOf id)) kind ut) x y = y := fun x y => by unfold invI; rw [eE, if_neg c3]
      have e3 : ∀ y, invB (Go.Own.invE (gI s.st (nOf id)) kind ut) y = y := fun y => by unfold invB; rw [eE, if_neg c3]
      rw [ei, e]
      simp only [e2, e3]
      rw [eE]
      generalize Go.Own.invE (s.st[id.toNat]?.getD 0) kind ut = E
      simp [owl, SR.fitW_fit, SR.wid_fit, hb, hf, c1, c2, q1, q3, q4, SR.new, setI_self, setB_self, w1, w2, w3, w4, w5, w6, w7, w8, w9, wa, wb]
      intro hx
      exact absurd hx (by omega)
    ·have e : SR.invE s id kind ut = mayE s.th s.sg id kind := by
      unfold SR.invE
      rw [if_pos c1, if_neg c2]
     simp [owl, SR.fitW_fit, SR.wid_fit, hb, hf, c1, c2, e, SR.inv, SR.new]
   ·have e : SR.invE s id kind ut = 20 := by
     unfold SR.invE
     rw [if_neg c1]
    simp [owl, SR.fitW_fit, SR.wid_fit, hb, hf, c1, e, SR.inv, SR.new]
  ·cases h
 ·cases h
def SR.qfrom (s : SR) (i : Nat) : List Int := ((List.range (s.tl - s.hd).toNat).drop i).map fun j : Nat => s.sv.getD (placeOf (s.hd + (j : Int)) s.ns).toNat 0
def SR.qv (s : SR) : List Int := if s.ok then s.qfrom 0 else []
def SR.wakes (s : SR) (l : List Int) (i : Nat) : SR := (l.drop i).foldl SR.wake s
def SR.hand (s : SR) (id : Int) (k : Nat) : List AV := [.int .i64 s.lg, .int .i64 s.th, .int .i64 s.po, .int .i64 s.wt, .int .i64 s.sp, .int .i64 s.yi, .bool s.sg, .int .i64 s.hd, .int .i64 s.tl, .int .i64 s.md, .full k, .full (k + 1), .full (k + 2), .int .i64 s.fe, .full (k + 3), .int .i64 s.ee, .full (k + 4), .int .i64 s.now, .full (k + 5), .full (k + 6), .int .i64 id]
def SR.rowsH (s : SR) : Heap := [some (.row 88 s.ns [.int .i64 s.ss, .int .i64 s.sv]), some (.row 3 s.n1 [.int .i64 s.l1]), some (.row 3 s.n2 [.int .i64 s.l2]), some (.row 3 s.n3 [.int .i64 s.l3]), some (.row 3 s.n4 [.int .i64 s.l4]), some (.row 51 s.nt [.int .i64 s.st, .int .i64 s.kd, .int .i64 s.vl, .int .i64 s.un, .int .i64 s.pc, .int .i64 s.rg, .int .i64 s.sn, .int .i64 s.tr, .bool s.lt, .int .i64 s.rs, .int .i64 s.gt]), some (.row 53 s.nl [.int .i64 s.c0, .int .i64 s.ks, .int .i64 s.vs, .int .i64 s.rr, .int .i64 s.gs])]
def handIn (s : SR) (id : Int) (n : Nat) (l : List Int) : Heap := some (.var (s.hand id 2)) :: some (.row 3 n [.int .i64 l]) :: s.rowsH
def handOut (s : SR) (id : Int) : Heap := some (.var (s.hand id 1)) :: s.rowsH
def asHand : Heap → Option (SR × Int × Nat × List Int)
 | [some (.var [a0, a1, a2, a3, a4, a5, a6, a7, a8, a9, .full 2, .full 3, .full 4, a13, .full 5, a15, .full 6, a17, .full 7, .full 8, .int .i64 id]), some (.row 3 n [.int .i64 l]), some (.row 88 m0 q0), some (.row 3 m1 q1), some (.row 3 m2 q2), some (.row 3 m3 q3), some (.row 3 m4 q4), some (.row 51 m5 q5), some (.row 53 m6 q6)] =>
  (match asSR (.agg [a0, a1, a2, a3, a4, a5, a6, a7, a8, a9, .sl m0 q0, .sl m1 q1, .sl m2 q2, a13, .sl m3 q3, a15, .sl m4 q4, a17, .sl m5 q5, .sl m6 q6]) with
   | some s => some (s, id, n, l)
   | none => none)
 | _ => none
theorem asHand_some {os : Heap} {s : SR} {id : Int} {n : Nat} {l : List Int} (h : asHand os = some (s, id, n, l)) : os = handIn s id n l := by
 unfold asHand at h
 split at h
 ·split at h
  ·rename_i s' hs
   cases h
   have := asSR_some hs
   simp only [SR.av, SR.cells, AV.agg.injEq, List.cons.injEq, AV.sl.injEq, and_true] at this
   obtain ⟨rfl, rfl, rfl, rfl, rfl, rfl, rfl, rfl, rfl, rfl, ⟨rfl, rfl⟩, ⟨rfl, rfl⟩, ⟨rfl, rfl⟩, rfl, ⟨rfl, rfl⟩, rfl, ⟨rfl, rfl⟩, rfl, ⟨rfl, rfl⟩, rfl, rfl⟩ := this
   rfl
  ·cases h
 ·cases h
theorem SR.wake_fit (s : SR) (x : Int) : (s.wake x).fit = s.fit := by
 unfold SR.wake
 split <;> rfl
theorem SR.wakes_lt (s : SR) (l : List Int) {i : Nat} (h : i < l.length) : s.wakes l i = (s.wake (l.getD i 0)).wakes l (i + 1) := by
 unfold SR.wakes
 rw [List.drop_eq_getElem_cons h, List.foldl_cons]
 simp [h]
theorem SR.wakes_ge (s : SR) (l : List Int) {i : Nat} (h : l.length ≤ i) : s.wakes l i = s := by
 unfold SR.wakes
 rw [List.drop_eq_nil_of_le h]
 rfl
def tabC0 : List (FuncId × Pure1) := [(25, Ffwake), (177, FnotifyAll)] ++ tabK3
theorem ok_tabC0 : ∀ p ∈ tabC0, PureOK Tryz.prog p.1 p.2 := by
 intro p hp
 simp only [tabC0, List.mem_append, List.mem_cons, List.not_mem_nil, or_false] at hp
 rcases hp with (rfl | rfl) | hp
 ·exact ok_fwake
 ·exact ok_notifyAll
 ·exact ok_tabK3 p hp
def spec_wake : LoopSpec := { n := 34, keep := [0, 18, 19, 20], srcs := [.tmp 0, .tmp 18, .cell 0 10, .cell 0 11, .cell 0 12, .cell 0 14, .cell 0 16, .cell 0 18, .cell 0 19], keepE := [0], srcsE := [.tmp 0, .cell 0 10, .cell 0 11, .cell 0 12, .cell 0 14, .cell 0 16, .cell 0 18, .cell 0 19], goes := fun vals objs Q => match vals with
 | [.ptr 0 0 0, .full 1, .int .i64 m, .int .i64 i] => (match asHand objs with
  | some (s, id, n, l) => asrt (band (SR.fit s) (band (nle n 1000000) (band (ieq m (ofN n)) (band (ile 0 i) (ile i (ofN n)))))) (Q (.exit 0) [.ptr 0 0 0] (handOut (SR.wakes s l (nOf i)) id))
  | none => False)
 | _ => False }
def zq22 (i : Int) : Nat :=
 nOf (iadd .i64 i 1)
def zq23 (s : SR) : AObj :=
 AObj.row 51 s.25 [.int .i64 s.26, .int .i64 s.27, .int .i64 s.28, .int .i64 s.29, .int .i64 s.30, .int .i64 s.31, .int .i64 s.32, .int .i64 s.33, Col.bool s.34, .int .i64 s.35, .int
 .i64 s.36]
def zq24 (s : SR) : AObj :=
 AObj.row 53 s.37 [.int .i64 s.38, .int .i64 s.39, .int .i64 s.40, .int .i64 s.41, .int .i64 s.42]
theorem lp_wake (s : SR) (id m i : Int) (n : Nat) (l : List Int) (mu : List AV → Heap → Nat) (Q : Ex → List AV → Heap → Prop) : runCode Tryz.prog (tabS tabC0) (callN Tryz.prog (tabS tabC0) noL 11) (fun _ => none) (bodyOf Tryz.prog 131 0) 0 ⟨mkT (spec_wake).keep [.ptr 0 0 0, .full 1, .int .i64 m, .int .i64 i] (spec_wake).n 0, handIn s id n l⟩ ((spec_wake).endsA mu [.ptr 0 0 0, .full 1, .int .i64 m, .int .i64 i] (handIn s id n l) Q) = (
 br (ilt i m) (asrt (band (ile 0 i) (ilt i (ofN n))) (asrt (nlt (nOf i) n) (asrt s.fit ((mu [AV.ptr 0 0 0, AV.full 1, AV.int .i64 m, AV.int .i64 (iadd .i64 i 1)] [some (AObj.var
 [AV.int .i64 (s.wake (gI l (nOf i))).1, AV.int .i64 (s.wake (gI l (nOf i))).2, AV.int .i64 (s.wake (gI l (nOf i))).3, AV.int .i64 (s.wake (gI l (nOf i))).4, AV.int .i64 (s.wake (gI
 l (nOf i))).5, AV.int .i64 (s.wake (gI l (nOf i))).6, AV.bool (s.wake (gI l (nOf i))).7, AV.int .i64 (s.wake (gI l (nOf i))).8, AV.int .i64 (s.wake (gI l (nOf i))).9, AV.int .i64
 (s.wake (gI l (nOf i))).10, AV.full 2, AV.full 3, AV.full 4, AV.int .i64 (s.wake (gI l (nOf i))).18, AV.full 5, AV.int .i64 (s.wake (gI l (nOf i))).21, AV.full 6, AV.int .i64
 (s.wake (gI l (nOf i))).24, AV.full 7, AV.full 8, AV.int .i64 id]), some (AObj.row 3 n [.int .i64 l]), some (AObj.row 88 (s.wake (gI l (nOf i))).11 [.int .i64 (s.wake (gI l (nOf
 i))).12, .int .i64 (s.wake (gI l (nOf i))).13]), some (AObj.row 3 (s.wake (gI l (nOf i))).14 [.int .i64 (s.wake (gI l (nOf i))).15]), some (AObj.row 3 (s.wake (gI l (nOf i))).16
 [.int .i64 (s.wake (gI l (nOf i))).17]), some (AObj.row 3 (s.wake (gI l (nOf i))).19 [.int .i64 (s.wake (gI l (nOf i))).20]), some (AObj.row 3 (s.wake (gI l (nOf i))).22 [.int .i64
 (s.wake (gI l (nOf i))).23]), some (AObj.row 51 (s.wake (gI l (nOf i))).25 [.int .i64 (s.wake (gI l (nOf i))).26, .int .i64 (s.wake (gI l (nOf i))).27, .int .i64 (s.wake (gI l (nOf
 i))).28, .int .i64 (s.wake (gI l (nOf i))).29, .int .i64 (s.wake (gI l (nOf i))).30, .int .i64 (s.wake (gI l (nOf i))).31, .int .i64 (s.wake (gI l (nOf i))).32, .int .i64 (s.wake
 (gI l (nOf i))).33, Col.bool (s.wake (gI l (nOf i))).34, .int .i64 (s.wake (gI l (nOf i))).35, .int .i64 (s.wake (gI l (nOf i))).36]), some (AObj.row 53 (s.wake (gI l (nOf i))).37
 [.int .i64 (s.wake (gI l (nOf i))).38, .int .i64 (s.wake (gI l (nOf i))).39, .int .i64 (s.wake (gI l (nOf i))).40, .int .i64 (s.wake (gI l (nOf i))).41, .int .i64 (s.wake (gI l (nOf
 i))).42])]).succ.le (mu [AV.ptr 0 0 0, AV.full 1, AV.int .i64 m, AV.int .i64 i] [some (AObj.var [AV.int .i64 s.1, AV.int .i64 s.2, AV.int .i64 s.3, AV.int .i64 s.4, AV.int .i64 s.5,
 AV.int .i64 s.6, AV.bool s.7, AV.int .i64 s.8, AV.int .i64 s.9, AV.int .i64 s.10, AV.full 2, AV.full 3, AV.full 4, AV.int .i64 s.18, AV.full 5, AV.int .i64 s.21, AV.full 6, AV.int
 .i64 s.24, AV.full 7, AV.full 8, AV.int .i64 id]), some (AObj.row 3 n [.int .i64 l]), some (AObj.row 88 s.11 [.int .i64 s.12, .int .i64 s.13]), some (AObj.row 3 s.14 [.int .i64
 s.15]), some (AObj.row 3 s.16 [.int .i64 s.17]), some (AObj.row 3 s.19 [.int .i64 s.20]), some (AObj.row 3 s.22 [.int .i64 s.23]), some (zq23 s), some (zq24 s)]) ∧ asrt (band
 (s.wake (gI l (nOf i))).fit (band (nle n 1000000) (band (ieq m (ofN n)) (band (ile 0 (iadd .i64 i 1)) (ile (iadd .i64 i 1) (ofN n)))))) (Q (Ex.exit 0) [AV.ptr 0 0 0] [some (AObj.var
 [AV.int .i64 ((s.wake (gI l (nOf i))).wakes l (zq22 i)).1, AV.int .i64 ((s.wake (gI l (nOf i))).wakes l (zq22 i)).2, AV.int .i64 ((s.wake (gI l (nOf i))).wakes l (zq22 i)).3, AV.int
 .i64 ((s.wake (gI l (nOf i))).wakes l (zq22 i)).4, AV.int .i64 ((s.wake (gI l (nOf i))).wakes l (zq22 i)).5, AV.int .i64 ((s.wake (gI l (nOf i))).wakes l (zq22 i)).6, AV.bool
 ((s.wake (gI l (nOf i))).wakes l (zq22 i)).7, AV.int .i64 ((s.wake (gI l (nOf i))).wakes l (zq22 i)).8, AV.int .i64 ((s.wake (gI l (nOf i))).wakes l (zq22 i)).9, AV.int .i64
 ((s.wake (gI l (nOf i))).wakes l (zq22 i)).10, AV.full 1, AV.full 2, AV.full 3, AV.int .i64 ((s.wake (gI l (nOf i))).wakes l (zq22 i)).18, AV.full 4, AV.int .i64 ((s.wake (gI l (nOf
 i))).wakes l (zq22 i)).21, AV.full 5, AV.int .i64 ((s.wake (gI l (nOf i))).wakes l (zq22 i)).24, AV.full 6, AV.full 7, AV.int .i64 id]), some (AObj.row 88 ((s.wake (gI l (nOf
 i))).wakes l (zq22 i)).11 [.int .i64 ((s.wake (gI l (nOf i))).wakes l (zq22 i)).12, .int .i64 ((s.wake (gI l (nOf i))).wakes l (zq22 i)).13]), some (AObj.row 3 ((s.wake (gI l (nOf
 i))).wakes l (zq22 i)).14 [.int .i64 ((s.wake (gI l (nOf i))).wakes l (zq22 i)).15]), some (AObj.row 3 ((s.wake (gI l (nOf i))).wakes l (zq22 i)).16 [.int .i64 ((s.wake (gI l (nOf
 i))).wakes l (zq22 i)).17]), some (AObj.row 3 ((s.wake (gI l (nOf i))).wakes l (zq22 i)).19 [.int .i64 ((s.wake (gI l (nOf i))).wakes l (zq22 i)).20]), some (AObj.row 3 ((s.wake (gI
 l (nOf i))).wakes l (zq22 i)).22 [.int .i64 ((s.wake (gI l (nOf i))).wakes l (zq22 i)).23]), some (AObj.row 51 ((s.wake (gI l (nOf i))).wakes l (zq22 i)).25 [.int .i64 ((s.wake (gI
 l (nOf i))).wakes l (zq22 i)).26, .int .i64 ((s.wake (gI l (nOf i))).wakes l (zq22 i)).27, .int .i64 ((s.wake (gI l (nOf i))).wakes l (zq22 i)).28, .int .i64 ((s.wake (gI l (nOf
 i))).wakes l (zq22 i)).29, .int .i64 ((s.wake (gI l (nOf i))).wakes l (zq22 i)).30, .int .i64 ((s.wake (gI l (nOf i))).wakes l (zq22 i)).31, .int .i64 ((s.wake (gI l (nOf i))).wakes
 l (zq22 i)).32, .int .i64 ((s.wake (gI l (nOf i))).wakes l (zq22 i)).33, Col.bool ((s.wake (gI l (nOf i))).wakes l (zq22 i)).34, .int .i64 ((s.wake (gI l (nOf i))).wakes l (zq22
 i)).35, .int .i64 ((s.wake (gI l (nOf i))).wakes l (zq22 i)).36]), some (AObj.row 53 ((s.wake (gI l (nOf i))).wakes l (zq22 i)).37 [.int .i64 ((s.wake (gI l (nOf i))).wakes l (zq22
 i)).38, .int .i64 ((s.wake (gI l (nOf i))).wakes l (zq22 i)).39, .int .i64 ((s.wake (gI l (nOf i))).wakes l (zq22 i)).40, .int .i64 ((s.wake (gI l (nOf i))).wakes l (zq22 i)).41,
 .int .i64 ((s.wake (gI l (nOf i))).wakes l (zq22 i)).42])]))))) (Q (Ex.exit 0) [AV.ptr 0 0 0] [some (AObj.var [AV.int .i64 s.1, AV.int .i64 s.2, AV.int .i64 s.3, AV.int .i64 s.4,
 AV.int .i64 s.5, AV.int .i64 s.6, AV.bool s.7, AV.int .i64 s.8, AV.int .i64 s.9, AV.int .i64 s.10, AV.full 1, AV.full 2, AV.full 3, AV.int .i64 s.18, AV.full 4, AV.int .i64 s.21,
 AV.full 5, AV.int .i64 s.24, AV.full 6, AV.full 7, AV.int .i64 id]), some (AObj.row 88 s.11 [.int .i64 s.12, .int .i64 s.13]), some (AObj.row 3 s.14 [.int .i64 s.15]), some
 (AObj.row 3 s.16 [.int .i64 s.17]), some (AObj.row 3 s.19 [.int .i64 s.20]), some (AObj.row 3 s.22 [.int .i64 s.23]), some (zq23 s), some (zq24 s)])) := by kernel_rfl
theorem loop_wake : LoopFr Tryz.prog (bodyOf Tryz.prog 131 0) spec_wake.framed := by
 refine tab_loopA mixed (l := tabC0) ok_tabC0 (i := 0) spec_wake (fun vals objs => match vals with
  | [.ptr 0 0 0, .full 1, .int .i64 m, .int .i64 i] => (m - i).toNat
  | _ => 0) fun vals objs Q h1 h2 wf wo hg => ?_
 unfold spec_wake at hg
 simp only at hg
 split at hg
 ·rename_i m i
  clear h1 h2
  split at hg
  ·rename_i s id n l hx
   have e := asHand_some hx
   subst e
   clear hx
   rw [lp_wake]
   dsimp only [zq22, zq23, zq24]
   have wl : l.length = n := by simpa [WFO, Col.len] using wo (some (.row 3 n [.int .i64 l])) (by simp [handIn]) _ rfl
   simp only [asrt_iff, band_t, nle_t, ieq_t, ile_t, ofN_e] at hg
   obtain ⟨⟨hf, hn, rfl, h0, hi⟩, hg⟩ := hg
   obtain ⟨k, rfl⟩ := Int.eq_ofNat_of_zero_le h0
   have hw : IntKind.i64.wrap ((k : Int) + 1) = (k : Int) + 1 := wr (by omega) (by omega)
   have e2 : ((k : Int) + 1).toNat = k + 1 := by omega
   have e3 : (k : Int).toNat = k := by omega
   rw [br_iff, ilt_t, ilt_f]
   refine ⟨fun hk => ?_, fun hk => ?_⟩
   ·have hk' : k < l.length := by omega
    have e4 : nOf (iadd .i64 (k : Int) 1) = k + 1 := by rw [iadd_e, hw, nOf_e, e2]
    have e5 : gI l (nOf (k : Int)) = l.getD k 0 := by rw [gI_e, nOf_e, e3]; simp [List.getD_eq_getElem?_getD]
    have e6 : nOf (k : Int) = k := by rw [nOf_e, e3]
    rw [e6, SR.wakes_lt s l hk'] at hg
    simp only [asrt_iff]
    refine ⟨by simp [owl, SR.fitW_fit, SR.wid_fit]; omega, by simp [owl, SR.fitW_fit, SR.wid_fit]; omega, hf, ?_, ?_, ?_⟩
    ·simp [owl, SR.fitW_fit, SR.wid_fit, hw]; omega
    ·simp [owl, SR.fitW_fit, SR.wid_fit, SR.wake_fit, hf, hw, hn]; omega
    ·rw [e5, e4]
     exact hg
   ·have e6 : nOf (k : Int) = k := by rw [nOf_e, e3]
    rw [e6, SR.wakes_ge s l (by omega)] at hg
    exact hg
  ·exact hg.elim
 ·exact hg.elim
def Lwake : Nat → Option LoopS := fun i => match i with
 | 0 => some (.frame spec_wake.framed)
 | _ => none
theorem ok_Lwake : ∀ i x, Lwake i = some x → LoopHyp Tryz.prog 131 i x := by
 intro i s h
 unfold Lwake at h
 split at h
 ·cases h; exact ⟨by kernel_rfl, loop_wake⟩
 ·cases h
def cmode (k : Int) : Int := if k = 7 then 1 else if k = 8 then 2 else 0
def SR.closer (s : SR) (id : Int) : Bool := s.is id && decide (thRuns (s.st.getD id.toNat 0) = 0 ∧ opSide (s.kd.getD id.toNat 0) = 3)
def SR.shut (s : SR) (id : Int) : SR :=
 let t := SR.tell { s with md := closeM s.md (cmode (s.kd.getD id.toNat 0)) } id (s.kd.getD id.toNat 0) 1 0
 { t with pc := t.pc.set id.toNat 1 }
def SR.bell (s : SR) : SR := SR.wakes { s with fe := comeE s.fe s.l3, n3 := (allL s.fe s.l3).length, l3 := allL s.fe s.l3 } (allO s.fe s.l3) 0
def SR.bell2 (s : SR) : SR := SR.wakes { s with ee := comeE s.ee s.l4, n4 := (allL s.ee s.l4).length, l4 := allL s.ee s.l4 } (allO s.ee s.l4) 0
def SR.done (t : SR) (id : Int) : SR :=
 let e := thRuns (t.st.getD id.toNat 0)
 { t with st := t.st.set id.toNat (invI e 0 (t.st.getD id.toNat 0)), pc := t.pc.set id.toNat (invI e 0 (t.pc.getD id.toNat 0)), rg := t.rg.set id.toNat (invI e 0 (t.rg.getD id.toNat 0)), sn := t.sn.set id.toNat (invI e 0 (t.sn.getD id.toNat 0)), tr := t.tr.set id.toNat (invI e 0 (t.tr.getD id.toNat 0)), lt := t.lt.set id.toNat (invB e (t.lt.getD id.toNat false)) }
def SR.step (s : SR) (id : Int) : SR :=
 if s.closer id then
  if s.pc.getD id.toNat 0 = 0 then s.shut id
  else if s.pc.getD id.toNat 0 = 1 then { s.bell with pc := s.bell.pc.set id.toNat 2 }
  else s.bell2.done id
 else s
def Fcmode : Pure1 := fun
 | [.int .i64 k] => some (none, .int .i64 (cmode k))
 | _ => none
theorem vc_cmode (k : Int) (r : AV) : VC Tryz.prog (tabS tab0) noL false 175 [.int .i64 k] r = (
 br (ieq k 7) (some (AV.int .i64 1) = some r) (br (ieq k 8) (some (AV.int .i64 2) = some r) (some (AV.int .i64 0) = some r))) := by kernel_rfl
theorem ok_cmode : PureOK Tryz.prog 175 Fcmode := by
 refine tab_plain mixed (l := tab0) ok_tab0 false (by kernel_rfl) fun xs b r h hb wf => ?_
 unfold Fcmode at h
 split at h
 ·rename_i k
  cases h
  try rw [some_f] at hb
  try simp only [WFL, WF, List.mem_cons, List.not_mem_nil, or_false, forall_eq_or_imp, forall_eq, Col.len, and_true, true_and] at wf
  rw [vc_cmode]
  simp [owl, SR.fitW_fit, SR.wid_fit, cmode]
  try grind
 ·cases h
def FthDone : Pure1 := fun
 | [.agg [.int .i64 st, .int .i64 kd, .int .i64 vl, .int .i64 un, .int .i64 pc, .int .i64 rg, .int .i64 sn, .int .i64 tr, .bool lt, .int .i64 rs, .int .i64 gt]] => some (none, .tup [.agg [.int .i64 (invI (thRuns st) 0 st), .int .i64 kd, .int .i64 vl, .int .i64 un, .int .i64 (invI (thRuns st) 0 pc), .int .i64 (invI (thRuns st) 0 rg), .int .i64 (invI (thRuns st) 0 sn), .int .i64 (invI (thRuns st) 0 tr), .bool (invB (thRuns st) lt), .int .i64 rs, .int .i64 gt], .int .i64 (thRuns st)])
 | _ => none
def zq25 (st : Int) (kd : Int) (vl : Int) (un : Int) (pc : Int) (rg : Int) (sn : Int) (tr : Int) (lt : Bool) (rs : Int) (gt : Int) : List AV :=
 [AV.int .i64 st, AV.int .i64 kd, AV.int .i64 vl, AV.int .i64 un, AV.int .i64 pc, AV.int .i64 rg, AV.int .i64 sn, AV.int .i64 tr, AV.bool lt, AV.int .i64 rs, AV.int .i64 gt]
theorem vc_thDone (st kd vl un pc rg sn tr : Int) (lt : Bool) (rs gt : Int) (r : AV) : VC Tryz.prog (tabS tabT3) noL false 132 [.agg [.int .i64 st, .int .i64 kd, .int .i64 vl, .int .i64 un, .int .i64 pc, .int .i64 rg, .int .i64 sn, .int .i64 tr, .bool lt, .int .i64 rs, .int .i64 gt]] r = (
 br (ieq st 0) (some (AV.tup [AV.agg (zq25 st kd vl un pc rg sn tr lt rs gt), AV.int .i64 121]) = some r) (br (ieq st 2) (some (AV.tup [AV.agg (zq25 st kd vl un pc rg sn tr lt rs
 gt), AV.int .i64 122]) = some r) (some (AV.tup [AV.agg [AV.int .i64 0, AV.int .i64 kd, AV.int .i64 vl, AV.int .i64 un, AV.int .i64 0, AV.int .i64 0, AV.int .i64 0, AV.int .i64 0,
 AV.bool false, AV.int .i64 rs, AV.int .i64 gt], AV.int .i64 0]) = some r))) := by kernel_rfl
theorem ok_thDone : PureOK Tryz.prog 132 FthDone := by
 refine tab_plain mixed (l := tabT3) ok_tabT3 false (by kernel_rfl) fun xs b r h hb wf => ?_
 unfold FthDone at h
 split at h
 ·rename_i st kd vl un pc rg sn tr lt rs gt
  cases h
  try rw [some_f] at hb
  try simp only [WFL, WF, List.mem_cons, List.not_mem_nil, or_false, forall_eq_or_imp, forall_eq, Col.len, and_true, true_and] at wf
  rw [vc_thDone]
  dsimp only [zq25]
  by_cases c1 : st = 0 <;> by_cases c2 : st = 2 <;> simp [owl, SR.fitW_fit, SR.wid_fit, invI, invB, thRuns, c1, c2]
 ·cases h
theorem setI_any (l : List Int) (i : Nat) : l.set i (l[i]?.getD 0) = l := by
 by_cases h : i < l.length
 ·exact setI_self l i h
 ·exact List.set_eq_of_length_le (by omega)
theorem SR.wake_neg (s : SR) : s.wake (-1) = s := by
 unfold SR.wake SR.is
 rw [if_neg (by simp)]
theorem SR.tell_nt (s : SR) (a b c d : Int) : (s.tell a b c d).nt = s.nt := by
 unfold SR.tell
 split <;> rfl
theorem SR.wake_nt (s : SR) (x : Int) : (s.wake x).nt = s.nt := by
 unfold SR.wake
 split <;> rfl
theorem SR.wakes_nt (l : List Int) (i : Nat) (s : SR) : (s.wakes l i).nt = s.nt := by
 unfold SR.wakes
 generalize l.drop i = m
 induction m generalizing s with
 | nil => rfl
 | cons x m ih => rw [List.foldl_cons, ih, SR.wake_nt]
theorem allL_len (e : Int) (l : List Int) : (allL e l).length ≤ l.length := by
 unfold allL
 split <;> simp
theorem allO_len (e : Int) (l : List Int) : (allO e l).length ≤ l.length := by
 unfold allO
 split <;> simp
theorem SR.fit_iff (s : SR) : s.fit = true ↔ in64 s.hd s.tl = true ∧ (s.ns ≤ 1000000 ∧ s.n1 ≤ 1000000 ∧ s.n2 ≤ 1000000 ∧ s.n3 ≤ 1000000 ∧ s.n4 ≤ 1000000 ∧ s.nt ≤ 1000000 ∧ s.nl ≤ 1000000) := by
 simp [SR.fit, fewB]
def tabClo1 : List (FuncId × Pure1) := [(75, FthRuns), (57, Fside)] ++ tabC0
theorem ok_tabClo1 : ∀ p ∈ tabClo1, PureOK Tryz.prog p.1 p.2 := by
 intro p hp
 simp only [tabClo1, List.mem_append, List.mem_cons, List.not_mem_nil, or_false] at hp
 rcases hp with (rfl | rfl) | hp
 ·exact ok_thRuns
 ·exact ok_side
 ·exact ok_tabC0 p hp
def Fcloser : Pure1 := fun
 | [a_s, .int .i64 id] => (match asSR a_s with | some s => some (some (SR.fit s), .bool (SR.closer s id)) | none => none)
 | _ => none
theorem vc_closer (s : SR) (id : Int) (r : AV) : VC Tryz.prog (tabS tabClo1) noL false 128 [s.av, .int .i64 id] r = (
 asrt s.fitW (asrt (bimp (bite (bite s.ok (ige id 0) false) (ilt id (ofN s.25)) false) (band (ile 0 id) (ilt id (ofN s.25)))) (br (bite (bite s.ok (ige id 0) false) (ilt id (ofN
 s.25)) false) (some (AV.bool (bite (ieq (thRuns (gI s.26 (nOf id))) 0) (ieq (opSide (gI s.27 (nOf id))) 3) false)) = some r) (some (AV.bool false) = some r)))) := by kernel_rfl
theorem ok_closer : PureOK Tryz.prog 128 Fcloser := by
 refine tab_plain mixed (l := tabClo1) ok_tabClo1 false (by kernel_rfl) fun xs b r h hb wf => ?_
 unfold Fcloser at h
 split at h
 ·rename_i a_s id
  split at h
  ·rename_i s h_s
   obtain rfl := asSR_some h_s
   cases h
   try rw [some_f] at hb
   simp only [WFL, WF, List.mem_cons, List.not_mem_nil, or_false, forall_eq_or_imp, forall_eq, Col.len, and_true, true_and, wf_av] at wf
   rw [vc_closer]
   simp only [bite_and, bite_or]
   by_cases c1 : s.ok = true
   ·by_cases c2 : 0 ≤ id
    ·by_cases c3 : id < s.nt
     ·simp [owl, SR.fitW_fit, SR.wid_fit, hb, c1, c2, c3, SR.closer, SR.is]
      refine ⟨?_, fun hx => absurd hx (by omega)⟩
      rw [Bool.eq_iff_iff]
      simp [owl, SR.fitW_fit, SR.wid_fit]
     ·simp [owl, SR.fitW_fit, SR.wid_fit, hb, c1, c2, c3, SR.closer, SR.is]
    ·have c3 : id < s.nt := by omega
     simp [owl, SR.fitW_fit, SR.wid_fit, hb, c1, c2, c3, SR.closer, SR.is]
   ·simp [owl, SR.fitW_fit, SR.wid_fit, hb, c1, SR.closer, SR.is]
  ·cases h
 ·cases h
def tabClo2 : List (FuncId × Pure1) := [(128, Fcloser), (175, Fcmode), (132, FthDone), (174, Fwclose), (176, Fftell)] ++ tabClo1
theorem ok_tabClo2 : ∀ p ∈ tabClo2, PureOK Tryz.prog p.1 p.2 := by
 intro p hp
 simp only [tabClo2, List.mem_append, List.mem_cons, List.not_mem_nil, or_false] at hp
 rcases hp with (rfl | rfl | rfl | rfl | rfl) | hp
 ·exact ok_closer
 ·exact ok_cmode
 ·exact ok_thDone
 ·exact ok_wclose
 ·exact ok_ftell
 ·exact ok_tabClo1 p hp
def Fstep : Pure1 := fun
 | [a_s, .int .i64 id] => (match asSR a_s with | some s => some (some (SR.fit s), SR.new (SR.step s id)) | none => none)
 | _ => none
def zq26 (s : SR) (id : Int) : Int :=
 gI ({ (s.wake (-1)) with ee := comeE (s.wake (-1)).21 (s.wake (-1)).23, n4 := lenI (allL (s.wake (-1)).21 (s.wake (-1)).23), l4 := allL (s.wake (-1)).21 (s.wake (-1)).23 }.wakes
 (allO (s.wake (-1)).21 (s.wake (-1)).23) 0).26 (nOf id)
def zq27 (s : SR) (id : Int) : Bool :=
 band (ile 0 id) (ilt id (ofN
 ({ (s.wake (-1)) with ee := comeE (s.wake (-1)).21 (s.wake (-1)).23, n4 := lenI (allL (s.wake (-1)).21 (s.wake (-1)).23), l4 := allL (s.wake (-1)).21 (s.wake (-1)).23 }.wakes (allO
 (s.wake (-1)).21 (s.wake (-1)).23) 0).25))
def zq28 (s : SR) (id : Int) : Bool :=
 nlt (nOf id)
 ({ (s.wake (-1)) with ee := comeE (s.wake (-1)).21 (s.wake (-1)).23, n4 := lenI (allL (s.wake (-1)).21 (s.wake (-1)).23), l4 := allL (s.wake (-1)).21 (s.wake (-1)).23 }.wakes (allO
 (s.wake (-1)).21 (s.wake (-1)).23) 0).25
def zq29 (s : SR) (id : Int) : Int :=
 gI (s.wake (-1)).27 (nOf id)
def zq30 (s : SR) : Nat :=
 lenI (allO (s.wake (-1)).18 (s.wake (-1)).20)
def zq31 (s : SR) : Nat :=
 lenI (allO (s.wake (-1)).21 (s.wake (-1)).23)
theorem vc_step (s : SR) (id : Int) (r : AV) : VC Tryz.prog (tabS tabClo2) (oneL 131 Lwake) true 94 [s.av, .int .i64 id] r = (
 asrt s.fit (asrt s.fit (br (bnot (s.closer id)) (some (AV.agg (SR.nw (s.wake (-1)))) = some r) (asrt (band (ile 0 id) (ilt id (ofN (s.wake (-1)).25))) (asrt (nlt (nOf id) (s.wake
 (-1)).25) (br (ieq (gI (s.wake (-1)).30 (nOf id)) 0) (asrt (band (ile 0 id) (ilt id (ofN (s.wake (-1)).25))) (asrt (nlt (nOf id) (s.wake (-1)).25) (asrt
 { (s.wake (-1)) with md := closeM (s.wake (-1)).10 (cmode (zq29 s id)) }.fit (asrt (band (ile 0 id) (ilt id (ofN
 ({ (s.wake (-1)) with md := closeM (s.wake (-1)).10 (cmode (zq29 s id)) }.tell id (zq29 s id) 1 0).25))) (asrt (nlt (nOf id)
 ({ (s.wake (-1)) with md := closeM (s.wake (-1)).10 (cmode (zq29 s id)) }.tell id (zq29 s id) 1 0).25) (some (AV.agg (SR.nw
 { ({ (s.wake (-1)) with md := closeM (s.wake (-1)).10 (cmode (zq29 s id)) }.tell id (zq29 s id) 1 0) with pc := (put ({ (s.wake (-1)) with md := closeM (s.wake (-1)).10 (cmode (zq29 s id)) }.tell id (zq29 s id) 1 0).30 (nOf id) 1) }))
 = some r)))))) (br (ieq (gI (s.wake (-1)).30 (nOf id)) 1) (asrt (nle (s.wake (-1)).19 1073741824) (asrt (band
 { (s.wake (-1)) with fe := comeE (s.wake (-1)).18 (s.wake (-1)).20, n3 := lenI (allL (s.wake (-1)).18 (s.wake (-1)).20), l3 := allL (s.wake (-1)).18 (s.wake (-1)).20 }.fit (band
 (nle (zq30 s) 1000000) (band (ieq (ofN (zq30 s)) (ofN (zq30 s))) (ile 0 (ofN (zq30 s)))))) (asrt (band (ile 0 id) (ilt id (ofN
 ({ (s.wake (-1)) with fe := comeE (s.wake (-1)).18 (s.wake (-1)).20, n3 := lenI (allL (s.wake (-1)).18 (s.wake (-1)).20), l3 := allL (s.wake (-1)).18 (s.wake (-1)).20 }.wakes (allO
 (s.wake (-1)).18 (s.wake (-1)).20) 0).25))) (asrt (nlt (nOf id)
 ({ (s.wake (-1)) with fe := comeE (s.wake (-1)).18 (s.wake (-1)).20, n3 := lenI (allL (s.wake (-1)).18 (s.wake (-1)).20), l3 := allL (s.wake (-1)).18 (s.wake (-1)).20 }.wakes (allO
 (s.wake (-1)).18 (s.wake (-1)).20) 0).25) (some (AV.agg (SR.nw
 { ({ (s.wake (-1)) with fe := comeE (s.wake (-1)).18 (s.wake (-1)).20, n3 := lenI (allL (s.wake (-1)).18 (s.wake (-1)).20), l3 := allL (s.wake (-1)).18 (s.wake (-1)).20 }.wakes (allO (s.wake (-1)).18 (s.wake (-1)).20) 0) with pc := (put ({ (s.wake (-1)) with fe := comeE (s.wake (-1)).18 (s.wake (-1)).20, n3 := lenI (allL (s.wake (-1)).18 (s.wake (-1)).20), l3 := allL (s.wake (-1)).18 (s.wake (-1)).20 }.wakes (allO (s.wake (-1)).18 (s.wake (-1)).20) 0).30 (nOf id) 2) }))
 = some r))))) (asrt (nle (s.wake (-1)).22 1073741824) (asrt (band
 { (s.wake (-1)) with ee := comeE (s.wake (-1)).21 (s.wake (-1)).23, n4 := lenI (allL (s.wake (-1)).21 (s.wake (-1)).23), l4 := allL (s.wake (-1)).21 (s.wake (-1)).23 }.fit (band
 (nle (zq31 s) 1000000) (band (ieq (ofN (zq31 s)) (ofN (zq31 s))) (ile 0 (ofN (zq31 s)))))) (asrt (zq27 s id) (asrt (zq27 s id) (asrt (zq28 s id) (asrt (zq28 s id) (some (AV.agg
 (SR.nw
 { ({ (s.wake (-1)) with ee := comeE (s.wake (-1)).21 (s.wake (-1)).23, n4 := lenI (allL (s.wake (-1)).21 (s.wake (-1)).23), l4 := allL (s.wake (-1)).21 (s.wake (-1)).23 }.wakes (allO (s.wake (-1)).21 (s.wake (-1)).23) 0) with st := (put ({ (s.wake (-1)) with ee := comeE (s.wake (-1)).21 (s.wake (-1)).23, n4 := lenI (allL (s.wake (-1)).21 (s.wake (-1)).23), l4 := allL (s.wake (-1)).21 (s.wake (-1)).23 }.wakes (allO (s.wake (-1)).21 (s.wake (-1)).23) 0).26 (nOf id) (invI (thRuns (zq26 s id)) 0 (zq26 s id))), kd := (put ({ (s.wake (-1)) with ee := comeE (s.wake (-1)).21 (s.wake (-1)).23, n4 := lenI (allL (s.wake (-1)).21 (s.wake (-1)).23), l4 := allL (s.wake (-1)).21 (s.wake (-1)).23 }.wakes (allO (s.wake (-1)).21 (s.wake (-1)).23) 0).27 (nOf id) (gI ({ (s.wake (-1)) with ee := comeE (s.wake (-1)).21 (s.wake (-1)).23, n4 := lenI (allL (s.wake (-1)).21 (s.wake (-1)).23), l4 := allL (s.wake (-1)).21 (s.wake (-1)).23 }.wakes (allO (s.wake (-1)).21 (s.wake (-1)).23) 0).27 (nOf id))), vl := (put ({ (s.wake (-1)) with ee := comeE (s.wake (-1)).21 (s.wake (-1)).23, n4 := lenI (allL (s.wake (-1)).21 (s.wake (-1)).23), l4 := allL (s.wake (-1)).21 (s.wake (-1)).23 }.wakes (allO (s.wake (-1)).21 (s.wake (-1)).23) 0).28 (nOf id) (gI ({ (s.wake (-1)) with ee := comeE (s.wake (-1)).21 (s.wake (-1)).23, n4 := lenI (allL (s.wake (-1)).21 (s.wake (-1)).23), l4 := allL (s.wake (-1)).21 (s.wake (-1)).23 }.wakes (allO (s.wake (-1)).21 (s.wake (-1)).23) 0).28 (nOf id))), un := (put ({ (s.wake (-1)) with ee := comeE (s.wake (-1)).21 (s.wake (-1)).23, n4 := lenI (allL (s.wake (-1)).21 (s.wake (-1)).23), l4 := allL (s.wake (-1)).21 (s.wake (-1)).23 }.wakes (allO (s.wake (-1)).21 (s.wake (-1)).23) 0).29 (nOf id) (gI ({ (s.wake (-1)) with ee := comeE (s.wake (-1)).21 (s.wake (-1)).23, n4 := lenI (allL (s.wake (-1)).21 (s.wake (-1)).23), l4 := allL (s.wake (-1)).21 (s.wake (-1)).23 }.wakes (allO (s.wake (-1)).21 (s.wake (-1)).23) 0).29 (nOf id))), pc := (put ({ (s.wake (-1)) with ee := comeE (s.wake (-1)).21 (s.wake (-1)).23, n4 := lenI (allL (s.wake (-1)).21 (s.wake (-1)).23), l4 := allL (s.wake (-1)).21 (s.wake (-1)).23 }.wakes (allO (s.wake (-1)).21 (s.wake (-1)).23) 0).30 (nOf id) (invI (thRuns (zq26 s id)) 0 (gI ({ (s.wake (-1)) with ee := comeE (s.wake (-1)).21 (s.wake (-1)).23, n4 := lenI (allL (s.wake (-1)).21 (s.wake (-1)).23), l4 := allL (s.wake (-1)).21 (s.wake (-1)).23 }.wakes (allO (s.wake (-1)).21 (s.wake (-1)).23) 0).30 (nOf id)))), rg := (put ({ (s.wake (-1)) with ee := comeE (s.wake (-1)).21 (s.wake (-1)).23, n4 := lenI (allL (s.wake (-1)).21 (s.wake (-1)).23), l4 := allL (s.wake (-1)).21 (s.wake (-1)).23 }.wakes (allO (s.wake (-1)).21 (s.wake (-1)).23) 0).31 (nOf id) (invI (thRuns (zq26 s id)) 0 (gI ({ (s.wake (-1)) with ee := comeE (s.wake (-1)).21 (s.wake (-1)).23, n4 := lenI (allL (s.wake (-1)).21 (s.wake (-1)).23), l4 := allL (s.wake (-1)).21 (s.wake (-1)).23 }.wakes (allO (s.wake (-1)).21 (s.wake (-1)).23) 0).31 (nOf id)))), sn := (put ({ (s.wake (-1)) with ee := comeE (s.wake (-1)).21 (s.wake (-1)).23, n4 := lenI (allL (s.wake (-1)).21 (s.wake (-1)).23), l4 := allL (s.wake (-1)).21 (s.wake (-1)).23 }.wakes (allO (s.wake (-1)).21 (s.wake (-1)).23) 0).32 (nOf id) (invI (thRuns (zq26 s id)) 0 (gI ({ (s.wake (-1)) with ee := comeE (s.wake (-1)).21 (s.wake (-1)).23, n4 := lenI (allL (s.wake (-1)).21 (s.wake (-1)).23), l4 := allL (s.wake (-1)).21 (s.wake (-1)).23 }.wakes (allO (s.wake (-1)).21 (s.wake (-1)).23) 0).32 (nOf id)))), tr := (put ({ (s.wake (-1)) with ee := comeE (s.wake (-1)).21 (s.wake (-1)).23, n4 := lenI (allL (s.wake (-1)).21 (s.wake (-1)).23), l4 := allL (s.wake (-1)).21 (s.wake (-1)).23 }.wakes (allO (s.wake (-1)).21 (s.wake (-1)).23) 0).33 (nOf id) (invI (thRuns (zq26 s id)) 0 (gI ({ (s.wake (-1)) with ee := comeE (s.wake (-1)).21 (s.wake (-1)).23, n4 := lenI (allL (s.wake (-1)).21 (s.wake (-1)).23), l4 := allL (s.wake (-1)).21 (s.wake (-1)).23 }.wakes (allO (s.wake (-1)).21 (s.wake (-1)).23) 0).33 (nOf id)))), lt := (put ({ (s.wake (-1)) with ee := comeE (s.wake (-1)).21 (s.wake (-1)).23, n4 := lenI (allL (s.wake (-1)).21 (s.wake (-1)).23), l4 := allL (s.wake (-1)).21 (s.wake (-1)).23 }.wakes (allO (s.wake (-1)).21 (s.wake (-1)).23) 0).34 (nOf id) (invB (thRuns (zq26 s id)) (gB ({ (s.wake (-1)) with ee := comeE (s.wake (-1)).21 (s.wake (-1)).23, n4 := lenI (allL (s.wake (-1)).21 (s.wake (-1)).23), l4 := allL (s.wake (-1)).21 (s.wake (-1)).23 }.wakes (allO (s.wake (-1)).21 (s.wake (-1)).23) 0).34 (nOf id)))), rs := (put ({ (s.wake (-1)) with ee := comeE (s.wake (-1)).21 (s.wake (-1)).23, n4 := lenI (allL (s.wake (-1)).21 (s.wake (-1)).23), l4 := allL (s.wake (-1)).21 (s.wake (-1)).23 }.wakes (allO (s.wake (-1)).21 (s.wake (-1)).23) 0).35 (nOf id) (gI ({ (s.wake (-1)) with ee := comeE (s.wake (-1)).21 (s.wake (-1)).23, n4 := lenI (allL (s.wake (-1)).21 (s.wake (-1)).23), l4 := allL (s.wake (-1)).21 (s.wake (-1)).23 }.wakes (allO (s.wake (-1)).21 (s.wake (-1)).23) 0).35 (nOf id))), gt := (put ({ (s.wake (-1)) with ee := comeE (s.wake (-1)).21 (s.wake (-1)).23, n4 := lenI (allL (s.wake (-1)).21 (s.wake (-1)).23), l4 := allL (s.wake (-1)).21 (s.wake (-1)).23 }.wakes (allO (s.wake (-1)).21 (s.wake (-1)).23) 0).36 (nOf id) (gI ({ (s.wake (-1)) with ee := comeE (s.wake (-1)).21 (s.wake (-1)).23, n4 := lenI (allL (s.wake (-1)).21 (s.wake (-1)).23), l4 := allL (s.wake (-1)).21 (s.wake (-1)).23 }.wakes (allO (s.wake (-1)).21 (s.wake (-1)).23) 0).36 (nOf id))) }))
 = some r)))))))))))))) := by kernel_rfl
theorem ok_step : PureOK Tryz.prog 94 Fstep := by
 refine tab_loopsAt mixed (l := tabClo2) ok_tabClo2 true 131 Lwake (by kernel_rfl) ok_Lwake fun xs b r h hb wf => ?_
 unfold Fstep at h
 split at h
 ·rename_i a_s id
  split at h
  ·rename_i s h_s
   obtain rfl := asSR_some h_s
   cases h
   try rw [some_f] at hb
   simp only [WFL, WF, List.mem_cons, List.not_mem_nil, or_false, forall_eq_or_imp, forall_eq, Col.len, and_true, true_and, wf_av] at wf
   rw [vc_step]
   dsimp only [SR.nw, zq26, zq27, zq28, zq29, zq30, zq31]
   simp only [SR.wake_neg]
   by_cases c : s.closer id = true
   ·have hc := c
    simp only [SR.closer, SR.is, Bool.and_eq_true, decide_eq_true_eq] at hc
    obtain ⟨⟨c1, c2, c3⟩, c4, c5⟩ := hc
    have q : id.toNat < s.nt := by omega
    by_cases p0 : s.pc.getD id.toNat 0 = 0
    ·have e : SR.step s id = s.shut id := by unfold SR.step; rw [if_pos c, if_pos p0]
     rw [e]
     have p0' : s.pc[id.toNat]?.getD 0 = 0 := p0
     have f1 : ∀ m, ({ s with md := m } : SR).fit = s.fit := fun _ => rfl
     simp [owl, SR.fitW_fit, SR.wid_fit, hb, c, p0', c2, c3, q, f1, SR.tell_nt]
     simp only [SR.shut, SR.new, SR.tell_nt]
     rfl
    ·obtain ⟨hb1, hb2⟩ := (SR.fit_iff s).1 hb
     by_cases p1 : s.pc.getD id.toNat 0 = 1
     ·have e : SR.step s id = { s.bell with pc := s.bell.pc.set id.toNat 2 } := by unfold SR.step; rw [if_pos c, if_neg p0, if_pos p1]
      rw [e]
      have p1' : s.pc[id.toNat]?.getD 0 = 1 := p1
      have k1 := allL_len s.fe s.l3
      have k2 := allO_len s.fe s.l3
      have k3 := wf.l3
      have f2 : ({ s with fe := comeE s.fe s.l3, n3 := (allL s.fe s.l3).length, l3 := allL s.fe s.l3 } : SR).fit = true := (SR.fit_iff _).2 ⟨hb1, by dsimp only; omega⟩
      have k4 : (allO s.fe s.l3).length ≤ 1000000 := by omega
      have k5 : s.n3 ≤ 1073741824 := by omega
      simp [owl, SR.fitW_fit, SR.wid_fit, hb, c, p1', c2, c3, q, f2, k4, k5, SR.wakes_nt]
      simp only [SR.bell, SR.new, SR.wakes_nt]
     ·have e : SR.step s id = s.bell2.done id := by unfold SR.step; rw [if_pos c, if_neg p0, if_neg p1]
      rw [e]
      have p0' : ¬ s.pc[id.toNat]?.getD 0 = 0 := p0
      have p1' : ¬ s.pc[id.toNat]?.getD 0 = 1 := p1
      have k1 := allL_len s.ee s.l4
      have k2 := allO_len s.ee s.l4
      have k3 := wf.l4
      have f2 : ({ s with ee := comeE s.ee s.l4, n4 := (allL s.ee s.l4).length, l4 := allL s.ee s.l4 } : SR).fit = true := (SR.fit_iff _).2 ⟨hb1, by dsimp only; omega⟩
      have k4 : (allO s.ee s.l4).length ≤ 1000000 := by omega
      have k5 : s.n4 ≤ 1073741824 := by omega
      simp [owl, SR.fitW_fit, SR.wid_fit, hb, c, p0', p1', c2, c3, q, f2, k4, k5, SR.wakes_nt]
      simp only [SR.bell2, SR.done, SR.new, SR.wakes_nt, setI_any, List.getD_eq_getElem?_getD]
   ·have e : SR.step s id = s := by unfold SR.step; rw [if_neg c]
    rw [e]
    simp [owl, SR.fitW_fit, SR.wid_fit, hb, c, SR.new]
  ·cases h
 ·cases h
def near1 (pc : Int) : Int := if pc = 1 then 1 else 0
def near2 (pc : Int) : Int := if pc = 1 then 2 else if pc = 2 then 1 else 0
def Fnear : Pure1 := fun
 | [.int .i64 pc] => some (none, .tup [.int .i64 (near1 pc), .int .i64 (near2 pc)])
 | _ => none
theorem vc_near (pc : Int) (r : AV) : VC Tryz.prog (tabS tab0) noL false 104 [.int .i64 pc] r = (
 br (ieq pc 1) (some (AV.tup [AV.int .i64 1, AV.int .i64 2]) = some r) (br (ieq pc 2) (some (AV.tup [AV.int .i64 0, AV.int .i64 1]) = some r) (some (AV.tup [AV.int .i64 0, AV.int
 .i64 0]) = some r))) := by kernel_rfl
theorem ok_near : PureOK Tryz.prog 104 Fnear := by
 refine tab_plain mixed (l := tab0) ok_tab0 false (by kernel_rfl) fun xs b r h hb wf => ?_
 unfold Fnear at h
 split at h
 ·rename_i pc
  cases h
  try rw [some_f] at hb
  try simp only [WFL, WF, List.mem_cons, List.not_mem_nil, or_false, forall_eq_or_imp, forall_eq, Col.len, and_true, true_and] at wf
  rw [vc_near]
  simp [owl, SR.fitW_fit, SR.wid_fit, near1, near2]
  try grind
 ·cases h
theorem SR.wake_pc (s : SR) (x : Int) : (s.wake x).pc = s.pc := by
 unfold SR.wake
 split <;> rfl
theorem SR.wakes_pc (l : List Int) (i : Nat) (s : SR) : (s.wakes l i).pc = s.pc := by
 unfold SR.wakes
 generalize l.drop i = m
 induction m generalizing s with
 | nil => rfl
 | cons x m ih => rw [List.foldl_cons, ih, SR.wake_pc]
theorem SR.wake_st (s : SR) (x : Int) (i : Nat) (h : s.st.getD i 0 ≠ 2) : (s.wake x).st.getD i 0 = s.st.getD i 0 := by
 unfold SR.wake
 split
 ·show (s.st.set x.toNat (wakeSt (s.st.getD x.toNat 0))).getD i 0 = _
  by_cases e : x.toNat = i
  ·subst e
   have : wakeSt (s.st.getD x.toNat 0) = s.st.getD x.toNat 0 := by unfold wakeSt; rw [if_neg h]
   rw [this]
   have := setI_any s.st x.toNat
   rw [← List.getD_eq_getElem?_getD] at this
   rw [this]
  ·simp only [List.getD_eq_getElem?_getD, List.getElem?_set_ne e]
 ·rfl
theorem SR.wakes_st (l : List Int) (i k : Nat) (s : SR) (h : s.st.getD i 0 ≠ 2) : (s.wakes l k).st.getD i 0 = s.st.getD i 0 := by
 unfold SR.wakes
 generalize l.drop k = m
 induction m generalizing s with
 | nil => rfl
 | cons x m ih =>
  have h1 := SR.wake_st s x i h
  rw [List.foldl_cons, ih _ (by rw [h1]; exact h), h1]
theorem SR.closer_is {s : SR} {id : Int} (h : s.closer id = true) : s.ok = true ∧ 0 ≤ id ∧ id < s.nt ∧ thRuns (s.st.getD id.toNat 0) = 0 ∧ opSide (s.kd.getD id.toNat 0) = 3 := by
 simp only [SR.closer, SR.is, Bool.and_eq_true, decide_eq_true_eq] at h
 exact ⟨h.1.1, h.1.2.1, h.1.2.2, h.2.1, h.2.2⟩
theorem SR.wake_rows {s : SR} (h : s.rows) (x : Int) : (s.wake x).rows := by
 unfold SR.wake
 split
 ·exact ⟨h.ss, h.sv, h.l1, h.l2, h.l3, h.l4, by simpa using h.st, h.kd, h.vl, h.un, h.pc, h.rg, h.sn, h.tr, h.lt, h.rs, h.gt, h.c0, h.ks, h.vs, h.rr, h.gs⟩
 ·exact h
theorem SR.wakes_rows (l : List Int) (i : Nat) {s : SR} (h : s.rows) : (s.wakes l i).rows := by
 unfold SR.wakes
 generalize l.drop i = m
 induction m generalizing s with
 | nil => exact h
 | cons x m ih => exact ih (SR.wake_rows h x)
theorem SR.ring2_rows {s : SR} (h : s.rows) : ({ s with ee := comeE s.ee s.l4, n4 := (allL s.ee s.l4).length, l4 := allL s.ee s.l4 } : SR).rows := ⟨h.ss, h.sv, h.l1, h.l2, h.l3, rfl, h.st, h.kd, h.vl, h.un, h.pc, h.rg, h.sn, h.tr, h.lt, h.rs, h.gt, h.c0, h.ks, h.vs, h.rr, h.gs⟩
theorem SR.bell2_rows {s : SR} (h : s.rows) : s.bell2.rows := SR.wakes_rows _ _ (SR.ring2_rows h)
end Go.Own
end
