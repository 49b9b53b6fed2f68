/- The walk of the bounds of a configuration: a function that yields: each order of its one region. WRITTEN BY bounds.py. -/
import Derived.Test.YtdoapbopldhakaaGreatFabA
import Derived.RangeFuncNested
import Derived.Shelf.Abstract
import Derived.WalkKit
import Derived.OwnWalkIn
import Derived.TacticsInMore
namespace Go.Own
open Go Go.Proofs Go.RowKit
set_option maxRecDepth 100000
set_option linter.unusedVariables false
set_option linter.unusedSimpArgs false
set_option linter.unusedSectionVars false
set_option maxHeartbeats 1000000

def regOps : Code → Array Oper
  | .seq _ (.region _ ops _) => ops
  | _ => #[]
noncomputable def bops : Array Oper := match Tryz.f60.body with
  | some c => regOps c
  | none => #[]
abbrev AnyB (n : Nat) (Q : Exit → Act → World → Prop) := wpAnyIn Fence.wide n Tryz.prog .any bops Q

section
variable {n fuel : Nat} {Q : Exit → Act → World → Prop} {listed : Array Bool} {tm : Array Value} {w : World} {v : Value} {k : Nat}

noncomputable def opB (k : Nat) : Oper := bops.getD k default
/-- It may come up, and nothing hangs on when. -/
noncomputable def freeB (listed : Array Bool) (k : Nat) : Bool := decide (k < bops.size) && Region.free .any bops listed k && (Region.ready .any bops listed).contains k && (match (opB k).dst with | some d => d == k + 4 | none => false)
noncomputable def onlyB (listed : Array Bool) (k : Nat) : Bool := decide (k < bops.size) && (match (opB k).dst with | some d => d == k + 4 | none => false) && (match Region.ready .any bops listed with | [j] => j == k | _ => false)
theorem noSel : Region.noSelect bops = true := by kernel_rfl
theorem opB_at {k : Nat} (h : k < bops.size) : bops[k]? = some (opB k) := by
  unfold opB
  rw [Array.getD_eq_getD_getElem?, Array.getElem?_eq_getElem h]
  rfl
theorem dst_of {k : Nat} (h : (match (opB k).dst with | some d => d == k + 4 | none => false) = true) : (opB k).dst = some (k + 4) := by
  split at h
  · rename_i d hd; rw [hd]; simpa using h
  · cases h

theorem takeW (h1 : freeB listed k = true) (h2 : Region.wanted (opB k) (yielded bops tm) = true) (h3 : ∀ w, (execOp (Act.eval ⟨tm, []⟩) (opB k)).run Tryz.prog w = .ok (.value v) w) (h4 : ∀ w, (opB k).about Tryz.prog w (Act.eval ⟨tm, []⟩) = none)
    (hQ : ∀ c a w, Q (.panic c) (a.put (some (k + 4)) v) w → Q (.panic c) a w)
    (h : AnyB n Q fuel (listed.setIfInBounds k true) ⟨tm.setIfInBounds (k + 4) v, []⟩ w) : AnyB n Q (fuel + 1) listed ⟨tm, []⟩ w := by
  unfold freeB at h1
  simp only [Bool.and_eq_true, decide_eq_true_eq] at h1
  obtain ⟨⟨⟨a1, a2⟩, a3⟩, a4⟩ := h1
  have a5 := dst_of a4
  refine wpAnyIn_take (i := k) rfl (opB_at a1) noSel a2 a3 (v := v) ?_ ⟨.inl ⟨h2, h3⟩, h4⟩ ?_
  · rw [a5]; exact hQ
  · rw [a5]; exact h

theorem takeS (h1 : freeB listed k = true) (h2 : Region.wanted (opB k) (yielded bops tm) = false) (h4 : ∀ w, (opB k).about Tryz.prog w (Act.eval ⟨tm, []⟩) = none)
    (hQ : ∀ c a w, Q (.panic c) (a.put (some (k + 4)) undef) w → Q (.panic c) a w)
    (h : AnyB n Q fuel (listed.setIfInBounds k true) ⟨tm.setIfInBounds (k + 4) undef, []⟩ w) : AnyB n Q (fuel + 1) listed ⟨tm, []⟩ w := by
  unfold freeB at h1
  simp only [Bool.and_eq_true, decide_eq_true_eq] at h1
  obtain ⟨⟨⟨a1, a2⟩, a3⟩, a4⟩ := h1
  have a5 := dst_of a4
  refine wpAnyIn_take (i := k) rfl (opB_at a1) noSel a2 a3 (v := undef) ?_ ⟨.inr ⟨h2, rfl⟩, h4⟩ ?_
  · rw [a5]; exact hQ
  · rw [a5]; exact h

theorem only_spec (h : onlyB listed k = true) : k < bops.size ∧ (opB k).dst = some (k + 4) ∧ Region.ready .any bops listed = [k] := by
  unfold onlyB at h
  simp only [Bool.and_eq_true, decide_eq_true_eq] at h
  obtain ⟨⟨a1, a2⟩, a3⟩ := h
  refine ⟨a1, dst_of a2, ?_⟩
  split at a3
  · rename_i j hj; rw [hj]; simpa using a3
  · cases a3

theorem readyS (h1 : onlyB listed k = true) (h2 : Region.wanted (opB k) (yielded bops tm) = false)
    (h : AnyB n Q fuel (listed.setIfInBounds k true) ⟨tm.setIfInBounds (k + 4) undef, []⟩ w) : AnyB n Q (fuel + 1) listed ⟨tm, []⟩ w := by
  obtain ⟨a1, a2, a3⟩ := only_spec h1
  refine wpAnyIn_all a3 (by simp) (fun i hi => ?_)
  obtain rfl := List.mem_singleton.1 hi
  unfold wpOpIn
  rw [opB_at a1]
  simp only [h2, Bool.false_eq_true, if_false]
  refine ⟨fun _ _ => trivial, ?_⟩
  rw [a2]; exact h

/-- One that is carried out, whichever may come up. -/
theorem opW (h0 : k < bops.size ∧ (opB k).dst = some (k + 4)) (h2 : Region.wanted (opB k) (yielded bops tm) = true) {K : Act → World → Prop}
    (h : (opB k).uponIn Fence.wide n Tryz.prog ⟨tm, []⟩ K Q ((execOp (Act.eval ⟨tm, []⟩) (opB k)).run Tryz.prog w)) : wpOpIn Fence.wide n Tryz.prog bops Q k K ⟨tm, []⟩ w := by
  unfold wpOpIn
  rw [opB_at h0.1]
  simp only [h2, if_true]
  exact ⟨fun _ _ => trivial, h⟩

theorem readyV (h1 : onlyB listed k = true) (h2 : Region.wanted (opB k) (yielded bops tm) = true) (h3 : (execOp (Act.eval ⟨tm, []⟩) (opB k)).run Tryz.prog w = .ok (.value v) w)
    (h : AnyB n Q fuel (listed.setIfInBounds k true) ⟨tm.setIfInBounds (k + 4) v, []⟩ w) : AnyB n Q (fuel + 1) listed ⟨tm, []⟩ w := by
  obtain ⟨a1, a2, a3⟩ := only_spec h1
  refine wpAnyIn_all a3 (by simp) (fun i hi => ?_)
  obtain rfl := List.mem_singleton.1 hi
  refine opW ⟨a1, a2⟩ h2 ?_
  rw [h3, Oper.uponIn_value, a2]
  exact h


theorem canon {listed' : Array Bool} {tm' : Array Value} (h1 : listed = listed') (h2 : tm = tm') (h : AnyB n Q fuel listed' ⟨tm', []⟩ w) : AnyB n Q fuel listed ⟨tm, []⟩ w := by
  subst h1; subst h2; exact h

noncomputable def haveB (k : Nat) : Bool := decide (k < bops.size) && (match (opB k).dst with | some d => d == k + 4 | none => false)
theorem have_spec (h : haveB k = true) : k < bops.size ∧ (opB k).dst = some (k + 4) := by
  unfold haveB at h
  simp only [Bool.and_eq_true, decide_eq_true_eq] at h
  exact ⟨h.1, dst_of h.2⟩

theorem wayV {K : Act → World → Prop} (h0 : haveB k = true) (h2 : Region.wanted (opB k) (yielded bops tm) = true) (h3 : (execOp (Act.eval ⟨tm, []⟩) (opB k)).run Tryz.prog w = .ok (.value v) w)
    (h : K ⟨tm.setIfInBounds (k + 4) v, []⟩ w) : wpOpIn Fence.wide n Tryz.prog bops Q k K ⟨tm, []⟩ w := by
  refine opW (have_spec h0) h2 ?_
  rw [h3, Oper.uponIn_value, (have_spec h0).2]
  exact h

theorem wayC {K : Act → World → Prop} {f : FuncId} {args : Array Value} {R : Value → World → Prop} (h0 : haveB k = true) (h2 : Region.wanted (opB k) (yielded bops tm) = true) (h3 : (execOp (Act.eval ⟨tm, []⟩) (opB k)).run Tryz.prog w = .ok (.enter f args) w)
    (hc : ∀ m, CallsIn Fence.wide m Tryz.prog f args w fun e w' => ∃ v, e = .returned v ∧ R v w') (h : ∀ v w', R v w' → K ⟨tm.setIfInBounds (k + 4) v, []⟩ w') : wpOpIn Fence.wide n Tryz.prog bops Q k K ⟨tm, []⟩ w := by
  refine opW (have_spec h0) h2 ?_
  rw [h3, Oper.uponIn_enter]
  refine ⟨fun h => (by cases h), (hc _).mono ?_⟩
  rintro e w' ⟨v, rfl, hr⟩
  show K (Act.put ⟨tm, []⟩ (opB k).dst v) w'
  rw [(have_spec h0).2]
  exact h v w' hr

theorem wayY {K : Act → World → Prop} {f : FuncId} {l : Nat} {tmps : Array Value} {assign body : Code} {R : Bool → World → Prop} (h0 : haveB k = true) (h2 : Region.wanted (opB k) (yielded bops tm) = true) (h3 : (execOp (Act.eval ⟨tm, []⟩) (opB k)).run Tryz.prog w = .ok (.round l f tmps assign body) w)
    (hc : ∀ m, RoundIn Fence.wide m Tryz.prog l f tmps assign body w fun e w' => ∃ b, e = .returned (.bool b) ∧ R b w') (h : ∀ b w', R b w' → K ⟨tm.setIfInBounds (k + 4) (.bool b), []⟩ w') : wpOpIn Fence.wide n Tryz.prog bops Q k K ⟨tm, []⟩ w := by
  refine opW (have_spec h0) h2 ?_
  rw [h3, Oper.uponIn_round]
  refine ⟨fun h => (by cases h), (hc _).mono ?_⟩
  rintro e w' ⟨b, rfl, hr⟩
  show K (Act.put ⟨tm, []⟩ (opB k).dst (.bool b)) w'
  rw [(have_spec h0).2]
  exact h b w' hr

theorem only (h1 : onlyB listed k = true) (h : wpOpIn Fence.wide n Tryz.prog bops Q k (AnyB n Q fuel (listed.setIfInBounds k true)) ⟨tm, []⟩ w) : AnyB n Q (fuel + 1) listed ⟨tm, []⟩ w := by
  obtain ⟨a1, a2, a3⟩ := only_spec h1
  refine wpAnyIn_all a3 (by simp) (fun i hi => ?_)
  obtain rfl := List.mem_singleton.1 hi
  exact h

theorem two {i j : Nat} (h1 : Region.ready .any bops listed = [i, j]) (hi : wpOpIn Fence.wide n Tryz.prog bops Q i (AnyB n Q fuel (listed.setIfInBounds i true)) ⟨tm, []⟩ w) (hj : wpOpIn Fence.wide n Tryz.prog bops Q j (AnyB n Q fuel (listed.setIfInBounds j true)) ⟨tm, []⟩ w) : AnyB n Q (fuel + 1) listed ⟨tm, []⟩ w := by
  refine wpAnyIn_all h1 (by simp) (fun x hx => ?_)
  simp only [List.mem_cons, List.not_mem_nil, or_false] at hx
  rcases hx with rfl | rfl
  · exact hi
  · exact hj

end

/-- What the walk of the bounds stands on: what lies in the box; the tries; a round; the ways out. -/
structure BHyp (n : Nat) (Q : Exit → Act → World → Prop) (lg th po wt sp yi T : Int) (sg : Bool) (l B : Nat) (J Jx : World → Prop) : Prop where
  box : ∀ W, J W → W.cell? ⟨B, 0, none⟩ = some (.int .i64 lg) ∧ W.cell? ⟨B, 1, none⟩ = some (.int .i64 th) ∧ W.cell? ⟨B, 2, none⟩ = some (.int .i64 po) ∧ W.cell? ⟨B, 3, none⟩ = some (.int .i64 wt) ∧ W.cell? ⟨B, 4, none⟩ = some (.int .i64 sp) ∧ W.cell? ⟨B, 5, none⟩ = some (.int .i64 yi) ∧ W.cell? ⟨B, 6, none⟩ = some (.bool sg)
  tries : ∀ W m, J W → CallsIn Fence.wide m Tryz.prog 81 #[.agg #[.int .i64 lg, .int .i64 th, .int .i64 po, .int .i64 wt, .int .i64 sp, .int .i64 yi, .bool sg]] W fun e W' => ∃ v, e = .returned v ∧ v = .int .i64 T ∧ J W'
  round : ∀ W (x a b : Int), J W → ∃ f tmps assign body, (Instr.yield l #[.int .i64 x, .agg #[.int .i64 a, .int .i64 b]]).run Tryz.prog W = .ok (.round l f tmps assign body) W ∧ ∀ m, RoundIn Fence.wide m Tryz.prog l f tmps assign body W fun e W' => ∃ c, e = .returned (.bool c) ∧ ((c = true ∧ (a ≤ x ∧ x ≤ b) ∧ J W') ∨ (c = false ∧ ¬ (a ≤ x ∧ x ≤ b) ∧ Jx W'))
  dies : ∀ c a t v w, Q (.panic c) (Act.put a t v) w → Q (.panic c) a w
  good : ∀ tm W, J W → (1 ≤ lg ∧ lg ≤ 6 ∧ 1 ≤ th ∧ th ≤ 16 ∧ 0 ≤ po ∧ po ≤ 2 ∧ 0 ≤ wt ∧ wt ≤ 3 ∧ 0 ≤ sp ∧ sp ≤ T ∧ 0 ≤ yi ∧ yi ≤ T) → Q .normal ⟨tm, []⟩ W
  bad : ∀ tm W, Jx W → ¬ (1 ≤ lg ∧ lg ≤ 6 ∧ 1 ≤ th ∧ th ≤ 16 ∧ 0 ≤ po ∧ po ≤ 2 ∧ 0 ≤ wt ∧ wt ≤ 3 ∧ 0 ≤ sp ∧ sp ≤ T ∧ 0 ≤ yi ∧ yi ≤ T) → Q .normal ⟨tm, []⟩ W

theorem ld2 {n : Nat} {Q : Exit → Act → World → Prop} {lg th po wt sp yi T : Int} {sg : Bool} {l B : Nat} {J Jx : World → Prop} (hH : BHyp n Q lg th po wt sp yi T sg l B J Jx) {W : World} {tm : Array Value} (hw : J W) (ht : tm[5]? = some (.pointer (some ⟨B, 0, none⟩))) : (execOp (Act.eval ⟨tm, []⟩) (opB 2)).run Tryz.prog W = .ok (.value (.int .i64 lg)) W := by
  obtain ⟨q0, q1, q2, q3, q4, q5, q6⟩ := hH.box W hw
  have e : opB 2 = { dst := some 6, op := .load 3 (.tmp 5), type := 3, pos := (opB 2).pos, after := (opB 2).after, guard := none } := by kernel_rfl
  have ht' : Act.eval ⟨tm, []⟩ (.tmp 5) = .pointer (some ⟨B, 0, none⟩) := by simp [Act.eval, Array.getD_eq_getD_getElem?, ht]
  rw [e]
  go_simp

theorem ld8 {n : Nat} {Q : Exit → Act → World → Prop} {lg th po wt sp yi T : Int} {sg : Bool} {l B : Nat} {J Jx : World → Prop} (hH : BHyp n Q lg th po wt sp yi T sg l B J Jx) {W : World} {tm : Array Value} (hw : J W) (ht : tm[11]? = some (.pointer (some ⟨B, 1, none⟩))) : (execOp (Act.eval ⟨tm, []⟩) (opB 8)).run Tryz.prog W = .ok (.value (.int .i64 th)) W := by
  obtain ⟨q0, q1, q2, q3, q4, q5, q6⟩ := hH.box W hw
  have e : opB 8 = { dst := some 12, op := .load 3 (.tmp 11), type := 3, pos := (opB 8).pos, after := (opB 8).after, guard := some (5, true) } := by kernel_rfl
  have ht' : Act.eval ⟨tm, []⟩ (.tmp 11) = .pointer (some ⟨B, 1, none⟩) := by simp [Act.eval, Array.getD_eq_getD_getElem?, ht]
  rw [e]
  go_simp

theorem ld15 {n : Nat} {Q : Exit → Act → World → Prop} {lg th po wt sp yi T : Int} {sg : Bool} {l B : Nat} {J Jx : World → Prop} (hH : BHyp n Q lg th po wt sp yi T sg l B J Jx) {W : World} {tm : Array Value} (hw : J W) (ht : tm[18]? = some (.pointer (some ⟨B, 2, none⟩))) : (execOp (Act.eval ⟨tm, []⟩) (opB 15)).run Tryz.prog W = .ok (.value (.int .i64 po)) W := by
  obtain ⟨q0, q1, q2, q3, q4, q5, q6⟩ := hH.box W hw
  have e : opB 15 = { dst := some 19, op := .load 3 (.tmp 18), type := 3, pos := (opB 15).pos, after := (opB 15).after, guard := some (12, true) } := by kernel_rfl
  have ht' : Act.eval ⟨tm, []⟩ (.tmp 18) = .pointer (some ⟨B, 2, none⟩) := by simp [Act.eval, Array.getD_eq_getD_getElem?, ht]
  rw [e]
  go_simp

theorem ld22 {n : Nat} {Q : Exit → Act → World → Prop} {lg th po wt sp yi T : Int} {sg : Bool} {l B : Nat} {J Jx : World → Prop} (hH : BHyp n Q lg th po wt sp yi T sg l B J Jx) {W : World} {tm : Array Value} (hw : J W) (ht : tm[25]? = some (.pointer (some ⟨B, 3, none⟩))) : (execOp (Act.eval ⟨tm, []⟩) (opB 22)).run Tryz.prog W = .ok (.value (.int .i64 wt)) W := by
  obtain ⟨q0, q1, q2, q3, q4, q5, q6⟩ := hH.box W hw
  have e : opB 22 = { dst := some 26, op := .load 3 (.tmp 25), type := 3, pos := (opB 22).pos, after := (opB 22).after, guard := some (19, true) } := by kernel_rfl
  have ht' : Act.eval ⟨tm, []⟩ (.tmp 25) = .pointer (some ⟨B, 3, none⟩) := by simp [Act.eval, Array.getD_eq_getD_getElem?, ht]
  rw [e]
  go_simp

theorem ld29 {n : Nat} {Q : Exit → Act → World → Prop} {lg th po wt sp yi T : Int} {sg : Bool} {l B : Nat} {J Jx : World → Prop} (hH : BHyp n Q lg th po wt sp yi T sg l B J Jx) {W : World} {tm : Array Value} (hw : J W) (ht : tm[32]? = some (.pointer (some ⟨B, 4, none⟩))) : (execOp (Act.eval ⟨tm, []⟩) (opB 29)).run Tryz.prog W = .ok (.value (.int .i64 sp)) W := by
  obtain ⟨q0, q1, q2, q3, q4, q5, q6⟩ := hH.box W hw
  have e : opB 29 = { dst := some 33, op := .load 3 (.tmp 32), type := 3, pos := (opB 29).pos, after := (opB 29).after, guard := some (26, true) } := by kernel_rfl
  have ht' : Act.eval ⟨tm, []⟩ (.tmp 32) = .pointer (some ⟨B, 4, none⟩) := by simp [Act.eval, Array.getD_eq_getD_getElem?, ht]
  rw [e]
  go_simp

theorem ld30 {n : Nat} {Q : Exit → Act → World → Prop} {lg th po wt sp yi T : Int} {sg : Bool} {l B : Nat} {J Jx : World → Prop} (hH : BHyp n Q lg th po wt sp yi T sg l B J Jx) {W : World} {tm : Array Value} (hw : J W) (ht : tm[2]? = some (.pointer (some ⟨B, 0, none⟩))) : (execOp (Act.eval ⟨tm, []⟩) (opB 30)).run Tryz.prog W = .ok (.value (.agg #[.int .i64 lg, .int .i64 th, .int .i64 po, .int .i64 wt, .int .i64 sp, .int .i64 yi, .bool sg])) W := by
  obtain ⟨q0, q1, q2, q3, q4, q5, q6⟩ := hH.box W hw
  have e : opB 30 = { dst := some 34, op := .load 93 (.tmp 2), type := 93, pos := (opB 30).pos, after := (opB 30).after, guard := some (26, true) } := by kernel_rfl
  have ht' : Act.eval ⟨tm, []⟩ (.tmp 2) = .pointer (some ⟨B, 0, none⟩) := by simp [Act.eval, Array.getD_eq_getD_getElem?, ht]
  rw [e]
  go_simp

theorem ld38 {n : Nat} {Q : Exit → Act → World → Prop} {lg th po wt sp yi T : Int} {sg : Bool} {l B : Nat} {J Jx : World → Prop} (hH : BHyp n Q lg th po wt sp yi T sg l B J Jx) {W : World} {tm : Array Value} (hw : J W) (ht : tm[41]? = some (.pointer (some ⟨B, 5, none⟩))) : (execOp (Act.eval ⟨tm, []⟩) (opB 38)).run Tryz.prog W = .ok (.value (.int .i64 yi)) W := by
  obtain ⟨q0, q1, q2, q3, q4, q5, q6⟩ := hH.box W hw
  have e : opB 38 = { dst := some 42, op := .load 3 (.tmp 41), type := 3, pos := (opB 38).pos, after := (opB 38).after, guard := some (35, true) } := by kernel_rfl
  have ht' : Act.eval ⟨tm, []⟩ (.tmp 41) = .pointer (some ⟨B, 5, none⟩) := by simp [Act.eval, Array.getD_eq_getD_getElem?, ht]
  rw [e]
  go_simp

theorem ld39 {n : Nat} {Q : Exit → Act → World → Prop} {lg th po wt sp yi T : Int} {sg : Bool} {l B : Nat} {J Jx : World → Prop} (hH : BHyp n Q lg th po wt sp yi T sg l B J Jx) {W : World} {tm : Array Value} (hw : J W) (ht : tm[2]? = some (.pointer (some ⟨B, 0, none⟩))) : (execOp (Act.eval ⟨tm, []⟩) (opB 39)).run Tryz.prog W = .ok (.value (.agg #[.int .i64 lg, .int .i64 th, .int .i64 po, .int .i64 wt, .int .i64 sp, .int .i64 yi, .bool sg])) W := by
  obtain ⟨q0, q1, q2, q3, q4, q5, q6⟩ := hH.box W hw
  have e : opB 39 = { dst := some 43, op := .load 93 (.tmp 2), type := 93, pos := (opB 39).pos, after := (opB 39).after, guard := some (35, true) } := by kernel_rfl
  have ht' : Act.eval ⟨tm, []⟩ (.tmp 2) = .pointer (some ⟨B, 0, none⟩) := by simp [Act.eval, Array.getD_eq_getD_getElem?, ht]
  rw [e]
  go_simp

theorem bf0_41 {n : Nat} {Q : Exit → Act → World → Prop} {lg th po wt sp yi T : Int} {sg : Bool} {l B : Nat} {J Jx : World → Prop} (hH : BHyp n Q lg th po wt sp yi T sg l B J Jx) {W : World} (hx : Jx W) (hb : ¬ (1 ≤ lg ∧ lg ≤ 6)) : AnyB n Q 3 #[true, true, true, true, true, true, true, true, true, true, true, true, true, true, true, true, true, true, true, true, true, true, true, true, true, true, true, true, true, true, true, true, true, true, true, true, true, true, true, true, true, false, false, false] ⟨#[.agg #[.int .i64 lg, .int .i64 th, .int .i64 po, .int .i64 wt, .int .i64 sp, .int .i64 yi, .bool sg], .func (.yield l) #[] #[], .pointer (some ⟨B, 0, none⟩), undef, (.func (.yield l) #[] #[]), (.pointer (some ⟨B, 0, none⟩)), (.int .i64 lg), (.agg #[.int .i64 1, .int .i64 6]), (.bool false), (.bool false), undef, undef, undef, undef, undef, (.bool false), (.bool false), undef, undef, undef, undef, undef, (.bool false), (.bool false), undef, undef, undef, undef, undef, (.bool false), (.bool false), undef, undef, undef, undef, undef, undef, undef, (.bool false), (.bool false), undef, undef, undef, undef, undef, undef, undef, undef], []⟩ W := by
  refine takeS (k := 41) (by kernel_rfl) (by kernel_rfl) (fun w => by kernel_rfl) (fun c a w => hH.dies c a _ _ w) ?_
  refine takeS (k := 42) (by kernel_rfl) (by kernel_rfl) (fun w => by kernel_rfl) (fun c a w => hH.dies c a _ _ w) ?_
  refine takeW (k := 43) (v := (.bool false)) (by kernel_rfl) (by kernel_rfl) (fun w => by kernel_rfl) (fun w => by kernel_rfl) (fun c a w => hH.dies c a _ _ w) ?_
  exact wpAnyIn_done (by kernel_rfl) (hH.bad _ _ hx (by omega)) _

theorem bf0_32 {n : Nat} {Q : Exit → Act → World → Prop} {lg th po wt sp yi T : Int} {sg : Bool} {l B : Nat} {J Jx : World → Prop} (hH : BHyp n Q lg th po wt sp yi T sg l B J Jx) {W : World} (hx : Jx W) (hb : ¬ (1 ≤ lg ∧ lg ≤ 6)) : AnyB n Q 12 #[true, true, true, true, true, true, true, true, true, true, true, true, true, true, true, true, true, true, true, true, true, true, true, true, true, true, true, true, true, true, true, true, false, false, false, false, false, false, false, false, false, false, false, false] ⟨#[.agg #[.int .i64 lg, .int .i64 th, .int .i64 po, .int .i64 wt, .int .i64 sp, .int .i64 yi, .bool sg], .func (.yield l) #[] #[], .pointer (some ⟨B, 0, none⟩), undef, (.func (.yield l) #[] #[]), (.pointer (some ⟨B, 0, none⟩)), (.int .i64 lg), (.agg #[.int .i64 1, .int .i64 6]), (.bool false), (.bool false), undef, undef, undef, undef, undef, (.bool false), (.bool false), undef, undef, undef, undef, undef, (.bool false), (.bool false), undef, undef, undef, undef, undef, (.bool false), (.bool false), undef, undef, undef, undef, undef, undef, undef, undef, undef, undef, undef, undef, undef, undef, undef, undef, undef], []⟩ W := by
  refine takeS (k := 32) (by kernel_rfl) (by kernel_rfl) (fun w => by kernel_rfl) (fun c a w => hH.dies c a _ _ w) ?_
  refine takeS (k := 33) (by kernel_rfl) (by kernel_rfl) (fun w => by kernel_rfl) (fun c a w => hH.dies c a _ _ w) ?_
  refine takeW (k := 34) (v := (.bool false)) (by kernel_rfl) (by kernel_rfl) (fun w => by kernel_rfl) (fun w => by kernel_rfl) (fun c a w => hH.dies c a _ _ w) ?_
  refine takeW (k := 35) (v := (.bool false)) (by kernel_rfl) (by kernel_rfl) (fun w => by kernel_rfl) (fun w => by kernel_rfl) (fun c a w => hH.dies c a _ _ w) ?_
  refine takeS (k := 36) (by kernel_rfl) (by kernel_rfl) (fun w => by kernel_rfl) (fun c a w => hH.dies c a _ _ w) ?_
  refine takeS (k := 37) (by kernel_rfl) (by kernel_rfl) (fun w => by kernel_rfl) (fun c a w => hH.dies c a _ _ w) ?_
  refine takeS (k := 38) (by kernel_rfl) (by kernel_rfl) (fun w => by kernel_rfl) (fun c a w => hH.dies c a _ _ w) ?_
  refine takeS (k := 39) (by kernel_rfl) (by kernel_rfl) (fun w => by kernel_rfl) (fun c a w => hH.dies c a _ _ w) ?_
  refine readyS (k := 40) (by kernel_rfl) (by kernel_rfl) ?_
  exact canon (by kernel_rfl) (by kernel_rfl) (bf0_41 hH hx hb)

theorem bf0_23 {n : Nat} {Q : Exit → Act → World → Prop} {lg th po wt sp yi T : Int} {sg : Bool} {l B : Nat} {J Jx : World → Prop} (hH : BHyp n Q lg th po wt sp yi T sg l B J Jx) {W : World} (hx : Jx W) (hb : ¬ (1 ≤ lg ∧ lg ≤ 6)) : AnyB n Q 21 #[true, true, true, true, true, true, true, true, true, true, true, true, true, true, true, true, true, true, true, true, true, true, true, false, false, false, false, false, false, false, false, false, false, false, false, false, false, false, false, false, false, false, false, false] ⟨#[.agg #[.int .i64 lg, .int .i64 th, .int .i64 po, .int .i64 wt, .int .i64 sp, .int .i64 yi, .bool sg], .func (.yield l) #[] #[], .pointer (some ⟨B, 0, none⟩), undef, (.func (.yield l) #[] #[]), (.pointer (some ⟨B, 0, none⟩)), (.int .i64 lg), (.agg #[.int .i64 1, .int .i64 6]), (.bool false), (.bool false), undef, undef, undef, undef, undef, (.bool false), (.bool false), undef, undef, undef, undef, undef, (.bool false), (.bool false), undef, undef, undef, undef, undef, undef, undef, undef, undef, undef, undef, undef, undef, undef, undef, undef, undef, undef, undef, undef, undef, undef, undef, undef], []⟩ W := by
  refine takeS (k := 23) (by kernel_rfl) (by kernel_rfl) (fun w => by kernel_rfl) (fun c a w => hH.dies c a _ _ w) ?_
  refine takeS (k := 24) (by kernel_rfl) (by kernel_rfl) (fun w => by kernel_rfl) (fun c a w => hH.dies c a _ _ w) ?_
  refine takeW (k := 25) (v := (.bool false)) (by kernel_rfl) (by kernel_rfl) (fun w => by kernel_rfl) (fun w => by kernel_rfl) (fun c a w => hH.dies c a _ _ w) ?_
  refine takeW (k := 26) (v := (.bool false)) (by kernel_rfl) (by kernel_rfl) (fun w => by kernel_rfl) (fun w => by kernel_rfl) (fun c a w => hH.dies c a _ _ w) ?_
  refine takeS (k := 27) (by kernel_rfl) (by kernel_rfl) (fun w => by kernel_rfl) (fun c a w => hH.dies c a _ _ w) ?_
  refine takeS (k := 28) (by kernel_rfl) (by kernel_rfl) (fun w => by kernel_rfl) (fun c a w => hH.dies c a _ _ w) ?_
  refine takeS (k := 29) (by kernel_rfl) (by kernel_rfl) (fun w => by kernel_rfl) (fun c a w => hH.dies c a _ _ w) ?_
  refine takeS (k := 30) (by kernel_rfl) (by kernel_rfl) (fun w => by kernel_rfl) (fun c a w => hH.dies c a _ _ w) ?_
  refine readyS (k := 31) (by kernel_rfl) (by kernel_rfl) ?_
  exact canon (by kernel_rfl) (by kernel_rfl) (bf0_32 hH hx hb)

theorem bf0_14 {n : Nat} {Q : Exit → Act → World → Prop} {lg th po wt sp yi T : Int} {sg : Bool} {l B : Nat} {J Jx : World → Prop} (hH : BHyp n Q lg th po wt sp yi T sg l B J Jx) {W : World} (hx : Jx W) (hb : ¬ (1 ≤ lg ∧ lg ≤ 6)) : AnyB n Q 30 #[true, true, true, true, true, true, true, true, true, true, true, true, true, true, false, false, false, false, false, false, false, false, false, false, false, false, false, false, false, false, false, false, false, false, false, false, false, false, false, false, false, false, false, false] ⟨#[.agg #[.int .i64 lg, .int .i64 th, .int .i64 po, .int .i64 wt, .int .i64 sp, .int .i64 yi, .bool sg], .func (.yield l) #[] #[], .pointer (some ⟨B, 0, none⟩), undef, (.func (.yield l) #[] #[]), (.pointer (some ⟨B, 0, none⟩)), (.int .i64 lg), (.agg #[.int .i64 1, .int .i64 6]), (.bool false), (.bool false), undef, undef, undef, undef, undef, (.bool false), (.bool false), undef, undef, undef, undef, undef, undef, undef, undef, undef, undef, undef, undef, undef, undef, undef, undef, undef, undef, undef, undef, undef, undef, undef, undef, undef, undef, undef, undef, undef, undef, undef], []⟩ W := by
  refine takeS (k := 14) (by kernel_rfl) (by kernel_rfl) (fun w => by kernel_rfl) (fun c a w => hH.dies c a _ _ w) ?_
  refine takeS (k := 15) (by kernel_rfl) (by kernel_rfl) (fun w => by kernel_rfl) (fun c a w => hH.dies c a _ _ w) ?_
  refine takeS (k := 16) (by kernel_rfl) (by kernel_rfl) (fun w => by kernel_rfl) (fun c a w => hH.dies c a _ _ w) ?_
  refine takeS (k := 17) (by kernel_rfl) (by kernel_rfl) (fun w => by kernel_rfl) (fun c a w => hH.dies c a _ _ w) ?_
  refine takeW (k := 18) (v := (.bool false)) (by kernel_rfl) (by kernel_rfl) (fun w => by kernel_rfl) (fun w => by kernel_rfl) (fun c a w => hH.dies c a _ _ w) ?_
  refine takeW (k := 19) (v := (.bool false)) (by kernel_rfl) (by kernel_rfl) (fun w => by kernel_rfl) (fun w => by kernel_rfl) (fun c a w => hH.dies c a _ _ w) ?_
  refine takeS (k := 20) (by kernel_rfl) (by kernel_rfl) (fun w => by kernel_rfl) (fun c a w => hH.dies c a _ _ w) ?_
  refine takeS (k := 21) (by kernel_rfl) (by kernel_rfl) (fun w => by kernel_rfl) (fun c a w => hH.dies c a _ _ w) ?_
  refine takeS (k := 22) (by kernel_rfl) (by kernel_rfl) (fun w => by kernel_rfl) (fun c a w => hH.dies c a _ _ w) ?_
  exact canon (by kernel_rfl) (by kernel_rfl) (bf0_23 hH hx hb)

theorem bf0_5 {n : Nat} {Q : Exit → Act → World → Prop} {lg th po wt sp yi T : Int} {sg : Bool} {l B : Nat} {J Jx : World → Prop} (hH : BHyp n Q lg th po wt sp yi T sg l B J Jx) {W : World} (hx : Jx W) (hb : ¬ (1 ≤ lg ∧ lg ≤ 6)) : AnyB n Q 39 #[true, true, true, true, true, false, false, false, false, false, false, false, false, false, false, false, false, false, false, false, false, false, false, false, false, false, false, false, false, false, false, false, false, false, false, false, false, false, false, false, false, false, false, false] ⟨#[.agg #[.int .i64 lg, .int .i64 th, .int .i64 po, .int .i64 wt, .int .i64 sp, .int .i64 yi, .bool sg], .func (.yield l) #[] #[], .pointer (some ⟨B, 0, none⟩), undef, (.func (.yield l) #[] #[]), (.pointer (some ⟨B, 0, none⟩)), (.int .i64 lg), (.agg #[.int .i64 1, .int .i64 6]), (.bool false), undef, undef, undef, undef, undef, undef, undef, undef, undef, undef, undef, undef, undef, undef, undef, undef, undef, undef, undef, undef, undef, undef, undef, undef, undef, undef, undef, undef, undef, undef, undef, undef, undef, undef, undef, undef, undef, undef, undef], []⟩ W := by
  refine takeW (k := 5) (v := (.bool false)) (by kernel_rfl) (by kernel_rfl) (fun w => by kernel_rfl) (fun w => by kernel_rfl) (fun c a w => hH.dies c a _ _ w) ?_
  refine takeS (k := 6) (by kernel_rfl) (by kernel_rfl) (fun w => by kernel_rfl) (fun c a w => hH.dies c a _ _ w) ?_
  refine takeS (k := 7) (by kernel_rfl) (by kernel_rfl) (fun w => by kernel_rfl) (fun c a w => hH.dies c a _ _ w) ?_
  refine takeS (k := 8) (by kernel_rfl) (by kernel_rfl) (fun w => by kernel_rfl) (fun c a w => hH.dies c a _ _ w) ?_
  refine takeS (k := 9) (by kernel_rfl) (by kernel_rfl) (fun w => by kernel_rfl) (fun c a w => hH.dies c a _ _ w) ?_
  refine takeS (k := 10) (by kernel_rfl) (by kernel_rfl) (fun w => by kernel_rfl) (fun c a w => hH.dies c a _ _ w) ?_
  refine takeW (k := 11) (v := (.bool false)) (by kernel_rfl) (by kernel_rfl) (fun w => by kernel_rfl) (fun w => by kernel_rfl) (fun c a w => hH.dies c a _ _ w) ?_
  refine takeW (k := 12) (v := (.bool false)) (by kernel_rfl) (by kernel_rfl) (fun w => by kernel_rfl) (fun w => by kernel_rfl) (fun c a w => hH.dies c a _ _ w) ?_
  refine takeS (k := 13) (by kernel_rfl) (by kernel_rfl) (fun w => by kernel_rfl) (fun c a w => hH.dies c a _ _ w) ?_
  exact canon (by kernel_rfl) (by kernel_rfl) (bf0_14 hH hx hb)

theorem bf1_38 {n : Nat} {Q : Exit → Act → World → Prop} {lg th po wt sp yi T : Int} {sg : Bool} {l B : Nat} {J Jx : World → Prop} (hH : BHyp n Q lg th po wt sp yi T sg l B J Jx) {W : World} (hx : Jx W) (hb : ¬ (1 ≤ th ∧ th ≤ 16)) : AnyB n Q 6 #[true, true, true, true, true, true, true, true, true, true, true, true, true, true, true, true, true, true, true, true, true, true, true, true, true, true, true, true, true, true, true, true, true, true, true, true, true, true, false, false, false, false, false, false] ⟨#[.agg #[.int .i64 lg, .int .i64 th, .int .i64 po, .int .i64 wt, .int .i64 sp, .int .i64 yi, .bool sg], .func (.yield l) #[] #[], .pointer (some ⟨B, 0, none⟩), undef, (.func (.yield l) #[] #[]), (.pointer (some ⟨B, 0, none⟩)), (.int .i64 lg), (.agg #[.int .i64 1, .int .i64 6]), (.bool true), (.bool true), (.func (.yield l) #[] #[]), (.pointer (some ⟨B, 1, none⟩)), (.int .i64 th), (.agg #[.int .i64 1, .int .i64 16]), (.bool false), (.bool false), (.bool false), undef, undef, undef, undef, undef, (.bool false), (.bool false), undef, undef, undef, undef, undef, (.bool false), (.bool false), undef, undef, undef, undef, undef, undef, undef, (.bool false), (.bool false), undef, undef, undef, undef, undef, undef, undef, undef], []⟩ W := by
  refine takeS (k := 38) (by kernel_rfl) (by kernel_rfl) (fun w => by kernel_rfl) (fun c a w => hH.dies c a _ _ w) ?_
  refine takeS (k := 39) (by kernel_rfl) (by kernel_rfl) (fun w => by kernel_rfl) (fun c a w => hH.dies c a _ _ w) ?_
  refine readyS (k := 40) (by kernel_rfl) (by kernel_rfl) ?_
  refine takeS (k := 41) (by kernel_rfl) (by kernel_rfl) (fun w => by kernel_rfl) (fun c a w => hH.dies c a _ _ w) ?_
  refine takeS (k := 42) (by kernel_rfl) (by kernel_rfl) (fun w => by kernel_rfl) (fun c a w => hH.dies c a _ _ w) ?_
  refine takeW (k := 43) (v := (.bool false)) (by kernel_rfl) (by kernel_rfl) (fun w => by kernel_rfl) (fun w => by kernel_rfl) (fun c a w => hH.dies c a _ _ w) ?_
  exact wpAnyIn_done (by kernel_rfl) (hH.bad _ _ hx (by omega)) _

theorem bf1_29 {n : Nat} {Q : Exit → Act → World → Prop} {lg th po wt sp yi T : Int} {sg : Bool} {l B : Nat} {J Jx : World → Prop} (hH : BHyp n Q lg th po wt sp yi T sg l B J Jx) {W : World} (hx : Jx W) (hb : ¬ (1 ≤ th ∧ th ≤ 16)) : AnyB n Q 15 #[true, true, true, true, true, true, true, true, true, true, true, true, true, true, true, true, true, true, true, true, true, true, true, true, true, true, true, true, true, false, false, false, false, false, false, false, false, false, false, false, false, false, false, false] ⟨#[.agg #[.int .i64 lg, .int .i64 th, .int .i64 po, .int .i64 wt, .int .i64 sp, .int .i64 yi, .bool sg], .func (.yield l) #[] #[], .pointer (some ⟨B, 0, none⟩), undef, (.func (.yield l) #[] #[]), (.pointer (some ⟨B, 0, none⟩)), (.int .i64 lg), (.agg #[.int .i64 1, .int .i64 6]), (.bool true), (.bool true), (.func (.yield l) #[] #[]), (.pointer (some ⟨B, 1, none⟩)), (.int .i64 th), (.agg #[.int .i64 1, .int .i64 16]), (.bool false), (.bool false), (.bool false), undef, undef, undef, undef, undef, (.bool false), (.bool false), undef, undef, undef, undef, undef, (.bool false), (.bool false), undef, undef, undef, undef, undef, undef, undef, undef, undef, undef, undef, undef, undef, undef, undef, undef, undef], []⟩ W := by
  refine takeS (k := 29) (by kernel_rfl) (by kernel_rfl) (fun w => by kernel_rfl) (fun c a w => hH.dies c a _ _ w) ?_
  refine takeS (k := 30) (by kernel_rfl) (by kernel_rfl) (fun w => by kernel_rfl) (fun c a w => hH.dies c a _ _ w) ?_
  refine readyS (k := 31) (by kernel_rfl) (by kernel_rfl) ?_
  refine takeS (k := 32) (by kernel_rfl) (by kernel_rfl) (fun w => by kernel_rfl) (fun c a w => hH.dies c a _ _ w) ?_
  refine takeS (k := 33) (by kernel_rfl) (by kernel_rfl) (fun w => by kernel_rfl) (fun c a w => hH.dies c a _ _ w) ?_
  refine takeW (k := 34) (v := (.bool false)) (by kernel_rfl) (by kernel_rfl) (fun w => by kernel_rfl) (fun w => by kernel_rfl) (fun c a w => hH.dies c a _ _ w) ?_
  refine takeW (k := 35) (v := (.bool false)) (by kernel_rfl) (by kernel_rfl) (fun w => by kernel_rfl) (fun w => by kernel_rfl) (fun c a w => hH.dies c a _ _ w) ?_
  refine takeS (k := 36) (by kernel_rfl) (by kernel_rfl) (fun w => by kernel_rfl) (fun c a w => hH.dies c a _ _ w) ?_
  refine takeS (k := 37) (by kernel_rfl) (by kernel_rfl) (fun w => by kernel_rfl) (fun c a w => hH.dies c a _ _ w) ?_
  exact canon (by kernel_rfl) (by kernel_rfl) (bf1_38 hH hx hb)

theorem bf1_20 {n : Nat} {Q : Exit → Act → World → Prop} {lg th po wt sp yi T : Int} {sg : Bool} {l B : Nat} {J Jx : World → Prop} (hH : BHyp n Q lg th po wt sp yi T sg l B J Jx) {W : World} (hx : Jx W) (hb : ¬ (1 ≤ th ∧ th ≤ 16)) : AnyB n Q 24 #[true, true, true, true, true, true, true, true, true, true, true, true, true, true, true, true, true, true, true, true, false, false, false, false, false, false, false, false, false, false, false, false, false, false, false, false, false, false, false, false, false, false, false, false] ⟨#[.agg #[.int .i64 lg, .int .i64 th, .int .i64 po, .int .i64 wt, .int .i64 sp, .int .i64 yi, .bool sg], .func (.yield l) #[] #[], .pointer (some ⟨B, 0, none⟩), undef, (.func (.yield l) #[] #[]), (.pointer (some ⟨B, 0, none⟩)), (.int .i64 lg), (.agg #[.int .i64 1, .int .i64 6]), (.bool true), (.bool true), (.func (.yield l) #[] #[]), (.pointer (some ⟨B, 1, none⟩)), (.int .i64 th), (.agg #[.int .i64 1, .int .i64 16]), (.bool false), (.bool false), (.bool false), undef, undef, undef, undef, undef, (.bool false), (.bool false), undef, undef, undef, undef, undef, undef, undef, undef, undef, undef, undef, undef, undef, undef, undef, undef, undef, undef, undef, undef, undef, undef, undef, undef], []⟩ W := by
  refine takeS (k := 20) (by kernel_rfl) (by kernel_rfl) (fun w => by kernel_rfl) (fun c a w => hH.dies c a _ _ w) ?_
  refine takeS (k := 21) (by kernel_rfl) (by kernel_rfl) (fun w => by kernel_rfl) (fun c a w => hH.dies c a _ _ w) ?_
  refine takeS (k := 22) (by kernel_rfl) (by kernel_rfl) (fun w => by kernel_rfl) (fun c a w => hH.dies c a _ _ w) ?_
  refine takeS (k := 23) (by kernel_rfl) (by kernel_rfl) (fun w => by kernel_rfl) (fun c a w => hH.dies c a _ _ w) ?_
  refine takeS (k := 24) (by kernel_rfl) (by kernel_rfl) (fun w => by kernel_rfl) (fun c a w => hH.dies c a _ _ w) ?_
  refine takeW (k := 25) (v := (.bool false)) (by kernel_rfl) (by kernel_rfl) (fun w => by kernel_rfl) (fun w => by kernel_rfl) (fun c a w => hH.dies c a _ _ w) ?_
  refine takeW (k := 26) (v := (.bool false)) (by kernel_rfl) (by kernel_rfl) (fun w => by kernel_rfl) (fun w => by kernel_rfl) (fun c a w => hH.dies c a _ _ w) ?_
  refine takeS (k := 27) (by kernel_rfl) (by kernel_rfl) (fun w => by kernel_rfl) (fun c a w => hH.dies c a _ _ w) ?_
  refine takeS (k := 28) (by kernel_rfl) (by kernel_rfl) (fun w => by kernel_rfl) (fun c a w => hH.dies c a _ _ w) ?_
  exact canon (by kernel_rfl) (by kernel_rfl) (bf1_29 hH hx hb)

theorem bf1_11 {n : Nat} {Q : Exit → Act → World → Prop} {lg th po wt sp yi T : Int} {sg : Bool} {l B : Nat} {J Jx : World → Prop} (hH : BHyp n Q lg th po wt sp yi T sg l B J Jx) {W : World} (hx : Jx W) (hb : ¬ (1 ≤ th ∧ th ≤ 16)) : AnyB n Q 33 #[true, true, true, true, true, true, true, true, true, true, true, false, false, false, false, false, false, false, false, false, false, false, false, false, false, false, false, false, false, false, false, false, false, false, false, false, false, false, false, false, false, false, false, false] ⟨#[.agg #[.int .i64 lg, .int .i64 th, .int .i64 po, .int .i64 wt, .int .i64 sp, .int .i64 yi, .bool sg], .func (.yield l) #[] #[], .pointer (some ⟨B, 0, none⟩), undef, (.func (.yield l) #[] #[]), (.pointer (some ⟨B, 0, none⟩)), (.int .i64 lg), (.agg #[.int .i64 1, .int .i64 6]), (.bool true), (.bool true), (.func (.yield l) #[] #[]), (.pointer (some ⟨B, 1, none⟩)), (.int .i64 th), (.agg #[.int .i64 1, .int .i64 16]), (.bool false), undef, undef, undef, undef, undef, undef, undef, undef, undef, undef, undef, undef, undef, undef, undef, undef, undef, undef, undef, undef, undef, undef, undef, undef, undef, undef, undef, undef, undef, undef, undef, undef, undef], []⟩ W := by
  refine takeW (k := 11) (v := (.bool false)) (by kernel_rfl) (by kernel_rfl) (fun w => by kernel_rfl) (fun w => by kernel_rfl) (fun c a w => hH.dies c a _ _ w) ?_
  refine takeW (k := 12) (v := (.bool false)) (by kernel_rfl) (by kernel_rfl) (fun w => by kernel_rfl) (fun w => by kernel_rfl) (fun c a w => hH.dies c a _ _ w) ?_
  refine takeS (k := 13) (by kernel_rfl) (by kernel_rfl) (fun w => by kernel_rfl) (fun c a w => hH.dies c a _ _ w) ?_
  refine takeS (k := 14) (by kernel_rfl) (by kernel_rfl) (fun w => by kernel_rfl) (fun c a w => hH.dies c a _ _ w) ?_
  refine takeS (k := 15) (by kernel_rfl) (by kernel_rfl) (fun w => by kernel_rfl) (fun c a w => hH.dies c a _ _ w) ?_
  refine takeS (k := 16) (by kernel_rfl) (by kernel_rfl) (fun w => by kernel_rfl) (fun c a w => hH.dies c a _ _ w) ?_
  refine takeS (k := 17) (by kernel_rfl) (by kernel_rfl) (fun w => by kernel_rfl) (fun c a w => hH.dies c a _ _ w) ?_
  refine takeW (k := 18) (v := (.bool false)) (by kernel_rfl) (by kernel_rfl) (fun w => by kernel_rfl) (fun w => by kernel_rfl) (fun c a w => hH.dies c a _ _ w) ?_
  refine takeW (k := 19) (v := (.bool false)) (by kernel_rfl) (by kernel_rfl) (fun w => by kernel_rfl) (fun w => by kernel_rfl) (fun c a w => hH.dies c a _ _ w) ?_
  exact canon (by kernel_rfl) (by kernel_rfl) (bf1_20 hH hx hb)

theorem bf2_36 {n : Nat} {Q : Exit → Act → World → Prop} {lg th po wt sp yi T : Int} {sg : Bool} {l B : Nat} {J Jx : World → Prop} (hH : BHyp n Q lg th po wt sp yi T sg l B J Jx) {W : World} (hx : Jx W) (hb : ¬ (0 ≤ po ∧ po ≤ 2)) : AnyB n Q 8 #[true, true, true, true, true, true, true, true, true, true, true, true, true, true, true, true, true, true, true, true, true, true, true, true, true, true, true, true, true, true, true, true, true, true, true, true, false, false, false, false, false, false, false, false] ⟨#[.agg #[.int .i64 lg, .int .i64 th, .int .i64 po, .int .i64 wt, .int .i64 sp, .int .i64 yi, .bool sg], .func (.yield l) #[] #[], .pointer (some ⟨B, 0, none⟩), undef, (.func (.yield l) #[] #[]), (.pointer (some ⟨B, 0, none⟩)), (.int .i64 lg), (.agg #[.int .i64 1, .int .i64 6]), (.bool true), (.bool true), (.func (.yield l) #[] #[]), (.pointer (some ⟨B, 1, none⟩)), (.int .i64 th), (.agg #[.int .i64 1, .int .i64 16]), (.bool true), (.bool true), (.bool true), (.func (.yield l) #[] #[]), (.pointer (some ⟨B, 2, none⟩)), (.int .i64 po), (.agg #[.int .i64 0, .int .i64 2]), (.bool false), (.bool false), (.bool false), undef, undef, undef, undef, undef, (.bool false), (.bool false), undef, undef, undef, undef, undef, undef, undef, (.bool false), (.bool false), undef, undef, undef, undef, undef, undef, undef, undef], []⟩ W := by
  refine takeS (k := 36) (by kernel_rfl) (by kernel_rfl) (fun w => by kernel_rfl) (fun c a w => hH.dies c a _ _ w) ?_
  refine takeS (k := 37) (by kernel_rfl) (by kernel_rfl) (fun w => by kernel_rfl) (fun c a w => hH.dies c a _ _ w) ?_
  refine takeS (k := 38) (by kernel_rfl) (by kernel_rfl) (fun w => by kernel_rfl) (fun c a w => hH.dies c a _ _ w) ?_
  refine takeS (k := 39) (by kernel_rfl) (by kernel_rfl) (fun w => by kernel_rfl) (fun c a w => hH.dies c a _ _ w) ?_
  refine readyS (k := 40) (by kernel_rfl) (by kernel_rfl) ?_
  refine takeS (k := 41) (by kernel_rfl) (by kernel_rfl) (fun w => by kernel_rfl) (fun c a w => hH.dies c a _ _ w) ?_
  refine takeS (k := 42) (by kernel_rfl) (by kernel_rfl) (fun w => by kernel_rfl) (fun c a w => hH.dies c a _ _ w) ?_
  refine takeW (k := 43) (v := (.bool false)) (by kernel_rfl) (by kernel_rfl) (fun w => by kernel_rfl) (fun w => by kernel_rfl) (fun c a w => hH.dies c a _ _ w) ?_
  exact wpAnyIn_done (by kernel_rfl) (hH.bad _ _ hx (by omega)) _

theorem bf2_27 {n : Nat} {Q : Exit → Act → World → Prop} {lg th po wt sp yi T : Int} {sg : Bool} {l B : Nat} {J Jx : World → Prop} (hH : BHyp n Q lg th po wt sp yi T sg l B J Jx) {W : World} (hx : Jx W) (hb : ¬ (0 ≤ po ∧ po ≤ 2)) : AnyB n Q 17 #[true, true, true, true, true, true, true, true, true, true, true, true, true, true, true, true, true, true, true, true, true, true, true, true, true, true, true, false, false, false, false, false, false, false, false, false, false, false, false, false, false, false, false, false] ⟨#[.agg #[.int .i64 lg, .int .i64 th, .int .i64 po, .int .i64 wt, .int .i64 sp, .int .i64 yi, .bool sg], .func (.yield l) #[] #[], .pointer (some ⟨B, 0, none⟩), undef, (.func (.yield l) #[] #[]), (.pointer (some ⟨B, 0, none⟩)), (.int .i64 lg), (.agg #[.int .i64 1, .int .i64 6]), (.bool true), (.bool true), (.func (.yield l) #[] #[]), (.pointer (some ⟨B, 1, none⟩)), (.int .i64 th), (.agg #[.int .i64 1, .int .i64 16]), (.bool true), (.bool true), (.bool true), (.func (.yield l) #[] #[]), (.pointer (some ⟨B, 2, none⟩)), (.int .i64 po), (.agg #[.int .i64 0, .int .i64 2]), (.bool false), (.bool false), (.bool false), undef, undef, undef, undef, undef, (.bool false), (.bool false), undef, undef, undef, undef, undef, undef, undef, undef, undef, undef, undef, undef, undef, undef, undef, undef, undef], []⟩ W := by
  refine takeS (k := 27) (by kernel_rfl) (by kernel_rfl) (fun w => by kernel_rfl) (fun c a w => hH.dies c a _ _ w) ?_
  refine takeS (k := 28) (by kernel_rfl) (by kernel_rfl) (fun w => by kernel_rfl) (fun c a w => hH.dies c a _ _ w) ?_
  refine takeS (k := 29) (by kernel_rfl) (by kernel_rfl) (fun w => by kernel_rfl) (fun c a w => hH.dies c a _ _ w) ?_
  refine takeS (k := 30) (by kernel_rfl) (by kernel_rfl) (fun w => by kernel_rfl) (fun c a w => hH.dies c a _ _ w) ?_
  refine readyS (k := 31) (by kernel_rfl) (by kernel_rfl) ?_
  refine takeS (k := 32) (by kernel_rfl) (by kernel_rfl) (fun w => by kernel_rfl) (fun c a w => hH.dies c a _ _ w) ?_
  refine takeS (k := 33) (by kernel_rfl) (by kernel_rfl) (fun w => by kernel_rfl) (fun c a w => hH.dies c a _ _ w) ?_
  refine takeW (k := 34) (v := (.bool false)) (by kernel_rfl) (by kernel_rfl) (fun w => by kernel_rfl) (fun w => by kernel_rfl) (fun c a w => hH.dies c a _ _ w) ?_
  refine takeW (k := 35) (v := (.bool false)) (by kernel_rfl) (by kernel_rfl) (fun w => by kernel_rfl) (fun w => by kernel_rfl) (fun c a w => hH.dies c a _ _ w) ?_
  exact canon (by kernel_rfl) (by kernel_rfl) (bf2_36 hH hx hb)

theorem bf2_18 {n : Nat} {Q : Exit → Act → World → Prop} {lg th po wt sp yi T : Int} {sg : Bool} {l B : Nat} {J Jx : World → Prop} (hH : BHyp n Q lg th po wt sp yi T sg l B J Jx) {W : World} (hx : Jx W) (hb : ¬ (0 ≤ po ∧ po ≤ 2)) : AnyB n Q 26 #[true, true, true, true, true, true, true, true, true, true, true, true, true, true, true, true, true, true, false, false, false, false, false, false, false, false, false, false, false, false, false, false, false, false, false, false, false, false, false, false, false, false, false, false] ⟨#[.agg #[.int .i64 lg, .int .i64 th, .int .i64 po, .int .i64 wt, .int .i64 sp, .int .i64 yi, .bool sg], .func (.yield l) #[] #[], .pointer (some ⟨B, 0, none⟩), undef, (.func (.yield l) #[] #[]), (.pointer (some ⟨B, 0, none⟩)), (.int .i64 lg), (.agg #[.int .i64 1, .int .i64 6]), (.bool true), (.bool true), (.func (.yield l) #[] #[]), (.pointer (some ⟨B, 1, none⟩)), (.int .i64 th), (.agg #[.int .i64 1, .int .i64 16]), (.bool true), (.bool true), (.bool true), (.func (.yield l) #[] #[]), (.pointer (some ⟨B, 2, none⟩)), (.int .i64 po), (.agg #[.int .i64 0, .int .i64 2]), (.bool false), undef, undef, undef, undef, undef, undef, undef, undef, undef, undef, undef, undef, undef, undef, undef, undef, undef, undef, undef, undef, undef, undef, undef, undef, undef, undef], []⟩ W := by
  refine takeW (k := 18) (v := (.bool false)) (by kernel_rfl) (by kernel_rfl) (fun w => by kernel_rfl) (fun w => by kernel_rfl) (fun c a w => hH.dies c a _ _ w) ?_
  refine takeW (k := 19) (v := (.bool false)) (by kernel_rfl) (by kernel_rfl) (fun w => by kernel_rfl) (fun w => by kernel_rfl) (fun c a w => hH.dies c a _ _ w) ?_
  refine takeS (k := 20) (by kernel_rfl) (by kernel_rfl) (fun w => by kernel_rfl) (fun c a w => hH.dies c a _ _ w) ?_
  refine takeS (k := 21) (by kernel_rfl) (by kernel_rfl) (fun w => by kernel_rfl) (fun c a w => hH.dies c a _ _ w) ?_
  refine takeS (k := 22) (by kernel_rfl) (by kernel_rfl) (fun w => by kernel_rfl) (fun c a w => hH.dies c a _ _ w) ?_
  refine takeS (k := 23) (by kernel_rfl) (by kernel_rfl) (fun w => by kernel_rfl) (fun c a w => hH.dies c a _ _ w) ?_
  refine takeS (k := 24) (by kernel_rfl) (by kernel_rfl) (fun w => by kernel_rfl) (fun c a w => hH.dies c a _ _ w) ?_
  refine takeW (k := 25) (v := (.bool false)) (by kernel_rfl) (by kernel_rfl) (fun w => by kernel_rfl) (fun w => by kernel_rfl) (fun c a w => hH.dies c a _ _ w) ?_
  refine takeW (k := 26) (v := (.bool false)) (by kernel_rfl) (by kernel_rfl) (fun w => by kernel_rfl) (fun w => by kernel_rfl) (fun c a w => hH.dies c a _ _ w) ?_
  exact canon (by kernel_rfl) (by kernel_rfl) (bf2_27 hH hx hb)

theorem bf3_43 {n : Nat} {Q : Exit → Act → World → Prop} {lg th po wt sp yi T : Int} {sg : Bool} {l B : Nat} {J Jx : World → Prop} (hH : BHyp n Q lg th po wt sp yi T sg l B J Jx) {W : World} (hx : Jx W) (hb : ¬ (0 ≤ wt ∧ wt ≤ 3)) : AnyB n Q 1 #[true, true, true, true, true, true, true, true, true, true, true, true, true, true, true, true, true, true, true, true, true, true, true, true, true, true, true, true, true, true, true, true, true, true, true, true, true, true, true, true, true, true, true, false] ⟨#[.agg #[.int .i64 lg, .int .i64 th, .int .i64 po, .int .i64 wt, .int .i64 sp, .int .i64 yi, .bool sg], .func (.yield l) #[] #[], .pointer (some ⟨B, 0, none⟩), undef, (.func (.yield l) #[] #[]), (.pointer (some ⟨B, 0, none⟩)), (.int .i64 lg), (.agg #[.int .i64 1, .int .i64 6]), (.bool true), (.bool true), (.func (.yield l) #[] #[]), (.pointer (some ⟨B, 1, none⟩)), (.int .i64 th), (.agg #[.int .i64 1, .int .i64 16]), (.bool true), (.bool true), (.bool true), (.func (.yield l) #[] #[]), (.pointer (some ⟨B, 2, none⟩)), (.int .i64 po), (.agg #[.int .i64 0, .int .i64 2]), (.bool true), (.bool true), (.bool true), (.func (.yield l) #[] #[]), (.pointer (some ⟨B, 3, none⟩)), (.int .i64 wt), (.agg #[.int .i64 0, .int .i64 3]), (.bool false), (.bool false), (.bool false), undef, undef, undef, undef, undef, undef, undef, (.bool false), (.bool false), undef, undef, undef, undef, undef, undef, undef, undef], []⟩ W := by
  refine takeW (k := 43) (v := (.bool false)) (by kernel_rfl) (by kernel_rfl) (fun w => by kernel_rfl) (fun w => by kernel_rfl) (fun c a w => hH.dies c a _ _ w) ?_
  exact wpAnyIn_done (by kernel_rfl) (hH.bad _ _ hx (by omega)) _

theorem bf3_34 {n : Nat} {Q : Exit → Act → World → Prop} {lg th po wt sp yi T : Int} {sg : Bool} {l B : Nat} {J Jx : World → Prop} (hH : BHyp n Q lg th po wt sp yi T sg l B J Jx) {W : World} (hx : Jx W) (hb : ¬ (0 ≤ wt ∧ wt ≤ 3)) : AnyB n Q 10 #[true, true, true, true, true, true, true, true, true, true, true, true, true, true, true, true, true, true, true, true, true, true, true, true, true, true, true, true, true, true, true, true, true, true, false, false, false, false, false, false, false, false, false, false] ⟨#[.agg #[.int .i64 lg, .int .i64 th, .int .i64 po, .int .i64 wt, .int .i64 sp, .int .i64 yi, .bool sg], .func (.yield l) #[] #[], .pointer (some ⟨B, 0, none⟩), undef, (.func (.yield l) #[] #[]), (.pointer (some ⟨B, 0, none⟩)), (.int .i64 lg), (.agg #[.int .i64 1, .int .i64 6]), (.bool true), (.bool true), (.func (.yield l) #[] #[]), (.pointer (some ⟨B, 1, none⟩)), (.int .i64 th), (.agg #[.int .i64 1, .int .i64 16]), (.bool true), (.bool true), (.bool true), (.func (.yield l) #[] #[]), (.pointer (some ⟨B, 2, none⟩)), (.int .i64 po), (.agg #[.int .i64 0, .int .i64 2]), (.bool true), (.bool true), (.bool true), (.func (.yield l) #[] #[]), (.pointer (some ⟨B, 3, none⟩)), (.int .i64 wt), (.agg #[.int .i64 0, .int .i64 3]), (.bool false), (.bool false), (.bool false), undef, undef, undef, undef, undef, undef, undef, undef, undef, undef, undef, undef, undef, undef, undef, undef, undef], []⟩ W := by
  refine takeW (k := 34) (v := (.bool false)) (by kernel_rfl) (by kernel_rfl) (fun w => by kernel_rfl) (fun w => by kernel_rfl) (fun c a w => hH.dies c a _ _ w) ?_
  refine takeW (k := 35) (v := (.bool false)) (by kernel_rfl) (by kernel_rfl) (fun w => by kernel_rfl) (fun w => by kernel_rfl) (fun c a w => hH.dies c a _ _ w) ?_
  refine takeS (k := 36) (by kernel_rfl) (by kernel_rfl) (fun w => by kernel_rfl) (fun c a w => hH.dies c a _ _ w) ?_
  refine takeS (k := 37) (by kernel_rfl) (by kernel_rfl) (fun w => by kernel_rfl) (fun c a w => hH.dies c a _ _ w) ?_
  refine takeS (k := 38) (by kernel_rfl) (by kernel_rfl) (fun w => by kernel_rfl) (fun c a w => hH.dies c a _ _ w) ?_
  refine takeS (k := 39) (by kernel_rfl) (by kernel_rfl) (fun w => by kernel_rfl) (fun c a w => hH.dies c a _ _ w) ?_
  refine readyS (k := 40) (by kernel_rfl) (by kernel_rfl) ?_
  refine takeS (k := 41) (by kernel_rfl) (by kernel_rfl) (fun w => by kernel_rfl) (fun c a w => hH.dies c a _ _ w) ?_
  refine takeS (k := 42) (by kernel_rfl) (by kernel_rfl) (fun w => by kernel_rfl) (fun c a w => hH.dies c a _ _ w) ?_
  exact canon (by kernel_rfl) (by kernel_rfl) (bf3_43 hH hx hb)

theorem bf3_25 {n : Nat} {Q : Exit → Act → World → Prop} {lg th po wt sp yi T : Int} {sg : Bool} {l B : Nat} {J Jx : World → Prop} (hH : BHyp n Q lg th po wt sp yi T sg l B J Jx) {W : World} (hx : Jx W) (hb : ¬ (0 ≤ wt ∧ wt ≤ 3)) : AnyB n Q 19 #[true, true, true, true, true, true, true, true, true, true, true, true, true, true, true, true, true, true, true, true, true, true, true, true, true, false, false, false, false, false, false, false, false, false, false, false, false, false, false, false, false, false, false, false] ⟨#[.agg #[.int .i64 lg, .int .i64 th, .int .i64 po, .int .i64 wt, .int .i64 sp, .int .i64 yi, .bool sg], .func (.yield l) #[] #[], .pointer (some ⟨B, 0, none⟩), undef, (.func (.yield l) #[] #[]), (.pointer (some ⟨B, 0, none⟩)), (.int .i64 lg), (.agg #[.int .i64 1, .int .i64 6]), (.bool true), (.bool true), (.func (.yield l) #[] #[]), (.pointer (some ⟨B, 1, none⟩)), (.int .i64 th), (.agg #[.int .i64 1, .int .i64 16]), (.bool true), (.bool true), (.bool true), (.func (.yield l) #[] #[]), (.pointer (some ⟨B, 2, none⟩)), (.int .i64 po), (.agg #[.int .i64 0, .int .i64 2]), (.bool true), (.bool true), (.bool true), (.func (.yield l) #[] #[]), (.pointer (some ⟨B, 3, none⟩)), (.int .i64 wt), (.agg #[.int .i64 0, .int .i64 3]), (.bool false), undef, undef, undef, undef, undef, undef, undef, undef, undef, undef, undef, undef, undef, undef, undef, undef, undef, undef, undef], []⟩ W := by
  refine takeW (k := 25) (v := (.bool false)) (by kernel_rfl) (by kernel_rfl) (fun w => by kernel_rfl) (fun w => by kernel_rfl) (fun c a w => hH.dies c a _ _ w) ?_
  refine takeW (k := 26) (v := (.bool false)) (by kernel_rfl) (by kernel_rfl) (fun w => by kernel_rfl) (fun w => by kernel_rfl) (fun c a w => hH.dies c a _ _ w) ?_
  refine takeS (k := 27) (by kernel_rfl) (by kernel_rfl) (fun w => by kernel_rfl) (fun c a w => hH.dies c a _ _ w) ?_
  refine takeS (k := 28) (by kernel_rfl) (by kernel_rfl) (fun w => by kernel_rfl) (fun c a w => hH.dies c a _ _ w) ?_
  refine takeS (k := 29) (by kernel_rfl) (by kernel_rfl) (fun w => by kernel_rfl) (fun c a w => hH.dies c a _ _ w) ?_
  refine takeS (k := 30) (by kernel_rfl) (by kernel_rfl) (fun w => by kernel_rfl) (fun c a w => hH.dies c a _ _ w) ?_
  refine readyS (k := 31) (by kernel_rfl) (by kernel_rfl) ?_
  refine takeS (k := 32) (by kernel_rfl) (by kernel_rfl) (fun w => by kernel_rfl) (fun c a w => hH.dies c a _ _ w) ?_
  refine takeS (k := 33) (by kernel_rfl) (by kernel_rfl) (fun w => by kernel_rfl) (fun c a w => hH.dies c a _ _ w) ?_
  exact canon (by kernel_rfl) (by kernel_rfl) (bf3_34 hH hx hb)

theorem bf4_43 {n : Nat} {Q : Exit → Act → World → Prop} {lg th po wt sp yi T : Int} {sg : Bool} {l B : Nat} {J Jx : World → Prop} (hH : BHyp n Q lg th po wt sp yi T sg l B J Jx) {W : World} (hx : Jx W) (hb : ¬ (0 ≤ sp ∧ sp ≤ T)) : AnyB n Q 1 #[true, true, true, true, true, true, true, true, true, true, true, true, true, true, true, true, true, true, true, true, true, true, true, true, true, true, true, true, true, true, true, true, true, true, true, true, true, true, true, true, true, true, true, false] ⟨#[.agg #[.int .i64 lg, .int .i64 th, .int .i64 po, .int .i64 wt, .int .i64 sp, .int .i64 yi, .bool sg], .func (.yield l) #[] #[], .pointer (some ⟨B, 0, none⟩), undef, (.func (.yield l) #[] #[]), (.pointer (some ⟨B, 0, none⟩)), (.int .i64 lg), (.agg #[.int .i64 1, .int .i64 6]), (.bool true), (.bool true), (.func (.yield l) #[] #[]), (.pointer (some ⟨B, 1, none⟩)), (.int .i64 th), (.agg #[.int .i64 1, .int .i64 16]), (.bool true), (.bool true), (.bool true), (.func (.yield l) #[] #[]), (.pointer (some ⟨B, 2, none⟩)), (.int .i64 po), (.agg #[.int .i64 0, .int .i64 2]), (.bool true), (.bool true), (.bool true), (.func (.yield l) #[] #[]), (.pointer (some ⟨B, 3, none⟩)), (.int .i64 wt), (.agg #[.int .i64 0, .int .i64 3]), (.bool true), (.bool true), (.bool true), (.func (.yield l) #[] #[]), (.pointer (some ⟨B, 4, none⟩)), (.int .i64 sp), (.agg #[.int .i64 lg, .int .i64 th, .int .i64 po, .int .i64 wt, .int .i64 sp, .int .i64 yi, .bool sg]), (.int .i64 T), (.agg #[.int .i64 0, .int .i64 T]), (.bool false), (.bool false), (.bool false), undef, undef, undef, undef, undef, undef, undef, undef], []⟩ W := by
  refine takeW (k := 43) (v := (.bool false)) (by kernel_rfl) (by kernel_rfl) (fun w => by kernel_rfl) (fun w => by kernel_rfl) (fun c a w => hH.dies c a _ _ w) ?_
  exact wpAnyIn_done (by kernel_rfl) (hH.bad _ _ hx (by omega)) _

theorem bf4_34 {n : Nat} {Q : Exit → Act → World → Prop} {lg th po wt sp yi T : Int} {sg : Bool} {l B : Nat} {J Jx : World → Prop} (hH : BHyp n Q lg th po wt sp yi T sg l B J Jx) {W : World} (hx : Jx W) (hb : ¬ (0 ≤ sp ∧ sp ≤ T)) : AnyB n Q 10 #[true, true, true, true, true, true, true, true, true, true, true, true, true, true, true, true, true, true, true, true, true, true, true, true, true, true, true, true, true, true, true, true, true, true, false, false, false, false, false, false, false, false, false, false] ⟨#[.agg #[.int .i64 lg, .int .i64 th, .int .i64 po, .int .i64 wt, .int .i64 sp, .int .i64 yi, .bool sg], .func (.yield l) #[] #[], .pointer (some ⟨B, 0, none⟩), undef, (.func (.yield l) #[] #[]), (.pointer (some ⟨B, 0, none⟩)), (.int .i64 lg), (.agg #[.int .i64 1, .int .i64 6]), (.bool true), (.bool true), (.func (.yield l) #[] #[]), (.pointer (some ⟨B, 1, none⟩)), (.int .i64 th), (.agg #[.int .i64 1, .int .i64 16]), (.bool true), (.bool true), (.bool true), (.func (.yield l) #[] #[]), (.pointer (some ⟨B, 2, none⟩)), (.int .i64 po), (.agg #[.int .i64 0, .int .i64 2]), (.bool true), (.bool true), (.bool true), (.func (.yield l) #[] #[]), (.pointer (some ⟨B, 3, none⟩)), (.int .i64 wt), (.agg #[.int .i64 0, .int .i64 3]), (.bool true), (.bool true), (.bool true), (.func (.yield l) #[] #[]), (.pointer (some ⟨B, 4, none⟩)), (.int .i64 sp), (.agg #[.int .i64 lg, .int .i64 th, .int .i64 po, .int .i64 wt, .int .i64 sp, .int .i64 yi, .bool sg]), (.int .i64 T), (.agg #[.int .i64 0, .int .i64 T]), (.bool false), undef, undef, undef, undef, undef, undef, undef, undef, undef, undef], []⟩ W := by
  refine takeW (k := 34) (v := (.bool false)) (by kernel_rfl) (by kernel_rfl) (fun w => by kernel_rfl) (fun w => by kernel_rfl) (fun c a w => hH.dies c a _ _ w) ?_
  refine takeW (k := 35) (v := (.bool false)) (by kernel_rfl) (by kernel_rfl) (fun w => by kernel_rfl) (fun w => by kernel_rfl) (fun c a w => hH.dies c a _ _ w) ?_
  refine takeS (k := 36) (by kernel_rfl) (by kernel_rfl) (fun w => by kernel_rfl) (fun c a w => hH.dies c a _ _ w) ?_
  refine takeS (k := 37) (by kernel_rfl) (by kernel_rfl) (fun w => by kernel_rfl) (fun c a w => hH.dies c a _ _ w) ?_
  refine takeS (k := 38) (by kernel_rfl) (by kernel_rfl) (fun w => by kernel_rfl) (fun c a w => hH.dies c a _ _ w) ?_
  refine takeS (k := 39) (by kernel_rfl) (by kernel_rfl) (fun w => by kernel_rfl) (fun c a w => hH.dies c a _ _ w) ?_
  refine readyS (k := 40) (by kernel_rfl) (by kernel_rfl) ?_
  refine takeS (k := 41) (by kernel_rfl) (by kernel_rfl) (fun w => by kernel_rfl) (fun c a w => hH.dies c a _ _ w) ?_
  refine takeS (k := 42) (by kernel_rfl) (by kernel_rfl) (fun w => by kernel_rfl) (fun c a w => hH.dies c a _ _ w) ?_
  exact canon (by kernel_rfl) (by kernel_rfl) (bf4_43 hH hx hb)

theorem bf5_43 {n : Nat} {Q : Exit → Act → World → Prop} {lg th po wt sp yi T : Int} {sg : Bool} {l B : Nat} {J Jx : World → Prop} (hH : BHyp n Q lg th po wt sp yi T sg l B J Jx) {W : World} (hx : Jx W) (hb : ¬ (0 ≤ yi ∧ yi ≤ T)) : AnyB n Q 1 #[true, true, true, true, true, true, true, true, true, true, true, true, true, true, true, true, true, true, true, true, true, true, true, true, true, true, true, true, true, true, true, true, true, true, true, true, true, true, true, true, true, true, true, false] ⟨#[.agg #[.int .i64 lg, .int .i64 th, .int .i64 po, .int .i64 wt, .int .i64 sp, .int .i64 yi, .bool sg], .func (.yield l) #[] #[], .pointer (some ⟨B, 0, none⟩), undef, (.func (.yield l) #[] #[]), (.pointer (some ⟨B, 0, none⟩)), (.int .i64 lg), (.agg #[.int .i64 1, .int .i64 6]), (.bool true), (.bool true), (.func (.yield l) #[] #[]), (.pointer (some ⟨B, 1, none⟩)), (.int .i64 th), (.agg #[.int .i64 1, .int .i64 16]), (.bool true), (.bool true), (.bool true), (.func (.yield l) #[] #[]), (.pointer (some ⟨B, 2, none⟩)), (.int .i64 po), (.agg #[.int .i64 0, .int .i64 2]), (.bool true), (.bool true), (.bool true), (.func (.yield l) #[] #[]), (.pointer (some ⟨B, 3, none⟩)), (.int .i64 wt), (.agg #[.int .i64 0, .int .i64 3]), (.bool true), (.bool true), (.bool true), (.func (.yield l) #[] #[]), (.pointer (some ⟨B, 4, none⟩)), (.int .i64 sp), (.agg #[.int .i64 lg, .int .i64 th, .int .i64 po, .int .i64 wt, .int .i64 sp, .int .i64 yi, .bool sg]), (.int .i64 T), (.agg #[.int .i64 0, .int .i64 T]), (.bool true), (.bool true), (.bool true), (.func (.yield l) #[] #[]), (.pointer (some ⟨B, 5, none⟩)), (.int .i64 yi), (.agg #[.int .i64 lg, .int .i64 th, .int .i64 po, .int .i64 wt, .int .i64 sp, .int .i64 yi, .bool sg]), (.int .i64 T), (.agg #[.int .i64 0, .int .i64 T]), (.bool false), undef], []⟩ W := by
  refine takeW (k := 43) (v := (.bool false)) (by kernel_rfl) (by kernel_rfl) (fun w => by kernel_rfl) (fun w => by kernel_rfl) (fun c a w => hH.dies c a _ _ w) ?_
  exact wpAnyIn_done (by kernel_rfl) (hH.bad _ _ hx (by omega)) _

theorem bt5 {n : Nat} {Q : Exit → Act → World → Prop} {lg th po wt sp yi T : Int} {sg : Bool} {l B : Nat} {J Jx : World → Prop} (hH : BHyp n Q lg th po wt sp yi T sg l B J Jx) {W0 : World} (h0 : J W0) (hp : 1 ≤ lg ∧ lg ≤ 6 ∧ 1 ≤ th ∧ th ≤ 16 ∧ 0 ≤ po ∧ po ≤ 2 ∧ 0 ≤ wt ∧ wt ≤ 3 ∧ 0 ≤ sp ∧ sp ≤ T) : AnyB n Q 2 #[true, true, true, true, true, true, true, true, true, true, true, true, true, true, true, true, true, true, true, true, true, true, true, true, true, true, true, true, true, true, true, true, true, true, true, true, true, true, true, true, true, true, false, false] ⟨#[.agg #[.int .i64 lg, .int .i64 th, .int .i64 po, .int .i64 wt, .int .i64 sp, .int .i64 yi, .bool sg], .func (.yield l) #[] #[], .pointer (some ⟨B, 0, none⟩), undef, (.func (.yield l) #[] #[]), (.pointer (some ⟨B, 0, none⟩)), (.int .i64 lg), (.agg #[.int .i64 1, .int .i64 6]), (.bool true), (.bool true), (.func (.yield l) #[] #[]), (.pointer (some ⟨B, 1, none⟩)), (.int .i64 th), (.agg #[.int .i64 1, .int .i64 16]), (.bool true), (.bool true), (.bool true), (.func (.yield l) #[] #[]), (.pointer (some ⟨B, 2, none⟩)), (.int .i64 po), (.agg #[.int .i64 0, .int .i64 2]), (.bool true), (.bool true), (.bool true), (.func (.yield l) #[] #[]), (.pointer (some ⟨B, 3, none⟩)), (.int .i64 wt), (.agg #[.int .i64 0, .int .i64 3]), (.bool true), (.bool true), (.bool true), (.func (.yield l) #[] #[]), (.pointer (some ⟨B, 4, none⟩)), (.int .i64 sp), (.agg #[.int .i64 lg, .int .i64 th, .int .i64 po, .int .i64 wt, .int .i64 sp, .int .i64 yi, .bool sg]), (.int .i64 T), (.agg #[.int .i64 0, .int .i64 T]), (.bool true), (.bool true), (.bool true), (.func (.yield l) #[] #[]), (.pointer (some ⟨B, 5, none⟩)), (.int .i64 yi), (.agg #[.int .i64 lg, .int .i64 th, .int .i64 po, .int .i64 wt, .int .i64 sp, .int .i64 yi, .bool sg]), (.int .i64 T), (.agg #[.int .i64 0, .int .i64 T]), undef, undef], []⟩ W0 := by
  obtain ⟨f, t, ac, bd, hy, hr⟩ := hH.round _ yi 0 T h0
  refine only (k := 42) (by kernel_rfl) (wayY (by kernel_rfl) (by kernel_rfl) ((show _ = (Instr.yield l #[.int .i64 yi, .agg #[.int .i64 0, .int .i64 T]]).run Tryz.prog _ by kernel_rfl).trans hy) hr ?_)
  rintro c W (⟨rfl, hc, hw⟩ | ⟨rfl, hc, hx⟩)
  case inr => exact canon (by kernel_rfl) (by kernel_rfl) (bf5_43 hH hx hc)
  case inl =>
    refine takeW (k := 43) (v := (.bool true)) (by kernel_rfl) (by kernel_rfl) (fun w => by kernel_rfl) (fun w => by kernel_rfl) (fun c a w => hH.dies c a _ _ w) ?_
    exact wpAnyIn_done (by kernel_rfl) (hH.good _ _ hw (by omega)) _

theorem bs5 {n : Nat} {Q : Exit → Act → World → Prop} {lg th po wt sp yi T : Int} {sg : Bool} {l B : Nat} {J Jx : World → Prop} (hH : BHyp n Q lg th po wt sp yi T sg l B J Jx) {W0 : World} (h0 : J W0) (hp : 1 ≤ lg ∧ lg ≤ 6 ∧ 1 ≤ th ∧ th ≤ 16 ∧ 0 ≤ po ∧ po ≤ 2 ∧ 0 ≤ wt ∧ wt ≤ 3 ∧ 0 ≤ sp ∧ sp ≤ T) : AnyB n Q 8 #[true, true, true, true, true, true, true, true, true, true, true, true, true, true, true, true, true, true, true, true, true, true, true, true, true, true, true, true, true, true, true, true, true, true, true, true, false, false, false, false, false, false, false, false] ⟨#[.agg #[.int .i64 lg, .int .i64 th, .int .i64 po, .int .i64 wt, .int .i64 sp, .int .i64 yi, .bool sg], .func (.yield l) #[] #[], .pointer (some ⟨B, 0, none⟩), undef, (.func (.yield l) #[] #[]), (.pointer (some ⟨B, 0, none⟩)), (.int .i64 lg), (.agg #[.int .i64 1, .int .i64 6]), (.bool true), (.bool true), (.func (.yield l) #[] #[]), (.pointer (some ⟨B, 1, none⟩)), (.int .i64 th), (.agg #[.int .i64 1, .int .i64 16]), (.bool true), (.bool true), (.bool true), (.func (.yield l) #[] #[]), (.pointer (some ⟨B, 2, none⟩)), (.int .i64 po), (.agg #[.int .i64 0, .int .i64 2]), (.bool true), (.bool true), (.bool true), (.func (.yield l) #[] #[]), (.pointer (some ⟨B, 3, none⟩)), (.int .i64 wt), (.agg #[.int .i64 0, .int .i64 3]), (.bool true), (.bool true), (.bool true), (.func (.yield l) #[] #[]), (.pointer (some ⟨B, 4, none⟩)), (.int .i64 sp), (.agg #[.int .i64 lg, .int .i64 th, .int .i64 po, .int .i64 wt, .int .i64 sp, .int .i64 yi, .bool sg]), (.int .i64 T), (.agg #[.int .i64 0, .int .i64 T]), (.bool true), (.bool true), (.bool true), undef, undef, undef, undef, undef, undef, undef, undef], []⟩ W0 := by
  refine takeW (k := 36) (v := (.func (.yield l) #[] #[])) (by kernel_rfl) (by kernel_rfl) (fun w => by kernel_rfl) (fun w => by kernel_rfl) (fun c a w => hH.dies c a _ _ w) ?_
  refine takeW (k := 37) (v := (.pointer (some ⟨B, 5, none⟩))) (by kernel_rfl) (by kernel_rfl) (fun w => by kernel_rfl) (fun w => by kernel_rfl) (fun c a w => hH.dies c a _ _ w) ?_
  refine two (i := 38) (j := 39) (by kernel_rfl) (wayV (by kernel_rfl) (by kernel_rfl) (ld38 hH h0 (by kernel_rfl)) ?_) (wayV (by kernel_rfl) (by kernel_rfl) (ld39 hH h0 (by kernel_rfl)) ?_)
  · refine only (k := 39) (by kernel_rfl) (wayV (by kernel_rfl) (by kernel_rfl) (ld39 hH h0 (by kernel_rfl)) ?_)
    refine only (k := 40) (by kernel_rfl) (wayC (by kernel_rfl) (by kernel_rfl) (show _ = Result.ok (Next.enter 81 #[.agg #[.int .i64 lg, .int .i64 th, .int .i64 po, .int .i64 wt, .int .i64 sp, .int .i64 yi, .bool sg]]) _ by kernel_rfl) (fun m => hH.tries _ m h0) ?_)
    rintro v W ⟨rfl, hw⟩
    refine takeW (k := 41) (v := (.agg #[.int .i64 0, .int .i64 T])) (by kernel_rfl) (by kernel_rfl) (fun w => by kernel_rfl) (fun w => by kernel_rfl) (fun c a w => hH.dies c a _ _ w) ?_
    exact canon (by kernel_rfl) (by kernel_rfl) (bt5 hH hw hp)
  · refine two (i := 38) (j := 40) (by kernel_rfl) (wayV (by kernel_rfl) (by kernel_rfl) (ld38 hH h0 (by kernel_rfl)) ?_) (wayC (by kernel_rfl) (by kernel_rfl) (show _ = Result.ok (Next.enter 81 #[.agg #[.int .i64 lg, .int .i64 th, .int .i64 po, .int .i64 wt, .int .i64 sp, .int .i64 yi, .bool sg]]) _ by kernel_rfl) (fun m => hH.tries _ m h0) ?_)
    · refine only (k := 40) (by kernel_rfl) (wayC (by kernel_rfl) (by kernel_rfl) (show _ = Result.ok (Next.enter 81 #[.agg #[.int .i64 lg, .int .i64 th, .int .i64 po, .int .i64 wt, .int .i64 sp, .int .i64 yi, .bool sg]]) _ by kernel_rfl) (fun m => hH.tries _ m h0) ?_)
      rintro v W ⟨rfl, hw⟩
      refine takeW (k := 41) (v := (.agg #[.int .i64 0, .int .i64 T])) (by kernel_rfl) (by kernel_rfl) (fun w => by kernel_rfl) (fun w => by kernel_rfl) (fun c a w => hH.dies c a _ _ w) ?_
      exact canon (by kernel_rfl) (by kernel_rfl) (bt5 hH hw hp)
    · rintro v W ⟨rfl, hw⟩
      refine takeW (k := 41) (v := (.agg #[.int .i64 0, .int .i64 T])) (by kernel_rfl) (by kernel_rfl) (fun w => by kernel_rfl) (fun w => by kernel_rfl) (fun c a w => hH.dies c a _ _ w) ?_
      refine only (k := 38) (by kernel_rfl) (wayV (by kernel_rfl) (by kernel_rfl) (ld38 hH hw (by kernel_rfl)) ?_)
      exact canon (by kernel_rfl) (by kernel_rfl) (bt5 hH hw hp)

theorem bt4 {n : Nat} {Q : Exit → Act → World → Prop} {lg th po wt sp yi T : Int} {sg : Bool} {l B : Nat} {J Jx : World → Prop} (hH : BHyp n Q lg th po wt sp yi T sg l B J Jx) {W0 : World} (h0 : J W0) (hp : 1 ≤ lg ∧ lg ≤ 6 ∧ 1 ≤ th ∧ th ≤ 16 ∧ 0 ≤ po ∧ po ≤ 2 ∧ 0 ≤ wt ∧ wt ≤ 3) : AnyB n Q 11 #[true, true, true, true, true, true, true, true, true, true, true, true, true, true, true, true, true, true, true, true, true, true, true, true, true, true, true, true, true, true, true, true, true, false, false, false, false, false, false, false, false, false, false, false] ⟨#[.agg #[.int .i64 lg, .int .i64 th, .int .i64 po, .int .i64 wt, .int .i64 sp, .int .i64 yi, .bool sg], .func (.yield l) #[] #[], .pointer (some ⟨B, 0, none⟩), undef, (.func (.yield l) #[] #[]), (.pointer (some ⟨B, 0, none⟩)), (.int .i64 lg), (.agg #[.int .i64 1, .int .i64 6]), (.bool true), (.bool true), (.func (.yield l) #[] #[]), (.pointer (some ⟨B, 1, none⟩)), (.int .i64 th), (.agg #[.int .i64 1, .int .i64 16]), (.bool true), (.bool true), (.bool true), (.func (.yield l) #[] #[]), (.pointer (some ⟨B, 2, none⟩)), (.int .i64 po), (.agg #[.int .i64 0, .int .i64 2]), (.bool true), (.bool true), (.bool true), (.func (.yield l) #[] #[]), (.pointer (some ⟨B, 3, none⟩)), (.int .i64 wt), (.agg #[.int .i64 0, .int .i64 3]), (.bool true), (.bool true), (.bool true), (.func (.yield l) #[] #[]), (.pointer (some ⟨B, 4, none⟩)), (.int .i64 sp), (.agg #[.int .i64 lg, .int .i64 th, .int .i64 po, .int .i64 wt, .int .i64 sp, .int .i64 yi, .bool sg]), (.int .i64 T), (.agg #[.int .i64 0, .int .i64 T]), undef, undef, undef, undef, undef, undef, undef, undef, undef, undef, undef], []⟩ W0 := by
  obtain ⟨f, t, ac, bd, hy, hr⟩ := hH.round _ sp 0 T h0
  refine only (k := 33) (by kernel_rfl) (wayY (by kernel_rfl) (by kernel_rfl) ((show _ = (Instr.yield l #[.int .i64 sp, .agg #[.int .i64 0, .int .i64 T]]).run Tryz.prog _ by kernel_rfl).trans hy) hr ?_)
  rintro c W (⟨rfl, hc, hw⟩ | ⟨rfl, hc, hx⟩)
  case inr => exact canon (by kernel_rfl) (by kernel_rfl) (bf4_34 hH hx hc)
  case inl =>
    refine takeW (k := 34) (v := (.bool true)) (by kernel_rfl) (by kernel_rfl) (fun w => by kernel_rfl) (fun w => by kernel_rfl) (fun c a w => hH.dies c a _ _ w) ?_
    refine takeW (k := 35) (v := (.bool true)) (by kernel_rfl) (by kernel_rfl) (fun w => by kernel_rfl) (fun w => by kernel_rfl) (fun c a w => hH.dies c a _ _ w) ?_
    exact canon (by kernel_rfl) (by kernel_rfl) (bs5 hH hw (by omega))

theorem bs4 {n : Nat} {Q : Exit → Act → World → Prop} {lg th po wt sp yi T : Int} {sg : Bool} {l B : Nat} {J Jx : World → Prop} (hH : BHyp n Q lg th po wt sp yi T sg l B J Jx) {W0 : World} (h0 : J W0) (hp : 1 ≤ lg ∧ lg ≤ 6 ∧ 1 ≤ th ∧ th ≤ 16 ∧ 0 ≤ po ∧ po ≤ 2 ∧ 0 ≤ wt ∧ wt ≤ 3) : AnyB n Q 17 #[true, true, true, true, true, true, true, true, true, true, true, true, true, true, true, true, true, true, true, true, true, true, true, true, true, true, true, false, false, false, false, false, false, false, false, false, false, false, false, false, false, false, false, false] ⟨#[.agg #[.int .i64 lg, .int .i64 th, .int .i64 po, .int .i64 wt, .int .i64 sp, .int .i64 yi, .bool sg], .func (.yield l) #[] #[], .pointer (some ⟨B, 0, none⟩), undef, (.func (.yield l) #[] #[]), (.pointer (some ⟨B, 0, none⟩)), (.int .i64 lg), (.agg #[.int .i64 1, .int .i64 6]), (.bool true), (.bool true), (.func (.yield l) #[] #[]), (.pointer (some ⟨B, 1, none⟩)), (.int .i64 th), (.agg #[.int .i64 1, .int .i64 16]), (.bool true), (.bool true), (.bool true), (.func (.yield l) #[] #[]), (.pointer (some ⟨B, 2, none⟩)), (.int .i64 po), (.agg #[.int .i64 0, .int .i64 2]), (.bool true), (.bool true), (.bool true), (.func (.yield l) #[] #[]), (.pointer (some ⟨B, 3, none⟩)), (.int .i64 wt), (.agg #[.int .i64 0, .int .i64 3]), (.bool true), (.bool true), (.bool true), undef, undef, undef, undef, undef, undef, undef, undef, undef, undef, undef, undef, undef, undef, undef, undef, undef], []⟩ W0 := by
  refine takeW (k := 27) (v := (.func (.yield l) #[] #[])) (by kernel_rfl) (by kernel_rfl) (fun w => by kernel_rfl) (fun w => by kernel_rfl) (fun c a w => hH.dies c a _ _ w) ?_
  refine takeW (k := 28) (v := (.pointer (some ⟨B, 4, none⟩))) (by kernel_rfl) (by kernel_rfl) (fun w => by kernel_rfl) (fun w => by kernel_rfl) (fun c a w => hH.dies c a _ _ w) ?_
  refine two (i := 29) (j := 30) (by kernel_rfl) (wayV (by kernel_rfl) (by kernel_rfl) (ld29 hH h0 (by kernel_rfl)) ?_) (wayV (by kernel_rfl) (by kernel_rfl) (ld30 hH h0 (by kernel_rfl)) ?_)
  · refine only (k := 30) (by kernel_rfl) (wayV (by kernel_rfl) (by kernel_rfl) (ld30 hH h0 (by kernel_rfl)) ?_)
    refine only (k := 31) (by kernel_rfl) (wayC (by kernel_rfl) (by kernel_rfl) (show _ = Result.ok (Next.enter 81 #[.agg #[.int .i64 lg, .int .i64 th, .int .i64 po, .int .i64 wt, .int .i64 sp, .int .i64 yi, .bool sg]]) _ by kernel_rfl) (fun m => hH.tries _ m h0) ?_)
    rintro v W ⟨rfl, hw⟩
    refine takeW (k := 32) (v := (.agg #[.int .i64 0, .int .i64 T])) (by kernel_rfl) (by kernel_rfl) (fun w => by kernel_rfl) (fun w => by kernel_rfl) (fun c a w => hH.dies c a _ _ w) ?_
    exact canon (by kernel_rfl) (by kernel_rfl) (bt4 hH hw hp)
  · refine two (i := 29) (j := 31) (by kernel_rfl) (wayV (by kernel_rfl) (by kernel_rfl) (ld29 hH h0 (by kernel_rfl)) ?_) (wayC (by kernel_rfl) (by kernel_rfl) (show _ = Result.ok (Next.enter 81 #[.agg #[.int .i64 lg, .int .i64 th, .int .i64 po, .int .i64 wt, .int .i64 sp, .int .i64 yi, .bool sg]]) _ by kernel_rfl) (fun m => hH.tries _ m h0) ?_)
    · refine only (k := 31) (by kernel_rfl) (wayC (by kernel_rfl) (by kernel_rfl) (show _ = Result.ok (Next.enter 81 #[.agg #[.int .i64 lg, .int .i64 th, .int .i64 po, .int .i64 wt, .int .i64 sp, .int .i64 yi, .bool sg]]) _ by kernel_rfl) (fun m => hH.tries _ m h0) ?_)
      rintro v W ⟨rfl, hw⟩
      refine takeW (k := 32) (v := (.agg #[.int .i64 0, .int .i64 T])) (by kernel_rfl) (by kernel_rfl) (fun w => by kernel_rfl) (fun w => by kernel_rfl) (fun c a w => hH.dies c a _ _ w) ?_
      exact canon (by kernel_rfl) (by kernel_rfl) (bt4 hH hw hp)
    · rintro v W ⟨rfl, hw⟩
      refine takeW (k := 32) (v := (.agg #[.int .i64 0, .int .i64 T])) (by kernel_rfl) (by kernel_rfl) (fun w => by kernel_rfl) (fun w => by kernel_rfl) (fun c a w => hH.dies c a _ _ w) ?_
      refine only (k := 29) (by kernel_rfl) (wayV (by kernel_rfl) (by kernel_rfl) (ld29 hH hw (by kernel_rfl)) ?_)
      exact canon (by kernel_rfl) (by kernel_rfl) (bt4 hH hw hp)

theorem bs3 {n : Nat} {Q : Exit → Act → World → Prop} {lg th po wt sp yi T : Int} {sg : Bool} {l B : Nat} {J Jx : World → Prop} (hH : BHyp n Q lg th po wt sp yi T sg l B J Jx) {W0 : World} (h0 : J W0) (hp : 1 ≤ lg ∧ lg ≤ 6 ∧ 1 ≤ th ∧ th ≤ 16 ∧ 0 ≤ po ∧ po ≤ 2) : AnyB n Q 24 #[true, true, true, true, true, true, true, true, true, true, true, true, true, true, true, true, true, true, true, true, false, false, false, false, false, false, false, false, false, false, false, false, false, false, false, false, false, false, false, false, false, false, false, false] ⟨#[.agg #[.int .i64 lg, .int .i64 th, .int .i64 po, .int .i64 wt, .int .i64 sp, .int .i64 yi, .bool sg], .func (.yield l) #[] #[], .pointer (some ⟨B, 0, none⟩), undef, (.func (.yield l) #[] #[]), (.pointer (some ⟨B, 0, none⟩)), (.int .i64 lg), (.agg #[.int .i64 1, .int .i64 6]), (.bool true), (.bool true), (.func (.yield l) #[] #[]), (.pointer (some ⟨B, 1, none⟩)), (.int .i64 th), (.agg #[.int .i64 1, .int .i64 16]), (.bool true), (.bool true), (.bool true), (.func (.yield l) #[] #[]), (.pointer (some ⟨B, 2, none⟩)), (.int .i64 po), (.agg #[.int .i64 0, .int .i64 2]), (.bool true), (.bool true), (.bool true), undef, undef, undef, undef, undef, undef, undef, undef, undef, undef, undef, undef, undef, undef, undef, undef, undef, undef, undef, undef, undef, undef, undef, undef], []⟩ W0 := by
  refine takeW (k := 20) (v := (.func (.yield l) #[] #[])) (by kernel_rfl) (by kernel_rfl) (fun w => by kernel_rfl) (fun w => by kernel_rfl) (fun c a w => hH.dies c a _ _ w) ?_
  refine takeW (k := 21) (v := (.pointer (some ⟨B, 3, none⟩))) (by kernel_rfl) (by kernel_rfl) (fun w => by kernel_rfl) (fun w => by kernel_rfl) (fun c a w => hH.dies c a _ _ w) ?_
  refine takeW (k := 23) (v := (.agg #[.int .i64 0, .int .i64 3])) (by kernel_rfl) (by kernel_rfl) (fun w => by kernel_rfl) (fun w => by kernel_rfl) (fun c a w => hH.dies c a _ _ w) ?_
  refine only (k := 22) (by kernel_rfl) (wayV (by kernel_rfl) (by kernel_rfl) (ld22 hH h0 (by kernel_rfl)) ?_)
  obtain ⟨f, t, ac, bd, hy, hr⟩ := hH.round _ wt 0 3 h0
  refine only (k := 24) (by kernel_rfl) (wayY (by kernel_rfl) (by kernel_rfl) ((show _ = (Instr.yield l #[.int .i64 wt, .agg #[.int .i64 0, .int .i64 3]]).run Tryz.prog _ by kernel_rfl).trans hy) hr ?_)
  rintro c W (⟨rfl, hc, hw⟩ | ⟨rfl, hc, hx⟩)
  case inr => exact canon (by kernel_rfl) (by kernel_rfl) (bf3_25 hH hx hc)
  case inl =>
    refine takeW (k := 25) (v := (.bool true)) (by kernel_rfl) (by kernel_rfl) (fun w => by kernel_rfl) (fun w => by kernel_rfl) (fun c a w => hH.dies c a _ _ w) ?_
    refine takeW (k := 26) (v := (.bool true)) (by kernel_rfl) (by kernel_rfl) (fun w => by kernel_rfl) (fun w => by kernel_rfl) (fun c a w => hH.dies c a _ _ w) ?_
    exact canon (by kernel_rfl) (by kernel_rfl) (bs4 hH hw (by omega))

theorem bs2 {n : Nat} {Q : Exit → Act → World → Prop} {lg th po wt sp yi T : Int} {sg : Bool} {l B : Nat} {J Jx : World → Prop} (hH : BHyp n Q lg th po wt sp yi T sg l B J Jx) {W0 : World} (h0 : J W0) (hp : 1 ≤ lg ∧ lg ≤ 6 ∧ 1 ≤ th ∧ th ≤ 16) : AnyB n Q 31 #[true, true, true, true, true, true, true, true, true, true, true, true, true, false, false, false, false, false, false, false, false, false, false, false, false, false, false, false, false, false, false, false, false, false, false, false, false, false, false, false, false, false, false, false] ⟨#[.agg #[.int .i64 lg, .int .i64 th, .int .i64 po, .int .i64 wt, .int .i64 sp, .int .i64 yi, .bool sg], .func (.yield l) #[] #[], .pointer (some ⟨B, 0, none⟩), undef, (.func (.yield l) #[] #[]), (.pointer (some ⟨B, 0, none⟩)), (.int .i64 lg), (.agg #[.int .i64 1, .int .i64 6]), (.bool true), (.bool true), (.func (.yield l) #[] #[]), (.pointer (some ⟨B, 1, none⟩)), (.int .i64 th), (.agg #[.int .i64 1, .int .i64 16]), (.bool true), (.bool true), (.bool true), undef, undef, undef, undef, undef, undef, undef, undef, undef, undef, undef, undef, undef, undef, undef, undef, undef, undef, undef, undef, undef, undef, undef, undef, undef, undef, undef, undef, undef, undef, undef], []⟩ W0 := by
  refine takeW (k := 13) (v := (.func (.yield l) #[] #[])) (by kernel_rfl) (by kernel_rfl) (fun w => by kernel_rfl) (fun w => by kernel_rfl) (fun c a w => hH.dies c a _ _ w) ?_
  refine takeW (k := 14) (v := (.pointer (some ⟨B, 2, none⟩))) (by kernel_rfl) (by kernel_rfl) (fun w => by kernel_rfl) (fun w => by kernel_rfl) (fun c a w => hH.dies c a _ _ w) ?_
  refine takeW (k := 16) (v := (.agg #[.int .i64 0, .int .i64 2])) (by kernel_rfl) (by kernel_rfl) (fun w => by kernel_rfl) (fun w => by kernel_rfl) (fun c a w => hH.dies c a _ _ w) ?_
  refine only (k := 15) (by kernel_rfl) (wayV (by kernel_rfl) (by kernel_rfl) (ld15 hH h0 (by kernel_rfl)) ?_)
  obtain ⟨f, t, ac, bd, hy, hr⟩ := hH.round _ po 0 2 h0
  refine only (k := 17) (by kernel_rfl) (wayY (by kernel_rfl) (by kernel_rfl) ((show _ = (Instr.yield l #[.int .i64 po, .agg #[.int .i64 0, .int .i64 2]]).run Tryz.prog _ by kernel_rfl).trans hy) hr ?_)
  rintro c W (⟨rfl, hc, hw⟩ | ⟨rfl, hc, hx⟩)
  case inr => exact canon (by kernel_rfl) (by kernel_rfl) (bf2_18 hH hx hc)
  case inl =>
    refine takeW (k := 18) (v := (.bool true)) (by kernel_rfl) (by kernel_rfl) (fun w => by kernel_rfl) (fun w => by kernel_rfl) (fun c a w => hH.dies c a _ _ w) ?_
    refine takeW (k := 19) (v := (.bool true)) (by kernel_rfl) (by kernel_rfl) (fun w => by kernel_rfl) (fun w => by kernel_rfl) (fun c a w => hH.dies c a _ _ w) ?_
    exact canon (by kernel_rfl) (by kernel_rfl) (bs3 hH hw (by omega))

theorem bs1 {n : Nat} {Q : Exit → Act → World → Prop} {lg th po wt sp yi T : Int} {sg : Bool} {l B : Nat} {J Jx : World → Prop} (hH : BHyp n Q lg th po wt sp yi T sg l B J Jx) {W0 : World} (h0 : J W0) (hp : 1 ≤ lg ∧ lg ≤ 6) : AnyB n Q 38 #[true, true, true, true, true, true, false, false, false, false, false, false, false, false, false, false, false, false, false, false, false, false, false, false, false, false, false, false, false, false, false, false, false, false, false, false, false, false, false, false, false, false, false, false] ⟨#[.agg #[.int .i64 lg, .int .i64 th, .int .i64 po, .int .i64 wt, .int .i64 sp, .int .i64 yi, .bool sg], .func (.yield l) #[] #[], .pointer (some ⟨B, 0, none⟩), undef, (.func (.yield l) #[] #[]), (.pointer (some ⟨B, 0, none⟩)), (.int .i64 lg), (.agg #[.int .i64 1, .int .i64 6]), (.bool true), (.bool true), undef, undef, undef, undef, undef, undef, undef, undef, undef, undef, undef, undef, undef, undef, undef, undef, undef, undef, undef, undef, undef, undef, undef, undef, undef, undef, undef, undef, undef, undef, undef, undef, undef, undef, undef, undef, undef, undef], []⟩ W0 := by
  refine takeW (k := 6) (v := (.func (.yield l) #[] #[])) (by kernel_rfl) (by kernel_rfl) (fun w => by kernel_rfl) (fun w => by kernel_rfl) (fun c a w => hH.dies c a _ _ w) ?_
  refine takeW (k := 7) (v := (.pointer (some ⟨B, 1, none⟩))) (by kernel_rfl) (by kernel_rfl) (fun w => by kernel_rfl) (fun w => by kernel_rfl) (fun c a w => hH.dies c a _ _ w) ?_
  refine takeW (k := 9) (v := (.agg #[.int .i64 1, .int .i64 16])) (by kernel_rfl) (by kernel_rfl) (fun w => by kernel_rfl) (fun w => by kernel_rfl) (fun c a w => hH.dies c a _ _ w) ?_
  refine only (k := 8) (by kernel_rfl) (wayV (by kernel_rfl) (by kernel_rfl) (ld8 hH h0 (by kernel_rfl)) ?_)
  obtain ⟨f, t, ac, bd, hy, hr⟩ := hH.round _ th 1 16 h0
  refine only (k := 10) (by kernel_rfl) (wayY (by kernel_rfl) (by kernel_rfl) ((show _ = (Instr.yield l #[.int .i64 th, .agg #[.int .i64 1, .int .i64 16]]).run Tryz.prog _ by kernel_rfl).trans hy) hr ?_)
  rintro c W (⟨rfl, hc, hw⟩ | ⟨rfl, hc, hx⟩)
  case inr => exact canon (by kernel_rfl) (by kernel_rfl) (bf1_11 hH hx hc)
  case inl =>
    refine takeW (k := 11) (v := (.bool true)) (by kernel_rfl) (by kernel_rfl) (fun w => by kernel_rfl) (fun w => by kernel_rfl) (fun c a w => hH.dies c a _ _ w) ?_
    refine takeW (k := 12) (v := (.bool true)) (by kernel_rfl) (by kernel_rfl) (fun w => by kernel_rfl) (fun w => by kernel_rfl) (fun c a w => hH.dies c a _ _ w) ?_
    exact canon (by kernel_rfl) (by kernel_rfl) (bs2 hH hw (by omega))

theorem bs0 {n : Nat} {Q : Exit → Act → World → Prop} {lg th po wt sp yi T : Int} {sg : Bool} {l B : Nat} {J Jx : World → Prop} (hH : BHyp n Q lg th po wt sp yi T sg l B J Jx) {W0 : World} (h0 : J W0) (hp : True) : AnyB n Q 44 #[false, false, false, false, false, false, false, false, false, false, false, false, false, false, false, false, false, false, false, false, false, false, false, false, false, false, false, false, false, false, false, false, false, false, false, false, false, false, false, false, false, false, false, false] ⟨#[.agg #[.int .i64 lg, .int .i64 th, .int .i64 po, .int .i64 wt, .int .i64 sp, .int .i64 yi, .bool sg], .func (.yield l) #[] #[], .pointer (some ⟨B, 0, none⟩), undef, undef, undef, undef, undef, undef, undef, undef, undef, undef, undef, undef, undef, undef, undef, undef, undef, undef, undef, undef, undef, undef, undef, undef, undef, undef, undef, undef, undef, undef, undef, undef, undef, undef, undef, undef, undef, undef, undef, undef, undef, undef, undef, undef, undef], []⟩ W0 := by
  refine takeW (k := 0) (v := (.func (.yield l) #[] #[])) (by kernel_rfl) (by kernel_rfl) (fun w => by kernel_rfl) (fun w => by kernel_rfl) (fun c a w => hH.dies c a _ _ w) ?_
  refine takeW (k := 1) (v := (.pointer (some ⟨B, 0, none⟩))) (by kernel_rfl) (by kernel_rfl) (fun w => by kernel_rfl) (fun w => by kernel_rfl) (fun c a w => hH.dies c a _ _ w) ?_
  refine takeW (k := 3) (v := (.agg #[.int .i64 1, .int .i64 6])) (by kernel_rfl) (by kernel_rfl) (fun w => by kernel_rfl) (fun w => by kernel_rfl) (fun c a w => hH.dies c a _ _ w) ?_
  refine only (k := 2) (by kernel_rfl) (wayV (by kernel_rfl) (by kernel_rfl) (ld2 hH h0 (by kernel_rfl)) ?_)
  obtain ⟨f, t, ac, bd, hy, hr⟩ := hH.round _ lg 1 6 h0
  refine only (k := 4) (by kernel_rfl) (wayY (by kernel_rfl) (by kernel_rfl) ((show _ = (Instr.yield l #[.int .i64 lg, .agg #[.int .i64 1, .int .i64 6]]).run Tryz.prog _ by kernel_rfl).trans hy) hr ?_)
  rintro c W (⟨rfl, hc, hw⟩ | ⟨rfl, hc, hx⟩)
  case inr => exact canon (by kernel_rfl) (by kernel_rfl) (bf0_5 hH hx hc)
  case inl =>
    refine takeW (k := 5) (v := (.bool true)) (by kernel_rfl) (by kernel_rfl) (fun w => by kernel_rfl) (fun w => by kernel_rfl) (fun c a w => hH.dies c a _ _ w) ?_
    exact canon (by kernel_rfl) (by kernel_rfl) (bs1 hH hw (by omega))

end Go.Own
