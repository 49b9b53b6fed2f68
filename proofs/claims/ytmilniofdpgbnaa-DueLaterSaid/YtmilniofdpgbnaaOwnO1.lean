/- Operations that touch no memory of the call's own but to allocate: what the interpreter says of them is what the model does. -/
import Derived.Test.YtmilniofdpgbnaaOwnH
import Derived.WalkKit
set_option linter.unusedVariables false
set_option linter.unusedSimpArgs false
namespace Go.Own
open Go

structure At (P : Program) (w0 : Base) (T : List AV) (H : Heap) (c : Cx) (tmps : Array Value) (g : Option (Nat × Bool)) : Prop where
  heap : HeapOK w0 H c
  tok : TOK c T tmps
  guard : ∀ j b, g = some (j, b) → tmps[j]? = some (.bool b)

/-- The operation comes to a value, in a world that fits. -/
def Goes (P : Program) (o : Oper) (a : Act) (w0 : Base) (H' : Heap) (c : Cx) (av : AV) : Prop :=
  ∃ v c', ((execOp a.eval o).run P c.w = .ok (.value v) c'.w ∨ ((execOp a.eval o).run P c.w = .ok .skip c'.w ∧ v = undef)) ∧ c.le c' ∧ HeapOK w0 H' c' ∧ Rel c' av v

section
variable {P : Program} {w0 : Base} {T : List AV} {H : Heap} {c : Cx} {a : Act} {g : Option (Nat × Bool)} {o : Oper}

theorem goes_value (h : At P w0 T H c a.tmps g) {v : Value} {av : AV} (hr : (execOp a.eval o).run P c.w = .ok (.value v) c.w) (hv : Rel c av v) : Goes P o a w0 H c av :=
  ⟨v, c, .inl hr, Cx.le.refl c, h.heap, hv⟩

theorem colsOf_len : ∀ (d : Nat) (t : TypeId), ∀ col ∈ colsOf P d t, col.len = 0
  | 0, _, _, h => by simp [colsOf] at h
  | d + 1, t, col, h => by
    simp only [colsOf] at h
    split at h
    · simp at h; subst h; rfl
    · simp at h; subst h; rfl
    · obtain ⟨f, _, hf⟩ := List.mem_flatMap.1 h
      exact colsOf_len d f.type col hf
    · split at h
      · simp at h; subst h; rfl
      · simp at h
    · simp at h

theorem ofConst_rel (t : TypeId) (v : Value) : Rel c (ofConst P t v) v := by
  unfold ofConst
  split <;> try simp [Rel]
  split
  · simp only [Rel]
    exact ⟨colsOf_len 9 _, none, rfl⟩
  · simp [Rel]

theorem plainUnder_rel {tmps : Array Value} (hg : ∀ j b, g = some (j, b) → tmps[j]? = some (.bool b)) {x : AV} {v : Value} (h : RelT c tmps x v) : Rel c (plainUnder g x) v := by
  unfold plainUnder
  split
  · rename_i j b y
    split
    · rename_i j' b'
      split
      · rename_i he
        obtain ⟨rfl, rfl⟩ := he
        exact h.1 (hg _ _ rfl)
      · simp [Rel]
    · simp [Rel]
  · rename_i hx
    cases x <;> first | exact h | exact absurd rfl (hx _ _ _)

theorem TOK.get (h : TOK c T a.tmps) (i : Nat) : RelT c a.tmps (T.getD i .top) (a.tmps.getD i undef) := by
  cases hi : T[i]? with
  | none =>
    have : T.getD i .top = .top := by simp [List.getD, hi]
    rw [this]
    simp [RelT, Rel]
  | some x =>
    have h1 : T.getD i .top = x := by simp [List.getD, hi]
    obtain ⟨u, hu, hr⟩ := h.2 i x hi
    have h2 : a.tmps.getD i undef = u := by
      rw [Array.getD_eq_getD_getElem?, hu]
      rfl
    rw [h1, h2]
    exact hr

theorem opd_rel (h : At P w0 T H c a.tmps g) (t : TypeId) (x : Operand) : Rel c (opd P T g t x) (a.eval x) := by
  cases x with
  | tmp i => exact plainUnder_rel h.guard (h.tok.get i)
  | const v => exact ofConst_rel t v
  | global g => simp [opd, Rel]
  | func f => exact ⟨#[], #[], rfl, by simp [RelL], by simp [RelL]⟩

theorem rel_int {k : IntKind} {n : Int} {v : Value} (h : Rel c (.int k n) v) : v = .int k n := by simpa [Rel] using h
theorem rel_bool {b : Bool} {v : Value} (h : Rel c (.bool b) v) : v = .bool b := by simpa [Rel] using h

/-- The operand that is a value of a form. -/
theorem opd_eq (h : At P w0 T H c a.tmps g) {t : TypeId} {x : Operand} {v : AV} (hx : opd P T g t x = v) : Rel c v (a.eval x) := hx ▸ opd_rel h t x

theorem leaf_one {x : AV} {v : Value} (hl : leafAV x = true) (h : Rel c x v) : v.oneCell' = true := by
  cases x <;> simp only [leafAV, Bool.false_eq_true] at hl <;> simp only [Rel] at h
  case bool => subst h; rfl
  case int => subst h; rfl
  case val => subst h; exact hl
  case sl => obtain ⟨_, _, rfl, _⟩ := h; rfl
  case it => obtain ⟨_, _, rfl⟩ := h; rfl
  case mapv => obtain ⟨_, _, _, rfl, _⟩ := h; rfl
  case emp => obtain ⟨_, _, rfl⟩ := h; rfl
  case full => obtain ⟨_, _, _, rfl, _⟩ := h; rfl
  case osl => obtain ⟨_, _, _, rfl, _⟩ := h; rfl
  case ptr => obtain ⟨_, _, rfl⟩ := h; rfl
  case ip => obtain ⟨_, _, rfl, _⟩ := h; rfl
  case mp => obtain ⟨_, _, rfl⟩ := h; rfl
  case fn => obtain ⟨_, _, rfl, _⟩ := h; rfl
  case ifc => obtain ⟨_, rfl, _⟩ := h; rfl

theorem cells_of_one {v : Value} (h : v.oneCell' = true) : v.cells = #[v] := by
  cases v <;> first | rfl | (simp [Value.oneCell'] at h)

theorem leaves_one : ∀ {cs : List AV} {vs : List Value}, cs.all leafAV = true → RelL c cs vs → ∀ v ∈ vs, v.oneCell' = true
  | [], [], _, _, v, hv => by simp at hv
  | x :: cs, u :: vs, hl, hr, v, hv => by
    simp only [List.all_cons, Bool.and_eq_true] at hl
    simp only [RelL] at hr
    rcases List.mem_cons.1 hv with rfl | hv
    · exact leaf_one hl.1 hr.1
    · exact leaves_one hl.2 hr.2 v hv
  | [], _ :: _, _, hr, _, _ => by simp [RelL] at hr
  | _ :: _, [], _, hr, _, _ => by simp [RelL] at hr

theorem cellsOfAV_rel {x : AV} {cs : List AV} {v : Value} (hc : cellsOfAV x = some cs) (h : Rel c x v) : RelL c cs v.cells.toList ∧ ∀ u ∈ v.cells.toList, u.oneCell' = true := by
  have one : ∀ {y : AV}, leafAV y = true → Rel c y v → RelL c [y] v.cells.toList ∧ ∀ u ∈ v.cells.toList, u.oneCell' = true := by
    intro y hl hr
    have h1 := leaf_one hl hr
    rw [cells_of_one h1]
    exact ⟨by simp [RelL, hr], by simp [h1]⟩
  cases x with
  | agg ds =>
    simp only [cellsOfAV] at hc
    split at hc
    · rename_i hl
      cases hc
      simp only [Rel] at h
      obtain ⟨vs, rfl, hr⟩ := h
      exact ⟨hr, leaves_one hl hr⟩
    · cases hc
  | _ =>
    simp only [cellsOfAV] at hc
    split at hc
    · rename_i hl
      cases hc
      exact one hl h
    · cases hc

theorem isVal_rel {x : AV} {v : Value} (h : isVal x v = true) : Rel c x v := by
  unfold isVal at h
  split at h
  · simp at h; simp [Rel, h.1, h.2]
  · simp at h; simp [Rel, h]
  · simp only [Rel]; exact ⟨by simpa using h, none, rfl⟩
  · simp [Rel]
  · simp [Rel]
  · simp [Rel]
  · simp [Rel]
  · simp at h

theorem areVals_rel : ∀ {cs : List AV} {vs : List Value}, areVals cs vs = true → RelL c cs vs
  | [], [], _ => by simp [RelL]
  | x :: cs, v :: vs, h => by
    simp only [areVals, Bool.and_eq_true] at h
    simp only [RelL]
    exact ⟨isVal_rel h.1, areVals_rel h.2⟩
  | [], _ :: _, h => by simp [areVals] at h
  | _ :: _, [], h => by simp [areVals] at h

theorem zeroCellsOf_some {t : TypeId} {cs : List AV} (h : zeroCellsOf P t = some cs) : ∃ i v, P.info? t = some i ∧ i.zero = some v ∧ areVals cs v.cells.toList = true ∧ v.cells.toList.length = i.size := by
  unfold zeroCellsOf at h
  split at h
  · rename_i v hv
    split at h
    · rename_i hb
      cases h
      cases hi : P.info? t with
      | none => simp [hi] at hv
      | some i =>
        simp [hi] at hv
        simp only [Bool.and_eq_true, beq_iff_eq] at hb
        exact ⟨i, v, rfl, hv, hb.1, by rw [hb.2]; simp [Program.cellsOf, hi]⟩
    · cases h
  · cases h

theorem run_zeroValue {t : TypeId} {i : TypeInfo} {v : Value} (hi : P.info? t = some i) (hv : i.zero = some v) (w : World) : (zeroValue t).run P w = .ok v w := by
  simp [zeroValue, typeInfo, hi, hv]

theorem run_sizeOf {t : TypeId} {i : TypeInfo} (hi : P.info? t = some i) (w : World) : (sizeOf t).run P w = .ok i.size w := by
  simp [sizeOf, typeInfo, hi]

theorem szOf_some {t : TypeId} {n : Nat} (h : szOf P t = some n) : ∃ i d, P.info? t = some i ∧ P.underlying t = some d ∧ i.size = n := by
  unfold szOf at h
  split at h
  · rename_i i d hi hd
    cases h
    exact ⟨i, d, hi, hd, rfl⟩
  · cases h

theorem run_isAgg {t : TypeId} {d : TypeDesc} (hd : P.underlying t = some d) (w : World) : (isAgg t).run P w = .ok (isAggT P t) w := by
  simp only [isAgg, Sem.run_bind, run_underlying hd, Result.andThen_ok, isAggT, hd]
  cases d <;> rfl

/- moves -/
theorem move_goes (h : At P w0 T H c a.tmps g) {x : Operand} {v : AV} (ho : o.op = .move x ∨ o.op = .assign x) (hx : opd P T g o.type x = v) : Goes P o a w0 H c v := by
  refine goes_value h (v := a.eval x) ?_ (opd_eq h hx)
  rcases ho with ho | ho <;> simp [execOp, ho]

/-- A new variable. -/
theorem box_any (h : At P w0 T H c a.tmps g) {t : TypeId} {cs : List AV} {v : Value} {fr : Nat} (hfr : H.at fr = none) (hr : (execOp a.eval o).run P c.w = .ok (.value (.pointer (some ⟨c.w.heap.size, 0, none⟩))) { c.w with heap := c.w.heap.push (.cells v.cells t (0, 0)) }) (hv : RelL c cs v.cells.toList) :
    Goes P o a w0 (writeAll H [(fr, .var cs)]) c (.ptr fr 0 0) := by
  have hn := h.heap.free fr hfr
  have hle := le_push h.heap (.cells v.cells t (0, 0)) fr ⟨c.w.heap.size, cs.length, 1, 1⟩ hn
  refine ⟨_, c.putAt { c.w with heap := c.w.heap.push (.cells v.cells t (0, 0)) } fr ⟨c.w.heap.size, cs.length, 1, 1⟩, .inl hr, hle, ?_, ?_⟩
  · refine h.heap.alloc fr _ _ _ hfr rfl ?_
    exact ⟨v.cells, t, heap_push_new _ _, hv.mono hle⟩
  · simp only [Rel]
    exact ⟨_, by simp [Cx.putAt]; rfl, by simp⟩

theorem run_box (t : TypeId) (v : Value) (w : World) : (Instr.box t v).run P w = .ok (.pointer (some ⟨w.heap.size, 0, none⟩)) { w with heap := w.heap.push (.cells v.cells t (0, 0)) } := by
  simp [Instr.box, newVar, newRow]

theorem box_goes (h : At P w0 T H c a.tmps g) {t : TypeId} {x : Operand} {cs : List AV} {fr : Nat} (hfr : H.at fr = none) (ho : o.op = .box t x) (hx : cellsOfAV (opd P T g t x) = some cs) :
    Goes P o a w0 (writeAll H [(fr, .var cs)]) c (.ptr fr 0 0) := by
  refine box_any h hfr (t := t) (v := a.eval x) ?_ (cellsOfAV_rel hx (opd_rel h t x)).1
  simp only [execOp, ho, Sem.run_bind, run_box, Result.andThen_ok, Sem.run_pure]

theorem alloc_goes (h : At P w0 T H c a.tmps g) {t : TypeId} {cs : List AV} {fr : Nat} (hfr : H.at fr = none) (ho : o.op = .alloc t) (hx : zeroCellsOf P t = some cs) :
    Goes P o a w0 (writeAll H [(fr, .var cs)]) c (.ptr fr 0 0) := by
  obtain ⟨i, v, hi, hv, har, _⟩ := zeroCellsOf_some hx
  refine box_any h hfr (t := t) (v := v) ?_ (areVals_rel har)
  simp [execOp, ho, Instr.alloc, run_zeroValue hi hv, newVar, newRow]

theorem asrt_iff {b : Bool} {X : Prop} : asrt b X ↔ b = true ∧ X := by
  cases b <;> simp [asrt]

/- numbers and bools -/
theorem arith_run {op : BinOp} {k : IntKind} {x y : Int} {b : Option Bool} {v : AV} (h : arith op k x y = some (b, v)) (hb : b ≠ some false) (t : TypeId) (w : World) :
    ∃ u, (binOp op t (.int k x) (.int k y)).run P w = .ok u w ∧ Rel c v u := by
  cases op <;> simp only [arith, Option.some.injEq, Prod.mk.injEq, reduceCtorEq] at h <;> obtain ⟨rfl, rfl⟩ := h
  case add => exact ⟨_, by simp [binOp, Op.intArith]; rfl, by simp [Rel, iadd]⟩
  case sub => exact ⟨_, by simp [binOp, Op.intArith]; rfl, by simp [Rel, isub]⟩
  case mul => exact ⟨_, by simp [binOp, Op.intArith]; rfl, by simp [Rel, imul]⟩
  case quo =>
    have hy : y ≠ 0 := by rintro rfl; simp [ine] at hb
    exact ⟨_, by simp [binOp, Op.intDiv, hy]; rfl, by simp [Rel, iquo]⟩
  case rem =>
    have hy : y ≠ 0 := by rintro rfl; simp [ine] at hb
    exact ⟨_, by simp [binOp, Op.intDiv, hy]; rfl, by simp [Rel, irem]⟩
  all_goals exact ⟨_, by simp [binOp, Op.intCmp]; rfl, by simp [Rel, ieq, ine, ilt, ile, igt, ige]⟩

theorem eqGuard_plain (op : BinOp) (t : TypeId) (x y : Operand) {u v : Value} (hu : u.oneCell' = true) (hn : u ≠ .nilIface) (w : World) : (eqGuard op t x y u v).run P w = .ok () w := by
  cases op <;> cases u <;> first | (simp [Value.oneCell'] at hu; done) | (exact absurd rfl hn) | (cases v <;> simp [eqGuard])

end
end Go.Own
