/- Calls of summaries; and what one operation does, whatever it is. -/
import Derived.Test.YtmilniofdpgbnaaOwnOM
set_option linter.unusedVariables false
set_option linter.unusedSimpArgs false
namespace Go.Own
open Go

def Fresh (H : Heap) (fr : Nat) : Prop := ∀ id, fr ≤ id → id < fr + 128 → H.at id = none

def Enters (P : Program) (k : FuncId) : Prop := ∃ fn, P.funcs[k]? = some fn ∧ (fn.name == "runtime.NumGoroutine") = false ∧ fn.body.isSome = true

/-- What a call comes to, in a world that fits. -/
def CallGoes (P : Program) (k : FuncId) (vs : Array Value) (w0 : Base) (H' : Heap) (c : Cx) (av : AV) : Prop :=
  Calls P k vs c.w fun en w' => ∃ v c', en = .returned v ∧ w' = c'.w ∧ c.le c' ∧ HeapOK w0 H' c' ∧ Rel c' av v

def SummOK (P : Program) (k : FuncId) (s : Summ) : Prop :=
  Enters P k ∧ ∀ (w0 : Base) (H : Heap) (c : Cx) (args : List AV) (vs : Array Value) (fr : Nat) (e : Eff), HeapOK w0 H c → RelL c args vs.toList → Fresh H fr → s args H fr = some e → e.obl ≠ some false → CallGoes P k vs w0 (writeAll H e.writes) c e.val

/-- The operation goes on in a world that fits. -/
def OpGoes (P : Program) (o : Oper) (a : Act) (w0 : Base) (H' : Heap) (c : Cx) (av : AV) : Prop :=
  ∀ (next : Act → World → Prop) (Q : Exit → Act → World → Prop), (∀ v c', c.le c' → HeapOK w0 H' c' → Rel c' av v → next (a.put o.dst v) c'.w) → o.wp P a c.w next Q

section
variable {P : Program} {w0 : Base} {T : List AV} {H : Heap} {c : Cx} {a : Act} {g : Option (Nat × Bool)} {o : Oper}

theorem OpGoes.of {H' : Heap} {av : AV} (h : Goes P o a w0 H' c av) : OpGoes P o a w0 H' c av := by
  intro next Q hn
  obtain ⟨v, c', hr, h1, h2, h3⟩ := h
  unfold Oper.wp
  rcases hr with hr | ⟨hr, rfl⟩
  · rw [hr]
    exact hn v c' h1 h2 h3
  · rw [hr]
    exact hn undef c' h1 h2 h3

theorem OpGoes.call {H' : Heap} {av : AV} {k : FuncId} {vs : Array Value} (hr : (execOp a.eval o).run P c.w = .ok (.enter k vs) c.w) (h : CallGoes P k vs w0 H' c av) : OpGoes P o a w0 H' c av := by
  intro next Q hn
  unfold Oper.wp
  rw [hr]
  refine Calls.mono h ?_
  rintro en w' ⟨v, c', rfl, rfl, h1, h2, h3⟩
  exact hn v c' h1 h2 h3

theorem run_callFunc {k : FuncId} (h : Enters P k) (vs : Array Value) (w : World) : (callFunc k vs).run P w = .ok (.enter k vs) w := by
  obtain ⟨fn, h1, h2, h3⟩ := h
  have h4 : fn.body.isNone = false := by
    cases hb : fn.body with
    | none => simp [hb] at h3
    | some b => rfl
  simp only [callFunc, Sem.run_bind, run_program, Result.andThen_ok, h1, h2, h4, Bool.false_eq_true, if_false, Sem.run_pure]

theorem args_rel (h : At P w0 T H c a.tmps g) : ∀ (xs : List Operand) (ts : List TypeId), xs.length ≤ ts.length → RelL c ((xs.zip ts).map fun (x, t) => opd P T g t x) (xs.map a.eval)
  | [], _, _ => by simp [RelL]
  | x :: xs, [], hl => by simp at hl
  | x :: xs, t :: ts, hl => by
    simp only [List.zip_cons_cons, List.map_cons, RelL]
    exact ⟨opd_rel h t x, args_rel h xs ts (by simpa using hl)⟩

theorem methodOf_some {t : TypeId} {name : String} {f : FuncId} (h : methodOf P t name = some f) (v : Value) (w : World) : ∀ fuel, (Go.method (fuel + 1) t v name).run P w = .ok (f, v) w := by
  intro fuel
  unfold methodOf at h
  split at h
  · rename_i i hi
    split at h
    · rename_i m hm
      split at h
      · rename_i e1 e2 hp hf hu
        cases h
        simp only [Go.method, typeInfo, Sem.run_bind, run_program, Result.andThen_ok, hi, Sem.run_pure, hm, hp, follow, hf, receiverAt, run_underlying hu, Place.get]
      · cases h
    · cases h
  · cases h

theorem run_call (h : At P w0 T H c a.tmps g) {cl : Call} {k : FuncId} {args : List AV} (ho : o.op = .call cl) (hc : calleeOf P T g cl = some (k, args)) (hent : Enters P k) :
    ∃ vs, (execOp a.eval o).run P c.w = .ok (.enter k vs) c.w ∧ RelL c args vs.toList := by
  have hargs := args_rel h cl.args.toList (cl.argTypes.toList ++ List.replicate cl.args.size 0) (by simp)
  cases cl with
  | mk callee xs ats =>
    cases callee with
    | value f =>
      simp only [calleeOf] at hc
      split at hc
      · rename_i k' first cap hf
        cases hc
        have rf := opd_eq h hf
        simp only [Rel] at rf
        obtain ⟨us, cs, hv, h1, h2⟩ := rf
        refine ⟨us ++ xs.map a.eval ++ cs, ?_, ?_⟩
        · simp only [execOp, ho, resolve, hv, Deferred.ofValue, Sem.run_bind, Sem.run_pure, Result.andThen_ok, invoke, run_callFunc hent]
        · simp only [Array.toList_append, Array.toList_map]
          exact (h1.append hargs).append h2
      · cases hc
    | invoke r name =>
      simp only [calleeOf] at hc
      split at hc
      · rename_i t v hr
        split at hc
        · rename_i f hm
          cases hc
          have rr := opd_eq h hr
          simp only [Rel] at rr
          obtain ⟨u, hv, h1⟩ := rr
          refine ⟨#[u] ++ xs.map a.eval, ?_, ?_⟩
          · have hpos : 0 < Made.depth := by decide
            obtain ⟨q, hq⟩ : ∃ q, P.types.size + Made.depth = q + 1 := ⟨P.types.size + Made.depth - 1, by omega⟩
            have hrun := methodOf_some hm u c.w q
            have hex : (#[Value.iface t u] ++ xs.map a.eval).extract 1 (#[Value.iface t u] ++ xs.map a.eval).size = xs.map a.eval := by
              apply Array.ext'
              simp only [Array.toList_extract, List.extract_eq_take_drop, Array.toList_append, List.singleton_append, List.drop_succ_cons, List.drop_zero]
              rw [List.take_of_length_le (by simp)]
            have hget : (#[Value.iface t u] ++ xs.map a.eval)[0]? = some (.iface t u) := by
              rw [Array.getElem?_append]
              simp
            simp only [execOp, ho, resolve, hv, Sem.run_bind, Sem.run_pure, Result.andThen_ok, invoke, hget, hex, callMethod, run_program, hq, hrun, run_callFunc hent]
          · simp only [Array.toList_append, Array.toList_map, List.singleton_append, RelL]
            exact ⟨h1, hargs⟩
        · cases hc
      · cases hc
    | builtin b => simp [calleeOf] at hc

end
end Go.Own
