/- Laws of the walk that are no program's own: a call through a function value; a map that the call itself made, whatever its elements are. -/
import Derived.Test.YtmilniofdpgbnaaPLx0
import Derived.Maps.OwnSet
import Derived.Maps.Keyed
import Derived.Maps.Range
namespace Go.Proofs.Ytmilniofdpgbnaa.PL
open Go.RowKit Go.Proofs.YtmilniofdpgbnaaW.PrintWords Go.Proofs.YtmilniofdpgbnaaW.PrintLast Go.Proofs.YtmilniofdpgbnaaW.PrintMore
set_option linter.unusedSimpArgs false
set_option linter.unusedVariables false
open Go.ChangeMaps Go.MapKept
open Go.Maps (Keyed)
section
variable {P : Program} {ops : Array Oper} {rest : List Oper} {oi : Oper} {a : Act} {Q : Exit → Act → World → Prop} {w : World}
/-- A call through a function value. -/
theorem goesV_ (N : Option Tmp) (hd : oi.dst = N) (hg : oi.guard = none) {f : FuncId} {fn : Func} {x : Operand} {ys : Array Operand} {ts : Array TypeId} (hop : oi.op = .call { callee := .value x, args := ys, argTypes := ts })
    (first caps : Array Value) (hx : a.eval x = .func (.func f) first caps) (hf : P.funcs[f]? = some fn) (hname : (fn.name == "runtime.NumGoroutine") = false) (hb : fn.body.isSome = true) (args : Array Value) (hargs : first ++ ys.map a.eval ++ caps = args)
    (h : Calls P f args w fun e w' => ∃ v, e = .returned v ∧ wpList P ops Q rest (a.put N v) w') : wpList P ops Q (oi :: rest) a w := by
  refine wpList_plain hg fun K hK => ?_
  have he := enters_ hf hname hb args w
  have hrun : (execOp a.eval oi).run P w = .ok (.enter f args) w := by
    unfold execOp
    simp [hop, resolve, hx, Deferred.ofValue, invoke, hargs, he]
  unfold Oper.wp
  rw [hrun, Oper.upon_enter]
  refine h.mono fun e w'' hh => ?_
  obtain ⟨v, rfl, hk⟩ := hh
  subst hd
  exact hK _ _ hk
/-- Whatever an element is, it reads as itself. -/
def heldE (v : Value) : Option (DataW Value × List MemPlace) := some (.held v, [])
/-- 'm[k] = v', and an entry of a map literal. -/
theorem insert_own (hg : oi.guard = none) (m x v : Operand) (t : TypeId) (hop : oi.op = .insert t m x v)
    (k e : TypeId) (K : Keyed P k) (ht : P.underlying t = some (.map k e)) (b n : Nat) (D : DataW Value)
    (hm : a.eval m = .map (some b)) (hown : w.ownsMap P k heldE b n D) (hn : n < maxLen) (key val : Value) (kl : Lit) (hx : a.eval x = key) (hv : a.eval v = val) (hkey : keyOf P k key = some kl)
    (hK : ∀ w', w'.ownsMap P k heldE b (n + 1) (D.put kl (.held val)) → w.grownBy w' (some b) → wpList P ops Q rest (a.put oi.dst undef) w') :
    wpList P ops Q (oi :: rest) a w := by
  refine wpList_plain hg fun K' hK' => ?_
  obtain ⟨w', hrun, r1, r2⟩ := hown.store K ht hn hkey (rfl : heldE val = some (.held val, []))
  unfold Oper.wp
  simp [execOp, hop, hm, hx, hv, hrun, Result.andThen]
  exact hK' _ _ (hK w' r1 r2.grown)
/-- 'v, ok := m[k]'. -/
theorem lookup_own (hg : oi.guard = none) (m x : Operand) (t : TypeId) (hop : oi.op = Op.lookup t m x true)
    (k e : TypeId) (K : Keyed P k) (ht : P.underlying t = some (.map k e)) {z : Value} (hz : (zeroValue e).run P w = .ok z w) (b n : Nat) (D : DataW Value)
    (hm : a.eval m = .map (some b)) (hown : w.ownsMap P k heldE b n D) (key : Value) (kl : Lit) (hx : a.eval x = key) (hkey : keyOf P k key = some kl) (v : Value) (c : Bool) (hv : D.atKey kl (.held z) = .held v) (hc : Maps.has D kl = c)
    (hK : wpList P ops Q rest (a.put oi.dst (.tuple #[v, .bool c])) w) :
    wpList P ops Q (oi :: rest) a w :=
  wpList_lookup_own_ok w hg m x t hop k e K ht heldE hz (.held z) [] rfl b n D hm hown key kl hx hkey (fun v' ps hv' => by
    have : v' = v := by
      have h1 := congrArg Prod.fst (Option.some.inj hv')
      have h2 : (DataW.held v' : DataW Value) = .held v := h1.trans hv
      exact DataW.held.inj h2
    subst this
    rw [hc]
    exact hK)
/-- A lookup whose run is known. -/
theorem lookup_run (hg : oi.guard = none) (m x : Operand) (t : TypeId) (c : Bool) (hop : oi.op = Op.lookup t m x c) (vm vx v : Value) (hm : a.eval m = vm) (hx : a.eval x = vx) (hrun : (Instr.lookup t vm vx c).run P w = .ok v w)
    (hK : wpList P ops Q rest (a.put oi.dst v) w) : wpList P ops Q (oi :: rest) a w := by
  refine wpList_plain hg fun K' hK' => ?_
  unfold Oper.wp
  simp [execOp, hop, hm, hx, hrun, Result.andThen]
  exact hK' _ _ hK
/-- The call through a function value of an operation that may be left out. -/
theorem goesVW_ {N : Option Tmp} {K : Act → World → Prop} {f : FuncId} {fn : Func} {x : Operand} {ys : Array Operand} {ts : Array TypeId} (first caps args : Array Value) (hf : P.funcs[f]? = some fn) (hname : (fn.name == "runtime.NumGoroutine") = false) (hb : fn.body.isSome = true)
    (hw : Region.wanted oi (yielded ops a.tmps) = true) (hN : oi.dst = N) (hop : oi.op = .call { callee := .value x, args := ys, argTypes := ts }) (hx : a.eval x = .func (.func f) first caps) (hargs : first ++ ys.map a.eval ++ caps = args)
    (h : Calls P f args w fun e w' => ∃ v, e = .returned v ∧ K (a.put N v) w') : if Region.wanted oi (yielded ops a.tmps) = true then Oper.wp P oi a w K Q else K (a.put N undef) w := by
  refine call_ f args hw hN ?_ h
  have he := enters_ hf hname hb args w
  unfold execOp
  simp [hop, resolve, hx, Deferred.ofValue, invoke, hargs, he]
/-- 'map[K]V{..}', as it is made. -/
theorem made_own (hg : oi.guard = none) (t : TypeId) (hop : oi.op = .makeMap t none) (k : TypeId)
    (hK : ∀ b, b = w.heap.size → ∀ w', w'.ownsMap P k heldE b 0 (.map []) → Below w.heap.size w w' → wpList P ops Q rest (a.put oi.dst (.map (some b))) w') :
    wpList P ops Q (oi :: rest) a w := by
  refine wpList_plain hg fun K' hK' => ?_
  unfold Oper.wp
  simp [execOp, hop, run_makeMap, Result.andThen]
  exact hK' _ _ (hK _ rfl _ (World.ownsMap_made w P k heldE) ((Below.refl _ _).alloc (Nat.le_refl _) _))
end
/-- 'v, ok := m[k]' for a number k that is no key, be it what it may. -/
theorem run_lookup_none {P : Program} {w : World} {k t e : TypeId} {q : IntKind} (hk : P.underlying k = some (.int q)) (ht : P.underlying t = some (.map k e)) {z : Value} (hz : (zeroValue e).run P w = .ok z w) {b n : Nat} {l : List (Lit × DataW Value)}
    (hown : w.ownsMap P k heldE b n (.map l)) (a : Int) (hne : ∀ p ∈ l, p.1 ≠ .int q a) : (Instr.lookup t (.map (some b)) (.int q a) true).run P w = .ok (.tuple #[z, .bool false]) w := by
  obtain ⟨es, clock, hb, F, _, hD⟩ := hown
  have hl : l = (es.toList.map (Go.WideElems.rg P k heldE)).foldr DataW.insert [] := DataW.map.inj hD
  have hkeys : ∀ y ∈ es.toList, IsKey (.int q) y.key := fun y hy => by
    obtain ⟨v, hv⟩ := F.reads y hy
    have h1 := Go.WideElems.rd_key hv
    have h2 : mapKey P k y.key = some v.1 := by rw [← h1]; simp [keyOf, hk]
    obtain ⟨d', hd', h3, _⟩ := Go.WideShapes.mapKey_isKey h2
    rw [hk] at hd'; cases hd'; exact h3
  have ha : IsKey (.int q) (.int q a) := rfl
  rcases findNow_spec ha es.toList 0 hkeys with ⟨h1, h2⟩ | ⟨j, e0, h1, h2, h3⟩
  · simp [Instr.lookup, run_underlying ht, MapKept.run_getObj_map hb, run_checkKey hk ha es.isEmpty 9999, run_findKey hk h1, hz, Result.andThen]
  · exfalso
    have hm0 : e0 ∈ es.toList := List.mem_of_getElem? h2
    obtain ⟨v, hv⟩ := F.reads e0 hm0
    have h4 := Go.WideElems.rd_key hv
    have h5 : v.1 = .int q a := by
      rw [h3] at h4
      simp only [keyOf, mapKey, hk] at h4
      split at h4 <;> simp_all
    have h6 : Go.WideElems.rg P k heldE e0 ∈ l := by rw [hl]; exact Go.mem_sorted.2 (List.mem_map.2 ⟨e0, hm0, rfl⟩)
    rw [Go.WideElems.rg_of hv] at h6
    exact hne _ h6 h5
theorem ml_grown {W w1 : World} {b g : Nat} {o : Obj} (hg : W.grownBy w1 (some b)) (h : W.heap[g]? = some o) (hne : g ≠ b) : w1.heap[g]? = some o := by
  have hlt : g < W.heap.size := (Array.getElem?_eq_some_iff.1 h).1
  rw [hg.block g hlt (fun e => hne (Option.some.inj e))]; exact h
theorem ml_below {W w1 : World} {g : Nat} {o : Obj} (hb : Below W.heap.size W w1) (h : W.heap[g]? = some o) : w1.heap[g]? = some o := by
  have hlt : g < W.heap.size := (Array.getElem?_eq_some_iff.1 h).1
  rw [hb.block g hlt]; exact h
theorem ml_map_below {P : Program} {k : TypeId} {R : Value → Option (DataW Value × List MemPlace)} {b n : Nat} {D : DataW Value} {W w1 : World} (hb : Below W.heap.size W w1) (h : W.ownsMap P k R b n D) : w1.ownsMap P k R b n D := by
  obtain ⟨es, clock, h1, h2⟩ := h
  exact ⟨es, clock, ml_below hb h1, h2⟩
theorem ml_map_lt {P : Program} {k : TypeId} {R : Value → Option (DataW Value × List MemPlace)} {b n : Nat} {D : DataW Value} {W : World} (h : W.ownsMap P k R b n D) : b < W.heap.size := h.lt
theorem ml_into {b : Nat} {w W w1 : World} (h : Below w.heap.size w W) (hg : W.grownBy w1 (some b)) (hb : w.heap.size ≤ b) : Below w.heap.size w w1 :=
  h.grown hg h.size (fun k e => by cases e; exact hb)
theorem ml_lt {W : World} {g : Nat} {o : Obj} (h : W.heap[g]? = some o) : g < W.heap.size := (Array.getElem?_eq_some_iff.1 h).1
end Go.Proofs.Ytmilniofdpgbnaa.PL
