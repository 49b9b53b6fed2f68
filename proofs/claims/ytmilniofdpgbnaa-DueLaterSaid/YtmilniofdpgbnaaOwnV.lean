/- Loops of several functions that are entered in place. -/
import Derived.Test.YtmilniofdpgbnaaOwnN
set_option linter.unusedVariables false
set_option linter.unusedSimpArgs false
namespace Go.Own
open Go

section
variable {P : Program}

theorem loopHyp_is {k : FuncId} {i : Nat} {x : LoopS} (h : LoopHyp P k i x) {fn : Func} {c : Code} (hf : P.funcs[k]? = some fn) (hb : fn.body = some c) : ∀ p ∈ loopsOf c 1000, p.1 = i → LoopIs P p.2 x := by
  intro p hp hi
  cases x with
  | unroll _ => trivial
  | summ s =>
    obtain ⟨h1, h2⟩ := h
    rw [bodyOf_eq h1 hf hb p hp hi]
    exact h2
  | frame s =>
    obtain ⟨h1, h2⟩ := h
    rw [bodyOf_eq h1 hf hb p hp hi]
    exact h2

theorem tabL_ok : ∀ {ll : List (FuncId × Nat × LoopS)}, (∀ p ∈ ll, LoopHyp P p.1 p.2.1 p.2.2) → ∀ f fn c, P.funcs[f]? = some fn → fn.body = some c → ∀ p ∈ loopsOf c 1000, ∀ x, tabL ll f p.1 = some x → LoopIs P p.2 x
  | [], _, _, _, _, _, _, _, _, _, h => by cases h
  | (k, i, y) :: ll, hl, f, fn, c, hf, hb, p, hp, x, h => by
    unfold tabL at h
    split at h
    · rename_i e
      have e : f = k := by simpa using e
      subst e
      split at h
      · rename_i e2
        have e2 : p.1 = i := by simpa using e2
        cases h
        exact loopHyp_is (hl (f, i, y) (by simp)) hf hb p hp e2
      · exact tabL_ok (fun q hq => hl q (by simp [hq])) f fn c hf hb p hp x h
    · exact tabL_ok (fun q hq => hl q (by simp [hq])) f fn c hf hb p hp x h

theorem tab_callL (hm : P.follows .mixedOrders = true) {l : List (FuncId × Pure1)} (hl : ∀ p ∈ l, PureOK P p.1 p.2) {ll : List (FuncId × Nat × LoopS)} (hll : ∀ p ∈ ll, LoopHyp P p.1 p.2.1 p.2.2) (n : Nat) : CallfOK P (callN P (tabS l) (tabL ll) n) :=
  callN_sound hm (tabS_ok hl) tabS_local (tabL_ok hll) n

/-- A function, with the loops of those that it enters in place. -/
theorem tab_many (hm : P.follows .mixedOrders = true) {l : List (FuncId × Pure1)} (hl : ∀ p ∈ l, PureOK P p.1 p.2) {ll : List (FuncId × Nat × LoopS)} (hll : ∀ p ∈ ll, LoopHyp P p.1 p.2.1 p.2.2) {k : FuncId} {F : Pure1} (own : Bool) (he : entersB P k = true)
    (hv : ∀ as b r, F as = some (b, r) → b ≠ some false → WFL as → VC P (tabS l) (tabL ll) own k as r) : PureOK P k F :=
  pure_of hm (tabS_ok hl) tabS_local (L := tabL ll) (tabL_ok hll) own he hv

theorem tab_loopV (hm : P.follows .mixedOrders = true) {l : List (FuncId × Pure1)} (hl : ∀ p ∈ l, PureOK P p.1 p.2) {ll : List (FuncId × Nat × LoopS)} (hll : ∀ p ∈ ll, LoopHyp P p.1 p.2.1 p.2.2) {body : Code} {i : Nat} (s : LoopSpec) (μ : List AV → Heap → Nat)
    (h : ∀ vals objs Q, vals.length = s.keep.length → objs.length = s.srcs.length → WFL vals → WFH objs → s.goes vals objs Q → runCode P (tabS l) (callN P (tabS l) (tabL ll) 11) (fun _ => none) body i ⟨mkT s.keep vals s.n 0, objs⟩ (s.ends μ vals objs Q)) : LoopOK P body s.summ :=
  LoopSpec.ok hm (tabS_ok hl) tabS_local (tab_callL hm hl hll 11) (fun _ _ _ h => by cases h) s μ h

theorem tab_loopAV (hm : P.follows .mixedOrders = true) {l : List (FuncId × Pure1)} (hl : ∀ p ∈ l, PureOK P p.1 p.2) {ll : List (FuncId × Nat × LoopS)} (hll : ∀ p ∈ ll, LoopHyp P p.1 p.2.1 p.2.2) {body : Code} {i : Nat} (s : LoopSpec) (μ : List AV → Heap → Nat)
    (h : ∀ vals objs Q, vals.length = s.keep.length → objs.length = s.srcs.length → WFL vals → WFH objs → s.goes vals objs Q → runCode P (tabS l) (callN P (tabS l) (tabL ll) 11) (fun _ => none) body i ⟨mkT s.keep vals s.n 0, objs⟩ (s.endsA μ vals objs Q)) : LoopFr P body s.framed :=
  LoopSpec.okA hm (tabS_ok hl) tabS_local (tab_callL hm hl hll 11) (fun _ _ _ h => by cases h) s μ h

end
end Go.Own
