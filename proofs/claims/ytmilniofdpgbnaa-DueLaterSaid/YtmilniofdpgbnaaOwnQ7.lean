/- Loops, and tables of what is known. -/
import Derived.Test.YtmilniofdpgbnaaOwnQ6
set_option linter.unusedVariables false
set_option linter.unusedSimpArgs false
namespace Go.Own
open Go

section
variable {P : Program} {w0 : Base} {S : FuncId → Option Summ} {callf : CallF}

theorem LoopSpec.ok (hm : P.follows .mixedOrders = true) (hS : ∀ k s, S k = some s → SummOK P k s) (hL : ∀ k s, S k = some s → SummLocal s) (hc : CallfOK P callf) {L : Nat → Option LoopS} {body : Code} {i : Nat} (hl : LoopsOK P 0 L body i) (s : LoopSpec) (μ : List AV → Heap → Nat)
    (h : ∀ vals objs Q, vals.length = s.keep.length → objs.length = s.srcs.length → WFL vals → WFH objs → s.goes vals objs Q → runCode P S callf L body i ⟨mkT s.keep vals s.n 0, objs⟩ (s.ends μ vals objs Q)) : LoopOK P body s.summ := by
  intro w0 st Q hs c0 a QQ hst hQ
  unfold LoopSpec.summ at hs
  split at hs
  · rename_i vals objs ht
    obtain ⟨c1, h1, h2, h3, h4, h5, h6, h7⟩ := tidy_sound hst ht
    have key : ∀ (m : Nat) (vals : List AV) (objs : Heap) (c1 : Cx) (a : Act), μ vals objs < m → vals.length = s.keep.length → objs.length = s.srcs.length → WFL vals → WFH objs →
        s.goes vals objs (fun e vs os => Q e ⟨mkT s.keepE vs s.n 0, os⟩) → StOK w0 ⟨mkT s.keep vals s.n 0, objs⟩ c1 a → c0.leF 0 c1 → Code.rounds P body QQ m a c1.w := by
      intro m
      induction m with
      | zero => intro vals objs c1 a hμ; exact absurd hμ (Nat.not_lt_zero _)
      | succ m ih =>
        intro vals objs c1 a hμ k1 k2 k3 k4 k5 k6 k7
        rw [rounds_succ]
        refine runCode_sound hm hS hL hc body i _ _ hl (h vals objs _ k1 k2 k3 k4 k5) c1 a _ k6 ?_
        intro e st' c' a' g1 g2 g3
        cases e with
        | normal =>
          simp only [LoopSpec.ends] at g3
          split at g3
          · rename_i vs os ht'
            obtain ⟨c2, f1, f2, f3, f4, f5, f6, f7⟩ := tidy_sound g1 ht'
            show Code.rounds P body QQ m a' c'.w
            rw [← f3]
            exact ih vs os c2 a' (by omega) f4 f5 f6 f7 g3.2 f1 ((k7.trans g2).trans f2)
          · exact g3.elim
        | exit id =>
          simp only [LoopSpec.ends] at g3
          split at g3
          · rename_i vs os ht'
            obtain ⟨c2, f1, f2, f3, _⟩ := tidy_sound g1 ht'
            have := hQ (.exit id) _ c2 a' f1 ((k7.trans g2).trans f2) g3
            rw [f3] at this
            exact exOf_then id _ _ this
          · exact g3.elim
        | ret =>
          simp only [LoopSpec.ends] at g3
          split at g3
          · rename_i vs os ht'
            obtain ⟨c2, f1, f2, f3, _⟩ := tidy_sound g1 ht'
            have := hQ .ret _ c2 a' f1 ((k7.trans g2).trans f2) g3
            rw [f3] at this
            exact this
          · exact g3.elim
    refine wp_loop_rounds (μ vals objs + 1) ?_
    rw [← h3]
    exact key _ vals objs c1 a (Nat.lt_succ_self _) h4 h5 h6 h7 hs h1 h2
  · exact hs.elim

theorem bodyOf_eq {f : FuncId} {i : Nat} (h : onlyLoop P f i = true) {fn : Func} {c : Code} (hf : P.funcs[f]? = some fn) (hb : fn.body = some c) : ∀ p ∈ loopsOf c 1000, p.1 = i → p.2 = bodyOf P f i := by
  intro p hp hi
  simp only [onlyLoop, hf, hb, beq_iff_eq] at h
  simp only [bodyOf, hf, hb]
  have hmem : p ∈ (loopsOf c 1000).filter (fun p => p.1 == i) := List.mem_filter.2 ⟨hp, by simp [hi]⟩
  cases hq : (loopsOf c 1000).find? (fun p => p.1 == i) with
  | none => exact absurd (List.find?_eq_none.1 hq p hp) (by simp [hi])
  | some q =>
    have hq' : q ∈ (loopsOf c 1000).filter (fun p => p.1 == i) := List.mem_filter.2 ⟨List.mem_of_find?_eq_some hq, by have := List.find?_some hq; exact this⟩
    cases hl : (loopsOf c 1000).filter (fun p => p.1 == i) with
    | nil => rw [hl] at h; simp at h
    | cons x xs =>
      rw [hl] at h hmem hq'
      simp at h
      subst h
      simp at hmem hq'
      rw [hmem, hq']

/-- What is asked of how the loops of a function are taken. -/
def LoopHyp (P : Program) (k : FuncId) (i : Nat) : LoopS → Prop
  | .unroll _ => True
  | .summ s => onlyLoop P k i = true ∧ LoopOK P (bodyOf P k i) s
  | .frame s => onlyLoop P k i = true ∧ LoopFr P (bodyOf P k i) s

theorem loops_one {k : FuncId} {L : Nat → Option LoopS} (hl : ∀ i x, L i = some x → LoopHyp P k i x) : ∀ f fn c, P.funcs[f]? = some fn → fn.body = some c → ∀ p ∈ loopsOf c 1000, ∀ x, oneL k L f p.1 = some x → LoopIs P p.2 x := by
  intro f fn c hf hb p hp x hx
  unfold oneL at hx
  split at hx
  · rename_i e
    have e : f = k := by simpa using e
    subst e
    have h := hl _ x hx
    cases x with
    | unroll _ => trivial
    | summ s =>
      obtain ⟨h1, h2⟩ := h
      rw [bodyOf_eq h1 hf hb p hp rfl]
      exact h2
    | frame s =>
      obtain ⟨h1, h2⟩ := h
      rw [bodyOf_eq h1 hf hb p hp rfl]
      exact h2
  · cases hx

theorem pure_loops (hm : P.follows .mixedOrders = true) (hS : ∀ k s, S k = some s → SummOK P k s) (hL : ∀ k s, S k = some s → SummLocal s) {k : FuncId} {F : Pure1} (own : Bool) (q : FuncId) (L : Nat → Option LoopS) (he : entersB P k = true)
    (hl : ∀ i x, L i = some x → LoopHyp P q i x)
    (hv : ∀ as b r, F as = some (b, r) → b ≠ some false → WFL as → VC P S (oneL q L) own k as r) : PureOK P k F :=
  pure_of hm hS hL (L := oneL q L) (loops_one hl) own he hv

theorem pure_plain (hm : P.follows .mixedOrders = true) (hS : ∀ k s, S k = some s → SummOK P k s) (hL : ∀ k s, S k = some s → SummLocal s) {k : FuncId} {F : Pure1} (own : Bool) (he : entersB P k = true)
    (hv : ∀ as b r, F as = some (b, r) → b ≠ some false → WFL as → VC P S noL own k as r) : PureOK P k F :=
  pure_of hm hS hL (L := noL) (fun _ _ _ _ _ _ _ _ h => by cases h) own he hv

theorem tabS_ok : ∀ {l : List (FuncId × Pure1)}, (∀ p ∈ l, PureOK P p.1 p.2) → ∀ k s, tabS l k = some s → SummOK P k s
  | [], _, _, _, h => by cases h
  | (i, F) :: l, hl, k, s, h => by
    unfold tabS at h
    split at h
    · rename_i e
      have e : i = k := by simpa using e
      subst e
      cases h
      exact pureSumm_ok (hl (i, F) (by simp))
    · exact tabS_ok (fun p hp => hl p (by simp [hp])) k s h

theorem tabS_local : ∀ {l : List (FuncId × Pure1)}, ∀ k s, tabS l k = some s → SummLocal s
  | [], _, _, h => by cases h
  | (i, F) :: l, k, s, h => by
    unfold tabS at h
    split at h
    · cases h
      exact pureSumm_local F
    · exact tabS_local k s h

/-- What is called on the ground of a table. -/
theorem tab_callf (hm : P.follows .mixedOrders = true) {l : List (FuncId × Pure1)} (hl : ∀ p ∈ l, PureOK P p.1 p.2) (n : Nat) : CallfOK P (callN P (tabS l) noL n) :=
  callN_sound hm (tabS_ok hl) tabS_local (L := noL) (fun _ _ _ _ _ _ _ _ h => by cases h) n

theorem tab_plain (hm : P.follows .mixedOrders = true) {l : List (FuncId × Pure1)} (hl : ∀ p ∈ l, PureOK P p.1 p.2) {k : FuncId} {F : Pure1} (own : Bool) (he : entersB P k = true)
    (hv : ∀ as b r, F as = some (b, r) → b ≠ some false → WFL as → VC P (tabS l) noL own k as r) : PureOK P k F :=
  pure_plain hm (tabS_ok hl) tabS_local own he hv

theorem tab_loops (hm : P.follows .mixedOrders = true) {l : List (FuncId × Pure1)} (hl : ∀ p ∈ l, PureOK P p.1 p.2) {k : FuncId} {F : Pure1} (own : Bool) (L : Nat → Option LoopS) (he : entersB P k = true)
    (hlo : ∀ i x, L i = some x → LoopHyp P k i x)
    (hv : ∀ as b r, F as = some (b, r) → b ≠ some false → WFL as → VC P (tabS l) (oneL k L) own k as r) : PureOK P k F :=
  pure_loops hm (tabS_ok hl) tabS_local own k L he hlo hv

/-- The same, with the loops of a function that is entered in place. -/
theorem tab_loopsAt (hm : P.follows .mixedOrders = true) {l : List (FuncId × Pure1)} (hl : ∀ p ∈ l, PureOK P p.1 p.2) {k : FuncId} {F : Pure1} (own : Bool) (q : FuncId) (L : Nat → Option LoopS) (he : entersB P k = true)
    (hlo : ∀ i x, L i = some x → LoopHyp P q i x)
    (hv : ∀ as b r, F as = some (b, r) → b ≠ some false → WFL as → VC P (tabS l) (oneL q L) own k as r) : PureOK P k F :=
  pure_loops hm (tabS_ok hl) tabS_local own q L he hlo hv

/-- A loop with no other one in it. -/
theorem tab_loop (hm : P.follows .mixedOrders = true) {l : List (FuncId × Pure1)} (hl : ∀ p ∈ l, PureOK P p.1 p.2) {body : Code} {i : Nat} (s : LoopSpec) (μ : List AV → Heap → Nat)
    (h : ∀ vals objs Q, vals.length = s.keep.length → objs.length = s.srcs.length → WFL vals → WFH objs → s.goes vals objs Q → runCode P (tabS l) (callN P (tabS l) noL 11) (fun _ => none) body i ⟨mkT s.keep vals s.n 0, objs⟩ (s.ends μ vals objs Q)) : LoopOK P body s.summ :=
  LoopSpec.ok hm (tabS_ok hl) tabS_local (tab_callf hm hl 11) (fun _ _ _ h => by cases h) s μ h

end
end Go.Own
