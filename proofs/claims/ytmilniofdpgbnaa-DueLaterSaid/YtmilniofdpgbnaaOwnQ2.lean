/- Bodies: what the interpreter says of code holds of its runs. -/
import Derived.Test.YtmilniofdpgbnaaOwnD3
import Derived.LoopN
set_option linter.unusedVariables false
set_option linter.unusedSimpArgs false
namespace Go.Own
open Go

def exOf : Ex → Exit
  | .normal => .normal
  | .exit i => if i < 1000000 then .exit i else .goto (i - 1000000)
  | .ret => .ret

theorem exOf_exit {i : Nat} (h : i < 1000000) : exOf (.exit i) = .exit i := if_pos h

theorem exOf_then {K : Act → World → Prop} {QQ : Exit → Act → World → Prop} (i : Nat) (a : Act) (w : World) (h : QQ (exOf (.exit i)) a w) : Exit.then K QQ (exOf (.exit i)) a w := by
  unfold exOf at h ⊢
  by_cases hi : i < 1000000
  · simp only [hi, if_true] at h ⊢
    exact h
  · simp only [hi, if_false] at h ⊢
    exact h

/-- As 'le', but the places of what is the call's own may be told otherwise: those from the floor on. -/
structure Cx.leF (fl : Nat) (c c' : Cx) : Prop where
  π : ∀ id, id < fl → ∀ p, c.π id = some p → c'.π id = some p
  S : ∀ b, c.S b → c'.S b
  w : ∀ b, c.S b → c'.w.heap[b]? = c.w.heap[b]?
  size : c.w.heap.size ≤ c'.w.heap.size
  rest : Rest c.w c'.w

theorem Cx.le.F {fl : Nat} {c c' : Cx} (h : c.le c') : c.leF fl c' := ⟨fun id _ p => h.π id p, h.S, h.w, h.size, h.rest⟩

theorem Cx.leF.trans {fl : Nat} {a b c : Cx} (h : a.leF fl b) (h' : b.leF fl c) : a.leF fl c :=
  ⟨fun id hid p x => h'.π id hid p (h.π id hid p x), fun b x => h'.S b (h.S b x), fun b x => (h'.w b (h.S b x)).trans (h.w b x), Nat.le_trans h.size h'.size, h'.rest.1.trans h.rest.1, h'.rest.2.1.trans h.rest.2.1, h'.rest.2.2.trans h.rest.2.2⟩

/-- From a state that fits, the code ends in one that fits, and of which the condition holds. -/
def Does (P : Program) (w0 : Base) (fl : Nat) (c : Code) (st : St) (Q : Ex → St → Prop) : Prop :=
  ∀ (c0 : Cx) (a : Act) (QQ : Exit → Act → World → Prop), StOK w0 st c0 a → (∀ e st' c' a', StOK w0 st' c' a' → c0.leF fl c' → Q e st' → QQ (exOf e) a' c'.w) → c.wp P QQ a c0.w

def LoopOK (P : Program) (c : Code) (s : St → (Ex → St → Prop) → Prop) : Prop := ∀ w0 st Q, s st Q → Does P w0 0 (.loop c) st Q

def LoopFr (P : Program) (c : Code) (s : St → (Ex → St → Prop) → Prop) : Prop := ∀ w0 fl st Q, s st Q → Does P w0 fl (.loop c) st Q

/-- What is asked of how a loop is taken, at a floor. -/
def LoopHas (P : Program) (fl : Nat) (c : Code) : LoopS → Prop
  | .unroll _ => True
  | .summ s => fl = 0 ∧ LoopOK P c s
  | .frame s => LoopFr P c s

/-- What is asked of it where no memory of a caller's own is at hand. -/
def LoopIs (P : Program) (c : Code) : LoopS → Prop
  | .unroll _ => True
  | .summ s => LoopOK P c s
  | .frame s => LoopFr P c s

def LoopsOK (P : Program) (fl : Nat) (L : Nat → Option LoopS) (c : Code) (i : Nat) : Prop := ∀ p ∈ loopsOf c i, ∀ x, L p.1 = some x → LoopHas P fl p.2 x

section
variable {P : Program} {w0 : Base} {S : FuncId → Option Summ} {callf : CallF}

theorem TOK.clear {c : Cx} {T : List AV} {tmps : Array Value} (h : TOK c T tmps) : TOK c (clearConds T) tmps := by
  refine ⟨by simp [clearConds, h.1], fun i y hi => ?_⟩
  simp only [clearConds, List.getElem?_map] at hi
  cases hT : T[i]? with
  | none => simp [hT] at hi
  | some z =>
    simp only [hT, Option.map_some, Option.some.injEq] at hi
    obtain ⟨u, hu, hr⟩ := h.2 i z hT
    refine ⟨u, hu, ?_⟩
    subst hi
    cases z with
    | cond => simp [RelT, Rel]
    | _ => exact hr

theorem clear_none {T : List AV} (x j : Nat) (b : Bool) (v : AV) : (clearConds T)[x]? ≠ some (.cond j b v) := by
  simp only [clearConds, List.getElem?_map]
  cases hT : T[x]? with
  | none => simp
  | some z => cases z <;> simp

theorem StOK.at {st : St} {c : Cx} {a : Act} (h : StOK w0 st c a) : At P w0 st.T st.H c a.tmps none := ⟨h.heap, h.tok, by simp⟩

theorem cond_tmp {c : Cx} {st : St} {a : Act} (h : StOK w0 st c a) {x : Operand} {b : Bool} (hx : opd P st.T none 0 x = .bool b) : a.eval x = .bool b ∧ ∀ j, x = .tmp j → a.tmps[j]? = some (.bool b) := by
  constructor
  · exact rel_bool (hx ▸ opd_rel (P := P) h.at 0 x)
  · rintro j rfl
    refine tok_bool h.tok ?_
    simp only [opd, plainUnder] at hx
    split at hx
    · cases hx
    · exact hx

theorem runCode_sound (hm : P.follows .mixedOrders = true) (hS : ∀ k s, S k = some s → SummOK P k s) (hL : ∀ k s, S k = some s → SummLocal s) (hc : CallfOK P callf) {L : Nat → Option LoopS} {fl : Nat} :
    ∀ (c : Code) (i : Nat) (st : St) (Q : Ex → St → Prop), LoopsOK P fl L c i → runCode P S callf L c i st Q → Does P w0 fl c st Q
  | .skip, _, st, Q, _, h => fun c0 a QQ hst hn => wp_skip (hn .normal st c0 a hst (Cx.le.refl _).F h)
  | .label _, _, st, Q, _, h => fun c0 a QQ hst hn => wp_label (hn .normal st c0 a hst (Cx.le.refl _).F h)
  | .exit id, _, st, Q, _, h => by
    intro c0 a QQ hst hn
    simp only [runCode] at h
    split at h
    · rename_i hi
      refine wp_exit ?_
      have := hn (.exit id) st c0 a hst (Cx.le.refl _).F h
      rw [exOf_exit hi] at this
      exact this
    · exact h.elim
  | .goto l, _, st, Q, _, h => by
    intro c0 a QQ hst hn
    simp only [runCode] at h
    refine wp_goto ?_
    have := hn (.exit (1000000 + l)) st c0 a hst (Cx.le.refl _).F h
    have e : exOf (.exit (1000000 + l)) = .goto l := by
      show (if 1000000 + l < 1000000 then Exit.exit (1000000 + l) else Exit.goto (1000000 + l - 1000000)) = Exit.goto l
      rw [if_neg (by omega), Nat.add_sub_cancel_left]
    rw [e] at this
    exact this
  | .ret, _, st, Q, _, h => fun c0 a QQ hst hn => wp_ret (hn .ret st c0 a hst (Cx.le.refl _).F h)
  | .region _ ops draw, _, st, Q, _, h => by
    intro c0 a QQ hst hn
    simp only [runCode] at h
    cases draw with
    | false =>
      simp only [Bool.false_eq_true, if_false] at h
      exact wp_region_list (runOps_sound hS hc _ st c0 a h hst fun st' c' a' h1 h2 h3 => hn .normal st' c' a' h1 h2.F h3)
    | true =>
      simp only [if_true] at h
      obtain ⟨ds, hd, hq⟩ := drawOps_spec (ops := ops) ops.toList [] [] ⟨clearConds st.T, st.H⟩ (by simp) rfl rfl (by simp) h
      refine wp_region_any hm ?_
      obtain ⟨hh, hle⟩ := hst.heap.same { c0.w with drawn := c0.w.drawn + 1 } rfl ⟨rfl, rfl, rfl⟩
      refine draw_sound (w0 := w0) hS hL (st0 := ⟨clearConds st.T, st.H⟩) (c0 := c0.with { c0.w with drawn := c0.w.drawn + 1 }) hd clear_none ?_ ops.size (Array.replicate ops.size false) a (c0.with { c0.w with drawn := c0.w.drawn + 1 }) (by simp) ?_ ?_ ?_ (Cx.le.refl _)
      · intro c a' h1 h2
        exact hn .normal _ c a' h1 (hle.trans h2).F hq
      · exact Nat.le_trans (List.countP_le_length) (by simp)
      · intro j o hj hl
        rw [Array.getD_eq_getD_getElem?] at hl
        by_cases hlt : j < ops.size
        · rw [Array.getElem?_replicate, if_pos hlt] at hl
          simp at hl
        · rw [Array.getElem?_replicate, if_neg hlt] at hl
          simp at hl
      · have : (fun i => (Array.replicate ops.size false).getD i false) = fun _ => false := by
          funext i
          rw [Array.getD_eq_getD_getElem?, Array.getElem?_replicate]
          split <;> rfl
        rw [this, stE_none]
        exact ⟨hh, hst.tok.clear.mono hle, hst.plain⟩
  | .seq x y, i, st, Q, hl, h => by
    intro c0 a QQ hst hn
    simp only [runCode] at h
    refine wp_seq ?_
    refine runCode_sound hm hS hL hc x i st _ (fun p hp => hl p (by simp [loopsOf, hp])) h c0 a _ hst ?_
    intro e st' c' a' h1 h2 h3
    cases e with
    | normal =>
      refine runCode_sound hm hS hL hc y i st' _ (fun p hp => hl p (by simp [loopsOf, hp])) h3 c' a' _ h1 ?_
      intro e st'' c'' a'' h4 h5 h6
      exact hn e st'' c'' a'' h4 (h2.trans h5) h6
    | exit id => exact exOf_then id _ _ (hn _ st' c' a' h1 h2 h3)
    | ret => exact hn _ st' c' a' h1 h2 h3
  | .cond cd x y, i, st, Q, hl, h => by
    intro c0 a QQ hst hn
    simp only [runCode] at h
    split at h
    · rename_i b hb
      obtain ⟨h1, h2⟩ := cond_tmp hst hb
      have lx : LoopsOK P fl L x i := fun p hp => hl p (by simp [loopsOf, hp])
      have ly : LoopsOK P fl L y i := fun p hp => hl p (by simp [loopsOf, hp])
      split at h
      · rename_i j
        obtain ⟨h3, h4⟩ := br_iff.1 h
        have hj := h2 j rfl
        refine wp_cond_split h1 ?_ ?_
        · intro e
          subst e
          exact runCode_sound hm hS hL hc x i _ _ lx (h3 rfl) c0 a QQ ⟨hst.heap, hst.tok.refine hj, hst.plain⟩ hn
        · intro e
          subst e
          exact runCode_sound hm hS hL hc y i _ _ ly (h4 rfl) c0 a QQ ⟨hst.heap, hst.tok.refine hj, hst.plain⟩ hn
      · obtain ⟨h3, h4⟩ := br_iff.1 h
        exact wp_cond_split h1 (fun e => runCode_sound hm hS hL hc x i _ _ lx (h3 e) c0 a QQ hst hn) (fun e => runCode_sound hm hS hL hc y i _ _ ly (h4 e) c0 a QQ hst hn)
    · exact h.elim
  | .block id x, i, st, Q, hl, h => by
    intro c0 a QQ hst hn
    simp only [runCode] at h
    split at h
    case isFalse => exact h.elim
    rename_i hid
    refine wp_block ?_
    refine runCode_sound hm hS hL hc x id st _ (fun p hp => hl p (by simp [loopsOf, hp])) h c0 a _ hst ?_
    intro e st' c' a' h1 h2 h3
    cases e with
    | normal => exact hn _ st' c' a' h1 h2 h3
    | exit id' =>
      by_cases hi' : id' < 1000000
      case neg =>
        have e : exOf (.exit id') = .goto (id' - 1000000) := if_neg hi'
        simp only at h3
        rw [if_neg (by omega)] at h3
        have := hn _ st' c' a' h1 h2 h3
        rw [e] at this ⊢
        exact this
      have e0 := exOf_exit hi'
      rw [e0]
      show Exit.inBlock id QQ (.exit id') a' c'.w
      simp only [Exit.inBlock]
      simp only at h3
      split
      · rename_i e
        rw [if_pos e] at h3
        exact hn _ st' c' a' h1 h2 h3
      · rename_i e
        rw [if_neg e] at h3
        have := hn _ st' c' a' h1 h2 h3
        rw [e0] at this
        exact this
    | ret => exact hn _ st' c' a' h1 h2 h3
  | .loop x, i, st, Q, hl, h => by
    simp only [runCode] at h
    split at h
    · rename_i n hn
      intro c0 a QQ hst hQ
      refine wp_loop_rounds n ?_
      have body : ∀ (st : St) (Q : Ex → St → Prop), runCode P S callf L x i st Q → Does P w0 fl x st Q := fun st Q h => runCode_sound hm hS hL hc x i st Q (fun p hp => hl p (by simp [loopsOf, hp])) h
      clear hn
      induction n generalizing st c0 a with
      | zero => exact h.elim
      | succ n ih =>
        simp only [iter] at h
        rw [rounds_succ]
        refine body st _ h c0 a _ hst ?_
        intro e st' c' a' h1 h2 h3
        cases e with
        | normal =>
          refine ih st' h3 c' a' h1 ?_
          intro e st'' c'' a'' h4 h5 h6
          exact hQ e st'' c'' a'' h4 (h2.trans h5) h6
        | exit id => exact exOf_then id _ _ (hQ _ st' c' a' h1 h2 h3)
        | ret => exact hQ _ st' c' a' h1 h2 h3
    · rename_i s hs
      obtain ⟨hfl, hok⟩ := hl (i, x) (by simp [loopsOf]) (.summ s) hs
      subst hfl
      exact hok w0 st Q h
    · rename_i s hs
      exact hl (i, x) (by simp [loopsOf]) (.frame s) hs w0 fl st Q h
    · exact h.elim
  | .rangeFunc _ _ _ _, _, _, _, _, h => h.elim
  | .scope _, _, _, _, _, h => h.elim

/-- What is asked behind a part of a scope. -/
def scopeQ (P : Program) (rest : Code) (Q : Exit → Act → World → Prop) : Nat → Exit → Act → World → Prop
  | n, .goto l, a, w => match l, n with
    | 0, n + 1 => rest.wp P (scopeQ P rest Q n) a w
    | _, _ => False
  | _, e, a, w => Q e a w

theorem wp_scope_rounds {P : Program} {y rest : Code} {Q : Exit → Act → World → Prop} (hl : findLabel y 0 = some rest) {n : Nat} {a : Act} {w : World} (h : y.wp P (scopeQ P rest Q n) a w) : (Code.scope y).wp P Q a w := by
  intro b k cs
  have key : ∀ (n : Nat) (c : Code) (a : Act) (w : World), c.wp P (scopeQ P rest Q n) a w →
      ∃ e a' w', Q e a' w' ∧ Arrives P (lone (b.at a (.code c :: .inScope y :: k)) cs w) b k cs e a' w' := by
    intro n
    induction n with
    | zero =>
      intro c a w h
      obtain ⟨e, a₁, w₁, hq, harr⟩ := h b (.inScope y :: k) cs
      cases e with
      | normal => exact ⟨.normal, a₁, w₁, hq, Steps.trans harr (.one (step_lone_go (by simp [stepG, stepG.exec, Frame.at])))⟩
      | exit id => exact ⟨.exit id, a₁, w₁, hq, fun k' hk => harr k' (by simpa [exitTo] using hk)⟩
      | goto l => cases l <;> exact hq.elim
      | ret => exact ⟨.ret, a₁, w₁, hq, harr⟩
      | panic chain => exact ⟨.panic chain, a₁, w₁, hq, harr⟩
      | outgrown => exact ⟨.outgrown, a₁, w₁, hq, harr⟩
    | succ n ih =>
      intro c a w h
      obtain ⟨e, a₁, w₁, hq, harr⟩ := h b (.inScope y :: k) cs
      cases e with
      | normal => exact ⟨.normal, a₁, w₁, hq, Steps.trans harr (.one (step_lone_go (by simp [stepG, stepG.exec, Frame.at])))⟩
      | exit id => exact ⟨.exit id, a₁, w₁, hq, fun k' hk => harr k' (by simpa [exitTo] using hk)⟩
      | goto l =>
        cases l with
        | zero =>
          obtain ⟨e₂, a₂, w₂, hq₂, harr₂⟩ := ih rest a₁ w₁ hq
          refine ⟨e₂, a₂, w₂, hq₂, .of_steps (harr _ ?_) harr₂⟩
          simp [gotoIn, hl]
        | succ l => exact hq.elim
      | ret => exact ⟨.ret, a₁, w₁, hq, harr⟩
      | panic chain => exact ⟨.panic chain, a₁, w₁, hq, harr⟩
      | outgrown => exact ⟨.outgrown, a₁, w₁, hq, harr⟩
  obtain ⟨e, a', w', hq, harr⟩ := key n y a w h
  exact ⟨e, a', w', hq, .of_steps (.one (step_lone_go (by simp [stepG, stepG.exec, Frame.at]))) harr⟩

theorem runBody_sound (hm : P.follows .mixedOrders = true) (hS : ∀ k s, S k = some s → SummOK P k s) (hL : ∀ k s, S k = some s → SummLocal s) (hc : CallfOK P callf) {L : Nat → Option LoopS} {fl : Nat} (c : Code) (i : Nat) (st : St) (Q : Ex → St → Prop) (hl : LoopsOK P fl L c i) (h : runBody P S callf L c i st Q) : Does P w0 fl c st Q := by
  unfold runBody at h
  split at h
  · rename_i x y
    split at h
    · rename_i rest n hr hn
      split at h
      · rename_i hemp
        simp only [Bool.and_eq_true, List.isEmpty_iff] at hemp
        have hly : LoopsOK P fl L y i := fun p hp => by rw [hemp.1] at hp; cases hp
        have hlr : LoopsOK P fl L rest i := fun p hp => by rw [hemp.2] at hp; cases hp
        intro c0 a QQ hst hQ
        refine wp_seq ?_
        refine runCode_sound hm hS hL hc x i st _ (fun p hp => hl p (by simp [loopsOf, hp])) h c0 a _ hst ?_
        intro e st' c' a' h1 h2 h3
        cases e with
        | normal =>
          refine wp_scope_rounds hr (n := n) ?_
          have key : ∀ (n : Nat) (e : Ex) (st' : St) (c' : Cx) (a' : Act), StOK w0 st' c' a' → c0.leF fl c' → scopeRun (fun st Q => runCode P S callf L rest i st Q) n e st' Q → scopeQ P rest QQ n (exOf e) a' c'.w := by
            intro n
            induction n with
            | zero =>
              intro e st' c' a' k1 k2 k3
              cases e with
              | normal => exact hQ .normal st' c' a' k1 k2 k3
              | ret => exact hQ .ret st' c' a' k1 k2 k3
              | exit id =>
                simp only [scopeRun] at k3
                split at k3
                · rename_i hi
                  have := hQ (.exit id) st' c' a' k1 k2 k3
                  rw [exOf_exit hi] at this ⊢
                  exact this
                · split at k3 <;> exact k3.elim
            | succ n ih =>
              intro e st' c' a' k1 k2 k3
              cases e with
              | normal => exact hQ .normal st' c' a' k1 k2 k3
              | ret => exact hQ .ret st' c' a' k1 k2 k3
              | exit id =>
                simp only [scopeRun] at k3
                split at k3
                · rename_i hi
                  have := hQ (.exit id) st' c' a' k1 k2 k3
                  rw [exOf_exit hi] at this ⊢
                  exact this
                · split at k3
                  · rename_i hi
                    subst hi
                    show rest.wp P (scopeQ P rest QQ n) a' c'.w
                    refine runCode_sound hm hS hL hc rest i st' _ hlr k3 c' a' _ k1 ?_
                    intro e'' st'' c'' a'' g1 g2 g3
                    exact ih e'' st'' c'' a'' g1 (k2.trans g2) g3
                  · exact k3.elim
          refine runCode_sound hm hS hL hc y i st' _ hly h3 c' a' _ h1 ?_
          intro e'' st'' c'' a'' g1 g2 g3
          exact key n e'' st'' c'' a'' g1 (h2.trans g2) g3
        | exit id => exact exOf_then id _ _ (hQ _ st' c' a' h1 h2 h3)
        | ret => exact hQ _ st' c' a' h1 h2 h3
      · exact h.elim
    · exact h.elim
  · exact runCode_sound hm hS hL hc c i st Q hl h

end

section
variable {P : Program} {w0 : Base} {S : FuncId → Option Summ} {callf : CallF}

def readR (tmps : Array Value) : ResultVar → Sem Value
  | .tmp t => pure (tmps.getD t undef)
  | .cell x t => do loadVar t (← asAddr (tmps.getD x undef))

def oneV : List Value → Value
  | [v] => v
  | vs => .tuple vs.toArray

theorem results_sound {st : St} {c : Cx} {a : Act} (h : StOK w0 st c a) : ∀ (rs : List ResultVar) (Q : List AV → Prop), resultsOf P st rs Q →
    ∃ avs vs, Q avs ∧ RelL c avs vs ∧ (rs.mapM (readR a.tmps)).run P c.w = .ok vs c.w
  | [], Q, hq => ⟨[], [], hq, by simp [RelL], rfl⟩
  | .tmp t :: rs, Q, hq => by
    simp only [resultsOf] at hq
    obtain ⟨avs, vs, h1, h2, h3⟩ := results_sound h rs _ hq
    refine ⟨_, a.tmps.getD t undef :: vs, h1, ⟨opd_rel (P := P) (w0 := w0) h.at 0 (.tmp t), h2⟩, ?_⟩
    simp only [List.mapM_cons, readR, Sem.run_bind, Sem.run_pure, Result.andThen_ok]
    rw [h3]
    rfl
  | .cell x t :: rs, Q, hq => by
    simp only [resultsOf] at hq
    split at hq
    · rename_i n hs
      split at hq
      · rename_i b cs rd hx
        split at hq
        · rename_i v hw
          obtain ⟨hb, hq⟩ := must_iff.1 hq
          obtain ⟨avs, vs, h1, h2, h3⟩ := results_sound h rs _ hq
          obtain ⟨ad, us, hv, _, hl, hr, hc⟩ := readCells_rel h.heap hx hb (opd_rel (P := P) h.at 0 (.tmp x))
          have e1 : isAggT P t = false → n = 1 := fun hA => by have := wrap_one hw hA; have := hr.length; omega
          refine ⟨_, valOf P t us :: vs, h1, ⟨wrap_rel hw hr, h2⟩, ?_⟩
          have hv' : a.tmps.getD x undef = .pointer (some ad) := hv
          have e2 : (readR a.tmps (.cell x t)).run P c.w = .ok (valOf P t us) c.w := by
            simp only [readR, hv', asAddr, Sem.run_bind, Sem.run_pure, Result.andThen_ok, run_loadVar hs hl e1 hc]
          simp only [List.mapM_cons, Sem.run_bind, e2, h3, Sem.run_pure, Result.andThen_ok]
        · exact hq.elim
      · exact hq.elim
    · exact hq.elim

theorem run_results {fn : Func} {tmps : Array Value} {w : World} {vs : List Value} (h : (fn.results.toList.mapM (readR tmps)).run P w = .ok vs w) : (results fn tmps).run P w = .ok (oneV vs) w := by
  have e : results fn tmps = (do
    let vs ← fn.results.mapM (readR tmps)
    pure (if h : vs.size = 1 then vs[0] else .tuple vs)) := rfl
  rw [e, Array.mapM_eq_mapM_toList]
  simp only [Sem.run_bind, map_eq_pure_bind, Sem.run_pure, h, Result.andThen_ok]
  match vs with
  | [] => rfl
  | [v] => rfl
  | v :: v' :: vs => simp [oneV]

theorem oneOf_rel {c : Cx} {avs : List AV} {vs : List Value} (h : RelL c avs vs) : Rel c (oneOf avs) (oneV vs) := by
  match avs, vs, h with
  | [], [], _ => exact ⟨#[], rfl, by simp [RelL]⟩
  | [x], [v], h => exact h.1
  | x :: y :: l, v :: u :: vs, h => exact ⟨_, rfl, by simpa using h⟩

theorem loops_at {H : Heap} {L : Nat → Option LoopS} {c : Code} {i : Nat} (h : ∀ p ∈ loopsOf c i, ∀ x, L p.1 = some x → LoopIs P p.2 x) : LoopsOK P H.length (loopsAt H L) c i := by
  intro p hp x hx
  cases H with
  | nil =>
    have := h p hp x hx
    cases x with
    | unroll _ => trivial
    | summ s => exact ⟨rfl, this⟩
    | frame s => exact this
  | cons o H =>
    simp only [loopsAt] at hx
    split at hx
    · cases hx; trivial
    · rename_i s hs
      cases hx
      exact h p hp (.frame s) hs
    · cases hx

/-- Functions that are entered in place, by fuel. -/
theorem callN_sound (hm : P.follows .mixedOrders = true) (hS : ∀ k s, S k = some s → SummOK P k s) (hL : ∀ k s, S k = some s → SummLocal s) {L : FuncId → Nat → Option LoopS}
    (hl : ∀ k fn c, P.funcs[k]? = some fn → fn.body = some c → ∀ p ∈ loopsOf c 1000, ∀ x, L k p.1 = some x → LoopIs P p.2 x) : ∀ n, CallfOK P (callN P S L n)
  | 0 => fun _ _ _ _ h => h.elim
  | n + 1 => by
    intro k args H Q h
    unfold callN at h
    split at h
    · rename_i fn hf
      split at h
      · exact h.elim
      · rename_i hname
        split at h
        · rename_i c hb
          refine ⟨⟨fn, hf, by simpa using hname, by simp [hb]⟩, fun w0 cx vs hh hr => ?_⟩
          have hlen := hr.length
          simp only [Array.length_toList] at hlen
          refine calls_of_wp hf hb ?_
          refine runBody_sound hm hS hL (callN_sound hm hS hL hl n) (fl := H.length) c 1000 _ _ (loops_at (hl k fn c hf hb)) h cx _ _ ⟨hh, ⟨by simp [hlen], fun i x hi => ?_⟩, rfl⟩ ?_
          · simp only [List.getElem?_append, Array.getElem?_append] at hi ⊢
            rw [hlen] at hi
            split at hi
            · rename_i hlt
              rw [if_pos hlt]
              have hi' : i < args.length := by omega
              have := (List.getElem?_eq_some_iff.1 hi).2
              obtain ⟨u, hu, hru⟩ := hr.get hi
              refine ⟨u, by simpa using hu, relT_of_rel hru⟩
            · rename_i hlt
              rw [if_neg hlt]
              rw [List.getElem?_replicate] at hi
              split at hi
              · rename_i h2
                cases hi
                exact ⟨undef, by rw [Array.getElem?_replicate, if_pos h2], trivial⟩
              · cases hi
          · intro e st' c' a' h1 h2F h3
            have hπ : ∀ id p, cx.π id = some p → c'.π id = some p := by
              intro id p hp
              rcases Nat.lt_or_ge id H.length with hlt | hge
              · exact h2F.π id hlt p hp
              · have := hh.free id (by unfold Heap.at; rw [List.getElem?_eq_none hge])
                rw [this] at hp
                cases hp
            have h2 : cx.le c' := ⟨hπ, h2F.S, h2F.w, h2F.size, h2F.rest⟩
            have fin : (∃ avs vs, oneOf avs = oneOf avs ∧ Q (oneOf avs) st'.H ∧ RelL c' avs vs ∧ (results fn a'.tmps).run P c'.w = .ok (oneV vs) c'.w) → a'.defers = [] ∧ ∃ v, (results fn a'.tmps).run P c'.w = .ok v c'.w ∧ ∃ v' c'' av H', Ending.returned v = .returned v' ∧ c'.w = c''.w ∧ cx.le c'' ∧ HeapOK w0 H' c'' ∧ Rel c'' av v' ∧ Q av H' := by
              rintro ⟨avs, vs, _, g1, g2, g3⟩
              exact ⟨h1.plain, _, g3, _, c', _, st'.H, rfl, rfl, h2, h1.heap, oneOf_rel g2, g1⟩
            cases e with
            | exit id => exact h3.elim
            | normal =>
              obtain ⟨avs, vs, g1, g2, g3⟩ := results_sound h1 _ _ h3
              exact fin ⟨avs, vs, rfl, g1, g2, run_results g3⟩
            | ret =>
              obtain ⟨avs, vs, g1, g2, g3⟩ := results_sound h1 _ _ h3
              exact fin ⟨avs, vs, rfl, g1, g2, run_results g3⟩
        · exact h.elim
    · exact h.elim

end
end Go.Own
