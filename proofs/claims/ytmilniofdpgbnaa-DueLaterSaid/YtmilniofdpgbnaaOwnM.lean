/- Calls whose result may stand in memory that was given: that memory stays as it is from then on. -/
import Derived.Test.YtmilniofdpgbnaaOwnL
set_option linter.unusedVariables false
set_option linter.unusedSimpArgs false
namespace Go.Own
open Go

def freezeSumm (F : Pure1) : Summ := fun args H fr =>
  match pureArgs H args with
  | some (as, rd) => match F as with
    | some (b, r) => if (rd.all fun id => (H.at id).isSome) && nodupB ((adopt fr r).2.map (·.1)) && (adopt fr r).2.all (fun w => decide (fr ≤ w.1) && decide (w.1 < fr + 128)) then some { obl := b, val := (adopt fr r).1, reads := rd, writes := rd.map (fun id => (id, AObj.dead)) ++ (adopt fr r).2 } else none
    | none => none
  | none => none

/-- As tabS; of the functions in fz the result may stand in memory that was given. -/
def tabM (fz : List FuncId) : List (FuncId × Pure1) → FuncId → Option Summ
  | [], _ => none
  | (i, F) :: l, k => match i == k with
    | true => some (if fz.contains k then freezeSumm F else pureSumm F)
    | false => tabM fz l k

section
variable {P : Program} {w0 : Base} {H : Heap} {c : Cx}

theorem writeAll_two : ∀ (ws vs : List (Nat × AObj)) (H : Heap), writeAll H (ws ++ vs) = writeAll (writeAll H ws) vs
  | [], _, _ => rfl
  | (i, o) :: ws, vs, H => writeAll_two ws vs (setAt H i o)

theorem at_dead : ∀ (rd : List Nat) (H : Heap) (x : Nat), (writeAll H (rd.map fun id => (id, AObj.dead))).at x = if x ∈ rd then some .dead else H.at x
  | [], _, _ => by simp [writeAll]
  | i :: rd, H, x => by
    simp only [List.map_cons, writeAll]
    rw [at_dead rd (setAt H i .dead) x, Heap.at_setAt]
    by_cases h1 : x ∈ rd
    · simp [h1]
    · by_cases h2 : x = i
      · simp [h2]
      · simp [h1, h2]

theorem drops : ∀ (rd : List Nat) (H : Heap), HeapOK w0 H c → (∀ id ∈ rd, (H.at id).isSome = true) → HeapOK w0 (writeAll H (rd.map fun id => (id, AObj.dead))) c
  | [], _, h, _ => h
  | i :: rd, H, h, hs => by
    simp only [List.map_cons, writeAll]
    obtain ⟨o, ho⟩ := Option.isSome_iff_exists.1 (hs i (by simp))
    refine drops rd (setAt H i .dead) (h.drop i ho) fun id hid => ?_
    rw [Heap.at_setAt]
    split
    · rfl
    · exact hs id (by simp [hid])

/-- What is dead may be taken for memory that stays. -/
theorem HeapOK.stay (h : HeapOK w0 H c) (rd : List Nat) (hs : ∀ id ∈ rd, (H.at id).isSome = true) :
    HeapOK w0 (writeAll H (rd.map fun id => (id, AObj.dead))) ⟨c.w, c.π, fun x => c.S x ∨ ∃ id ∈ rd, ∃ q, Live H c id q ∧ q.b = x⟩ := by
  have h1 := drops rd H h hs
  have hle : c.le ⟨c.w, c.π, fun x => c.S x ∨ ∃ id ∈ rd, ∃ q, Live H c id q ∧ q.b = x⟩ := ⟨fun _ _ h => h, fun _ h => .inl h, fun _ _ => rfl, Nat.le_refl _, rfl, rfl, rfl⟩
  refine ⟨?_, fun id id' p p' a b => h1.apart id id' p p' a b, ?_, h1.free, ?_, h1.kept, h1.grown, ?_⟩
  · intro id o ho
    obtain ⟨q, hq, hoq⟩ := h1.obj id o ho
    exact ⟨q, hq, hoq.mono hle fun _ => rfl⟩
  · intro id p hl
    obtain ⟨a1, a2, a3⟩ := h1.out id p hl
    refine ⟨a1, a2, ?_⟩
    rintro (hS | ⟨id', hid', q, hq, hqb⟩)
    · exact a3 hS
    · obtain ⟨o, ho, hp, hm⟩ := hl
      rw [at_dead] at ho
      split at ho
      · cases ho
        exact hm.elim
      · rename_i hno
        have hne : id ≠ id' := by
          rintro rfl
          exact hno hid'
        exact h.apart id id' p q ⟨o, ho, hp, hm⟩ hq hne hqb.symm
  · rintro b (hS | ⟨id', hid', q, hq, rfl⟩)
    · exact h.stable b hS
    · exact (h.out id' q hq).2.1
  · rintro b (hS | ⟨id', hid', q, hq, rfl⟩)
    · exact h.born b hS
    · exact .inr (h.out id' q hq).1

theorem freezeSumm_ok {k : FuncId} {F : Pure1} (h : PureOK P k F) : SummOK P k (freezeSumm F) := by
  refine ⟨h.1, fun w0 H c args vs fr e hh0 hr hfr0 he hobl => ?_⟩
  unfold freezeSumm at he
  split at he
  · rename_i as rd hp
    split at he
    · rename_i b r hF
      split at he
      · rename_i hc
        cases he
        simp only [Bool.and_eq_true] at hc
        obtain ⟨⟨hc1, hc2⟩, hc3⟩ := hc
        have hs : ∀ id ∈ rd, (H.at id).isSome = true := fun id hid => List.all_eq_true.1 hc1 id hid
        have hh := hh0.stay rd hs
        have hle0 : c.le ⟨c.w, c.π, fun x => c.S x ∨ ∃ id ∈ rd, ∃ q, Live H c id q ∧ q.b = x⟩ := ⟨fun _ _ h => h, fun _ h => .inl h, fun _ _ => rfl, Nat.le_refl _, rfl, rfl, rfl⟩
        have hrel := pureArgs_rel (π1 := fun _ => none) (S1 := fun x => c.S x ∨ ∃ id ∈ rd, ∃ q, Live H c id q ∧ q.b = x) hh0 hp hr (fun _ h => .inl h) (fun id hid q hq => .inr ⟨id, hid, q, hq, rfl⟩)
        have hfr : Fresh (writeAll H (rd.map fun id => (id, AObj.dead))) fr := by
          intro id g1 g2
          rw [at_dead]
          split
          · rename_i hid
            have := hs id hid
            rw [hfr0 id g1 g2] at this
            cases this
          · exact hfr0 id g1 g2
        show CallGoes P k vs w0 (writeAll H (rd.map (fun id => (id, AObj.dead)) ++ (adopt fr r).2)) c (adopt fr r).1
        rw [writeAll_two]
        refine (h.2 ⟨c.w, fun _ => none, fun x => c.S x ∨ ∃ id ∈ rd, ∃ q, Live H c id q ∧ q.b = x⟩ as vs b r hh.stable (fun _ => rfl) hrel hF hobl).mono ?_
        rintro en w' ⟨v, c', ps, rfl, rfl, h1, h2, h3, h4, h5, h6⟩
        obtain ⟨m1, m2⟩ := hh.move (w' := c'.w) (S' := c'.S) (fun x hx => h1.S x hx) (fun x hx => h3 x hx) h2 h1.size h1.rest
        have ht := takes (fr := fr) (gives_pi (π1 := c.π) h4)
        obtain ⟨c2, g1, g2, g3, g4, g5⟩ := m1.adopt ht.1 hc2 (fun w hw => by
            have := List.all_eq_true.1 hc3 w hw
            simp only [Bool.and_eq_true, decide_eq_true_eq] at this
            exact hfr w.1 this.1 this.2) h5 (fun p hp hcap => by
            obtain ⟨n1, n2, n3⟩ := h6 p hp hcap
            exact ⟨Nat.le_trans hh.grown n1, n2, n3⟩) (by
            rintro x q ⟨o, ho, hq, hm⟩ p hp hcap
            obtain ⟨n1, n2, n3⟩ := h6 p hp hcap
            have := (hh.out x q ⟨o, ho, hq, hm⟩).2.1
            show q.b ≠ p.b
            simp only at n1 this
            omega)
        refine ⟨v, c2, rfl, by rw [g2], hle0.trans (m2.trans g1), g4, ?_⟩
        have := ht.2 c2.π g5
        have e : c2 = ⟨c'.w, c2.π, c'.S⟩ := by
          cases c2
          simp only at g2 g3
          subst g2 g3
          rfl
        rw [e]
        exact this
      · cases he
    · cases he
  · cases he

theorem freezeSumm_local (F : Pure1) : SummLocal (freezeSumm F) := by
  intro args H H' fr e h hH
  unfold freezeSumm at h ⊢
  split at h
  · rename_i as rd hp
    split at h
    · rename_i b r hF
      split at h
      · rename_i hc
        cases h
        have := mapIds_same (fun x y ids h1 h2 => pureArg_same h1 h2) hp hH
        unfold pureArgs
        rw [this]
        have hall : (rd.all fun id => (H'.at id).isSome) = (rd.all fun id => (H.at id).isSome) := by
          rw [Bool.eq_iff_iff, List.all_eq_true, List.all_eq_true]
          exact ⟨fun g id hid => by rw [← hH id hid]; exact g id hid, fun g id hid => by rw [hH id hid]; exact g id hid⟩
        simp only [hF]
        rw [hall, if_pos hc]
      · cases h
    · cases h
  · cases h

theorem tabM_ok {fz : List FuncId} : ∀ {l : List (FuncId × Pure1)}, (∀ p ∈ l, PureOK P p.1 p.2) → ∀ k s, tabM fz l k = some s → SummOK P k s
  | [], _, _, _, h => by cases h
  | (i, F) :: l, hl, k, s, h => by
    unfold tabM at h
    split at h
    · rename_i e
      have e : i = k := by simpa using e
      subst e
      cases h
      split
      · exact freezeSumm_ok (hl (i, F) (by simp))
      · exact pureSumm_ok (hl (i, F) (by simp))
    · exact tabM_ok (fun p hp => hl p (by simp [hp])) k s h

theorem tabM_local {fz : List FuncId} : ∀ {l : List (FuncId × Pure1)}, ∀ k s, tabM fz l k = some s → SummLocal s
  | [], _, _, h => by cases h
  | (i, F) :: l, k, s, h => by
    unfold tabM at h
    split at h
    · cases h
      split
      · exact freezeSumm_local F
      · exact pureSumm_local F
    · exact tabM_local k s h

theorem tabM_plain (hm : P.follows .mixedOrders = true) {fz : List FuncId} {l : List (FuncId × Pure1)} (hl : ∀ p ∈ l, PureOK P p.1 p.2) {k : FuncId} {F : Pure1} (own : Bool) (he : entersB P k = true)
    (hv : ∀ as b r, F as = some (b, r) → b ≠ some false → WFL as → VC P (tabM fz l) noL own k as r) : PureOK P k F :=
  pure_plain hm (tabM_ok hl) tabM_local own he hv

end
end Go.Own
