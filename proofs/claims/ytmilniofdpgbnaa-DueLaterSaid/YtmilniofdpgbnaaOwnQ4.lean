/- Calls of pure functions. -/
import Derived.Test.YtmilniofdpgbnaaOwnQ3
set_option linter.unusedVariables false
set_option linter.unusedSimpArgs false
namespace Go.Own
open Go

/-- What a pure function comes to: its result is as told, what is new in it lies apart, and what was there stays. -/
def PureOK (P : Program) (k : FuncId) (F : Pure1) : Prop :=
  Enters P k ∧ ∀ (c : Cx) (as : List AV) (vs : Array Value) (b : Option Bool) (r : AV), (∀ x, c.S x → x < c.w.heap.size) → (∀ id, c.π id = none) → RelL c as vs.toList → F as = some (b, r) → b ≠ some false →
    Calls P k vs c.w fun en w' => ∃ v c' ps, en = .returned v ∧ w' = c'.w ∧ c.le c' ∧ (∀ x, x < c.w.heap.size → c'.w.heap[x]? = c.w.heap[x]?) ∧ (∀ x, c'.S x → (c.S x ∨ c.w.heap.size ≤ x) ∧ x < c'.w.heap.size) ∧ Gives c' r v ps ∧ Apart ps ∧ NewAt c.w.heap.size c' ps

section
variable {P : Program} {w0 : Base} {H : Heap} {c : Cx}

/-- The world is another one, in which all that was there stayed. -/
theorem HeapOK.move (h : HeapOK w0 H c) {w' : World} {S' : Nat → Prop} (hS : ∀ x, c.S x → S' x) (hS' : ∀ x, S' x → (c.S x ∨ c.w.heap.size ≤ x) ∧ x < w'.heap.size) (hk : ∀ x, x < c.w.heap.size → w'.heap[x]? = c.w.heap[x]?) (hs : c.w.heap.size ≤ w'.heap.size) (hrs : Rest c.w w') :
    HeapOK w0 H ⟨w', c.π, S'⟩ ∧ c.le ⟨w', c.π, S'⟩ := by
  have hle : c.le ⟨w', c.π, S'⟩ := ⟨fun _ _ h => h, hS, fun b hb => hk b (h.stable b hb), hs, hrs⟩
  refine ⟨⟨?_, ?_, ?_, h.free, fun b hb => (hS' b hb).2, ?_, Nat.le_trans h.grown hs, ?_⟩, hle⟩
  · intro x o ho
    obtain ⟨q, hq, hoq⟩ := h.obj x o ho
    exact ⟨q, hq, hoq.mono hle fun hm => hk _ (h.out x q ⟨o, ho, hq, hm⟩).2.1⟩
  · exact fun x y q r hx hy => h.apart x y q r hx hy
  · intro x q hx
    obtain ⟨h1, h2, h3⟩ := h.out x q hx
    refine ⟨h1, Nat.lt_of_lt_of_le h2 hs, fun hb => ?_⟩
    rcases (hS' _ hb).1 with h4 | h4
    · exact h3 h4
    · omega
  · intro b hb
    show w'.heap[b]? = _
    rw [hk b (Nat.lt_of_lt_of_le hb h.grown), h.kept b hb]
  · intro b hb
    rcases (hS' b hb).1 with h4 | h4
    · exact h.born b h4
    · exact .inr (Nat.le_trans h.grown h4)

theorem Puts.mono {π π' : Nat → Option Place} (h : ∀ id p, π id = some p → π' id = some p) {ws : List (Nat × AObj)} : ∀ {ps : List Place}, Puts π ws ps → Puts π' ws ps := by
  induction ws with
  | nil => intro ps hp; cases ps with
    | nil => trivial
    | cons p ps => exact hp.elim
  | cons w ws ih => intro ps hp; cases ps with
    | nil => exact hp.elim
    | cons p ps => exact ⟨h _ _ hp.1, ih hp.2⟩

theorem Placed.mono {c' : Cx} (h : c.le c') (hb : c'.w = c.w) {ws : List (Nat × AObj)} : ∀ {ps : List Place}, Placed c ws ps → Placed c' ws ps := by
  induction ws with
  | nil => intro ps hp; cases ps with
    | nil => trivial
    | cons p ps => exact hp.elim
  | cons w ws ih => intro ps hp; cases ps with
    | nil => exact hp.elim
    | cons p ps => exact ⟨⟨hp.1.1, hp.1.2.mono h fun _ => by rw [hb]⟩, ih hp.2⟩

/-- The objects that came are put into the heap, one by one. -/
theorem HeapOK.adopt {ws : List (Nat × AObj)} : ∀ {H : Heap} {c : Cx} {ps : List Place}, HeapOK w0 H c → Placed c ws ps → nodupB (ws.map (·.1)) = true → (∀ w ∈ ws, H.at w.1 = none) → Apart ps →
    (∀ p ∈ ps, p.cap ≠ 0 → w0.heap.size ≤ p.b ∧ p.b < c.w.heap.size ∧ ¬ c.S p.b) → (∀ x q, Live H c x q → ∀ p ∈ ps, p.cap ≠ 0 → q.b ≠ p.b) →
    ∃ c', c.le c' ∧ c'.w = c.w ∧ c'.S = c.S ∧ HeapOK w0 (writeAll H ws) c' ∧ Puts c'.π ws ps := by
  induction ws with
  | nil =>
    intro H c ps h hp _ _ _ _ _
    cases ps with
    | nil => exact ⟨c, Cx.le.refl c, rfl, rfl, h, trivial⟩
    | cons p ps => exact hp.elim
  | cons w ws ih =>
    intro H c ps h hp hn hf ha hnew hl
    cases ps with
    | nil => exact hp.elim
    | cons p ps =>
      obtain ⟨⟨hw, hob⟩, hp2⟩ := hp
      simp only [List.map_cons, nodupB, Bool.and_eq_true, Bool.not_eq_true', List.contains_eq_mem, decide_eq_false_iff_not] at hn
      obtain ⟨hn1, hn2⟩ := hn
      have hfw := hf w (by simp)
      have hπ0 := h.free w.1 hfw
      let c1 : Cx := c.putAt c.w w.1 p
      have hle : c.le c1 := by
        refine ⟨?_, fun _ h => h, fun _ _ => rfl, Nat.le_refl _, rfl, rfl, rfl⟩
        intro x q hx
        show (if x = w.1 then some p else c.π x) = some q
        rw [if_neg (by rintro rfl; rw [hπ0] at hx; cases hx)]
        exact hx
      have hmemcap : Mem w.2 p → p.cap ≠ 0 := by
        intro hm
        rcases hw with ⟨e, n, cols, hw⟩ | ⟨ks, cols, one, hw⟩
        · rw [hw] at hm
          exact hm
        · rw [hw] at hob
          exact hob.1
      have h1 : HeapOK w0 (setAt H w.1 w.2) c1 := by
        refine h.write w.1 w.2 p hle (fun _ h => h) (by simp [c1, Cx.putAt]) (fun x hx => by simp [c1, Cx.putAt, hx]) (fun _ _ _ _ => rfl) (hob.mono hle fun _ => rfl) ?_ (fun _ _ => rfl)
        intro hm
        obtain ⟨k1, k2, k3⟩ := hnew p (by simp) (hmemcap hm)
        exact ⟨k1, k2, k3, fun x q _ hlx => hl x q hlx p (by simp) (hmemcap hm)⟩
      obtain ⟨c', g1, g2, g3, g4, g5⟩ := ih h1 (hp2.mono hle rfl) hn2 (fun v hv => by
          rw [Heap.at_setAt, if_neg]
          · exact hf v (by simp [hv])
          · intro e
            exact hn1 (e ▸ List.mem_map_of_mem hv)) (List.pairwise_cons.1 ha).2 (fun q hq => hnew q (by simp [hq])) (by
          rintro x q ⟨o, ho, hq, hm⟩ r hr hcap
          rw [Heap.at_setAt] at ho
          by_cases hx : x = w.1
          · subst hx
            rw [if_pos rfl] at ho
            cases ho
            have : c1.π w.1 = some p := by simp [c1, Cx.putAt]
            rw [this] at hq
            cases hq
            exact (List.pairwise_cons.1 ha).1 r hr (hmemcap hm) hcap
          · rw [if_neg hx] at ho
            have : c1.π x = c.π x := by simp [c1, Cx.putAt, hx]
            rw [this] at hq
            exact hl x q ⟨o, ho, hq, hm⟩ r (by simp [hr]) hcap)
      refine ⟨c', hle.trans g1, g2, g3, g4, ?_, g5⟩
      exact g1.π _ _ (by simp [c1, Cx.putAt])

theorem freshLeaf_gives {x : AV} {v : Value} {ps : List Place} (h : GiveLeaf c x v ps) (hf : freshLeaf x = true) {π1 : Nat → Option Place} {S1 : Nat → Prop} : GiveLeaf ⟨c.w, π1, S1⟩ x v ps := by
  cases x <;> simp only [GiveLeaf] at h
  case own e n cols =>
    obtain ⟨p, a, h1, h2, h3, q1, q2, q3, q4, q5, q6⟩ := h
    refine ⟨p, a, h1, h2, h3, q1, q2, q3, q4, q5, fun hc => ?_⟩
    obtain ⟨arr, t, ha, hs, hx⟩ := q6 hc
    refine ⟨arr, t, ha, hs, fun i hi j col hj => ?_⟩
    obtain ⟨u, k1, k2⟩ := hx i hi j col hj
    simp only [freshLeaf, List.all_eq_true] at hf
    exact ⟨u, k1, k2.flat (hf col (List.mem_of_getElem? hj))⟩
  case omap ks cols one => exact h
  case int k n => exact h
  case bool b => exact h
  case val u => exact h
  case sl n cols =>
    cases n with
    | zero =>
      obtain ⟨h1, base, cap, h2, h3, h4, h5⟩ := h
      exact ⟨h1, base, cap, h2, h3, h4, .inl rfl⟩
    | succ n => simp [freshLeaf] at hf

theorem piLeaf_gives {x : AV} {v : Value} {ps : List Place} (h : GiveLeaf c x v ps) {π1 : Nat → Option Place} : GiveLeaf ⟨c.w, π1, c.S⟩ x v ps := by
  cases x <;> simp only [GiveLeaf] at h
  case own e n cols =>
    obtain ⟨p, a, h1, h2, h3, q1, q2, q3, q4, q5, q6⟩ := h
    refine ⟨p, a, h1, h2, h3, q1, q2, q3, q4, q5, fun hc => ?_⟩
    obtain ⟨arr, t, ha, hs, hx⟩ := q6 hc
    refine ⟨arr, t, ha, hs, fun i hi j col hj => ?_⟩
    obtain ⟨u, k1, k2⟩ := hx i hi j col hj
    exact ⟨u, k1, k2.grow fun _ h => h⟩
  case omap ks cols one => exact h
  case int k n => exact h
  case bool b => exact h
  case val u => exact h
  case sl n cols => exact h

def cellsGood (good : AV → Bool) : AV → Bool
  | .agg cs => cs.all good
  | v => good v

def allGood (good : AV → Bool) : AV → Bool
  | .agg cs => cs.all good
  | .tup vs => vs.all (cellsGood good)
  | v => good v

section
variable {c1 : Cx} {good : AV → Bool} (hl : ∀ (x : AV) (v : Value) (ps : List Place), good x = true → GiveLeaf c x v ps → GiveLeaf c1 x v ps)
include hl

theorem list_gives : ∀ {xs : List AV} {vs : List Value} {ps : List Place}, GiveList c xs vs ps → xs.all good = true → GiveList c1 xs vs ps
  | [], [], _, h, _ => h
  | x :: xs, v :: vs, ps, h, hf => by
    obtain ⟨p1, p2, h1, h2, h3⟩ := h
    simp only [List.all_cons, Bool.and_eq_true] at hf
    exact ⟨p1, p2, h1, hl _ _ _ hf.1 h2, list_gives h3 hf.2⟩
  | [], _ :: _, _, h, _ => h.elim
  | _ :: _, [], _, h, _ => h.elim

theorem cells_gives {x : AV} {v : Value} {ps : List Place} (h : GiveCells c x v ps) (hf : cellsGood good x = true) : GiveCells c1 x v ps := by
  cases x
  case agg cs =>
    obtain ⟨vs, h1, h2⟩ := h
    exact ⟨vs, h1, list_gives hl h2 hf⟩
  all_goals exact hl _ v ps hf h

theorem tup_gives : ∀ {xs : List AV} {vs : List Value} {ps : List Place}, GiveTup c xs vs ps → xs.all (cellsGood good) = true → GiveTup c1 xs vs ps
  | [], [], _, h, _ => h
  | x :: xs, v :: vs, ps, h, hf => by
    obtain ⟨p1, p2, h1, h2, h3⟩ := h
    simp only [List.all_cons, Bool.and_eq_true] at hf
    exact ⟨p1, p2, h1, cells_gives hl h2 hf.1, tup_gives h3 hf.2⟩
  | [], _ :: _, _, h, _ => h.elim
  | _ :: _, [], _, h, _ => h.elim

theorem all_gives {x : AV} {v : Value} {ps : List Place} (h : Gives c x v ps) (hf : allGood good x = true) : Gives c1 x v ps := by
  cases x
  case tup xs =>
    obtain ⟨vs, h1, h2⟩ := h
    exact ⟨vs, h1, tup_gives hl h2 hf⟩
  case agg cs =>
    obtain ⟨vs, h1, h2⟩ := h
    exact ⟨vs, h1, list_gives hl h2 hf⟩
  all_goals exact hl _ v ps hf h
end

theorem fresh_gives {x : AV} {v : Value} {ps : List Place} (h : Gives c x v ps) (hf : freshAV x = true) {π1 : Nat → Option Place} {S1 : Nat → Prop} : Gives ⟨c.w, π1, S1⟩ x v ps :=
  all_gives (good := freshLeaf) (fun x v ps hf h => freshLeaf_gives h hf) h (by
    cases x
    case tup xs =>
      simp only [allGood, freshAV, List.all_eq_true] at hf ⊢
      intro y hy
      have := hf y hy
      cases y <;> exact this
    all_goals exact hf)

theorem gives_pi {x : AV} {v : Value} {ps : List Place} (h : Gives c x v ps) {π1 : Nat → Option Place} : Gives ⟨c.w, π1, c.S⟩ x v ps :=
  all_gives (good := fun _ => true) (fun x v ps _ h => piLeaf_gives h) h (by
    cases x <;> first | rfl | skip
    case agg cs => simp [allGood]
    case tup xs =>
      simp only [allGood, List.all_eq_true]
      intro y _
      cases y <;> simp [cellsGood])

/-- A pure function as the interpreter takes it. -/
theorem pureSumm_ok {k : FuncId} {F : Pure1} (h : PureOK P k F) : SummOK P k (pureSumm F) := by
  refine ⟨h.1, fun w0 H c args vs fr e hh hr hfr he hobl => ?_⟩
  unfold pureSumm at he
  split at he
  · rename_i as rd hp
    split at he
    · rename_i b r hF
      split at he
      · rename_i hc
        cases he
        simp only [Bool.and_eq_true, Bool.or_eq_true] at hc
        obtain ⟨⟨hc1, hc2⟩, hc3⟩ := hc
        have body : ∀ (S1 : Nat → Prop), (∀ x, c.S x → S1 x) → (∀ x, S1 x → x < c.w.heap.size) → (∀ id ∈ rd, ∀ q, Live H c id q → S1 q.b) → ((∀ x, S1 x → c.S x) ∨ freshAV r = true) →
            CallGoes P k vs w0 (writeAll H (adopt fr r).2) c (adopt fr r).1 := by
          intro S1 hS hS1 hb hor
          have hrel := pureArgs_rel (π1 := fun _ => none) hh hp hr hS hb
          refine (h.2 ⟨c.w, fun _ => none, S1⟩ as vs b r hS1 (fun _ => rfl) hrel hF hobl).mono ?_
          rintro en w' ⟨v, c', ps, rfl, rfl, h1, h2, h3, h4, h5, h6⟩
          obtain ⟨S2, k1, k2, k3, k4⟩ : ∃ S2 : Nat → Prop, (∀ x, c.S x → S2 x) ∧ (∀ x, S2 x → (c.S x ∨ c.w.heap.size ≤ x) ∧ x < c'.w.heap.size) ∧ (∀ x, S2 x → c'.S x) ∧ ∀ π, Gives ⟨c'.w, π, S2⟩ r v ps := by
            rcases hor with hor | hor
            · exact ⟨c'.S, fun x hx => h1.S x (hS x hx), fun x hx => ⟨((h3 x hx).1).imp (hor x) id, (h3 x hx).2⟩, fun _ h => h, fun π => gives_pi h4⟩
            · exact ⟨c.S, fun _ h => h, fun x hx => ⟨.inl hx, (h3 x (h1.S x (hS x hx))).2⟩, fun x hx => h1.S x (hS x hx), fun π => fresh_gives h4 hor⟩
          obtain ⟨m1, m2⟩ := hh.move (w' := c'.w) (S' := S2) k1 k2 h2 h1.size h1.rest
          have ht := takes (fr := fr) (k4 c.π)
          obtain ⟨c2, g1, g2, g3, g4, g5⟩ := m1.adopt ht.1 hc2 (fun w hw => by
              have := List.all_eq_true.1 hc3 w hw
              simp only [Bool.and_eq_true, decide_eq_true_eq] at this
              exact hfr w.1 this.1 this.2) h5 (fun p hp hcap => by
              obtain ⟨n1, n2, n3⟩ := h6 p hp hcap
              exact ⟨Nat.le_trans hh.grown n1, n2, fun hx => n3 (k3 _ hx)⟩) (by
              rintro x q ⟨o, ho, hq, hm⟩ p hp hcap
              obtain ⟨n1, n2, n3⟩ := h6 p hp hcap
              have := (hh.out x q ⟨o, ho, hq, hm⟩).2.1
              show q.b ≠ p.b
              simp only at n1
              omega)
          refine ⟨v, c2, rfl, by rw [g2], m2.trans g1, g4, ?_⟩
          have := ht.2 c2.π g5
          have e : c2 = ⟨c'.w, c2.π, S2⟩ := by
            cases c2
            simp only at g2 g3
            subst g2 g3
            rfl
          rw [e]
          exact this
        cases hrd : rd with
        | nil => exact body c.S (fun _ h => h) hh.stable (fun id hid => by rw [hrd] at hid; cases hid) (.inl fun _ h => h)
        | cons x xs =>
          rw [hrd] at hc1
          exact body (fun x => x < c.w.heap.size) hh.stable (fun _ h => h) (fun id _ q hq => (hh.out id q hq).2.1) (.inr (by simpa using hc1))
      · cases he
    · cases he
  · cases he

end
end Go.Own
