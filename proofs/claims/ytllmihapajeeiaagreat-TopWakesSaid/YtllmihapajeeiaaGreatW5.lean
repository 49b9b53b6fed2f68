/- What stands behind it, part 5. -/
import Derived.Test.YtllmihapajeeiaaGreatW4
import Derived.ChangeArms
import Derived.Deep.Slices
import Derived.Deep.Fields
import Derived.ChangeSame
import Derived.ChangeOld
import Derived.Below
import Derived.ChangeShapes
set_option linter.unusedVariables false
set_option linter.unusedSimpArgs false
section
namespace Go.Own
open Go
def PureOK (P : Program) (k : FuncId) (F : Pure1) : Prop :=
 Enters P k ∧ ∀ (c : Cx) (as : List AV) (vs : Array Value) (b : Option Bool) (r : AV), (∀ x, c.S x → x < c.w.heap.size) → (∀ id, c.π id = none) → RelL c as vs.toList → F as = some (b, r) → b ≠ some false →
  Calls P k vs c.w fun en w' => ∃ v c' ps, en = .returned v ∧ w' = c'.w ∧ c.le c' ∧ (∀ x, x < c.w.heap.size → c'.w.heap[x]? = c.w.heap[x]?) ∧ (∀ x, c'.S x → (c.S x ∨ c.w.heap.size ≤ x) ∧ x < c'.w.heap.size) ∧ Gives c' r v ps ∧ Apart ps ∧ NewAt c.w.heap.size c' ps
section
variable {P : Program} {w0 : Base} {H : Heap} {c : Cx}
theorem HeapOK.move (h : HeapOK w0 H c) {w' : World} {S' : Nat → Prop} (hS : ∀ x, c.S x → S' x) (hS' : ∀ x, S' x → (c.S x ∨ c.w.heap.size ≤ x) ∧ x < w'.heap.size) (hk : ∀ x, x < c.w.heap.size → w'.heap[x]? = c.w.heap[x]?) (hs : c.w.heap.size ≤ w'.heap.size) (hrs : Rest c.w w') :
  HeapOK w0 H ⟨w', c.π, S'⟩ ∧ c.le ⟨w', c.π, S'⟩ := by
 have hle : c.le ⟨w', c.π, S'⟩ := ⟨fun _ _ h => h, hS, fun b hb => hk b (h.stable b hb), hs, hrs⟩
 refine ⟨⟨?_, ?_, ?_, h.free, fun b hb => (hS' b hb).2, ?_, Nat.le_trans h.grown hs, ?_⟩, hle⟩
 ·intro x o ho
  obtain ⟨q, hq, hoq⟩ := h.obj x o ho
  exact ⟨q, hq, hoq.mono hle fun hm => hk _ (h.out x q ⟨o, ho, hq, hm⟩).2.1⟩
 ·exact fun x y q r hx hy => h.apart x y q r hx hy
 ·intro x q hx
  obtain ⟨h1, h2, h3⟩ := h.out x q hx
  refine ⟨h1, Nat.lt_of_lt_of_le h2 hs, fun hb => ?_⟩
  rcases (hS' _ hb).1 with h4 | h4
  ·exact h3 h4
  ·omega
 ·intro b hb
  show w'.heap[b]? = _
  rw [hk b (Nat.lt_of_lt_of_le hb h.grown), h.kept b hb]
 ·intro b hb
  rcases (hS' b hb).1 with h4 | h4
  ·exact h.born b h4
  ·exact .inr (Nat.le_trans h.grown h4)
theorem Placed.mono {c' : Cx} (h : c.le c') (hb : c'.w = c.w) {ws : List (Nat × AObj)} : ∀ {ps : List Place}, Placed c ws ps → Placed c' ws ps := by
 induction ws with
 | nil => intro ps hp; cases ps with
  | nil => trivial
  | cons p ps => exact hp.elim
 | cons w ws ih => intro ps hp; cases ps with
  | nil => exact hp.elim
  | cons p ps => exact ⟨⟨hp.1.1, hp.1.2.mono h fun _ => by rw [hb]⟩, ih hp.2⟩
theorem HeapOK.adopt {ws : List (Nat × AObj)} : ∀ {H : Heap} {c : Cx} {ps : List Place}, HeapOK w0 H c → Placed c ws ps → nodupB (ws.map (·.1)) = true → (∀ w ∈ ws, H.at w.1 = none) → Apart ps →
  (∀ p ∈ ps, p.cap ≠ 0 → w0.heap.size ≤ p.b ∧ p.b < c.w.heap.size ∧ ¬ c.S p.b) → (∀ x q, Live H c x q → ∀ p ∈ ps, p.cap ≠ 0 → q.b ≠ p.b) →
  ∃ c', c.le c' ∧ c'.w = c.w ∧ c'.S = c.S ∧ HeapOK w0 (writeAll H ws) c' ∧ Puts c'.π ws ps := by
 induction ws with
 | nil =>
  intro H c ps h hp _ _ _ _ _
  cases ps with
  | nil => exact ⟨c, Cx.le.refl c, rfl, rfl, h, trivial⟩
  | cons p ps => exact hp.elim
 | cons w ws ih =>
  intro H c ps h hp hn hf ha hnew hl
  cases ps with
  | nil => exact hp.elim
  | cons p ps =>
   obtain ⟨⟨hw, hob⟩, hp2⟩ := hp
   simp only [List.map_cons, nodupB, Bool.and_eq_true, Bool.not_eq_true', List.contains_eq_mem, decide_eq_false_iff_not] at hn
   obtain ⟨hn1, hn2⟩ := hn
   have hfw := hf w (by simp)
   have hπ0 := h.free w.1 hfw
   let c1 : Cx := c.putAt c.w w.1 p
   have hle : c.le c1 := by
    refine ⟨?_, fun _ h => h, fun _ _ => rfl, Nat.le_refl _, rfl, rfl, rfl⟩
    intro x q hx
    show (if x = w.1 then some p else c.π x) = some q
    rw [if_neg (by rintro rfl; rw [hπ0] at hx; cases hx)]
    exact hx
   have hmemcap : Mem w.2 p → p.cap ≠ 0 := by
    intro hm
    rcases hw with ⟨e, n, cols, hw⟩ | ⟨ks, cols, one, hw⟩
    ·rw [hw] at hm
     exact hm
    ·rw [hw] at hob
     exact hob.1
   have h1 : HeapOK w0 (setAt H w.1 w.2) c1 := by
    refine h.write w.1 w.2 p hle (fun _ h => h) (by simp [c1, Cx.putAt]) (fun x hx => by simp [c1, Cx.putAt, hx]) (fun _ _ _ _ => rfl) (hob.mono hle fun _ => rfl) ?_ (fun _ _ => rfl)
    intro hm
    obtain ⟨k1, k2, k3⟩ := hnew p (by simp) (hmemcap hm)
    exact ⟨k1, k2, k3, fun x q _ hlx => hl x q hlx p (by simp) (hmemcap hm)⟩
   obtain ⟨c', g1, g2, g3, g4, g5⟩ := ih h1 (hp2.mono hle rfl) hn2 (fun v hv => by
     rw [Heap.at_setAt, if_neg]
     ·exact hf v (by simp [hv])
     ·intro e
      exact hn1 (e ▸ List.mem_map_of_mem hv)) (List.pairwise_cons.1 ha).2 (fun q hq => hnew q (by simp [hq])) (by
     rintro x q ⟨o, ho, hq, hm⟩ r hr hcap
     rw [Heap.at_setAt] at ho
     by_cases hx : x = w.1
     ·subst hx
      rw [if_pos rfl] at ho
      cases ho
      have : c1.π w.1 = some p := by simp [c1, Cx.putAt]
      rw [this] at hq
      cases hq
      exact (List.pairwise_cons.1 ha).1 r hr (hmemcap hm) hcap
     ·rw [if_neg hx] at ho
      have : c1.π x = c.π x := by simp [c1, Cx.putAt, hx]
      rw [this] at hq
      exact hl x q ⟨o, ho, hq, hm⟩ r (by simp [hr]) hcap)
   refine ⟨c', hle.trans g1, g2, g3, g4, ?_, g5⟩
   exact g1.π _ _ (by simp [c1, Cx.putAt])
theorem freshLeaf_gives {x : AV} {v : Value} {ps : List Place} (h : GiveLeaf c x v ps) (hf : freshLeaf x = true) {π1 : Nat → Option Place} {S1 : Nat → Prop} : GiveLeaf ⟨c.w, π1, S1⟩ x v ps := by
 cases x <;> simp only [GiveLeaf] at h
 case own e n cols =>
  obtain ⟨p, a, h1, h2, h3, q1, q2, q3, q4, q5, q6⟩ := h
  refine ⟨p, a, h1, h2, h3, q1, q2, q3, q4, q5, fun hc => ?_⟩
  obtain ⟨arr, t, ha, hs, hx⟩ := q6 hc
  refine ⟨arr, t, ha, hs, fun i hi j col hj => ?_⟩
  obtain ⟨u, k1, k2⟩ := hx i hi j col hj
  simp only [freshLeaf, List.all_eq_true] at hf
  exact ⟨u, k1, k2.flat (hf col (List.mem_of_getElem? hj))⟩
 case omap ks cols one => exact h
 case int k n => exact h
 case bool b => exact h
 case val u => exact h
 case sl n cols =>
  cases n with
  | zero =>
   obtain ⟨h1, base, cap, h2, h3, h4, h5⟩ := h
   exact ⟨h1, base, cap, h2, h3, h4, .inl rfl⟩
  | succ n => simp [freshLeaf] at hf
theorem piLeaf_gives {x : AV} {v : Value} {ps : List Place} (h : GiveLeaf c x v ps) {π1 : Nat → Option Place} : GiveLeaf ⟨c.w, π1, c.S⟩ x v ps := by
 cases x <;> simp only [GiveLeaf] at h
 case own e n cols =>
  obtain ⟨p, a, h1, h2, h3, q1, q2, q3, q4, q5, q6⟩ := h
  refine ⟨p, a, h1, h2, h3, q1, q2, q3, q4, q5, fun hc => ?_⟩
  obtain ⟨arr, t, ha, hs, hx⟩ := q6 hc
  refine ⟨arr, t, ha, hs, fun i hi j col hj => ?_⟩
  obtain ⟨u, k1, k2⟩ := hx i hi j col hj
  exact ⟨u, k1, k2.grow fun _ h => h⟩
 case omap ks cols one => exact h
 case int k n => exact h
 case bool b => exact h
 case val u => exact h
 case sl n cols => exact h
def cellsGood (good : AV → Bool) : AV → Bool
 | .agg cs => cs.all good
 | v => good v
def allGood (good : AV → Bool) : AV → Bool
 | .agg cs => cs.all good
 | .tup vs => vs.all (cellsGood good)
 | v => good v
section
variable {c1 : Cx} {good : AV → Bool} (hl : ∀ (x : AV) (v : Value) (ps : List Place), good x = true → GiveLeaf c x v ps → GiveLeaf c1 x v ps)
include hl
theorem list_gives : ∀ {xs : List AV} {vs : List Value} {ps : List Place}, GiveList c xs vs ps → xs.all good = true → GiveList c1 xs vs ps
 | [], [], _, h, _ => h
 | x :: xs, v :: vs, ps, h, hf => by
  obtain ⟨p1, p2, h1, h2, h3⟩ := h
  simp only [List.all_cons, Bool.and_eq_true] at hf
  exact ⟨p1, p2, h1, hl _ _ _ hf.1 h2, list_gives h3 hf.2⟩
 | [], _ :: _, _, h, _ => h.elim
 | _ :: _, [], _, h, _ => h.elim
theorem cells_gives {x : AV} {v : Value} {ps : List Place} (h : GiveCells c x v ps) (hf : cellsGood good x = true) : GiveCells c1 x v ps := by
 cases x
 case agg cs =>
  obtain ⟨vs, h1, h2⟩ := h
  exact ⟨vs, h1, list_gives hl h2 hf⟩
 all_goals exact hl _ v ps hf h
theorem tup_gives : ∀ {xs : List AV} {vs : List Value} {ps : List Place}, GiveTup c xs vs ps → xs.all (cellsGood good) = true → GiveTup c1 xs vs ps
 | [], [], _, h, _ => h
 | x :: xs, v :: vs, ps, h, hf => by
  obtain ⟨p1, p2, h1, h2, h3⟩ := h
  simp only [List.all_cons, Bool.and_eq_true] at hf
  exact ⟨p1, p2, h1, cells_gives hl h2 hf.1, tup_gives h3 hf.2⟩
 | [], _ :: _, _, h, _ => h.elim
 | _ :: _, [], _, h, _ => h.elim
theorem all_gives {x : AV} {v : Value} {ps : List Place} (h : Gives c x v ps) (hf : allGood good x = true) : Gives c1 x v ps := by
 cases x
 case tup xs =>
  obtain ⟨vs, h1, h2⟩ := h
  exact ⟨vs, h1, tup_gives hl h2 hf⟩
 case agg cs =>
  obtain ⟨vs, h1, h2⟩ := h
  exact ⟨vs, h1, list_gives hl h2 hf⟩
 all_goals exact hl _ v ps hf h
end
theorem fresh_gives {x : AV} {v : Value} {ps : List Place} (h : Gives c x v ps) (hf : freshAV x = true) {π1 : Nat → Option Place} {S1 : Nat → Prop} : Gives ⟨c.w, π1, S1⟩ x v ps :=
 all_gives (good := freshLeaf) (fun x v ps hf h => freshLeaf_gives h hf) h (by
  cases x
  case tup xs =>
   simp only [allGood, freshAV, List.all_eq_true] at hf ⊢
   intro y hy
   have := hf y hy
   cases y <;> exact this
  all_goals exact hf)
theorem gives_pi {x : AV} {v : Value} {ps : List Place} (h : Gives c x v ps) {π1 : Nat → Option Place} : Gives ⟨c.w, π1, c.S⟩ x v ps :=
 all_gives (good := fun _ => true) (fun x v ps _ h => piLeaf_gives h) h (by
  cases x <;> first | rfl | skip
  case agg cs => simp [allGood]
  case tup xs =>
   simp only [allGood, List.all_eq_true]
   intro y _
   cases y <;> simp [cellsGood])
theorem pureSumm_ok {k : FuncId} {F : Pure1} (h : PureOK P k F) : SummOK P k (pureSumm F) := by
 refine ⟨h.1, fun w0 H c args vs fr e hh hr hfr he hobl => ?_⟩
 unfold pureSumm at he
 split at he
 ·rename_i as rd hp
  split at he
  ·rename_i b r hF
   split at he
   ·rename_i hc
    cases he
    simp only [Bool.and_eq_true, Bool.or_eq_true] at hc
    obtain ⟨⟨hc1, hc2⟩, hc3⟩ := hc
    have body : ∀ (S1 : Nat → Prop), (∀ x, c.S x → S1 x) → (∀ x, S1 x → x < c.w.heap.size) → (∀ id ∈ rd, ∀ q, Live H c id q → S1 q.b) → ((∀ x, S1 x → c.S x) ∨ freshAV r = true) →
      CallGoes P k vs w0 (writeAll H (adopt fr r).2) c (adopt fr r).1 := by
     intro S1 hS hS1 hb hor
     have hrel := pureArgs_rel (π1 := fun _ => none) hh hp hr hS hb
     refine (h.2 ⟨c.w, fun _ => none, S1⟩ as vs b r hS1 (fun _ => rfl) hrel hF hobl).mono ?_
     rintro en w' ⟨v, c', ps, rfl, rfl, h1, h2, h3, h4, h5, h6⟩
     obtain ⟨S2, k1, k2, k3, k4⟩ : ∃ S2 : Nat → Prop, (∀ x, c.S x → S2 x) ∧ (∀ x, S2 x → (c.S x ∨ c.w.heap.size ≤ x) ∧ x < c'.w.heap.size) ∧ (∀ x, S2 x → c'.S x) ∧ ∀ π, Gives ⟨c'.w, π, S2⟩ r v ps := by
      rcases hor with hor | hor
      ·exact ⟨c'.S, fun x hx => h1.S x (hS x hx), fun x hx => ⟨((h3 x hx).1).imp (hor x) id, (h3 x hx).2⟩, fun _ h => h, fun π => gives_pi h4⟩
      ·exact ⟨c.S, fun _ h => h, fun x hx => ⟨.inl hx, (h3 x (h1.S x (hS x hx))).2⟩, fun x hx => h1.S x (hS x hx), fun π => fresh_gives h4 hor⟩
     obtain ⟨m1, m2⟩ := hh.move (w' := c'.w) (S' := S2) k1 k2 h2 h1.size h1.rest
     have ht := takes (fr := fr) (k4 c.π)
     obtain ⟨c2, g1, g2, g3, g4, g5⟩ := m1.adopt ht.1 hc2 (fun w hw => by
       have := List.all_eq_true.1 hc3 w hw
       simp only [Bool.and_eq_true, decide_eq_true_eq] at this
       exact hfr w.1 this.1 this.2) h5 (fun p hp hcap => by
       obtain ⟨n1, n2, n3⟩ := h6 p hp hcap
       exact ⟨Nat.le_trans hh.grown n1, n2, fun hx => n3 (k3 _ hx)⟩) (by
       rintro x q ⟨o, ho, hq, hm⟩ p hp hcap
       obtain ⟨n1, n2, n3⟩ := h6 p hp hcap
       have := (hh.out x q ⟨o, ho, hq, hm⟩).2.1
       show q.b ≠ p.b
       simp only at n1
       omega)
     refine ⟨v, c2, rfl, by rw [g2], m2.trans g1, g4, ?_⟩
     have := ht.2 c2.π g5
     have e : c2 = ⟨c'.w, c2.π, S2⟩ := by
      cases c2
      simp only at g2 g3
      subst g2 g3
      rfl
     rw [e]
     exact this
    cases hrd : rd with
    | nil => exact body c.S (fun _ h => h) hh.stable (fun id hid => by rw [hrd] at hid; cases hid) (.inl fun _ h => h)
    | cons x xs =>
     rw [hrd] at hc1
     exact body (fun x => x < c.w.heap.size) hh.stable (fun _ h => h) (fun id _ q hq => (hh.out id q hq).2.1) (.inr (by simpa using hc1))
   ·cases he
  ·cases he
 ·cases he
end
end Go.Own
end
section
namespace Go.Own
open Go
mutual
def WF : AV → Prop
 | .sl n cols => ∀ col ∈ cols, col.len = n
 | .agg cs => WFL cs
 | .tup cs => WFL cs
 | .ip cs => WFL cs
 | .fn _ xs ys => WFL xs ∧ WFL ys
 | .ifc _ x => WF x
 | .mapv ks cols _ => (∀ col ∈ cols, col.len = ks.length) ∧ ks.Nodup
 | _ => True
def WFL : List AV → Prop
 | [] => True
 | x :: xs => WF x ∧ WFL xs
end
section
variable {P : Program} {w0 : Base} {H : Heap} {c : Cx}
mutual
theorem Rel.wf : ∀ {a : AV} {v : Value}, Rel c a v → WF a
 | .sl n cols, v, r => by
  simp only [Rel] at r
  obtain ⟨_, _, _, _, h, _⟩ := r
  exact h
 | .agg cs, v, r => by
  simp only [Rel] at r
  obtain ⟨_, _, h⟩ := r
  exact RelL.wf h
 | .tup cs, v, r => by
  simp only [Rel] at r
  obtain ⟨_, _, h⟩ := r
  exact RelL.wf h
 | .ip cs, v, r => by
  simp only [Rel] at r
  obtain ⟨_, _, _, _, _, h, _⟩ := r
  exact RelL.wf h
 | .fn _ xs ys, v, r => by
  simp only [Rel] at r
  obtain ⟨_, _, _, h1, h2⟩ := r
  exact ⟨RelL.wf h1, RelL.wf h2⟩
 | .ifc _ x, v, r => by
  simp only [Rel] at r
  obtain ⟨_, _, h⟩ := r
  show WF x
  exact Rel.wf h
 | .top, _, _ => trivial
 | .bool _, _, _ => trivial
 | .int _ _, _, _ => trivial
 | .val _, _, _ => trivial
 | .emp _ _, _, _ => trivial
 | .own _ _ _, _, _ => trivial
 | .full _, _, _ => trivial
 | .osl _ _ _, _, _ => trivial
 | .ptr _ _ _, _, _ => trivial
 | .mp _, _, _ => trivial
 | .it _, _, _ => trivial
 | .mapv _ _ _, v, r => by
  simp only [Rel] at r
  obtain ⟨_, _, _, _, _, h⟩ := r
  exact ⟨h.col, h.nodup⟩
 | .omap _ _ _, _, _ => trivial
 | .cond _ _ _, _, _ => trivial
theorem RelL.wf : ∀ {as : List AV} {vs : List Value}, RelL c as vs → WFL as
 | [], _, _ => trivial
 | a :: as, v :: vs, r => ⟨Rel.wf r.1, RelL.wf r.2⟩
 | _ :: _, [], r => r.elim
end
def Tags (H : Heap) (c : Cx) : List Nat → List Place → Prop
 | ids, [] => ids = []
 | ids, p :: ps => (p.cap = 0 ∧ Tags H c ids ps) ∨ ∃ id ids', ids = id :: ids' ∧ (p.cap ≠ 0 → ∃ q, Live H c id q ∧ q.b = p.b) ∧ Tags H c ids' ps
theorem Tags.append : ∀ {ps qs : List Place} {a b : List Nat}, Tags H c a ps → Tags H c b qs → Tags H c (a ++ b) (ps ++ qs)
 | [], _, a, b, h, h' => by
  simp only [Tags] at h
  subst h
  exact h'
 | p :: ps, qs, a, b, h, h' => by
  rcases h with ⟨h1, h2⟩ | ⟨id, ids, rfl, h1, h2⟩
  ·exact .inl ⟨h1, h2.append h'⟩
  ·exact .inr ⟨id, ids ++ b, rfl, h1, h2.append h'⟩
theorem Tags.mem : ∀ {ps : List Place} {a : List Nat}, Tags H c a ps → ∀ p ∈ ps, p.cap ≠ 0 → ∃ id ∈ a, ∃ q, Live H c id q ∧ q.b = p.b
 | [], _, _, p, hp, _ => by simp at hp
 | p :: ps, a, h, x, hx, hc => by
  rcases h with ⟨h1, h2⟩ | ⟨id, ids, rfl, h1, h2⟩
  ·rcases List.mem_cons.1 hx with rfl | hx
   ·exact absurd h1 hc
   ·exact h2.mem x hx hc
  ·rcases List.mem_cons.1 hx with rfl | hx
   ·exact ⟨id, by simp, h1 hc⟩
   ·obtain ⟨id', k1, k2⟩ := h2.mem x hx hc
    exact ⟨id', by simp [k1], k2⟩
theorem Tags.apart (hh : HeapOK w0 H c) : ∀ {ps : List Place} {a : List Nat}, Tags H c a ps → nodupB a = true → Apart ps
 | [], _, _, _ => List.Pairwise.nil
 | p :: ps, a, h, hn => by
  rcases h with ⟨h1, h2⟩ | ⟨id, ids, rfl, h1, h2⟩
  ·exact List.pairwise_cons.2 ⟨fun q _ hc _ => absurd h1 hc, Tags.apart hh h2 hn⟩
  ·simp only [nodupB, Bool.and_eq_true, Bool.not_eq_true', List.contains_eq_mem, decide_eq_false_iff_not] at hn
   refine List.pairwise_cons.2 ⟨fun q hq hc hc' => ?_, Tags.apart hh h2 hn.2⟩
   obtain ⟨x, k1, k2⟩ := h1 hc
   obtain ⟨id', g1, y, g2, g3⟩ := h2.mem q hq hc'
   rw [← k2, ← g3]
   exact hh.apart id id' x y k1 g2 (by rintro rfl; exact hn.1 g1)
theorem Tags.new (hh : HeapOK w0 H c) {ps : List Place} {a : List Nat} (h : Tags H c a ps) : NewAt w0.heap.size c ps := by
 intro p hp hc
 obtain ⟨id, _, q, h1, h2⟩ := h.mem p hp hc
 rw [← h2]
 exact hh.out id q h1
theorem giveLeaf_own (hh : HeapOK w0 H c) {x r : AV} {ids : List Nat} {v : Value} (hx : giveLeaf true H x = some (r, ids)) (hr : Rel c x v) : ∃ ps, GiveLeaf c r v ps ∧ Tags H c ids ps := by
 cases x <;> simp only [giveLeaf, reduceCtorEq] at hx
 case bool b => cases hx; exact ⟨[], ⟨rfl, hr⟩, rfl⟩
 case int k n => cases hx; exact ⟨[], ⟨rfl, hr⟩, rfl⟩
 case val u => cases hx; exact ⟨[], ⟨rfl, hr⟩, rfl⟩
 case sl n cols => cases hx; exact ⟨[], ⟨rfl, hr⟩, rfl⟩
 case emp e cols =>
  cases cols with
  | nil => cases hx
  | cons col rest =>
   simp only [if_true, Option.some.injEq, Prod.mk.injEq] at hx
   obtain ⟨rfl, rfl⟩ := hx
   simp only [Rel] at hr
   obtain ⟨hl, a, rfl⟩ := hr
   exact ⟨[⟨0, (col :: rest).length, 0, 0⟩], ⟨_, a, rfl, rfl, fun h => absurd rfl h, rfl, rfl, Nat.le_refl _, by simp, hl, fun h => absurd rfl h⟩, .inl ⟨rfl, rfl⟩⟩
 case full id =>
  split at hx
  ·rename_i e n cols hid
   simp only [if_true, Option.some.injEq, Prod.mk.injEq] at hx
   obtain ⟨rfl, rfl⟩ := hx
   simp only [Rel] at hr
   obtain ⟨p, a, hp, h1, h2⟩ := hr
   obtain ⟨p', hp', hob⟩ := hh.obj id _ hid
   rw [hp] at hp'
   cases hp'
   exact ⟨[p], ⟨p, a, rfl, h1, h2, hob⟩, .inr ⟨id, [], rfl, fun hc => ⟨p, ⟨_, hid, hp, hc⟩, rfl⟩, rfl⟩⟩
  ·cases hx
 case osl id off n =>
  split at hx
  ·rename_i e k cols hid
   cases off with
   | zero =>
    simp only [if_true, Option.some.injEq, Prod.mk.injEq] at hx
    obtain ⟨rfl, rfl⟩ := hx
    simp only [Rel] at hr
    obtain ⟨p, a, hp, h1, h2, h3, h4⟩ := hr
    obtain ⟨p', hp', hob⟩ := hh.obj id _ hid
    rw [hp] at hp'
    cases hp'
    obtain ⟨q1, q2, q3, q4, q5, q6⟩ := hob
    refine ⟨[⟨p.b, p.sz, n, p.cap⟩], ⟨_, a, rfl, h1, fun hc => by simpa using h4 (Nat.pos_of_ne_zero hc), rfl, by simpa using q2, by simp only; omega, by simpa using q4, ?_, ?_⟩, .inr ⟨id, [], rfl, fun hc => ⟨p, ⟨_, hid, hp, hc⟩, rfl⟩, rfl⟩⟩
    ·intro col hcol
     obtain ⟨col0, g1, rfl⟩ := List.mem_map.1 hcol
     exact (Col.part_spec (c := c) (by rw [q5 col0 g1]; omega)).1
    ·intro hc
     obtain ⟨arr, t, ha, hs, hx⟩ := q6 hc
     refine ⟨arr, t, ha, hs, fun i hi j col hj => ?_⟩
     rw [List.getElem?_map] at hj
     cases hcj : cols[j]? with
     | none => simp [hcj] at hj
     | some col0 =>
      simp [hcj] at hj
      subst hj
      obtain ⟨u, g2, g3⟩ := hx i (by omega) j col0 hcj
      exact ⟨u, g2, (Col.part_spec (by rw [q5 col0 (List.mem_of_getElem? hcj)]; omega)).2 i u hi (by simpa using g3)⟩
   | succ off => simp at hx
  ·cases hx
 case mp id =>
  split at hx
  ·rename_i ks cols one hid
   simp only [if_true, Option.some.injEq, Prod.mk.injEq] at hx
   obtain ⟨rfl, rfl⟩ := hx
   simp only [Rel] at hr
   obtain ⟨p, hp, h1⟩ := hr
   obtain ⟨p', hp', hob⟩ := hh.obj id _ hid
   rw [hp] at hp'
   cases hp'
   exact ⟨[p], ⟨p, rfl, h1, hob⟩, .inr ⟨id, [], rfl, fun hc => ⟨p, ⟨_, hid, hp, trivial⟩, rfl⟩, rfl⟩⟩
  ·cases hx
theorem giveLeaf_stay (hh : HeapOK w0 H c) {x r : AV} {ids : List Nat} {v : Value} (hx : giveLeaf false H x = some (r, ids)) (hr : Rel c x v)
  {π1 : Nat → Option Place} {S1 : Nat → Prop} (hS : ∀ b, c.S b → S1 b) (hb : ∀ b, w0.heap.size ≤ b → b < c.w.heap.size → S1 b) : GiveLeaf ⟨c.w, π1, S1⟩ r v [] := by
 cases x <;> simp only [giveLeaf, reduceCtorEq] at hx
 case bool b => cases hx; exact ⟨rfl, hr⟩
 case int k n => cases hx; exact ⟨rfl, hr⟩
 case val u => cases hx; exact ⟨rfl, hr⟩
 case sl n cols => cases hx; exact ⟨rfl, freeze_rel hh (x := .sl n cols) rfl hr hS (by simp)⟩
 case emp e cols =>
  cases cols with
  | nil => cases hx
  | cons col rest =>
   simp only [Bool.false_eq_true, if_false, Option.some.injEq, Prod.mk.injEq] at hx
   obtain ⟨rfl, rfl⟩ := hx
   exact ⟨rfl, freeze_rel hh (x := .emp e (col :: rest)) rfl hr hS (by simp)⟩
 case full id =>
  split at hx
  ·rename_i e n cols hid
   simp only [Bool.false_eq_true, if_false, Option.some.injEq, Prod.mk.injEq] at hx
   obtain ⟨rfl, rfl⟩ := hx
   exact ⟨rfl, freeze_rel hh (x := .full id) (rd := [id]) (by simp [sliceOf, hid]) hr hS fun id _ q hq => hb _ (hh.out id q hq).1 (hh.out id q hq).2.1⟩
  ·cases hx
 case osl id off n =>
  split at hx
  ·rename_i e k cols hid
   cases off with
   | zero =>
    simp only [Bool.false_eq_true, if_false, Option.some.injEq, Prod.mk.injEq] at hx
    obtain ⟨rfl, rfl⟩ := hx
    exact ⟨rfl, freeze_rel hh (x := .osl id 0 n) (rd := [id]) (by simp [sliceOf, hid]) hr hS fun id _ q hq => hb _ (hh.out id q hq).1 (hh.out id q hq).2.1⟩
   | succ off =>
    simp only [Bool.false_eq_true, if_false, Option.some.injEq, Prod.mk.injEq] at hx
    obtain ⟨rfl, rfl⟩ := hx
    exact ⟨rfl, freeze_rel hh (x := .osl id (off + 1) n) (rd := [id]) (by simp [sliceOf, hid]) hr hS fun id _ q hq => hb _ (hh.out id q hq).1 (hh.out id q hq).2.1⟩
  ·cases hx
 case mp id =>
  split at hx
  ·simp at hx
  ·cases hx
theorem mapIds_own {f : AV → Option (AV × List Nat)} {G : AV → Value → List Place → Prop} (hf : ∀ x r ids v, f x = some (r, ids) → Rel c x v → ∃ ps, G r v ps ∧ Tags H c ids ps) :
  ∀ {xs rs : List AV} {ids : List Nat} {vs : List Value}, mapIds f xs = some (rs, ids) → RelL c xs vs → ∃ pss : List (List Place), pss.length = rs.length ∧ rs.length = vs.length ∧ (∀ (i : Nat) (r : AV) (v : Value) (ps : List Place), rs[i]? = some r → vs[i]? = some v → pss[i]? = some ps → G r v ps) ∧ Tags H c ids pss.flatten
 | [], rs, ids, vs, h, hr => by
  simp only [mapIds, Option.some.injEq, Prod.mk.injEq] at h
  obtain ⟨rfl, rfl⟩ := h
  cases vs with
  | nil => exact ⟨[], rfl, rfl, by simp, rfl⟩
  | cons v vs => exact hr.elim
 | x :: xs, rs, ids, [], h, hr => hr.elim
 | x :: xs, rs, ids, v :: vs, h, hr => by
  simp only [mapIds] at h
  split at h
  ·rename_i y i1 ys' i2 h1 h2
   cases h
   obtain ⟨ps, k1, k2⟩ := hf _ _ _ _ h1 hr.1
   obtain ⟨pss, g1, g2, g3, g4⟩ := mapIds_own hf h2 hr.2
   refine ⟨ps :: pss, by simp [g1], by simp [g2], fun i r v ps h1 h2 h3 => ?_, k2.append g4⟩
   cases i with
   | zero =>
    simp at h1 h2 h3
    subst h1 h2 h3
    exact k1
   | succ i => exact g3 i r v ps (by simpa using h1) (by simpa using h2) (by simpa using h3)
  ·cases h
theorem GiveList.of : ∀ {rs : List AV} {vs : List Value} {pss : List (List Place)}, pss.length = rs.length → rs.length = vs.length → (∀ (i : Nat) (r : AV) (v : Value) (ps : List Place), rs[i]? = some r → vs[i]? = some v → pss[i]? = some ps → GiveLeaf c r v ps) → GiveList c rs vs pss.flatten
 | [], [], [], _, _, _ => rfl
 | r :: rs, v :: vs, ps :: pss, h1, h2, h => ⟨ps, pss.flatten, rfl, h 0 r v ps rfl rfl rfl, GiveList.of (by simpa using h1) (by simpa using h2) fun i r v ps g1 g2 g3 => h (i + 1) r v ps (by simpa using g1) (by simpa using g2) (by simpa using g3)⟩
 | [], _ :: _, _, _, h, _ => by simp at h
 | _ :: _, [], _, _, h, _ => by simp at h
 | [], [], _ :: _, h, _, _ => by simp at h
 | _ :: _, _ :: _, [], h, _, _ => by simp at h
theorem GiveTup.of : ∀ {rs : List AV} {vs : List Value} {pss : List (List Place)}, pss.length = rs.length → rs.length = vs.length → (∀ (i : Nat) (r : AV) (v : Value) (ps : List Place), rs[i]? = some r → vs[i]? = some v → pss[i]? = some ps → GiveCells c r v ps) → GiveTup c rs vs pss.flatten
 | [], [], [], _, _, _ => rfl
 | r :: rs, v :: vs, ps :: pss, h1, h2, h => ⟨ps, pss.flatten, rfl, h 0 r v ps rfl rfl rfl, GiveTup.of (by simpa using h1) (by simpa using h2) fun i r v ps g1 g2 g3 => h (i + 1) r v ps (by simpa using g1) (by simpa using g2) (by simpa using g3)⟩
 | [], _ :: _, _, _, h, _ => by simp at h
 | _ :: _, [], _, _, h, _ => by simp at h
 | [], [], _ :: _, h, _, _ => by simp at h
 | _ :: _, _ :: _, [], h, _, _ => by simp at h
theorem leaf_not {x r : AV} {ids : List Nat} {own : Bool} (hx : giveLeaf own H x = some (r, ids)) {v : Value} {ps : List Place} (h : GiveLeaf c r v ps) : GiveCells c r v ps ∧ Gives c r v ps := by
 cases r <;> first | exact ⟨h, h⟩ | (simp [GiveLeaf] at h)
theorem giveCells_own (hh : HeapOK w0 H c) {x r : AV} {ids : List Nat} {v : Value} (hx : giveCells true H x = some (r, ids)) (hr : Rel c x v) : ∃ ps, GiveCells c r v ps ∧ Gives c r v ps ∧ Tags H c ids ps := by
 unfold giveCells at hx
 split at hx
 ·rename_i cs
  split at hx
  ·rename_i rs is hm
   cases hx
   simp only [Rel] at hr
   obtain ⟨vs, rfl, hr⟩ := hr
   obtain ⟨pss, g1, g2, g3, g4⟩ := mapIds_own (G := GiveLeaf c) (fun x r ids v h1 h2 => giveLeaf_own hh h1 h2) hm hr
   have := GiveList.of g1 g2 g3
   exact ⟨_, ⟨vs, rfl, this⟩, ⟨vs, rfl, this⟩, g4⟩
  ·cases hx
 ·obtain ⟨ps, h1, h2⟩ := giveLeaf_own hh hx hr
  obtain ⟨h3, h4⟩ := leaf_not hx h1
  exact ⟨ps, h3, h4, h2⟩
theorem mapIds_stay {f : AV → Option (AV × List Nat)} {G : AV → Value → List Place → Prop} (hf : ∀ x r ids v, f x = some (r, ids) → Rel c x v → G r v []) :
  ∀ {xs rs : List AV} {ids : List Nat} {vs : List Value}, mapIds f xs = some (rs, ids) → RelL c xs vs → rs.length = vs.length ∧ ∀ (i : Nat) (r : AV) (v : Value), rs[i]? = some r → vs[i]? = some v → G r v []
 | [], rs, ids, vs, h, hr => by
  simp only [mapIds, Option.some.injEq, Prod.mk.injEq] at h
  obtain ⟨rfl, rfl⟩ := h
  cases vs with
  | nil => exact ⟨rfl, by simp⟩
  | cons v vs => exact hr.elim
 | x :: xs, rs, ids, [], h, hr => hr.elim
 | x :: xs, rs, ids, v :: vs, h, hr => by
  simp only [mapIds] at h
  split at h
  ·rename_i y i1 ys' i2 h1 h2
   cases h
   obtain ⟨g2, g3⟩ := mapIds_stay hf h2 hr.2
   refine ⟨by simp [g2], fun i r v h3 h4 => ?_⟩
   cases i with
   | zero =>
    simp at h3 h4
    subst h3 h4
    exact hf _ _ _ _ h1 hr.1
   | succ i => exact g3 i r v (by simpa using h3) (by simpa using h4)
  ·cases h
theorem flatten_nils {n : Nat} : (List.replicate n ([] : List Place)).flatten = [] := by
 induction n with
 | zero => rfl
 | succ n ih => simp [List.replicate_succ, ih]
theorem giveCells_stay (hh : HeapOK w0 H c) {x r : AV} {ids : List Nat} {v : Value} (hx : giveCells false H x = some (r, ids)) (hr : Rel c x v)
  {π1 : Nat → Option Place} {S1 : Nat → Prop} (hS : ∀ b, c.S b → S1 b) (hb : ∀ b, w0.heap.size ≤ b → b < c.w.heap.size → S1 b) : GiveCells ⟨c.w, π1, S1⟩ r v [] ∧ Gives ⟨c.w, π1, S1⟩ r v [] := by
 unfold giveCells at hx
 split at hx
 ·rename_i cs
  split at hx
  ·rename_i rs is hm
   cases hx
   simp only [Rel] at hr
   obtain ⟨vs, rfl, hr⟩ := hr
   obtain ⟨g2, g3⟩ := mapIds_stay (G := GiveLeaf ⟨c.w, π1, S1⟩) (fun x r ids v h1 h2 => giveLeaf_stay hh h1 h2 hS hb) hm hr
   have := GiveList.of (c := ⟨c.w, π1, S1⟩) (pss := List.replicate rs.length []) (by simp) g2 (fun i r v ps h1 h2 h3 => by
    rw [List.getElem?_replicate] at h3
    split at h3
    ·cases h3; exact g3 i r v h1 h2
    ·cases h3)
   rw [flatten_nils] at this
   exact ⟨⟨vs, rfl, this⟩, ⟨vs, rfl, this⟩⟩
  ·cases hx
 ·have h1 := giveLeaf_stay (π1 := π1) hh hx hr hS hb
  exact leaf_not hx h1
theorem give_own (hh : HeapOK w0 H c) {x r : AV} {v : Value} (hx : give true H x = some r) (hr : Rel c x v) : ∃ ps, Gives c r v ps ∧ Apart ps ∧ NewAt w0.heap.size c ps := by
 unfold give at hx
 split at hx
 ·rename_i xs
  split at hx
  ·rename_i rs ids hm
   split at hx
   ·rename_i hn
    cases hx
    simp only [Rel] at hr
    obtain ⟨vs, rfl, hr⟩ := hr
    obtain ⟨pss, g1, g2, g3, g4⟩ := mapIds_own (G := GiveCells c) (fun x r ids v h1 h2 => let ⟨ps, k1, _, k2⟩ := giveCells_own hh h1 h2; ⟨ps, k1, k2⟩) hm hr
    exact ⟨_, ⟨vs, rfl, GiveTup.of g1 g2 g3⟩, g4.apart hh hn, g4.new hh⟩
   ·cases hx
  ·cases hx
 ·split at hx
  ·rename_i r' ids hm
   split at hx
   ·rename_i hn
    cases hx
    obtain ⟨ps, _, k2, k3⟩ := giveCells_own hh hm hr
    exact ⟨ps, k2, k3.apart hh hn, k3.new hh⟩
   ·cases hx
  ·cases hx
theorem give_stay (hh : HeapOK w0 H c) {x r : AV} {v : Value} (hx : give false H x = some r) (hr : Rel c x v)
  {π1 : Nat → Option Place} {S1 : Nat → Prop} (hS : ∀ b, c.S b → S1 b) (hb : ∀ b, w0.heap.size ≤ b → b < c.w.heap.size → S1 b) : Gives ⟨c.w, π1, S1⟩ r v [] := by
 unfold give at hx
 split at hx
 ·rename_i xs
  split at hx
  ·rename_i rs ids hm
   split at hx
   ·rename_i hn
    cases hx
    simp only [Rel] at hr
    obtain ⟨vs, rfl, hr⟩ := hr
    obtain ⟨g2, g3⟩ := mapIds_stay (G := GiveCells ⟨c.w, π1, S1⟩) (fun x r ids v h1 h2 => (giveCells_stay hh h1 h2 hS hb).1) hm hr
    have := GiveTup.of (c := ⟨c.w, π1, S1⟩) (pss := List.replicate rs.length []) (by simp) g2 (fun i r v ps h1 h2 h3 => by
     rw [List.getElem?_replicate] at h3
     split at h3
     ·cases h3; exact g3 i r v h1 h2
     ·cases h3)
    rw [flatten_nils] at this
    exact ⟨vs, rfl, this⟩
   ·cases hx
  ·cases hx
 ·split at hx
  ·rename_i r' ids hm
   split at hx
   ·rename_i hn
    cases hx
    exact (giveCells_stay hh hm hr hS hb).2
   ·cases hx
  ·cases hx
def entersB (P : Program) (k : FuncId) : Bool := match P.funcs[k]? with
 | some fn => !(fn.name == "runtime.NumGoroutine") && fn.body.isSome
 | none => false
theorem enters_of {k : FuncId} (h : entersB P k = true) : Enters P k := by
 unfold entersB at h
 split at h
 ·rename_i fn hf
  simp only [Bool.and_eq_true, Bool.not_eq_true'] at h
  exact ⟨fn, hf, h.1, h.2⟩
 ·cases h
theorem pure_of (hm : P.follows .mixedOrders = true) {S : FuncId → Option Summ} (hS : ∀ k s, S k = some s → SummOK P k s) (hL : ∀ k s, S k = some s → SummLocal s) {L : FuncId → Nat → Option LoopS}
  (hl : ∀ k fn c, P.funcs[k]? = some fn → fn.body = some c → ∀ p ∈ loopsOf c 1000, ∀ x, L k p.1 = some x → LoopIs P p.2 x) {k : FuncId} {F : Pure1} (own : Bool) (he : entersB P k = true)
  (hv : ∀ as b r, F as = some (b, r) → b ≠ some false → WFL as → VC P S L own k as r) : PureOK P k F := by
 refine ⟨enters_of he, fun c as vs b r hS0 hπ hr hF hb => ?_⟩
 have hvc := hv as b r hF hb hr.wf
 obtain ⟨_, hc⟩ := callN_sound hm hS hL hl 12 k as [] _ hvc
 have hh : HeapOK ⟨c.w.heap, c.S⟩ [] c := ⟨fun id o ho => by simp [Heap.at] at ho, fun id id' p p' h => by obtain ⟨o, ho, _⟩ := h; simp [Heap.at] at ho, fun id p h => by obtain ⟨o, ho, _⟩ := h; simp [Heap.at] at ho, fun id _ => hπ id, hS0, fun _ _ => rfl, Nat.le_refl _, fun b hb => .inl hb⟩
 refine (hc _ c vs hh hr).mono ?_
 rintro en w' ⟨v, c', av, H', rfl, rfl, h1, h2, h3, h4⟩
 cases own with
 | true =>
  obtain ⟨ps, g1, g2, g3⟩ := give_own h2 h4 h3
  exact ⟨v, c', ps, rfl, rfl, h1, h2.kept, fun x hx => ⟨h2.born x hx, h2.stable x hx⟩, g1, g2, g3⟩
 | false =>
  let S1 : Nat → Prop := fun x => c'.S x ∨ (c.w.heap.size ≤ x ∧ x < c'.w.heap.size)
  have := give_stay (π1 := c'.π) (S1 := S1) h2 h4 h3 (fun _ h => .inl h) (fun b h1 h2 => .inr ⟨h1, h2⟩)
  refine ⟨v, ⟨c'.w, c'.π, S1⟩, [], rfl, rfl, ⟨h1.π, fun x hx => .inl (h1.S x hx), h1.w, h1.size, h1.rest⟩, h2.kept, fun x hx => ?_, this, List.Pairwise.nil, fun p hp => by simp at hp⟩
  rcases hx with hx | hx
  ·exact ⟨h2.born x hx, h2.stable x hx⟩
  ·exact ⟨.inr hx.1, hx.2⟩
end
end Go.Own
end
section
namespace Go.Own
open Go
section
variable {P : Program} {w0 : Base} {H : Heap} {c : Cx} {gots : List Got}
def piOf (c : Cx) (gots : List Got) (k : Nat) : Option Place := match gots[k]? with
 | some (.old id) => c.π id
 | some (.new _ cols) => some ⟨0, cols.length, 0, 0⟩
 | none => none
def stOf (w0 : Base) (H : Heap) (c : Cx) (gots : List Got) (b : Nat) : Prop :=
 c.S b ∨ (w0.heap.size ≤ b ∧ b < c.w.heap.size ∧ ∀ id ∈ oldIds gots, ∀ p, Live H c id p → p.b ≠ b)
def cxOf (w0 : Base) (H : Heap) (c : Cx) (gots : List Got) : Cx := ⟨c.w, piOf c gots, stOf w0 H c gots⟩
theorem posOf_spec {id : Nat} : ∀ {gots : List Got} {k j : Nat}, posOf id gots k = some j → k ≤ j ∧ gots[j - k]? = some (.old id)
 | [], _, _, h => by simp [posOf] at h
 | .old i :: gs, k, j, h => by
  simp only [posOf] at h
  split at h
  ·rename_i e
   cases h
   exact ⟨Nat.le_refl _, by simp [e]⟩
  ·obtain ⟨h1, h2⟩ := posOf_spec h
   refine ⟨by omega, ?_⟩
   rw [show j - k = (j - (k + 1)) + 1 by omega]
   simpa using h2
 | .new e cols :: gs, k, j, h => by
  simp only [posOf] at h
  obtain ⟨h1, h2⟩ := posOf_spec h
  refine ⟨by omega, ?_⟩
  rw [show j - k = (j - (k + 1)) + 1 by omega]
  simpa using h2
theorem posOf_none {id : Nat} : ∀ {gots : List Got} {k : Nat}, posOf id gots k = none → id ∉ oldIds gots
 | [], _, _ => by simp [oldIds]
 | .old i :: gs, k, h => by
  simp only [posOf] at h
  split at h
  ·cases h
  ·rename_i e
   simp only [oldIds, List.mem_cons, not_or]
   exact ⟨fun e' => e e'.symm, posOf_none h⟩
 | .new e cols :: gs, k, h => by
  simp only [posOf] at h
  simp only [oldIds]
  exact posOf_none h
theorem mem_oldIds {id : Nat} : ∀ {gots : List Got} {k : Nat}, gots[k]? = some (.old id) → id ∈ oldIds gots
 | [], _, h => by simp at h
 | .old i :: gs, 0, h => by
  simp at h
  simp [oldIds, h]
 | .new _ _ :: gs, 0, h => by simp at h
 | .old i :: gs, k + 1, h => by
  simp only [oldIds, List.mem_cons]
  exact .inr (mem_oldIds (k := k) (by simpa using h))
 | .new _ _ :: gs, k + 1, h => by
  simp only [oldIds]
  exact mem_oldIds (k := k) (by simpa using h)
theorem oldIds_inj {id : Nat} : ∀ {gots : List Got} {j k : Nat}, nodupB (oldIds gots) = true → gots[j]? = some (.old id) → gots[k]? = some (.old id) → j = k
 | [], _, _, _, h, _ => by simp at h
 | g :: gs, 0, 0, _, _, _ => rfl
 | g :: gs, 0, k + 1, hn, h1, h2 => by
  simp at h1
  subst h1
  simp only [oldIds, nodupB, Bool.and_eq_true, Bool.not_eq_true', List.contains_eq_mem, decide_eq_false_iff_not] at hn
  exact absurd (mem_oldIds (k := k) (by simpa using h2)) hn.1
 | g :: gs, j + 1, 0, hn, h1, h2 => by
  simp at h2
  subst h2
  simp only [oldIds, nodupB, Bool.and_eq_true, Bool.not_eq_true', List.contains_eq_mem, decide_eq_false_iff_not] at hn
  exact absurd (mem_oldIds (k := j) (by simpa using h1)) hn.1
 | g :: gs, j + 1, k + 1, hn, h1, h2 => by
  have hn' : nodupB (oldIds gs) = true := by
   cases g with
   | old i =>
    simp only [oldIds, nodupB, Bool.and_eq_true] at hn
    exact hn.2
   | new e cols => exact hn
  rw [oldIds_inj hn' (j := j) (k := k) (by simpa using h1) (by simpa using h2)]
theorem hereT_spec {i : Nat} : ∀ {srcs : List Src} {gots : List Got} {k j : Nat}, hereT i srcs gots k = some j → k ≤ j ∧ ∃ e cols, gots[j - k]? = some (.new e cols)
 | [], _, _, _, h => by simp [hereT] at h
 | .tmp _ :: _, [], _, _, h => by simp [hereT] at h
 | .cell _ _ :: _, [], _, _, h => by simp [hereT] at h
 | s :: ss, g :: gs, k, j, h => by
  have tail : hereT i ss gs (k + 1) = some j → k ≤ j ∧ ∃ e cols, (g :: gs)[j - k]? = some (.new e cols) := by
   intro h
   obtain ⟨h1, e, cols, h2⟩ := hereT_spec h
   refine ⟨by omega, e, cols, ?_⟩
   rw [show j - k = (j - (k + 1)) + 1 by omega]
   simpa using h2
  cases s with
  | tmp i' =>
   cases g with
   | old id => exact tail h
   | new e cols =>
    simp only [hereT] at h
    split at h
    ·cases h
     exact ⟨Nat.le_refl _, e, cols, by simp⟩
    ·exact tail h
  | cell _ _ => cases g <;> exact tail h
theorem hereC_spec {k0 i : Nat} : ∀ {srcs : List Src} {gots : List Got} {k j : Nat}, hereC k0 i srcs gots k = some j → k ≤ j ∧ ∃ e cols, gots[j - k]? = some (.new e cols)
 | [], _, _, _, h => by simp [hereC] at h
 | .tmp _ :: _, [], _, _, h => by simp [hereC] at h
 | .cell _ _ :: _, [], _, _, h => by simp [hereC] at h
 | s :: ss, g :: gs, k, j, h => by
  have tail : hereC k0 i ss gs (k + 1) = some j → k ≤ j ∧ ∃ e cols, (g :: gs)[j - k]? = some (.new e cols) := by
   intro h
   obtain ⟨h1, e, cols, h2⟩ := hereC_spec h
   refine ⟨by omega, e, cols, ?_⟩
   rw [show j - k = (j - (k + 1)) + 1 by omega]
   simpa using h2
  cases s with
  | tmp i' => cases g <;> exact tail h
  | cell k1 j1 =>
   cases g with
   | old id => exact tail h
   | new e cols =>
    simp only [hereC] at h
    split at h
    ·cases h
     exact ⟨Nat.le_refl _, e, cols, by simp⟩
    ·exact tail h
theorem hS_of : ∀ b, c.S b → (cxOf w0 H c gots).S b := fun _ h => .inl h
theorem frozen_of (hh : HeapOK w0 H c) {id : Nat} (hid : id ∉ oldIds gots) : ∀ q, Live H c id q → stOf w0 H c gots q.b := by
 intro q hq
 obtain ⟨h1, h2, _⟩ := hh.out id q hq
 exact .inr ⟨h1, h2, fun id' hid' p hp => hh.apart id' id p q hp hq (by rintro rfl; exact hid hid')⟩
theorem mapAll_rel {f : AV → Option AV} {c' : Cx} (hf : ∀ x y v, f x = some y → Rel c x v → Rel c' y v) : ∀ {xs ys : List AV} {vs : List Value}, mapAll f xs = some ys → RelL c xs vs → RelL c' ys vs
 | [], ys, vs, h, hr => by
  simp only [mapAll, Option.some.injEq] at h
  subst h
  cases vs with
  | nil => trivial
  | cons v vs => exact hr.elim
 | x :: xs, ys, [], h, hr => hr.elim
 | x :: xs, ys, v :: vs, h, hr => by
  simp only [mapAll] at h
  split at h
  ·rename_i y ys' h1 h2
   cases h
   exact ⟨hf _ _ _ h1 hr.1, mapAll_rel hf h2 hr.2⟩
  ·cases h
theorem stay_rel {c' : Cx} (hw : c'.w = c.w) (hS : ∀ b, c.S b → c'.S b) : ∀ {xs : List AV} {vs : List Value}, xs.all stayLeaf = true → RelL c xs vs → RelL c' xs vs
 | [], vs, _, hr => by
  cases vs with
  | nil => trivial
  | cons v vs => exact hr.elim
 | x :: xs, [], _, hr => hr.elim
 | x :: xs, v :: vs, hx, hr => by
  simp only [List.all_cons, Bool.and_eq_true] at hx
  refine ⟨?_, stay_rel hw hS hx.2 hr.2⟩
  have h1 := hr.1
  have h2 := hx.1
  cases x <;> simp only [stayLeaf, reduceCtorEq] at h2
  case int k n => exact h1
  case bool b => exact h1
  case val u => exact h1
  case sl n cols =>
   simp only [Rel] at h1 ⊢
   obtain ⟨base, cap, e1, e2, e3⟩ := h1
   refine ⟨base, cap, e1, e2, ?_⟩
   have := e3.grow (π1 := c'.π) (S1 := c'.S) hS
   rw [← hw] at this
   exact this
  case mapv ks cols one =>
   simp only [Rel] at h1 ⊢
   obtain ⟨b, es, clk, e1, e2, e3⟩ := h1
   exact ⟨b, es, clk, e1, hS _ e2, by rw [hw]; exact e3⟩
theorem convLeaf_rel (hh : HeapOK w0 H c) {here : Option Nat} (hhere : ∀ k, here = some k → ∃ e cols, gots[k]? = some (.new e cols)) {x y : AV} {v : Value} (hx : convLeaf gots H here x = some y) (hr : Rel c x v) : Rel (cxOf w0 H c gots) y v := by
 cases x <;> simp only [convLeaf, reduceCtorEq] at hx
 case top => cases hx; trivial
 case int k n => cases hx; exact hr
 case bool b => cases hx; exact hr
 case val u => cases hx; exact hr
 case sl n cols => cases hx; exact freeze_rel hh (x := .sl n cols) rfl hr hS_of (by simp)
 case emp e cols =>
  split at hx
  ·rename_i k
   cases hx
   simp only [Rel] at hr ⊢
   obtain ⟨_, a, rfl⟩ := hr
   obtain ⟨e', cols', hk⟩ := hhere k rfl
   exact ⟨⟨0, cols'.length, 0, 0⟩, a, by simp [cxOf, piOf, hk], rfl, fun h => absurd rfl h⟩
  ·cases hx
   exact freeze_rel hh (x := .emp e cols) rfl hr hS_of (by simp)
 case full id =>
  split at hx
  ·rename_i k hk
   cases hx
   obtain ⟨_, hk⟩ := posOf_spec hk
   simp only [Rel] at hr ⊢
   obtain ⟨p, a, hp, h1, h2⟩ := hr
   exact ⟨p, a, by simp only [cxOf, piOf]; rw [show k - 0 = k by omega] at hk; rw [hk]; exact hp, h1, h2⟩
  ·rename_i hk
   have hnot := posOf_none hk
   split at hx
   ·rename_i e n cols hid
    cases hx
    exact freeze_rel hh (x := .full id) (rd := [id]) (by simp [sliceOf, hid]) hr hS_of (fun id' hid' q hq => by
     simp only [List.mem_singleton] at hid'
     subst hid'
     exact frozen_of hh hnot q hq)
   ·cases hx
 case osl id off n =>
  split at hx
  ·rename_i k hk
   cases hx
   obtain ⟨_, hk⟩ := posOf_spec hk
   simp only [Rel] at hr ⊢
   obtain ⟨p, a, hp, h1⟩ := hr
   exact ⟨p, a, by simp only [cxOf, piOf]; rw [show k - 0 = k by omega] at hk; rw [hk]; exact hp, h1⟩
  ·rename_i hk
   have hnot := posOf_none hk
   split at hx
   ·rename_i e n' cols hid
    cases hx
    exact freeze_rel hh (x := .osl id off n) (rd := [id]) (by simp [sliceOf, hid]) hr hS_of (fun id' hid' q hq => by
     simp only [List.mem_singleton] at hid'
     subst hid'
     exact frozen_of hh hnot q hq)
   ·cases hx
 case ptr id idx off =>
  split at hx
  ·rename_i k hk
   cases hx
   obtain ⟨_, hk⟩ := posOf_spec hk
   simp only [Rel] at hr ⊢
   obtain ⟨p, hp, h1⟩ := hr
   exact ⟨p, by simp only [cxOf, piOf]; rw [show k - 0 = k by omega] at hk; rw [hk]; exact hp, h1⟩
  ·cases hx
 case mp id =>
  split at hx
  ·rename_i k hk
   cases hx
   obtain ⟨_, hk⟩ := posOf_spec hk
   simp only [Rel] at hr ⊢
   obtain ⟨p, hp, h1⟩ := hr
   exact ⟨p, by simp only [cxOf, piOf]; rw [show k - 0 = k by omega] at hk; rw [hk]; exact hp, h1⟩
  ·cases hx
 case it id =>
  split at hx
  ·rename_i k hk
   cases hx
   obtain ⟨_, hk⟩ := posOf_spec hk
   simp only [Rel] at hr ⊢
   obtain ⟨p, hp, h1⟩ := hr
   exact ⟨p, by simp only [cxOf, piOf]; rw [show k - 0 = k by omega] at hk; rw [hk]; exact hp, h1⟩
  ·cases hx
 case mapv ks cols one =>
  cases hx
  simp only [Rel] at hr ⊢
  obtain ⟨b, es, clk, h1, h2, h3⟩ := hr
  exact ⟨b, es, clk, h1, hS_of _ h2, h3⟩
 case ip cs =>
  split at hx
  ·rename_i hs
   cases hx
   simp only [Rel] at hr ⊢
   obtain ⟨a, us, h1, h2, h3, h4, h5⟩ := hr
   exact ⟨a, us, h1, h2, .inl h3, stay_rel (c := c) (c' := cxOf w0 H c gots) rfl hS_of hs h4, h5⟩
  ·cases hx
 case fn f xs ys =>
  simp only [Rel] at hr
  obtain ⟨as, bs, h1, h2, h3⟩ := hr
  cases xs with
  | cons x xs => simp at hx
  | nil =>
   have hA : RelL (cxOf w0 H c gots) [] as.toList := by
    cases hl : as.toList with
    | nil => trivial
    | cons _ _ => rw [hl] at h2; exact h2.elim
   cases ys with
   | nil =>
    simp only [Option.some.injEq] at hx
    subst hx
    simp only [Rel]
    refine ⟨as, bs, h1, hA, ?_⟩
    cases hl : bs.toList with
    | nil => trivial
    | cons _ _ => rw [hl] at h3; exact h3.elim
   | cons y ys =>
    cases ys with
    | cons z ys => cases y <;> simp at hx
    | nil =>
     cases y with
     | ptr id idx off =>
      simp only at hx
      split at hx
      ·rename_i k hk
       cases hx
       obtain ⟨_, hk⟩ := posOf_spec hk
       simp only [Rel]
       refine ⟨as, bs, h1, hA, ?_⟩
       cases hl : bs.toList with
       | nil => rw [hl] at h3; exact h3.elim
       | cons b bs' =>
        rw [hl] at h3
        simp only [RelL, Rel] at h3 ⊢
        obtain ⟨⟨p, hp, h1⟩, h4⟩ := h3
        refine ⟨⟨p, by simp only [cxOf, piOf]; rw [show k - 0 = k by omega] at hk; rw [hk]; exact hp, h1⟩, ?_⟩
        cases bs' with
        | nil => trivial
        | cons _ _ => exact h4.elim
      ·cases hx
     | _ => simp at hx
theorem none_here : ∀ k, (none : Option Nat) = some k → ∃ e cols, gots[k]? = some (.new e cols) := fun _ h => by cases h
theorem convVal_rel (hh : HeapOK w0 H c) {here : Option Nat} (hhere : ∀ k, here = some k → ∃ e cols, gots[k]? = some (.new e cols)) {x y : AV} {v : Value} (hx : convVal gots H here x = some y) (hr : Rel c x v) : Rel (cxOf w0 H c gots) y v := by
 unfold convVal at hx
 split at hx
 ·rename_i cs
  split at hx
  ·rename_i ds hm
   cases hx
   simp only [Rel] at hr ⊢
   obtain ⟨vs, h1, h2⟩ := hr
   exact ⟨vs, h1, mapAll_rel (fun x y v h1 h2 => convLeaf_rel hh none_here h1 h2) hm h2⟩
  ·cases hx
 ·rename_i f xs ys
  split at hx
  ·rename_i as bs hm1 hm2
   cases hx
   simp only [Rel] at hr ⊢
   obtain ⟨us, vs, h1, h2, h3⟩ := hr
   exact ⟨us, vs, h1, mapAll_rel (fun x y v h1 h2 => convLeaf_rel hh none_here h1 h2) hm1 h2, mapAll_rel (fun x y v h1 h2 => convLeaf_rel hh none_here h1 h2) hm2 h3⟩
  ·cases hx
 ·rename_i t x
  split at hx
  ·rename_i z hz
   cases hx
   simp only [Rel] at hr ⊢
   obtain ⟨u, h1, h2⟩ := hr
   exact ⟨u, h1, convLeaf_rel hh none_here hz h2⟩
  ·cases hx
 ·exact convLeaf_rel hh hhere hx hr
theorem convCells_rel (hh : HeapOK w0 H c) {srcs : List Src} {k : Nat} : ∀ {xs ys : List AV} {vs : List Value} {j : Nat}, convCells srcs gots H k j xs = some ys → RelL c xs vs → RelL (cxOf w0 H c gots) ys vs
 | [], ys, vs, _, h, hr => by
  simp only [convCells, Option.some.injEq] at h
  subst h
  cases vs with
  | nil => trivial
  | cons v vs => exact hr.elim
 | x :: xs, ys, [], _, h, hr => hr.elim
 | x :: xs, ys, v :: vs, j, h, hr => by
  simp only [convCells] at h
  split at h
  ·rename_i y ys' h1 h2
   cases h
   exact ⟨convLeaf_rel hh (fun k hk => by obtain ⟨_, e, cols, h⟩ := hereC_spec hk; exact ⟨e, cols, by simpa using h⟩) h1 hr.1, convCells_rel hh h2 hr.2⟩
  ·cases h
theorem convMap_rel (hh : HeapOK w0 H c) : ∀ {es fs : List (Int × AV)} {ms : List MapEntry}, mapAll (fun (p : Int × AV) => match convVal gots H none p.2 with
    | some y => some (p.1, y)
    | none => none) es = some fs → MapIs c es ms → MapIs (cxOf w0 H c gots) fs ms
 | [], fs, ms, h, hr => by
  simp only [mapAll, Option.some.injEq] at h
  subst h
  cases ms with
  | nil => trivial
  | cons m ms => exact hr.elim
 | (k, x) :: es, fs, [], h, hr => hr.elim
 | (k, x) :: es, fs, m :: ms, h, hr => by
  simp only [mapAll] at h
  split at h
  ·rename_i y ys' h1 h2
   cases h
   split at h1
   ·rename_i z hz
    cases h1
    exact ⟨hr.1, convVal_rel hh none_here hz hr.2.1, convMap_rel hh h2 hr.2.2⟩
   ·cases h1
  ·cases h
theorem convObj_at (hh : HeapOK w0 H c) {srcs : List Src} {k : Nat} {g : Got} {o : AObj} (hg : gots[k]? = some g) (hnew : ∀ e cols, g = .new e cols → 0 < cols.length ∧ ∀ col ∈ cols, col.len = 0) (h : convObj srcs gots H k g = some o) :
  ∃ p, piOf c gots k = some p ∧ ObjAt (cxOf w0 H c gots) o p ∧ (Mem o p → ∃ id, g = .old id ∧ Live H c id p) := by
 cases g with
 | new e cols =>
  obtain ⟨h1, h2⟩ := hnew e cols rfl
  simp only [convObj, Option.some.injEq] at h
  subst h
  exact ⟨⟨0, cols.length, 0, 0⟩, by simp [piOf, hg], ⟨rfl, rfl, Nat.le_refl _, h1, h2, fun hc => absurd rfl hc⟩, fun hm => absurd rfl hm⟩
 | old id =>
  simp only [convObj] at h
  split at h
  ·rename_i e n cols hid
   cases h
   obtain ⟨p, hp, q1, q2, q3, q4, q5, q6⟩ := hh.obj id _ hid
   refine ⟨p, by simp [piOf, hg, hp], ⟨q1, q2, q3, q4, q5, fun hc => ?_⟩, fun hm => ⟨id, rfl, _, hid, hp, hm⟩⟩
   obtain ⟨arr, t, ha, hs, hx⟩ := q6 hc
   exact ⟨arr, t, ha, hs, fun i hi j col hj => let ⟨u, k1, k2⟩ := hx i hi j col hj; ⟨u, k1, k2.grow hS_of⟩⟩
  ·rename_i ks cols one hid
   cases h
   obtain ⟨p, hp, hob⟩ := hh.obj id _ hid
   exact ⟨p, by simp [piOf, hg, hp], hob, fun _ => ⟨id, rfl, _, hid, hp, trivial⟩⟩
  ·rename_i ks cols one left cur hid
   cases h
   obtain ⟨p, hp, b, clk, seen, es, h1, h2, h3⟩ := hh.obj id _ hid
   exact ⟨p, by simp [piOf, hg, hp], ⟨b, clk, seen, es, h1, hS_of _ h2, h3⟩, fun _ => ⟨id, rfl, _, hid, hp, trivial⟩⟩
  ·rename_i cs hid
   split at h
   ·rename_i ds hm
    cases h
    obtain ⟨p, hp, arr, t, ha, hr⟩ := hh.obj id _ hid
    exact ⟨p, by simp [piOf, hg, hp], ⟨arr, t, ha, convCells_rel hh hm hr⟩, fun _ => ⟨id, rfl, _, hid, hp, trivial⟩⟩
   ·cases h
  ·rename_i es hid
   split at h
   ·rename_i fs hm
    cases h
    obtain ⟨p, hp, arr, t, ha, hr⟩ := hh.obj id _ hid
    exact ⟨p, by simp [piOf, hg, hp], ⟨arr, t, ha, convMap_rel hh hm hr⟩, fun _ => ⟨id, rfl, _, hid, hp, trivial⟩⟩
   ·cases h
  ·cases h
theorem convObjs_get {srcs : List Src} : ∀ {gs : List Got} {k : Nat} {objs : Heap}, convObjs srcs gots H k gs = some objs → objs.length = gs.length ∧ ∀ i g, gs[i]? = some g → ∃ o, objs[i]? = some (some o) ∧ convObj srcs gots H (k + i) g = some o
 | [], _, objs, h => by
  simp only [convObjs, Option.some.injEq] at h
  subst h
  exact ⟨rfl, by simp⟩
 | g :: gs, k, objs, h => by
  simp only [convObjs] at h
  split at h
  ·rename_i o os h1 h2
   cases h
   obtain ⟨g1, g2⟩ := convObjs_get h2
   refine ⟨by simp [g1], fun i g' hi => ?_⟩
   cases i with
   | zero =>
    simp at hi
    subst hi
    exact ⟨o, rfl, h1⟩
   | succ i =>
    obtain ⟨o', k1, k2⟩ := g2 i g' (by simpa using hi)
    exact ⟨o', by simpa using k1, by rw [show k + (i + 1) = k + 1 + i by omega]; exact k2⟩
  ·cases h
theorem gotAll_mem {st : St} : ∀ {srcs : List Src} {acc gots : List Got}, gotAll st srcs acc = some gots → ∀ g ∈ gots, g ∈ acc ∨ ∃ acc' s, gotAt st acc' s = some g
 | [], acc, gots, h, g, hg => by
  simp only [gotAll, Option.some.injEq] at h
  subst h
  exact .inl hg
 | s :: ss, acc, gots, h, g, hg => by
  simp only [gotAll] at h
  split at h
  ·rename_i g' hg'
   rcases gotAll_mem h g hg with h1 | h1
   ·rcases List.mem_append.1 h1 with h2 | h2
    ·exact .inl h2
    ·simp only [List.mem_singleton] at h2
     subst h2
     exact .inr ⟨acc, s, hg'⟩
   ·exact .inr h1
  ·cases h
theorem gotAll_len {st : St} : ∀ {srcs : List Src} {acc gots : List Got}, gotAll st srcs acc = some gots → gots.length = acc.length + srcs.length
 | [], acc, gots, h => by
  simp only [gotAll, Option.some.injEq] at h
  subst h
  simp
 | s :: ss, acc, gots, h => by
  simp only [gotAll] at h
  split at h
  ·have := gotAll_len h
   simp at this
   simp
   omega
  ·cases h
theorem gotOf_new {tmps : Array Value} {x : AV} {e : TypeId} {cols : List Col} {v : Value} (h : gotOf x = some (.new e cols)) (hr : RelT c tmps x v) : 0 < cols.length ∧ ∀ col ∈ cols, col.len = 0 := by
 cases x <;> simp only [gotOf, reduceCtorEq, Option.some.injEq] at h
 case emp e' cols' =>
  cases cols' with
  | nil => simp at h
  | cons col rest =>
   simp only [Option.some.injEq, Got.new.injEq] at h
   obtain ⟨rfl, rfl⟩ := h
   exact ⟨by simp, hr.1⟩
 case ifc t y => cases y <;> simp [gotOf] at h
 case fn f xs ys =>
  split at h <;> simp_all
theorem getD_rel : ∀ {cs : List AV} {vs : List Value}, RelL c cs vs → ∀ j, ∃ v, Rel c (cs.getD j .top) v
 | cs, vs, h, j => by
  rw [List.getD_eq_getElem?_getD]
  cases hj : cs[j]? with
  | none => exact ⟨undef, trivial⟩
  | some x =>
   obtain ⟨v, _, hr⟩ := h.get hj
   exact ⟨v, hr⟩
def WFO : AObj → Prop
 | .row _ n cols => ∀ col ∈ cols, col.len = n
 | .var cs => WFL cs
 | .tmap ks cols _ => (∀ col ∈ cols, col.len = ks.length) ∧ ks.Nodup
 | .iter ks cols _ left _ => (∀ col ∈ cols, col.len = ks.length) ∧ ks.Nodup ∧ left.Nodup ∧ ∀ i ∈ left, i < ks.length
 | _ => True
def WFH (H : Heap) : Prop := ∀ o ∈ H, ∀ x, o = some x → WFO x
theorem HeapOK.wf (h : HeapOK w0 H c) : WFH H := by
 rintro o ho x rfl
 obtain ⟨i, hi⟩ := List.getElem?_of_mem ho
 obtain ⟨p, hp, hob⟩ := h.obj i x (by simp [Heap.at, hi])
 cases x with
 | row e n cols => exact hob.2.2.2.2.1
 | var cs =>
  obtain ⟨_, _, _, hr⟩ := hob
  exact hr.wf
 | tmap ks cols one =>
  obtain ⟨_, _, _, hm⟩ := hob
  exact ⟨hm.col, hm.nodup⟩
 | iter ks cols one left cur =>
  obtain ⟨_, _, _, es, _, _, hm, h4, h5, _⟩ := hob
  refine ⟨hm.col, hm.nodup, h4, fun i hi => ?_⟩
  obtain ⟨e, he, _⟩ := (h5 i).1 hi
  rw [← hm.len]
  exact (Array.getElem?_eq_some_iff.1 he).1
 | _ => trivial
theorem convTmps_get {srcs : List Src} {T : List AV} : ∀ {keep : List Nat} {vals : List AV}, convTmps srcs gots H T keep = some vals → vals.length = keep.length ∧ ∀ i v, atKeep i keep vals = v → v = .top ∨ convVal gots H (hereT i srcs gots 0) (T.getD i .top) = some v
 | [], vals, h => by
  simp only [convTmps, Option.some.injEq] at h
  subst h
  exact ⟨rfl, fun i v hv => .inl (by simpa [atKeep] using hv.symm)⟩
 | j :: js, vals, h => by
  simp only [convTmps] at h
  split at h
  ·rename_i y ys h1 h2
   cases h
   obtain ⟨g1, g2⟩ := convTmps_get h2
   refine ⟨by simp [g1], fun i v hv => ?_⟩
   simp only [atKeep] at hv
   split at hv
   ·rename_i e
    subst e hv
    exact .inr h1
   ·exact g2 i v hv
  ·cases h
theorem mkT_get {keep : List Nat} {vals : List AV} : ∀ {n i k : Nat}, (mkT keep vals n i)[k]? = if k < n then some (atKeep (i + k) keep vals) else none
 | 0, i, k => by simp [mkT]
 | n + 1, i, 0 => by simp [mkT]
 | n + 1, i, k + 1 => by
  simp only [mkT, List.getElem?_cons_succ]
  rw [mkT_get]
  simp only [Nat.add_lt_add_iff_right]
  rw [show i + 1 + k = i + (k + 1) by omega]
theorem mkT_len {keep : List Nat} {vals : List AV} : ∀ {n i : Nat}, (mkT keep vals n i).length = n
 | 0, _ => rfl
 | n + 1, i => by simp [mkT, mkT_len]
theorem RelT.plain {tmps : Array Value} {x : AV} {v : Value} (h : RelT c tmps x v) (hx : ∀ j b y, x ≠ .cond j b y) : Rel c x v := by
 cases x with
 | cond j b y => exact absurd rfl (hx j b y)
 | _ => exact h
theorem wfl_of : ∀ {vals : List AV}, (∀ v ∈ vals, WF v) → WFL vals
 | [], _ => trivial
 | v :: vs, h => ⟨h v (by simp), wfl_of fun x hx => h x (by simp [hx])⟩
theorem convTmps_mem {srcs : List Src} {T : List AV} : ∀ {keep : List Nat} {vals : List AV}, convTmps srcs gots H T keep = some vals → ∀ v ∈ vals, ∃ i, convVal gots H (hereT i srcs gots 0) (T.getD i .top) = some v
 | [], vals, h, v, hv => by
  simp only [convTmps, Option.some.injEq] at h
  subst h
  cases hv
 | j :: js, vals, h, v, hv => by
  simp only [convTmps] at h
  split at h
  ·rename_i y ys h1 h2
   cases h
   rcases List.mem_cons.1 hv with rfl | hv
   ·exact ⟨j, h1⟩
   ·exact convTmps_mem h2 v hv
  ·cases h
theorem tidy_sound2 {n : Nat} {keep : List Nat} {srcs : List Src} {st : St} {vals : List AV} {objs : Heap} {a : Act} (h : StOK w0 st c a) (ht : tidy n keep srcs st = some (vals, objs)) :
  ∃ gots, gotAll st srcs [] = some gots ∧ StOK w0 ⟨mkT keep vals n 0, objs⟩ (cxOf w0 st.H c gots) a ∧ vals.length = keep.length ∧ objs.length = srcs.length ∧ WFL vals ∧ WFH objs := by
 unfold tidy at ht
 split at ht
 ·rename_i hn
  split at ht
  ·rename_i gots hg
   split at ht
   ·rename_i hnd
    split at ht
    ·rename_i vals' objs' h1 h2
     cases ht
     obtain ⟨hl1, hv⟩ := convTmps_get h1
     obtain ⟨hl2, ho⟩ := convObjs_get h2
     have hnew : ∀ g ∈ gots, ∀ e cols, g = .new e cols → 0 < cols.length ∧ ∀ col ∈ cols, col.len = 0 := by
      rintro g hgm e cols rfl
      rcases gotAll_mem hg _ hgm with h3 | ⟨acc, s, h3⟩
      ·cases h3
      ·cases s with
       | tmp i => exact gotOf_new h3 (h.tok.get i)
       | cell k j =>
        simp only [gotAt] at h3
        split at h3
        ·rename_i id hk
         split at h3
         ·rename_i cs hid
          obtain ⟨p, hp, arr, t, ha, hr⟩ := h.heap.obj id _ hid
          obtain ⟨v, hv⟩ := getD_rel hr j
          exact gotOf_new (tmps := #[]) h3 (relT_of_rel hv)
         ·cases h3
        ·cases h3
     have hat : ∀ k o, Heap.at objs k = some o → ∃ g, gots[k]? = some g ∧ convObj srcs gots st.H k g = some o := by
      intro k o hk
      unfold Heap.at at hk
      split at hk
      ·rename_i o' hko
       cases hk
       have hlt : k < gots.length := by rw [← hl2]; exact (List.getElem?_eq_some_iff.1 hko).1
       obtain ⟨o'', k1, k2⟩ := ho k _ (List.getElem?_eq_getElem hlt)
       rw [hko] at k1
       cases k1
       exact ⟨_, List.getElem?_eq_getElem hlt, by simpa using k2⟩
      ·cases hk
     have hob : ∀ k o, Heap.at objs k = some o → ∃ g p, gots[k]? = some g ∧ piOf c gots k = some p ∧ ObjAt (cxOf w0 st.H c gots) o p ∧ (Mem o p → ∃ id, g = .old id ∧ Live st.H c id p) := by
      intro k o hk
      obtain ⟨g, hgk, hc⟩ := hat k o hk
      obtain ⟨p, k1, k2, k3⟩ := convObj_at h.heap hgk (hnew g (List.mem_of_getElem? hgk)) hc
      exact ⟨g, p, hgk, k1, k2, k3⟩
     have hlive : ∀ k p, Live objs (cxOf w0 st.H c gots) k p → ∃ id, gots[k]? = some (.old id) ∧ Live st.H c id p := by
      rintro k p ⟨o, ho, hp, hm⟩
      obtain ⟨g, p', k1, k2, k3, k4⟩ := hob k o ho
      have : some p = some p' := hp.symm.trans k2
      cases this
      obtain ⟨id, rfl, hl⟩ := k4 hm
      exact ⟨id, k1, hl⟩
     have hH : HeapOK w0 objs (cxOf w0 st.H c gots) := by
      refine ⟨?_, ?_, ?_, ?_, ?_, h.heap.kept, h.heap.grown, ?_⟩
      ·intro k o hk
       obtain ⟨g, p, k1, k2, k3, k4⟩ := hob k o hk
       exact ⟨p, k2, k3⟩
      ·intro k k' p p' hk hk' hne
       obtain ⟨id, g1, g2⟩ := hlive k p hk
       obtain ⟨id', g3, g4⟩ := hlive k' p' hk'
       refine h.heap.apart id id' p p' g2 g4 ?_
       rintro rfl
       exact hne (oldIds_inj hnd g1 g3)
      ·intro k p hk
       obtain ⟨id, g1, g2⟩ := hlive k p hk
       obtain ⟨k1, k2, k3⟩ := h.heap.out id p g2
       refine ⟨k1, k2, ?_⟩
       rintro (hs | ⟨_, _, hs⟩)
       ·exact k3 hs
       ·exact hs id (mem_oldIds g1) p g2 rfl
      ·intro k hk
       show piOf c gots k = none
       have : gots[k]? = none := by
        rcases Nat.lt_or_ge k gots.length with hlt | hge
        ·obtain ⟨o, k1, _⟩ := ho k _ (List.getElem?_eq_getElem hlt)
         simp [Heap.at, k1] at hk
        ·exact List.getElem?_eq_none hge
       simp [piOf, this]
      ·rintro b (hs | ⟨_, hs, _⟩)
       ·exact h.heap.stable b hs
       ·exact hs
      ·rintro b (hs | ⟨hs, _, _⟩)
       ·exact h.heap.born b hs
       ·exact .inr hs
     have hval : ∀ i v, atKeep i keep vals = v → Rel (cxOf w0 st.H c gots) v (a.tmps.getD i undef) := by
      intro i v hv'
      rcases hv i v hv' with rfl | hc
      ·trivial
      ·have hnc : ∀ j b y, st.T.getD i .top ≠ .cond j b y := by
        intro j b y e
        rw [e] at hc
        simp [convVal, convLeaf] at hc
       exact convVal_rel h.heap (fun k hk => by obtain ⟨_, e, cols, h⟩ := hereT_spec hk; exact ⟨e, cols, by simpa using h⟩) hc ((h.tok.get i).plain hnc)
     refine ⟨gots, hg, ⟨hH, ⟨by rw [mkT_len, ← hn]; exact h.tok.1, fun i x hx => ?_⟩, h.plain⟩, hl1, ?_, ?_, hH.wf⟩
     ·rw [mkT_get] at hx
      split at hx
      ·rename_i hlt
       rw [Nat.zero_add] at hx
       cases hx
       have hlt' : i < a.tmps.size := by rw [← h.tok.1, hn]; exact hlt
       refine ⟨a.tmps[i], Array.getElem?_eq_getElem hlt', relT_of_rel ?_⟩
       have := hval i _ rfl
       rw [Array.getD_eq_getD_getElem?, Array.getElem?_eq_getElem hlt'] at this
       exact this
      ·cases hx
     ·rw [hl2, gotAll_len hg]; simp
     ·refine wfl_of fun v hv' => ?_
      obtain ⟨i, hc⟩ := convTmps_mem h1 v hv'
      have hnc : ∀ j b y, st.T.getD i .top ≠ .cond j b y := by
       intro j b y e
       rw [e] at hc
       simp [convVal, convLeaf] at hc
      exact (convVal_rel h.heap (fun k hk => by obtain ⟨_, e, cols, h⟩ := hereT_spec hk; exact ⟨e, cols, by simpa using h⟩) hc ((h.tok.get i).plain hnc)).wf
    ·cases ht
   ·cases ht
  ·cases ht
 ·cases ht
theorem tidy_sound {n : Nat} {keep : List Nat} {srcs : List Src} {st : St} {vals : List AV} {objs : Heap} {a : Act} (h : StOK w0 st c a) (ht : tidy n keep srcs st = some (vals, objs)) :
  ∃ c', StOK w0 ⟨mkT keep vals n 0, objs⟩ c' a ∧ c.leF 0 c' ∧ c'.w = c.w ∧ vals.length = keep.length ∧ objs.length = srcs.length ∧ WFL vals ∧ WFH objs := by
 obtain ⟨gots, _, h1, h2⟩ := tidy_sound2 h ht
 exact ⟨cxOf w0 st.H c gots, h1, ⟨fun id hid => absurd hid (Nat.not_lt_zero _), hS_of, fun _ _ => rfl, Nat.le_refl _, rfl, rfl, rfl⟩, rfl, h2⟩
end
end Go.Own
end
section
namespace Go.Own
open Go
section
variable {P : Program} {w0 : Base} {S : FuncId → Option Summ} {callf : CallF}
theorem LoopSpec.ok (hm : P.follows .mixedOrders = true) (hS : ∀ k s, S k = some s → SummOK P k s) (hL : ∀ k s, S k = some s → SummLocal s) (hc : CallfOK P callf) {L : Nat → Option LoopS} {body : Code} {i : Nat} (hl : LoopsOK P 0 L body i) (s : LoopSpec) (μ : List AV → Heap → Nat)
  (h : ∀ vals objs Q, vals.length = s.keep.length → objs.length = s.srcs.length → WFL vals → WFH objs → s.goes vals objs Q → runCode P S callf L body i ⟨mkT s.keep vals s.n 0, objs⟩ (s.ends μ vals objs Q)) : LoopOK P body s.summ := by
 intro w0 st Q hs c0 a QQ hst hQ
 unfold LoopSpec.summ at hs
 split at hs
 ·rename_i vals objs ht
  obtain ⟨c1, h1, h2, h3, h4, h5, h6, h7⟩ := tidy_sound hst ht
  have key : ∀ (m : Nat) (vals : List AV) (objs : Heap) (c1 : Cx) (a : Act), μ vals objs < m → vals.length = s.keep.length → objs.length = s.srcs.length → WFL vals → WFH objs →
    s.goes vals objs (fun e vs os => Q e ⟨mkT s.keepE vs s.n 0, os⟩) → StOK w0 ⟨mkT s.keep vals s.n 0, objs⟩ c1 a → c0.leF 0 c1 → Code.rounds P body QQ m a c1.w := by
   intro m
   induction m with
   | zero => intro vals objs c1 a hμ; exact absurd hμ (Nat.not_lt_zero _)
   | succ m ih =>
    intro vals objs c1 a hμ k1 k2 k3 k4 k5 k6 k7
    rw [rounds_succ]
    refine runCode_sound hm hS hL hc body i _ _ hl (h vals objs _ k1 k2 k3 k4 k5) c1 a _ k6 ?_
    intro e st' c' a' g1 g2 g3
    cases e with
    | normal =>
     simp only [LoopSpec.ends] at g3
     split at g3
     ·rename_i vs os ht'
      obtain ⟨c2, f1, f2, f3, f4, f5, f6, f7⟩ := tidy_sound g1 ht'
      show Code.rounds P body QQ m a' c'.w
      rw [← f3]
      exact ih vs os c2 a' (by omega) f4 f5 f6 f7 g3.2 f1 ((k7.trans g2).trans f2)
     ·exact g3.elim
    | exit id =>
     simp only [LoopSpec.ends] at g3
     split at g3
     ·rename_i vs os ht'
      obtain ⟨c2, f1, f2, f3, _⟩ := tidy_sound g1 ht'
      have := hQ (.exit id) _ c2 a' f1 ((k7.trans g2).trans f2) g3
      rw [f3] at this
      exact exOf_then id _ _ this
     ·exact g3.elim
    | ret =>
     simp only [LoopSpec.ends] at g3
     split at g3
     ·rename_i vs os ht'
      obtain ⟨c2, f1, f2, f3, _⟩ := tidy_sound g1 ht'
      have := hQ .ret _ c2 a' f1 ((k7.trans g2).trans f2) g3
      rw [f3] at this
      exact this
     ·exact g3.elim
  refine wp_loop_rounds (μ vals objs + 1) ?_
  rw [← h3]
  exact key _ vals objs c1 a (Nat.lt_succ_self _) h4 h5 h6 h7 hs h1 h2
 ·exact hs.elim
theorem bodyOf_eq {f : FuncId} {i : Nat} (h : onlyLoop P f i = true) {fn : Func} {c : Code} (hf : P.funcs[f]? = some fn) (hb : fn.body = some c) : ∀ p ∈ loopsOf c 1000, p.1 = i → p.2 = bodyOf P f i := by
 intro p hp hi
 simp only [onlyLoop, hf, hb, beq_iff_eq] at h
 simp only [bodyOf, hf, hb]
 have hmem : p ∈ (loopsOf c 1000).filter (fun p => p.1 == i) := List.mem_filter.2 ⟨hp, by simp [hi]⟩
 cases hq : (loopsOf c 1000).find? (fun p => p.1 == i) with
 | none => exact absurd (List.find?_eq_none.1 hq p hp) (by simp [hi])
 | some q =>
  have hq' : q ∈ (loopsOf c 1000).filter (fun p => p.1 == i) := List.mem_filter.2 ⟨List.mem_of_find?_eq_some hq, by have := List.find?_some hq; exact this⟩
  cases hl : (loopsOf c 1000).filter (fun p => p.1 == i) with
  | nil => rw [hl] at h; simp at h
  | cons x xs =>
   rw [hl] at h hmem hq'
   simp at h
   subst h
   simp at hmem hq'
   rw [hmem, hq']
def LoopHyp (P : Program) (k : FuncId) (i : Nat) : LoopS → Prop
 | .unroll _ => True
 | .summ s => onlyLoop P k i = true ∧ LoopOK P (bodyOf P k i) s
 | .frame s => onlyLoop P k i = true ∧ LoopFr P (bodyOf P k i) s
theorem loops_one {k : FuncId} {L : Nat → Option LoopS} (hl : ∀ i x, L i = some x → LoopHyp P k i x) : ∀ f fn c, P.funcs[f]? = some fn → fn.body = some c → ∀ p ∈ loopsOf c 1000, ∀ x, oneL k L f p.1 = some x → LoopIs P p.2 x := by
 intro f fn c hf hb p hp x hx
 unfold oneL at hx
 split at hx
 ·rename_i e
  have e : f = k := by simpa using e
  subst e
  have h := hl _ x hx
  cases x with
  | unroll _ => trivial
  | summ s =>
   obtain ⟨h1, h2⟩ := h
   rw [bodyOf_eq h1 hf hb p hp rfl]
   exact h2
  | frame s =>
   obtain ⟨h1, h2⟩ := h
   rw [bodyOf_eq h1 hf hb p hp rfl]
   exact h2
 ·cases hx
theorem pure_loops (hm : P.follows .mixedOrders = true) (hS : ∀ k s, S k = some s → SummOK P k s) (hL : ∀ k s, S k = some s → SummLocal s) {k : FuncId} {F : Pure1} (own : Bool) (q : FuncId) (L : Nat → Option LoopS) (he : entersB P k = true)
  (hl : ∀ i x, L i = some x → LoopHyp P q i x)
  (hv : ∀ as b r, F as = some (b, r) → b ≠ some false → WFL as → VC P S (oneL q L) own k as r) : PureOK P k F :=
 pure_of hm hS hL (L := oneL q L) (loops_one hl) own he hv
theorem pure_plain (hm : P.follows .mixedOrders = true) (hS : ∀ k s, S k = some s → SummOK P k s) (hL : ∀ k s, S k = some s → SummLocal s) {k : FuncId} {F : Pure1} (own : Bool) (he : entersB P k = true)
  (hv : ∀ as b r, F as = some (b, r) → b ≠ some false → WFL as → VC P S noL own k as r) : PureOK P k F :=
 pure_of hm hS hL (L := noL) (fun _ _ _ _ _ _ _ _ h => by cases h) own he hv
theorem tabS_ok : ∀ {l : List (FuncId × Pure1)}, (∀ p ∈ l, PureOK P p.1 p.2) → ∀ k s, tabS l k = some s → SummOK P k s
 | [], _, _, _, h => by cases h
 | (i, F) :: l, hl, k, s, h => by
  unfold tabS at h
  split at h
  ·rename_i e
   have e : i = k := by simpa using e
   subst e
   cases h
   exact pureSumm_ok (hl (i, F) (by simp))
  ·exact tabS_ok (fun p hp => hl p (by simp [hp])) k s h
theorem tabS_local : ∀ {l : List (FuncId × Pure1)}, ∀ k s, tabS l k = some s → SummLocal s
 | [], _, _, h => by cases h
 | (i, F) :: l, k, s, h => by
  unfold tabS at h
  split at h
  ·cases h
   exact pureSumm_local F
  ·exact tabS_local k s h
theorem tab_callf (hm : P.follows .mixedOrders = true) {l : List (FuncId × Pure1)} (hl : ∀ p ∈ l, PureOK P p.1 p.2) (n : Nat) : CallfOK P (callN P (tabS l) noL n) :=
 callN_sound hm (tabS_ok hl) tabS_local (L := noL) (fun _ _ _ _ _ _ _ _ h => by cases h) n
theorem tab_plain (hm : P.follows .mixedOrders = true) {l : List (FuncId × Pure1)} (hl : ∀ p ∈ l, PureOK P p.1 p.2) {k : FuncId} {F : Pure1} (own : Bool) (he : entersB P k = true)
  (hv : ∀ as b r, F as = some (b, r) → b ≠ some false → WFL as → VC P (tabS l) noL own k as r) : PureOK P k F :=
 pure_plain hm (tabS_ok hl) tabS_local own he hv
theorem tab_loops (hm : P.follows .mixedOrders = true) {l : List (FuncId × Pure1)} (hl : ∀ p ∈ l, PureOK P p.1 p.2) {k : FuncId} {F : Pure1} (own : Bool) (L : Nat → Option LoopS) (he : entersB P k = true)
  (hlo : ∀ i x, L i = some x → LoopHyp P k i x)
  (hv : ∀ as b r, F as = some (b, r) → b ≠ some false → WFL as → VC P (tabS l) (oneL k L) own k as r) : PureOK P k F :=
 pure_loops hm (tabS_ok hl) tabS_local own k L he hlo hv
theorem tab_loopsAt (hm : P.follows .mixedOrders = true) {l : List (FuncId × Pure1)} (hl : ∀ p ∈ l, PureOK P p.1 p.2) {k : FuncId} {F : Pure1} (own : Bool) (q : FuncId) (L : Nat → Option LoopS) (he : entersB P k = true)
  (hlo : ∀ i x, L i = some x → LoopHyp P q i x)
  (hv : ∀ as b r, F as = some (b, r) → b ≠ some false → WFL as → VC P (tabS l) (oneL q L) own k as r) : PureOK P k F :=
 pure_loops hm (tabS_ok hl) tabS_local own q L he hlo hv
theorem tab_loop (hm : P.follows .mixedOrders = true) {l : List (FuncId × Pure1)} (hl : ∀ p ∈ l, PureOK P p.1 p.2) {body : Code} {i : Nat} (s : LoopSpec) (μ : List AV → Heap → Nat)
  (h : ∀ vals objs Q, vals.length = s.keep.length → objs.length = s.srcs.length → WFL vals → WFH objs → s.goes vals objs Q → runCode P (tabS l) (callN P (tabS l) noL 11) (fun _ => none) body i ⟨mkT s.keep vals s.n 0, objs⟩ (s.ends μ vals objs Q)) : LoopOK P body s.summ :=
 LoopSpec.ok hm (tabS_ok hl) tabS_local (tab_callf hm hl 11) (fun _ _ _ h => by cases h) s μ h
end
end Go.Own
end
section
namespace Go.Own
open Go
section
variable {a b : Int} {m n : Nat} {p q c : Bool}
theorem ieq_t : (ieq a b = true) = (a = b) := by simp [ieq]
theorem ieq_f : (ieq a b = false) = (a ≠ b) := by simp [ieq]
theorem ine_t : (ine a b = true) = (a ≠ b) := by simp [ine]
theorem ine_f : (ine a b = false) = (a = b) := by simp [ine]
theorem ilt_t : (ilt a b = true) = (a < b) := by simp [ilt]
theorem ilt_f : (ilt a b = false) = (b ≤ a) := by simp [ilt]
theorem ile_t : (ile a b = true) = (a ≤ b) := by simp [ile]
theorem ile_f : (ile a b = false) = (b < a) := by simp [ile]
theorem igt_t : (igt a b = true) = (b < a) := by simp [igt]
theorem igt_f : (igt a b = false) = (a ≤ b) := by simp [igt]
theorem ige_t : (ige a b = true) = (b ≤ a) := by simp [ige]
theorem ige_f : (ige a b = false) = (a < b) := by simp [ige]
theorem nlt_t : (nlt m n = true) = (m < n) := by simp [nlt]
theorem nlt_f : (nlt m n = false) = (n ≤ m) := by simp [nlt]
theorem nle_t : (nle m n = true) = (m ≤ n) := by simp [nle]
theorem nle_f : (nle m n = false) = (n < m) := by simp [nle]
theorem neq_t : (neq m n = true) = (m = n) := by simp [neq]
theorem neq_f : (neq m n = false) = (m ≠ n) := by simp [neq]
theorem beq2_t : (beq2 p q = true) = (p = q) := by simp [beq2]
theorem beq2_f : (beq2 p q = false) = (p ≠ q) := by simp [beq2]
theorem bnot_t : (bnot p = true) = (p = false) := by simp [bnot]
theorem bnot_f : (bnot p = false) = (p = true) := by simp [bnot]
theorem band_t : (band p q = true) = (p = true ∧ q = true) := by simp [band]
theorem band_f : (band p q = false) = (p = true → q = false) := by cases p <;> simp [band]
theorem bite_t : (bite c p q = true) = ((c = true → p = true) ∧ (c = false → q = true)) := by cases c <;> simp [bite]
theorem bite_f : (bite c p q = false) = ((c = true → p = false) ∧ (c = false → q = false)) := by cases c <;> simp [bite]
theorem bimp_t : (bimp c p = true) = (c = true → p = true) := by cases c <;> simp [bimp]
theorem bimp_f : (bimp c p = false) = (c = true ∧ p = false) := by cases c <;> simp [bimp]
theorem iadd_e {k : IntKind} : iadd k a b = k.wrap (a + b) := rfl
theorem isub_e {k : IntKind} : isub k a b = k.wrap (a - b) := rfl
theorem imul_e {k : IntKind} : imul k a b = k.wrap (a * b) := rfl
theorem ofN_e : ofN n = (n : Int) := rfl
theorem nOf_e : nOf a = a.toNat := rfl
theorem nOf_n : nOf (n : Int) = n := rfl
theorem nAdd_e : nAdd m n = m + n := rfl
theorem nDiff_e : nDiff a b = (a - b).toNat := rfl
theorem room_e : room = 1073741824 := rfl
theorem lenI_e {l : List Int} : lenI l = l.length := rfl
theorem gI_e {l : List Int} {i : Nat} : gI l i = l[i]?.getD 0 := List.getD_eq_getElem?_getD ..
theorem gB_e {l : List Bool} {i : Nat} : gB l i = l[i]?.getD false := List.getD_eq_getElem?_getD ..
theorem imin_e : imin a b = min a b := by unfold imin; split <;> omega
theorem imax_e : imax a b = max a b := by unfold imax; split <;> omega
theorem cat_e {α : Type} {l k : List α} : cat l k = l ++ k := rfl
theorem pt_e {α : Type} {l : List α} : pt l m n = (l.drop m).take n := rfl
theorem put_e {α : Type} {l : List α} {x : α} : put l m x = l.set m x := rfl
theorem wr (h : -2 ^ 62 ≤ a) (h' : a ≤ 2 ^ 62) : IntKind.i64.wrap a = a := IntWalk.i64_in a (by omega)
theorem some_f : ((some p : Option Bool) ≠ some false) = (p = true) := by cases p <;> simp
end
end Go.Own
end
section
namespace Go.Own
open Go Go.ChangeShapes Go.WideShapes Go.Deep Go.RowKit
def atW (w : World) : Cx := ⟨w, fun _ => none, fun b => b < w.heap.size⟩
def OpA (P : Program) (t : TypeId) {α : Type} (f : α → List AV) (g : α → Prop) : Prop :=
 ∀ (w : World) (H : Type) (enc : TypeId × Value → H) (base : Nat) (spare : Nat → Bool) (held : Bool) (fuel : Nat) (cs : List Value) (x : DataW H × List MemPlace), DataW.trod enc P w base spare held fuel t cs = some x → ∃ a, RelL (atW w) (f a) cs ∧ g a
theorem opA_int {P : Program} {t : TypeId} {k : IntKind} (hu : P.underlying t = some (.int k)) : OpA P t (fun n : Int => [.int k n]) (fun n => (Lit.int k n).wf = true) := by
 intro w H enc base spare held fuel cs x h
 obtain ⟨n, rfl, _, hw⟩ := DataW.trod_int hu h
 exact ⟨n, by simp [RelL, Rel], hw⟩
theorem opA_bool {P : Program} {t : TypeId} (hu : P.underlying t = some .bool) : OpA P t (fun b : Bool => [.bool b]) (fun _ => True) := by
 intro w H enc base spare held fuel cs x h
 obtain ⟨n, rfl, _⟩ := DataW.trod_bool hu h
 exact ⟨n, by simp [RelL, Rel], trivial⟩
theorem own_choice {α : Type} (Q : Nat → α → Prop) : ∀ n : Nat, (∀ i, i < n → ∃ x, Q i x) → ∃ xs : List α, xs.length = n ∧ ∀ i x, xs[i]? = some x → Q i x
 | 0, _ => ⟨[], rfl, fun i x h => by simp at h⟩
 | n + 1, h => by
  obtain ⟨xs, hl, hx⟩ := own_choice Q n (fun i hi => h i (by omega))
  obtain ⟨y, hy⟩ := h n (by omega)
  refine ⟨xs ++ [y], by simp [hl], fun i x hi => ?_⟩
  by_cases hlt : i < xs.length
  ·rw [List.getElem?_append_left hlt] at hi
   exact hx i x hi
  ·rw [List.getElem?_append_right (by omega)] at hi
   have : i - xs.length = 0 := by
    by_cases h0 : i - xs.length = 0
    ·exact h0
    ·obtain ⟨m, hm⟩ : ∃ m, i - xs.length = m + 1 := ⟨i - xs.length - 1, by omega⟩
     rw [hm] at hi
     simp at hi
   rw [this] at hi
   simp at hi
   subst hi
   have : i = n := by omega
   subst this
   exact hy
inductive Fld (α : Type) where
 | int (k : IntKind) (f : α → Int)
 | bool (f : α → Bool)
 | ints (k : IntKind) (f : α → List Int)
def Fld.av {α : Type} (a : α) : Fld α → AV
 | .int k f => .int k (f a)
 | .bool f => .bool (f a)
 | .ints k f => .sl (f a).length [.int k (f a)]
def Fld.col {α : Type} (l : List α) : Fld α → Col
 | .int k f => .int k (l.map f)
 | .bool f => .bool (l.map f)
 | .ints k f => .ints k (l.map f)
theorem Fld.is {α : Type} {c : Cx} {l : List α} {i : Nat} {a : α} {u : Value} (h : l[i]? = some a) (d : Fld α) (hr : Rel c (d.av a) u) : ColIs c (d.col l) i u := by
 cases d with
 | int k f =>
  simp only [Fld.av, Rel] at hr
  subst hr
  simp [Fld.col, ColIs, gI, List.getD, h]
 | bool f =>
  simp only [Fld.av, Rel] at hr
  subst hr
  simp [Fld.col, ColIs, gB, List.getD, h]
 | ints k f =>
  simp only [Fld.av, Rel] at hr
  obtain ⟨base, cap, rfl, hc, hl, hx⟩ := hr
  have e : gL (l.map f) i = f a := by simp [gL, List.getD, h]
  simp only [Fld.col, ColIs, e]
  refine ⟨base, cap, rfl, hc, hx.imp id ?_⟩
  rintro ⟨b, rfl, hs, hS, hcell⟩
  refine ⟨b, rfl, hs, hS, fun j hj => ?_⟩
  obtain ⟨u, hu, hv⟩ := hcell j hj 0 (.int k (f a)) rfl
  simp only [List.length_singleton, Nat.mul_one, Nat.add_zero] at hu
  simp only [ColIs] at hv
  subst hv
  exact hu
theorem RelL.get2 {c : Cx} {α : Type} {a : α} : ∀ {fs : List (Fld α)} {vs : List Value}, RelL c (fs.map (Fld.av a)) vs → ∀ {j : Nat} {d : Fld α}, fs[j]? = some d → ∃ u, vs[j]? = some u ∧ Rel c (d.av a) u := by
 intro fs vs h j d hd
 exact RelL.get h (by simp [hd])
theorem opA_rows {α : Type} {P : Program} {t e : TypeId} {g : α → Prop} (fs : List (Fld α)) (hu : P.underlying t = some (.slice e)) (hc : P.cellsOf e = fs.length) (hp : 0 < fs.length) (he : OpA P e (fun a => fs.map (Fld.av a)) g) :
  OpA P t (fun l : List α => [.sl l.length (fs.map (Fld.col l))]) (fun l => l.length ≤ maxLen ∧ ∀ x ∈ l, g x) := by
 intro w H enc base spare held fuel cs x h
 have hlen : ∀ l : List α, ∀ col ∈ fs.map (Fld.col l), col.len = l.length := by
  intro l col hcol
  obtain ⟨d, _, rfl⟩ := List.mem_map.1 hcol
  cases d <;> simp [Fld.col, Col.len]
 rcases open_slice hu h with ⟨rfl, _⟩ | ⟨a, len, cap, m, n, D, Pl, rfl, hb, hl, hm, hmm, _, hi⟩
 ·refine ⟨[], ?_, by simp, by simp⟩
  simp only [RelL, Rel, and_true]
  exact ⟨none, 0, rfl, Nat.le_refl _, hlen [], .inl rfl⟩
 ·have hlm : len ≤ m := by
   rw [hmm]
   split
   ·exact hl
   ·exact Nat.le_refl _
  have key : ∀ i, i < len → ∃ x : α, (∃ c : List Value, c.length = fs.length ∧ RelL (atW w) (fs.map (Fld.av x)) c ∧ ∀ j, j < fs.length → w.cell? ((a.add (i * fs.length)).add j) = c[j]?) ∧ g x := by
   intro i hil
   obtain ⟨cs', h1, h2⟩ := hi i (by omega)
   obtain ⟨y, hK, hg⟩ := he _ _ _ _ _ _ _ _ _ h2
   obtain ⟨_, hcl, hat⟩ := World.cells?_some h1
   rw [hc] at hcl hat
   exact ⟨y, ⟨cs', hcl, hK, hat⟩, hg⟩
  obtain ⟨xs, hxl, hxs⟩ := own_choice _ len key
  subst hxl
  refine ⟨xs, ?_, by omega, fun y hy => ?_⟩
  ·simp only [RelL, Rel, and_true]
   refine ⟨some a, cap, rfl, hl, hlen xs, ?_⟩
   by_cases h0 : xs.length = 0
   ·exact .inl h0
   ·refine .inr ⟨a, rfl, ?_⟩
    obtain ⟨⟨c0, hc0, _, hat0⟩, _⟩ := hxs 0 (xs[0]'(by omega)) (List.getElem?_eq_getElem (by omega))
    have hz := hat0 0 hp
    have e0 : (a.add (0 * fs.length)).add 0 = a := by simp [Addr.add]
    rw [e0, List.getElem?_eq_getElem (by omega)] at hz
    have hspot : a.spot = none := by
     unfold World.cell? at hz
     split at hz
     ·split at hz
      ·cases hz
      ·rename_i h; simpa using h
     ·cases hz
    refine ⟨hspot, World.block_lt_of_cell? w a (by rw [hz]), fun i hil j col hj => ?_⟩
    obtain ⟨⟨c1, hc1, hr1, hat1⟩, _⟩ := hxs i (xs[i]'hil) (List.getElem?_eq_getElem hil)
    simp only [List.length_map]
    rw [List.getElem?_map] at hj
    cases hd : fs[j]? with
    | none => rw [hd] at hj; cases hj
    | some d =>
     rw [hd] at hj
     cases hj
     have hjl : j < fs.length := (List.getElem?_eq_some_iff.1 hd).1
     obtain ⟨u, hu, hru⟩ := RelL.get2 hr1 hd
     refine ⟨u, ?_, Fld.is (List.getElem?_eq_getElem hil) d hru⟩
     have e1 : (a.add (i * fs.length)).add j = ⟨a.block, a.off + (i * fs.length + j), none⟩ := by
      cases a with
      | mk b o s =>
       cases hspot
       simp only [Addr.add]
       split <;> split <;> simp_all <;> omega
     unfold cellIs
     show w.cell? _ = _
     rw [← e1, hat1 j hjl, hu]
  ·obtain ⟨i, hil, rfl⟩ := List.getElem_of_mem hy
   exact (hxs i _ (List.getElem?_eq_getElem hil)).2
theorem opA_ints {P : Program} {t e : TypeId} {k : IntKind} (hu : P.underlying t = some (.slice e)) (hue : P.underlying e = some (.int k)) (hc : P.cellsOf e = 1) : OpA P t (fun l : List Int => [.sl l.length [.int k l]]) (fun l => l.length ≤ maxLen ∧ ∀ x ∈ l, (Lit.int k x).wf = true) := by
 have h := opA_rows [Fld.int k id] hu hc (by simp) (opA_int hue)
 intro w H enc base spare held fuel cs x hx
 obtain ⟨a, h1, h2⟩ := h w H enc base spare held fuel cs x hx
 exact ⟨a, by simpa [Fld.col] using h1, h2⟩
def OpF (P : Program) (fs : List Field) (off : Nat) {α : Type} (n : Nat) (f : α → List AV) (g : α → Prop) : Prop :=
 ∀ (w : World) (H : Type) (enc : TypeId × Value → H) (base : Nat) (spare : Nat → Bool) (held : Bool) (m : Nat) (cs : List Value), (∀ f ∈ fs, ∃ y, DataW.trod enc P w base spare held m f.type ((cs.drop f.offset).take (P.cellsOf f.type)) = some y) → cs.length = off + n → ∃ a, RelL (atW w) (f a) (cs.drop off) ∧ g a
theorem opF_last {α : Type} {P : Program} {d : Field} {off n : Nat} {f : α → List AV} {g : α → Prop} (ho : d.offset = off) (hc : P.cellsOf d.type = n) (h : OpA P d.type f g) : OpF P [d] off n f g := by
 intro w H enc base spare held m cs hf hl
 obtain ⟨y, hy⟩ := hf d List.mem_cons_self
 rw [ho, hc, List.take_of_length_le (by simp; omega)] at hy
 exact h _ _ _ _ _ _ _ _ _ hy
theorem opF_cons {α β : Type} {P : Program} {d : Field} {fs : List Field} {off n m : Nat} {f : α → List AV} {f' : β → List AV} {g : α → Prop} {g' : β → Prop} (ho : d.offset = off) (hc : P.cellsOf d.type = n) (h : OpA P d.type f g) (hr : OpF P fs (off + n) m f' g') :
  OpF P (d :: fs) off (n + m) (fun x : α × β => f x.1 ++ f' x.2) (fun x => g x.1 ∧ g' x.2) := by
 intro w H enc base spare held k cs hf hl
 obtain ⟨y, hy⟩ := hf d List.mem_cons_self
 rw [ho, hc] at hy
 obtain ⟨x1, hK1, hg1⟩ := h _ _ _ _ _ _ _ _ _ hy
 obtain ⟨x2, hK2, hg2⟩ := hr w _ enc base spare held k cs (fun f' hf' => hf f' (List.mem_cons_of_mem _ hf')) (by rw [hl]; omega)
 refine ⟨(x1, x2), ?_, hg1, hg2⟩
 have e : cs.drop off = (cs.drop off).take n ++ cs.drop (off + n) := by rw [← List.drop_drop, List.take_append_drop]
 rw [e]
 exact hK1.append hK2
theorem opA_struct {α : Type} {P : Program} {t : TypeId} {fs : Array Field} {n : Nat} {f : α → List AV} {g : α → Prop} (hu : P.underlying t = some (.struct fs)) (hc : P.cellsOf t = n) (h : OpF P fs.toList 0 n f g) : OpA P t f g := by
 intro w H enc base spare held fuel cs x hx
 obtain ⟨xs, m, _, _, hlen, hxl, hf⟩ := DataW.trod_struct hu hx
 obtain ⟨a, hK, hg⟩ := h w _ enc base spare held m cs (fun f hmem => by
  obtain ⟨i, hi, rfl⟩ := List.getElem_of_mem hmem
  have hi' : i < fs.size := by simpa using hi
  have e := hf i (fs[i]'hi') (Array.getElem?_eq_getElem hi')
  have hx' : xs[i]? = some (xs[i]'(by omega)) := List.getElem?_eq_getElem (by omega)
  exact ⟨_, (by simpa using e.trans hx')⟩) (by omega)
 exact ⟨a, by simpa using hK, hg⟩
theorem atW_slice {w : World} {n : Nat} {cols : List Col} {a : Option Addr} {len cap : Nat} (h : RelL (atW w) [.sl n cols] (Value.slice a len cap).cells.toList) : Rel (atW w) (.sl n cols) (.slice a len cap) := by
 have h2 : RelL (atW w) [.sl n cols] [Value.slice a len cap] := h
 simp only [RelL] at h2
 exact h2.1
theorem atW_agg {w : World} {cs : List AV} {vs : Array Value} (h : RelL (atW w) cs (Value.agg vs).cells.toList) : Rel (atW w) (.agg cs) (.agg vs) := by
 simp only [Rel]
 exact ⟨vs, rfl, h⟩
theorem PureOK.law {P : Program} {k : FuncId} {F : Pure1} (h : PureOK P k F) {W : World} {args : Array Value} {as : List AV} (hr : RelL (atW W) as args.toList) {b : Option Bool} (hF : F as = some (b, .bool true)) (hb : b ≠ some false) :
  Calls P k args W fun e W' => e = .returned (.bool true) ∧ Below W.heap.size W W' := by
 refine (h.2 (atW W) as args b _ (fun _ h => h) (fun _ => rfl) hr hF hb).mono ?_
 rintro e w' ⟨v, c', ps, rfl, rfl, hle, hk, _, hg, _, _⟩
 refine ⟨?_, hle.rest.1, hle.rest.2.1, hle.rest.2.2, hle.size, hk⟩
 simp only [Gives, GiveCells, GiveLeaf] at hg
 rw [hg.2]
end Go.Own
end
section
namespace Go.Own
open Go
section
variable {P : Program} {w0 : Base} {S : FuncId → Option Summ} {callf : CallF}
theorem gotAll_pre {st : St} : ∀ {srcs : List Src} {acc gots : List Got}, gotAll st srcs acc = some gots → ∀ i, i < acc.length → gots[i]? = acc[i]?
 | [], acc, gots, h, i, _ => by
  simp only [gotAll, Option.some.injEq] at h
  rw [h]
 | s :: ss, acc, gots, h, i, hi => by
  simp only [gotAll] at h
  split at h
  ·rename_i g hg
   rw [gotAll_pre h i (by simp; omega), List.getElem?_append_left hi]
  ·cases h
theorem head_got {st : St} {srcs : List Src} {gots : List Got} {j : Nat} (hh : headOld st srcs = some j) (hg : gotAll st srcs [] = some gots) : gots[0]? = some (.old j) := by
 cases srcs with
 | nil => cases hh
 | cons s ss =>
  simp only [headOld] at hh
  split at hh
  ·rename_i j' hs
   cases hh
   simp only [gotAll, hs, List.nil_append] at hg
   rw [gotAll_pre hg 0 (by simp)]
   rfl
  ·cases hh
theorem head_place {st : St} {srcs : List Src} {j : Nat} {c : Cx} {a : Act} (hh : headOld st srcs = some j) (h : StOK w0 st c a) : ∃ p, c.π j = some p := by
 cases srcs with
 | nil => cases hh
 | cons s ss =>
  simp only [headOld] at hh
  split at hh
  ·rename_i j' hs
   cases hh
   cases s with
   | cell k i => simp [gotAt] at hs
   | tmp i =>
    simp only [gotAt] at hs
    have hr := h.tok.get i
    generalize hx : st.T.getD i .top = x at hs hr
    cases x with
    | full id =>
     simp only [gotOf, Option.some.injEq, Got.old.injEq] at hs
     subst hs
     simp only [RelT, Rel] at hr
     obtain ⟨p, _, hp, _⟩ := hr
     exact ⟨p, hp⟩
    | osl id o n =>
     simp only [gotOf, Option.some.injEq, Got.old.injEq] at hs
     subst hs
     simp only [RelT, Rel] at hr
     obtain ⟨p, _, hp, _⟩ := hr
     exact ⟨p, hp⟩
    | ptr id o n =>
     simp only [gotOf, Option.some.injEq, Got.old.injEq] at hs
     subst hs
     simp only [RelT, Rel] at hr
     obtain ⟨p, hp, _⟩ := hr
     exact ⟨p, hp⟩
    | mp id =>
     simp only [gotOf, Option.some.injEq, Got.old.injEq] at hs
     subst hs
     simp only [RelT, Rel] at hr
     obtain ⟨p, hp, _⟩ := hr
     exact ⟨p, hp⟩
    | it id =>
     simp only [gotOf, Option.some.injEq, Got.old.injEq] at hs
     subst hs
     simp only [RelT, Rel] at hr
     obtain ⟨p, hp, _⟩ := hr
     exact ⟨p, hp⟩
    | ifc t y =>
     cases y with
     | ptr id o n =>
      simp only [gotOf, Option.some.injEq, Got.old.injEq] at hs
      subst hs
      simp only [RelT, Rel] at hr
      obtain ⟨u, _, p, hp, _⟩ := hr
      exact ⟨p, hp⟩
     | _ => simp [gotOf] at hs
    | emp e cols =>
     simp only [gotOf] at hs
     split at hs <;> simp at hs
    | fn f xs ys =>
     have key : ∀ zs : List AV, gotOf (.fn f xs zs) = some (.old j) → RelT c a.tmps (.fn f xs zs) (a.tmps.getD i undef) → ∃ p, c.π j = some p := by
      intro zs hs hr
      cases xs with
      | cons x xs => simp [gotOf] at hs
      | nil =>
       cases zs with
       | nil => simp [gotOf] at hs
       | cons z zs =>
        cases zs with
        | cons z' zs => cases z <;> simp [gotOf] at hs
        | nil =>
         cases z with
         | ptr id o n =>
          simp only [gotOf, Option.some.injEq, Got.old.injEq] at hs
          subst hs
          simp only [RelT, Rel] at hr
          obtain ⟨us, vs, _, _, h3⟩ := hr
          cases hl : vs.toList with
          | nil => rw [hl] at h3; exact h3.elim
          | cons b bs =>
           rw [hl] at h3
           simp only [RelL, Rel] at h3
           obtain ⟨⟨p, hp, _⟩, _⟩ := h3
           exact ⟨p, hp⟩
         | _ => simp [gotOf] at hs
     exact key ys hs hr
    | _ => simp [gotOf] at hs
  ·cases hh
theorem frame_at {H : Heap} {j : Nat} {ids : List Nat} {os : Heap} (id : Nat) :
  Heap.at (frameH H j ids os) id = if id < H.length then (if id = j then (match os with | some o :: _ => some (relO H.length j o) | _ => none) else if ids.contains id then (match H.at id with | some _ => some .dead | none => none) else H.at id) else if id = H.length then none else (match os.at (id - H.length) with | some o => some (relO H.length j o) | none => none) := by
 unfold frameH
 unfold Heap.at
 rw [List.getElem?_map]
 by_cases h1 : id < H.length
 ·rw [List.getElem?_range (by omega)]
  simp only [Option.map_some, h1, if_true]
  by_cases h2 : id = j
  ·simp only [h2, if_true]
   cases os with
   | nil => rfl
   | cons o os => cases o <;> rfl
  ·simp only [h2, if_false]
   by_cases h3 : ids.contains id = true
   ·simp only [h3, if_true]
    rw [List.getElem?_eq_getElem h1]
    cases H[id] <;> rfl
   ·simp only [h3, Bool.false_eq_true, if_false]
    rw [List.getElem?_eq_getElem h1]
    try (cases H[id] <;> rfl)
 ·by_cases h4 : id < H.length + os.length
  ·rw [List.getElem?_range h4]
   simp only [Option.map_some, h1, if_false]
   by_cases h2 : id = H.length
   ·simp only [h2, if_true]
   ·simp only [h2, if_false]
    cases hx : os[id - H.length]? with
    | none => rfl
    | some o => cases o <;> rfl
  ·have e : (List.range (H.length + os.length))[id]? = none := List.getElem?_eq_none (by simp; omega)
   rw [e]
   simp only [Option.map_none, h1, if_false]
   have e2 : os[id - H.length]? = none := List.getElem?_eq_none (by omega)
   simp [e2]
def frameπ (n j : Nat) (c0 c2 : Cx) (id : Nat) : Option Place := if id < n then c0.π id else if id = n then none else c2.π (id - n)
theorem rel_move {n j : Nat} {c0 c2 : Cx} (hj : j < n) (ha : ∀ p, c2.π 0 = some p → c0.π j = some p) : ∀ {x : AV} {v : Value}, movable x = true → Rel c2 x v → Rel ⟨c2.w, frameπ n j c0 c2, c0.S⟩ (relV n j x) v := by
 intro x v hm hr
 cases x with
 | top => trivial
 | int k i => exact hr
 | bool b => exact hr
 | val u => exact hr
 | emp e cols => exact hr
 | full k =>
  simp only [movable, bne_iff_ne, ne_eq] at hm
  simp only [Rel, relV] at hr ⊢
  obtain ⟨p, ad, hp, h⟩ := hr
  refine ⟨p, ad, ?_, h⟩
  unfold frameπ
  rw [if_neg (by omega), if_neg (by omega), Nat.add_sub_cancel_left]
  exact hp
 | osl k off m =>
  simp only [movable, bne_iff_ne, ne_eq] at hm
  simp only [Rel, relV] at hr ⊢
  obtain ⟨p, ad, hp, h⟩ := hr
  refine ⟨p, ad, ?_, h⟩
  unfold frameπ
  rw [if_neg (by omega), if_neg (by omega), Nat.add_sub_cancel_left]
  exact hp
 | ptr k i o =>
  simp only [Rel, relV] at hr ⊢
  obtain ⟨p, hp, h⟩ := hr
  refine ⟨p, ?_, h⟩
  unfold frameπ
  cases k with
  | zero =>
   simp only
   rw [if_pos hj]
   exact ha p hp
  | succ k =>
   simp only
   rw [if_neg (by omega), if_neg (by omega), Nat.add_sub_cancel_left]
   exact hp
 | ifc t y =>
  cases y with
  | ptr k i o =>
   simp only [Rel, relV] at hr ⊢
   obtain ⟨u, hu, p, hp, h⟩ := hr
   refine ⟨u, hu, p, ?_, h⟩
   unfold frameπ
   cases k with
   | zero =>
    simp only
    rw [if_pos hj]
    exact ha p hp
   | succ k =>
    simp only
    rw [if_neg (by omega), if_neg (by omega), Nat.add_sub_cancel_left]
    exact hp
  | _ => simp [movable] at hm
 | _ => simp [movable] at hm
theorem relL_move {n j : Nat} {c0 c2 : Cx} (hj : j < n) (ha : ∀ p, c2.π 0 = some p → c0.π j = some p) : ∀ {xs : List AV} {vs : List Value}, xs.all movable = true → RelL c2 xs vs → RelL ⟨c2.w, frameπ n j c0 c2, c0.S⟩ (xs.map (relV n j)) vs
 | [], [], _, _ => by simp [RelL]
 | x :: xs, v :: vs, hm, hr => by
  simp only [List.all_cons, Bool.and_eq_true] at hm
  exact ⟨rel_move hj ha hm.1 hr.1, relL_move hj ha hm.2 hr.2⟩
 | [], _ :: _, _, hr => by simp [RelL] at hr
 | _ :: _, [], _, hr => by simp [RelL] at hr
theorem obj_move {n j : Nat} {c0 c2 : Cx} (hj : j < n) (ha : ∀ p, c2.π 0 = some p → c0.π j = some p) {o : AObj} {p : Place} (hm : movableO o = true) (h : ObjAt c2 o p) : ObjAt ⟨c2.w, frameπ n j c0 c2, c0.S⟩ (relO n j o) p := by
 cases o with
 | dead => trivial
 | row e m cols =>
  simp only [movableO, List.all_eq_true] at hm
  simp only [ObjAt, relO] at h ⊢
  obtain ⟨h1, h2, h3, h4, h5, h6⟩ := h
  refine ⟨h1, h2, h3, h4, h5, fun hc => ?_⟩
  obtain ⟨arr, t, g1, g2, g3⟩ := h6 hc
  refine ⟨arr, t, g1, g2, fun i hi k col hk => ?_⟩
  obtain ⟨u, hu, hcol⟩ := g3 i hi k col hk
  exact ⟨u, hu, hcol.flat (hm col (List.mem_of_getElem? hk))⟩
 | var cs =>
  simp only [movableO] at hm
  simp only [ObjAt, relO] at h ⊢
  obtain ⟨arr, t, g1, g2⟩ := h
  exact ⟨arr, t, g1, relL_move hj ha hm g2⟩
 | _ => simp [movableO] at hm
theorem mem_rel {n j : Nat} {o : AObj} {p : Place} (hm : movableO o = true) (h : Mem (relO n j o) p) : Mem o p := by
 cases o with
 | row e m cols => exact h
 | var cs => trivial
 | dead => exact h
 | _ => simp [movableO] at hm
theorem frame_sound {H os : Heap} {T : List AV} {j : Nat} {gots : List Got} {c0 c2 : Cx} {a : Act} {pj : Place} (hh : HeapOK w0 H c0) (h0 : gots[0]? = some (.old j)) (hpj : c0.π j = some pj)
  (h2 : StOK w0 ⟨T, os⟩ c2 a) (hle : (cxOf w0 H c0 gots).leF 1 c2) (hfl : firstLive os = true) (hT : T.all movable = true) (hO : (os.all fun | some o => movableO o | none => true) = true) :
  ∃ c3, StOK w0 ⟨T.map (relV H.length j), frameH H j (oldIds gots) os⟩ c3 a ∧ c0.le c3 ∧ c3.w = c2.w := by
 have hjH : H.at j ≠ none := fun e => by rw [hh.free j e] at hpj; cases hpj
 have hj : j < H.length := by
  apply Classical.byContradiction
  intro hn
  exact hjH (by unfold Heap.at; rw [List.getElem?_eq_none (by omega)])
 have hπ1 : (cxOf w0 H c0 gots).π 0 = some pj := by simp [cxOf, piOf, h0, hpj]
 have hπ2 : c2.π 0 = some pj := hle.π 0 (by omega) pj hπ1
 have ha : ∀ p, c2.π 0 = some p → c0.π j = some p := fun p hp => by rw [hπ2] at hp; cases hp; exact hpj
 have hjm : j ∈ oldIds gots := mem_oldIds h0
 obtain ⟨o0, os', rfl, hd0⟩ : ∃ o0 os', os = some o0 :: os' ∧ o0 ≠ .dead := by
  unfold firstLive at hfl
  split at hfl
  ·cases hfl
  ·rename_i o l hx
   exact ⟨o, l, rfl, fun e => hx e⟩
  ·cases hfl
 have hO' : ∀ k o, Heap.at (some o0 :: os') k = some o → movableO o = true := by
  intro k o ho
  unfold Heap.at at ho
  split at ho
  ·rename_i o' hk
   cases ho
   have := List.all_eq_true.1 hO _ (List.mem_of_getElem? hk)
   simpa using this
  ·cases ho
 have hat0 : Heap.at (some o0 :: os') 0 = some o0 := rfl
 have hS : ∀ b, c0.S b → c2.S b := fun b hb => hle.S b (.inl hb)
 have hold : ∀ id q, id ∉ oldIds gots → Live H c0 id q → c2.S q.b ∧ c2.w.heap[q.b]? = c0.w.heap[q.b]? := by
  intro id q hid hl
  have hs := frozen_of hh hid q hl
  exact ⟨hle.S _ hs, hle.w _ hs⟩
 let c3 : Cx := ⟨c2.w, frameπ H.length j c0 c2, c0.S⟩
 have hle3 : c0.le c3 := by
  refine ⟨fun id p hp => ?_, fun b hb => hb, fun b hb => hle.w b (.inl hb), hle.size, hle.rest⟩
  have hlt : id < H.length := by
   apply Classical.byContradiction
   intro hn
   have : H.at id = none := by unfold Heap.at; rw [List.getElem?_eq_none (by omega)]
   rw [hh.free id this] at hp
   cases hp
  show frameπ H.length j c0 c2 id = some p
  unfold frameπ
  rw [if_pos hlt]
  exact hp
 have hπold : ∀ id, id < H.length → c3.π id = c0.π id := fun id hid => if_pos hid
 have hπnew : ∀ id, H.length < id → c3.π id = c2.π (id - H.length) := fun id hid => (if_neg (by omega)).trans (if_neg (by omega))
 have hlive : ∀ id p, Live (frameH H j (oldIds gots) (some o0 :: os')) c3 id p → (id < H.length ∧ id ∉ oldIds gots ∧ Live H c0 id p) ∨ (∃ k, Live (some o0 :: os') c2 k p ∧ ((id = j ∧ k = 0) ∨ (H.length < id ∧ k = id - H.length))) := by
  rintro id p ⟨o, ho, hp, hm⟩
  rw [frame_at] at ho
  split at ho
  ·rename_i hlt
   rw [hπold id hlt] at hp
   split at ho
   ·rename_i e
    subst e
    cases ho
    rw [hpj] at hp
    cases hp
    exact .inr ⟨0, ⟨o0, hat0, hπ2, mem_rel (hO' 0 o0 hat0) hm⟩, .inl ⟨rfl, rfl⟩⟩
   ·split at ho
    ·split at ho
     ·cases ho
      exact hm.elim
     ·cases ho
    ·rename_i hc
     refine .inl ⟨hlt, ?_, ⟨o, ho, hp, hm⟩⟩
     simpa using hc
  ·split at ho
   ·cases ho
   ·rename_i h1 h3
    split at ho
    ·rename_i o' ho'
     cases ho
     rw [hπnew id (by omega)] at hp
     exact .inr ⟨id - H.length, ⟨o', ho', hp, mem_rel (hO' _ o' ho') hm⟩, .inr ⟨by omega, rfl⟩⟩
    ·cases ho
 refine ⟨c3, ⟨⟨?_, ?_, ?_, ?_, ?_, ?_, ?_, ?_⟩, ⟨?_, ?_⟩, h2.plain⟩, hle3, rfl⟩
 ·-- each object lies at its place
  intro id o ho
  rw [frame_at] at ho
  split at ho
  ·rename_i hlt
   split at ho
   ·rename_i e
    subst e
    cases ho
    refine ⟨pj, (hπold id hlt).trans hpj, ?_⟩
    obtain ⟨p, hp, hob⟩ := h2.heap.obj 0 o0 hat0
    have hp' : c2.π 0 = some p := hp
    rw [hπ2] at hp'
    cases hp'
    exact obj_move hj ha (hO' 0 o0 hat0) hob
   ·split at ho
    ·split at ho
     ·rename_i o' ho'
      cases ho
      obtain ⟨p, hp, _⟩ := hh.obj id o' ho'
      exact ⟨p, (hπold id hlt).trans hp, trivial⟩
     ·cases ho
    ·rename_i hc
     obtain ⟨p, hp, hob⟩ := hh.obj id o ho
     refine ⟨p, (hπold id hlt).trans hp, hob.mono hle3 fun hm => ?_⟩
     exact (hold id p (by simpa using hc) ⟨o, ho, hp, hm⟩).2
  ·split at ho
   ·cases ho
   ·split at ho
    ·rename_i o' ho'
     cases ho
     obtain ⟨p, hp, hob⟩ := h2.heap.obj _ o' ho'
     exact ⟨p, (hπnew id (by omega)).trans hp, obj_move hj ha (hO' _ o' ho') hob⟩
    ·cases ho
 ·-- apart
  intro id id' p p' hl hl' hne
  rcases hlive id p hl with ⟨h1, h3, h4⟩ | ⟨k, h3, h4⟩
  ·rcases hlive id' p' hl' with ⟨g1, g3, g4⟩ | ⟨k', g3, g4⟩
   ·exact hh.apart id id' p p' h4 g4 hne
   ·intro e
    have := (h2.heap.out k' p' g3).2.2
    rw [← e] at this
    exact this (hold id p h3 h4).1
  ·rcases hlive id' p' hl' with ⟨g1, g3, g4⟩ | ⟨k', g3, g4⟩
   ·intro e
    have := (h2.heap.out k p h3).2.2
    rw [e] at this
    exact this (hold id' p' g3 g4).1
   ·refine h2.heap.apart k k' p p' h3 g3 ?_
    rcases h4 with ⟨e1, e2⟩ | ⟨e1, e2⟩ <;> rcases g4 with ⟨e3, e4⟩ | ⟨e3, e4⟩ <;> omega
 ·-- out
  intro id p hl
  rcases hlive id p hl with ⟨h1, h3, h4⟩ | ⟨k, h3, h4⟩
  ·obtain ⟨g1, g2, g3⟩ := hh.out id p h4
   exact ⟨g1, Nat.lt_of_lt_of_le g2 hle.size, g3⟩
  ·obtain ⟨g1, g2, g3⟩ := h2.heap.out k p h3
   exact ⟨g1, g2, fun hs => g3 (hS _ hs)⟩
 ·-- free
  intro id hid
  rw [frame_at] at hid
  by_cases hlt : id < H.length
  ·rw [if_pos hlt] at hid
   rw [hπold id hlt]
   by_cases e : id = j
   ·rw [if_pos e] at hid
    cases hid
   ·rw [if_neg e] at hid
    split at hid
    ·split at hid
     ·cases hid
     ·rename_i hn
      exact hh.free id hn
    ·exact hh.free id hid
  ·rw [if_neg hlt] at hid
   by_cases e : id = H.length
   ·exact (if_neg hlt).trans (if_pos e)
   ·rw [if_neg e] at hid
    rw [hπnew id (by omega)]
    split at hid
    ·cases hid
    ·rename_i hn
     exact h2.heap.free _ hn
 ·exact fun b hb => Nat.lt_of_lt_of_le (hh.stable b hb) hle.size
 ·exact h2.heap.kept
 ·exact h2.heap.grown
 ·exact hh.born
 ·rw [List.length_map]
  exact h2.tok.1
 ·intro i x hx
  simp only [List.getElem?_map, Option.map_eq_some_iff] at hx
  obtain ⟨y, hy, rfl⟩ := hx
  obtain ⟨u, hu, hr⟩ := h2.tok.2 i y hy
  refine ⟨u, hu, relT_of_rel ?_⟩
  have hmy : movable y = true := List.all_eq_true.1 hT y (List.mem_of_getElem? hy)
  refine rel_move hj ha hmy ?_
  exact hr.plain fun k b z e => by subst e; simp [movable] at hmy
theorem LoopSpec.okA (hm : P.follows .mixedOrders = true) (hS : ∀ k s, S k = some s → SummOK P k s) (hL : ∀ k s, S k = some s → SummLocal s) (hc : CallfOK P callf) {L : Nat → Option LoopS} {body : Code} {i : Nat} (hl : LoopsOK P 1 L body i) (s : LoopSpec) (μ : List AV → Heap → Nat)
  (h : ∀ vals objs Q, vals.length = s.keep.length → objs.length = s.srcs.length → WFL vals → WFH objs → s.goes vals objs Q → runCode P S callf L body i ⟨mkT s.keep vals s.n 0, objs⟩ (s.endsA μ vals objs Q)) : LoopFr P body s.framed := by
 intro w0 fl st Q hs c0 a QQ hst hQ
 unfold LoopSpec.framed at hs
 split at hs
 ·rename_i j gots vals objs hj hg ht
  obtain ⟨gots', hg', h1, h4, h5, h6, h7⟩ := tidy_sound2 hst ht
  rw [hg] at hg'
  cases hg'
  have h0 := head_got hj hg
  obtain ⟨pj, hpj⟩ := head_place hj hst
  have key : ∀ (m : Nat) (vals : List AV) (objs : Heap) (c1 : Cx) (a : Act), μ vals objs < m → vals.length = s.keep.length → objs.length = s.srcs.length → WFL vals → WFH objs →
    s.goes vals objs (fun e vs os => asrt (firstLive os && (mkT s.keepE vs s.n 0).all movable && os.all fun | some o => movableO o | none => true) (Q e ⟨(mkT s.keepE vs s.n 0).map (relV st.H.length j), frameH st.H j (oldIds gots) os⟩)) →
    StOK w0 ⟨mkT s.keep vals s.n 0, objs⟩ c1 a → (cxOf w0 st.H c0 gots).leF 1 c1 → Code.rounds P body QQ m a c1.w := by
   have fin : ∀ (e : Ex) (vs : List AV) (os : Heap) (c2 : Cx) (a : Act), StOK w0 ⟨mkT s.keepE vs s.n 0, os⟩ c2 a → (cxOf w0 st.H c0 gots).leF 1 c2 → asrt (firstLive os && (mkT s.keepE vs s.n 0).all movable && os.all fun | some o => movableO o | none => true) (Q e ⟨(mkT s.keepE vs s.n 0).map (relV st.H.length j), frameH st.H j (oldIds gots) os⟩) → QQ (exOf e) a c2.w := by
    intro e vs os c2 a g1 g2 g3
    have hck : (firstLive os && (mkT s.keepE vs s.n 0).all movable && os.all fun | some o => movableO o | none => true) = true ∧ Q e ⟨(mkT s.keepE vs s.n 0).map (relV st.H.length j), frameH st.H j (oldIds gots) os⟩ := by
     generalize (firstLive os && (mkT s.keepE vs s.n 0).all movable && os.all fun | some o => movableO o | none => true) = b at g3
     cases b with
     | true => exact ⟨rfl, g3⟩
     | false => exact g3.elim
    obtain ⟨hck, hq⟩ := hck
    simp only [Bool.and_eq_true] at hck
    obtain ⟨c3, k1, k2, k3⟩ := frame_sound hst.heap h0 hpj g1 g2 hck.1.1 hck.1.2 hck.2
    have := hQ e _ c3 a k1 k2.F hq
    rw [k3] at this
    exact this
   intro m
   induction m with
   | zero => intro vals objs c1 a hμ; exact absurd hμ (Nat.not_lt_zero _)
   | succ m ih =>
    intro vals objs c1 a hμ k1 k2 k3 k4 k5 k6 k7
    rw [rounds_succ]
    refine runCode_sound hm hS hL hc body i _ _ hl (h vals objs _ k1 k2 k3 k4 k5) c1 a _ k6 ?_
    intro e st' c' a' g1 g2 g3
    have step : ∀ (srcs : List Src) (gots2 : List Got), headOld st' srcs = some 0 → gotAll st' srcs [] = some gots2 → (cxOf w0 st.H c0 gots).leF 1 (cxOf w0 st'.H c' gots2) := by
     intro srcs gots2 q1 q2
     refine (k7.trans g2).trans ⟨fun id hid p hp => ?_, hS_of, fun _ _ => rfl, Nat.le_refl _, rfl, rfl, rfl⟩
     have e0 : id = 0 := by omega
     subst e0
     have := head_got q1 q2
     simpa [cxOf, piOf, this] using hp
    cases e with
    | normal =>
     simp only [LoopSpec.endsA] at g3
     split at g3
     ·rename_i hh0
      simp only [LoopSpec.ends] at g3
      split at g3
      ·rename_i vs os ht'
       obtain ⟨gots2, f0, f1, f4, f5, f6, f7⟩ := tidy_sound2 g1 ht'
       exact ih vs os (cxOf w0 st'.H c' gots2) a' (by omega) f4 f5 f6 f7 g3.2 f1 (step _ _ hh0 f0)
      ·exact g3.elim
     ·exact g3.elim
    | exit id =>
     simp only [LoopSpec.endsA] at g3
     split at g3
     ·rename_i hh0
      simp only [LoopSpec.ends] at g3
      split at g3
      ·rename_i vs os ht'
       obtain ⟨gots2, f0, f1, _⟩ := tidy_sound2 g1 ht'
       exact exOf_then id _ _ (fin (.exit id) vs os (cxOf w0 st'.H c' gots2) a' f1 (step _ _ hh0 f0) g3)
      ·exact g3.elim
     ·exact g3.elim
    | ret =>
     simp only [LoopSpec.endsA] at g3
     split at g3
     ·rename_i hh0
      simp only [LoopSpec.ends] at g3
      split at g3
      ·rename_i vs os ht'
       obtain ⟨gots2, f0, f1, _⟩ := tidy_sound2 g1 ht'
       exact fin .ret vs os (cxOf w0 st'.H c' gots2) a' f1 (step _ _ hh0 f0) g3
      ·exact g3.elim
     ·exact g3.elim
  refine wp_loop_rounds (μ vals objs + 1) ?_
  exact key _ vals objs (cxOf w0 st.H c0 gots) a (Nat.lt_succ_self _) h4 h5 h6 h7 hs h1 ⟨fun _ _ _ h => h, fun _ h => h, fun _ _ => rfl, Nat.le_refl _, rfl, rfl, rfl⟩
 ·exact hs.elim
theorem tab_loopA (hm : P.follows .mixedOrders = true) {l : List (FuncId × Pure1)} (hl : ∀ p ∈ l, PureOK P p.1 p.2) {body : Code} {i : Nat} (s : LoopSpec) (μ : List AV → Heap → Nat)
  (h : ∀ vals objs Q, vals.length = s.keep.length → objs.length = s.srcs.length → WFL vals → WFH objs → s.goes vals objs Q → runCode P (tabS l) (callN P (tabS l) noL 11) (fun _ => none) body i ⟨mkT s.keep vals s.n 0, objs⟩ (s.endsA μ vals objs Q)) : LoopFr P body s.framed :=
 LoopSpec.okA hm (tabS_ok hl) tabS_local (tab_callf hm hl 11) (fun _ _ _ h => by cases h) s μ h
end
end Go.Own
end
section
namespace Go.Own
open Go
section
variable {P : Program}
theorem loopHyp_is {k : FuncId} {i : Nat} {x : LoopS} (h : LoopHyp P k i x) {fn : Func} {c : Code} (hf : P.funcs[k]? = some fn) (hb : fn.body = some c) : ∀ p ∈ loopsOf c 1000, p.1 = i → LoopIs P p.2 x := by
 intro p hp hi
 cases x with
 | unroll _ => trivial
 | summ s =>
  obtain ⟨h1, h2⟩ := h
  rw [bodyOf_eq h1 hf hb p hp hi]
  exact h2
 | frame s =>
  obtain ⟨h1, h2⟩ := h
  rw [bodyOf_eq h1 hf hb p hp hi]
  exact h2
theorem tabL_ok : ∀ {ll : List (FuncId × Nat × LoopS)}, (∀ p ∈ ll, LoopHyp P p.1 p.2.1 p.2.2) → ∀ f fn c, P.funcs[f]? = some fn → fn.body = some c → ∀ p ∈ loopsOf c 1000, ∀ x, tabL ll f p.1 = some x → LoopIs P p.2 x
 | [], _, _, _, _, _, _, _, _, _, h => by cases h
 | (k, i, y) :: ll, hl, f, fn, c, hf, hb, p, hp, x, h => by
  unfold tabL at h
  split at h
  ·rename_i e
   have e : f = k := by simpa using e
   subst e
   split at h
   ·rename_i e2
    have e2 : p.1 = i := by simpa using e2
    cases h
    exact loopHyp_is (hl (f, i, y) (by simp)) hf hb p hp e2
   ·exact tabL_ok (fun q hq => hl q (by simp [hq])) f fn c hf hb p hp x h
  ·exact tabL_ok (fun q hq => hl q (by simp [hq])) f fn c hf hb p hp x h
theorem tab_callL (hm : P.follows .mixedOrders = true) {l : List (FuncId × Pure1)} (hl : ∀ p ∈ l, PureOK P p.1 p.2) {ll : List (FuncId × Nat × LoopS)} (hll : ∀ p ∈ ll, LoopHyp P p.1 p.2.1 p.2.2) (n : Nat) : CallfOK P (callN P (tabS l) (tabL ll) n) :=
 callN_sound hm (tabS_ok hl) tabS_local (tabL_ok hll) n
theorem tab_many (hm : P.follows .mixedOrders = true) {l : List (FuncId × Pure1)} (hl : ∀ p ∈ l, PureOK P p.1 p.2) {ll : List (FuncId × Nat × LoopS)} (hll : ∀ p ∈ ll, LoopHyp P p.1 p.2.1 p.2.2) {k : FuncId} {F : Pure1} (own : Bool) (he : entersB P k = true)
  (hv : ∀ as b r, F as = some (b, r) → b ≠ some false → WFL as → VC P (tabS l) (tabL ll) own k as r) : PureOK P k F :=
 pure_of hm (tabS_ok hl) tabS_local (L := tabL ll) (tabL_ok hll) own he hv
theorem tab_loopV (hm : P.follows .mixedOrders = true) {l : List (FuncId × Pure1)} (hl : ∀ p ∈ l, PureOK P p.1 p.2) {ll : List (FuncId × Nat × LoopS)} (hll : ∀ p ∈ ll, LoopHyp P p.1 p.2.1 p.2.2) {body : Code} {i : Nat} (s : LoopSpec) (μ : List AV → Heap → Nat)
  (h : ∀ vals objs Q, vals.length = s.keep.length → objs.length = s.srcs.length → WFL vals → WFH objs → s.goes vals objs Q → runCode P (tabS l) (callN P (tabS l) (tabL ll) 11) (fun _ => none) body i ⟨mkT s.keep vals s.n 0, objs⟩ (s.ends μ vals objs Q)) : LoopOK P body s.summ :=
 LoopSpec.ok hm (tabS_ok hl) tabS_local (tab_callL hm hl hll 11) (fun _ _ _ h => by cases h) s μ h
theorem tab_loopAV (hm : P.follows .mixedOrders = true) {l : List (FuncId × Pure1)} (hl : ∀ p ∈ l, PureOK P p.1 p.2) {ll : List (FuncId × Nat × LoopS)} (hll : ∀ p ∈ ll, LoopHyp P p.1 p.2.1 p.2.2) {body : Code} {i : Nat} (s : LoopSpec) (μ : List AV → Heap → Nat)
  (h : ∀ vals objs Q, vals.length = s.keep.length → objs.length = s.srcs.length → WFL vals → WFH objs → s.goes vals objs Q → runCode P (tabS l) (callN P (tabS l) (tabL ll) 11) (fun _ => none) body i ⟨mkT s.keep vals s.n 0, objs⟩ (s.endsA μ vals objs Q)) : LoopFr P body s.framed :=
 LoopSpec.okA hm (tabS_ok hl) tabS_local (tab_callL hm hl hll 11) (fun _ _ _ h => by cases h) s μ h
end
end Go.Own
end
section
namespace Go.Own
open Go
section
variable {P : Program}
def meSumm (a b : Nat) : Summ := fun args H _ => match args with
 | [.ptr id 0 0] => match H.at id with
  | some (.var cells) => match cells.getD a .top, cells.getD b .top with
   | .full r, .int .i64 i => match H.at r with
    | some (.row _ n cols) => if cols.length = 11 then some { obl := some (band (ile 0 i) (ilt i (ofN n))), val := .ptr r (nOf i) 0, reads := [id, r] } else none
    | _ => none
   | _, _ => none
  | _ => none
 | _ => none
theorem meSumm_some {a b : Nat} {args : List AV} {H : Heap} {fr : Nat} {e : Eff} (h : meSumm a b args H fr = some e) : ∃ id r cells i t n cols, args = [.ptr id 0 0] ∧ H.at id = some (.var cells) ∧ cells.getD a .top = .full r ∧ cells.getD b .top = .int .i64 i ∧ H.at r = some (.row t n cols) ∧ cols.length = 11 ∧ e = { obl := some (band (ile 0 i) (ilt i (ofN n))), val := .ptr r (nOf i) 0, reads := [id, r] } := by
 unfold meSumm at h
 split at h
 ·rename_i id
  split at h
  ·rename_i cells h1
   split at h
   ·rename_i r i h2 h3
    split at h
    ·rename_i t n cols h4
     split at h
     ·rename_i h5
      cases h
      exact ⟨id, r, cells, i, t, n, cols, rfl, h1, h2, h3, h4, h5, rfl⟩
     ·cases h
    ·cases h
   ·cases h
  ·cases h
 ·cases h
theorem meSumm_local (a b : Nat) : SummLocal (meSumm a b) := by
 intro args H H' fr e h hH
 obtain ⟨id, r, cells, i, t, n, cols, rfl, h1, h2, h3, h4, h5, rfl⟩ := meSumm_some h
 have e1 := hH id (by simp)
 have e2 := hH r (by simp)
 unfold meSumm
 simp only [e1, h1, h2, h3, e2, h4, h5, if_true]
def meTab (ms : List (FuncId × Nat × Nat)) (l : List (FuncId × Pure1)) : FuncId → Option Summ := fun k => match ms with
 | [] => tabS l k
 | (q, a, b) :: ms => if k = q then some (meSumm a b) else meTab ms l k
theorem meTab_ok {l : List (FuncId × Pure1)} (hl : ∀ p ∈ l, PureOK P p.1 p.2) : ∀ {ms : List (FuncId × Nat × Nat)}, (∀ m ∈ ms, SummOK P m.1 (meSumm m.2.1 m.2.2)) → ∀ k s, meTab ms l k = some s → SummOK P k s
 | [], _, k, s, h => tabS_ok hl k s h
 | (q, a, b) :: ms, hm, k, s, h => by
  unfold meTab at h
  split at h
  ·rename_i e
   subst e
   cases h
   exact hm (k, a, b) (by simp)
  ·exact meTab_ok hl (fun m hmm => hm m (by simp [hmm])) k s h
theorem meTab_local {l : List (FuncId × Pure1)} : ∀ {ms : List (FuncId × Nat × Nat)} k s, meTab ms l k = some s → SummLocal s
 | [], k, s, h => tabS_local k s h
 | (q, a, b) :: ms, k, s, h => by
  unfold meTab at h
  split at h
  ·cases h
   exact meSumm_local a b
  ·exact meTab_local k s h
theorem meTab_plain (hm : P.follows .mixedOrders = true) {l : List (FuncId × Pure1)} (hl : ∀ p ∈ l, PureOK P p.1 p.2) {ms : List (FuncId × Nat × Nat)} (hms : ∀ m ∈ ms, SummOK P m.1 (meSumm m.2.1 m.2.2)) {k : FuncId} {F : Pure1} (own : Bool) (he : entersB P k = true)
  (hv : ∀ as b r, F as = some (b, r) → b ≠ some false → WFL as → VC P (meTab ms l) noL own k as r) : PureOK P k F :=
 pure_plain hm (meTab_ok hl hms) meTab_local own he hv
def bornSumm (es : List (Int × AV)) : Summ := fun args _ fr => match args with
 | [] => some { obl := none, val := .mp fr, writes := [(fr, .map es)] }
 | _ => none
theorem bornSumm_local (es : List (Int × AV)) : SummLocal (bornSumm es) := by
 intro args H H' fr e h _
 unfold bornSumm at h ⊢
 split at h
 ·exact h
 ·cases h
def bornTab (ms : List (FuncId × List (Int × AV))) (S : FuncId → Option Summ) : FuncId → Option Summ := fun k => match ms with
 | [] => S k
 | (q, es) :: ms => if k = q then some (bornSumm es) else bornTab ms S k
theorem bornTab_ok {S : FuncId → Option Summ} (hS : ∀ k s, S k = some s → SummOK P k s) : ∀ {ms : List (FuncId × List (Int × AV))}, (∀ m ∈ ms, SummOK P m.1 (bornSumm m.2)) → ∀ k s, bornTab ms S k = some s → SummOK P k s
 | [], _, k, s, h => hS k s h
 | (q, es) :: ms, hm, k, s, h => by
  unfold bornTab at h
  split at h
  ·rename_i e
   subst e
   cases h
   exact hm (k, es) (by simp)
  ·exact bornTab_ok hS (fun m hmm => hm m (by simp [hmm])) k s h
theorem bornTab_local {S : FuncId → Option Summ} (hS : ∀ k s, S k = some s → SummLocal s) : ∀ {ms : List (FuncId × List (Int × AV))} k s, bornTab ms S k = some s → SummLocal s
 | [], k, s, h => hS k s h
 | (q, es) :: ms, k, s, h => by
  unfold bornTab at h
  split at h
  ·cases h
   exact bornSumm_local es
  ·exact bornTab_local hS k s h
theorem bornTab_plain (hm : P.follows .mixedOrders = true) {l : List (FuncId × Pure1)} (hl : ∀ p ∈ l, PureOK P p.1 p.2) {ms : List (FuncId × List (Int × AV))} (hms : ∀ m ∈ ms, SummOK P m.1 (bornSumm m.2)) {k : FuncId} {F : Pure1} (own : Bool) (he : entersB P k = true)
  (hv : ∀ as b r, F as = some (b, r) → b ≠ some false → WFL as → VC P (bornTab ms (tabS l)) noL own k as r) : PureOK P k F :=
 pure_plain hm (bornTab_ok (tabS_ok hl) hms) (bornTab_local tabS_local) own he hv
theorem bornSumm_ok (hm : P.follows .mixedOrders = true) {k : FuncId} {es : List (Int × AV)} (hent : Enters P k) (hcl : ∀ (c c' : Cx) ms, MapIs c es ms → MapIs c' es ms)
  (hrun : callN P (fun _ => none) noL 2 k [] [] (fun v H => v = .mp 0 ∧ H = [some (.map es)])) : SummOK P k (bornSumm es) := by
 refine ⟨hent, fun w0 H c args vs fr e hh hr hfr he hobl => ?_⟩
 unfold bornSumm at he
 split at he
 ·cases he
  let c0 : Cx := ⟨c.w, fun _ => none, c.S⟩
  have h0 : HeapOK ⟨c.w.heap, c.S⟩ [] c0 := by
   refine ⟨?_, ?_, ?_, fun _ _ => rfl, hh.stable, fun _ _ => rfl, Nat.le_refl _, fun b hb => .inl hb⟩
   ·intro id o ho
    simp [Heap.at] at ho
   ·rintro id id' p p' ⟨o, ho, _⟩
    simp [Heap.at] at ho
   ·rintro id p ⟨o, ho, _⟩
    simp [Heap.at] at ho
  have hr0 : RelL c0 [] vs.toList := by
   cases hv : vs.toList with
   | nil => trivial
   | cons x xs => rw [hv] at hr; exact hr.elim
  refine ((callN_sound hm (S := fun _ => none) (fun _ _ h => by cases h) (fun _ _ h => by cases h) (L := noL) (fun _ _ _ _ _ _ _ _ h => by cases h) 2 _ _ _ _ hrun).2 ⟨c.w.heap, c.S⟩ c0 vs h0 hr0).mono ?_
  rintro en w' ⟨v, c', av, H', rfl, rfl, g1, g2, g3, rfl, rfl⟩
  obtain ⟨p, hp, hv⟩ := g3
  obtain ⟨p', hp', arr, clk, ha, hes⟩ := g2.obj 0 _ rfl
  rw [hp] at hp'
  cases hp'
  obtain ⟨o1, o2, o3⟩ := g2.out 0 p ⟨_, rfl, hp, trivial⟩
  have o1 : c.w.heap.size ≤ p.b := o1
  have hkept : ∀ b, b < c.w.heap.size → c'.w.heap[b]? = c.w.heap[b]? := g2.kept
  obtain ⟨m1, m2⟩ := hh.move (w' := c'.w) (S' := c.S) (fun _ h => h) (fun x hx => ⟨.inl hx, Nat.lt_of_lt_of_le (hh.stable x hx) g2.grown⟩) hkept g2.grown g1.rest
  have hπ0 := hh.free fr (hfr fr (Nat.le_refl _) (by omega))
  let cm : Cx := ⟨c'.w, c.π, c.S⟩
  let c1 : Cx := cm.putAt c'.w fr p
  have hle : cm.le c1 := by
   refine ⟨?_, fun _ h => h, fun _ _ => rfl, Nat.le_refl _, rfl, rfl, rfl⟩
   intro x q hx
   show (if x = fr then some p else c.π x) = some q
   rw [if_neg (by rintro rfl; rw [show cm.π x = c.π x from rfl, hπ0] at hx; cases hx)]
   exact hx
  have h1 : HeapOK w0 (setAt H fr (.map es)) c1 := by
   refine m1.write fr (.map es) p hle (fun _ h => h) (by simp [c1, Cx.putAt]) (fun x hx => by simp [c1, Cx.putAt, hx, cm]) (fun _ _ _ _ => rfl) ⟨arr, clk, ha, hcl _ _ _ hes⟩ ?_ (fun _ _ => rfl)
   intro _
   refine ⟨Nat.le_trans hh.grown o1, o2, fun hs => ?_, fun x q _ hx => ?_⟩
   ·have : p.b < c.w.heap.size := hh.stable _ hs
    omega
   ·obtain ⟨o, ho, hq, hmm⟩ := hx
    have := (hh.out x q ⟨o, ho, hq, hmm⟩).2.1
    omega
  refine ⟨v, c1, rfl, rfl, m2.trans hle, h1, p, ?_, hv⟩
  simp [c1, Cx.putAt]
 ·cases he
end
end Go.Own
end
section
set_option maxRecDepth 100000
namespace Go.Own
open Go
theorem owl : type_of% (And.intro @asrt_iff (And.intro @br_iff (And.intro @ieq_t (And.intro @ieq_f (And.intro @ine_t (And.intro @ine_f (And.intro @ilt_t (And.intro @ilt_f (And.intro @ile_t (And.intro @ile_f (And.intro @igt_t (And.intro @igt_f (And.intro @ige_t (And.intro @ige_f (And.intro @nlt_t (And.intro @nlt_f (And.intro @nle_t (And.intro @nle_f (And.intro @neq_t (And.intro @neq_f (And.intro @beq2_t (And.intro @beq2_f (And.intro @bnot_t (And.intro @bnot_f (And.intro @band_t (And.intro @band_f (And.intro @bite_t (And.intro @bite_f (And.intro @bimp_t (And.intro @bimp_f (And.intro @iadd_e (And.intro @isub_e (And.intro @imul_e (And.intro @ofN_e (And.intro @nOf_e (And.intro @nAdd_e (And.intro @nDiff_e (And.intro @room_e (And.intro @lenI_e (And.intro @gI_e (And.intro @gB_e (And.intro @imin_e (And.intro @imax_e (And.intro @cat_e (And.intro @pt_e (And.intro @put_e (@some_f))))))))))))))))))))))))))))))))))))))))))))))) :=
 And.intro @asrt_iff (And.intro @br_iff (And.intro @ieq_t (And.intro @ieq_f (And.intro @ine_t (And.intro @ine_f (And.intro @ilt_t (And.intro @ilt_f (And.intro @ile_t (And.intro @ile_f (And.intro @igt_t (And.intro @igt_f (And.intro @ige_t (And.intro @ige_f (And.intro @nlt_t (And.intro @nlt_f (And.intro @nle_t (And.intro @nle_f (And.intro @neq_t (And.intro @neq_f (And.intro @beq2_t (And.intro @beq2_f (And.intro @bnot_t (And.intro @bnot_f (And.intro @band_t (And.intro @band_f (And.intro @bite_t (And.intro @bite_f (And.intro @bimp_t (And.intro @bimp_f (And.intro @iadd_e (And.intro @isub_e (And.intro @imul_e (And.intro @ofN_e (And.intro @nOf_e (And.intro @nAdd_e (And.intro @nDiff_e (And.intro @room_e (And.intro @lenI_e (And.intro @gI_e (And.intro @gB_e (And.intro @imin_e (And.intro @imax_e (And.intro @cat_e (And.intro @pt_e (And.intro @put_e (@some_f))))))))))))))))))))))))))))))))))))))))))))))
end Go.Own
end
