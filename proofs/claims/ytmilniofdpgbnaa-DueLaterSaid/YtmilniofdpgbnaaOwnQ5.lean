/- From a verification condition to the contract. -/
import Derived.Test.YtmilniofdpgbnaaOwnQ4
set_option linter.unusedVariables false
set_option linter.unusedSimpArgs false
namespace Go.Own
open Go

mutual
/-- The columns of a slice are as long as it is. -/
def WF : AV → Prop
  | .sl n cols => ∀ col ∈ cols, col.len = n
  | .agg cs => WFL cs
  | .tup cs => WFL cs
  | .ip cs => WFL cs
  | .fn _ xs ys => WFL xs ∧ WFL ys
  | .ifc _ x => WF x
  | .mapv ks cols _ => (∀ col ∈ cols, col.len = ks.length) ∧ ks.Nodup
  | _ => True
def WFL : List AV → Prop
  | [] => True
  | x :: xs => WF x ∧ WFL xs
end

section
variable {P : Program} {w0 : Base} {H : Heap} {c : Cx}

mutual
theorem Rel.wf : ∀ {a : AV} {v : Value}, Rel c a v → WF a
  | .sl n cols, v, r => by
    simp only [Rel] at r
    obtain ⟨_, _, _, _, h, _⟩ := r
    exact h
  | .agg cs, v, r => by
    simp only [Rel] at r
    obtain ⟨_, _, h⟩ := r
    exact RelL.wf h
  | .tup cs, v, r => by
    simp only [Rel] at r
    obtain ⟨_, _, h⟩ := r
    exact RelL.wf h
  | .ip cs, v, r => by
    simp only [Rel] at r
    obtain ⟨_, _, _, _, _, h, _⟩ := r
    exact RelL.wf h
  | .fn _ xs ys, v, r => by
    simp only [Rel] at r
    obtain ⟨_, _, _, h1, h2⟩ := r
    exact ⟨RelL.wf h1, RelL.wf h2⟩
  | .ifc _ x, v, r => by
    simp only [Rel] at r
    obtain ⟨_, _, h⟩ := r
    show WF x
    exact Rel.wf h
  | .top, _, _ => trivial
  | .bool _, _, _ => trivial
  | .int _ _, _, _ => trivial
  | .val _, _, _ => trivial
  | .emp _ _, _, _ => trivial
  | .own _ _ _, _, _ => trivial
  | .full _, _, _ => trivial
  | .osl _ _ _, _, _ => trivial
  | .ptr _ _ _, _, _ => trivial
  | .mp _, _, _ => trivial
  | .it _, _, _ => trivial
  | .mapv _ _ _, v, r => by
    simp only [Rel] at r
    obtain ⟨_, _, _, _, _, h⟩ := r
    exact ⟨h.col, h.nodup⟩
  | .omap _ _ _, _, _ => trivial
  | .cond _ _ _, _, _ => trivial
theorem RelL.wf : ∀ {as : List AV} {vs : List Value}, RelL c as vs → WFL as
  | [], _, _ => trivial
  | a :: as, v :: vs, r => ⟨Rel.wf r.1, RelL.wf r.2⟩
  | _ :: _, [], r => r.elim
end

/-- Which object lies at which place. -/
def Tags (H : Heap) (c : Cx) : List Nat → List Place → Prop
  | ids, [] => ids = []
  | ids, p :: ps => (p.cap = 0 ∧ Tags H c ids ps) ∨ ∃ id ids', ids = id :: ids' ∧ (p.cap ≠ 0 → ∃ q, Live H c id q ∧ q.b = p.b) ∧ Tags H c ids' ps

theorem Tags.append : ∀ {ps qs : List Place} {a b : List Nat}, Tags H c a ps → Tags H c b qs → Tags H c (a ++ b) (ps ++ qs)
  | [], _, a, b, h, h' => by
    simp only [Tags] at h
    subst h
    exact h'
  | p :: ps, qs, a, b, h, h' => by
    rcases h with ⟨h1, h2⟩ | ⟨id, ids, rfl, h1, h2⟩
    · exact .inl ⟨h1, h2.append h'⟩
    · exact .inr ⟨id, ids ++ b, rfl, h1, h2.append h'⟩

theorem Tags.mem : ∀ {ps : List Place} {a : List Nat}, Tags H c a ps → ∀ p ∈ ps, p.cap ≠ 0 → ∃ id ∈ a, ∃ q, Live H c id q ∧ q.b = p.b
  | [], _, _, p, hp, _ => by simp at hp
  | p :: ps, a, h, x, hx, hc => by
    rcases h with ⟨h1, h2⟩ | ⟨id, ids, rfl, h1, h2⟩
    · rcases List.mem_cons.1 hx with rfl | hx
      · exact absurd h1 hc
      · exact h2.mem x hx hc
    · rcases List.mem_cons.1 hx with rfl | hx
      · exact ⟨id, by simp, h1 hc⟩
      · obtain ⟨id', k1, k2⟩ := h2.mem x hx hc
        exact ⟨id', by simp [k1], k2⟩

theorem Tags.apart (hh : HeapOK w0 H c) : ∀ {ps : List Place} {a : List Nat}, Tags H c a ps → nodupB a = true → Apart ps
  | [], _, _, _ => List.Pairwise.nil
  | p :: ps, a, h, hn => by
    rcases h with ⟨h1, h2⟩ | ⟨id, ids, rfl, h1, h2⟩
    · exact List.pairwise_cons.2 ⟨fun q _ hc _ => absurd h1 hc, Tags.apart hh h2 hn⟩
    · simp only [nodupB, Bool.and_eq_true, Bool.not_eq_true', List.contains_eq_mem, decide_eq_false_iff_not] at hn
      refine List.pairwise_cons.2 ⟨fun q hq hc hc' => ?_, Tags.apart hh h2 hn.2⟩
      obtain ⟨x, k1, k2⟩ := h1 hc
      obtain ⟨id', g1, y, g2, g3⟩ := h2.mem q hq hc'
      rw [← k2, ← g3]
      exact hh.apart id id' x y k1 g2 (by rintro rfl; exact hn.1 g1)

theorem Tags.new (hh : HeapOK w0 H c) {ps : List Place} {a : List Nat} (h : Tags H c a ps) : NewAt w0.heap.size c ps := by
  intro p hp hc
  obtain ⟨id, _, q, h1, h2⟩ := h.mem p hp hc
  rw [← h2]
  exact hh.out id q h1

theorem giveLeaf_own (hh : HeapOK w0 H c) {x r : AV} {ids : List Nat} {v : Value} (hx : giveLeaf true H x = some (r, ids)) (hr : Rel c x v) : ∃ ps, GiveLeaf c r v ps ∧ Tags H c ids ps := by
  cases x <;> simp only [giveLeaf, reduceCtorEq] at hx
  case bool b => cases hx; exact ⟨[], ⟨rfl, hr⟩, rfl⟩
  case int k n => cases hx; exact ⟨[], ⟨rfl, hr⟩, rfl⟩
  case val u => cases hx; exact ⟨[], ⟨rfl, hr⟩, rfl⟩
  case sl n cols => cases hx; exact ⟨[], ⟨rfl, hr⟩, rfl⟩
  case emp e cols =>
    cases cols with
    | nil => cases hx
    | cons col rest =>
      simp only [if_true, Option.some.injEq, Prod.mk.injEq] at hx
      obtain ⟨rfl, rfl⟩ := hx
      simp only [Rel] at hr
      obtain ⟨hl, a, rfl⟩ := hr
      exact ⟨[⟨0, (col :: rest).length, 0, 0⟩], ⟨_, a, rfl, rfl, fun h => absurd rfl h, rfl, rfl, Nat.le_refl _, by simp, hl, fun h => absurd rfl h⟩, .inl ⟨rfl, rfl⟩⟩
  case full id =>
    split at hx
    · rename_i e n cols hid
      simp only [if_true, Option.some.injEq, Prod.mk.injEq] at hx
      obtain ⟨rfl, rfl⟩ := hx
      simp only [Rel] at hr
      obtain ⟨p, a, hp, h1, h2⟩ := hr
      obtain ⟨p', hp', hob⟩ := hh.obj id _ hid
      rw [hp] at hp'
      cases hp'
      exact ⟨[p], ⟨p, a, rfl, h1, h2, hob⟩, .inr ⟨id, [], rfl, fun hc => ⟨p, ⟨_, hid, hp, hc⟩, rfl⟩, rfl⟩⟩
    · cases hx
  case osl id off n =>
    split at hx
    · rename_i e k cols hid
      cases off with
      | zero =>
        simp only [if_true, Option.some.injEq, Prod.mk.injEq] at hx
        obtain ⟨rfl, rfl⟩ := hx
        simp only [Rel] at hr
        obtain ⟨p, a, hp, h1, h2, h3, h4⟩ := hr
        obtain ⟨p', hp', hob⟩ := hh.obj id _ hid
        rw [hp] at hp'
        cases hp'
        obtain ⟨q1, q2, q3, q4, q5, q6⟩ := hob
        refine ⟨[⟨p.b, p.sz, n, p.cap⟩], ⟨_, a, rfl, h1, fun hc => by simpa using h4 (Nat.pos_of_ne_zero hc), rfl, by simpa using q2, by simp only; omega, by simpa using q4, ?_, ?_⟩, .inr ⟨id, [], rfl, fun hc => ⟨p, ⟨_, hid, hp, hc⟩, rfl⟩, rfl⟩⟩
        · intro col hcol
          obtain ⟨col0, g1, rfl⟩ := List.mem_map.1 hcol
          exact (Col.part_spec (c := c) (by rw [q5 col0 g1]; omega)).1
        · intro hc
          obtain ⟨arr, t, ha, hs, hx⟩ := q6 hc
          refine ⟨arr, t, ha, hs, fun i hi j col hj => ?_⟩
          rw [List.getElem?_map] at hj
          cases hcj : cols[j]? with
          | none => simp [hcj] at hj
          | some col0 =>
            simp [hcj] at hj
            subst hj
            obtain ⟨u, g2, g3⟩ := hx i (by omega) j col0 hcj
            exact ⟨u, g2, (Col.part_spec (by rw [q5 col0 (List.mem_of_getElem? hcj)]; omega)).2 i u hi (by simpa using g3)⟩
      | succ off => simp at hx
    · cases hx
  case mp id =>
    split at hx
    · rename_i ks cols one hid
      simp only [if_true, Option.some.injEq, Prod.mk.injEq] at hx
      obtain ⟨rfl, rfl⟩ := hx
      simp only [Rel] at hr
      obtain ⟨p, hp, h1⟩ := hr
      obtain ⟨p', hp', hob⟩ := hh.obj id _ hid
      rw [hp] at hp'
      cases hp'
      exact ⟨[p], ⟨p, rfl, h1, hob⟩, .inr ⟨id, [], rfl, fun hc => ⟨p, ⟨_, hid, hp, trivial⟩, rfl⟩, rfl⟩⟩
    · cases hx

theorem giveLeaf_stay (hh : HeapOK w0 H c) {x r : AV} {ids : List Nat} {v : Value} (hx : giveLeaf false H x = some (r, ids)) (hr : Rel c x v)
    {π1 : Nat → Option Place} {S1 : Nat → Prop} (hS : ∀ b, c.S b → S1 b) (hb : ∀ b, w0.heap.size ≤ b → b < c.w.heap.size → S1 b) : GiveLeaf ⟨c.w, π1, S1⟩ r v [] := by
  cases x <;> simp only [giveLeaf, reduceCtorEq] at hx
  case bool b => cases hx; exact ⟨rfl, hr⟩
  case int k n => cases hx; exact ⟨rfl, hr⟩
  case val u => cases hx; exact ⟨rfl, hr⟩
  case sl n cols => cases hx; exact ⟨rfl, freeze_rel hh (x := .sl n cols) rfl hr hS (by simp)⟩
  case emp e cols =>
    cases cols with
    | nil => cases hx
    | cons col rest =>
      simp only [Bool.false_eq_true, if_false, Option.some.injEq, Prod.mk.injEq] at hx
      obtain ⟨rfl, rfl⟩ := hx
      exact ⟨rfl, freeze_rel hh (x := .emp e (col :: rest)) rfl hr hS (by simp)⟩
  case full id =>
    split at hx
    · rename_i e n cols hid
      simp only [Bool.false_eq_true, if_false, Option.some.injEq, Prod.mk.injEq] at hx
      obtain ⟨rfl, rfl⟩ := hx
      exact ⟨rfl, freeze_rel hh (x := .full id) (rd := [id]) (by simp [sliceOf, hid]) hr hS fun id _ q hq => hb _ (hh.out id q hq).1 (hh.out id q hq).2.1⟩
    · cases hx
  case osl id off n =>
    split at hx
    · rename_i e k cols hid
      cases off with
      | zero =>
        simp only [Bool.false_eq_true, if_false, Option.some.injEq, Prod.mk.injEq] at hx
        obtain ⟨rfl, rfl⟩ := hx
        exact ⟨rfl, freeze_rel hh (x := .osl id 0 n) (rd := [id]) (by simp [sliceOf, hid]) hr hS fun id _ q hq => hb _ (hh.out id q hq).1 (hh.out id q hq).2.1⟩
      | succ off =>
        simp only [Bool.false_eq_true, if_false, Option.some.injEq, Prod.mk.injEq] at hx
        obtain ⟨rfl, rfl⟩ := hx
        exact ⟨rfl, freeze_rel hh (x := .osl id (off + 1) n) (rd := [id]) (by simp [sliceOf, hid]) hr hS fun id _ q hq => hb _ (hh.out id q hq).1 (hh.out id q hq).2.1⟩
    · cases hx
  case mp id =>
    split at hx
    · simp at hx
    · cases hx


/-- Of lists: leaves, or cells. -/

theorem mapIds_own {f : AV → Option (AV × List Nat)} {G : AV → Value → List Place → Prop} (hf : ∀ x r ids v, f x = some (r, ids) → Rel c x v → ∃ ps, G r v ps ∧ Tags H c ids ps) :
    ∀ {xs rs : List AV} {ids : List Nat} {vs : List Value}, mapIds f xs = some (rs, ids) → RelL c xs vs → ∃ pss : List (List Place), pss.length = rs.length ∧ rs.length = vs.length ∧ (∀ (i : Nat) (r : AV) (v : Value) (ps : List Place), rs[i]? = some r → vs[i]? = some v → pss[i]? = some ps → G r v ps) ∧ Tags H c ids pss.flatten
  | [], rs, ids, vs, h, hr => by
    simp only [mapIds, Option.some.injEq, Prod.mk.injEq] at h
    obtain ⟨rfl, rfl⟩ := h
    cases vs with
    | nil => exact ⟨[], rfl, rfl, by simp, rfl⟩
    | cons v vs => exact hr.elim
  | x :: xs, rs, ids, [], h, hr => hr.elim
  | x :: xs, rs, ids, v :: vs, h, hr => by
    simp only [mapIds] at h
    split at h
    · rename_i y i1 ys' i2 h1 h2
      cases h
      obtain ⟨ps, k1, k2⟩ := hf _ _ _ _ h1 hr.1
      obtain ⟨pss, g1, g2, g3, g4⟩ := mapIds_own hf h2 hr.2
      refine ⟨ps :: pss, by simp [g1], by simp [g2], fun i r v ps h1 h2 h3 => ?_, k2.append g4⟩
      cases i with
      | zero =>
        simp at h1 h2 h3
        subst h1 h2 h3
        exact k1
      | succ i => exact g3 i r v ps (by simpa using h1) (by simpa using h2) (by simpa using h3)
    · cases h

theorem GiveList.of : ∀ {rs : List AV} {vs : List Value} {pss : List (List Place)}, pss.length = rs.length → rs.length = vs.length → (∀ (i : Nat) (r : AV) (v : Value) (ps : List Place), rs[i]? = some r → vs[i]? = some v → pss[i]? = some ps → GiveLeaf c r v ps) → GiveList c rs vs pss.flatten
  | [], [], [], _, _, _ => rfl
  | r :: rs, v :: vs, ps :: pss, h1, h2, h => ⟨ps, pss.flatten, rfl, h 0 r v ps rfl rfl rfl, GiveList.of (by simpa using h1) (by simpa using h2) fun i r v ps g1 g2 g3 => h (i + 1) r v ps (by simpa using g1) (by simpa using g2) (by simpa using g3)⟩
  | [], _ :: _, _, _, h, _ => by simp at h
  | _ :: _, [], _, _, h, _ => by simp at h
  | [], [], _ :: _, h, _, _ => by simp at h
  | _ :: _, _ :: _, [], h, _, _ => by simp at h

theorem GiveTup.of : ∀ {rs : List AV} {vs : List Value} {pss : List (List Place)}, pss.length = rs.length → rs.length = vs.length → (∀ (i : Nat) (r : AV) (v : Value) (ps : List Place), rs[i]? = some r → vs[i]? = some v → pss[i]? = some ps → GiveCells c r v ps) → GiveTup c rs vs pss.flatten
  | [], [], [], _, _, _ => rfl
  | r :: rs, v :: vs, ps :: pss, h1, h2, h => ⟨ps, pss.flatten, rfl, h 0 r v ps rfl rfl rfl, GiveTup.of (by simpa using h1) (by simpa using h2) fun i r v ps g1 g2 g3 => h (i + 1) r v ps (by simpa using g1) (by simpa using g2) (by simpa using g3)⟩
  | [], _ :: _, _, _, h, _ => by simp at h
  | _ :: _, [], _, _, h, _ => by simp at h
  | [], [], _ :: _, h, _, _ => by simp at h
  | _ :: _, _ :: _, [], h, _, _ => by simp at h

theorem leaf_not {x r : AV} {ids : List Nat} {own : Bool} (hx : giveLeaf own H x = some (r, ids)) {v : Value} {ps : List Place} (h : GiveLeaf c r v ps) : GiveCells c r v ps ∧ Gives c r v ps := by
  cases r <;> first | exact ⟨h, h⟩ | (simp [GiveLeaf] at h)

theorem giveCells_own (hh : HeapOK w0 H c) {x r : AV} {ids : List Nat} {v : Value} (hx : giveCells true H x = some (r, ids)) (hr : Rel c x v) : ∃ ps, GiveCells c r v ps ∧ Gives c r v ps ∧ Tags H c ids ps := by
  unfold giveCells at hx
  split at hx
  · rename_i cs
    split at hx
    · rename_i rs is hm
      cases hx
      simp only [Rel] at hr
      obtain ⟨vs, rfl, hr⟩ := hr
      obtain ⟨pss, g1, g2, g3, g4⟩ := mapIds_own (G := GiveLeaf c) (fun x r ids v h1 h2 => giveLeaf_own hh h1 h2) hm hr
      have := GiveList.of g1 g2 g3
      exact ⟨_, ⟨vs, rfl, this⟩, ⟨vs, rfl, this⟩, g4⟩
    · cases hx
  · obtain ⟨ps, h1, h2⟩ := giveLeaf_own hh hx hr
    obtain ⟨h3, h4⟩ := leaf_not hx h1
    exact ⟨ps, h3, h4, h2⟩

theorem mapIds_stay {f : AV → Option (AV × List Nat)} {G : AV → Value → List Place → Prop} (hf : ∀ x r ids v, f x = some (r, ids) → Rel c x v → G r v []) :
    ∀ {xs rs : List AV} {ids : List Nat} {vs : List Value}, mapIds f xs = some (rs, ids) → RelL c xs vs → rs.length = vs.length ∧ ∀ (i : Nat) (r : AV) (v : Value), rs[i]? = some r → vs[i]? = some v → G r v []
  | [], rs, ids, vs, h, hr => by
    simp only [mapIds, Option.some.injEq, Prod.mk.injEq] at h
    obtain ⟨rfl, rfl⟩ := h
    cases vs with
    | nil => exact ⟨rfl, by simp⟩
    | cons v vs => exact hr.elim
  | x :: xs, rs, ids, [], h, hr => hr.elim
  | x :: xs, rs, ids, v :: vs, h, hr => by
    simp only [mapIds] at h
    split at h
    · rename_i y i1 ys' i2 h1 h2
      cases h
      obtain ⟨g2, g3⟩ := mapIds_stay hf h2 hr.2
      refine ⟨by simp [g2], fun i r v h3 h4 => ?_⟩
      cases i with
      | zero =>
        simp at h3 h4
        subst h3 h4
        exact hf _ _ _ _ h1 hr.1
      | succ i => exact g3 i r v (by simpa using h3) (by simpa using h4)
    · cases h

theorem flatten_nils {n : Nat} : (List.replicate n ([] : List Place)).flatten = [] := by
  induction n with
  | zero => rfl
  | succ n ih => simp [List.replicate_succ, ih]

theorem giveCells_stay (hh : HeapOK w0 H c) {x r : AV} {ids : List Nat} {v : Value} (hx : giveCells false H x = some (r, ids)) (hr : Rel c x v)
    {π1 : Nat → Option Place} {S1 : Nat → Prop} (hS : ∀ b, c.S b → S1 b) (hb : ∀ b, w0.heap.size ≤ b → b < c.w.heap.size → S1 b) : GiveCells ⟨c.w, π1, S1⟩ r v [] ∧ Gives ⟨c.w, π1, S1⟩ r v [] := by
  unfold giveCells at hx
  split at hx
  · rename_i cs
    split at hx
    · rename_i rs is hm
      cases hx
      simp only [Rel] at hr
      obtain ⟨vs, rfl, hr⟩ := hr
      obtain ⟨g2, g3⟩ := mapIds_stay (G := GiveLeaf ⟨c.w, π1, S1⟩) (fun x r ids v h1 h2 => giveLeaf_stay hh h1 h2 hS hb) hm hr
      have := GiveList.of (c := ⟨c.w, π1, S1⟩) (pss := List.replicate rs.length []) (by simp) g2 (fun i r v ps h1 h2 h3 => by
        rw [List.getElem?_replicate] at h3
        split at h3
        · cases h3; exact g3 i r v h1 h2
        · cases h3)
      rw [flatten_nils] at this
      exact ⟨⟨vs, rfl, this⟩, ⟨vs, rfl, this⟩⟩
    · cases hx
  · have h1 := giveLeaf_stay (π1 := π1) hh hx hr hS hb
    exact leaf_not hx h1

theorem give_own (hh : HeapOK w0 H c) {x r : AV} {v : Value} (hx : give true H x = some r) (hr : Rel c x v) : ∃ ps, Gives c r v ps ∧ Apart ps ∧ NewAt w0.heap.size c ps := by
  unfold give at hx
  split at hx
  · rename_i xs
    split at hx
    · rename_i rs ids hm
      split at hx
      · rename_i hn
        cases hx
        simp only [Rel] at hr
        obtain ⟨vs, rfl, hr⟩ := hr
        obtain ⟨pss, g1, g2, g3, g4⟩ := mapIds_own (G := GiveCells c) (fun x r ids v h1 h2 => let ⟨ps, k1, _, k2⟩ := giveCells_own hh h1 h2; ⟨ps, k1, k2⟩) hm hr
        exact ⟨_, ⟨vs, rfl, GiveTup.of g1 g2 g3⟩, g4.apart hh hn, g4.new hh⟩
      · cases hx
    · cases hx
  · split at hx
    · rename_i r' ids hm
      split at hx
      · rename_i hn
        cases hx
        obtain ⟨ps, _, k2, k3⟩ := giveCells_own hh hm hr
        exact ⟨ps, k2, k3.apart hh hn, k3.new hh⟩
      · cases hx
    · cases hx

theorem give_stay (hh : HeapOK w0 H c) {x r : AV} {v : Value} (hx : give false H x = some r) (hr : Rel c x v)
    {π1 : Nat → Option Place} {S1 : Nat → Prop} (hS : ∀ b, c.S b → S1 b) (hb : ∀ b, w0.heap.size ≤ b → b < c.w.heap.size → S1 b) : Gives ⟨c.w, π1, S1⟩ r v [] := by
  unfold give at hx
  split at hx
  · rename_i xs
    split at hx
    · rename_i rs ids hm
      split at hx
      · rename_i hn
        cases hx
        simp only [Rel] at hr
        obtain ⟨vs, rfl, hr⟩ := hr
        obtain ⟨g2, g3⟩ := mapIds_stay (G := GiveCells ⟨c.w, π1, S1⟩) (fun x r ids v h1 h2 => (giveCells_stay hh h1 h2 hS hb).1) hm hr
        have := GiveTup.of (c := ⟨c.w, π1, S1⟩) (pss := List.replicate rs.length []) (by simp) g2 (fun i r v ps h1 h2 h3 => by
          rw [List.getElem?_replicate] at h3
          split at h3
          · cases h3; exact g3 i r v h1 h2
          · cases h3)
        rw [flatten_nils] at this
        exact ⟨vs, rfl, this⟩
      · cases hx
    · cases hx
  · split at hx
    · rename_i r' ids hm
      split at hx
      · rename_i hn
        cases hx
        exact (giveCells_stay hh hm hr hS hb).2
      · cases hx
    · cases hx

/-- Whether the function has a body, and may be entered. -/
def entersB (P : Program) (k : FuncId) : Bool := match P.funcs[k]? with
  | some fn => !(fn.name == "runtime.NumGoroutine") && fn.body.isSome
  | none => false

theorem enters_of {k : FuncId} (h : entersB P k = true) : Enters P k := by
  unfold entersB at h
  split at h
  · rename_i fn hf
    simp only [Bool.and_eq_true, Bool.not_eq_true'] at h
    exact ⟨fn, hf, h.1, h.2⟩
  · cases h

theorem pure_of (hm : P.follows .mixedOrders = true) {S : FuncId → Option Summ} (hS : ∀ k s, S k = some s → SummOK P k s) (hL : ∀ k s, S k = some s → SummLocal s) {L : FuncId → Nat → Option LoopS}
    (hl : ∀ k fn c, P.funcs[k]? = some fn → fn.body = some c → ∀ p ∈ loopsOf c 1000, ∀ x, L k p.1 = some x → LoopIs P p.2 x) {k : FuncId} {F : Pure1} (own : Bool) (he : entersB P k = true)
    (hv : ∀ as b r, F as = some (b, r) → b ≠ some false → WFL as → VC P S L own k as r) : PureOK P k F := by
  refine ⟨enters_of he, fun c as vs b r hS0 hπ hr hF hb => ?_⟩
  have hvc := hv as b r hF hb hr.wf
  obtain ⟨_, hc⟩ := callN_sound hm hS hL hl 12 k as [] _ hvc
  have hh : HeapOK ⟨c.w.heap, c.S⟩ [] c := ⟨fun id o ho => by simp [Heap.at] at ho, fun id id' p p' h => by obtain ⟨o, ho, _⟩ := h; simp [Heap.at] at ho, fun id p h => by obtain ⟨o, ho, _⟩ := h; simp [Heap.at] at ho, fun id _ => hπ id, hS0, fun _ _ => rfl, Nat.le_refl _, fun b hb => .inl hb⟩
  refine (hc _ c vs hh hr).mono ?_
  rintro en w' ⟨v, c', av, H', rfl, rfl, h1, h2, h3, h4⟩
  cases own with
  | true =>
    obtain ⟨ps, g1, g2, g3⟩ := give_own h2 h4 h3
    exact ⟨v, c', ps, rfl, rfl, h1, h2.kept, fun x hx => ⟨h2.born x hx, h2.stable x hx⟩, g1, g2, g3⟩
  | false =>
    let S1 : Nat → Prop := fun x => c'.S x ∨ (c.w.heap.size ≤ x ∧ x < c'.w.heap.size)
    have := give_stay (π1 := c'.π) (S1 := S1) h2 h4 h3 (fun _ h => .inl h) (fun b h1 h2 => .inr ⟨h1, h2⟩)
    refine ⟨v, ⟨c'.w, c'.π, S1⟩, [], rfl, rfl, ⟨h1.π, fun x hx => .inl (h1.S x hx), h1.w, h1.size, h1.rest⟩, h2.kept, fun x hx => ?_, this, List.Pairwise.nil, fun p hp => by simp at hp⟩
    rcases hx with hx | hx
    · exact ⟨h2.born x hx, h2.stable x hx⟩
    · exact ⟨.inr hx.1, hx.2⟩

end
end Go.Own
