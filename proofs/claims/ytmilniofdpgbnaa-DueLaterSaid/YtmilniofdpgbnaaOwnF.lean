/- Rows of elements as flat cells. -/
import Derived.Test.YtmilniofdpgbnaaOwnO3
set_option linter.unusedVariables false
set_option linter.unusedSimpArgs false
namespace Go.Own
open Go

theorem zipAll_len {α β γ : Type} {f : α → β → Option γ} : ∀ {as : List α} {bs : List β} {cs : List γ}, zipAll f as bs = some cs → as.length = cs.length ∧ bs.length = cs.length
  | [], [], cs, h => by simp only [zipAll, Option.some.injEq] at h; subst h; simp
  | a :: as, b :: bs, cs, h => by
    simp only [zipAll] at h
    split at h
    · rename_i h1 h2
      cases h
      have := zipAll_len h2
      simp [this.1, this.2]
    · cases h
  | [], _ :: _, _, h => by simp [zipAll] at h
  | _ :: _, [], _, h => by simp [zipAll] at h

theorem zipAll_get {α β γ : Type} {f : α → β → Option γ} : ∀ {as : List α} {bs : List β} {cs : List γ}, zipAll f as bs = some cs → ∀ {i : Nat} {x : γ}, cs[i]? = some x → ∃ a b, as[i]? = some a ∧ bs[i]? = some b ∧ f a b = some x
  | [], [], cs, h, i, x, hx => by simp only [zipAll, Option.some.injEq] at h; subst h; simp at hx
  | a :: as, b :: bs, cs, h, i, x, hx => by
    simp only [zipAll] at h
    split at h
    · rename_i c cs' h1 h2
      cases h
      cases i with
      | zero => simp at hx; subst hx; exact ⟨a, b, rfl, rfl, h1⟩
      | succ i => exact zipAll_get h2 (by simpa using hx)
    · cases h
  | [], _ :: _, _, h, _, _, _ => by simp [zipAll] at h
  | _ :: _, [], _, h, _, _, _ => by simp [zipAll] at h

theorem overL_get {α : Type} (xs ys : List α) (a k : Nat) (h : a ≤ xs.length) : (overL xs a ys)[k]? = if k < a then xs[k]? else if k < a + ys.length then ys[k - a]? else xs[k]? := by
  unfold overL
  have hl : (xs.take a).length = a := by simp; omega
  by_cases h1 : k < a
  · rw [if_pos h1, List.append_assoc, List.getElem?_append_left (by omega), List.getElem?_take, if_pos h1]
  · rw [if_neg h1]
    by_cases h2 : k < a + ys.length
    · rw [if_pos h2, List.getElem?_append_left (by simp; omega), List.getElem?_append_right (by omega), hl]
    · rw [if_neg h2, List.getElem?_append_right (by simp; omega), List.getElem?_drop]
      congr 1
      simp
      omega

theorem overL_len {α : Type} (xs ys : List α) (a : Nat) (h : a + ys.length ≤ xs.length) : (overL xs a ys).length = xs.length := by
  unfold overL
  simp
  omega

theorem ovr_eq {α : Type} (xs ys : List α) (a : Nat) : ovr xs a ys = overL xs a ys := rfl

theorem idx_inj {s i j i' j' : Nat} (hj : j < s) (hj' : j' < s) (h : i * s + j = i' * s + j') : i = i' ∧ j = j' := by
  have h1 : (i * s + j) / s = i := by rw [Nat.mul_comm, Nat.mul_add_div (by omega), Nat.div_eq_of_lt hj]; omega
  have h2 : (i' * s + j') / s = i' := by rw [Nat.mul_comm, Nat.mul_add_div (by omega), Nat.div_eq_of_lt hj']; omega
  have h3 : (i * s + j) % s = j := by rw [Nat.mul_comm, Nat.mul_add_mod, Nat.mod_eq_of_lt hj]
  have h4 : (i' * s + j') % s = j' := by rw [Nat.mul_comm, Nat.mul_add_mod, Nat.mod_eq_of_lt hj']
  rw [h] at h1 h3
  exact ⟨h1.symm.trans h2, h3.symm.trans h4⟩

theorem idx_lt {s i j n : Nat} (hj : j < s) (hi : i < n) : i * s + j < n * s := by
  have : (i + 1) * s ≤ n * s := Nat.mul_le_mul_right _ (by omega)
  rw [Nat.succ_mul] at this
  omega

/-- Flat cells are what the columns say. -/
def FlatIs (c : Cx) (cols : List Col) (n : Nat) (us : List Value) : Prop :=
  ∀ i, i < n → ∀ (j : Nat) (col : Col), cols[j]? = some col → ∃ u, us[i * cols.length + j]? = some u ∧ ColIs c col i u

theorem FlatIs.mono {c c' : Cx} (h : c.le c') {cols : List Col} {n : Nat} {us : List Value} (f : FlatIs c cols n us) : FlatIs c' cols n us :=
  fun i hi j col hj => let ⟨u, h1, h2⟩ := f i hi j col hj; ⟨u, h1, h2.mono h⟩

theorem ColIs.one {c : Cx} {col : Col} {i : Nat} {u : Value} (h : ColIs c col i u) : u.oneCell' = true := by
  cases col with
  | int k l => simp only [ColIs] at h; subst h; rfl
  | bool l => simp only [ColIs] at h; subst h; rfl
  | ints k l => obtain ⟨_, _, rfl, _⟩ := h; rfl

theorem FlatIs.ones {c : Cx} {cols : List Col} {n : Nat} {us : List Value} (f : FlatIs c cols n us) (hl : us.length = n * cols.length) : ∀ u ∈ us, u.oneCell' = true := by
  intro u hu
  obtain ⟨k, hk, rfl⟩ := List.getElem_of_mem hu
  have hs : 0 < cols.length := by
    rcases Nat.eq_zero_or_pos cols.length with h0 | h0
    · rw [hl, h0] at hk; simp at hk
    · exact h0
  have hi : k / cols.length < n := by
    rw [Nat.div_lt_iff_lt_mul hs]
    omega
  have hj : k % cols.length < cols.length := Nat.mod_lt _ hs
  obtain ⟨u, h1, h2⟩ := f (k / cols.length) hi (k % cols.length) cols[k % cols.length] (List.getElem?_eq_getElem hj)
  have : k / cols.length * cols.length + k % cols.length = k := by rw [Nat.mul_comm]; exact Nat.div_add_mod k _
  rw [this, List.getElem?_eq_getElem hk] at h1
  cases h1
  exact h2.one

theorem IntsAt.of_sl {c : Cx} {k : IntKind} {n : Nat} {x : List Int} {u : Value} (h : Rel c (.sl n [.int k x]) u) : IntsAt c k x u ∧ n = x.length := by
  simp only [Rel] at h
  obtain ⟨base, cap, rfl, hcap, hlen, hr⟩ := h
  have hn : x.length = n := hlen (.int k x) (by simp)
  subst hn
  refine ⟨⟨base, cap, rfl, hcap, hr.imp id ?_⟩, rfl⟩
  rintro ⟨ad, rfl, hs, hS, hc⟩
  refine ⟨ad, rfl, hs, hS, fun i hi => ?_⟩
  obtain ⟨u, h1, h2⟩ := hc i hi 0 (.int k x) rfl
  simp only [ColIs] at h2
  subst h2
  simpa using h1

theorem IntsAt.emp {c : Cx} {k : IntKind} {e : TypeId} {cols : List Col} {u : Value} (h : Rel c (.emp e cols) u) : IntsAt c k [] u := by
  simp only [Rel] at h
  obtain ⟨_, b, rfl⟩ := h
  exact ⟨b, 0, rfl, Nat.le_refl _, .inl rfl⟩

theorem Col.set_spec {c : Cx} {col col' : Col} {i : Nat} {x : AV} (h : col.set i x = some col') :
    col'.len = col.len ∧ (∀ i' u, i' ≠ i → ColIs c col i' u → ColIs c col' i' u) ∧ (i < col.len → ∀ u, Rel c x u → ColIs c col' i u) := by
  cases col with
  | int k l =>
    cases x <;> simp only [Col.set, reduceCtorEq] at h
    rename_i k' n
    split at h
    · rename_i hk
      subst hk
      cases h
      refine ⟨by simp [Col.len, put], fun i' u hi hu => ?_, fun hi u hu => ?_⟩
      · simp only [ColIs, gI, put] at *
        rw [hu]
        simp [List.getD, List.getElem?_set, Ne.symm hi]
      · simp only [Rel] at hu
        simp only [ColIs, gI, put, Col.len] at *
        rw [hu]
        simp [List.getD, hi]
    · cases h
  | bool l =>
    cases x <;> simp only [Col.set, reduceCtorEq] at h
    cases h
    refine ⟨by simp [Col.len, put], fun i' u hi hu => ?_, fun hi u hu => ?_⟩
    · simp only [ColIs, gB, put] at *
      rw [hu]
      simp [List.getD, List.getElem?_set, Ne.symm hi]
    · simp only [Rel] at hu
      simp only [ColIs, gB, put, Col.len] at *
      rw [hu]
      simp [List.getD, hi]
  | ints k l =>
    have key : ∀ y, col' = .ints k (put l i y) → (∀ u, Rel c x u → IntsAt c k y u) → col'.len = (Col.ints k l).len ∧ (∀ i' u, i' ≠ i → ColIs c (.ints k l) i' u → ColIs c col' i' u) ∧ (i < (Col.ints k l).len → ∀ u, Rel c x u → ColIs c col' i u) := by
      rintro y rfl hy
      refine ⟨by simp [Col.len, put], fun i' u hi hu => ?_, fun hi u hu => ?_⟩
      · simp only [ColIs, gL, put] at *
        simpa [List.getD, List.getElem?_set, Ne.symm hi] using hu
      · simp only [ColIs, gL, put, Col.len] at *
        simpa [List.getD, hi] using hy u hu
    cases x <;> try (simp [Col.set] at h; done)
    · rename_i n cols
      rcases cols with _ | ⟨c1, rest⟩
      · simp [Col.set] at h
      · rcases rest with _ | ⟨c2, rest⟩
        · cases c1 <;> try (simp [Col.set] at h; done)
          rename_i k' y
          simp only [Col.set] at h
          split at h
          · rename_i hk
            subst hk
            cases h
            exact key y rfl fun u hu => (IntsAt.of_sl hu).1
          · cases h
        · cases c1 <;> simp [Col.set] at h
    · simp only [Col.set, Option.some.injEq] at h
      subst h
      exact key [] rfl fun u hu => IntsAt.emp hu

theorem Col.join_spec {c : Cx} {x y z : Col} (h : x.join y = some z) : z.len = x.len + y.len ∧ (∀ i u, i < x.len → ColIs c x i u → ColIs c z i u) ∧ (∀ i u, ColIs c y i u → ColIs c z (x.len + i) u) := by
  cases x <;> cases y <;> simp only [Col.join, reduceCtorEq] at h
  · split at h
    · rename_i hk
      subst hk
      cases h
      refine ⟨by simp [Col.len, cat], fun i u hi hu => ?_, fun i u hu => ?_⟩
      · simp only [ColIs, gI, cat, Col.len] at *
        rw [hu]; simp [List.getD, List.getElem?_append_left hi]
      · simp only [ColIs, gI, cat, Col.len] at *
        rw [hu]; simp [List.getD, List.getElem?_append_right]
    · cases h
  · cases h
    refine ⟨by simp [Col.len, cat], fun i u hi hu => ?_, fun i u hu => ?_⟩
    · simp only [ColIs, gB, cat, Col.len] at *
      rw [hu]; simp [List.getD, List.getElem?_append_left hi]
    · simp only [ColIs, gB, cat, Col.len] at *
      rw [hu]; simp [List.getD, List.getElem?_append_right]
  · split at h
    · rename_i hk
      subst hk
      cases h
      refine ⟨by simp [Col.len, cat], fun i u hi hu => ?_, fun i u hu => ?_⟩
      · simp only [ColIs, gL, cat, Col.len] at *
        simpa [List.getD, List.getElem?_append_left hi] using hu
      · simp only [ColIs, gL, cat, Col.len] at *
        simpa [List.getD, List.getElem?_append_right] using hu
    · cases h

theorem Col.over_spec {c : Cx} {x y z : Col} {a : Nat} (h : x.over a y = some z) (hf : a + y.len ≤ x.len) :
    z.len = x.len ∧ (∀ i u, i < a ∨ a + y.len ≤ i → ColIs c x i u → ColIs c z i u) ∧ (∀ i u, i < y.len → ColIs c y i u → ColIs c z (a + i) u) := by
  cases x <;> cases y <;> simp only [Col.over, reduceCtorEq] at h
  · split at h
    · rename_i l k' m hk
      subst hk
      cases h
      simp only [Col.len] at hf
      refine ⟨by simp only [Col.len, ovr_eq]; exact overL_len _ _ _ hf, fun i u hi hu => ?_, fun i u hi hu => ?_⟩
      · simp only [ColIs, gI, ovr_eq, Col.len] at *
        rw [hu]; simp only [List.getD, overL_get _ _ _ _ (show a ≤ l.length by omega)]
        rcases hi with hi | hi
        · rw [if_pos hi]
        · rw [if_neg (by omega), if_neg (by omega)]
      · simp only [ColIs, gI, ovr_eq, Col.len] at *
        rw [hu]; simp only [List.getD, overL_get _ _ _ _ (show a ≤ l.length by omega)]
        rw [if_neg (by omega), if_pos (by omega)]
        simp
    · cases h
  · rename_i l m
    cases h
    simp only [Col.len] at hf
    refine ⟨by simp only [Col.len, ovr_eq]; exact overL_len _ _ _ hf, fun i u hi hu => ?_, fun i u hi hu => ?_⟩
    · simp only [ColIs, gB, ovr_eq, Col.len] at *
      rw [hu]; simp only [List.getD, overL_get _ _ _ _ (show a ≤ l.length by omega)]
      rcases hi with hi | hi
      · rw [if_pos hi]
      · rw [if_neg (by omega), if_neg (by omega)]
    · simp only [ColIs, gB, ovr_eq, Col.len] at *
      rw [hu]; simp only [List.getD, overL_get _ _ _ _ (show a ≤ l.length by omega)]
      rw [if_neg (by omega), if_pos (by omega)]
      simp
  · split at h
    · rename_i l k' m hk
      subst hk
      cases h
      simp only [Col.len] at hf
      refine ⟨by simp only [Col.len, ovr_eq]; exact overL_len _ _ _ hf, fun i u hi hu => ?_, fun i u hi hu => ?_⟩
      · simp only [ColIs, gL, ovr_eq, Col.len] at *
        simp only [List.getD, overL_get _ _ _ _ (show a ≤ l.length by omega)]
        rcases hi with hi | hi
        · rw [if_pos hi]; exact hu
        · rw [if_neg (by omega), if_neg (by omega)]; exact hu
      · simp only [ColIs, gL, ovr_eq, Col.len] at *
        simp only [List.getD, overL_get _ _ _ _ (show a ≤ l.length by omega)]
        rw [if_neg (by omega), if_pos (by omega)]
        simpa using hu
    · cases h

theorem Col.part_spec {c : Cx} {x : Col} {a n : Nat} (hf : a + n ≤ x.len) : (x.part a n).len = n ∧ ∀ i u, i < n → ColIs c x (a + i) u → ColIs c (x.part a n) i u := by
  have e : ∀ {α : Type} (l : List α) (i : Nat), i < n → (pt l a n)[i]? = l[a + i]? := by
    intro α l i hi
    simp [pt, List.getElem?_take, hi]
  cases x with
  | int k l =>
    refine ⟨by simp [Col.part, Col.len, pt] at *; omega, fun i u hi hu => ?_⟩
    simp only [Col.part, ColIs, gI, List.getD, e l i hi] at *
    exact hu
  | bool l =>
    refine ⟨by simp [Col.part, Col.len, pt] at *; omega, fun i u hi hu => ?_⟩
    simp only [Col.part, ColIs, gB, List.getD, e l i hi] at *
    exact hu
  | ints k l =>
    refine ⟨by simp [Col.part, Col.len, pt] at *; omega, fun i u hi hu => ?_⟩
    simp only [Col.part, ColIs, gL, List.getD, e l i hi] at *
    exact hu

theorem cell_of_arr {w : World} {b : Nat} {arr : Array Value} {t : TypeId} {fz : Nat × Nat} (h : w.heap[b]? = some (.cells arr t fz)) (o : Nat) : w.cell? ⟨b, o, none⟩ = arr.toList[o]? := by
  simp [World.cell?, h]

theorem cells_from {w : World} {ad : Addr} {n : Nat} (h : ∀ k, k < n → ∃ u, w.cell? (ad.add k) = some u) : ∃ us : List Value, us.length = n ∧ ∀ (k : Nat) (u : Value), us[k]? = some u → w.cell? (ad.add k) = some u := by
  refine ⟨(List.range n).map fun k => (w.cell? (ad.add k)).getD undef, by simp, fun k u hk => ?_⟩
  rw [List.getElem?_map] at hk
  rcases Nat.lt_or_ge k n with hlt | hge
  · rw [List.getElem?_range hlt] at hk
    obtain ⟨v, hv⟩ := h k hlt
    simp [hv] at hk
    rw [hv, hk]
  · rw [List.getElem?_eq_none (by simpa using hge)] at hk
    simp at hk

theorem div_sound {k s : Nat} : k / s * s + k % s = k := by
  rw [Nat.mul_comm]; exact Nat.div_add_mod k s

/-- The elements of a row from one on. -/
theorem row_part {c : Cx} {cols : List Col} {k : Nat} {arr : List Value} (hf : FlatIs c cols k arr) (hlen : ∀ col ∈ cols, col.len = k) (off m : Nat) (hm : off + m ≤ k) (hsz : k * cols.length ≤ arr.length) :
    ((arr.drop (off * cols.length)).take (m * cols.length)).length = m * cols.length ∧ FlatIs c (cols.map (·.part off m)) m ((arr.drop (off * cols.length)).take (m * cols.length)) ∧ ∀ col ∈ cols.map (·.part off m), col.len = m := by
  have h1 : (off + m) * cols.length ≤ k * cols.length := Nat.mul_le_mul_right _ hm
  rw [Nat.add_mul] at h1
  refine ⟨by simp; omega, fun i hi j col hj => ?_, ?_⟩
  · rw [List.getElem?_map] at hj
    cases hc : cols[j]? with
    | none => simp [hc] at hj
    | some col0 =>
      simp [hc] at hj
      subst hj
      obtain ⟨u, h2, h3⟩ := hf (off + i) (by omega) j col0 hc
      have hjl : j < cols.length := (List.getElem?_eq_some_iff.1 hc).1
      refine ⟨u, ?_, (Col.part_spec (by rw [hlen col0 (List.mem_of_getElem? hc)]; exact hm)).2 i u hi h3⟩
      simp only [List.length_map]
      rw [List.getElem?_take, if_pos (idx_lt hjl hi), List.getElem?_drop, ← h2, Nat.add_mul, Nat.add_assoc]
  · intro col hcol
    obtain ⟨col0, h2, rfl⟩ := List.mem_map.1 hcol
    exact (Col.part_spec (c := c) (by rw [hlen col0 h2]; exact hm)).1

/-- A slice's cells, read. -/
theorem sliceOf_rel {w0 : Base} {H : Heap} {c : Cx} (hh : HeapOK w0 H c) {x : AV} {m : Nat} {ys : List Col} {rd : List Nat} {v : Value} (hx : sliceOf H x = some (m, ys, rd)) (hr : Rel c x v) :
    ∃ base cap us, v = .slice base m cap ∧ (m ≠ 0 → ∃ ad, base = some ad ∧ ∀ (k : Nat) (u : Value), us[k]? = some u → c.w.cell? (ad.add k) = some u) ∧ us.length = m * ys.length ∧ FlatIs c ys m us ∧ ∀ col ∈ ys, col.len = m := by
  unfold sliceOf at hx
  split at hx
  · rename_i n cols
    cases hx
    simp only [Rel] at hr
    obtain ⟨base, cap, rfl, hcap, hlen, hr⟩ := hr
    rcases hr with hr | ⟨ad, rfl, hs, hS, hc⟩
    · subst hr
      exact ⟨base, cap, [], rfl, fun h => absurd rfl h, by simp, fun i hi => by omega, hlen⟩
    · have key : ∀ k, k < m * ys.length → ∃ u, c.w.cell? (ad.add k) = some u := by
        intro k hk
        have hs0 : 0 < ys.length := by
          rcases Nat.eq_zero_or_pos ys.length with h0 | h0
          · rw [h0] at hk; simp at hk
          · exact h0
        obtain ⟨u, hu, _⟩ := hc (k / ys.length) ((Nat.div_lt_iff_lt_mul hs0).2 hk) (k % ys.length) _ (List.getElem?_eq_getElem (Nat.mod_lt _ hs0))
        rw [div_sound] at hu
        exact ⟨u, by rw [add_block _ _ hs]; exact hu⟩
      obtain ⟨us, hl, hu⟩ := cells_from key
      refine ⟨some ad, cap, us, rfl, fun _ => ⟨ad, rfl, hu⟩, hl, fun i hi j col hj => ?_, hlen⟩
      obtain ⟨u, h1, h2⟩ := hc i hi j col hj
      have hjl : j < ys.length := (List.getElem?_eq_some_iff.1 hj).1
      have hlt : i * ys.length + j < us.length := by rw [hl]; exact idx_lt hjl hi
      refine ⟨u, ?_, h2⟩
      have h3 := hu _ _ (List.getElem?_eq_getElem hlt)
      rw [add_block _ _ hs] at h3
      unfold cellIs at h1
      rw [h1] at h3
      rw [List.getElem?_eq_getElem hlt, Option.some.inj h3]
  · cases hx
    simp only [Rel] at hr
    obtain ⟨hlen, b, rfl⟩ := hr
    exact ⟨b, 0, [], rfl, fun h => absurd rfl h, by simp, fun i hi => by omega, hlen⟩
  · rename_i id
    split at hx
    · rename_i e n cols hid
      cases hx
      simp only [Rel] at hr
      obtain ⟨p, ad, hp, rfl, had⟩ := hr
      obtain ⟨p', hp', hob⟩ := hh.obj id _ hid
      rw [hp] at hp'
      cases hp'
      obtain ⟨q1, q2, q3, q4, q5, q6⟩ := hob
      subst q1
      by_cases h0 : p.n = 0
      · exact ⟨ad, p.cap, [], rfl, fun h => absurd h0 h, by simp [h0], fun i hi => by omega, q5⟩
      · obtain ⟨arr, t, ha, hs, hx⟩ := q6 (by omega)
        have had' := had (by omega)
        subst had'
        have hle : p.n * ys.length ≤ arr.toList.length := by
          have hl : arr.toList.length = p.cap * ys.length := by simp [hs, q2]
          rw [hl]
          exact Nat.mul_le_mul_right _ q3
        have hf : FlatIs c ys p.n arr.toList := fun i hi j col hj => by
          obtain ⟨u, h1, h2⟩ := hx i hi j col hj
          rw [q2] at h1
          exact ⟨u, by simpa using h1, h2⟩
        obtain ⟨r1, r2, r3⟩ := row_part hf q5 0 p.n (by omega) hle
        refine ⟨_, _, arr.toList.take (p.n * ys.length), rfl, fun _ => ⟨_, rfl, fun k u hk => ?_⟩, by simpa using r1, ?_, q5⟩
        · rw [add_off, cell_of_arr ha]
          rw [List.getElem?_take] at hk
          split at hk
          · simpa using hk
          · cases hk
        · intro i hi j col hj
          obtain ⟨u, h1, h2⟩ := hf i hi j col hj
          have hjl : j < ys.length := (List.getElem?_eq_some_iff.1 hj).1
          exact ⟨u, by rw [List.getElem?_take, if_pos (idx_lt hjl hi), h1], h2⟩
    · cases hx
  · rename_i id off n
    split at hx
    · rename_i e k cols hid
      cases hx
      simp only [Rel] at hr
      obtain ⟨p, ad, hp, rfl, hoff, hcap, had⟩ := hr
      obtain ⟨p', hp', hob⟩ := hh.obj id _ hid
      rw [hp] at hp'
      cases hp'
      obtain ⟨q1, q2, q3, q4, q5, q6⟩ := hob
      subst q1
      have r3 : ∀ col ∈ cols.map (·.part off m), col.len = m := by
        intro col hcol
        obtain ⟨col0, h2, rfl⟩ := List.mem_map.1 hcol
        exact (Col.part_spec (c := c) (by rw [q5 col0 h2]; exact hoff)).1
      by_cases h0 : m = 0
      · exact ⟨ad, _, [], rfl, fun h => absurd h0 h, by simp [h0], fun i hi => by omega, r3⟩
      · obtain ⟨arr, t, ha, hs, hx⟩ := q6 (by omega)
        have had' := had (by omega)
        subst had'
        have hle : p.n * cols.length ≤ arr.toList.length := by
          have hl : arr.toList.length = p.cap * cols.length := by simp [hs, q2]
          rw [hl]
          exact Nat.mul_le_mul_right _ q3
        have hf : FlatIs c cols p.n arr.toList := fun i hi j col hj => by
          obtain ⟨u, h1, h2⟩ := hx i hi j col hj
          rw [q2] at h1
          exact ⟨u, by simpa using h1, h2⟩
        obtain ⟨r1, r2, _⟩ := row_part hf q5 off m hoff hle
        refine ⟨_, _, _, rfl, fun _ => ⟨_, rfl, fun k u hk => ?_⟩, by simpa using r1, r2, r3⟩
        rw [add_off, cell_of_arr ha]
        rw [List.getElem?_take] at hk
        split at hk
        · rw [List.getElem?_drop] at hk
          rw [q2]
          exact hk
        · cases hk
    · cases hx
  · cases hx

end Go.Own
