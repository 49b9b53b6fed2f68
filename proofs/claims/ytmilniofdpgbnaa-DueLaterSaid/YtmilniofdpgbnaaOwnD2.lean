/- The states of a region that draws its order: by which operations have been done. -/
import Derived.Test.YtmilniofdpgbnaaOwnD1
import Derived.Orders
set_option linter.unusedVariables false
set_option linter.unusedSimpArgs false
namespace Go.Own
open Go

/-- The state behind those that have been done, in the order of the text. -/
def stE (L : Nat → Bool) : Nat → List DEff → St → St
  | _, [], st => st
  | i, d :: ds, st => stE L (i + 1) ds (if L i then applyD d st else st)

theorem applyD_T (d : DEff) (st : St) (x : Nat) : (applyD d st).T[x]? = if d.dst = some x then (st.T[x]?).map (fun _ => d.val) else st.T[x]? := by
  unfold applyD
  cases hd : d.dst with
  | none => simp
  | some i =>
    simp only [List.getElem?_set]
    by_cases hi : i = x
    · subst hi
      simp only [if_true]
      by_cases hl : i < st.T.length
      · simp [hl]
      · simp [hl, List.getElem?_eq_none (Nat.le_of_not_lt hl)]
    · simp [hi]

theorem applyD_len (d : DEff) (st : St) : (applyD d st).T.length = st.T.length := by
  unfold applyD
  cases d.dst <;> simp

theorem stE_len (L : Nat → Bool) : ∀ (ds : List DEff) (i : Nat) (st : St), (stE L i ds st).T.length = st.T.length
  | [], _, _ => rfl
  | d :: ds, i, st => by
    simp only [stE]
    rw [stE_len L ds]
    split
    · exact applyD_len d st
    · rfl

theorem writeAll_at_not (id : Nat) : ∀ (ws : List (Nat × AObj)) (H : Heap), id ∉ ws.map (·.1) → (writeAll H ws).at id = H.at id
  | [], _, _ => rfl
  | (k, o) :: ws, H, h => by
    simp only [List.map_cons, List.mem_cons, not_or] at h
    simp only [writeAll]
    rw [writeAll_at_not id ws _ h.2, Heap.at_setAt, if_neg h.1]

theorem writeAll_at_same (id : Nat) : ∀ (ws : List (Nat × AObj)) (H H' : Heap), H.at id = H'.at id → (writeAll H ws).at id = (writeAll H' ws).at id
  | [], _, _, h => h
  | (k, o) :: ws, H, H', h => by
    simp only [writeAll]
    exact writeAll_at_same id ws _ _ (by rw [Heap.at_setAt, Heap.at_setAt, h])

theorem writeAll_at_mem (id : Nat) : ∀ (ws : List (Nat × AObj)) (H H' : Heap), id ∈ ws.map (·.1) → (writeAll H ws).at id = (writeAll H' ws).at id
  | [], _, _, h => by simp at h
  | (k, o) :: ws, H, H', h => by
    simp only [writeAll]
    by_cases hk : id = k
    · exact writeAll_at_same id ws _ _ (by rw [Heap.at_setAt, Heap.at_setAt, if_pos hk, if_pos hk])
    · simp only [List.map_cons, List.mem_cons, hk, false_or] at h
      exact writeAll_at_mem id ws _ _ h

abbrev WritesT (d : DEff) (x : Nat) : Prop := d.dst = some x
abbrev WritesH (d : DEff) (id : Nat) : Prop := id ∈ d.writes.map (·.1)

theorem applyD_H_same (d : DEff) (st st' : St) (id : Nat) (h : st.H.at id = st'.H.at id) : (applyD d st).H.at id = (applyD d st').H.at id := writeAll_at_same id d.writes _ _ h

theorem applyD_H_not (d : DEff) (st : St) (id : Nat) (h : ¬ WritesH d id) : (applyD d st).H.at id = st.H.at id := writeAll_at_not id d.writes _ h

theorem applyD_T_same (d : DEff) (st st' : St) (x : Nat) (h : st.T[x]? = st'.T[x]?) : (applyD d st).T[x]? = (applyD d st').T[x]? := by
  rw [applyD_T, applyD_T, h]

/-- Two sets that agree on whoever writes a place give the same there. -/
theorem stE_agree_T {L L' : Nat → Bool} (x : Nat) : ∀ (ds : List DEff) (i : Nat) (st st' : St), st.T[x]? = st'.T[x]? → (∀ k d, ds[k]? = some d → WritesT d x → L (i + k) = L' (i + k)) → (stE L i ds st).T[x]? = (stE L' i ds st').T[x]?
  | [], _, _, _, h, _ => h
  | d :: ds, i, st, st', h, hw => by
    simp only [stE]
    refine stE_agree_T x ds (i + 1) _ _ ?_ (fun k e hk he => by have := hw (k + 1) e (by simpa using hk) he; rwa [show i + (k + 1) = i + 1 + k by omega] at this)
    by_cases hd : WritesT d x
    · have := hw 0 d rfl hd
      rw [Nat.add_zero] at this
      rw [← this]
      split
      · exact applyD_T_same d _ _ x h
      · exact h
    · have e1 : ∀ s : St, (applyD d s).T[x]? = s.T[x]? := fun s => by rw [applyD_T, if_neg hd]
      split <;> split <;> simp [e1, h]

theorem stE_agree_H {L L' : Nat → Bool} (id : Nat) : ∀ (ds : List DEff) (i : Nat) (st st' : St), st.H.at id = st'.H.at id → (∀ k d, ds[k]? = some d → WritesH d id → L (i + k) = L' (i + k)) → (stE L i ds st).H.at id = (stE L' i ds st').H.at id
  | [], _, _, _, h, _ => h
  | d :: ds, i, st, st', h, hw => by
    simp only [stE]
    refine stE_agree_H id ds (i + 1) _ _ ?_ (fun k e hk he => by have := hw (k + 1) e (by simpa using hk) he; rwa [show i + (k + 1) = i + 1 + k by omega] at this)
    by_cases hd : WritesH d id
    · have := hw 0 d rfl hd
      rw [Nat.add_zero] at this
      rw [← this]
      split
      · exact applyD_H_same d _ _ id h
      · exact h
    · have e1 : ∀ s : St, (applyD d s).H.at id = s.H.at id := fun s => applyD_H_not d s id hd
      split <;> split <;> simp [e1, h]

/-- One more is done. -/
theorem stE_insert_T {L L' : Nat → Bool} (x : Nat) : ∀ (ds : List DEff) (i k0 : Nat) (d : DEff) (st : St), ds[k0]? = some d → L (i + k0) = false → (∀ n, L' n = (L n || n == i + k0)) → (WritesT d x → ∀ k e, k0 < k → ds[k]? = some e → L (i + k) = true → ¬ WritesT e x) →
    (stE L' i ds st).T[x]? = (applyD d (stE L i ds st)).T[x]?
  | [], _, _, _, _, h, _, _, _ => by simp at h
  | e :: ds, i, 0, d, st, h, h0, hL, hw => by
    simp at h
    subst h
    simp only [stE]
    have h1 : L' i = true := by rw [hL]; simp
    have h2 : L i = false := h0
    rw [h1, h2]
    simp only [if_true, Bool.false_eq_true, if_false]
    have hag : ∀ k, L' (i + 1 + k) = L (i + 1 + k) := fun k => by
      rw [hL]
      have : ((i + 1 + k) == i + 0) = false := by simp; omega
      rw [this, Bool.or_false]
    by_cases hd : WritesT e x
    · have hno : ∀ (M : Nat → Bool) (s : St), (∀ k, M (i + 1 + k) = L (i + 1 + k)) → (stE M (i + 1) ds s).T[x]? = s.T[x]? := by
        intro M s hM
        have := stE_agree_T (L := M) (L' := fun _ => false) x ds (i + 1) s s rfl (fun k e' hk he' => by
          rw [hM]
          cases hLk : L (i + 1 + k) with
          | false => rfl
          | true => exact absurd he' (hw hd (k + 1) e' (by omega) (by simpa using hk) (by rw [← hLk]; congr 1; omega)))
        rw [this]
        clear this
        have : ∀ (ds : List DEff) (i : Nat) (s : St), stE (fun _ => false) i ds s = s := by
          intro ds
          induction ds with
          | nil => intros; rfl
          | cons a l ih => intros; simp [stE, ih]
        rw [this]
      rw [hno L' _ hag, applyD_T, applyD_T, if_pos hd, if_pos hd, hno L st (fun _ => rfl)]
    · rw [applyD_T, if_neg hd]
      refine stE_agree_T x ds (i + 1) _ _ (by rw [applyD_T, if_neg hd]) (fun k _ _ _ => hag k)
  | e :: ds, i, k0 + 1, d, st, h, h0, hL, hw => by
    simp only [stE]
    have h1 : L' i = L i := by
      rw [hL]
      have : (i == i + (k0 + 1)) = false := by simp
      rw [this, Bool.or_false]
    rw [h1]
    refine stE_insert_T x ds (i + 1) k0 d _ (by simpa using h) (by rw [← h0]; congr 1; omega) (fun n => by rw [hL]; congr 2; omega) (fun hd k e' hk hke hLk => hw hd (k + 1) e' (by omega) (by simpa using hke) (by rw [← hLk]; congr 1; omega))

theorem stE_none (ds : List DEff) : ∀ (i : Nat) (s : St), stE (fun _ => false) i ds s = s := by
  induction ds with
  | nil => intros; rfl
  | cons a l ih => intros; simp [stE, ih]

theorem stE_insert_H {L L' : Nat → Bool} (x : Nat) : ∀ (ds : List DEff) (i k0 : Nat) (d : DEff) (st : St), ds[k0]? = some d → L (i + k0) = false → (∀ n, L' n = (L n || n == i + k0)) → (WritesH d x → ∀ k e, k0 < k → ds[k]? = some e → L (i + k) = true → ¬ WritesH e x) →
    (stE L' i ds st).H.at x = (applyD d (stE L i ds st)).H.at x
  | [], _, _, _, _, h, _, _, _ => by simp at h
  | e :: ds, i, 0, d, st, h, h0, hL, hw => by
    simp at h
    subst h
    simp only [stE]
    have h1 : L' i = true := by rw [hL]; simp
    have h2 : L i = false := h0
    rw [h1, h2]
    simp only [if_true, Bool.false_eq_true, if_false]
    have hag : ∀ k, L' (i + 1 + k) = L (i + 1 + k) := fun k => by
      rw [hL]
      have : ((i + 1 + k) == i + 0) = false := by simp; omega
      rw [this, Bool.or_false]
    by_cases hd : WritesH e x
    · have hno : (stE L' (i + 1) ds (applyD e st)).H.at x = (applyD e st).H.at x := by
        have := stE_agree_H (L := L') (L' := fun _ => false) x ds (i + 1) (applyD e st) (applyD e st) rfl (fun k e' hk he' => by
          rw [hag]
          cases hLk : L (i + 1 + k) with
          | false => rfl
          | true => exact absurd he' (hw hd (k + 1) e' (by omega) (by simpa using hk) (by rw [← hLk]; congr 1; omega)))
        rw [this, stE_none]
      rw [hno]
      exact writeAll_at_mem x e.writes _ _ hd
    · rw [applyD_H_not _ _ _ hd]
      exact stE_agree_H x ds (i + 1) _ _ (applyD_H_not _ _ _ hd) (fun k _ _ _ => hag k)
  | e :: ds, i, k0 + 1, d, st, h, h0, hL, hw => by
    simp only [stE]
    have h1 : L' i = L i := by
      rw [hL]
      have : (i == i + (k0 + 1)) = false := by simp
      rw [this, Bool.or_false]
    rw [h1]
    refine stE_insert_H x ds (i + 1) k0 d _ (by simpa using h) (by rw [← h0]; congr 1; omega) (fun n => by rw [hL]; congr 2; omega) (fun hd k e' hk hke hLk => hw hd (k + 1) e' (by omega) (by simpa using hke) (by rw [← hLk]; congr 1; omega))

theorem stE_cond {L : Nat → Bool} {x j : Nat} {b : Bool} {v : AV} : ∀ (ds : List DEff) (i : Nat) (st : St), (stE L i ds st).T[x]? = some (.cond j b v) → st.T[x]? = some (.cond j b v) ∨ ∃ k d, ds[k]? = some d ∧ L (i + k) = true ∧ d.dst = some x ∧ d.val = .cond j b v
  | [], _, _, h => .inl h
  | d :: ds, i, st, h => by
    simp only [stE] at h
    rcases stE_cond ds (i + 1) _ h with h1 | ⟨k, e, h1, h2, h3, h4⟩
    · split at h1
      · rename_i hL
        rw [applyD_T] at h1
        split at h1
        · rename_i hd
          refine .inr ⟨0, d, rfl, by simpa using hL, hd, ?_⟩
          cases hx : st.T[x]? with
          | none => simp [hx] at h1
          | some y => simpa [hx] using h1
        · exact .inl h1
      · exact .inl h1
    · exact .inr ⟨k + 1, e, by simpa using h1, by rw [← h2]; congr 1; omega, h3, h4⟩

/- what must come ahead -/
theorem maskOf_bit {acc : List Nat} {i : Nat} : ∀ {es : List Edge}, (maskOf acc es).testBit i = true → ∃ e ∈ es, Region.binds .any e = true ∧ (i = e.on ∨ (acc.getD e.on 0).testBit i = true)
  | [], h => by simp [maskOf] at h
  | e :: es, h => by
    simp only [maskOf] at h
    split at h
    · rename_i hb
      rw [Nat.testBit_or, Nat.testBit_or] at h
      simp only [Bool.or_eq_true] at h
      rcases h with (h | h) | h
      · rw [Nat.testBit_two_pow] at h
        exact ⟨e, by simp, hb, .inl (by simp at h; exact h.symm)⟩
      · exact ⟨e, by simp, hb, .inr h⟩
      · obtain ⟨e', h1, h2, h3⟩ := maskOf_bit h
        exact ⟨e', by simp [h1], h2, h3⟩
    · obtain ⟨e', h1, h2, h3⟩ := maskOf_bit h
      exact ⟨e', by simp [h1], h2, h3⟩

theorem befs_get : ∀ (os : List Oper) (acc : List Nat), (∀ k, k < acc.length → (befs acc os)[k]? = acc[k]?) ∧ ∀ k o, os[k]? = some o → ∃ pre, (∀ m, m < acc.length + k → pre.getD m 0 = (befs acc os).getD m 0) ∧ (∀ m, acc.length + k ≤ m → pre.getD m 0 = 0) ∧ (befs acc os)[acc.length + k]? = some (maskOf pre o.after.toList)
  | [], acc => ⟨fun k _ => rfl, fun k o h => by simp at h⟩
  | o :: os, acc => by
    obtain ⟨h1, h2⟩ := befs_get os (acc ++ [maskOf acc o.after.toList])
    have e1 : ∀ k, k < acc.length → (befs acc (o :: os))[k]? = acc[k]? := fun k hk => by
      simp only [befs]
      rw [h1 k (by simp; omega), List.getElem?_append_left hk]
    refine ⟨e1, fun k o' ho => ?_⟩
    cases k with
    | zero =>
      simp at ho
      subst ho
      refine ⟨acc, fun m hm => ?_, fun m hm => ?_, ?_⟩
      · simp only [Nat.add_zero] at hm
        rw [List.getD_eq_getElem?_getD, List.getD_eq_getElem?_getD, e1 m hm]
      · simp only [Nat.add_zero] at hm
        rw [List.getD_eq_getElem?_getD, List.getElem?_eq_none hm]
        rfl
      · simp only [befs, Nat.add_zero]
        rw [h1 acc.length (by simp), List.getElem?_append_right (Nat.le_refl _)]
        simp
    | succ k =>
      obtain ⟨pre, p1, p2, p3⟩ := h2 k o' (by simpa using ho)
      refine ⟨pre, fun m hm => ?_, fun m hm => ?_, ?_⟩
      · exact p1 m (by simp; omega)
      · exact p2 m (by simp; omega)
      · simp only [befs]
        rw [← p3]
        congr 1
        simp
        omega

/-- Whatever must come ahead of one that may come next has been done. -/
theorem bef_done {l : List Oper} {L : Nat → Bool} (hclosed : ∀ j o, l[j]? = some o → L j = true → ∀ e ∈ o.after.toList, Region.binds .any e = true → L e.on = true) :
    ∀ (j : Nat) (o : Oper) (i : Nat), l[j]? = some o → (∀ e ∈ o.after.toList, Region.binds .any e = true → L e.on = true) → ((befs [] l).getD j 0).testBit i = true → L i = true := by
  intro j
  induction j using Nat.strongRecOn with
  | _ j ih =>
    intro o i ho hready hb
    obtain ⟨pre, p1, p2, p3⟩ := (befs_get l []).2 j o ho
    simp only [List.length_nil, Nat.zero_add] at p1 p2 p3
    rw [List.getD_eq_getElem?_getD, p3] at hb
    simp only [Option.getD_some] at hb
    obtain ⟨e, he, hbind, hcase⟩ := maskOf_bit hb
    have hLe := hready e he hbind
    rcases hcase with rfl | hcase
    · exact hLe
    · by_cases hlt : e.on < j
      · rw [p1 _ hlt] at hcase
        cases hoe : l[e.on]? with
        | none =>
          have : (befs [] l).getD e.on 0 = 0 := by
            have hge : l.length ≤ e.on := by
              rcases Nat.lt_or_ge e.on l.length with h1 | h1
              · rw [List.getElem?_eq_getElem h1] at hoe
                cases hoe
              · exact h1
            have := (List.getElem?_eq_some_iff.1 ho).1
            omega
          rw [this] at hcase
          simp at hcase
        | some oe => exact ih e.on hlt oe i hoe (hclosed e.on oe hoe hLe) hcase
      · rw [p2 _ (by omega)] at hcase
        simp at hcase

end Go.Own
