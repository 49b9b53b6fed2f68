/- Loops where a caller's own memory is at hand: what they do not name stays. -/
import Derived.Test.YtmilniofdpgbnaaOwnM
set_option linter.unusedVariables false
set_option linter.unusedSimpArgs false
namespace Go.Own
open Go

section
variable {P : Program} {w0 : Base} {S : FuncId → Option Summ} {callf : CallF}

theorem gotAll_pre {st : St} : ∀ {srcs : List Src} {acc gots : List Got}, gotAll st srcs acc = some gots → ∀ i, i < acc.length → gots[i]? = acc[i]?
  | [], acc, gots, h, i, _ => by
    simp only [gotAll, Option.some.injEq] at h
    rw [h]
  | s :: ss, acc, gots, h, i, hi => by
    simp only [gotAll] at h
    split at h
    · rename_i g hg
      rw [gotAll_pre h i (by simp; omega), List.getElem?_append_left hi]
    · cases h

theorem head_got {st : St} {srcs : List Src} {gots : List Got} {j : Nat} (hh : headOld st srcs = some j) (hg : gotAll st srcs [] = some gots) : gots[0]? = some (.old j) := by
  cases srcs with
  | nil => cases hh
  | cons s ss =>
    simp only [headOld] at hh
    split at hh
    · rename_i j' hs
      cases hh
      simp only [gotAll, hs, List.nil_append] at hg
      rw [gotAll_pre hg 0 (by simp)]
      rfl
    · cases hh

theorem head_place {st : St} {srcs : List Src} {j : Nat} {c : Cx} {a : Act} (hh : headOld st srcs = some j) (h : StOK w0 st c a) : ∃ p, c.π j = some p := by
  cases srcs with
  | nil => cases hh
  | cons s ss =>
    simp only [headOld] at hh
    split at hh
    · rename_i j' hs
      cases hh
      cases s with
      | cell k i => simp [gotAt] at hs
      | tmp i =>
        simp only [gotAt] at hs
        have hr := h.tok.get i
        generalize hx : st.T.getD i .top = x at hs hr
        cases x with
        | full id =>
          simp only [gotOf, Option.some.injEq, Got.old.injEq] at hs
          subst hs
          simp only [RelT, Rel] at hr
          obtain ⟨p, _, hp, _⟩ := hr
          exact ⟨p, hp⟩
        | osl id o n =>
          simp only [gotOf, Option.some.injEq, Got.old.injEq] at hs
          subst hs
          simp only [RelT, Rel] at hr
          obtain ⟨p, _, hp, _⟩ := hr
          exact ⟨p, hp⟩
        | ptr id o n =>
          simp only [gotOf, Option.some.injEq, Got.old.injEq] at hs
          subst hs
          simp only [RelT, Rel] at hr
          obtain ⟨p, hp, _⟩ := hr
          exact ⟨p, hp⟩
        | mp id =>
          simp only [gotOf, Option.some.injEq, Got.old.injEq] at hs
          subst hs
          simp only [RelT, Rel] at hr
          obtain ⟨p, hp, _⟩ := hr
          exact ⟨p, hp⟩
        | it id =>
          simp only [gotOf, Option.some.injEq, Got.old.injEq] at hs
          subst hs
          simp only [RelT, Rel] at hr
          obtain ⟨p, hp, _⟩ := hr
          exact ⟨p, hp⟩
        | ifc t y =>
          cases y with
          | ptr id o n =>
            simp only [gotOf, Option.some.injEq, Got.old.injEq] at hs
            subst hs
            simp only [RelT, Rel] at hr
            obtain ⟨u, _, p, hp, _⟩ := hr
            exact ⟨p, hp⟩
          | _ => simp [gotOf] at hs
        | emp e cols =>
          simp only [gotOf] at hs
          split at hs <;> simp at hs
        | _ => simp [gotOf] at hs
    · cases hh

/-- What lies where in a frame. -/
theorem frame_at {H : Heap} {j : Nat} {ids : List Nat} {os : Heap} (id : Nat) :
    Heap.at (frameH H j ids os) id = if id < H.length then (if id = j then (match os with | some o :: _ => some (relO H.length j o) | _ => none) else if ids.contains id then (match H.at id with | some _ => some .dead | none => none) else H.at id) else if id = H.length then none else (match os.at (id - H.length) with | some o => some (relO H.length j o) | none => none) := by
  unfold frameH
  unfold Heap.at
  rw [List.getElem?_map]
  by_cases h1 : id < H.length
  · rw [List.getElem?_range (by omega)]
    simp only [Option.map_some, h1, if_true]
    by_cases h2 : id = j
    · simp only [h2, if_true]
      cases os with
      | nil => rfl
      | cons o os => cases o <;> rfl
    · simp only [h2, if_false]
      by_cases h3 : ids.contains id = true
      · simp only [h3, if_true]
        rw [List.getElem?_eq_getElem h1]
        cases H[id] <;> rfl
      · simp only [h3, Bool.false_eq_true, if_false]
        rw [List.getElem?_eq_getElem h1]
        try (cases H[id] <;> rfl)
  · by_cases h4 : id < H.length + os.length
    · rw [List.getElem?_range h4]
      simp only [Option.map_some, h1, if_false]
      by_cases h2 : id = H.length
      · simp only [h2, if_true]
      · simp only [h2, if_false]
        cases hx : os[id - H.length]? with
        | none => rfl
        | some o => cases o <;> rfl
    · have e : (List.range (H.length + os.length))[id]? = none := List.getElem?_eq_none (by simp; omega)
      rw [e]
      simp only [Option.map_none, h1, if_false]
      have e2 : os[id - H.length]? = none := List.getElem?_eq_none (by omega)
      simp [e2]

/-- The places behind a loop in a frame. -/
def frameπ (n j : Nat) (c0 c2 : Cx) (id : Nat) : Option Place := if id < n then c0.π id else if id = n then none else c2.π (id - n)

theorem rel_move {n j : Nat} {c0 c2 : Cx} (hj : j < n) (ha : ∀ p, c2.π 0 = some p → c0.π j = some p) : ∀ {x : AV} {v : Value}, movable x = true → Rel c2 x v → Rel ⟨c2.w, frameπ n j c0 c2, c0.S⟩ (relV n j x) v := by
  intro x v hm hr
  cases x with
  | top => trivial
  | int k i => exact hr
  | bool b => exact hr
  | val u => exact hr
  | emp e cols => exact hr
  | full k =>
    simp only [movable, bne_iff_ne, ne_eq] at hm
    simp only [Rel, relV] at hr ⊢
    obtain ⟨p, ad, hp, h⟩ := hr
    refine ⟨p, ad, ?_, h⟩
    unfold frameπ
    rw [if_neg (by omega), if_neg (by omega), Nat.add_sub_cancel_left]
    exact hp
  | osl k off m =>
    simp only [movable, bne_iff_ne, ne_eq] at hm
    simp only [Rel, relV] at hr ⊢
    obtain ⟨p, ad, hp, h⟩ := hr
    refine ⟨p, ad, ?_, h⟩
    unfold frameπ
    rw [if_neg (by omega), if_neg (by omega), Nat.add_sub_cancel_left]
    exact hp
  | ptr k i o =>
    simp only [Rel, relV] at hr ⊢
    obtain ⟨p, hp, h⟩ := hr
    refine ⟨p, ?_, h⟩
    unfold frameπ
    cases k with
    | zero =>
      simp only
      rw [if_pos hj]
      exact ha p hp
    | succ k =>
      simp only
      rw [if_neg (by omega), if_neg (by omega), Nat.add_sub_cancel_left]
      exact hp
  | ifc t y =>
    cases y with
    | ptr k i o =>
      simp only [Rel, relV] at hr ⊢
      obtain ⟨u, hu, p, hp, h⟩ := hr
      refine ⟨u, hu, p, ?_, h⟩
      unfold frameπ
      cases k with
      | zero =>
        simp only
        rw [if_pos hj]
        exact ha p hp
      | succ k =>
        simp only
        rw [if_neg (by omega), if_neg (by omega), Nat.add_sub_cancel_left]
        exact hp
    | _ => simp [movable] at hm
  | _ => simp [movable] at hm

theorem relL_move {n j : Nat} {c0 c2 : Cx} (hj : j < n) (ha : ∀ p, c2.π 0 = some p → c0.π j = some p) : ∀ {xs : List AV} {vs : List Value}, xs.all movable = true → RelL c2 xs vs → RelL ⟨c2.w, frameπ n j c0 c2, c0.S⟩ (xs.map (relV n j)) vs
  | [], [], _, _ => by simp [RelL]
  | x :: xs, v :: vs, hm, hr => by
    simp only [List.all_cons, Bool.and_eq_true] at hm
    exact ⟨rel_move hj ha hm.1 hr.1, relL_move hj ha hm.2 hr.2⟩
  | [], _ :: _, _, hr => by simp [RelL] at hr
  | _ :: _, [], _, hr => by simp [RelL] at hr

theorem obj_move {n j : Nat} {c0 c2 : Cx} (hj : j < n) (ha : ∀ p, c2.π 0 = some p → c0.π j = some p) {o : AObj} {p : Place} (hm : movableO o = true) (h : ObjAt c2 o p) : ObjAt ⟨c2.w, frameπ n j c0 c2, c0.S⟩ (relO n j o) p := by
  cases o with
  | dead => trivial
  | row e m cols =>
    simp only [movableO, List.all_eq_true] at hm
    simp only [ObjAt, relO] at h ⊢
    obtain ⟨h1, h2, h3, h4, h5, h6⟩ := h
    refine ⟨h1, h2, h3, h4, h5, fun hc => ?_⟩
    obtain ⟨arr, t, g1, g2, g3⟩ := h6 hc
    refine ⟨arr, t, g1, g2, fun i hi k col hk => ?_⟩
    obtain ⟨u, hu, hcol⟩ := g3 i hi k col hk
    exact ⟨u, hu, hcol.flat (hm col (List.mem_of_getElem? hk))⟩
  | var cs =>
    simp only [movableO] at hm
    simp only [ObjAt, relO] at h ⊢
    obtain ⟨arr, t, g1, g2⟩ := h
    exact ⟨arr, t, g1, relL_move hj ha hm g2⟩
  | _ => simp [movableO] at hm

theorem mem_rel {n j : Nat} {o : AObj} {p : Place} (hm : movableO o = true) (h : Mem (relO n j o) p) : Mem o p := by
  cases o with
  | row e m cols => exact h
  | var cs => trivial
  | dead => exact h
  | _ => simp [movableO] at hm

theorem frame_sound {H os : Heap} {T : List AV} {j : Nat} {gots : List Got} {c0 c2 : Cx} {a : Act} {pj : Place} (hh : HeapOK w0 H c0) (h0 : gots[0]? = some (.old j)) (hpj : c0.π j = some pj)
    (h2 : StOK w0 ⟨T, os⟩ c2 a) (hle : (cxOf w0 H c0 gots).leF 1 c2) (hfl : firstLive os = true) (hT : T.all movable = true) (hO : (os.all fun | some o => movableO o | none => true) = true) :
    ∃ c3, StOK w0 ⟨T.map (relV H.length j), frameH H j (oldIds gots) os⟩ c3 a ∧ c0.le c3 ∧ c3.w = c2.w := by
  have hjH : H.at j ≠ none := fun e => by rw [hh.free j e] at hpj; cases hpj
  have hj : j < H.length := by
    apply Classical.byContradiction
    intro hn
    exact hjH (by unfold Heap.at; rw [List.getElem?_eq_none (by omega)])
  have hπ1 : (cxOf w0 H c0 gots).π 0 = some pj := by simp [cxOf, piOf, h0, hpj]
  have hπ2 : c2.π 0 = some pj := hle.π 0 (by omega) pj hπ1
  have ha : ∀ p, c2.π 0 = some p → c0.π j = some p := fun p hp => by rw [hπ2] at hp; cases hp; exact hpj
  have hjm : j ∈ oldIds gots := mem_oldIds h0
  obtain ⟨o0, os', rfl, hd0⟩ : ∃ o0 os', os = some o0 :: os' ∧ o0 ≠ .dead := by
    unfold firstLive at hfl
    split at hfl
    · cases hfl
    · rename_i o l hx
      exact ⟨o, l, rfl, fun e => hx e⟩
    · cases hfl
  have hO' : ∀ k o, Heap.at (some o0 :: os') k = some o → movableO o = true := by
    intro k o ho
    unfold Heap.at at ho
    split at ho
    · rename_i o' hk
      cases ho
      have := List.all_eq_true.1 hO _ (List.mem_of_getElem? hk)
      simpa using this
    · cases ho
  have hat0 : Heap.at (some o0 :: os') 0 = some o0 := rfl
  -- what is old, and not named, is frozen in the loop
  have hS : ∀ b, c0.S b → c2.S b := fun b hb => hle.S b (.inl hb)
  have hold : ∀ id q, id ∉ oldIds gots → Live H c0 id q → c2.S q.b ∧ c2.w.heap[q.b]? = c0.w.heap[q.b]? := by
    intro id q hid hl
    have hs := frozen_of hh hid q hl
    exact ⟨hle.S _ hs, hle.w _ hs⟩
  let c3 : Cx := ⟨c2.w, frameπ H.length j c0 c2, c0.S⟩
  have hle3 : c0.le c3 := by
    refine ⟨fun id p hp => ?_, fun b hb => hb, fun b hb => hle.w b (.inl hb), hle.size, hle.rest⟩
    have hlt : id < H.length := by
      apply Classical.byContradiction
      intro hn
      have : H.at id = none := by unfold Heap.at; rw [List.getElem?_eq_none (by omega)]
      rw [hh.free id this] at hp
      cases hp
    show frameπ H.length j c0 c2 id = some p
    unfold frameπ
    rw [if_pos hlt]
    exact hp
  have hπold : ∀ id, id < H.length → c3.π id = c0.π id := fun id hid => if_pos hid
  have hπnew : ∀ id, H.length < id → c3.π id = c2.π (id - H.length) := fun id hid => (if_neg (by omega)).trans (if_neg (by omega))
  -- where what lives in the frame comes from
  have hlive : ∀ id p, Live (frameH H j (oldIds gots) (some o0 :: os')) c3 id p → (id < H.length ∧ id ∉ oldIds gots ∧ Live H c0 id p) ∨ (∃ k, Live (some o0 :: os') c2 k p ∧ ((id = j ∧ k = 0) ∨ (H.length < id ∧ k = id - H.length))) := by
    rintro id p ⟨o, ho, hp, hm⟩
    rw [frame_at] at ho
    split at ho
    · rename_i hlt
      rw [hπold id hlt] at hp
      split at ho
      · rename_i e
        subst e
        cases ho
        rw [hpj] at hp
        cases hp
        exact .inr ⟨0, ⟨o0, hat0, hπ2, mem_rel (hO' 0 o0 hat0) hm⟩, .inl ⟨rfl, rfl⟩⟩
      · split at ho
        · split at ho
          · cases ho
            exact hm.elim
          · cases ho
        · rename_i hc
          refine .inl ⟨hlt, ?_, ⟨o, ho, hp, hm⟩⟩
          simpa using hc
    · split at ho
      · cases ho
      · rename_i h1 h3
        split at ho
        · rename_i o' ho'
          cases ho
          rw [hπnew id (by omega)] at hp
          exact .inr ⟨id - H.length, ⟨o', ho', hp, mem_rel (hO' _ o' ho') hm⟩, .inr ⟨by omega, rfl⟩⟩
        · cases ho
  refine ⟨c3, ⟨⟨?_, ?_, ?_, ?_, ?_, ?_, ?_, ?_⟩, ⟨?_, ?_⟩, h2.plain⟩, hle3, rfl⟩
  · -- each object lies at its place
    intro id o ho
    rw [frame_at] at ho
    split at ho
    · rename_i hlt
      split at ho
      · rename_i e
        subst e
        cases ho
        refine ⟨pj, (hπold id hlt).trans hpj, ?_⟩
        obtain ⟨p, hp, hob⟩ := h2.heap.obj 0 o0 hat0
        have hp' : c2.π 0 = some p := hp
        rw [hπ2] at hp'
        cases hp'
        exact obj_move hj ha (hO' 0 o0 hat0) hob
      · split at ho
        · split at ho
          · rename_i o' ho'
            cases ho
            obtain ⟨p, hp, _⟩ := hh.obj id o' ho'
            exact ⟨p, (hπold id hlt).trans hp, trivial⟩
          · cases ho
        · rename_i hc
          obtain ⟨p, hp, hob⟩ := hh.obj id o ho
          refine ⟨p, (hπold id hlt).trans hp, hob.mono hle3 fun hm => ?_⟩
          exact (hold id p (by simpa using hc) ⟨o, ho, hp, hm⟩).2
    · split at ho
      · cases ho
      · split at ho
        · rename_i o' ho'
          cases ho
          obtain ⟨p, hp, hob⟩ := h2.heap.obj _ o' ho'
          exact ⟨p, (hπnew id (by omega)).trans hp, obj_move hj ha (hO' _ o' ho') hob⟩
        · cases ho
  · -- apart
    intro id id' p p' hl hl' hne
    rcases hlive id p hl with ⟨h1, h3, h4⟩ | ⟨k, h3, h4⟩
    · rcases hlive id' p' hl' with ⟨g1, g3, g4⟩ | ⟨k', g3, g4⟩
      · exact hh.apart id id' p p' h4 g4 hne
      · intro e
        have := (h2.heap.out k' p' g3).2.2
        rw [← e] at this
        exact this (hold id p h3 h4).1
    · rcases hlive id' p' hl' with ⟨g1, g3, g4⟩ | ⟨k', g3, g4⟩
      · intro e
        have := (h2.heap.out k p h3).2.2
        rw [e] at this
        exact this (hold id' p' g3 g4).1
      · refine h2.heap.apart k k' p p' h3 g3 ?_
        rcases h4 with ⟨e1, e2⟩ | ⟨e1, e2⟩ <;> rcases g4 with ⟨e3, e4⟩ | ⟨e3, e4⟩ <;> omega
  · -- out
    intro id p hl
    rcases hlive id p hl with ⟨h1, h3, h4⟩ | ⟨k, h3, h4⟩
    · obtain ⟨g1, g2, g3⟩ := hh.out id p h4
      exact ⟨g1, Nat.lt_of_lt_of_le g2 hle.size, g3⟩
    · obtain ⟨g1, g2, g3⟩ := h2.heap.out k p h3
      exact ⟨g1, g2, fun hs => g3 (hS _ hs)⟩
  · -- free
    intro id hid
    rw [frame_at] at hid
    by_cases hlt : id < H.length
    · rw [if_pos hlt] at hid
      rw [hπold id hlt]
      by_cases e : id = j
      · rw [if_pos e] at hid
        cases hid
      · rw [if_neg e] at hid
        split at hid
        · split at hid
          · cases hid
          · rename_i hn
            exact hh.free id hn
        · exact hh.free id hid
    · rw [if_neg hlt] at hid
      by_cases e : id = H.length
      · exact (if_neg hlt).trans (if_pos e)
      · rw [if_neg e] at hid
        rw [hπnew id (by omega)]
        split at hid
        · cases hid
        · rename_i hn
          exact h2.heap.free _ hn
  · exact fun b hb => Nat.lt_of_lt_of_le (hh.stable b hb) hle.size
  · exact h2.heap.kept
  · exact h2.heap.grown
  · exact hh.born
  · rw [List.length_map]
    exact h2.tok.1
  · intro i x hx
    simp only [List.getElem?_map, Option.map_eq_some_iff] at hx
    obtain ⟨y, hy, rfl⟩ := hx
    obtain ⟨u, hu, hr⟩ := h2.tok.2 i y hy
    refine ⟨u, hu, relT_of_rel ?_⟩
    have hmy : movable y = true := List.all_eq_true.1 hT y (List.mem_of_getElem? hy)
    refine rel_move hj ha hmy ?_
    exact hr.plain fun k b z e => by subst e; simp [movable] at hmy

theorem LoopSpec.okA (hm : P.follows .mixedOrders = true) (hS : ∀ k s, S k = some s → SummOK P k s) (hL : ∀ k s, S k = some s → SummLocal s) (hc : CallfOK P callf) {L : Nat → Option LoopS} {body : Code} {i : Nat} (hl : LoopsOK P 1 L body i) (s : LoopSpec) (μ : List AV → Heap → Nat)
    (h : ∀ vals objs Q, vals.length = s.keep.length → objs.length = s.srcs.length → WFL vals → WFH objs → s.goes vals objs Q → runCode P S callf L body i ⟨mkT s.keep vals s.n 0, objs⟩ (s.endsA μ vals objs Q)) : LoopFr P body s.framed := by
  intro w0 fl st Q hs c0 a QQ hst hQ
  unfold LoopSpec.framed at hs
  split at hs
  · rename_i j gots vals objs hj hg ht
    obtain ⟨gots', hg', h1, h4, h5, h6, h7⟩ := tidy_sound2 hst ht
    rw [hg] at hg'
    cases hg'
    have h0 := head_got hj hg
    obtain ⟨pj, hpj⟩ := head_place hj hst
    have key : ∀ (m : Nat) (vals : List AV) (objs : Heap) (c1 : Cx) (a : Act), μ vals objs < m → vals.length = s.keep.length → objs.length = s.srcs.length → WFL vals → WFH objs →
        s.goes vals objs (fun e vs os => asrt (firstLive os && (mkT s.keepE vs s.n 0).all movable && os.all fun | some o => movableO o | none => true) (Q e ⟨(mkT s.keepE vs s.n 0).map (relV st.H.length j), frameH st.H j (oldIds gots) os⟩)) →
        StOK w0 ⟨mkT s.keep vals s.n 0, objs⟩ c1 a → (cxOf w0 st.H c0 gots).leF 1 c1 → Code.rounds P body QQ m a c1.w := by
      have fin : ∀ (e : Ex) (vs : List AV) (os : Heap) (c2 : Cx) (a : Act), StOK w0 ⟨mkT s.keepE vs s.n 0, os⟩ c2 a → (cxOf w0 st.H c0 gots).leF 1 c2 → asrt (firstLive os && (mkT s.keepE vs s.n 0).all movable && os.all fun | some o => movableO o | none => true) (Q e ⟨(mkT s.keepE vs s.n 0).map (relV st.H.length j), frameH st.H j (oldIds gots) os⟩) → QQ (exOf e) a c2.w := by
        intro e vs os c2 a g1 g2 g3
        have hck : (firstLive os && (mkT s.keepE vs s.n 0).all movable && os.all fun | some o => movableO o | none => true) = true ∧ Q e ⟨(mkT s.keepE vs s.n 0).map (relV st.H.length j), frameH st.H j (oldIds gots) os⟩ := by
          generalize (firstLive os && (mkT s.keepE vs s.n 0).all movable && os.all fun | some o => movableO o | none => true) = b at g3
          cases b with
          | true => exact ⟨rfl, g3⟩
          | false => exact g3.elim
        obtain ⟨hck, hq⟩ := hck
        simp only [Bool.and_eq_true] at hck
        obtain ⟨c3, k1, k2, k3⟩ := frame_sound hst.heap h0 hpj g1 g2 hck.1.1 hck.1.2 hck.2
        have := hQ e _ c3 a k1 k2.F hq
        rw [k3] at this
        exact this
      intro m
      induction m with
      | zero => intro vals objs c1 a hμ; exact absurd hμ (Nat.not_lt_zero _)
      | succ m ih =>
        intro vals objs c1 a hμ k1 k2 k3 k4 k5 k6 k7
        rw [rounds_succ]
        refine runCode_sound hm hS hL hc body i _ _ hl (h vals objs _ k1 k2 k3 k4 k5) c1 a _ k6 ?_
        intro e st' c' a' g1 g2 g3
        have step : ∀ (srcs : List Src) (gots2 : List Got), headOld st' srcs = some 0 → gotAll st' srcs [] = some gots2 → (cxOf w0 st.H c0 gots).leF 1 (cxOf w0 st'.H c' gots2) := by
          intro srcs gots2 q1 q2
          refine (k7.trans g2).trans ⟨fun id hid p hp => ?_, hS_of, fun _ _ => rfl, Nat.le_refl _, rfl, rfl, rfl⟩
          have e0 : id = 0 := by omega
          subst e0
          have := head_got q1 q2
          simpa [cxOf, piOf, this] using hp
        cases e with
        | normal =>
          simp only [LoopSpec.endsA] at g3
          split at g3
          · rename_i hh0
            simp only [LoopSpec.ends] at g3
            split at g3
            · rename_i vs os ht'
              obtain ⟨gots2, f0, f1, f4, f5, f6, f7⟩ := tidy_sound2 g1 ht'
              exact ih vs os (cxOf w0 st'.H c' gots2) a' (by omega) f4 f5 f6 f7 g3.2 f1 (step _ _ hh0 f0)
            · exact g3.elim
          · exact g3.elim
        | exit id =>
          simp only [LoopSpec.endsA] at g3
          split at g3
          · rename_i hh0
            simp only [LoopSpec.ends] at g3
            split at g3
            · rename_i vs os ht'
              obtain ⟨gots2, f0, f1, _⟩ := tidy_sound2 g1 ht'
              exact exOf_then id _ _ (fin (.exit id) vs os (cxOf w0 st'.H c' gots2) a' f1 (step _ _ hh0 f0) g3)
            · exact g3.elim
          · exact g3.elim
        | ret =>
          simp only [LoopSpec.endsA] at g3
          split at g3
          · rename_i hh0
            simp only [LoopSpec.ends] at g3
            split at g3
            · rename_i vs os ht'
              obtain ⟨gots2, f0, f1, _⟩ := tidy_sound2 g1 ht'
              exact fin .ret vs os (cxOf w0 st'.H c' gots2) a' f1 (step _ _ hh0 f0) g3
            · exact g3.elim
          · exact g3.elim
    refine wp_loop_rounds (μ vals objs + 1) ?_
    exact key _ vals objs (cxOf w0 st.H c0 gots) a (Nat.lt_succ_self _) h4 h5 h6 h7 hs h1 ⟨fun _ _ _ h => h, fun _ h => h, fun _ _ => rfl, Nat.le_refl _, rfl, rfl, rfl⟩
  · exact hs.elim

/-- A loop with no other one in it. -/
theorem tab_loopA (hm : P.follows .mixedOrders = true) {l : List (FuncId × Pure1)} (hl : ∀ p ∈ l, PureOK P p.1 p.2) {body : Code} {i : Nat} (s : LoopSpec) (μ : List AV → Heap → Nat)
    (h : ∀ vals objs Q, vals.length = s.keep.length → objs.length = s.srcs.length → WFL vals → WFH objs → s.goes vals objs Q → runCode P (tabS l) (callN P (tabS l) noL 11) (fun _ => none) body i ⟨mkT s.keep vals s.n 0, objs⟩ (s.endsA μ vals objs Q)) : LoopFr P body s.framed :=
  LoopSpec.okA hm (tabS_ok hl) tabS_local (tab_callf hm hl 11) (fun _ _ _ h => by cases h) s μ h

end
end Go.Own
