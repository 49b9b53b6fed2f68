/- Structs and slices that are built; copy, clear; lengths; numbers. -/
import Derived.Test.YtmilniofdpgbnaaOwnO7
import Derived.Great.BuildSlice
set_option linter.unusedVariables false
set_option linter.unusedSimpArgs false
namespace Go.Own
open Go

section
variable {P : Program} {w0 : Base} {T : List AV} {H : Heap} {c : Cx} {a : Act} {g : Option (Nat × Bool)} {o : Oper}

theorem fold_set (off : Nat) : ∀ (vs : List Value) (j : Nat) (cs : Array Value), off + j + vs.length ≤ cs.size → ((vs.zipIdx j).foldl (fun (cs : Array Value) (x : Value × Nat) => cs.setIfInBounds (off + x.2) x.1) cs).toList = overL cs.toList (off + j) vs
  | [], j, cs, h => by simp [overL]
  | v :: vs, j, cs, h => by
    simp only [List.zipIdx_cons, List.foldl_cons]
    have ih := fold_set off vs (j + 1) (cs.setIfInBounds (off + j) v) (by simp at h ⊢; omega)
    rw [ih]
    apply List.ext_getElem?
    intro k
    have hl : off + j < cs.toList.length := by simp at h ⊢; omega
    rw [overL_get _ _ _ _ (by simp at h ⊢; omega), overL_get _ _ _ _ (by omega), Array.toList_setIfInBounds]
    simp only [List.length_cons, List.getElem?_set]
    by_cases h1 : k < off + j
    · rw [if_pos (by omega), if_neg (by omega), if_pos h1]
    · by_cases h2 : k = off + j
      · subst h2
        rw [if_pos (by omega), if_pos rfl, if_pos hl, if_neg h1, if_pos (by omega)]
        simp
      · rw [if_neg (by omega), if_neg h1]
        by_cases h3 : k < off + (j + 1) + vs.length
        · rw [if_pos h3, if_pos (by omega), show k - (off + j) = (k - (off + (j + 1))) + 1 by omega, List.getElem?_cons_succ]
        · rw [if_neg h3, if_neg (by omega), if_neg (by omega)]

theorem fill_step (off : Nat) (v : Value) (cs : Array Value) (h : off + v.cells.size ≤ cs.size) : (v.cells.zipIdx.foldl (fun (cs : Array Value) (x : Value × Nat) => cs.setIfInBounds (off + x.2) x.1) cs).toList = overL cs.toList off v.cells.toList := by
  have := fold_set off v.cells.toList 0 cs (by simpa using h)
  rw [Nat.add_zero] at this
  rw [← this, ← Array.foldl_toList]
  simp

def PartsIs (c : Cx) : List (Nat × AV) → List (Nat × Value) → Prop
  | [], [] => True
  | (i, x) :: ps, (j, v) :: qs => i = j ∧ Rel c x v ∧ PartsIs c ps qs
  | _, _ => False

theorem partsOf_rel (h : At P w0 T H c a.tmps g) (ts : Nat → TypeId) (ps : Array (Nat × Operand)) : PartsIs c (partsOf P T g ts ps) (ps.map fun (i, x) => (i, a.eval x)).toList := by
  unfold partsOf
  rw [Array.toList_map]
  induction ps.toList with
  | nil => simp [PartsIs]
  | cons p l ih =>
    obtain ⟨i, x⟩ := p
    simp only [List.map_cons, PartsIs]
    exact ⟨trivial, opd_rel h (ts i) x, ih⟩

theorem fill_rel {pl : Nat → Option (Nat × Nat)} : ∀ {ps : List (Nat × AV)} {qs : List (Nat × Value)} {cs cs' : List AV} {cells : Array Value}, PartsIs c ps qs → RelL c cs cells.toList → fillAV pl cs ps = some cs' → ∃ cells', Instr.fill pl cells qs = some cells' ∧ RelL c cs' cells'.toList
  | [], [], cs, cs', cells, _, hr, hf => by
    simp only [fillAV, Option.some.injEq] at hf
    subst hf
    exact ⟨cells, rfl, hr⟩
  | (i, x) :: ps, (j, v) :: qs, cs, cs', cells, hp, hr, hf => by
    simp only [PartsIs] at hp
    obtain ⟨rfl, hx, hps⟩ := hp
    simp only [fillAV] at hf
    split at hf
    · rename_i off size xs hpl hxs
      split at hf
      · rename_i hc
        obtain ⟨hxr, _⟩ := cellsOfAV_rel hxs hx
        have hl1 := hxr.length
        have hl2 := hr.length
        simp only [Array.length_toList] at hl1 hl2
        have hst := fill_step off v cells (by omega)
        obtain ⟨cells', h1, h2⟩ := fill_rel (cells := v.cells.zipIdx.foldl (fun (cs : Array Value) (x : Value × Nat) => cs.setIfInBounds (off + x.2) x.1) cells) hps (by rw [hst]; exact hr.overL off hxr) hf
        refine ⟨cells', ?_, h2⟩
        simp only [Instr.fill, hpl]
        have hcond : (decide (v.cells.size ≠ size) || decide (off + v.cells.size > cells.size)) = false := by
          simp
          omega
        simp only [hcond, Bool.false_eq_true, if_false]
        exact h1
      · cases hf
    · cases hf
  | [], _ :: _, _, _, _, h, _, _ => by simp [PartsIs] at h
  | _ :: _, [], _, _, _, h, _, _ => by simp [PartsIs] at h

theorem build_goes (h : At P w0 T H c a.tmps g) {t : TypeId} {ps : Array (Nat × Operand)} {z cs : List AV} {pl : Nat → Option (Nat × Nat)} (ho : o.op = .build t ps) (hz : zeroCellsOf P t = some z) (hpl : placesOf P t = some pl) (hf : fillAV pl z (partsOf P T g (fieldType P t) ps) = some cs) : Goes P o a w0 H c (.agg cs) := by
  obtain ⟨i, zv, hi, hzv, har, _⟩ := zeroCellsOf_some hz
  obtain ⟨cells, h1, h2⟩ := fill_rel (partsOf_rel h (fieldType P t) ps) (areVals_rel (c := c) har) hf
  have hb : P.built t (ps.map fun (i, x) => (i, a.eval x)).toList = some cells := by
    unfold Program.built
    unfold placesOf at hpl
    rw [hi]
    split at hpl
    · rename_i n e hu
      split at hpl
      · rename_i ie hie
        cases hpl
        simp only [hu, hzv, hie]
        exact h1
      · cases hpl
    · rename_i fields hu
      split at hpl
      · rename_i places hp
        cases hpl
        simp only [hu, hzv, hp]
        exact h1
      · cases hpl
    · cases hpl
  refine value_of h (u := .agg cells) (s := Instr.build t (ps.map fun (i, x) => (i, a.eval x))) (by simp only [execOp, ho]) (run_build c.w t _ cells hb) ?_
  simp only [Rel]
  exact ⟨cells, rfl, h2⟩

/-- Elements that are built one behind the other. -/
theorem fill_dense {sz : Nat} : ∀ {ps : List (Nat × AV)} {qs : List (Nat × Value)} {k : Nat} {cs : List (List AV)} {cells : Array Value}, PartsIs c ps qs → partsInOrder k ps = some cs → (∀ x ∈ cs, x.length = sz) → (k + cs.length) * sz ≤ cells.size →
    ∃ uss : List (List Value), uss.length = cs.length ∧ (∀ (i : Nat) (x : List AV), cs[i]? = some x → ∃ us, uss[i]? = some us ∧ RelL c x us) ∧ ∃ cells', Instr.fill (fun i => some (i * sz, sz)) cells qs = some cells' ∧ cells'.toList = overL cells.toList (k * sz) uss.flatten
  | [], [], k, cs, cells, _, hp, _, _ => by
    simp only [partsInOrder, Option.some.injEq] at hp
    subst hp
    exact ⟨[], rfl, by simp, cells, rfl, by simp [overL]⟩
  | (i, x) :: ps, (j, v) :: qs, k, cs, cells, hr, hp, hsz, hroom => by
    simp only [PartsIs] at hr
    obtain ⟨rfl, hx, hps⟩ := hr
    simp only [partsInOrder] at hp
    split at hp
    · rename_i hk
      subst hk
      split at hp
      · rename_i xs cs' hxs hcs
        cases hp
        obtain ⟨hxr, _⟩ := cellsOfAV_rel hxs hx
        have hl1 := hxr.length
        have hxl : xs.length = sz := hsz xs (by simp)
        simp only [Array.length_toList] at hl1
        simp only [List.length_cons] at hroom
        have hroom' : (k + 1 + cs'.length) * sz ≤ cells.size := by rw [show k + 1 + cs'.length = k + (cs'.length + 1) by omega]; exact hroom
        have hk1 : (k + 1) * sz ≤ (k + 1 + cs'.length) * sz := Nat.mul_le_mul_right _ (by omega)
        rw [Nat.succ_mul] at hk1
        have hst := fill_step (k * sz) v cells (by omega)
        have hsize : (v.cells.zipIdx.foldl (fun (cs : Array Value) (x : Value × Nat) => cs.setIfInBounds (k * sz + x.2) x.1) cells).size = cells.size := by
          rw [← Array.length_toList, hst, overL_len _ _ _ (by simp; omega)]
          simp
        obtain ⟨uss, h1, h2, cells', h3, h4⟩ := fill_dense (k := k + 1) (cells := v.cells.zipIdx.foldl (fun (cs : Array Value) (x : Value × Nat) => cs.setIfInBounds (k * sz + x.2) x.1) cells) hps hcs (fun y hy => hsz y (by simp [hy])) (by rw [hsize]; exact hroom')
        refine ⟨v.cells.toList :: uss, by simp [h1], fun i y hi => ?_, cells', ?_, ?_⟩
        · cases i with
          | zero => simp at hi; subst hi; exact ⟨_, rfl, hxr⟩
          | succ i => exact h2 i y (by simpa using hi)
        · simp only [Instr.fill]
          have hcond : (decide (v.cells.size ≠ sz) || decide (k * sz + v.cells.size > cells.size)) = false := by
            simp
            omega
          simp only [hcond, Bool.false_eq_true, if_false]
          exact h3
        · rw [h4, hst, List.flatten_cons]
          apply List.ext_getElem?
          intro q
          have hvl : v.cells.toList.length = sz := by simp; omega
          rw [overL_get _ _ _ _ (by rw [overL_len _ _ _ (by rw [hvl]; simp; omega)]; simp; rw [Nat.succ_mul]; omega), overL_get _ _ _ _ (by simp; omega), overL_get _ _ _ _ (by simp; omega)]
          rw [List.length_append, hvl, Nat.succ_mul]
          by_cases g1 : q < k * sz
          · rw [if_pos (by omega), if_pos g1, if_pos g1]
          · by_cases g2 : q < k * sz + sz
            · rw [if_pos g2, if_neg g1, if_pos g2, if_neg g1, if_pos (by omega), List.getElem?_append_left (by omega)]
            · rw [if_neg g2, if_neg g1, if_neg g1]
              by_cases g3 : q < k * sz + sz + uss.flatten.length
              · rw [if_pos g3, if_pos (by omega), List.getElem?_append_right (by omega), hvl]
                congr 1
                omega
              · rw [if_neg g3, if_neg g2, if_neg (by omega)]
      · cases hp
    · cases hp
  | [], _ :: _, _, _, _, h, _, _, _ => by simp [PartsIs] at h
  | _ :: _, [], _, _, _, h, _, _, _ => by simp [PartsIs] at h

theorem Col.cons_spec {x : AV} {y z : Col} {u : Value} (h : Col.cons x y = some z) (hu : Rel c x u) : z.len = y.len + 1 ∧ ColIs c z 0 u ∧ ∀ i v, ColIs c y i v → ColIs c z (i + 1) v := by
  cases y with
  | int k l =>
    cases x <;> try (simp [Col.cons] at h; done)
    · rename_i k' n
      simp only [Col.cons] at h
      split at h
      · rename_i hk
        subst hk
        cases h
        simp only [Rel] at hu
        exact ⟨rfl, by simp [ColIs, gI, hu], fun i v hv => by simpa [ColIs, gI] using hv⟩
      · cases h
  | bool l =>
    cases x <;> try (simp [Col.cons] at h; done)
    · simp only [Col.cons, Option.some.injEq] at h
      subst h
      simp only [Rel] at hu
      exact ⟨rfl, by simp [ColIs, gB, hu], fun i v hv => by simpa [ColIs, gB] using hv⟩
  | ints k l =>
    cases x <;> try (simp [Col.cons] at h; done)
    · rename_i n cols
      rcases cols with _ | ⟨c1, _ | ⟨c2, rest⟩⟩
      · simp [Col.cons] at h
      · cases c1 <;> try (simp [Col.cons] at h; done)
        rename_i k' ys
        simp only [Col.cons] at h
        split at h
        · rename_i hk
          subst hk
          cases h
          exact ⟨rfl, by simpa [ColIs, gL] using (IntsAt.of_sl hu).1, fun i v hv => by simpa [ColIs, gL] using hv⟩
        · cases h
      · cases c1 <;> simp [Col.cons] at h
    · simp only [Col.cons, Option.some.injEq] at h
      subst h
      exact ⟨rfl, by simpa [ColIs, gL] using IntsAt.emp (k := k) hu, fun i v hv => by simpa [ColIs, gL] using hv⟩

theorem rowOf_flat : ∀ {cs : List (List AV)} {zs cols : List Col} {uss : List (List Value)}, rowOf zs cs = some cols → (∀ col ∈ zs, col.len = 0) → uss.length = cs.length → (∀ (i : Nat) (x : List AV), cs[i]? = some x → ∃ us, uss[i]? = some us ∧ RelL c x us) → (∀ x ∈ cs, x.length = zs.length) →
    cols.length = zs.length ∧ (∀ col ∈ cols, col.len = cs.length) ∧ FlatIs c cols cs.length uss.flatten ∧ uss.flatten.length = cs.length * zs.length
  | [], zs, cols, uss, h, hz, hl, _, _ => by
    simp only [rowOf, Option.some.injEq] at h
    subst h
    have : uss = [] := by simpa using hl
    subst this
    exact ⟨rfl, hz, fun i hi => by simp at hi, by simp⟩
  | x :: cs, zs, cols, uss, h, hz, hl, hr, hsz => by
    simp only [rowOf] at h
    split at h
    · rename_i y hy
      rcases uss with _ | ⟨us, uss⟩
      · simp at hl
      · obtain ⟨us', hus', hrx⟩ := hr 0 x rfl
        simp at hus'
        subst hus'
        obtain ⟨h1, h2, h3, h4⟩ := rowOf_flat (uss := uss) hy hz (by simpa using hl) (fun i z hz' => by simpa using hr (i + 1) z (by simpa using hz')) (fun z hz' => hsz z (by simp [hz']))
        have hzl := zipAll_len h
        have hxl := hsz x (by simp)
        have husl := hrx.length
        refine ⟨by omega, fun col hcol => ?_, fun i hi j col hj => ?_, ?_⟩
        · obtain ⟨j, hj⟩ := List.getElem?_of_mem hcol
          obtain ⟨xa, yc, z1, z2, z3⟩ := zipAll_get h hj
          obtain ⟨u, _, hu⟩ := hrx.get z1
          rw [(Col.cons_spec z3 hu).1, h2 yc (List.mem_of_getElem? z2)]
          simp
        · obtain ⟨xa, yc, z1, z2, z3⟩ := zipAll_get h hj
          obtain ⟨u, hu1, hu2⟩ := hrx.get z1
          obtain ⟨s1, s2, s3⟩ := Col.cons_spec z3 hu2
          have hjl : j < us.length := (List.getElem?_eq_some_iff.1 hu1).1
          cases i with
          | zero =>
            refine ⟨u, ?_, s2⟩
            rw [Nat.zero_mul, Nat.zero_add, List.flatten_cons, List.getElem?_append_left hjl, hu1]
          | succ i =>
            obtain ⟨v, g1, g2⟩ := h3 i (by simpa using hi) j yc z2
            refine ⟨v, ?_, s3 i v g2⟩
            rw [List.flatten_cons, List.getElem?_append_right (by rw [Nat.succ_mul]; omega), ← g1]
            congr 1
            rw [Nat.succ_mul, ← hzl.2]
            omega
        · simp only [List.flatten_cons, List.length_append, h4, List.length_cons, Nat.succ_mul]
          omega
    · cases h

theorem buildSlice_goes (h : At P w0 T H c a.tmps g) {t e : TypeId} {n fr : Nat} {ps : Array (Nat × Operand)} {cs : List (List AV)} {cols : List Col} (hfr : H.at fr = none) (ho : o.op = .buildSlice t n ps) (ht : rowType P t = some e) (hp : partsInOrder 0 (partsOf P T g (fieldType P t) ps) = some cs)
    (he : elemOk P e = true) (hn : cs.length = n) (hsmall : n * P.cellsOf e ≤ 2 ^ 24) (hrow : rowOf (colsOf P 9 e) cs = some cols) (hsz : ∀ x ∈ cs, x.length = (colsOf P 9 e).length) : Goes P o a w0 (writeAll H [(fr, .row e n cols)]) c (.full fr) := by
  obtain ⟨i, z, hi⟩ := elemOk_is he
  have hu := rowType_some ht
  have hsi : P.cellsOf e = i.size := by simp [Program.cellsOf, hi.info]
  have hdense := fill_dense (sz := i.size) (cells := (Array.range (n * i.size)).map (z.cells[· % z.cells.size]!)) (partsOf_rel h (fieldType P t) ps) hp (fun x hx => by rw [hi.size]; exact hsz x hx) (by simp [hn])
  obtain ⟨uss, h1, h2, cells, h3, h4⟩ := hdense
  obtain ⟨r1, r2, r3, r4⟩ := rowOf_flat (c := c) hrow (colsOf_len 9 e) h1 h2 hsz
  rw [← hi.size] at r1 r4
  have hcells : cells.toList = uss.flatten := by
    rw [h4]
    unfold overL
    rw [r4, hn]
    simp
  have hcs : cells.size = n * cols.length := by
    rw [← Array.length_toList, hcells, r4, hn, r1]
  obtain ⟨q1, q2, q3⟩ := new_row h.heap hfr e e c.w rfl ⟨rfl, rfl, rfl⟩ (cols := cols) (n := n) (cap := n) (arr := cells) (by rw [r1]; exact hi.pos) (Nat.le_refl _) (by rw [← hn]; exact r2) hcs (by rw [hcells, ← hn]; exact r3)
  refine ⟨_, _, .inl ?_, q1, q2, q3⟩
  simp only [execOp, ho, Sem.run_bind]
  by_cases hn0 : n * i.size = 0
  · have hn' : n = 0 := by
      rcases Nat.mul_eq_zero.1 hn0 with h5 | h5
      · exact h5
      · have := hi.pos; omega
    subst hn'
    have hcs0 : cs = [] := by simpa using hn
    subst hcs0
    have hc0 : cells = #[] := by
      apply Array.ext'
      rw [hcells]
      have : uss = [] := by simpa using h1
      simp [this]
    have hrun : (Instr.buildSlice t 0 (ps.map fun (i, x) => (i, a.eval x))).run P c.w = .ok (.slice (some ⟨c.w.heap.size, 0, none⟩) 0 0) { c.w with heap := c.w.heap.push (.cells cells e (0, 0)) } := by
      have hr0 : (Array.range 0) = #[] := rfl
      simp only [Nat.zero_mul, hr0, Array.map_empty] at h3
      have hlt : ¬ (0 : Nat) > 2 ^ 24 := by decide
      simp only [Instr.buildSlice, Sem.run_bind, run_underlying hu, Result.andThen_ok, run_sizeOf hi.info, Nat.zero_mul, hlt, if_false, if_true, Sem.run_pure, hr0, Array.map_empty, h3, newRow, run_newObj]
    rw [hrun]
    rfl
  · rw [run_buildSlice c.w t e n _ cells i z hu hi.info hi.zero (by rw [← hsi]; omega) hn0 h3]
    rfl

end
end Go.Own
