/- Stores. -/
import Derived.Test.YtmilniofdpgbnaaOwnF
set_option linter.unusedVariables false
set_option linter.unusedSimpArgs false
namespace Go.Own
open Go

section
variable {P : Program} {w0 : Base} {T : List AV} {H : Heap} {c : Cx} {a : Act} {g : Option (Nat × Bool)} {o : Oper}

theorem over_arr (cur : Array Value) (o : Nat) (vs : List Value) : (cur.toList.take (o + 0) ++ vs ++ cur.toList.drop (o + 0 + vs.length)) = overL cur.toList o vs := by
  simp [overL]

theorem run_storeAt {t : TypeId} {n : Nat} (hs : szOf P t = some n) {b off : Nat} {v : Value} {cur : Array Value} {ct : TypeId} {w : World} (hv : v.cells.toList.length = n) (h1 : ∀ u ∈ v.cells.toList, u.oneCell' = true)
    (hb : w.heap[b]? = some (.cells cur ct (0, 0))) (hf : off + n ≤ cur.size) : (Instr.storeAt t (.pointer (some ⟨b, off, none⟩)) v).run P w = .ok () (w.setRow b (overL cur.toList off v.cells.toList).toArray) := by
  obtain ⟨i, d, hi, hd, rfl⟩ := szOf_some hs
  have hst := run_storeCells_at P b off ct v.cells.toList 0 cur w hb (by omega) h1
  rw [over_arr] at hst
  have hsz : v.cells.size = i.size := by simpa using hv
  simp [Instr.storeAt, Instr.sureAddr, storeVar, run_sizeOf hi, hsz, hst]

theorem skip_of {s : Sem Unit} {H' : Heap} {c' : Cx} (he : execOp a.eval o = (do s; pure .skip)) (hr : s.run P c.w = .ok () c'.w) (hle : c.le c') (hh : HeapOK w0 H' c') : Goes P o a w0 H' c .top :=
  ⟨undef, c', .inr ⟨by rw [he]; simp only [Sem.run_bind, hr, Result.andThen_ok, Sem.run_pure], rfl⟩, hle, hh, by simp [Rel]⟩

theorem store_var (h : At P w0 T H c a.tmps g) {t : TypeId} {x y : Operand} {id off : Nat} {vs cs : List AV} (ho : o.op = .store t x y) (hx : opd P T g 0 x = .ptr id 0 off) (hy : cellsOfAV (opd P T g t y) = some vs) (hs : szOf P t = some vs.length)
    (hid : H.at id = some (.var cs)) (hf : off + vs.length ≤ cs.length) : Goes P o a w0 (writeAll H [(id, .var (overL cs off vs))]) c .top := by
  have r := opd_eq h hx
  simp only [Rel] at r
  obtain ⟨p, hp, hv⟩ := r
  obtain ⟨hrv, h1⟩ := cellsOfAV_rel hy (opd_rel h t y)
  obtain ⟨p', hp', hob⟩ := h.heap.obj id _ hid
  rw [hp] at hp'
  cases hp'
  obtain ⟨arr, ct, ha, hra⟩ := hob
  have hl1 := hrv.length
  have hl2 := hra.length
  have hlen : (a.eval y).cells.toList.length = vs.length := hl1.symm
  have hrun := run_storeAt (P := P) (w := c.w) (b := p.b) (off := off) (cur := arr) (ct := ct) hs hlen h1 ha (by simp at hl2; omega)
  obtain ⟨hh, hle⟩ := h.heap.store id (.var (overL cs off vs)) (c.w.setRow p.b (overL arr.toList off (a.eval y).cells.toList).toArray) ⟨rfl, rfl, rfl⟩ hid hp trivial (setRow_size _ _ _) (fun b hb => setRow_other _ _ _ _ hb) (fun hle => by
    refine ⟨_, ct, setRow_heap _ _ _ _ _ _ ha, ?_⟩
    simpa using (hra.overL off hrv).mono hle)
  refine skip_of (s := Instr.storeAt t (a.eval x) (a.eval y)) (by simp only [execOp, ho]) (c' := c.with _) ?_ hle hh
  rw [hv, Nat.zero_mul, Nat.zero_add]
  exact hrun

theorem store_row (h : At P w0 T H c a.tmps g) {t e : TypeId} {x y : Operand} {id idx off k : Nat} {vs : List AV} {cols ws : List Col} (ho : o.op = .store t x y) (hx : opd P T g 0 x = .ptr id idx off) (hy : cellsOfAV (opd P T g t y) = some vs) (hs : szOf P t = some vs.length)
    (hid : H.at id = some (.row e k cols)) (hz : zipAll (fun (c : Col) v => c.set idx v) ((cols.drop off).take vs.length) vs = some ws) (hf : off + vs.length ≤ cols.length) (hlt : idx < k) : Goes P o a w0 (writeAll H [(id, .row e k (overL cols off ws))]) c .top := by
  have r := opd_eq h hx
  simp only [Rel] at r
  obtain ⟨p, hp, hv⟩ := r
  obtain ⟨hrv, h1⟩ := cellsOfAV_rel hy (opd_rel h t y)
  obtain ⟨p', hp', hob⟩ := h.heap.obj id _ hid
  rw [hp] at hp'
  cases hp'
  obtain ⟨q1, q2, q3, q4, q5, q6⟩ := hob
  subst q1
  obtain ⟨arr, ct, ha, hs', hx'⟩ := q6 (by omega)
  have hl1 := hrv.length
  have hlen : (a.eval y).cells.toList.length = vs.length := hl1.symm
  have hzl := zipAll_len hz
  have hmul := idx_lt (s := p.sz) (i := idx) (n := p.cap) (j := p.sz - 1) (by omega) (by omega)
  have hfit : idx * p.sz + off + vs.length ≤ arr.size := by omega
  have hrun := run_storeAt (P := P) (w := c.w) (b := p.b) (off := idx * p.sz + off) (cur := arr) (ct := ct) hs hlen h1 ha hfit
  have hwl : (overL cols off ws).length = cols.length := overL_len _ _ _ (by omega)
  have hcol : ∀ (j : Nat) (col : Col), (overL cols off ws)[j]? = some col → ∃ col0, cols[j]? = some col0 ∧ col.len = col0.len ∧ ((j < off ∨ off + vs.length ≤ j) → col = col0) ∧ (off ≤ j → j < off + vs.length → ∃ v, vs[j - off]? = some v ∧ col0.set idx v = some col) := by
    intro j col hj
    rw [overL_get _ _ _ _ (by omega)] at hj
    split at hj
    · rename_i hlt'
      exact ⟨col, hj, rfl, fun _ => rfl, fun h1 h2 => by omega⟩
    · split at hj
      · rename_i hn hlt'
        obtain ⟨col0, v, z1, z2, z3⟩ := zipAll_get hz hj
        rw [List.getElem?_take] at z1
        split at z1
        · rw [List.getElem?_drop, show off + (j - off) = j by omega] at z1
          exact ⟨col0, z1, (Col.set_spec (c := c) z3).1, fun h => by omega, fun _ _ => ⟨v, z2, z3⟩⟩
        · cases z1
      · exact ⟨col, hj, rfl, fun _ => rfl, fun h1 h2 => by omega⟩
  obtain ⟨hh, hle⟩ := h.heap.store id (.row e p.n (overL cols off ws)) (c.w.setRow p.b (overL arr.toList (idx * p.sz + off) (a.eval y).cells.toList).toArray) ⟨rfl, rfl, rfl⟩ hid hp (by show p.cap ≠ 0; omega) (setRow_size _ _ _) (fun b hb => setRow_other _ _ _ _ hb) (fun hle => by
    refine ⟨rfl, by rw [hwl, q2], q3, by rw [hwl]; exact q4, ?_, fun _ => ⟨_, ct, setRow_heap _ _ _ _ _ _ ha, ?_, ?_⟩⟩
    · intro col hc
      obtain ⟨j, hj⟩ := List.getElem?_of_mem hc
      obtain ⟨col0, z1, z2, _⟩ := hcol j col hj
      rw [z2]
      exact q5 col0 (List.mem_of_getElem? z1)
    · simp only [List.size_toArray]
      rw [overL_len _ _ _ (by rw [hlen]; simpa using hfit)]
      simpa using hs'
    · intro i hi j col hj
      obtain ⟨col0, z1, z2, z3, z4⟩ := hcol j col hj
      have hjl : j < p.sz := by rw [q2]; exact (List.getElem?_eq_some_iff.1 z1).1
      obtain ⟨u, y1, y2⟩ := hx' i hi j col0 z1
      have hget : (overL arr.toList (idx * p.sz + off) (a.eval y).cells.toList).toArray[i * p.sz + j]? = if i * p.sz + j < idx * p.sz + off then arr[i * p.sz + j]? else if i * p.sz + j < idx * p.sz + off + vs.length then (a.eval y).cells.toList[i * p.sz + j - (idx * p.sz + off)]? else arr[i * p.sz + j]? := by
        rw [List.getElem?_toArray, overL_get _ _ _ _ (by simp; omega), hlen]
        simp
      by_cases hi' : i = idx
      · subst hi'
        by_cases hseg : off ≤ j ∧ j < off + vs.length
        · obtain ⟨v, x1, x2⟩ := z4 hseg.1 hseg.2
          obtain ⟨u', x3, x4⟩ := hrv.get x1
          refine ⟨u', ?_, ?_⟩
          · rw [hget, if_neg (by omega), if_pos (by omega), ← x3]
            congr 1
            omega
          · exact ColIs.mono hle ((Col.set_spec (c := c) x2).2.2 (by rw [q5 col0 (List.mem_of_getElem? z1)]; exact hi) u' x4)
        · have he := z3 (by omega)
          subst he
          refine ⟨u, ?_, y2.mono hle⟩
          rw [hget]
          by_cases hj1 : j < off
          · rw [if_pos (by omega), y1]
          · rw [if_neg (by omega), if_neg (by omega), y1]
      · have hne : ¬ (idx * p.sz + off ≤ i * p.sz + j ∧ i * p.sz + j < idx * p.sz + off + vs.length) := by
          rintro ⟨g1, g2⟩
          have : i * p.sz + j = idx * p.sz + (i * p.sz + j - idx * p.sz) := by omega
          have := (idx_inj hjl (by omega) this).1
          exact hi' this
        refine ⟨u, ?_, ?_⟩
        · rw [hget]
          by_cases g1 : i * p.sz + j < idx * p.sz + off
          · rw [if_pos g1, y1]
          · rw [if_neg g1, if_neg (by omega), y1]
        · by_cases hseg : off ≤ j ∧ j < off + vs.length
          · obtain ⟨v, x1, x2⟩ := z4 hseg.1 hseg.2
            exact ColIs.mono hle ((Col.set_spec (c := c) x2).2.1 i u hi' y2)
          · have he := z3 (by omega)
            subst he
            exact y2.mono hle)
  refine skip_of (s := Instr.storeAt t (a.eval x) (a.eval y)) (by simp only [execOp, ho]) (c' := c.with _) ?_ hle hh
  rw [hv]
  exact hrun

end
end Go.Own
