/- What is made: slices, and what is appended. -/
import Derived.Test.YtmilniofdpgbnaaOwnO4
import Derived.IntWalk
set_option linter.unusedVariables false
set_option linter.unusedSimpArgs false
namespace Go.Own
open Go

section
variable {P : Program} {w0 : Base} {T : List AV} {H : Heap} {c : Cx} {a : Act} {g : Option (Nat × Bool)} {o : Oper}

structure ElemIs (P : Program) (e : TypeId) (i : TypeInfo) (z : Value) : Prop where
  info : P.info? e = some i
  zero : i.zero = some z
  bytes : i.bytes ≤ 2 ^ 12
  size : i.size = (colsOf P 9 e).length
  pos : 0 < i.size
  cells : z.cells.size = i.size
  vals : areVals ((colsOf P 9 e).map Col.zero) z.cells.toList = true

theorem areVals_len : ∀ {cs : List AV} {vs : List Value}, areVals cs vs = true → cs.length = vs.length
  | [], [], _ => rfl
  | x :: cs, v :: vs, h => by
    simp only [areVals, Bool.and_eq_true] at h
    simp [areVals_len h.2]
  | [], _ :: _, h => by simp [areVals] at h
  | _ :: _, [], h => by simp [areVals] at h

theorem elemOk_is {e : TypeId} (h : elemOk P e = true) : ∃ i z, ElemIs P e i z := by
  unfold elemOk at h
  simp only [Bool.and_eq_true, decide_eq_true_eq] at h
  obtain ⟨⟨⟨⟨h1, h2⟩, h3⟩, h4⟩, h5⟩ := h
  cases hi : P.info? e with
  | none => simp [Program.cellsOf, hi] at h3
  | some i =>
    obtain ⟨cs, hcs⟩ := Option.isSome_iff_exists.1 h4
    obtain ⟨i', z, hi', hz, _, hl⟩ := zeroCellsOf_some hcs
    rw [hi] at hi'
    cases hi'
    simp only [hi, Option.bind_some, hz, Option.getD_some] at h5
    have e1 : P.cellsOf e = i.size := by simp [Program.cellsOf, hi]
    have e2 : P.bytesOf e = i.bytes := by simp [Program.bytesOf, hi]
    exact ⟨i, z, hi, hz, by rw [← e2]; exact h1, by rw [← e1, h2], by rw [← e1]; exact h3, by simpa using hl, h5⟩

theorem wrap_in {n : Int} (h0 : 0 ≤ n) (h1 : n ≤ 2 ^ 40) : IntKind.i64.wrap n = n := IntWalk.i64_in n (by omega)

theorem zero_at {e : TypeId} {i : TypeInfo} {z : Value} (h : ElemIs P e i z) {j : Nat} {col : Col} (hj : (colsOf P 9 e)[j]? = some col) : ∃ u, z.cells[j]? = some u ∧ Rel c col.zero u := by
  have hr := areVals_rel (c := c) h.vals
  obtain ⟨u, h1, h2⟩ := hr.get (i := j) (a := col.zero) (by simp [hj])
  exact ⟨u, by simpa using h1, h2⟩

/-- Zeros, flat. -/
theorem zeros_flat {e : TypeId} {i : TypeInfo} {z : Value} (h : ElemIs P e i z) (n : Nat) : ((Array.range (n * i.size)).map (z.cells[· % z.cells.size]!)).toList.length = n * (zerosRow P e n).length ∧ FlatIs c (zerosRow P e n) n ((Array.range (n * i.size)).map (z.cells[· % z.cells.size]!)).toList ∧ ∀ col ∈ zerosRow P e n, col.len = n := by
  have hzl : (zerosRow P e n).length = i.size := by simp [zerosRow, h.size]
  refine ⟨by simp [hzl], fun q hq j col hj => ?_, ?_⟩
  · rw [hzl]
    have hjl : j < i.size := by rw [← hzl]; exact (List.getElem?_eq_some_iff.1 hj).1
    have hlt := idx_lt hjl hq
    simp only [zerosRow, List.getElem?_map] at hj
    cases hc : (colsOf P 9 e)[j]? with
    | none => simp [hc] at hj
    | some col0 =>
      simp [hc] at hj
      subst hj
      obtain ⟨u, h1, h2⟩ := zero_at (c := c) h hc
      refine ⟨u, ?_, ?_⟩
      · rw [Array.toList_map, List.getElem?_map, Array.toList_range, List.getElem?_range hlt]
        simp only [Option.map_some, h.cells]
        rw [Nat.mul_comm, Nat.mul_add_mod, Nat.mod_eq_of_lt hjl]
        rw [getElem!_def, h1]
      · cases col0 with
        | int k l => simp only [Col.zero, Rel] at h2; subst h2; simp [Col.zeros, ColIs, gI, rI, List.getD, hq]
        | bool l => simp only [Col.zero, Rel] at h2; subst h2; simp [Col.zeros, ColIs, gB, rB, List.getD, hq]
        | ints k l =>
          simp only [Col.zero] at h2
          have := IntsAt.emp (k := k) h2
          simpa [Col.zeros, ColIs, gL, rL, List.getD, hq] using this
  · intro col hcol
    obtain ⟨col0, _, rfl⟩ := List.mem_map.1 hcol
    cases col0 <;> simp [Col.zeros, Col.len, rI, rB, rL]

/-- A new row in a new block. -/
theorem new_row (h : HeapOK w0 H c) {fr : Nat} (hfr : H.at fr = none) (e t : TypeId) {cols : List Col} {n cap : Nat} {arr : Array Value} (w : World) (hw : w.heap = c.w.heap) (hrs : Rest c.w w) (hpos : 0 < cols.length) (hn : n ≤ cap) (hlen : ∀ col ∈ cols, col.len = n) (hs : arr.size = cap * cols.length)
    (hf : FlatIs c cols n arr.toList) :
    let c' := Cx.putAt c { w with heap := w.heap.push (.cells arr t (0, 0)) } fr ⟨c.w.heap.size, cols.length, n, cap⟩
    c.le c' ∧ HeapOK w0 (setAt H fr (.row e n cols)) c' ∧ Rel c' (.full fr) (.slice (some ⟨c.w.heap.size, 0, none⟩) n cap) := by
  intro c'
  obtain ⟨h1, hle1⟩ := h.same w hw hrs
  have hn1 := h1.free fr hfr
  have hle2 := le_push h1 (.cells arr t (0, 0)) fr ⟨c.w.heap.size, cols.length, n, cap⟩ hn1
  have hc' : c' = (c.with w).putAt { (c.with w).w with heap := (c.with w).w.heap.push (.cells arr t (0, 0)) } fr ⟨c.w.heap.size, cols.length, n, cap⟩ := rfl
  have hle : c.le c' := hle1.trans (hc' ▸ hle2)
  refine ⟨hle, ?_, ?_⟩
  · rw [hc']
    refine h1.alloc fr _ _ _ hfr (by simp [Cx.with, hw]) ?_
    refine ⟨rfl, rfl, hn, hpos, hlen, fun _ => ⟨arr, t, ?_, hs, fun i hi j col hj => ?_⟩⟩
    · have := heap_push_new (c.with w).w (.cells arr t (0, 0))
      simp only [Cx.with, hw] at this ⊢
      exact this
    · obtain ⟨u, g1, g2⟩ := hf i hi j col hj
      exact ⟨u, by simpa using g1, g2.mono (hc' ▸ hle)⟩
  · simp only [Rel]
    exact ⟨_, _, by simp [c', Cx.putAt]; rfl, rfl, fun _ => rfl⟩

theorem make_goes (h : At P w0 T H c a.tmps g) {t e : TypeId} {x y : Operand} {k k' : IntKind} {n : Int} {fr : Nat} (hfr : H.at fr = none) (ho : o.op = .makeSlice t x y) (ht : rowType P t = some e) (he : elemOk P e = true) (hx : opd P T g 3 x = .int k n) (hy : opd P T g 3 y = .int k' n)
    (h0 : 0 ≤ n) (h1 : n ≤ ofN room) : Goes P o a w0 (writeAll H [(fr, .row e (nOf n) (zerosRow P e (nOf n)))]) c (.full fr) := by
  obtain ⟨i, z, hi⟩ := elemOk_is he
  have rx := rel_int (opd_eq h hx)
  have ry := rel_int (opd_eq h hy)
  have hu := rowType_some ht
  have hroom : n ≤ 2 ^ 30 := by simpa [ofN, room] using h1
  have hb : (i.bytes : Int) * n ≤ 2 ^ 48 := by
    have hbb : (i.bytes : Int) ≤ 2 ^ 12 := by exact_mod_cast hi.bytes
    calc (i.bytes : Int) * n ≤ 2 ^ 12 * 2 ^ 30 := Int.mul_le_mul hbb hroom h0 (by omega)
      _ ≤ 2 ^ 48 := by decide
  obtain ⟨z1, z2, z3⟩ := zeros_flat (c := c) hi n.toNat
  have hzl : (zerosRow P e n.toNat).length = i.size := by simp [zerosRow, hi.size]
  obtain ⟨r1, r2, r3⟩ := new_row h.heap hfr e e c.w rfl ⟨rfl, rfl, rfl⟩ (cols := zerosRow P e n.toNat) (n := n.toNat) (cap := n.toNat) (arr := (Array.range (n.toNat * i.size)).map (z.cells[· % z.cells.size]!)) (by rw [hzl]; exact hi.pos) (Nat.le_refl _) z3 (by simpa using z1) z2
  refine ⟨_, _, .inl ?_, r1, r2, r3⟩
  simp only [execOp, ho, Sem.run_bind]
  have hrun : (Instr.makeSlice t (a.eval x) (a.eval y)).run P c.w = .ok (.slice (some ⟨c.w.heap.size, 0, none⟩) n.toNat n.toNat) { c.w with heap := c.w.heap.push (.cells ((Array.range (n.toNat * i.size)).map (z.cells[· % z.cells.size]!)) e (0, 0)) } := by
    rw [rx, ry]
    have hw := wrap_in h0 (show n ≤ 2 ^ 40 by omega)
    simp only [Instr.makeSlice, Sem.run_bind, run_underlying hu, Result.andThen_ok, asInt, asIntOf, Sem.run_pure, typeInfo, run_program, hi.info, hw]
    have hc1 : decide ((2 : Int) ^ 48 < (i.bytes : Int) * n) = false := by
      simp only [decide_eq_false_iff_not]
      omega
    have hc2 : ¬ n < 0 := by omega
    simp only [hc1, hc2, decide_false, Bool.or_self, gt_iff_lt, Int.lt_irrefl, Bool.false_eq_true, if_false, Sem.run_bind, run_askRoom, Result.andThen_ok, run_sizeOf hi.info, newRow, run_newObj, Sem.run_pure]
    by_cases hn0 : n.toNat * i.size = 0
    · have hr0 : (Array.range 0) = #[] := rfl
      simp only [hn0, if_true, Sem.run_bind, Sem.run_pure, Result.andThen_ok, run_newObj, hr0, Array.map_empty]
    · simp only [hn0, if_false, Sem.run_bind, run_zeroValue hi.info hi.zero, Result.andThen_ok, Sem.run_pure, run_newObj]
  rw [hrun]
  rfl

end
end Go.Own
