/- 'copy(out, l)', out as long as l and a row of the call's own: behind it out reads as l, whatever size an element has. -/
import Derived.Test.YtmilniofdpgbnaaPLx0
import Derived.Laws.CopyRow
import Derived.Laws.CopyOwn
namespace Go.Proofs.Ytmilniofdpgbnaa.PL
open Go.RowKit Go.Proofs.YtmilniofdpgbnaaW.PrintWords Go.Proofs.YtmilniofdpgbnaaW.PrintLast Go.Proofs.YtmilniofdpgbnaaW.PrintMore
set_option linter.unusedSimpArgs false
set_option linter.unusedVariables false
section
variable {P : Program} {ops : Array Oper} {rest : List Oper} {oi : Oper} {a : Act} {Q : Exit → Act → World → Prop} {w : World} {α : Type}
theorem one_reps {d : Kd α} {w : World} : ∀ {xs : List α} {cs : List Value}, Reps (d.K w) d.sz xs cs → ∀ u ∈ cs, u.oneCell' = true := by
  intro xs cs h u hu
  by_cases hs : d.sz = 0
  · have h0 : cs.length = 0 := by rw [h.1, hs]; simp
    rw [List.eq_nil_of_length_eq_zero h0] at hu
    simp at hu
  obtain ⟨j, hj, rfl⟩ := List.getElem_of_mem hu
  have hl := h.1
  have hq : j / d.sz < xs.length := by
    refine Nat.div_lt_of_lt_mul ?_
    rw [Nat.mul_comm]; omega
  refine d.K_one (h.2 (j / d.sz) _ (List.getElem?_eq_getElem hq)) _ ?_
  have hm : j % d.sz < d.sz := Nat.mod_lt _ (by omega)
  have e : j = j / d.sz * d.sz + j % d.sz := by rw [Nat.mul_comm]; exact (Nat.div_add_mod _ _).symm
  refine List.mem_of_getElem? (i := j % d.sz) ?_
  rw [List.getElem?_take, if_pos hm, List.getElem?_drop, ← e, List.getElem?_eq_getElem hj]
/-- A row of the call's own that another one of the same length is copied to. -/
theorem copy_whole (d : Kd α) (hgd : oi.guard = none) (x y : Operand) (t e : TypeId) (ho : oi.op = .call { callee := .builtin .copy, args := #[x, y], argTypes := #[t, t] })
    (ht : P.underlying t = some (.slice e)) (hs : (P.info? e).map (·.size) = some d.sz) (hKM : ∀ {w1 x cs}, d.K w1 x cs → ∀ w2 base ok, d.M w2 base ok x cs)
    {w0 : World} {base : Nat} {ok : Nat → Prop} {v : Value} {xs l : List α} {A : Option Addr} {c : Nat} (hx : a.eval x = v) (hy : a.eval y = .slice A l.length c)
    (HR : d.R e w base ok v xs) (HC : d.C w A l.length l) (hl : xs.length = l.length) (HB : Below w0.heap.size w0 w) (hb : w0.heap.size ≤ base)
    (h : ∀ w1, d.R e w1 base ok v l → Below w0.heap.size w0 w1 → (∀ k, some k ≠ v.ownBlock → w1.heap[k]? = w.heap[k]?) → wpList P ops Q rest (a.put oi.dst (goInt l.length)) w1) : wpList P ops Q (oi :: rest) a w := by
  refine wpList_plain hgd fun K hK => ?_
  obtain ⟨i0, hi, hsz⟩ := Option.map_eq_some_iff.1 hs
  obtain ⟨hok, inner, hown, hreps⟩ := HR
  rcases hown.2 with ⟨rfl, h0⟩ | ⟨g, cap, cur, rfl, hg, hh, hn, hcap, hcur, htake⟩
  · -- nothing there
    have hl0 : l.length = 0 := by omega
    have hxs : xs = [] := List.eq_nil_of_length_eq_zero h0
    have hln : l = [] := List.eq_nil_of_length_eq_zero hl0
    subst hln
    subst hxs
    have hrun : (Builtin.copy_ #[t, t] oi.type #[.slice none 0 0, .slice A 0 c]).run P w = .ok (goInt 0) w := by
      cases A with
      | none => simp [Builtin.copy_, run_underlying ht, Builtin.lenOf, Builtin.firstCells, sizeOf, typeInfo, hi]
      | some ad =>
        have hz : (loadCells ad 0).run P w = .ok #[] w := run_loadCells_list (P := P) w ad [] (by simp)
        simp [Builtin.copy_, run_underlying ht, Builtin.lenOf, Builtin.firstCells, sizeOf, typeInfo, hi, hz]
    unfold Oper.wp
    simp [execOp, ho, resolve, invoke, builtin, hx, hy, hrun, Result.andThen]
    exact hK _ _ (h w (Kd.R_nil d e w base ok) HB (fun _ _ => rfl))
  · by_cases hn0 : l.length = 0
    · have hxs : xs = [] := List.eq_nil_of_length_eq_zero (by omega)
      have hln : l = [] := List.eq_nil_of_length_eq_zero hn0
      subst hxs; subst hln
      have hrun : (Builtin.copy_ #[t, t] oi.type #[.slice (some ⟨g, 0, none⟩) 0 cap, .slice A 0 c]).run P w = .ok (goInt 0) w := by
        cases A with
        | none => simp [Builtin.copy_, run_underlying ht, Builtin.lenOf, Builtin.firstCells, sizeOf, typeInfo, hi, storeCells]
        | some ad =>
          have hz : (loadCells ad 0).run P w = .ok #[] w := run_loadCells_list (P := P) w ad [] (by simp)
          simp [Builtin.copy_, run_underlying ht, Builtin.lenOf, Builtin.firstCells, sizeOf, typeInfo, hi, hz, storeCells]
      unfold Oper.wp
      simp [execOp, ho, resolve, invoke, builtin, hx, hy, hrun, Result.andThen]
      exact hK _ _ (h w ⟨hok, inner, hown, hreps⟩ HB (fun _ _ => rfl))
    obtain ⟨ad, rfl, _⟩ := HC.2.2 (by omega)
    obtain ⟨cs, hr, hc⟩ := ReadsRow.inner_ HC
    have hcl : cs.length = l.length * d.sz := hr.1
    have hload := run_loadCells_list (P := P) w ad cs hc
    have hfit : cs.length ≤ cur.size := by rw [hcl, hcur, ← hl]; exact Nat.mul_le_mul_right _ hn
    have hst := run_storeCells_at P g 0 t cs 0 cur w
    have hst := run_storeCells_at P g 0 e cs 0 cur w hh (by simpa using hfit) (one_reps hr)
    have hrun : (Builtin.copy_ #[t, t] oi.type #[.slice (some ⟨g, 0, none⟩) xs.length cap, .slice (some ad) l.length c]).run P w = .ok (goInt l.length) (w.setRow g (cs ++ cur.toList.drop cs.length).toArray) := by
      simp [Builtin.copy_, run_underlying ht, Builtin.lenOf, Builtin.firstCells, sizeOf, typeInfo, hi, hsz, hl, ← hcl, hload, hst]
    unfold Oper.wp
    simp [execOp, ho, resolve, invoke, builtin, hx, hy, hrun, Result.andThen]
    refine hK _ _ (h _ ?_ (below_setRow HB (Nat.le_trans hb hg) _) (fun k hk => setRow_other w g k _ (fun e => hk (by simp [Value.ownBlock, e]))))
    have hh1 := setRow_heap w g cur (cs ++ cur.toList.drop cs.length).toArray e (0, 0) hh
    refine ⟨hok, cs, ⟨hcl, .inr ⟨g, cap, _, by rw [hl], hg, hh1, by omega, hcap, ?_, ?_⟩⟩, hr.imp_ (fun _ _ hp => hKM hp _ _ _)⟩
    · simp; omega
    · rw [← hcl]; simp
/-- The front of a row taken by other elements. -/
theorem reps_front {R : α → List Value → Prop} {sz : Nat} {l xs : List α} {cs inner : List Value} (h1 : Reps R sz l cs) (h2 : Reps R sz xs inner) (hl : l.length ≤ xs.length) : Reps R sz (l ++ xs.drop l.length) (cs ++ inner.drop cs.length) := by
  obtain ⟨n1, e1⟩ := h1
  obtain ⟨n2, e2⟩ := h2
  have hle : cs.length ≤ inner.length := by rw [n1, n2]; exact Nat.mul_le_mul_right _ hl
  refine ⟨?_, fun j p hj => ?_⟩
  · rw [List.length_append, List.length_append, List.length_drop, List.length_drop, Nat.add_mul, ← n1, Nat.sub_mul, ← n2, ← n1]
  · by_cases hjl : j < l.length
    · rw [List.getElem?_append_left hjl] at hj
      have h3 := e1 j p hj
      have h4 : j * sz + sz ≤ cs.length := by rw [n1, ← Nat.succ_mul]; exact Nat.mul_le_mul_right _ hjl
      rw [List.drop_append_of_le_length (by omega), List.take_append_of_le_length (by rw [List.length_drop]; omega)]
      exact h3
    · rw [List.getElem?_append_right (by omega), List.getElem?_drop] at hj
      have h3 := e2 j p (by rw [← hj]; congr 1; omega)
      have h4 : cs.length ≤ j * sz := by rw [n1]; exact Nat.mul_le_mul_right _ (by omega)
      have h5 : (cs ++ inner.drop cs.length).drop (j * sz) = inner.drop (j * sz) := by
        rw [List.drop_append, List.drop_eq_nil_of_le h4, List.nil_append, List.drop_drop]
        congr 1
        omega
      rw [h5]
      exact h3
theorem grownBy_setRow (w : World) (g : Nat) (cs : Array Value) : w.grownBy (w.setRow g cs) (some g) :=
  ⟨rfl, rfl, rfl, by simp [World.setRow], fun k _ hne => setRow_other w g k cs (fun e => hne (by rw [e]))⟩
/-- A row of the call's own, to the front of which another one is copied. -/
theorem R_copy (d : Kd α) (hgd : oi.guard = none) (x y : Operand) (t e : TypeId) (ho : oi.op = .call { callee := .builtin .copy, args := #[x, y], argTypes := #[t, t] })
    (ht : P.underlying t = some (.slice e)) (hs : (P.info? e).map (·.size) = some d.sz) (hKM : ∀ {w1 x cs}, d.K w1 x cs → ∀ w2 base ok, d.M w2 base ok x cs)
    {base : Nat} {ok : Nat → Prop} {v : Value} {xs l : List α} {A : Option Addr} {n c : Nat} (hx : a.eval x = v) (hy : a.eval y = .slice A n c)
    (HR : d.R e w base ok v xs) (HC : d.C w A n l) (hl : l.length ≤ xs.length)
    (h : ∀ w1, d.R e w1 base ok v (l ++ xs.drop l.length) → w.grownBy w1 v.ownBlock → wpList P ops Q rest (a.put oi.dst (goInt l.length)) w1) : wpList P ops Q (oi :: rest) a w := by
  obtain rfl := (Kd.C_len HC).symm
  refine wpList_plain hgd fun K hK => ?_
  obtain ⟨i0, hi, hsz⟩ := Option.map_eq_some_iff.1 hs
  by_cases hn0 : l.length = 0
  · have hln : l = [] := List.eq_nil_of_length_eq_zero hn0
    subst hln
    have hrun : (Builtin.copy_ #[t, t] oi.type #[v, .slice A 0 c]).run P w = .ok (goInt 0) w := by
      obtain ⟨A1, c1, hv⟩ := Kd.R_slice HR
      subst hv
      cases A with
      | none =>
        cases A1 with
        | none => simp [Builtin.copy_, run_underlying ht, Builtin.lenOf, Builtin.firstCells, sizeOf, typeInfo, hi]
        | some ad1 => simp [Builtin.copy_, run_underlying ht, Builtin.lenOf, Builtin.firstCells, sizeOf, typeInfo, hi, storeCells]
      | some ad =>
        have hz : (loadCells ad 0).run P w = .ok #[] w := run_loadCells_list (P := P) w ad [] (by simp)
        cases A1 with
        | none => simp [Builtin.copy_, run_underlying ht, Builtin.lenOf, Builtin.firstCells, sizeOf, typeInfo, hi, hz]
        | some ad1 => simp [Builtin.copy_, run_underlying ht, Builtin.lenOf, Builtin.firstCells, sizeOf, typeInfo, hi, hz, storeCells]
    unfold Oper.wp
    simp [execOp, ho, resolve, invoke, builtin, hx, hy, hrun, Result.andThen]
    exact hK _ _ (h w (by simpa using HR) (World.grownBy.refl w _))
  obtain ⟨hok, inner, hown, hreps⟩ := HR
  rcases hown.2 with ⟨rfl, h0⟩ | ⟨g, cap, cur, rfl, hg, hh, hn, hcap, hcur, htake⟩
  · omega
  obtain ⟨ad, rfl, _⟩ := HC.2.2 (by omega)
  obtain ⟨cs, hr, hc⟩ := ReadsRow.inner_ HC
  have hcl : cs.length = l.length * d.sz := hr.1
  have hload := run_loadCells_list (P := P) w ad cs hc
  have hfit : cs.length ≤ cur.size := by rw [hcl, hcur]; exact Nat.mul_le_mul_right _ (Nat.le_trans hl hn)
  have hst := run_storeCells_at P g 0 e cs 0 cur w hh (by simpa using hfit) (one_reps hr)
  have hrun : (Builtin.copy_ #[t, t] oi.type #[.slice (some ⟨g, 0, none⟩) xs.length cap, .slice (some ad) l.length c]).run P w = .ok (goInt l.length) (w.setRow g (cs ++ cur.toList.drop cs.length).toArray) := by
    have hmin : min xs.length l.length = l.length := Nat.min_eq_right hl
    have hmin2 : min l.length xs.length = l.length := Nat.min_eq_left hl
    simp [Builtin.copy_, run_underlying ht, Builtin.lenOf, Builtin.firstCells, sizeOf, typeInfo, hi, hsz, hmin, hmin2, ← hcl, hload, hst]
  unfold Oper.wp
  simp [execOp, ho, resolve, invoke, builtin, hx, hy, hrun, Result.andThen]
  have hgr : w.grownBy (w.setRow g (cs ++ cur.toList.drop cs.length).toArray) (Value.slice (some ⟨g, 0, none⟩) xs.length cap).ownBlock := grownBy_setRow w g _
  have hh1 := setRow_heap w g cur (cs ++ cur.toList.drop cs.length).toArray e (0, 0) hh
  have hil : inner.length = xs.length * d.sz := hreps.1
  have hlen : (l ++ xs.drop l.length).length = xs.length := by simp; omega
  refine hK _ _ (h _ ⟨hok, cs ++ inner.drop cs.length, ⟨?_, .inr ⟨g, cap, _, by rw [hlen], hg, hh1, by rw [hlen]; exact hn, hcap, ?_, ?_⟩⟩, ?_⟩ hgr)
  · rw [hlen, List.length_append, List.length_drop, hil, hcl]
    have := Nat.mul_le_mul_right d.sz hl
    omega
  · simp; omega
  · rw [hlen]
    have h7 : cs.length ≤ xs.length * d.sz := by rw [hcl]; exact Nat.mul_le_mul_right _ hl
    rw [List.take_append, List.take_of_length_le h7, List.take_drop]
    congr 1
    rw [← htake]
    congr 2
    omega
  · exact reps_front (hr.imp_ (fun _ _ hp => hKM hp _ _ _)) (hreps.imp_ (fun _ _ hp => Kd.M_grown hp hgr (fun k hk => hk.2))) hl
theorem row_addr {d : Kd α} {e base n c : Nat} {ok : Nat → Prop} {A : Option Addr} {xs : List α} (h : d.R e w base ok (.slice A n c) xs) (hn : 0 < xs.length) : ∃ g, A = some ⟨g, 0, none⟩ ∧ base ≤ g := by
  obtain ⟨_, inner, ho, _⟩ := h
  rcases ho.2 with ⟨_, h0⟩ | ⟨g, cap, cur, hv, hg, _⟩
  · omega
  · injection hv with ha _ _
    exact ⟨g, ha, hg⟩
end
end Go.Proofs.Ytmilniofdpgbnaa.PL
