/- 'copy(out, l)', out as long as l and a row of the call's own: behind it out reads as l, whatever size an element has. -/
import Derived.Test.YtlpeklhejjidfaaPLx0
import Derived.Laws.CopyRow
import Derived.Laws.CopyOwn
namespace Go.Proofs.Ytlpeklhejjidfaa.PL
open Go.RowKit Go.Proofs.YtlpeklhejjidfaaW.PrintWords Go.Proofs.YtlpeklhejjidfaaW.PrintLast Go.Proofs.YtlpeklhejjidfaaW.PrintMore
set_option linter.unusedSimpArgs false
set_option linter.unusedVariables false
section
variable {P : Program} {ops : Array Oper} {rest : List Oper} {oi : Oper} {a : Act} {Q : Exit → Act → World → Prop} {w : World} {α : Type}
theorem one_reps {d : Kd α} {w : World} : ∀ {xs : List α} {cs : List Value}, Reps (d.K w) d.sz xs cs → ∀ u ∈ cs, u.oneCell' = true := by
  intro xs cs h u hu
  by_cases hs : d.sz = 0
  · have h0 : cs.length = 0 := by rw [h.1, hs]; simp
    rw [List.eq_nil_of_length_eq_zero h0] at hu
    simp at hu
  obtain ⟨j, hj, rfl⟩ := List.getElem_of_mem hu
  have hl := h.1
  have hq : j / d.sz < xs.length := by
    refine Nat.div_lt_of_lt_mul ?_
    rw [Nat.mul_comm]; omega
  refine d.K_one (h.2 (j / d.sz) _ (List.getElem?_eq_getElem hq)) _ ?_
  have hm : j % d.sz < d.sz := Nat.mod_lt _ (by omega)
  have e : j = j / d.sz * d.sz + j % d.sz := by rw [Nat.mul_comm]; exact (Nat.div_add_mod _ _).symm
  refine List.mem_of_getElem? (i := j % d.sz) ?_
  rw [List.getElem?_take, if_pos hm, List.getElem?_drop, ← e, List.getElem?_eq_getElem hj]
/-- A row of the call's own that another one of the same length is copied to. -/
theorem copy_whole (d : Kd α) (hgd : oi.guard = none) (x y : Operand) (t e : TypeId) (ho : oi.op = .call { callee := .builtin .copy, args := #[x, y], argTypes := #[t, t] })
    (ht : P.underlying t = some (.slice e)) (hs : (P.info? e).map (·.size) = some d.sz) (hKM : ∀ {w1 x cs}, d.K w1 x cs → ∀ w2 base ok, d.M w2 base ok x cs)
    {w0 : World} {base : Nat} {ok : Nat → Prop} {v : Value} {xs l : List α} {A : Option Addr} {c : Nat} (hx : a.eval x = v) (hy : a.eval y = .slice A l.length c)
    (HR : d.R e w base ok v xs) (HC : d.C w A l.length l) (hl : xs.length = l.length) (HB : Below w0.heap.size w0 w) (hb : w0.heap.size ≤ base)
    (h : ∀ w1, d.R e w1 base ok v l → Below w0.heap.size w0 w1 → (∀ k, some k ≠ v.ownBlock → w1.heap[k]? = w.heap[k]?) → wpList P ops Q rest (a.put oi.dst (goInt l.length)) w1) : wpList P ops Q (oi :: rest) a w := by
  refine wpList_plain hgd fun K hK => ?_
  obtain ⟨i0, hi, hsz⟩ := Option.map_eq_some_iff.1 hs
  obtain ⟨hok, inner, hown, hreps⟩ := HR
  rcases hown.2 with ⟨rfl, h0⟩ | ⟨g, cap, cur, rfl, hg, hh, hn, hcap, hcur, htake⟩
  · -- nothing there
    have hl0 : l.length = 0 := by omega
    have hxs : xs = [] := List.eq_nil_of_length_eq_zero h0
    have hln : l = [] := List.eq_nil_of_length_eq_zero hl0
    subst hln
    subst hxs
    have hrun : (Builtin.copy_ #[t, t] oi.type #[.slice none 0 0, .slice A 0 c]).run P w = .ok (goInt 0) w := by
      cases A with
      | none => simp [Builtin.copy_, run_underlying ht, Builtin.lenOf, Builtin.firstCells, sizeOf, typeInfo, hi]
      | some ad =>
        have hz : (loadCells ad 0).run P w = .ok #[] w := run_loadCells_list (P := P) w ad [] (by simp)
        simp [Builtin.copy_, run_underlying ht, Builtin.lenOf, Builtin.firstCells, sizeOf, typeInfo, hi, hz]
    unfold Oper.wp
    simp [execOp, ho, resolve, invoke, builtin, hx, hy, hrun, Result.andThen]
    exact hK _ _ (h w (Kd.R_nil d e w base ok) HB (fun _ _ => rfl))
  · by_cases hn0 : l.length = 0
    · have hxs : xs = [] := List.eq_nil_of_length_eq_zero (by omega)
      have hln : l = [] := List.eq_nil_of_length_eq_zero hn0
      subst hxs; subst hln
      have hrun : (Builtin.copy_ #[t, t] oi.type #[.slice (some ⟨g, 0, none⟩) 0 cap, .slice A 0 c]).run P w = .ok (goInt 0) w := by
        cases A with
        | none => simp [Builtin.copy_, run_underlying ht, Builtin.lenOf, Builtin.firstCells, sizeOf, typeInfo, hi, storeCells]
        | some ad =>
          have hz : (loadCells ad 0).run P w = .ok #[] w := run_loadCells_list (P := P) w ad [] (by simp)
          simp [Builtin.copy_, run_underlying ht, Builtin.lenOf, Builtin.firstCells, sizeOf, typeInfo, hi, hz, storeCells]
      unfold Oper.wp
      simp [execOp, ho, resolve, invoke, builtin, hx, hy, hrun, Result.andThen]
      exact hK _ _ (h w ⟨hok, inner, hown, hreps⟩ HB (fun _ _ => rfl))
    obtain ⟨ad, rfl, _⟩ := HC.2.2 (by omega)
    obtain ⟨cs, hr, hc⟩ := ReadsRow.inner_ HC
    have hcl : cs.length = l.length * d.sz := hr.1
    have hload := run_loadCells_list (P := P) w ad cs hc
    have hfit : cs.length ≤ cur.size := by rw [hcl, hcur, ← hl]; exact Nat.mul_le_mul_right _ hn
    have hst := run_storeCells_at P g 0 t cs 0 cur w
    have hst := run_storeCells_at P g 0 e cs 0 cur w hh (by simpa using hfit) (one_reps hr)
    have hrun : (Builtin.copy_ #[t, t] oi.type #[.slice (some ⟨g, 0, none⟩) xs.length cap, .slice (some ad) l.length c]).run P w = .ok (goInt l.length) (w.setRow g (cs ++ cur.toList.drop cs.length).toArray) := by
      simp [Builtin.copy_, run_underlying ht, Builtin.lenOf, Builtin.firstCells, sizeOf, typeInfo, hi, hsz, hl, ← hcl, hload, hst]
    unfold Oper.wp
    simp [execOp, ho, resolve, invoke, builtin, hx, hy, hrun, Result.andThen]
    refine hK _ _ (h _ ?_ (below_setRow HB (Nat.le_trans hb hg) _) (fun k hk => setRow_other w g k _ (fun e => hk (by simp [Value.ownBlock, e]))))
    have hh1 := setRow_heap w g cur (cs ++ cur.toList.drop cs.length).toArray e (0, 0) hh
    refine ⟨hok, cs, ⟨hcl, .inr ⟨g, cap, _, by rw [hl], hg, hh1, by omega, hcap, ?_, ?_⟩⟩, hr.imp_ (fun _ _ hp => hKM hp _ _ _)⟩
    · simp; omega
    · rw [← hcl]; simp
theorem row_addr {d : Kd α} {e base n c : Nat} {ok : Nat → Prop} {A : Option Addr} {xs : List α} (h : d.R e w base ok (.slice A n c) xs) (hn : 0 < xs.length) : ∃ g, A = some ⟨g, 0, none⟩ ∧ base ≤ g := by
  obtain ⟨_, inner, ho, _⟩ := h
  rcases ho.2 with ⟨_, h0⟩ | ⟨g, cap, cur, hv, hg, _⟩
  · omega
  · injection hv with ha _ _
    exact ⟨g, ha, hg⟩
end
end Go.Proofs.Ytlpeklhejjidfaa.PL
