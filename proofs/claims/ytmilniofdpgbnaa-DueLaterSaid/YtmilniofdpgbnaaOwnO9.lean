/- copy, clear, len, min, max; maps of the call's own. -/
import Derived.Test.YtmilniofdpgbnaaOwnO8
set_option linter.unusedVariables false
set_option linter.unusedSimpArgs false
namespace Go.Own
open Go

section
variable {P : Program} {w0 : Base} {T : List AV} {H : Heap} {c : Cx} {a : Act} {g : Option (Nat × Bool)} {o : Oper}

theorem zip_map {cols ys zs : List Col} {off : Nat} {f : Col → Col} : zipAll (fun c y => Col.over c off (f y)) cols ys = some zs → zipAll (fun c y => Col.over c off y) cols (ys.map f) = some zs := by
  induction cols generalizing ys zs with
  | nil => cases ys <;> simp [zipAll]
  | cons x cols ih =>
    cases ys with
    | nil => simp [zipAll]
    | cons y ys =>
      intro h
      simp only [zipAll, List.map_cons] at h ⊢
      split at h
      · rename_i z zs' h1 h2
        cases h
        rw [h1, ih h2]
      · cases h

theorem copy_goes (h : At P w0 T H c a.tmps g) {cl : Call} {x y : Operand} {t t2 e : TypeId} {id n m : Nat} {cols ys zs : List Col} {rd : List Nat} {av : AV} (ho : o.op = .call cl) (hcl : cl.callee = .builtin .copy) (hargs : cl.args = #[x, y]) (h1 : cl.argTypes[0]? = some t)
    (ht : rowType P t = some e) (he : elemOk P e = true) (hx : opd P T g t x = .full id) (hy : opd P T g t2 y = av) (hsl : sliceOf H av = some (m, ys, rd)) (hid : H.at id = some (.row e n cols)) (hsz : cols.length = (colsOf P 9 e).length) (hz : zipAll (fun c y => Col.over c 0 (y.part 0 (nMin m n))) cols ys = some zs) :
    Goes P o a w0 (writeAll H [(id, .row e n zs)]) c (.int .i64 (ofN (nMin m n))) := by
  obtain ⟨i, z, hi⟩ := elemOk_is he
  have hu := rowType_some ht
  have rx := opd_eq h hx
  have ry := opd_eq h hy
  obtain ⟨xb, xc, us, hvy, hcy, hl, hf, hlen⟩ := sliceOf_rel h.heap hsl ry
  simp only [Rel] at rx
  obtain ⟨p, sb, hp, hvx, had⟩ := rx
  obtain ⟨p', hp', hob⟩ := h.heap.obj id _ hid
  rw [hp] at hp'
  cases hp'
  have hob' := hob
  obtain ⟨q1, q2, q3, q4, q5, q6⟩ := hob'
  have hzl := zipAll_len hz
  have hsi : i.size = cols.length := by rw [hi.size, hsz]
  have hsy : ys.length = cols.length := by omega
  have hz' := zip_map hz
  have hmin : nMin m n ≤ m ∧ nMin m n ≤ n := by simp [nMin]; omega
  obtain ⟨r1, r2, r3⟩ := row_part hf hlen 0 (nMin m n) (by omega) (by omega)
  simp only [Nat.zero_mul, List.drop_zero] at r1 r2
  have hcy' : nMin m n ≠ 0 → ∃ ad, xb = some ad ∧ ∀ (k : Nat) (u : Value), (us.take (nMin m n * ys.length))[k]? = some u → c.w.cell? (ad.add k) = some u := by
    intro h0
    obtain ⟨ad, h2, h3⟩ := hcy (by omega)
    refine ⟨ad, h2, fun k u hk => ?_⟩
    rw [List.getElem?_take] at hk
    split at hk
    · exact h3 k u hk
    · cases hk
  have hfc := run_firstCells (P := P) (xc := xc) (size := i.size) (w := c.w) (us := us.take (nMin m n * ys.length)) (m := nMin m n) (by rw [r1, hsi, hsy]) hcy'
  have hfc' : (Builtin.firstCells i.size (Nat.min m n) (.slice xb m xc)).run P c.w = .ok (us.take (nMin m n * ys.length)).toArray c.w := by
    have e : Builtin.firstCells i.size (Nat.min m n) (.slice xb m xc) = Builtin.firstCells i.size (nMin m n) (.slice xb (nMin m n) xc) := by
      cases xb <;> rfl
    rw [e]
    exact hfc
  have hex : execOp a.eval o = (do pure (.value (← Builtin.copy_ cl.argTypes o.type #[a.eval x, a.eval y]))) := by
    rw [call_builtin ho hcl, hargs]
    simp only [builtin, List.map_toArray, List.map_cons, List.map_nil]
  subst q1
  have hlenr : ∀ col ∈ ys.map (·.part 0 (nMin m p.n)), col.len = nMin m p.n := r3
  by_cases hm0 : nMin m p.n = 0
  · have hzs := zip_over_nil hz' (by intro col hc; rw [hlenr col hc, hm0])
    subst hzs
    refine ⟨.int .i64 (ofN (nMin m p.n)), c, .inl ?_, Cx.le.refl c, row_same h.heap hid, by simp [Rel]⟩
    rw [hex, hvx, hvy]
    have hnil : us.take (nMin m p.n * ys.length) = [] := by rw [hm0]; simp
    rw [hnil] at hfc'
    cases sb with
    | none => simp [Builtin.copy_, h1, run_underlying hu, run_sizeOf hi.info, Builtin.lenOf, hfc', goInt, ofN, nMin]
    | some ad => simp [Builtin.copy_, h1, run_underlying hu, run_sizeOf hi.info, Builtin.lenOf, hfc', goInt, ofN, nMin, storeCells]
  · obtain ⟨arr, ct, ha, hroom, hh, hle⟩ := row_over h.heap hid hp hz' hlenr r2 (by rw [r1]; simp) (by omega) hm0
    have hsb := had (by omega)
    subst hsb
    rw [Nat.zero_mul] at hroom hh hle
    have hst := run_storeCells_at P p.b 0 ct (us.take (nMin m p.n * ys.length)) 0 arr c.w ha (by omega) (r2.ones (by rw [r1]; simp))
    rw [over_arr] at hst
    refine ⟨.int .i64 (ofN (nMin m p.n)), _, .inl ?_, hle, hh, by simp [Rel]⟩
    rw [hex, hvx, hvy]
    simp only [Builtin.copy_, h1]
    simp only [List.getElem?_toArray, List.getElem?_cons_zero, List.getElem?_cons_succ, Sem.run_bind, run_underlying hu, Result.andThen_ok, Builtin.lenOf, Sem.run_pure, run_sizeOf hi.info, hfc', hst]
    rfl

theorem clear_goes (h : At P w0 T H c a.tmps g) {cl : Call} {x : Operand} {t e : TypeId} {id off n k : Nat} {cols zs : List Col} (ho : o.op = .call cl) (hcl : cl.callee = .builtin .clear) (hargs : cl.args = #[x]) (h1 : cl.argTypes[0]? = some t)
    (ht : rowType P t = some e) (he : elemOk P e = true) (hx : opd P T g t x = .osl id off n) (hid : H.at id = some (.row e k cols)) (hz : zipAll (fun c y => Col.over c off y) cols (zerosRow P e n) = some zs) (hfit : off + n ≤ k) :
    Goes P o a w0 (writeAll H [(id, .row e k zs)]) c .top := by
  obtain ⟨i, z, hi⟩ := elemOk_is he
  have hu := rowType_some ht
  have rx := opd_eq h hx
  simp only [Rel] at rx
  obtain ⟨p, sb, hp, hvx, hoff, hcap, had⟩ := rx
  obtain ⟨z1, z2, z3⟩ := zeros_flat (c := c) hi n
  have hex : execOp a.eval o = (do pure (.value (← Builtin.clear_ cl.argTypes o.type #[a.eval x]))) := by
    rw [call_builtin ho hcl, hargs]
    simp only [builtin, List.map_toArray, List.map_cons, List.map_nil]
  by_cases hn0 : n = 0
  · subst hn0
    have hzs := zip_over_nil hz z3
    subst hzs
    refine ⟨.tuple #[], c, .inl ?_, Cx.le.refl c, row_same h.heap hid, by simp [Rel]⟩
    rw [hex, hvx]
    cases sb <;> simp [Builtin.clear_, h1, run_underlying hu]
  · obtain ⟨arr, ct, ha, hroom, hh, hle⟩ := row_over h.heap hid hp hz z3 z2 z1 hfit hn0
    obtain ⟨p', hp', hob⟩ := h.heap.obj id _ hid
    rw [hp] at hp'
    cases hp'
    obtain ⟨q1, q2, q3, q4, q5, q6⟩ := hob
    have hsb := had (by omega)
    subst hsb
    have hst := run_storeCells_at P p.b (off * p.sz) ct ((Array.range (n * i.size)).map (z.cells[· % z.cells.size]!)).toList 0 arr c.w ha (by omega) (z2.ones z1)
    rw [over_arr] at hst
    refine ⟨.tuple #[], _, .inl ?_, hle, hh, by simp [Rel]⟩
    rw [hex, hvx]
    obtain ⟨n', rfl⟩ := Nat.exists_eq_succ_of_ne_zero hn0
    have hzc : (Builtin.zeroCells z.cells (n' + 1)).toList = ((Array.range ((n' + 1) * i.size)).map (z.cells[· % z.cells.size]!)).toList := by
      rw [Builtin.zeroCells, hi.cells]
    simp only [Builtin.clear_, h1]
    simp only [List.getElem?_toArray, List.getElem?_cons_zero, Sem.run_bind, run_underlying hu, Result.andThen_ok, run_zeroValue hi.info hi.zero, hzc, hst, Sem.run_pure]
    rfl

theorem len_goes (h : At P w0 T H c a.tmps g) {cl : Call} {x : Operand} {t e : TypeId} {n : Nat} {base : Option Addr} {cap : Nat} (ho : o.op = .call cl) (hcl : cl.callee = .builtin .len) (hargs : cl.args = #[x]) (h1 : cl.argTypes[0]? = some t) (hu : P.underlying t = some (.slice e)) (hv : a.eval x = .slice base n cap) : Goes P o a w0 H c (.int .i64 (ofN n)) := by
  refine goes_value h (v := .int .i64 (ofN n)) ?_ (by simp [Rel])
  rw [call_builtin ho hcl, hargs]
  simp only [builtin, List.map_toArray, List.map_cons, List.map_nil, hv]
  simp [Builtin.len_, h1, run_underlying hu, goInt, ofN]

theorem min_goes (h : At P w0 T H c a.tmps g) {cl : Call} {x y : Operand} {t t2 : TypeId} {k k' : IntKind} {m n : Int} (ho : o.op = .call cl) (hcl : cl.callee = .builtin .min) (hargs : cl.args = #[x, y]) (hx : opd P T g t x = .int k m) (hy : opd P T g t2 y = .int k' n) : Goes P o a w0 H c (.int k (imin m n)) := by
  refine goes_value h (v := .int k (imin m n)) ?_ (by simp [Rel])
  rw [call_builtin ho hcl, hargs]
  simp only [builtin, List.map_toArray, List.map_cons, List.map_nil, rel_int (opd_eq h hx), rel_int (opd_eq h hy)]
  simp [Builtin.min_, Builtin.min2, imin]

theorem max_goes (h : At P w0 T H c a.tmps g) {cl : Call} {x y : Operand} {t t2 : TypeId} {k k' : IntKind} {m n : Int} (ho : o.op = .call cl) (hcl : cl.callee = .builtin .max) (hargs : cl.args = #[x, y]) (hx : opd P T g t x = .int k m) (hy : opd P T g t2 y = .int k' n) : Goes P o a w0 H c (.int k (imax m n)) := by
  refine goes_value h (v := .int k (imax m n)) ?_ (by simp [Rel])
  rw [call_builtin ho hcl, hargs]
  simp only [builtin, List.map_toArray, List.map_cons, List.map_nil, rel_int (opd_eq h hx), rel_int (opd_eq h hy)]
  simp [Builtin.max_, Builtin.max2, imax]

/- maps -/
theorem makeMap_goes (h : At P w0 T H c a.tmps g) {t : TypeId} {fr : Nat} (hfr : H.at fr = none) (ho : o.op = .makeMap t none) : Goes P o a w0 (writeAll H [(fr, .map [])]) c (.mp fr) := by
  have hn := h.heap.free fr hfr
  have hle := le_push h.heap (.map #[] 0) fr ⟨c.w.heap.size, 0, 0, 0⟩ hn
  refine ⟨.map (some c.w.heap.size), c.putAt { c.w with heap := c.w.heap.push (.map #[] 0) } fr ⟨c.w.heap.size, 0, 0, 0⟩, .inl ?_, hle, ?_, ?_⟩
  · simp only [execOp, ho, Option.map_none, Sem.run_bind, Instr.makeMap, run_newObj, Result.andThen_ok, Sem.run_pure]
    rfl
  · exact h.heap.alloc fr _ _ _ hfr rfl ⟨#[], 0, heap_push_new _ _, trivial⟩
  · simp only [Rel]
    exact ⟨_, by simp [Cx.putAt]; rfl, rfl⟩

theorem findNow_none {k : IntKind} {n : Int} : ∀ {es : List (Int × AV)} {ms : List MapEntry} (i : Nat), MapIs c es ms → (es.any fun e => e.1 == n) = false → Instr.findNow (.int k) (.int .i64 n) ms i = some none
  | [], [], _, _, _ => rfl
  | (m, x) :: es, e :: ms, i, h, hn => by
    obtain ⟨h1, _, h3⟩ := h
    simp only [List.any_cons, Bool.or_eq_false_iff] at hn
    have hne : (n == m) = false := by
      have := hn.1
      simp at this ⊢
      exact fun e => this e.symm
    simp only [Instr.findNow, h1, Instr.sameNow, if_true, hne]
    exact findNow_none (i + 1) h3 hn.2
  | [], _ :: _, _, h, _ => h.elim
  | _ :: _, [], _, h, _ => h.elim

theorem MapIs.snoc {n : Int} {x : AV} {m : MapEntry} (h1 : m.key = .int .i64 n) (h2 : Rel c x m.val) : ∀ {es : List (Int × AV)} {ms : List MapEntry}, MapIs c es ms → MapIs c (es ++ [(n, x)]) (ms ++ [m])
  | [], [], _ => ⟨h1, h2, trivial⟩
  | (_, _) :: _, _ :: _, h => ⟨h.1, h.2.1, MapIs.snoc h1 h2 h.2.2⟩
  | [], _ :: _, h => h.elim
  | _ :: _, [], h => h.elim

theorem run_checkKey_int {t : TypeId} {k : IntKind} (hu : P.underlying t = some (.int k)) (b : Bool) (n : Nat) (v : Value) (hv : ∃ k n, v = .int k n) (w : World) : (Instr.checkKey b (n + 1) t v).run P w = .ok () w := by
  obtain ⟨k, m, rfl⟩ := hv
  simp [Instr.checkKey, run_underlying hu]

theorem put_goes (h : At P w0 T H c a.tmps g) {t kt e : TypeId} {k : IntKind} {m x y : Operand} {id : Nat} {n : Int} {es : List (Int × AV)} {v : AV} (ho : o.op = .insert t m x y ∨ o.op = .mapUpdate t m x y) (ht : P.underlying t = some (.map kt e)) (hk : P.underlying kt = some (.int k)) (hm : opd P T g 0 m = .mp id) (hx : opd P T g 3 x = .int .i64 n) (hy : opd P T g 0 y = v)
    (hid : H.at id = some (.map es)) (hnew : (es.any fun e => e.1 == n) = false) : Goes P o a w0 (writeAll H [(id, .map (es ++ [(n, v)]))]) c .top := by
  have rm := opd_eq h hm
  have rx := rel_int (opd_eq h hx)
  have ry := opd_eq h hy
  simp only [Rel] at rm
  obtain ⟨p, hp, hvm⟩ := rm
  obtain ⟨p', hp', hob⟩ := h.heap.obj id _ hid
  rw [hp] at hp'
  cases hp'
  obtain ⟨arr, clk, ha, hes⟩ := hob
  have hlt : p.b < c.w.heap.size := (h.heap.out id p ⟨_, hid, hp, trivial⟩).2.1
  let w' : World := { c.w with heap := c.w.heap.setIfInBounds p.b (.map (arr.push { key := .int .i64 n, val := a.eval y, born := clk }) (clk + 1)) }
  have hother : ∀ b, b ≠ p.b → w'.heap[b]? = c.w.heap[b]? := by
    intro b hb
    show (c.w.heap.setIfInBounds p.b _)[b]? = _
    rw [Array.getElem?_setIfInBounds_ne (Ne.symm hb)]
  obtain ⟨hh, hle⟩ := h.heap.store id (.map (es ++ [(n, v)])) w' ⟨rfl, rfl, rfl⟩ hid hp trivial (by simp [w']) hother (fun hle => by
    refine ⟨arr.push { key := .int .i64 n, val := a.eval y, born := clk }, clk + 1, ?_, ?_⟩
    · show (c.w.heap.setIfInBounds p.b _)[p.b]? = _
      rw [Array.getElem?_setIfInBounds_self_of_lt hlt]
    · rw [Array.toList_push]
      exact MapIs.snoc rfl (ry.mono hle) (hes.mono hle))
  have hrun : (Instr.mapUpdate t (a.eval m) (a.eval x) (a.eval y)).run P c.w = .ok () w' := by
    rw [hvm, rx]
    have hgo : (getObj p.b).run P c.w = .ok (.map arr clk) c.w := by simp [getObj, Sem.run, ha]
    have hfk : (Instr.findKey kt (.int .i64 n) arr.toList).run P c.w = .ok none c.w := by
      simp [Instr.findKey, run_underlying hk, findNow_none 0 hes hnew]
    have hso : ∀ ob, (setObj p.b ob).run P c.w = .ok () { c.w with heap := c.w.heap.setIfInBounds p.b ob } := by
      intro ob
      simp [setObj, Sem.run, ha]
    simp only [Instr.mapUpdate, Sem.run_bind, run_underlying ht, Result.andThen_ok, hgo, run_checkKey_int hk false 9999 _ ⟨_, _, rfl⟩, hfk, hso]
    rfl
  refine ⟨undef, c.with w', .inr ⟨?_, rfl⟩, hle, hh, by simp [Rel]⟩
  rcases ho with ho | ho <;> simp only [execOp, ho, Sem.run_bind, hrun, Result.andThen_ok, Sem.run_pure] <;> rfl

end
end Go.Own
