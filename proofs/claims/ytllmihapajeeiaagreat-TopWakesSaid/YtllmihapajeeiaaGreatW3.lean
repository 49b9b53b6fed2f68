/- What stands behind it, part 3. -/
import Derived.Test.YtllmihapajeeiaaGreatW2
import Derived.WalkSpells
set_option linter.unusedVariables false
set_option linter.unusedSimpArgs false
section
namespace Go.Own
open Go
section
variable {P : Program} {w0 : Base} {T : List AV} {H : Heap} {c : Cx} {a : Act} {g : Option (Nat × Bool)} {o : Oper}
theorem zip_map {cols ys zs : List Col} {off : Nat} {f : Col → Col} : zipAll (fun c y => Col.over c off (f y)) cols ys = some zs → zipAll (fun c y => Col.over c off y) cols (ys.map f) = some zs := by
 induction cols generalizing ys zs with
 | nil => cases ys <;> simp [zipAll]
 | cons x cols ih =>
  cases ys with
  | nil => simp [zipAll]
  | cons y ys =>
   intro h
   simp only [zipAll, List.map_cons] at h ⊢
   split at h
   ·rename_i z zs' h1 h2
    cases h
    rw [h1, ih h2]
   ·cases h
theorem copy_goes (h : At P w0 T H c a.tmps g) {cl : Call} {x y : Operand} {t t2 e : TypeId} {id n m : Nat} {cols ys zs : List Col} {rd : List Nat} {av : AV} (ho : o.op = .call cl) (hcl : cl.callee = .builtin .copy) (hargs : cl.args = #[x, y]) (h1 : cl.argTypes[0]? = some t)
  (ht : rowType P t = some e) (he : elemOk P e = true) (hx : opd P T g t x = .full id) (hy : opd P T g t2 y = av) (hsl : sliceOf H av = some (m, ys, rd)) (hid : H.at id = some (.row e n cols)) (hsz : cols.length = (colsOf P 9 e).length) (hz : zipAll (fun c y => Col.over c 0 (y.part 0 (nMin m n))) cols ys = some zs) :
  Goes P o a w0 (writeAll H [(id, .row e n zs)]) c (.int .i64 (ofN (nMin m n))) := by
 obtain ⟨i, z, hi⟩ := elemOk_is he
 have hu := rowType_some ht
 have rx := opd_eq h hx
 have ry := opd_eq h hy
 obtain ⟨xb, xc, us, hvy, hcy, hl, hf, hlen⟩ := sliceOf_rel h.heap hsl ry
 simp only [Rel] at rx
 obtain ⟨p, sb, hp, hvx, had⟩ := rx
 obtain ⟨p', hp', hob⟩ := h.heap.obj id _ hid
 rw [hp] at hp'
 cases hp'
 have hob' := hob
 obtain ⟨q1, q2, q3, q4, q5, q6⟩ := hob'
 have hzl := zipAll_len hz
 have hsi : i.size = cols.length := by rw [hi.size, hsz]
 have hsy : ys.length = cols.length := by omega
 have hz' := zip_map hz
 have hmin : nMin m n ≤ m ∧ nMin m n ≤ n := by simp [nMin]; omega
 obtain ⟨r1, r2, r3⟩ := row_part hf hlen 0 (nMin m n) (by omega) (by omega)
 simp only [Nat.zero_mul, List.drop_zero] at r1 r2
 have hcy' : nMin m n ≠ 0 → ∃ ad, xb = some ad ∧ ∀ (k : Nat) (u : Value), (us.take (nMin m n * ys.length))[k]? = some u → c.w.cell? (ad.add k) = some u := by
  intro h0
  obtain ⟨ad, h2, h3⟩ := hcy (by omega)
  refine ⟨ad, h2, fun k u hk => ?_⟩
  rw [List.getElem?_take] at hk
  split at hk
  ·exact h3 k u hk
  ·cases hk
 have hfc := run_firstCells (P := P) (xc := xc) (size := i.size) (w := c.w) (us := us.take (nMin m n * ys.length)) (m := nMin m n) (by rw [r1, hsi, hsy]) hcy'
 have hfc' : (Builtin.firstCells i.size (Nat.min m n) (.slice xb m xc)).run P c.w = .ok (us.take (nMin m n * ys.length)).toArray c.w := by
  have e : Builtin.firstCells i.size (Nat.min m n) (.slice xb m xc) = Builtin.firstCells i.size (nMin m n) (.slice xb (nMin m n) xc) := by
   cases xb <;> rfl
  rw [e]
  exact hfc
 have hex : execOp a.eval o = (do pure (.value (← Builtin.copy_ cl.argTypes o.type #[a.eval x, a.eval y]))) := by
  rw [call_builtin ho hcl, hargs]
  simp only [builtin, List.map_toArray, List.map_cons, List.map_nil]
 subst q1
 have hlenr : ∀ col ∈ ys.map (·.part 0 (nMin m p.n)), col.len = nMin m p.n := r3
 by_cases hm0 : nMin m p.n = 0
 ·have hzs := zip_over_nil hz' (by intro col hc; rw [hlenr col hc, hm0])
  subst hzs
  refine ⟨.int .i64 (ofN (nMin m p.n)), c, .inl ?_, Cx.le.refl c, row_same h.heap hid, by simp [Rel]⟩
  rw [hex, hvx, hvy]
  have hnil : us.take (nMin m p.n * ys.length) = [] := by rw [hm0]; simp
  rw [hnil] at hfc'
  cases sb with
  | none => simp [Builtin.copy_, h1, run_underlying hu, run_sizeOf hi.info, Builtin.lenOf, hfc', goInt, ofN, nMin]
  | some ad => simp [Builtin.copy_, h1, run_underlying hu, run_sizeOf hi.info, Builtin.lenOf, hfc', goInt, ofN, nMin, storeCells]
 ·obtain ⟨arr, ct, ha, hroom, hh, hle⟩ := row_over h.heap hid hp hz' hlenr r2 (by rw [r1]; simp) (by omega) hm0
  have hsb := had (by omega)
  subst hsb
  rw [Nat.zero_mul] at hroom hh hle
  have hst := run_storeCells_at P p.b 0 ct (us.take (nMin m p.n * ys.length)) 0 arr c.w ha (by omega) (r2.ones (by rw [r1]; simp))
  rw [over_arr] at hst
  refine ⟨.int .i64 (ofN (nMin m p.n)), _, .inl ?_, hle, hh, by simp [Rel]⟩
  rw [hex, hvx, hvy]
  simp only [Builtin.copy_, h1]
  simp only [List.getElem?_toArray, List.getElem?_cons_zero, List.getElem?_cons_succ, Sem.run_bind, run_underlying hu, Result.andThen_ok, Builtin.lenOf, Sem.run_pure, run_sizeOf hi.info, hfc', hst]
  rfl
theorem clear_goes (h : At P w0 T H c a.tmps g) {cl : Call} {x : Operand} {t e : TypeId} {id off n k : Nat} {cols zs : List Col} (ho : o.op = .call cl) (hcl : cl.callee = .builtin .clear) (hargs : cl.args = #[x]) (h1 : cl.argTypes[0]? = some t)
  (ht : rowType P t = some e) (he : elemOk P e = true) (hx : opd P T g t x = .osl id off n) (hid : H.at id = some (.row e k cols)) (hz : zipAll (fun c y => Col.over c off y) cols (zerosRow P e n) = some zs) (hfit : off + n ≤ k) :
  Goes P o a w0 (writeAll H [(id, .row e k zs)]) c .top := by
 obtain ⟨i, z, hi⟩ := elemOk_is he
 have hu := rowType_some ht
 have rx := opd_eq h hx
 simp only [Rel] at rx
 obtain ⟨p, sb, hp, hvx, hoff, hcap, had⟩ := rx
 obtain ⟨z1, z2, z3⟩ := zeros_flat (c := c) hi n
 have hex : execOp a.eval o = (do pure (.value (← Builtin.clear_ cl.argTypes o.type #[a.eval x]))) := by
  rw [call_builtin ho hcl, hargs]
  simp only [builtin, List.map_toArray, List.map_cons, List.map_nil]
 by_cases hn0 : n = 0
 ·subst hn0
  have hzs := zip_over_nil hz z3
  subst hzs
  refine ⟨.tuple #[], c, .inl ?_, Cx.le.refl c, row_same h.heap hid, by simp [Rel]⟩
  rw [hex, hvx]
  cases sb <;> simp [Builtin.clear_, h1, run_underlying hu]
 ·obtain ⟨arr, ct, ha, hroom, hh, hle⟩ := row_over h.heap hid hp hz z3 z2 z1 hfit hn0
  obtain ⟨p', hp', hob⟩ := h.heap.obj id _ hid
  rw [hp] at hp'
  cases hp'
  obtain ⟨q1, q2, q3, q4, q5, q6⟩ := hob
  have hsb := had (by omega)
  subst hsb
  have hst := run_storeCells_at P p.b (off * p.sz) ct ((Array.range (n * i.size)).map (z.cells[· % z.cells.size]!)).toList 0 arr c.w ha (by omega) (z2.ones z1)
  rw [over_arr] at hst
  refine ⟨.tuple #[], _, .inl ?_, hle, hh, by simp [Rel]⟩
  rw [hex, hvx]
  obtain ⟨n', rfl⟩ := Nat.exists_eq_succ_of_ne_zero hn0
  have hzc : (Builtin.zeroCells z.cells (n' + 1)).toList = ((Array.range ((n' + 1) * i.size)).map (z.cells[· % z.cells.size]!)).toList := by
   rw [Builtin.zeroCells, hi.cells]
  simp only [Builtin.clear_, h1]
  simp only [List.getElem?_toArray, List.getElem?_cons_zero, Sem.run_bind, run_underlying hu, Result.andThen_ok, run_zeroValue hi.info hi.zero, hzc, hst, Sem.run_pure]
  rfl
theorem len_goes (h : At P w0 T H c a.tmps g) {cl : Call} {x : Operand} {t e : TypeId} {n : Nat} {base : Option Addr} {cap : Nat} (ho : o.op = .call cl) (hcl : cl.callee = .builtin .len) (hargs : cl.args = #[x]) (h1 : cl.argTypes[0]? = some t) (hu : P.underlying t = some (.slice e)) (hv : a.eval x = .slice base n cap) : Goes P o a w0 H c (.int .i64 (ofN n)) := by
 refine goes_value h (v := .int .i64 (ofN n)) ?_ (by simp [Rel])
 rw [call_builtin ho hcl, hargs]
 simp only [builtin, List.map_toArray, List.map_cons, List.map_nil, hv]
 simp [Builtin.len_, h1, run_underlying hu, goInt, ofN]
theorem min_goes (h : At P w0 T H c a.tmps g) {cl : Call} {x y : Operand} {t t2 : TypeId} {k k' : IntKind} {m n : Int} (ho : o.op = .call cl) (hcl : cl.callee = .builtin .min) (hargs : cl.args = #[x, y]) (hx : opd P T g t x = .int k m) (hy : opd P T g t2 y = .int k' n) : Goes P o a w0 H c (.int k (imin m n)) := by
 refine goes_value h (v := .int k (imin m n)) ?_ (by simp [Rel])
 rw [call_builtin ho hcl, hargs]
 simp only [builtin, List.map_toArray, List.map_cons, List.map_nil, rel_int (opd_eq h hx), rel_int (opd_eq h hy)]
 simp [Builtin.min_, Builtin.min2, imin]
theorem max_goes (h : At P w0 T H c a.tmps g) {cl : Call} {x y : Operand} {t t2 : TypeId} {k k' : IntKind} {m n : Int} (ho : o.op = .call cl) (hcl : cl.callee = .builtin .max) (hargs : cl.args = #[x, y]) (hx : opd P T g t x = .int k m) (hy : opd P T g t2 y = .int k' n) : Goes P o a w0 H c (.int k (imax m n)) := by
 refine goes_value h (v := .int k (imax m n)) ?_ (by simp [Rel])
 rw [call_builtin ho hcl, hargs]
 simp only [builtin, List.map_toArray, List.map_cons, List.map_nil, rel_int (opd_eq h hx), rel_int (opd_eq h hy)]
 simp [Builtin.max_, Builtin.max2, imax]
theorem makeMap_goes (h : At P w0 T H c a.tmps g) {t : TypeId} {fr : Nat} (hfr : H.at fr = none) (ho : o.op = .makeMap t none) : Goes P o a w0 (writeAll H [(fr, .map [])]) c (.mp fr) := by
 have hn := h.heap.free fr hfr
 have hle := le_push h.heap (.map #[] 0) fr ⟨c.w.heap.size, 0, 0, 0⟩ hn
 refine ⟨.map (some c.w.heap.size), c.putAt { c.w with heap := c.w.heap.push (.map #[] 0) } fr ⟨c.w.heap.size, 0, 0, 0⟩, .inl ?_, hle, ?_, ?_⟩
 ·simp only [execOp, ho, Option.map_none, Sem.run_bind, Instr.makeMap, run_newObj, Result.andThen_ok, Sem.run_pure]
  rfl
 ·exact h.heap.alloc fr _ _ _ hfr rfl ⟨#[], 0, heap_push_new _ _, trivial⟩
 ·simp only [Rel]
  exact ⟨_, by simp [Cx.putAt]; rfl, rfl⟩
theorem findNow_none {k : IntKind} {n : Int} : ∀ {es : List (Int × AV)} {ms : List MapEntry} (i : Nat), MapIs c es ms → (es.any fun e => e.1 == n) = false → Instr.findNow (.int k) (.int .i64 n) ms i = some none
 | [], [], _, _, _ => rfl
 | (m, x) :: es, e :: ms, i, h, hn => by
  obtain ⟨h1, _, h3⟩ := h
  simp only [List.any_cons, Bool.or_eq_false_iff] at hn
  have hne : (n == m) = false := by
   have := hn.1
   simp at this ⊢
   exact fun e => this e.symm
  simp only [Instr.findNow, h1, Instr.sameNow, if_true, hne]
  exact findNow_none (i + 1) h3 hn.2
 | [], _ :: _, _, h, _ => h.elim
 | _ :: _, [], _, h, _ => h.elim
theorem MapIs.snoc {n : Int} {x : AV} {m : MapEntry} (h1 : m.key = .int .i64 n) (h2 : Rel c x m.val) : ∀ {es : List (Int × AV)} {ms : List MapEntry}, MapIs c es ms → MapIs c (es ++ [(n, x)]) (ms ++ [m])
 | [], [], _ => ⟨h1, h2, trivial⟩
 | (_, _) :: _, _ :: _, h => ⟨h.1, h.2.1, MapIs.snoc h1 h2 h.2.2⟩
 | [], _ :: _, h => h.elim
 | _ :: _, [], h => h.elim
theorem run_checkKey_int {t : TypeId} {k : IntKind} (hu : P.underlying t = some (.int k)) (b : Bool) (n : Nat) (v : Value) (hv : ∃ k n, v = .int k n) (w : World) : (Instr.checkKey b (n + 1) t v).run P w = .ok () w := by
 obtain ⟨k, m, rfl⟩ := hv
 simp [Instr.checkKey, run_underlying hu]
theorem put_goes (h : At P w0 T H c a.tmps g) {t kt e : TypeId} {k : IntKind} {m x y : Operand} {id : Nat} {n : Int} {es : List (Int × AV)} {v : AV} (ho : o.op = .insert t m x y ∨ o.op = .mapUpdate t m x y) (ht : P.underlying t = some (.map kt e)) (hk : P.underlying kt = some (.int k)) (hm : opd P T g 0 m = .mp id) (hx : opd P T g 3 x = .int .i64 n) (hy : opd P T g 0 y = v)
  (hid : H.at id = some (.map es)) (hnew : (es.any fun e => e.1 == n) = false) : Goes P o a w0 (writeAll H [(id, .map (es ++ [(n, v)]))]) c .top := by
 have rm := opd_eq h hm
 have rx := rel_int (opd_eq h hx)
 have ry := opd_eq h hy
 simp only [Rel] at rm
 obtain ⟨p, hp, hvm⟩ := rm
 obtain ⟨p', hp', hob⟩ := h.heap.obj id _ hid
 rw [hp] at hp'
 cases hp'
 obtain ⟨arr, clk, ha, hes⟩ := hob
 have hlt : p.b < c.w.heap.size := (h.heap.out id p ⟨_, hid, hp, trivial⟩).2.1
 let w' : World := { c.w with heap := c.w.heap.setIfInBounds p.b (.map (arr.push { key := .int .i64 n, val := a.eval y, born := clk }) (clk + 1)) }
 have hother : ∀ b, b ≠ p.b → w'.heap[b]? = c.w.heap[b]? := by
  intro b hb
  show (c.w.heap.setIfInBounds p.b _)[b]? = _
  rw [Array.getElem?_setIfInBounds_ne (Ne.symm hb)]
 obtain ⟨hh, hle⟩ := h.heap.store id (.map (es ++ [(n, v)])) w' ⟨rfl, rfl, rfl⟩ hid hp trivial (by simp [w']) hother (fun hle => by
  refine ⟨arr.push { key := .int .i64 n, val := a.eval y, born := clk }, clk + 1, ?_, ?_⟩
  ·show (c.w.heap.setIfInBounds p.b _)[p.b]? = _
   rw [Array.getElem?_setIfInBounds_self_of_lt hlt]
  ·rw [Array.toList_push]
   exact MapIs.snoc rfl (ry.mono hle) (hes.mono hle))
 have hrun : (Instr.mapUpdate t (a.eval m) (a.eval x) (a.eval y)).run P c.w = .ok () w' := by
  rw [hvm, rx]
  have hgo : (getObj p.b).run P c.w = .ok (.map arr clk) c.w := by simp [getObj, Sem.run, ha]
  have hfk : (Instr.findKey kt (.int .i64 n) arr.toList).run P c.w = .ok none c.w := by
   simp [Instr.findKey, run_underlying hk, findNow_none 0 hes hnew]
  have hso : ∀ ob, (setObj p.b ob).run P c.w = .ok () { c.w with heap := c.w.heap.setIfInBounds p.b ob } := by
   intro ob
   simp [setObj, Sem.run, ha]
  simp only [Instr.mapUpdate, Sem.run_bind, run_underlying ht, Result.andThen_ok, hgo, run_checkKey_int hk false 9999 _ ⟨_, _, rfl⟩, hfk, hso]
  rfl
 refine ⟨undef, c.with w', .inr ⟨?_, rfl⟩, hle, hh, by simp [Rel]⟩
 rcases ho with ho | ho <;> simp only [execOp, ho, Sem.run_bind, hrun, Result.andThen_ok, Sem.run_pure] <;> rfl
end
end Go.Own
end
section
namespace Go.Own
open Go
section
variable {P : Program} {w0 : Base} {T : List AV} {H : Heap} {c : Cx} {a : Act} {g : Option (Nat × Bool)} {o : Oper}
theorem mapT_some {t : TypeId} {cols : List Col} {one : Bool} (h : mapT P t = some (cols, one)) : ∃ k e, P.underlying t = some (.map k e) ∧ P.underlying k = some (.int .i64) ∧ (∀ col ∈ cols, col.len = 0 ∧ col.flat = true) ∧ (one = true → ∃ col, cols = [col]) := by
 unfold mapT at h
 split at h
 ·rename_i k e hu
  split at h
  ·rename_i hk
   split at h
   ·rename_i hf
    refine ⟨k, e, hu, hk, ?_⟩
    have key : ∀ col ∈ colsOf P 9 e, col.len = 0 ∧ col.flat = true := fun col hc => ⟨colsOf_len 9 e col hc, List.all_eq_true.1 hf col hc⟩
    split at h
    ·rename_i col _ he
     cases h
     exact ⟨fun x hx => key x (by rw [he]; exact hx), fun _ => ⟨_, rfl⟩⟩
    ·rename_i col cs _ he
     cases h
     exact ⟨fun x hx => key x (by rw [he]; exact hx), fun h => by cases h⟩
    ·cases h
   ·cases h
  ·cases h
 ·cases h
theorem makeT_goes (h : At P w0 T H c a.tmps g) {t : TypeId} {fr : Nat} {cols : List Col} {one : Bool} (hfr : H.at fr = none) (ho : o.op = .makeMap t none) (ht : mapT P t = some (cols, one)) : Goes P o a w0 (writeAll H [(fr, .tmap [] cols one)]) c (.mp fr) := by
 have hn := h.heap.free fr hfr
 have hle := le_push h.heap (.map #[] 0) fr ⟨c.w.heap.size, 0, 0, 1⟩ hn
 obtain ⟨_, _, _, _, hc, _⟩ := mapT_some ht
 refine ⟨.map (some c.w.heap.size), c.putAt { c.w with heap := c.w.heap.push (.map #[] 0) } fr ⟨c.w.heap.size, 0, 0, 1⟩, .inl ?_, hle, ?_, ?_⟩
 ·simp only [execOp, ho, Option.map_none, Sem.run_bind, Instr.makeMap, run_newObj, Result.andThen_ok, Sem.run_pure]
  rfl
 ·exact h.heap.alloc fr _ _ _ hfr rfl ⟨Nat.one_ne_zero, #[], 0, heap_push_new _ _, rfl, fun col hcol => (hc col hcol).1, fun i e hi => by simp at hi, fun i e hi => by simp at hi, List.nodup_nil, List.nodup_nil, fun e he => by simp at he⟩
 ·simp only [Rel]
  exact ⟨_, by simp [Cx.putAt]; rfl, rfl⟩
theorem findNow_keys {k : IntKind} {n : Int} : ∀ (ms : List MapEntry) (ks : List Int) (i : Nat), ms.length = ks.length → (∀ (j : Nat) (e : MapEntry), ms[j]? = some e → e.key = .int .i64 (gI ks j)) →
  (∃ e, n ∈ ks ∧ ms[ks.idxOf n]? = some e ∧ Instr.findNow (.int k) (.int .i64 n) ms i = some (some (i + ks.idxOf n, e.val))) ∨ (n ∉ ks ∧ Instr.findNow (.int k) (.int .i64 n) ms i = some none)
 | [], [], i, _, _ => .inr ⟨by simp, rfl⟩
 | m :: ms, x :: ks, i, hl, hk => by
  have h0 := hk 0 m rfl
  have h0' : m.key = .int .i64 x := by simpa [gI] using h0
  by_cases hx : n = x
  ·subst hx
   refine .inl ⟨m, by simp, by simp, ?_⟩
   simp [Instr.findNow, h0', Instr.sameNow]
  ·have hne : (n == x) = false := by simpa using hx
   have hxn : (x == n) = false := by simpa using fun e => hx e.symm
   have hi : (x :: ks).idxOf n = ks.idxOf n + 1 := by rw [List.idxOf_cons, hxn]; rfl
   rcases findNow_keys (k := k) (n := n) ms ks (i + 1) (by simpa using hl) (fun j e he => by have := hk (j + 1) e (by simpa using he); simpa [gI] using this) with ⟨e, h1, h2, h3⟩ | ⟨h1, h2⟩
   ·refine .inl ⟨e, by simp [h1], by rw [hi]; simpa using h2, ?_⟩
    simp only [Instr.findNow, h0', Instr.sameNow, if_true, hne, h3, hi]
    congr 3
    omega
   ·refine .inr ⟨by simp [hx, h1], ?_⟩
    simp only [Instr.findNow, h0', Instr.sameNow, if_true, hne, h2]
 | [], _ :: _, _, hl, _ => by simp at hl
 | _ :: _, [], _, hl, _ => by simp at hl
theorem MapOf.find {w : World} {b : Nat} {ks : List Int} {cols : List Col} {one : Bool} {es : Array MapEntry} {clk : Nat} (h : MapOf w b ks cols one es clk) (k : IntKind) (n : Int) :
  (∃ e, n ∈ ks ∧ es[ks.idxOf n]? = some e ∧ Instr.findNow (.int k) (.int .i64 n) es.toList 0 = some (some (ks.idxOf n, e.val))) ∨ (n ∉ ks ∧ Instr.findNow (.int k) (.int .i64 n) es.toList 0 = some none) := by
 have := findNow_keys (k := k) (n := n) es.toList ks 0 (by simpa using h.len) (fun j e he => h.key j e (by simpa using he))
 simpa using this
theorem map_at (h : At P w0 T H c a.tmps g) {m : Operand} {id : Nat} {ks : List Int} {cols : List Col} {one : Bool} (hm : opd P T g 0 m = .mp id) (hid : H.at id = some (.tmap ks cols one)) :
  ∃ p es clk, c.π id = some p ∧ a.eval m = .map (some p.b) ∧ p.cap ≠ 0 ∧ MapOf c.w p.b ks cols one es clk ∧ p.b < c.w.heap.size := by
 have rm := opd_eq h hm
 simp only [Rel] at rm
 obtain ⟨p, hp, hvm⟩ := rm
 obtain ⟨p', hp', hob⟩ := h.heap.obj id _ hid
 rw [hp] at hp'
 cases hp'
 obtain ⟨hc, es, clk, hmo⟩ := hob
 exact ⟨p, es, clk, hp, hvm, hc, hmo, (h.heap.out id p ⟨_, hid, hp, trivial⟩).2.1⟩
theorem mput_spec {ks : List Int} {n : Int} {col z : Col} {x : AV} (h : col.mput ks n x = some z) (hl : col.len = ks.length) :
  z.len = (mkey ks n).length ∧ (∀ u, Rel c x u → ColV z (ks.idxOf n) u) ∧ (∀ i u, i < ks.length → i ≠ ks.idxOf n → ColV col i u → ColV z i u) := by
 have hidx : n ∈ ks → ks.idxOf n < ks.length := fun hn => List.idxOf_lt_length_of_mem hn
 have hout : n ∉ ks → ks.idxOf n = ks.length := fun hn => List.idxOf_eq_length hn
 unfold Col.mput at h
 split at h
 ·rename_i q l q' m
  split at h
  ·rename_i hq
   subst hq
   cases h
   have hl' : l.length = ks.length := hl
   simp only [Col.len, mkey, mput, List.contains_iff_mem]
   by_cases hn : n ∈ ks
   ·have := hidx hn
    rw [if_pos hn, if_pos hn]
    refine ⟨by simpa using hl', fun u hu => ?_, fun i u hi hne hc => ?_⟩
    ·rw [rel_int hu]
     simp [ColV, gI, List.getD_eq_getElem?_getD, hl', this]
    ·simp only [ColV] at hc ⊢
     rw [hc]
     simp [gI, List.getD_eq_getElem?_getD, List.getElem?_set_ne (Ne.symm hne)]
   ·have := hout hn
    rw [if_neg hn, if_neg hn]
    refine ⟨by simp [hl'], fun u hu => ?_, fun i u hi hne hc => ?_⟩
    ·rw [rel_int hu, this]
     simp [ColV, gI, List.getD_eq_getElem?_getD, ← hl']
    ·simp only [ColV] at hc ⊢
     rw [hc]
     simp only [gI, List.getD_eq_getElem?_getD]
     rw [List.getElem?_append_left (by omega)]
  ·cases h
 ·rename_i l b
  cases h
  have hl' : l.length = ks.length := hl
  simp only [Col.len, mkey, mput, List.contains_iff_mem]
  by_cases hn : n ∈ ks
  ·have := hidx hn
   rw [if_pos hn, if_pos hn]
   refine ⟨by simpa using hl', fun u hu => ?_, fun i u hi hne hc => ?_⟩
   ·rw [rel_bool hu]
    simp [ColV, gB, List.getD_eq_getElem?_getD, hl', this]
   ·simp only [ColV] at hc ⊢
    rw [hc]
    simp [gB, List.getD_eq_getElem?_getD, List.getElem?_set_ne (Ne.symm hne)]
  ·have := hout hn
   rw [if_neg hn, if_neg hn]
   refine ⟨by simp [hl'], fun u hu => ?_, fun i u hi hne hc => ?_⟩
   ·rw [rel_bool hu, this]
    simp [ColV, gB, List.getD_eq_getElem?_getD, ← hl']
   ·simp only [ColV] at hc ⊢
    rw [hc]
    simp only [gB, List.getD_eq_getElem?_getD]
    rw [List.getElem?_append_left (by omega)]
 ·cases h
theorem zips_put {ks : List Int} {n : Int} {cols zs : List Col} {xs : List AV} (h : zipAll (fun c x => c.mput ks n x) cols xs = some zs) : cols.length = zs.length ∧ xs.length = zs.length ∧ ∀ (j : Nat) (z : Col), zs[j]? = some z → ∃ col x, cols[j]? = some col ∧ xs[j]? = some x ∧ col.mput ks n x = some z :=
 ⟨(zipAll_len h).1, (zipAll_len h).2, fun j z hz => zipAll_get h hz⟩
theorem putAll_spec {ks : List Int} {n : Int} {cols zs : List Col} {one : Bool} {x : AV} (h : putAll ks cols n one x = some zs) (hl : ∀ col ∈ cols, col.len = ks.length) :
  (∀ z ∈ zs, z.len = (mkey ks n).length) ∧ (∀ u, Rel c x u → ElemV zs one (ks.idxOf n) u) ∧ (∀ i u, i < ks.length → i ≠ ks.idxOf n → ElemV cols one i u → ElemV zs one i u) := by
 cases one with
 | true =>
  have h' : zipAll (fun c x => c.mput ks n x) cols [x] = some zs := by
   unfold putAll at h
   exact h
  obtain ⟨h1, h2, h3⟩ := zips_put h'
  have hz1 : zs.length = 1 := by rw [← h2]; rfl
  obtain ⟨z, rfl⟩ : ∃ z, zs = [z] := by
   match zs, hz1 with
   | [z], _ => exact ⟨z, rfl⟩
  obtain ⟨col, y, g1, g2, g3⟩ := h3 0 z rfl
  obtain ⟨col', rfl⟩ : ∃ z, cols = [z] := by
   match cols, h1 with
   | [z], _ => exact ⟨z, rfl⟩
  simp only [List.getElem?_cons_zero, Option.some.injEq] at g1 g2
  subst g1 g2
  obtain ⟨k1, k2, k3⟩ := mput_spec (c := c) g3 (hl _ (by simp))
  refine ⟨fun w hw => by simp at hw; subst hw; exact k1, fun u hu => ⟨z, rfl, k2 u hu⟩, ?_⟩
  rintro i u hi hne ⟨col, hc, hv⟩
  simp only [List.cons.injEq, and_true] at hc
  subst hc
  exact ⟨z, rfl, k3 i u hi hne hv⟩
 | false =>
  unfold putAll at h
  split at h
  ·rename_i hx; cases hx
  ·rename_i vs _
   obtain ⟨h1, h2, h3⟩ := zips_put h
   refine ⟨fun z hz => ?_, fun u hu => ?_, ?_⟩
   ·obtain ⟨j, hj⟩ := List.getElem?_of_mem hz
    obtain ⟨col, y, g1, g2, g3⟩ := h3 j z hj
    exact (mput_spec (c := c) g3 (hl _ (List.mem_of_getElem? g1))).1
   ·simp only [Rel] at hu
    obtain ⟨us, rfl, hr⟩ := hu
    refine ⟨us, rfl, ?_, fun j z hz => ?_⟩
    ·have := hr.length
     simp only [Array.length_toList] at this
     omega
    ·obtain ⟨col, y, g1, g2, g3⟩ := h3 j z hz
     obtain ⟨v, hv, hrv⟩ := hr.get g2
     exact ⟨v, by simpa using hv, (mput_spec (c := c) g3 (hl _ (List.mem_of_getElem? g1))).2.1 v hrv⟩
   ·rintro i u hi hne ⟨us, rfl, hs, hv⟩
    refine ⟨us, rfl, by omega, fun j z hz => ?_⟩
    obtain ⟨col, y, g1, g2, g3⟩ := h3 j z hz
    obtain ⟨v, hv1, hv2⟩ := hv j col g1
    exact ⟨v, hv1, (mput_spec (c := c) g3 (hl _ (List.mem_of_getElem? g1))).2.2 i v hi hne hv2⟩
  ·cases h
theorem setObj_run {w : World} {b : Nat} {es : Array MapEntry} {clk : Nat} (ha : w.heap[b]? = some (.map es clk)) (ob : Obj) : (setObj b ob).run P w = .ok () { w with heap := w.heap.setIfInBounds b ob } := by
 simp [setObj, Sem.run, ha]
theorem getObj_run {w : World} {b : Nat} {es : Array MapEntry} {clk : Nat} (ha : w.heap[b]? = some (.map es clk)) : (getObj b).run P w = .ok (.map es clk) w := by simp [getObj, Sem.run, ha]
theorem set_block (h : At P w0 T H c a.tmps g) {id : Nat} {ob : AObj} {p : Place} (hid : H.at id = some ob) (hp : c.π id = some p) (hm : Mem ob p) (ob' : AObj) (x : Obj) (hobj : ObjAt (c.with { c.w with heap := c.w.heap.setIfInBounds p.b x }) ob' p) :
  HeapOK w0 (setAt H id ob') (c.with { c.w with heap := c.w.heap.setIfInBounds p.b x }) ∧ c.le (c.with { c.w with heap := c.w.heap.setIfInBounds p.b x }) :=
 h.heap.store id ob' _ ⟨rfl, rfl, rfl⟩ hid hp hm (by simp) (fun b hb => by
  show (c.w.heap.setIfInBounds p.b _)[b]? = _
  rw [Array.getElem?_setIfInBounds_ne (Ne.symm hb)]) (fun _ => hobj)
theorem set_here {w : World} {b : Nat} {x : Obj} (hlt : b < w.heap.size) : ({ w with heap := w.heap.setIfInBounds b x } : World).heap[b]? = some x := by
 show (w.heap.setIfInBounds b _)[b]? = _
 rw [Array.getElem?_setIfInBounds_self_of_lt hlt]
theorem gI_app_old {ks : List Int} {n : Int} {i : Nat} (h : i < ks.length) : gI (ks ++ [n]) i = gI ks i := by
 simp only [gI, List.getD_eq_getElem?_getD]
 rw [List.getElem?_append_left h]
theorem gI_app_new {ks : List Int} {n : Int} : gI (ks ++ [n]) ks.length = n := by
 simp [gI, List.getD_eq_getElem?_getD]
theorem putT_goes (h : At P w0 T H c a.tmps g) {t kt e : TypeId} {k : IntKind} {m x y : Operand} {id : Nat} {n : Int} {ks : List Int} {cols zs : List Col} {one : Bool} {v : AV} (ho : o.op = .insert t m x y ∨ o.op = .mapUpdate t m x y) (ht : P.underlying t = some (.map kt e)) (hk : P.underlying kt = some (.int k)) (hm : opd P T g 0 m = .mp id) (hx : opd P T g 3 x = .int .i64 n) (hy : opd P T g 0 y = v)
  (hid : H.at id = some (.tmap ks cols one)) (hz : putAll ks cols n one v = some zs) : Goes P o a w0 (writeAll H [(id, .tmap (mkey ks n) zs one)]) c .top := by
 obtain ⟨p, es, clk, hp, hvm, hcap, hmo, hlt⟩ := map_at h hm hid
 have rx := rel_int (opd_eq h hx)
 have ry := opd_eq h hy
 obtain ⟨z1, z2, z3⟩ := putAll_spec (c := c) hz hmo.col
 have hgo := getObj_run (P := P) hmo.here
 have go : ∀ ob, ObjAt (c.with { c.w with heap := c.w.heap.setIfInBounds p.b ob }) (.tmap (mkey ks n) zs one) p → (Instr.mapUpdate t (a.eval m) (a.eval x) (a.eval y)).run P c.w = .ok () { c.w with heap := c.w.heap.setIfInBounds p.b ob } → Goes P o a w0 (writeAll H [(id, .tmap (mkey ks n) zs one)]) c .top := by
  intro ob hobj hrun
  obtain ⟨hh, hle⟩ := set_block h hid hp trivial (.tmap (mkey ks n) zs one) ob hobj
  refine ⟨undef, c.with _, .inr ⟨?_, rfl⟩, hle, hh, by simp [Rel]⟩
  rcases ho with ho | ho <;> simp only [execOp, ho, Sem.run_bind, hrun, Result.andThen_ok, Sem.run_pure] <;> rfl
 rcases hmo.find k n with ⟨e0, hn, he0, hf⟩ | ⟨hn, hf⟩
 ·have hmk : mkey ks n = ks := by simp [mkey, hn]
  have hkey0 : e0.key = .int .i64 n := by
   have := hmo.key _ _ he0
   rw [this]
   have hlt := List.idxOf_lt_length_of_mem hn
   simp [gI, List.getD_eq_getElem?_getD, hlt]
  refine go (.map (es.modify (ks.idxOf n) fun e => { e with key := .int .i64 n, val := a.eval y }) clk) ?_ ?_
  ·refine ⟨hcap, es.modify (ks.idxOf n) fun e => { e with key := .int .i64 n, val := a.eval y }, clk, ?_⟩
   have hget : ∀ i : Nat, (es.modify (ks.idxOf n) fun e => { e with key := .int .i64 n, val := a.eval y })[i]? = if ks.idxOf n = i then (es[i]?).map (fun e => { e with key := .int .i64 n, val := a.eval y }) else es[i]? := fun i => by rw [Array.getElem?_modify]
   rw [hmk]
   rw [hmk] at z1
   refine ⟨set_here hlt, by simpa using hmo.len, z1, ?_, ?_, hmo.nodup, ?_, ?_⟩
   ·intro i e hi
    rw [hget] at hi
    split at hi
    ·rename_i hei
     subst hei
     rw [he0] at hi
     cases hi
     have := hmo.key _ _ he0
     rw [hkey0] at this
     exact this
    ·exact hmo.key i e hi
   ·intro i e hi
    rw [hget] at hi
    split at hi
    ·rename_i hei
     subst hei
     rw [he0] at hi
     cases hi
     exact z2 _ ry
    ·rename_i hne
     have hlt : i < ks.length := by
      have := (Array.getElem?_eq_some_iff.1 hi).1
      rw [hmo.len] at this
      exact this
     exact z3 i _ hlt (Ne.symm hne) (hmo.val i e hi)
   ·have e1 : (es.modify (ks.idxOf n) fun e => { e with key := .int .i64 n, val := a.eval y }).toList.map (·.born) = es.toList.map (·.born) := by
     apply List.ext_getElem?
     intro i
     rw [List.getElem?_map, List.getElem?_map, Array.getElem?_toList, Array.getElem?_toList, hget]
     split
     ·cases es[i]? <;> rfl
     ·rfl
    rw [e1]
    exact hmo.born
   ·intro e he
    obtain ⟨i, hi⟩ := List.getElem?_of_mem he
    rw [Array.getElem?_toList, hget] at hi
    split at hi
    ·cases hes : es[i]? with
     | none => rw [hes] at hi; cases hi
     | some e1 =>
      rw [hes] at hi
      cases hi
      exact hmo.old e1 (List.mem_of_getElem? (by rw [Array.getElem?_toList]; exact hes))
    ·exact hmo.old e (List.mem_of_getElem? (by rw [Array.getElem?_toList]; exact hi))
  ·rw [hvm, rx]
   have hfk : (Instr.findKey kt (.int .i64 n) es.toList).run P c.w = .ok (some (ks.idxOf n, e0.val)) c.w := by
    simp [Instr.findKey, run_underlying hk, hf]
   have hst : (Instr.keyThatStays ((es[ks.idxOf n]?.map (·.key)).getD (.int .i64 n)) (.int .i64 n)).run P c.w = .ok (.int .i64 n) c.w := by
    rw [he0]
    simp [Instr.keyThatStays, hkey0, Instr.sameBits]
   simp only [Instr.mapUpdate, Sem.run_bind, run_underlying ht, Result.andThen_ok, hgo, run_checkKey_int hk false 9999 _ ⟨_, _, rfl⟩, hfk, hst, setObj_run hmo.here]
 ·have hmk : mkey ks n = ks ++ [n] := by simp [mkey, hn]
  have hix : ks.idxOf n = ks.length := List.idxOf_eq_length hn
  refine go (.map (es.push { key := .int .i64 n, val := a.eval y, born := clk }) (clk + 1)) ?_ ?_
  ·refine ⟨hcap, es.push { key := .int .i64 n, val := a.eval y, born := clk }, clk + 1, ?_⟩
   have hget : ∀ (i : Nat) (e : MapEntry), (es.push { key := .int .i64 n, val := a.eval y, born := clk })[i]? = some e → (i < ks.length ∧ es[i]? = some e) ∨ (i = ks.length ∧ e = { key := .int .i64 n, val := a.eval y, born := clk }) := by
    intro i e hi
    rw [Array.getElem?_push, hmo.len] at hi
    split at hi
    ·rename_i hh
     cases hi
     exact .inr ⟨hh, rfl⟩
    ·have := (Array.getElem?_eq_some_iff.1 hi).1
     rw [hmo.len] at this
     exact .inl ⟨this, hi⟩
   rw [hmk]
   rw [hmk] at z1
   refine ⟨set_here hlt, by simp [hmo.len], z1, ?_, ?_, ?_, ?_, ?_⟩
   ·intro i e hi
    rcases hget i e hi with ⟨h1, h2⟩ | ⟨rfl, rfl⟩
    ·rw [gI_app_old h1]
     exact hmo.key i e h2
    ·rw [gI_app_new]
   ·intro i e hi
    rcases hget i e hi with ⟨h1, h2⟩ | ⟨rfl, rfl⟩
    ·exact z3 i _ h1 (by omega) (hmo.val i e h2)
    ·have := z2 _ ry
     rw [hix] at this
     exact this
   ·rw [List.nodup_append]
    refine ⟨hmo.nodup, by simp, fun x1 hx1 y1 hy1 => ?_⟩
    simp at hy1
    subst hy1
    rintro rfl
    exact hn hx1
   ·rw [Array.toList_push, List.map_append, List.nodup_append]
    refine ⟨hmo.born, by simp, fun x1 hx1 y1 hy1 => ?_⟩
    simp at hy1
    subst hy1
    obtain ⟨e, he, rfl⟩ := List.mem_map.1 hx1
    have := hmo.old e he
    omega
   ·intro e he
    rw [Array.toList_push, List.mem_append] at he
    rcases he with he | he
    ·have := hmo.old e he
     omega
    ·simp at he
     subst he
     exact Nat.lt_succ_self _
  ·rw [hvm, rx]
   have hfk : (Instr.findKey kt (.int .i64 n) es.toList).run P c.w = .ok none c.w := by
    simp [Instr.findKey, run_underlying hk, hf]
   simp only [Instr.mapUpdate, Sem.run_bind, run_underlying ht, Result.andThen_ok, hgo, run_checkKey_int hk false 9999 _ ⟨_, _, rfl⟩, hfk, setObj_run hmo.here]
theorem mcut_spec {ks : List Int} {n : Int} {col : Col} (hf : ∀ i u, i < ks.length → ColV col i u → True) (hl : col.len = ks.length) (hfl : col.flat = true) :
  (col.mcut ks n).len = (mdel ks n).length ∧ ∀ i u, ColV col (if i < ks.idxOf n then i else i + 1) u → ColV (col.mcut ks n) i u := by
 have hlen : ∀ {α : Type} (l : List α), l.length = ks.length → (l.eraseIdx (ks.idxOf n)).length = (ks.eraseIdx (ks.idxOf n)).length := fun l h => by
  rw [List.length_eraseIdx, List.length_eraseIdx, h]
 cases col with
 | int q l =>
  refine ⟨hlen l hl, fun i u hu => ?_⟩
  simp only [ColV, Col.mcut, mcut] at hu ⊢
  rw [hu]
  simp only [gI, List.getD_eq_getElem?_getD, List.getElem?_eraseIdx]
  split <;> rfl
 | bool l =>
  refine ⟨hlen l hl, fun i u hu => ?_⟩
  simp only [ColV, Col.mcut, mcut] at hu ⊢
  rw [hu]
  simp only [gB, List.getD_eq_getElem?_getD, List.getElem?_eraseIdx]
  split <;> rfl
 | ints q l => cases hfl
theorem elem_cut {ks : List Int} {n : Int} {cols : List Col} {one : Bool} (hl : ∀ col ∈ cols, col.len = ks.length) {i : Nat} {u : Value} (h : ElemV cols one (if i < ks.idxOf n then i else i + 1) u) : ElemV (cols.map (·.mcut ks n)) one i u := by
 have flat_of : ∀ {col : Col} {j : Nat} {v : Value}, ColV col j v → col.flat = true := by
  intro col j v hv
  cases col with
  | ints _ _ => exact hv.elim
  | _ => rfl
 cases one with
 | true =>
  obtain ⟨col, rfl, hv⟩ := h
  exact ⟨col.mcut ks n, rfl, (mcut_spec (fun _ _ _ _ => trivial) (hl _ (by simp)) (flat_of hv)).2 _ _ hv⟩
 | false =>
  obtain ⟨us, rfl, hs, hv⟩ := h
  refine ⟨us, rfl, by simpa using hs, fun j col hj => ?_⟩
  rw [List.getElem?_map] at hj
  cases hc : cols[j]? with
  | none => rw [hc] at hj; cases hj
  | some c0 =>
   rw [hc] at hj
   cases hj
   obtain ⟨v, h1, h2⟩ := hv j c0 hc
   exact ⟨v, h1, (mcut_spec (fun _ _ _ _ => trivial) (hl _ (List.mem_of_getElem? hc)) (flat_of h2)).2 _ _ h2⟩
theorem mcut_len {ks : List Int} {n : Int} {col : Col} (hl : col.len = ks.length) (hfl : col.flat = true) : (col.mcut ks n).len = (mdel ks n).length := (mcut_spec (fun _ _ _ _ => trivial) hl hfl).1
theorem delT_goes (h : At P w0 T H c a.tmps g) {cl : Call} {m x : Operand} {t kt e t2 : TypeId} {id : Nat} {n : Int} {ks : List Int} {cols : List Col} {one : Bool} (ho : o.op = .call cl) (hcl : cl.callee = .builtin .delete) (hargs : cl.args = #[m, x]) (h1 : cl.argTypes[0]? = some t) (ht : P.underlying t = some (.map kt e)) (hk : P.underlying kt = some (.int .i64)) {t1 : TypeId} (hm : opd P T g t1 m = .mp id) (hx : opd P T g t2 x = .int .i64 n)
  (hid : H.at id = some (.tmap ks cols one)) (hfl : ∀ col ∈ cols, col.flat = true) : Goes P o a w0 (writeAll H [(id, .tmap (mdel ks n) (cols.map (·.mcut ks n)) one)]) c .top := by
 have rm := opd_eq h hm
 simp only [Rel] at rm
 obtain ⟨p, hp, hvm⟩ := rm
 obtain ⟨p', hp', hob⟩ := h.heap.obj id _ hid
 rw [hp] at hp'
 cases hp'
 obtain ⟨hcap, es, clk, hmo⟩ := hob
 have hlt := (h.heap.out id p ⟨_, hid, hp, trivial⟩).2.1
 have rx := rel_int (opd_eq h hx)
 have hgo := getObj_run (P := P) hmo.here
 have hex : execOp a.eval o = (do pure (.value (← Builtin.delete_ cl.argTypes o.type #[a.eval m, a.eval x]))) := by
  rw [call_builtin ho hcl, hargs]
  simp only [builtin, List.map_toArray, List.map_cons, List.map_nil]
 have go : ∀ es', MapOf (c.with { c.w with heap := c.w.heap.setIfInBounds p.b (.map es' clk) }).w p.b (mdel ks n) (cols.map (·.mcut ks n)) one es' clk → (Builtin.delete_ cl.argTypes o.type #[a.eval m, a.eval x]).run P c.w = .ok (.tuple #[]) { c.w with heap := c.w.heap.setIfInBounds p.b (.map es' clk) } → Goes P o a w0 (writeAll H [(id, .tmap (mdel ks n) (cols.map (·.mcut ks n)) one)]) c .top := by
  intro es' hmo' hrun
  obtain ⟨hh, hle⟩ := set_block h hid hp trivial (.tmap (mdel ks n) (cols.map (·.mcut ks n)) one) (.map es' clk) ⟨hcap, es', clk, hmo'⟩
  refine ⟨.tuple #[], c.with _, .inl ?_, hle, hh, by simp [Rel]⟩
  rw [hex]
  simp only [Sem.run_bind, hrun, Result.andThen_ok, Sem.run_pure]
  rfl
 have hcol : ∀ col ∈ cols.map (·.mcut ks n), col.len = (mdel ks n).length := by
  intro col hc
  obtain ⟨c0, h0, rfl⟩ := List.mem_map.1 hc
  exact mcut_len (hmo.col c0 h0) (hfl c0 h0)
 have gcut : ∀ i, gI (mdel ks n) i = gI ks (if i < ks.idxOf n then i else i + 1) := by
  intro i
  simp only [mdel, gI, List.getD_eq_getElem?_getD, List.getElem?_eraseIdx]
  split <;> rfl
 rcases hmo.find .i64 n with ⟨e0, hn, he0, hf⟩ | ⟨hn, hf⟩
 ·have hix : ks.idxOf n < es.size := by rw [hmo.len]; exact List.idxOf_lt_length_of_mem hn
  have htl : (es.eraseIdxIfInBounds (ks.idxOf n)).toList = es.toList.eraseIdx (ks.idxOf n) := by
   simp [Array.eraseIdxIfInBounds, hix]
  have hget : ∀ i : Nat, (es.eraseIdxIfInBounds (ks.idxOf n))[i]? = es[if i < ks.idxOf n then i else i + 1]? := by
   intro i
   rw [← Array.getElem?_toList, htl, List.getElem?_eraseIdx, Array.getElem?_toList, Array.getElem?_toList]
   split <;> rfl
  refine go (es.eraseIdxIfInBounds (ks.idxOf n)) ⟨set_here hlt, ?_, hcol, ?_, ?_, ?_, ?_, ?_⟩ ?_
  ·rw [← Array.length_toList, htl, List.length_eraseIdx, mdel, List.length_eraseIdx, Array.length_toList, hmo.len]
  ·intro i e hi
   rw [hget] at hi
   rw [gcut]
   exact hmo.key _ e hi
  ·intro i e hi
   rw [hget] at hi
   exact elem_cut hmo.col (hmo.val _ e hi)
  ·exact hmo.nodup.sublist (List.eraseIdx_sublist _ _)
  ·rw [htl]
   exact hmo.born.sublist ((List.eraseIdx_sublist _ _).map _)
  ·intro e he
   rw [htl] at he
   exact hmo.old e ((List.eraseIdx_sublist _ _).subset he)
  ·rw [hvm, rx]
   have hfk : (Instr.findKey kt (.int .i64 n) es.toList).run P c.w = .ok (some (ks.idxOf n, e0.val)) c.w := by
    simp [Instr.findKey, run_underlying hk, hf]
   simp only [Builtin.delete_, h1, List.getElem?_toArray, List.getElem?_cons_zero, List.getElem?_cons_succ, Sem.run_bind, run_underlying ht, Result.andThen_ok, hgo, run_checkKey_int hk es.isEmpty 9999 _ ⟨_, _, rfl⟩, hfk, setObj_run hmo.here, Sem.run_pure]
 ·have hix : ks.idxOf n = ks.length := List.idxOf_eq_length hn
  have hmd : mdel ks n = ks := by rw [mdel, hix]; exact List.eraseIdx_of_length_le (Nat.le_refl _)
  refine go es ⟨set_here hlt, by rw [hmd]; exact hmo.len, hcol, ?_, ?_, by rw [hmd]; exact hmo.nodup, hmo.born, hmo.old⟩ ?_
  ·rw [hmd]
   exact hmo.key
  ·intro i e hi
   have hil : i < ks.idxOf n := by
    have := (Array.getElem?_eq_some_iff.1 hi).1
    rw [hmo.len] at this
    omega
   refine elem_cut hmo.col ?_
   rw [if_pos hil]
   exact hmo.val i e hi
  ·rw [hvm, rx]
   have hfk : (Instr.findKey kt (.int .i64 n) es.toList).run P c.w = .ok none c.w := by
    simp [Instr.findKey, run_underlying hk, hf]
   simp only [Builtin.delete_, h1, List.getElem?_toArray, List.getElem?_cons_zero, List.getElem?_cons_succ, Sem.run_bind, run_underlying ht, Result.andThen_ok, hgo, run_checkKey_int hk es.isEmpty 9999 _ ⟨_, _, rfl⟩, hfk, setObj_run hmo.here, Sem.run_pure]
theorem col_rel {col : Col} {i : Nat} {u : Value} (h : ColV col i u) : Rel c (col.get i) u := by
 cases col with
 | int q l => (simp only [ColV] at h; simpa [Col.get, Rel] using h)
 | bool l => (simp only [ColV] at h; simpa [Col.get, Rel] using h)
 | ints _ _ => exact h.elim
theorem relL_of {xs : List AV} {vs : List Value} (hl : xs.length = vs.length) (h : ∀ (j : Nat) (x : AV) (v : Value), xs[j]? = some x → vs[j]? = some v → Rel c x v) : RelL c xs vs := by
 induction xs generalizing vs with
 | nil =>
  cases vs with
  | nil => trivial
  | cons v vs => simp at hl
 | cons x xs ih =>
  cases vs with
  | nil => simp at hl
  | cons v vs => exact ⟨h 0 x v rfl rfl, ih (by simpa using hl) fun j y u hy hu => h (j + 1) y u (by simpa using hy) (by simpa using hu)⟩
theorem elem_rel {cols : List Col} {one : Bool} {i : Nat} {u : Value} (h : ElemV cols one i u) : Rel c (elemAt cols one i) u := by
 cases one with
 | true =>
  obtain ⟨col, rfl, hv⟩ := h
  exact col_rel hv
 | false =>
  obtain ⟨us, rfl, hs, hv⟩ := h
  simp only [elemAt, Rel]
  refine ⟨us, rfl, relL_of (by simp [hs]) fun j x v hx hv' => ?_⟩
  rw [List.getElem?_map] at hx
  cases hc : cols[j]? with
  | none => rw [hc] at hx; cases hx
  | some c0 =>
   rw [hc] at hx
   cases hx
   obtain ⟨w, h1, h2⟩ := hv j c0 hc
   have : v = w := by
    have h3 : us[j]? = some v := by simpa using hv'
    rw [h1] at h3
    exact (Option.some.inj h3).symm
   subst this
   exact col_rel h2
theorem mget_in {ks : List Int} {n : Int} {col : Col} {u : Value} (h : ColV col (ks.idxOf n) u) : Rel c (col.mget ks n) u := by
 cases col with
 | int q l => simpa [Col.mget, Rel, ColV, gI, mI] using h
 | bool l => simpa [Col.mget, Rel, ColV, gB, mB] using h
 | ints _ _ => exact h.elim
theorem mget_out {ks : List Int} {n : Int} {col : Col} {u : Value} (hn : n ∉ ks) (hl : col.len = ks.length) (hf : col.flat = true) (h : Rel c col.zero u) : Rel c (col.mget ks n) u := by
 have hix : ks.idxOf n = ks.length := List.idxOf_eq_length hn
 cases col with
 | int q l =>
  have hl' : l.length = ks.length := hl
  simpa [Col.mget, Rel, Col.zero, mI, hix, List.getD_eq_getElem?_getD, List.getElem?_eq_none (show l.length ≤ ks.length by omega)] using h
 | bool l =>
  have hl' : l.length = ks.length := hl
  simpa [Col.mget, Rel, Col.zero, mB, hix, List.getD_eq_getElem?_getD, List.getElem?_eq_none (show l.length ≤ ks.length by omega)] using h
 | ints _ _ => cases hf
theorem elemOf_in {ks : List Int} {n : Int} {cols : List Col} {one : Bool} {u : Value} (h : ElemV cols one (ks.idxOf n) u) : Rel c (elemOf ks cols one n) u := by
 cases one with
 | true =>
  obtain ⟨col, rfl, hv⟩ := h
  exact mget_in hv
 | false =>
  obtain ⟨us, rfl, hs, hv⟩ := h
  simp only [elemOf, Rel]
  refine ⟨us, rfl, relL_of (by simp [hs]) fun j x v hx hv' => ?_⟩
  rw [List.getElem?_map] at hx
  cases hc : cols[j]? with
  | none => rw [hc] at hx; cases hx
  | some c0 =>
   rw [hc] at hx
   cases hx
   obtain ⟨w, h1, h2⟩ := hv j c0 hc
   have : v = w := by
    have h3 : us[j]? = some v := by simpa using hv'
    rw [h1] at h3
    exact (Option.some.inj h3).symm
   subst this
   exact mget_in h2
def ZeroIs (cols : List Col) (zv : Value) : Bool → Prop
 | false => ∃ vs : Array Value, zv = .agg vs ∧ areVals (cols.map Col.zero) vs.toList = true
 | true => areVals (cols.map Col.zero) [zv] = true
theorem elemOf_out {ks : List Int} {n : Int} {cols : List Col} {one : Bool} {zv : Value} (hn : n ∉ ks) (hl : ∀ col ∈ cols, col.len = ks.length ∧ col.flat = true)
  (h : ZeroIs cols zv one) : Rel c (elemOf ks cols one n) zv := by
 have step : ∀ {vs : List Value}, areVals (cols.map Col.zero) vs = true → RelL c (cols.map (·.mget ks n)) vs := by
  intro vs hv
  have hr := areVals_rel (c := c) hv
  refine relL_of (by have := hr.length; simpa using this) fun j x v hx hv' => ?_
  rw [List.getElem?_map] at hx
  cases hc : cols[j]? with
  | none => rw [hc] at hx; cases hx
  | some c0 =>
   rw [hc] at hx
   cases hx
   obtain ⟨w, h1, h2⟩ := hr.get (i := j) (a := c0.zero) (by simp [hc])
   rw [hv'] at h1
   cases h1
   exact mget_out hn (hl _ (List.mem_of_getElem? hc)).1 (hl _ (List.mem_of_getElem? hc)).2 h2
 cases one with
 | true =>
  have h1 := step h
  match cols, h1 with
  | [], h1 => exact h1.elim
  | [col], h1 => exact h1.1
  | _ :: _ :: _, h1 => exact h1.2.elim
 | false =>
  obtain ⟨vs, rfl, hv⟩ := h
  simp only [elemOf, Rel]
  exact ⟨vs, rfl, step hv⟩
theorem zeroElem_some {t kt e : TypeId} {cols : List Col} {one : Bool} (ht : P.underlying t = some (.map kt e)) (h : zeroElem P t cols one = true) : ∃ i zv, P.info? e = some i ∧ i.zero = some zv ∧ ZeroIs cols zv one := by
 unfold zeroElem at h
 cases hi : P.info? e with
 | none => simp [ht, hi] at h
 | some i =>
  cases hz : i.zero with
  | none => simp [ht, hi, hz] at h
  | some zv =>
   refine ⟨i, zv, rfl, hz, ?_⟩
   simp only [ht, hi, Option.bind_some, hz] at h
   cases one with
   | true => cases zv <;> exact h
   | false =>
    cases zv <;> first | (simp at h; done) | exact ⟨_, rfl, h⟩
theorem lookupT_goes (h : At P w0 T H c a.tmps g) {t kt e : TypeId} {m k : Operand} {ok : Bool} {id : Nat} {n : Int} {ks : List Int} {cols : List Col} {one : Bool} (ho : o.op = .lookup t m k ok) (ht : P.underlying t = some (.map kt e)) (hkt : P.underlying kt = some (.int .i64)) (hm : opd P T g 0 m = .mp id) (hx : opd P T g 3 k = .int .i64 n)
  (hid : H.at id = some (.tmap ks cols one)) (hz : zeroElem P t cols one = true) (hfl : ∀ col ∈ cols, col.flat = true) : Goes P o a w0 H c (if ok then .tup [elemOf ks cols one n, .bool (mhas ks n)] else elemOf ks cols one n) := by
 obtain ⟨p, es, clk, hp, hvm, hcap, hmo, hlt⟩ := map_at h hm hid
 have rx := rel_int (opd_eq h hx)
 have hgo := getObj_run (P := P) hmo.here
 obtain ⟨i, zv, hi, hzv, hzr⟩ := zeroElem_some ht hz
 have hck := run_checkKey_int (P := P) hkt es.isEmpty 9999 (.int .i64 n) ⟨_, _, rfl⟩ c.w
 have fin : ∀ (v : Value) (b : Bool), (∀ r, (Instr.findKey kt (.int .i64 n) es.toList).run P c.w = .ok r c.w → True) → b = mhas ks n → Rel c (elemOf ks cols one n) v → (execOp a.eval o).run P c.w = .ok (.value (if ok then .tuple #[v, .bool b] else v)) c.w → Goes P o a w0 H c (if ok then .tup [elemOf ks cols one n, .bool (mhas ks n)] else elemOf ks cols one n) := by
  intro v b _ hb hr hrun
  refine goes_value h hrun ?_
  cases ok
  ·exact hr
  ·simp only [if_true, Rel]
   exact ⟨_, rfl, by simp [RelL, Rel, hr, hb]⟩
 rcases hmo.find .i64 n with ⟨e0, hn, he0, hf⟩ | ⟨hn, hf⟩
 ·have hfk : (Instr.findKey kt (.int .i64 n) es.toList).run P c.w = .ok (some (ks.idxOf n, e0.val)) c.w := by
   simp [Instr.findKey, run_underlying hkt, hf]
  refine fin e0.val true (fun _ _ => trivial) (by simp [mhas, hn]) (elemOf_in (hmo.val _ _ he0)) ?_
  simp only [execOp, ho, hvm, rx, Instr.lookup, Sem.run_bind, run_underlying ht, Result.andThen_ok, hgo, Sem.run_pure, hck, hfk]
 ·have hfk : (Instr.findKey kt (.int .i64 n) es.toList).run P c.w = .ok none c.w := by
   simp [Instr.findKey, run_underlying hkt, hf]
  refine fin zv false (fun _ _ => trivial) (by simp [mhas, hn]) (elemOf_out hn (fun col hc => ⟨hmo.col col hc, hfl col hc⟩) hzr) ?_
  simp only [execOp, ho, hvm, rx, Instr.lookup, Sem.run_bind, run_underlying ht, Result.andThen_ok, hgo, Sem.run_pure, hck, hfk, run_zeroValue hi hzv]
theorem rangeT_goes (h : At P w0 T H c a.tmps g) {t kt e : TypeId} {x : Operand} {fr : Nat} {ks : List Int} {cols : List Col} {one : Bool} (hfr : H.at fr = none) (ho : o.op = .range t x) (ht : P.underlying t = some (.map kt e)) (hx : opd P T g 0 x = .mapv ks cols one) :
  Goes P o a w0 (writeAll H [(fr, .iter ks cols one (nUp (lenI ks)) none)]) c (.it fr) := by
 have r := opd_eq h hx
 simp only [Rel] at r
 obtain ⟨b, es, clk, hv, hS, hmo⟩ := r
 have hn := h.heap.free fr hfr
 have hle := le_push h.heap (.mapIter (some b) clk #[] clk) fr ⟨c.w.heap.size, 0, 0, 1⟩ hn
 have hlt := h.heap.stable b hS
 refine ⟨.pointer (some ⟨c.w.heap.size, 0, none⟩), c.putAt { c.w with heap := c.w.heap.push (.mapIter (some b) clk #[] clk) } fr ⟨c.w.heap.size, 0, 0, 1⟩, .inl ?_, hle, ?_, ?_⟩
 ·simp only [execOp, ho, hv, Instr.range, Sem.run_bind, run_underlying ht, Result.andThen_ok, getObj_run hmo.here, Sem.run_pure, run_newObj]
  rfl
 ·refine h.heap.alloc fr _ _ _ hfr rfl ⟨b, clk, #[], es, heap_push_new _ _, hS, hmo.mono (heap_push_old _ _ hlt), List.nodup_range, fun i => ?_, fun i hi => by cases hi⟩
  simp only [nUp, lenI, List.mem_range]
  rw [← hmo.len]
  constructor
  ·intro hi
   exact ⟨es[i], by simp, by simp⟩
  ·rintro ⟨e, he, _⟩
   exact (Array.getElem?_eq_some_iff.1 he).1
 ·simp only [Rel]
  exact ⟨_, by simp [Cx.putAt]; rfl, rfl⟩
theorem iter_at (h : At P w0 T H c a.tmps g) {x : Operand} {id : Nat} {ks : List Int} {cols : List Col} {one : Bool} {left : List Nat} {cur : Option Nat} (hx : opd P T g 0 x = .it id) (hid : H.at id = some (.iter ks cols one left cur)) :
  ∃ p, c.π id = some p ∧ a.eval x = .pointer (some ⟨p.b, 0, none⟩) ∧ IterAt c.w c.S p.b ks cols one left cur ∧ p.b < c.w.heap.size := by
 have rm := opd_eq h hx
 simp only [Rel] at rm
 obtain ⟨p, hp, hvm⟩ := rm
 obtain ⟨p', hp', hob⟩ := h.heap.obj id _ hid
 rw [hp] at hp'
 cases hp'
 exact ⟨p, hp, hvm, hob, (h.heap.out id p ⟨_, hid, hp, trivial⟩).2.1⟩
theorem find_stamp {es : Array MapEntry} (hn : (es.toList.map (·.born)).Nodup) {i : Nat} {e : MapEntry} (he : es[i]? = some e) : es.find? (·.born == e.born) = some e := by
 rw [← Array.find?_toList]
 have key : ∀ (l : List MapEntry), (l.map (·.born)).Nodup → e ∈ l → l.find? (·.born == e.born) = some e := by
  intro l
  induction l with
  | nil => intro _ h; cases h
  | cons x l ih =>
   intro hn he
   rw [List.map_cons, List.nodup_cons] at hn
   rcases List.mem_cons.1 he with rfl | h
   ·simp
   ·have hx : (x.born == e.born) = false := by
     cases hc : x.born == e.born with
     | false => rfl
     | true => exact absurd (by rw [beq_iff_eq.1 hc]; exact List.mem_map.2 ⟨e, h, rfl⟩) hn.1
    rw [List.find?_cons, hx]
    exact ih hn.2 h
 exact key _ hn (List.mem_of_getElem? (by rw [Array.getElem?_toList]; exact he))
theorem entryT_goes (h : At P w0 T H c a.tmps g) {x : Operand} {id i : Nat} {ks : List Int} {cols : List Col} {one : Bool} {left : List Nat} (ho : o.op = .entry x) (hx : opd P T g 0 x = .it id) (hid : H.at id = some (.iter ks cols one left (some i))) :
  Goes P o a w0 H c (.tup [.int .i64 (gI ks i), elemAt cols one i]) := by
 obtain ⟨p, hp, hv, ⟨b, clk, seen, es, h1, h2, hmo, h4, h5, h6⟩, hlt⟩ := iter_at h hx hid
 obtain ⟨e, he, hb⟩ := h6 i rfl
 refine goes_value h (v := .tuple #[e.key, e.val]) ?_ ?_
 ·have g1 : (getObj p.b).run P c.w = .ok (.mapIter (some b) clk seen clk) c.w := by simp [getObj, Sem.run, h1]
  simp only [execOp, ho, hv, Instr.entry, Sem.run_bind, g1, Result.andThen_ok, hb, getObj_run hmo.here, bne_self_eq_false, Bool.false_eq_true, if_false, find_stamp hmo.born he, Sem.run_pure]
 ·simp only [Rel]
  refine ⟨_, rfl, ?_, ?_, trivial⟩
  ·simp only [Rel]
   exact hmo.key i e he
  ·exact elem_rel (hmo.val i e he)
theorem next_run {w : World} {r b clk : Nat} {seen : Array Nat} {es : Array MapEntry} {ty : TypeId} (h1 : w.heap[r]? = some (.mapIter (some b) clk seen clk)) (hb : w.heap[b]? = some (.map es clk)) (hold : ∀ e ∈ es.toList, e.born < clk) :
  ((∀ e ∈ es.toList, seen.contains e.born = true) ∧ (Instr.next (.pointer (some ⟨r, 0, none⟩)) false ty).run P w = .ok (.tuple #[.bool false]) w) ∨
  ∃ e ∈ es.toList, seen.contains e.born = false ∧ ∃ w1 : World, w1.heap = w.heap ∧ Rest w w1 ∧ (Instr.next (.pointer (some ⟨r, 0, none⟩)) false ty).run P w = .ok (.tuple #[.bool true, e.key, e.val]) { w1 with heap := w1.heap.setIfInBounds r (.mapIter (some b) clk (seen.push e.born) clk) } := by
 have g1 : (getObj r).run P w = .ok (.mapIter (some b) clk seen clk) w := by simp [getObj, Sem.run, h1]
 have g2 : (getObj b).run P w = .ok (.map es clk) w := getObj_run hb
 have ht : (!seen.isEmpty && !es.isEmpty && es.all (fun x => decide (x.born ≥ clk))) = false := by
  cases he : es.isEmpty with
  | true => simp
  | false =>
   have hall : es.all (fun x => decide (x.born ≥ clk)) = false := by
    rw [Bool.eq_false_iff]
    intro h
    rw [Array.all_eq_true_iff_forall_mem] at h
    have h0 : 0 < es.size := by
     rcases Nat.eq_zero_or_pos es.size with h0 | h0
     ·simp [Array.isEmpty, h0] at he
     ·exact h0
    have h2 := h _ (Array.getElem_mem h0)
    have h3 := hold es[0] (by simp)
    simp at h2
    omega
   simp [hall]
 simp only [Instr.next, Sem.run_bind, g1, g2, Result.andThen_ok, ht, Bool.false_eq_true, if_false]
 have hmem : ∀ x ∈ (Array.filter (fun e => !seen.contains e.born) es).toList, x ∈ es.toList ∧ seen.contains x.born = false := fun x hx => by simpa using hx
 have hmem2 : ∀ x ∈ es.toList, seen.contains x.born = false → x ∈ (Array.filter (fun e => !seen.contains e.born) es).toList := fun x hx hs => by simpa using And.intro (by simpa using hx) (by simpa using hs)
 generalize Array.filter (fun e => !seen.contains e.born) es = L at hmem hmem2 ⊢
 have e1 : L.filter (fun x => decide (x.born < clk)) = L := Array.filter_eq_self.2 (fun x hx => by simpa using hold x (hmem x (by simpa using hx)).1)
 have e2 : L.filter (fun x => decide (x.born ≥ clk)) = #[] := by
  rw [Array.filter_eq_empty_iff]
  intro x hx
  have := hold x (hmem x (by simpa using hx)).1
  simp
  omega
 simp only [e1, e2, Array.append_empty]
 by_cases h0 : L.size = 0
 ·left
  have hL : L = #[] := Array.eq_empty_of_size_eq_zero h0
  subst hL
  refine ⟨fun e he => ?_, ?_⟩
  ·cases hs : seen.contains e.born with
   | true => rfl
   | false => have := hmem2 e he hs; simp at this
  ·simp [choose, Sem.run, Question.forced]
 ·right
  have hne : L.isEmpty = false := by simp [Array.isEmpty, h0]
  simp only [hne, Bool.false_eq_true, if_false, Array.empty_append, Array.size_map]
  have hch : ∃ (j : Nat) (w1 : World), j < L.size ∧ w1.heap = w.heap ∧ Rest w w1 ∧ (choose (Question.mapNext L.size)).run P w = .ok j w1 := by
   by_cases hf : L.size ≤ 1
   ·exact ⟨0, w, by omega, rfl, ⟨rfl, rfl, rfl⟩, by simp [choose, Sem.run, Question.forced, hf]⟩
   ·exact ⟨_, w.drew, Nat.mod_lt _ (by omega), rfl, ⟨rfl, rfl, rfl⟩, by
     simp only [choose, Sem.run, Question.forced, decide_eq_true_eq, hf, if_false, Question.cut]
     rfl⟩
  obtain ⟨j, w1, hj, hh, hr, hrun⟩ := hch
  obtain ⟨m1, m2⟩ := hmem L[j] (by simp)
  have hset : ∀ ob, (setObj r ob).run P w1 = .ok () { w1 with heap := w1.heap.setIfInBounds r ob } := by
   intro ob
   have : w1.heap[r]? = some (.mapIter (some b) clk seen clk) := by rw [hh, h1]
   simp [setObj, Sem.run, this]
  refine ⟨L[j], m1, m2, w1, hh, hr, ?_⟩
  simp only [hrun, Array.getElem?_map, Array.getElem?_eq_getElem hj, Option.map_some, Result.andThen_ok, Sem.run_bind, hset, Sem.run_pure]
theorem nextT_sound (h : At P w0 T H c a.tmps g) {x : Operand} {Q : AV → Heap → Prop} (hop : o.op = .next x false) (hs : nextOp P T H g x Q) {next : Act → World → Prop} {QQ : Exit → Act → World → Prop}
  (hn : ∀ v c' av H', c.le c' → HeapOK w0 H' c' → Rel c' av v → Q av H' → next (a.put o.dst v) c'.w) : o.wp P a c.w next QQ := by
 unfold nextOp at hs
 split at hs
 ·rename_i id hx
  split at hs
  ·rename_i ks cols one left cur hid
   obtain ⟨p, hp, hv, ⟨b, clk, seen, es, h1, h2, hmo, h4, h5, h6⟩, hlt⟩ := iter_at h hx hid
   unfold Oper.wp
   have hle0 := h.heap.stable b h2
   have hnp : b ≠ p.b := by
    rintro rfl
    exact (h.heap.out id p ⟨_, hid, hp, trivial⟩).2.2 h2
   rcases next_run (P := P) (ty := o.type) h1 hmo.here hmo.old with ⟨hall, hrun⟩ | ⟨e, he, hse, w1, hh, hr, hrun⟩
   ·have hnil : nNil left = true := by
     unfold nNil
     rw [List.isEmpty_iff]
     refine List.eq_nil_iff_forall_not_mem.2 fun i hi => ?_
     obtain ⟨e, he, hse⟩ := (h5 i).1 hi
     rw [hall e (List.mem_of_getElem? (by rw [Array.getElem?_toList]; exact he))] at hse
     cases hse
    have hrun' : (execOp a.eval o).run P c.w = .ok (.value (.tuple #[.bool false])) c.w := by
     simp only [execOp, hop, hv, Sem.run_bind, hrun, Result.andThen_ok, Sem.run_pure]
    rw [hrun']
    rw [hnil] at hs
    exact hn _ c _ H (Cx.le.refl c) h.heap (by simp only [Rel]; exact ⟨_, rfl, by simp [RelL, Rel]⟩) hs
   ·obtain ⟨i, hi⟩ := List.getElem?_of_mem he
    rw [Array.getElem?_toList] at hi
    have hil : i ∈ left := (h5 i).2 ⟨e, hi, hse⟩
    have hnil : nNil left = false := by
     unfold nNil
     rw [List.isEmpty_eq_false_iff]
     rintro rfl
     cases hil
    rw [hnil] at hs
    have hq := hs i (by unfold nIn; simpa using hil)
    have hrun' : (execOp a.eval o).run P c.w = .ok (.value (.tuple #[.bool true, e.key, e.val])) { w1 with heap := w1.heap.setIfInBounds p.b (.mapIter (some b) clk (seen.push e.born) clk) } := by
     simp only [execOp, hop, hv, Sem.run_bind, hrun, Result.andThen_ok, Sem.run_pure]
    rw [hrun']
    obtain ⟨s1, s2⟩ := h.heap.same w1 hh hr
    have hat : At P w0 T H (c.with w1) a.tmps g := ⟨s1, h.tok.mono s2, h.guard⟩
    have hsame : w1.heap[b]? = c.w.heap[b]? := by rw [hh]
    have hiter : IterAt ((c.with w1).with { (c.with w1).w with heap := (c.with w1).w.heap.setIfInBounds p.b (.mapIter (some b) clk (seen.push e.born) clk) }).w c.S p.b ks cols one (nDel left i) (some i) := by
     refine ⟨b, clk, seen.push e.born, es, ?_, h2, hmo.mono ?_, ?_, ?_, ?_⟩
     ·exact set_here (w := w1) (by rw [hh]; exact hlt)
     ·show (w1.heap.setIfInBounds p.b _)[b]? = _
      rw [Array.getElem?_setIfInBounds_ne (Ne.symm hnp), hh]
     ·exact h4.sublist List.filter_sublist
     ·intro k
      unfold nDel
      rw [List.mem_filter, h5 k]
      constructor
      ·rintro ⟨⟨e2, he2, hs2⟩, hki⟩
       refine ⟨e2, he2, ?_⟩
       rw [Array.contains_push, hs2, Bool.false_or]
       rw [beq_eq_false_iff_ne]
       intro hbo
       have hki' : k ≠ i := by simpa using hki
       have e3 := find_stamp hmo.born he2
       have e4 := find_stamp hmo.born hi
       rw [hbo, e4] at e3
       cases e3
       have hkl := (Array.getElem?_eq_some_iff.1 he2).1
       have hil' := (Array.getElem?_eq_some_iff.1 hi).1
       have hb1 := hmo.born
       rw [List.nodup_iff_pairwise_ne] at hb1
       have hpw := List.pairwise_iff_getElem.1 hb1
       rcases Nat.lt_or_gt_of_ne hki' with hlt' | hlt'
       ·have := hpw k i (by simpa using hkl) (by simpa using hil') hlt'
        simp [(Array.getElem?_eq_some_iff.1 he2).2, (Array.getElem?_eq_some_iff.1 hi).2] at this
       ·have := hpw i k (by simpa using hil') (by simpa using hkl) hlt'
        simp [(Array.getElem?_eq_some_iff.1 he2).2, (Array.getElem?_eq_some_iff.1 hi).2] at this
      ·rintro ⟨e2, he2, hs2⟩
       rw [Array.contains_push, Bool.or_eq_false_iff] at hs2
       refine ⟨⟨e2, he2, hs2.1⟩, ?_⟩
       have : k ≠ i := by
        rintro rfl
        rw [hi] at he2
        cases he2
        simp at hs2
       simpa using this
     ·intro k hk
      cases hk
      exact ⟨e, hi, by simp⟩
    obtain ⟨t1, t2⟩ := set_block hat hid hp trivial (.iter ks cols one (nDel left i) (some i)) (.mapIter (some b) clk (seen.push e.born) clk) hiter
    refine hn _ _ _ _ (s2.trans t2) t1 ?_ hq
    simp only [Rel]
    refine ⟨_, rfl, by simp [Rel], ?_, elem_rel (hmo.val i e hi), trivial⟩
    simp only [Rel]
    exact hmo.key i e hi
  ·exact hs.elim
 ·exact hs.elim
end
end Go.Own
end
section
namespace Go.Own
open Go
def Fresh (H : Heap) (fr : Nat) : Prop := ∀ id, fr ≤ id → id < fr + 128 → H.at id = none
def Enters (P : Program) (k : FuncId) : Prop := ∃ fn, P.funcs[k]? = some fn ∧ (fn.name == "runtime.NumGoroutine") = false ∧ fn.body.isSome = true
def CallGoes (P : Program) (k : FuncId) (vs : Array Value) (w0 : Base) (H' : Heap) (c : Cx) (av : AV) : Prop :=
 Calls P k vs c.w fun en w' => ∃ v c', en = .returned v ∧ w' = c'.w ∧ c.le c' ∧ HeapOK w0 H' c' ∧ Rel c' av v
def SummOK (P : Program) (k : FuncId) (s : Summ) : Prop :=
 Enters P k ∧ ∀ (w0 : Base) (H : Heap) (c : Cx) (args : List AV) (vs : Array Value) (fr : Nat) (e : Eff), HeapOK w0 H c → RelL c args vs.toList → Fresh H fr → s args H fr = some e → e.obl ≠ some false → CallGoes P k vs w0 (writeAll H e.writes) c e.val
def OpGoes (P : Program) (o : Oper) (a : Act) (w0 : Base) (H' : Heap) (c : Cx) (av : AV) : Prop :=
 ∀ (next : Act → World → Prop) (Q : Exit → Act → World → Prop), (∀ v c', c.le c' → HeapOK w0 H' c' → Rel c' av v → next (a.put o.dst v) c'.w) → o.wp P a c.w next Q
section
variable {P : Program} {w0 : Base} {T : List AV} {H : Heap} {c : Cx} {a : Act} {g : Option (Nat × Bool)} {o : Oper}
theorem OpGoes.of {H' : Heap} {av : AV} (h : Goes P o a w0 H' c av) : OpGoes P o a w0 H' c av := by
 intro next Q hn
 obtain ⟨v, c', hr, h1, h2, h3⟩ := h
 unfold Oper.wp
 rcases hr with hr | ⟨hr, rfl⟩
 ·rw [hr]
  exact hn v c' h1 h2 h3
 ·rw [hr]
  exact hn undef c' h1 h2 h3
theorem OpGoes.call {H' : Heap} {av : AV} {k : FuncId} {vs : Array Value} (hr : (execOp a.eval o).run P c.w = .ok (.enter k vs) c.w) (h : CallGoes P k vs w0 H' c av) : OpGoes P o a w0 H' c av := by
 intro next Q hn
 unfold Oper.wp
 rw [hr]
 refine Calls.mono h ?_
 rintro en w' ⟨v, c', rfl, rfl, h1, h2, h3⟩
 exact hn v c' h1 h2 h3
theorem run_callFunc {k : FuncId} (h : Enters P k) (vs : Array Value) (w : World) : (callFunc k vs).run P w = .ok (.enter k vs) w := by
 obtain ⟨fn, h1, h2, h3⟩ := h
 have h4 : fn.body.isNone = false := by
  cases hb : fn.body with
  | none => simp [hb] at h3
  | some b => rfl
 simp only [callFunc, Sem.run_bind, run_program, Result.andThen_ok, h1, h2, h4, Bool.false_eq_true, if_false, Sem.run_pure]
theorem args_rel (h : At P w0 T H c a.tmps g) : ∀ (xs : List Operand) (ts : List TypeId), xs.length ≤ ts.length → RelL c ((xs.zip ts).map fun (x, t) => opd P T g t x) (xs.map a.eval)
 | [], _, _ => by simp [RelL]
 | x :: xs, [], hl => by simp at hl
 | x :: xs, t :: ts, hl => by
  simp only [List.zip_cons_cons, List.map_cons, RelL]
  exact ⟨opd_rel h t x, args_rel h xs ts (by simpa using hl)⟩
theorem methodOf_some {t : TypeId} {name : String} {f : FuncId} (h : methodOf P t name = some f) (v : Value) (w : World) : ∀ fuel, (Go.method (fuel + 1) t v name).run P w = .ok (f, v) w := by
 intro fuel
 unfold methodOf at h
 split at h
 ·rename_i i hi
  split at h
  ·rename_i m hm
   split at h
   ·rename_i e1 e2 hp hf hu
    cases h
    simp only [Go.method, typeInfo, Sem.run_bind, run_program, Result.andThen_ok, hi, Sem.run_pure, hm, hp, follow, hf, receiverAt, run_underlying hu, Place.get]
   ·cases h
  ·cases h
 ·cases h
theorem run_call (h : At P w0 T H c a.tmps g) {cl : Call} {k : FuncId} {args : List AV} (ho : o.op = .call cl) (hc : calleeOf P T g cl = some (k, args)) (hent : Enters P k) :
  ∃ vs, (execOp a.eval o).run P c.w = .ok (.enter k vs) c.w ∧ RelL c args vs.toList := by
 have hargs := args_rel h cl.args.toList (cl.argTypes.toList ++ List.replicate cl.args.size 0) (by simp)
 cases cl with
 | mk callee xs ats =>
  cases callee with
  | value f =>
   simp only [calleeOf] at hc
   split at hc
   ·rename_i k' first cap hf
    cases hc
    have rf := opd_eq h hf
    simp only [Rel] at rf
    obtain ⟨us, cs, hv, h1, h2⟩ := rf
    refine ⟨us ++ xs.map a.eval ++ cs, ?_, ?_⟩
    ·simp only [execOp, ho, resolve, hv, Deferred.ofValue, Sem.run_bind, Sem.run_pure, Result.andThen_ok, invoke, run_callFunc hent]
    ·simp only [Array.toList_append, Array.toList_map]
     exact (h1.append hargs).append h2
   ·cases hc
  | invoke r name =>
   simp only [calleeOf] at hc
   split at hc
   ·rename_i t v hr
    split at hc
    ·rename_i f hm
     cases hc
     have rr := opd_eq h hr
     simp only [Rel] at rr
     obtain ⟨u, hv, h1⟩ := rr
     refine ⟨#[u] ++ xs.map a.eval, ?_, ?_⟩
     ·have hpos : 0 < Made.depth := by decide
      obtain ⟨q, hq⟩ : ∃ q, P.types.size + Made.depth = q + 1 := ⟨P.types.size + Made.depth - 1, by omega⟩
      have hrun := methodOf_some hm u c.w q
      have hex : (#[Value.iface t u] ++ xs.map a.eval).extract 1 (#[Value.iface t u] ++ xs.map a.eval).size = xs.map a.eval := by
       apply Array.ext'
       simp only [Array.toList_extract, List.extract_eq_take_drop, Array.toList_append, List.singleton_append, List.drop_succ_cons, List.drop_zero]
       rw [List.take_of_length_le (by simp)]
      have hget : (#[Value.iface t u] ++ xs.map a.eval)[0]? = some (.iface t u) := by
       rw [Array.getElem?_append]
       simp
      simp only [execOp, ho, resolve, hv, Sem.run_bind, Sem.run_pure, Result.andThen_ok, invoke, hget, hex, callMethod, run_program, hq, hrun, run_callFunc hent]
     ·simp only [Array.toList_append, Array.toList_map, List.singleton_append, RelL]
      exact ⟨h1, hargs⟩
    ·cases hc
   ·cases hc
  | builtin b => simp [calleeOf] at hc
end
end Go.Own
end
section
namespace Go.Own
open Go
section
variable {P : Program} {w0 : Base} {T : List AV} {H : Heap} {c : Cx} {a : Act} {g : Option (Nat × Bool)} {o : Oper}
theorem arr_two {α : Type} {xs : Array α} {x y : α} (hs : xs.size = 2) (h0 : xs[0]? = some x) (h1 : xs[1]? = some y) : xs = #[x, y] := by
 apply Array.ext'
 cases xs with
 | mk l =>
  rcases l with _ | ⟨p, _ | ⟨q, _ | ⟨r, l⟩⟩⟩ <;> simp_all
theorem arr_one {α : Type} {xs : Array α} {x : α} (hs : xs.size = 1) (h0 : xs[0]? = some x) : xs = #[x] := by
 apply Array.ext'
 cases xs with
 | mk l =>
  rcases l with _ | ⟨p, _ | ⟨q, l⟩⟩ <;> simp_all
theorem sl_val {n : Nat} {cols : List Col} {v : Value} (h : Rel c (.sl n cols) v) : ∃ base cap, v = .slice base n cap := by
 simp only [Rel] at h
 obtain ⟨base, cap, rfl, _⟩ := h
 exact ⟨base, cap, rfl⟩
theorem band_true {x y : Bool} (h : some (band x y) ≠ some false) : x = true ∧ y = true := by
 cases x <;> cases y <;> simp_all [band]
theorem arg_eq {cl : Call} {i : Nat} {v : AV} (h : argOf P T g cl i = v) (hv : v ≠ .top) : ∃ x t, cl.args[i]? = some x ∧ cl.argTypes[i]? = some t ∧ opd P T g t x = v := by
 unfold argOf at h
 split at h
 ·rename_i x t h1 h2
  exact ⟨x, t, h1, h2, h⟩
 ·exact absurd h.symm hv
theorem argOf_some {cl : Call} {i : Nat} {x : Operand} {t : TypeId} (h1 : cl.args[i]? = some x) (h2 : cl.argTypes[i]? = some t) : argOf P T g cl i = opd P T g t x := by
 unfold argOf
 rw [h1, h2]
theorem of_ne {p : Prop} [Decidable p] (h : some (decide p) ≠ some false) : p := by
 by_cases hp : p
 ·exact hp
 ·exact absurd (by simp [hp]) h
theorem builtin_sound (h : At P w0 T H c a.tmps g) {fr : Nat} (hf0 : H.at fr = none) {cl : Call} {b : Builtin} {e : Eff} (ho : o.op = .call cl) (hcl : cl.callee = .builtin b) (he : builtinEff P T H fr g b cl = some e) (hob : e.obl ≠ some false) : Goes P o a w0 (writeAll H e.writes) c e.val := by
 unfold builtinEff at he
 split at he
 ·-- len
  rename_i hs
  split at he
  ·rename_i n cols e' h1 h2
   cases he
   obtain ⟨x, t, g1, g2, g3⟩ := arg_eq h1 (by simp)
   rw [g2] at h2
   obtain ⟨base, cap, hv⟩ := sl_val (opd_eq h g3)
   exact len_goes h ho hcl (arr_one hs g1) g2 h2 hv
  ·rename_i e1 cols e' h1 h2
   cases he
   obtain ⟨x, t, g1, g2, g3⟩ := arg_eq h1 (by simp)
   rw [g2] at h2
   have r := opd_eq h g3
   simp only [Rel] at r
   obtain ⟨_, base, hv⟩ := r
   exact len_goes h ho hcl (arr_one hs g1) g2 h2 hv
  ·rename_i id e' h1 h2
   split at he
   ·rename_i e2 n cols hid
    cases he
    obtain ⟨x, t, g1, g2, g3⟩ := arg_eq h1 (by simp)
    rw [g2] at h2
    have r := opd_eq h g3
    simp only [Rel] at r
    obtain ⟨p, base, hp, hv, _⟩ := r
    obtain ⟨p', hp', hob'⟩ := h.heap.obj id _ hid
    rw [hp] at hp'
    cases hp'
    rw [hob'.1] at hv
    exact len_goes h ho hcl (arr_one hs g1) g2 h2 hv
   ·cases he
  ·rename_i id off n e' h1 h2
   cases he
   obtain ⟨x, t, g1, g2, g3⟩ := arg_eq h1 (by simp)
   rw [g2] at h2
   have r := opd_eq h g3
   simp only [Rel] at r
   obtain ⟨p, base, hp, hv, _⟩ := r
   exact len_goes h ho hcl (arr_one hs g1) g2 h2 hv
  ·cases he
 ·-- min
  rename_i hs
  split at he
  ·rename_i k m k' n h1 h2
   cases he
   obtain ⟨x, t, g1, g2, g3⟩ := arg_eq h1 (by simp)
   obtain ⟨y, t2, g4, g5, g6⟩ := arg_eq h2 (by simp)
   exact min_goes h ho hcl (arr_two hs g1 g4) g3 g6
  ·cases he
 ·-- max
  rename_i hs
  split at he
  ·rename_i k m k' n h1 h2
   cases he
   obtain ⟨x, t, g1, g2, g3⟩ := arg_eq h1 (by simp)
   obtain ⟨y, t2, g4, g5, g6⟩ := arg_eq h2 (by simp)
   exact max_goes h ho hcl (arr_two hs g1 g4) g3 g6
  ·cases he
 ·-- append
  rename_i hs
  split at he
  ·rename_i t e2 h1 h2
   cases ht2 : cl.argTypes[1]? with
   | none => rw [ht2] at h2; cases h2
   | some t2 =>
    rw [ht2] at h2
    simp only [Option.bind_some] at h2
    have hx0 : 0 < cl.args.size := by omega
    have hx1 : 1 < cl.args.size := by omega
    have g1 : cl.args[0]? = some cl.args[0] := Array.getElem?_eq_getElem hx0
    have g4 : cl.args[1]? = some cl.args[1] := Array.getElem?_eq_getElem hx1
    rw [argOf_some g1 h1, argOf_some g4 ht2] at he
    have hargs := arr_two hs g1 g4
    unfold appendEff at he
    split at he
    ·rename_i e' m ys rd hrt hsl
     split at he
     ·rename_i heok
      split at he
      ·rename_i e3 cols hx
       split at he
       ·rename_i zs hz
        cases he
        simp only [nle] at hob
        exact append_emp h hf0 ho hcl hargs h1 ht2 hrt h2 heok hx rfl hsl hz (of_ne hob)
       ·cases he
      ·rename_i id hx
       split at he
       ·rename_i e4 n cols hid
        split at he
        ·rename_i hee
         obtain ⟨hee, hc⟩ := hee
         subst hee
         split at he
         ·rename_i zs hz
          cases he
          simp only [nle, nAdd] at hob ⊢
          exact append_full h hf0 ho hcl hargs h1 ht2 hrt h2 heok hx rfl hsl hid hc hz (of_ne hob)
         ·cases he
        ·cases he
       ·cases he
      ·rename_i id off n hx
       split at he
       ·rename_i e4 k cols hid
        split at he
        ·rename_i hee
         obtain ⟨hee, hc⟩ := hee
         subst hee
         split at he
         ·rename_i zs hz
          cases he
          simp only [nle, nAdd] at hob hz ⊢
          exact append_osl h ho hcl hargs h1 ht2 hrt h2 heok hx rfl hsl hid hc hz (of_ne hob)
         ·cases he
        ·cases he
       ·cases he
      ·cases he
     ·cases he
    ·cases he
  ·cases he
 ·-- copy
  rename_i hs
  split at he
  ·rename_i e2 h1
   cases ht : cl.argTypes[0]? with
   | none => rw [ht] at h1; cases h1
   | some t =>
    have hx0 : 0 < cl.args.size := by omega
    have hx1 : 1 < cl.args.size := by omega
    have g1 : cl.args[0]? = some cl.args[0] := Array.getElem?_eq_getElem hx0
    have g4 : cl.args[1]? = some cl.args[1] := Array.getElem?_eq_getElem hx1
    have hargs := arr_two hs g1 g4
    have htd : cl.argTypes.getD 0 0 = t := by rw [Array.getD_eq_getD_getElem?, ht]; rfl
    rw [htd, argOf_some g1 ht] at he
    cases ht2 : cl.argTypes[1]? with
    | none =>
     have hno : argOf P T g cl 1 = .top := by unfold argOf; rw [g4, ht2]
     rw [hno] at he
     simp [copyEff, sliceOf] at he
    | some t2 =>
     rw [argOf_some g4 ht2] at he
     unfold copyEff at he
     split at he
     ·rename_i id e' m ys rd hx hrt hsl
      split at he
      ·rename_i e4 n cols hid
       split at he
       ·rename_i hee
        obtain ⟨hee, heok, hc⟩ := hee
        subst hee
        split at he
        ·rename_i zs hz
         cases he
         exact copy_goes h ho hcl hargs ht hrt heok hx rfl hsl hid hc hz
        ·cases he
       ·cases he
      ·cases he
     ·cases he
  ·cases he
 ·-- clear
  rename_i hs
  split at he
  ·rename_i id off n e' h1 h2
   split at he
   ·rename_i e4 k cols hid
    split at he
    ·rename_i hee
     obtain ⟨hee, heok⟩ := hee
     subst hee
     split at he
     ·rename_i zs hz
      cases he
      obtain ⟨x, t, g1, g2, g3⟩ := arg_eq h1 (by simp)
      rw [g2] at h2
      have hrt : rowType P t = some e' := by
       simp only [Option.bind_some] at h2
       simp [rowType, h2]
      simp only [nle, nAdd] at hob
      exact clear_goes h ho hcl (arr_one hs g1) g2 hrt heok g3 hid hz (of_ne hob)
     ·cases he
    ·cases he
   ·cases he
  ·cases he
 ·-- delete
  rename_i hs
  split at he
  ·rename_i id n h1 h2
   split at he
   ·rename_i ks cols one ct hid hmt
    split at he
    ·rename_i hfl
     cases he
     obtain ⟨x, t, g1, g2, g3⟩ := arg_eq h1 (by simp)
     obtain ⟨y, t2, k1, k2, k3⟩ := arg_eq h2 (by simp)
     rw [g2] at hmt
     simp only [Option.bind_some] at hmt
     obtain ⟨cols', one'⟩ := ct
     obtain ⟨kt, e', hu, hk, _, _⟩ := mapT_some hmt
     exact delT_goes h ho hcl (arr_two hs g1 k1) g2 hu hk g3 k3 hid (fun col hc => List.all_eq_true.1 hfl col hc)
    ·cases he
   ·cases he
  ·cases he
 ·cases he
end
end Go.Own
end
section
namespace Go.Own
open Go
section
variable {P : Program} {w0 : Base} {T : List AV} {H : Heap} {c : Cx} {a : Act} {g : Option (Nat × Bool)} {o : Oper}
theorem ne_false {x : Bool} (h : x = true) : some x ≠ some false := by simp [h]
theorem ile_true {x y : Int} (h : ile x y = true) : x ≤ y := of_decide_eq_true h
theorem ilt_true {x y : Int} (h : ilt x y = true) : x < y := of_decide_eq_true h
theorem sliceEff_sound (h : At P w0 T H c a.tmps g) {t : TypeId} {x : Operand} {lo hi mx : Option Operand} {e : Eff} (ho : o.op = .slice t x lo hi mx) (he : sliceEff P T g H t (opd P T g t x) lo hi mx = some e) (hob : e.obl ≠ some false) : Goes P o a w0 (writeAll H e.writes) c e.val := by
 unfold sliceEff at he
 split at he
 ·cases he
 ·rename_i e1 hrt
  split at he
  ·rename_i n cols hx
   split at he
   ·rename_i hs
    split at he
    ·rename_i l hh hl hhi
     cases he
     obtain ⟨b1, b2⟩ := band_true hob
     obtain ⟨b2, b3⟩ := band_true (ne_false b2)
     exact slice_sl h ho hrt hs hx hl hhi (ile_true b1) (ile_true b2) (ile_true b3)
    ·cases he
   ·cases he
  ·rename_i e' cols hx
   split at he
   ·rename_i n l hh hs hl hhi
    cases he
    obtain ⟨b1, b2⟩ := band_true hob
    have b1 : l = 0 := by simpa [ieq] using b1
    have b2 : hh = 0 := by simpa [ieq] using b2
    subst b1 b2
    exact slice_emp h ho hrt hs hx hl hhi
   ·cases he
  ·rename_i id hx
   split at he
   ·rename_i e2 k cols hid
    split at he
    ·rename_i hs
     split at he
     ·rename_i hh hhi
      split at he
      ·cases he
       obtain ⟨b1, b2⟩ := band_true hob
       have r1 := ile_true b1
       have r2 := ile_true b2
       have := slice_full (lo := none) (l := 0) h ho hrt hs hx hid rfl hhi (Int.le_refl 0) r1 r2
       have e1 : nOf 0 = 0 := rfl
       have e2 : nDiff hh 0 = nOf hh := by simp [nDiff, nOf]
       rw [e1, e2] at this
       exact this
      ·rename_i l0
       split at he
       ·rename_i l hl
        cases he
        obtain ⟨b1, b2⟩ := band_true hob
        obtain ⟨b2, b3⟩ := band_true (ne_false b2)
        exact slice_full h ho hrt hs hx hid hl hhi (ile_true b1) (ile_true b2) (ile_true b3)
       ·cases he
     ·rename_i hh m0 hhi
      split at he
      ·rename_i l m y hl hm
       cases he
       obtain ⟨b1, b2⟩ := band_true hob
       obtain ⟨b2, b3⟩ := band_true (ne_false b2)
       obtain ⟨b3, b4⟩ := band_true (ne_false b3)
       have r := opd_eq h hx
       simp only [Rel] at r
       obtain ⟨p, base, hp, hv, _⟩ := r
       obtain ⟨p', hp', hob'⟩ := h.heap.obj id _ hid
       rw [hp] at hp'
       cases hp'
       have hk := hob'.1
       have hcap := hob'.2.2.1
       rw [hk] at hv
       have b4' : m ≤ (k : Int) := ile_true b4
       exact slice_max h ho hrt hs hv hl hhi hm (ile_true b1) (ile_true b2) (ile_true b3) (by omega)
      ·cases he
     ·cases he
    ·cases he
   ·cases he
  ·rename_i id off n hx
   split at he
   ·rename_i e2 k cols hid
    split at he
    ·rename_i hs
     split at he
     ·rename_i l hh hl hhi
      cases he
      obtain ⟨b1, b2⟩ := band_true hob
      obtain ⟨b2, b3⟩ := band_true (ne_false b2)
      exact slice_osl h ho hrt hs hx hid hl hhi (ile_true b1) (ile_true b2) (of_decide_eq_true (show decide (off + hh.toNat ≤ k) = true from b3))
     ·cases he
    ·cases he
   ·cases he
  ·cases he
theorem rel_bite {b x y : Bool} {u1 u2 : Value} (h1 : b = true → Rel c (.bool x) u1) (h2 : b = false → Rel c (.bool y) u2) : Rel c (.bool (bite b x y)) (if b then u1 else u2) := by
 cases b
 ·simpa [bite] using h2 rfl
 ·simpa [bite] using h1 rfl
theorem rel_iite {b : Bool} {k : IntKind} {x y : Int} {u1 u2 : Value} (h1 : b = true → Rel c (.int k x) u1) (h2 : b = false → Rel c (.int k y) u2) : Rel c (.int k (iite b x y)) (if b then u1 else u2) := by
 cases b
 ·simpa [iite] using h2 rfl
 ·simpa [iite] using h1 rfl
theorem isIntMap_some {t : TypeId} (h : isIntMap P t = true) : ∃ kt e k, P.underlying t = some (.map kt e) ∧ P.underlying kt = some (.int k) := by
 unfold isIntMap at h
 split at h
 ·rename_i kt e hu
  split at h
  ·rename_i k hk
   exact ⟨kt, e, k, hu, hk⟩
  ·cases h
 ·cases h
theorem allNe_any {n : Int} : ∀ {es : List (Int × AV)}, allNe n es = true → (es.any fun e => e.1 == n) = false
 | [], _ => rfl
 | (k, x) :: es, h => by
  simp only [allNe, band, Bool.and_eq_true] at h
  have h1 : (k == n) = false := by simpa [ine] using h.1
  simp only [List.any_cons, h1, allNe_any h.2, Bool.or_self]
theorem opEff_sound {S : FuncId → Option Summ} (hS : ∀ k s, S k = some s → SummOK P k s) (h : At P w0 T H c a.tmps g) {fr : Nat} (hf0 : H.at fr = none) (hfr : sizeOp o = 128 → Fresh H fr) {e : Eff} (he : opEff P S T H fr g o = some e) (hob : e.obl ≠ some false) : OpGoes P o a w0 (writeAll H e.writes) c e.val := by
 cases hop : o.op with
 | move x =>
  simp only [opEff, hop] at he
  split at he
  ·cases he
  ·cases he
   exact .of (move_goes h (.inl hop) rfl)
 | assign x =>
  simp only [opEff, hop] at he
  split at he
  ·cases he
  ·cases he
   exact .of (move_goes h (.inr hop) rfl)
 | pick cx x y =>
  cases cx with
  | tmp j =>
   simp only [opEff, hop] at he
   split at he
   ·rename_i b p q hb hp hq
    cases he
    exact .of (pick_goes h hop hb (by rw [hp, hq]; exact fun u1 u2 h1 h2 => rel_bite h1 h2))
   ·rename_i b k p k' q hb hp hq
    split at he
    ·rename_i hk
     subst hk
     cases he
     exact .of (pick_goes h hop hb (by rw [hp, hq]; exact fun u1 u2 h1 h2 => rel_iite h1 h2))
    ·cases he
   ·rename_i q hb hp
    cases he
    have hbf : q = false := by simpa [bnot] using hob
    subst hbf
    exact .of (pick_goes h hop hb (fun u1 u2 h1 h2 => by simpa using h2 rfl))
   ·rename_i q hb hp _
    cases he
    have hbf : q = true := by simpa using hob
    subst hbf
    exact .of (pick_goes h hop hb (fun u1 u2 h1 h2 => by simpa using h1 rfl))
   ·cases he
  | const v => simp [opEff, hop] at he
  | global v => simp [opEff, hop] at he
  | func v => simp [opEff, hop] at he
 | alloc t =>
  simp only [opEff, hop] at he
  split at he
  ·rename_i cs hcs
   cases he
   exact .of (alloc_goes h hf0 hop hcs)
  ·cases he
 | box t x =>
  simp only [opEff, hop] at he
  split at he
  ·rename_i cs hcs
   cases he
   exact .of (box_goes h hf0 hop hcs)
  ·cases he
 | build t ps =>
  simp only [opEff, hop] at he
  split at he
  ·rename_i z pl hz hpl
   split at he
   ·rename_i cs hcs
    cases he
    exact .of (build_goes h hop hz hpl hcs)
   ·cases he
  ·cases he
 | buildSlice t n ps =>
  simp only [opEff, hop] at he
  split at he
  ·rename_i e' cs hrt hps
   split at he
   ·rename_i hc
    obtain ⟨c1, c2, c3, c4⟩ := hc
    split at he
    ·rename_i cols hrow
     cases he
     exact .of (buildSlice_goes h hf0 hop hrt hps c1 c2 c3 hrow (fun x hx => by simpa using List.all_eq_true.1 c4 x hx))
    ·cases he
   ·cases he
  ·cases he
 | load t x =>
  simp only [opEff, hop] at he
  split at he
  ·rename_i n hs
   split at he
   ·rename_i b cs rd hcs
    split at he
    ·rename_i v hw
     cases he
     exact .of (load_goes h hop hs hob hcs hw)
    ·cases he
   ·cases he
  ·cases he
 | store t x y =>
  simp only [opEff, hop] at he
  split at he
  ·rename_i id idx off vs hx hy
   split at he
   ·rename_i hs
    split at he
    ·rename_i cs hid
     split at he
     ·rename_i hc
      obtain ⟨hi, hl⟩ := hc
      subst hi
      cases he
      exact .of (store_var h hop hx hy hs hid hl)
     ·cases he
    ·rename_i e' k cols hid
     split at he
     ·rename_i ws hz
      split at he
      ·rename_i hl
       cases he
       exact .of (store_row h hop hx hy hs hid hz hl (of_ne hob))
      ·cases he
     ·cases he
    ·cases he
   ·cases he
  ·cases he
 | nilCheck x =>
  simp only [opEff, hop] at he
  split at he
  ·rename_i id idx off hx
   cases he
   exact .of (nilCheck_goes h hop hx (.inl ⟨_, _, _, rfl⟩))
  ·rename_i cs hx
   cases he
   exact .of (nilCheck_goes h hop hx (.inr (.inl ⟨_, rfl⟩)))
  ·rename_i f xs ys hx
   split at he
   ·cases he
    exact .of (nilCheck_goes h hop hx (.inr (.inr ⟨_, _, _, rfl⟩)))
   ·cases he
  ·cases he
 | binOp op t x y yt =>
  simp only [opEff, hop] at he
  split at he
  ·rename_i b v hb
   cases he
   exact .of (binop_goes h hop hob hb)
  ·cases he
 | unOp op t x =>
  cases op with
  | not =>
   simp only [opEff, hop] at he
   split at he
   ·rename_i b hb
    cases he
    exact .of (not_goes h hop hb)
   ·cases he
  | neg =>
   simp only [opEff, hop] at he
   split at he
   ·rename_i k n hb
    cases he
    exact .of (neg_goes h hop hb)
   ·cases he
  | xor => simp [opEff, hop] at he
  | plus => simp [opEff, hop] at he
 | convert s d x =>
  simp only [opEff, hop] at he
  split at he
  ·rename_i k2 k k' n h1 h2 h3
   cases he
   exact .of (convert_goes h hop h1 h2 h3)
  ·cases he
 | makeInterface t x =>
  simp only [opEff, hop] at he
  split at he
  ·cases he
  ·rename_i d hd hni
   split at he
   ·cases he
   ·cases he
   ·cases he
    exact .of (iface_goes h hop hni (fun ms hm => by subst hm; exact hd _ rfl) rfl)
  ·cases he
 | makeFunc f xs ys =>
  cases f with
  | func k =>
   simp only [opEff, hop] at he
   cases he
   exact .of (makeFunc_goes h hop)
  | method _ => simp [opEff, hop] at he
  | methodOf _ _ => simp [opEff, hop] at he
  | via _ _ _ _ => simp [opEff, hop] at he
  | yield _ => simp [opEff, hop] at he
 | makeSlice t x y =>
  simp only [opEff, hop] at he
  split at he
  ·rename_i e' k n k' m hrt hx hy
   split at he
   ·rename_i hel
    cases he
    obtain ⟨b1, b4⟩ := band_true hob
    obtain ⟨b2, b3⟩ := band_true (ne_false b4)
    have hnm : n = m := by simpa [ieq] using b3
    subst hnm
    exact .of (make_goes h hf0 hop hrt hel hx hy (ile_true b1) (ile_true b2))
   ·cases he
  ·cases he
 | slice t x lo hi mx =>
  simp only [opEff, hop] at he
  exact .of (sliceEff_sound h hop he hob)
 | fieldAddr s x f =>
  simp only [opEff, hop] at he
  split at he
  ·rename_i q1 q2 id idx off hf hx
   cases he
   exact .of (fieldAddr_ptr h hop hf hx)
  ·rename_i q1 q2 cs hf hx
   cases he
   exact .of (fieldAddr_ip h hop hf hx)
  ·cases he
 | field s x f =>
  simp only [opEff, hop] at he
  split at he
  ·rename_i off t cs hf hx
   split at he
   ·rename_i n hs
    split at he
    ·cases he
    ·rename_i hl
     split at he
     ·rename_i v hw
      cases he
      exact .of (field_goes h hop hf hs hx (by omega) hw)
     ·cases he
   ·cases he
  ·cases he
 | indexAddr t x y =>
  simp only [opEff, hop] at he
  split at he
  ·rename_i e' n cols k i hrt hx hy
   split at he
   ·rename_i hs
    cases he
    obtain ⟨b1, b2⟩ := band_true hob
    exact .of (index_sl h hop hrt hs hx hy (ile_true b1) (by simpa [ofN] using ilt_true b2))
   ·cases he
  ·rename_i e' id k i hrt hx hy
   split at he
   ·rename_i e2 n cols hid
    split at he
    ·rename_i hs
     cases he
     obtain ⟨b1, b2⟩ := band_true hob
     exact .of (index_full h hop hrt hs hid hx hy (ile_true b1) (by simpa [ofN] using ilt_true b2))
    ·cases he
   ·cases he
  ·rename_i e' id off n k i hrt hx hy
   split at he
   ·rename_i e2 m cols hid
    split at he
    ·rename_i hs
     cases he
     obtain ⟨b1, b2⟩ := band_true hob
     exact .of (index_osl h hop hrt hs hid hx hy (ile_true b1) (by simpa [ofN] using ilt_true b2))
    ·cases he
   ·cases he
  ·cases he
   exact absurd rfl hob
  ·cases he
 | extract x i =>
  simp only [opEff, hop] at he
  split at he
  ·rename_i vs hx
   split at he
   ·cases he
   ·rename_i v hv hi
    cases he
    exact .of (extract_goes h hop hx hi)
   ·cases he
  ·cases he
 | typeAssert x xt t ok =>
  cases ok with
  | false =>
   simp only [opEff, hop] at he
   split at he
   ·cases he
   ·rename_i d t' v hni hd hx
    split at he
    ·rename_i ht
     subst ht
     cases he
     exact .of (typeAssert_goes h hop hd (fun ms hm => by subst hm; exact hni _ rfl) hx)
    ·cases he
   ·cases he
  | true => simp [opEff, hop] at he
 | makeMap t r =>
  cases r with
  | none =>
   simp only [opEff, hop] at he
   split at he
   ·rename_i cols one hmt
    cases he
    exact .of (makeT_goes h hf0 hop hmt)
   ·cases he
    exact .of (makeMap_goes h hf0 hop)
  | some r => simp [opEff, hop] at he
 | insert t m x y =>
  simp only [opEff, hop] at he
  split at he
  ·cases he
  ·rename_i him
   obtain ⟨kt, et, k, h1, h2⟩ := isIntMap_some (by simpa using him)
   split at he
   ·rename_i id n hm hx
    split at he
    ·rename_i ks cols one hid
     split at he
     ·rename_i zs hz
      cases he
      exact .of (putT_goes h (.inl hop) h1 h2 hm hx rfl hid hz)
     ·cases he
    ·rename_i es f p q hid hy
     cases he
     exact .of (put_goes h (.inl hop) h1 h2 hm hx hy hid (allNe_any (by simpa using hob)))
    ·rename_i es cs hid hy
     cases he
     exact .of (put_goes h (.inl hop) h1 h2 hm hx hy hid (allNe_any (by simpa using hob)))
    ·cases he
   ·cases he
 | mapUpdate t m x y =>
  simp only [opEff, hop] at he
  split at he
  ·cases he
  ·rename_i him
   obtain ⟨kt, et, k, h1, h2⟩ := isIntMap_some (by simpa using him)
   split at he
   ·rename_i id n hm hx
    split at he
    ·rename_i ks cols one hid
     split at he
     ·rename_i zs hz
      cases he
      exact .of (putT_goes h (.inr hop) h1 h2 hm hx rfl hid hz)
     ·cases he
    ·rename_i es f p q hid hy
     cases he
     exact .of (put_goes h (.inr hop) h1 h2 hm hx hy hid (allNe_any (by simpa using hob)))
    ·rename_i es cs hid hy
     cases he
     exact .of (put_goes h (.inr hop) h1 h2 hm hx hy hid (allNe_any (by simpa using hob)))
    ·cases he
   ·cases he
 | call cl =>
  simp only [opEff, hop] at he
  split at he
  ·rename_i b hb
   exact .of (builtin_sound h hf0 hop hb he hob)
  ·rename_i hnb
   have hsz : sizeOp o = 128 := by
    unfold sizeOp
    rw [hop]
    simp only
    try simp only
    try (split <;> first | rfl | exact absurd ‹_› (hnb _))
   split at he
   ·rename_i k args hk
    split at he
    ·rename_i s hs
     obtain ⟨h1, h2⟩ := hS k s hs
     obtain ⟨vs, h3, h4⟩ := run_call h hop hk h1
     exact .call h3 (h2 w0 H c args vs fr e h.heap h4 (hfr hsz) he hob)
    ·cases he
   ·cases he
 | ready _ => simp [opEff, hop] at he
 | waits _ => simp [opEff, hop] at he
 | sliceToArrayPointer _ _ => simp [opEff, hop] at he
 | makeChan _ _ => simp [opEff, hop] at he
 | index _ _ _ => simp [opEff, hop] at he
 | lookup t m k ok =>
  simp only [opEff, hop] at he
  split at he
  ·rename_i id n hm hx
   split at he
   ·rename_i ks cols one hid
    split at he
    ·rename_i hz
     simp only [Bool.and_eq_true] at hz
     obtain ⟨ct, hct⟩ := Option.isSome_iff_exists.1 hz.1.2
     obtain ⟨cols', one'⟩ := ct
     obtain ⟨kt, et, hu, hk, _, _⟩ := mapT_some hct
     cases he
     exact .of (lookupT_goes h hop hu hk hm hx hid hz.1.1 (fun col hc => List.all_eq_true.1 hz.2 col hc))
    ·cases he
   ·cases he
  ·cases he
 | mapEntry _ _ _ => simp [opEff, hop] at he
 | entryStore _ _ _ _ => simp [opEff, hop] at he
 | range t x =>
  simp only [opEff, hop] at he
  split at he
  ·rename_i kt et ks cols one hu hx
   cases he
   exact .of (rangeT_goes h hf0 hop hu hx)
  ·cases he
 | next _ _ => simp [opEff, hop] at he
 | entry x =>
  simp only [opEff, hop] at he
  split at he
  ·rename_i id hx
   split at he
   ·rename_i ks cols one left i hid
    cases he
    exact .of (entryT_goes h hop hx hid)
   ·cases he
  ·cases he
 | go _ => simp [opEff, hop] at he
 | defer _ => simp [opEff, hop] at he
 | panic _ => simp [opEff, hop] at he
 | send _ _ => simp [opEff, hop] at he
 | recv _ _ _ => simp [opEff, hop] at he
 | select _ _ => simp [opEff, hop] at he
end
end Go.Own
end
section
namespace Go.Own
open Go
structure StOK (w0 : Base) (st : St) (c : Cx) (a : Act) : Prop where
 heap : HeapOK w0 st.H c
 tok : TOK c st.T a.tmps
 plain : a.defers = []
def CallfOK (P : Program) (callf : CallF) : Prop :=
 ∀ k args H Q, callf k args H Q → Enters P k ∧ ∀ (w0 : Base) (c : Cx) (vs : Array Value), HeapOK w0 H c → RelL c args vs.toList →
  Calls P k vs c.w fun en w' => ∃ v c' av H', en = .returned v ∧ w' = c'.w ∧ c.le c' ∧ HeapOK w0 H' c' ∧ Rel c' av v ∧ Q av H'
theorem must_iff {o : Option Bool} {X : Prop} : must o X ↔ o ≠ some false ∧ X := by
 cases o with
 | none => simp [must]
 | some b => cases b <;> simp [must, asrt]
theorem br_iff {b : Bool} {X Y : Prop} : br b X Y ↔ (b = true → X) ∧ (b = false → Y) := by
 cases b <;> simp [br]
theorem isB_iff {c want : Bool} : isB c want = true ↔ c = want := by
 cases want <;> cases c <;> simp [isB, bnot]
section
variable {P : Program} {w0 : Base} {T : List AV} {H : Heap} {c : Cx} {a : Act} {g : Option (Nat × Bool)} {o : Oper} {S : FuncId → Option Summ} {callf : CallF}
theorem TOK.put (h : TOK c T a.tmps) {d : Option Nat} {x : AV} {v : Value} (hx : ∀ i, d = some i → i < a.tmps.size → RelT c (a.put d v).tmps x v) : TOK c (setT T d x) (a.put d v).tmps := by
 cases d with
 | none => exact h
 | some d =>
  refine ⟨by simp [setT, Act.put, h.1], fun i y hi => ?_⟩
  simp only [setT, Act.put, List.getElem?_set, List.length_map, List.getElem?_map] at hi ⊢
  by_cases hd : d = i
  ·subst hd
   simp only [if_true] at hi
   split at hi
   ·rename_i hlt
    cases hi
    have hlt' : d < a.tmps.size := by rw [← h.1]; exact hlt
    exact ⟨v, by simp [hlt'], hx d rfl hlt'⟩
   ·cases hi
  ·rw [if_neg hd] at hi
   cases hT : T[i]? with
   | none => simp [hT] at hi
   | some z =>
    simp only [hT, Option.map_some, Option.some.injEq] at hi
    obtain ⟨u, hu, hr⟩ := h.2 i z hT
    refine ⟨u, by rw [Array.getElem?_setIfInBounds_ne (by omega), hu], ?_⟩
    subst hi
    cases z with
    | cond j b w =>
     simp only
     split
     ·simp [RelT, Rel]
     ·rename_i hj
      simp only [RelT]
      rw [Array.getElem?_setIfInBounds_ne (by omega)]
      exact hr
    | _ => exact hr
theorem TOK.refine (h : TOK c T a.tmps) {j : Nat} {b : Bool} (hj : a.tmps[j]? = some (.bool b)) : TOK c (T.set j (.bool b)) a.tmps := by
 refine ⟨by simp [h.1], fun i y hi => ?_⟩
 rw [List.getElem?_set] at hi
 by_cases hd : j = i
 ·subst hd
  simp only [if_true] at hi
  split at hi
  ·cases hi
   exact ⟨_, hj, by simp [RelT, Rel]⟩
  ·cases hi
 ·rw [if_neg hd] at hi
  exact h.2 i y hi
theorem tok_bool (h : TOK c T a.tmps) {j : Nat} {b : Bool} (hj : T.getD j .top = .bool b) : a.tmps[j]? = some (.bool b) := by
 have hlt : j < T.length := by
  rcases Nat.lt_or_ge j T.length with h1 | h1
  ·exact h1
  ·simp [List.getD, List.getElem?_eq_none h1] at hj
 obtain ⟨u, hu, hr⟩ := h.2 j (.bool b) (by rw [List.getD_eq_getElem?_getD] at hj; rw [List.getElem?_eq_getElem hlt] at hj ⊢; simpa using hj)
 rw [hu, rel_bool (c := c) hr]
theorem relT_of_rel {tmps : Array Value} {x : AV} {v : Value} (h : Rel c x v) : RelT c tmps x v := by
 cases x <;> first | exact h | (simp [Rel] at h)
theorem fresh_len (H : Heap) : Fresh H H.length := by
 intro id h1 _
 unfold Heap.at
 rw [List.getElem?_eq_none h1]
theorem put_defers (d : Option Nat) (v : Value) : (a.put d v).defers = a.defers := by
 cases d <;> rfl
theorem findNow_of {n : Int} {z : AV} {ok : Bool} {Q : AV → Prop} {k : IntKind} : ∀ {es : List (Int × AV)} {ms : List MapEntry} (i : Nat), MapIs c es ms → lookupBr n z ok Q es →
  ∃ r, Instr.findNow (.int k) (.int .i64 n) ms i = some r ∧ match r with
   | some (_, v) => ∃ av, Rel c av v ∧ Q (if ok then .tup [av, .bool true] else av)
   | none => Q (if ok then .tup [z, .bool false] else z)
 | [], [], _, _, h => ⟨none, rfl, h⟩
 | (m, x) :: es, e :: ms, i, hm, h => by
  obtain ⟨h1, h2, h3⟩ := hm
  simp only [lookupBr, br_iff] at h
  by_cases hk : n = m
  ·subst hk
   exact ⟨some (i, e.val), by simp [Instr.findNow, h1, Instr.sameNow], x, h2, h.1 (by simp [ieq])⟩
  ·have hne : (n == m) = false := by simpa using hk
   obtain ⟨r, hr1, hr2⟩ := findNow_of (i + 1) h3 (h.2 (by simpa [ieq] using hk))
   exact ⟨r, by simp only [Instr.findNow, h1, Instr.sameNow, if_true, hne]; exact hr1, hr2⟩
 | [], _ :: _, _, h, _ => h.elim
 | _ :: _, [], _, h, _ => h.elim
theorem eqNil_sound (h : At P w0 T H c a.tmps g) {op : BinOp} {t yt : TypeId} {x y : Operand} {Q : AV → Heap → Prop} (hop : o.op = .binOp op t x y yt) (ho : op = .eql ∧ isNil y = true) (hs : eqNil P T H g t x Q) {next : Act → World → Prop} {QQ : Exit → Act → World → Prop}
  (hn : ∀ v c' av H', c.le c' → HeapOK w0 H' c' → Rel c' av v → Q av H' → next (a.put o.dst v) c'.w) : o.wp P a c.w next QQ := by
 obtain ⟨rfl, hy⟩ := ho
 have hy' : a.eval y = .slice none 0 0 := by
  cases y with
  | const v =>
   cases v <;> try (simp [isNil] at hy; done)
   rename_i base n cp
   cases base with
   | none =>
    simp [isNil] at hy
    obtain ⟨rfl, rfl⟩ := hy
    rfl
   | some b => simp [isNil] at hy
  | tmp _ => simp [isNil] at hy
  | global _ => simp [isNil] at hy
  | func _ => simp [isNil] at hy
 unfold eqNil at hs
 split at hs
 ·rename_i e n cols hrt hx
  have r := opd_eq h hx
  simp only [Rel] at r
  obtain ⟨base, cap, hv, hcap, hcols⟩ := r
  have hu := rowType_some hrt
  have hrun : (execOp a.eval o).run P c.w = .ok (.value (.bool base.isNone)) c.w := by
   have h1 := eqGuard_plain (P := P) .eql t x y (u := .slice base n cap) (v := .slice none 0 0) rfl (by simp) c.w
   have h2 := Lib.run_eql_slice_nil c.w t e base n cap 0 0 hu
   simp only [execOp, hop, hv, hy', Sem.run_bind, h1, h2, Result.andThen_ok, Sem.run_pure]
  unfold Oper.wp
  rw [hrun]
  refine hn _ c (.bool base.isNone) H (Cx.le.refl c) h.heap (by simp [Rel]) (hs _ fun hb => ?_)
  rcases hcols.2 with h2 | ⟨ad, rfl, _⟩
  ·exact h2
  ·simp at hb
 ·exact hs.elim
theorem zeroOf_some {t : TypeId} {z : AV} (h : zeroOf P t = some z) : ∃ i zv, P.info? t = some i ∧ i.zero = some zv ∧ Rel c z zv := by
 cases hi : P.info? t with
 | none => simp [zeroOf, hi] at h
 | some i =>
  cases hz : i.zero with
  | none => simp [zeroOf, hi, hz] at h
  | some zv =>
   refine ⟨i, zv, rfl, hz, ?_⟩
   unfold zeroOf at h
   simp only [hi, Option.bind_some, hz] at h
   split at h
   ·rename_i cs heq
    cases heq
    split at h
    ·rename_i har
     cases h
     simp only [Rel]
     exact ⟨cs, rfl, areVals_rel har⟩
    ·cases h
   ·rename_i v hne heq
    cases heq
    split at h
    ·rename_i x hx
     split at h
     ·rename_i hv
      cases h
      exact isVal_rel hv
     ·cases h
    ·cases h
   ·cases h
theorem lookup_sound (h : At P w0 T H c a.tmps g) {t : TypeId} {m k : Operand} {ok : Bool} {Q : AV → Heap → Prop} (hop : o.op = .lookup t m k ok) (hs : lookupOp P T H g t m k ok Q) {next : Act → World → Prop} {QQ : Exit → Act → World → Prop}
  (hn : ∀ v c' av H', c.le c' → HeapOK w0 H' c' → Rel c' av v → Q av H' → next (a.put o.dst v) c'.w) : o.wp P a c.w next QQ := by
 unfold lookupOp at hs
 split at hs
 ·rename_i kt et id n hu hm hk
  split at hs
  ·rename_i es z hkt hid hz
   have rm := opd_eq h hm
   have rk := rel_int (opd_eq h hk)
   simp only [Rel] at rm
   obtain ⟨p, hp, hvm⟩ := rm
   obtain ⟨p', hp', hob⟩ := h.heap.obj id _ hid
   rw [hp] at hp'
   cases hp'
   obtain ⟨arr, clk, ha, hes⟩ := hob
   obtain ⟨r, hr1, hr2⟩ := findNow_of (k := .i64) 0 hes hs
   obtain ⟨i, zv, hi, hzv, rz⟩ := zeroOf_some (c := c) hz
   have hgo : (getObj p.b).run P c.w = .ok (.map arr clk) c.w := by simp [getObj, Sem.run, ha]
   have hck := run_checkKey_int (P := P) hkt arr.isEmpty 9999 (.int .i64 n) ⟨_, _, rfl⟩ c.w
   have hfk : (Instr.findKey kt (.int .i64 n) arr.toList).run P c.w = .ok r c.w := by
    simp [Instr.findKey, run_underlying hkt, hr1]
   unfold Oper.wp
   cases r with
   | none =>
    have hrun : (execOp a.eval o).run P c.w = .ok (.value (if ok then .tuple #[zv, .bool false] else zv)) c.w := by
     simp only [execOp, hop, hvm, rk, Instr.lookup, Sem.run_bind, run_underlying hu, Result.andThen_ok, hgo, Sem.run_pure, hck, hfk, run_zeroValue hi hzv]
    rw [hrun]
    refine hn _ c _ H (Cx.le.refl c) h.heap ?_ hr2
    cases ok
    ·exact rz
    ·simp only [if_true, Rel]
     exact ⟨_, rfl, by simp [RelL, Rel, rz]⟩
   | some iv =>
    obtain ⟨i', v⟩ := iv
    obtain ⟨av, hav, hq⟩ := hr2
    have hrun : (execOp a.eval o).run P c.w = .ok (.value (if ok then .tuple #[v, .bool true] else v)) c.w := by
     simp only [execOp, hop, hvm, rk, Instr.lookup, Sem.run_bind, run_underlying hu, Result.andThen_ok, hgo, Sem.run_pure, hck, hfk]
    rw [hrun]
    refine hn _ c _ H (Cx.le.refl c) h.heap ?_ hq
    cases ok
    ·exact hav
    ·simp only [if_true, Rel]
     exact ⟨_, rfl, by simp [RelL, Rel, hav]⟩
  ·exact hs.elim
 ·exact hs.elim
theorem pickBr_some {j : Int} {Q : Nat → Prop} : ∀ {m k : Nat}, pickBr j Q k m → ∃ i : Nat, j = i ∧ k ≤ i ∧ i < k + m ∧ Q i
 | 0, _, h => h.elim
 | m + 1, k, h => by
  unfold pickBr at h
  rw [br_iff] at h
  cases hb : ieq j (ofN k) with
  | true =>
   refine ⟨k, ?_, Nat.le_refl _, by omega, h.1 hb⟩
   simpa [ieq, ofN] using hb
  | false =>
   obtain ⟨i, h1, h2, h3, h4⟩ := pickBr_some (h.2 hb)
   exact ⟨i, h1, by omega, by omega, h4⟩
theorem arr_sound (h : At P w0 T H c a.tmps g) {t : TypeId} {x i : Operand} {Q : AV → Heap → Prop} (hop : o.op = .indexAddr t x i) (hs : arrOp P T H g t x i Q) {next : Act → World → Prop} {QQ : Exit → Act → World → Prop}
  (hn : ∀ v c' av H', c.le c' → HeapOK w0 H' c' → Rel c' av v → Q av H' → next (a.put o.dst v) c'.w) : o.wp P a c.w next QQ := by
 unfold arrOp at hs
 split at hs
 ·rename_i n e id idx off k j hu hx hj
  split at hs
  ·rename_i sz hsz
   obtain ⟨q, rfl, _, hq, hQ⟩ := pickBr_some hs
   have rx := opd_eq h hx
   have rj := rel_int (opd_eq h hj)
   simp only [Rel] at rx
   obtain ⟨p, hp, hv⟩ := rx
   obtain ⟨ti, d, hi, hd, hsz'⟩ := szOf_some hsz
   have hrun : (execOp a.eval o).run P c.w = .ok (.value (.pointer (some ((⟨p.b, idx * p.sz + off, none⟩ : Addr).add (q * ti.size))))) c.w := by
    simp [execOp, hop, hv, rj, Instr.indexAt, asIntOf, run_underlying hu, run_sizeOf hi, Instr.sureAddr, show q < n by omega]
   unfold Oper.wp
   rw [hrun]
   refine hn _ c _ H (Cx.le.refl c) h.heap ?_ hQ
   simp only [Rel]
   refine ⟨p, hp, ?_⟩
   rw [add_off, hsz', Nat.add_assoc]
  ·exact hs.elim
 ·exact hs.elim
theorem special_sound (hc : CallfOK P callf) (h : At P w0 T H c a.tmps g) {Q : AV → Heap → Prop} (hs : special P callf T H g o Q) {next : Act → World → Prop} {QQ : Exit → Act → World → Prop}
  (hn : ∀ v c' av H', c.le c' → HeapOK w0 H' c' → Rel c' av v → Q av H' → next (a.put o.dst v) c'.w) : o.wp P a c.w next QQ := by
 unfold special at hs
 split at hs
 ·rename_i op t x y yt hop
  split at hs
  ·rename_i ho
   exact eqNil_sound h hop ho hs hn
  ·exact hs.elim
 ·rename_i t m k ok hop
  exact lookup_sound h hop hs hn
 ·rename_i x hop
  exact nextT_sound h hop hs hn
 ·rename_i t x i hop
  exact arr_sound h hop hs hn
 ·rename_i cl hop
  split at hs
  ·rename_i k args hk
   obtain ⟨hent, hcalls⟩ := hc k args H Q hs
   obtain ⟨vs, h3, h4⟩ := run_call h hop hk hent
   unfold Oper.wp
   rw [h3]
   refine Calls.mono (hcalls w0 c vs h.heap h4) ?_
   rintro en w' ⟨v, c', av, H', rfl, rfl, e1, e2, e3, e4⟩
   exact hn v c' av H' e1 e2 e3 e4
  ·exact hs.elim
 ·exact hs.elim
theorem runPlain_sound (hS : ∀ k s, S k = some s → SummOK P k s) (hc : CallfOK P callf) {st : St} {Q : St → Prop} (h : At P w0 st.T st.H c a.tmps g) (hs : runPlain P S callf g o st Q) {next : Act → World → Prop} {QQ : Exit → Act → World → Prop}
  (hn : ∀ v c' av H', c.le c' → HeapOK w0 H' c' → Rel c' av v → Q ⟨setT st.T o.dst av, H'⟩ → next (a.put o.dst v) c'.w) : o.wp P a c.w next QQ := by
 unfold runPlain at hs
 split at hs
 ·rename_i e he
  obtain ⟨h1, h2⟩ := must_iff.1 hs
  exact opEff_sound hS h (fresh_len _ _ (Nat.le_refl _) (by omega)) (fun _ => fresh_len _) he h1 next QQ fun v c' h3 h4 h5 => hn v c' _ _ h3 h4 h5 h2
 ·exact special_sound hc h hs hn
theorem wanted_iff {ops : Array Oper} {j jt : Nat} {want : Bool} (hg : o.guard = some (j, want)) (hj : guardTmp ops j = some jt) : Region.wanted o (yielded ops a.tmps) = true ↔ a.tmps[jt]? = some (.bool want) := by
 unfold guardTmp at hj
 simp only [Region.wanted, hg, yielded, hj, Option.bind_some]
 cases ht : a.tmps[jt]? with
 | none => simp
 | some u => cases u <;> simp
theorem guardB_spec (h : TOK c T a.tmps) : ∀ (n jt : Nat) (want q : Bool), guardB T n jt want = some q → (a.tmps[jt]? = some (.bool want) ↔ q = true)
 | 0, _, _, _, hq => by cases hq
 | n + 1, jt, want, q, hq => by
  unfold guardB at hq
  split at hq
  ·rename_i b hb
   cases hq
   rw [tok_bool h hb, isB_iff]
   simp
  ·rename_i j b p hb
   split at hq
   ·rename_i q' hq'
    cases hq
    have ih := guardB_spec h n j b q' hq'
    have hlt : jt < T.length := by
     rcases Nat.lt_or_ge jt T.length with h1 | h1
     ·exact h1
     ·simp [List.getD, List.getElem?_eq_none h1] at hb
    obtain ⟨u, hu, hr⟩ := h.2 jt (.cond j b (.bool p)) (by rw [List.getD_eq_getElem?_getD] at hb; rw [List.getElem?_eq_getElem hlt] at hb ⊢; simpa using hb)
    simp only [RelT] at hr
    rw [hu]
    by_cases hjb : a.tmps[j]? = some (.bool b)
    ·rw [ih.1 hjb, rel_bool (c := c) (hr.1 hjb)]
     simp [band, isB_iff]
    ·rw [hr.2 hjb]
     have : q' = false := by
      cases q' with
      | false => rfl
      | true => exact absurd (ih.2 rfl) hjb
     simp [this, band, undef]
   ·cases hq
  ·cases hq
theorem runOps_sound (hS : ∀ k s, S k = some s → SummOK P k s) (hc : CallfOK P callf) {ops : Array Oper} {QQ : Exit → Act → World → Prop} {Q : St → Prop} :
  ∀ (l : List Oper) (st : St) (c : Cx) (a : Act), runOps P S callf ops l st Q → StOK w0 st c a → (∀ st' c' a', StOK w0 st' c' a' → c.le c' → Q st' → QQ .normal a' c'.w) → wpList P ops QQ l a c.w
 | [], st, c, a, hs, h, hn => hn st c a h (Cx.le.refl c) hs
 | o :: l, st, c, a, hs, h, hn => by
  have go : ∀ (T' : List AV) (v : Value) (c' : Cx) (av : AV) (H' : Heap), TOK c T' a.tmps → c.le c' → HeapOK w0 H' c' → (∀ i, o.dst = some i → i < a.tmps.size → RelT c' (a.put o.dst v).tmps av v) → runOps P S callf ops l ⟨setT T' o.dst av, H'⟩ Q → wpList P ops QQ l (a.put o.dst v) c'.w := by
   intro T' v c' av H' ht hle hh hav hrest
   refine runOps_sound hS hc l _ c' _ hrest ⟨hh, (ht.mono hle).put hav, by rw [put_defers]; exact h.plain⟩ ?_
   intro st'' c'' a'' h1 h2 h3
   exact hn st'' c'' a'' h1 (hle.trans h2) h3
  simp only [runOps, runOp] at hs
  unfold wpList
  cases hg : o.guard with
  | none =>
   simp only [hg] at hs
   rw [if_pos (by simp [Region.wanted, hg])]
   refine .inl (runPlain_sound hS hc (g := none) ⟨h.heap, h.tok, by simp⟩ hs ?_)
   intro v c' av H' h1 h2 h3 h4
   exact go st.T v c' av H' h.tok h1 h2 (fun _ _ _ => relT_of_rel h3) h4
  | some gw =>
   obtain ⟨j, want⟩ := gw
   simp only [hg] at hs
   split at hs
   ·exact hs.elim
   ·rename_i jt hj
    split at hs
    ·exact hs.elim
    ·rename_i hdj
     split at hs
     ·rename_i q hq
      have hsp := guardB_spec h.tok 6 jt want q hq
      have hwi := wanted_iff (a := a) hg hj
      cases hqb : q with
      | true =>
       subst hqb
       have hbt := hsp.2 rfl
       rw [if_pos (hwi.2 hbt)]
       split at hs
       ·rename_i obl v rd he
        obtain ⟨h1, h2⟩ := must_iff.1 hs
        refine .inl (opEff_sound hS (g := some (jt, want)) ⟨h.heap, h.tok, by rintro j' b' e; cases e; exact hbt⟩ (fresh_len _ _ (Nat.le_refl _) (by omega)) (fun _ => fresh_len _) he ?_ _ _ ?_)
        ·intro hf
         apply h1
         simp only at hf
         rw [hf]
         simp [bimp]
        ·intro u c' h3 h4 h5
         refine go st.T u c' (.cond jt want v) st.H h.tok h3 h4 (fun i hi hlt => ⟨fun _ => h5, fun hn => absurd ?_ hn⟩) h2
         have hne : i ≠ jt := by
          rintro rfl
          exact hdj hi
         rw [hi]
         simp only [Act.put]
         rw [Array.getElem?_setIfInBounds_ne hne, hbt]
       ·obtain ⟨h1, _⟩ := br_iff.1 hs
        refine .inl (runPlain_sound hS hc (g := some (jt, want)) (st := ⟨st.T.set jt (.bool want), st.H⟩) ⟨h.heap, h.tok.refine hbt, by rintro j' b' e; cases e; exact hbt⟩ (h1 rfl) ?_)
        intro v c' av H' h3 h4 h5 h6
        exact go _ v c' av H' (h.tok.refine hbt) h3 h4 (fun _ _ _ => relT_of_rel h5) h6
      | false =>
       subst hqb
       have hbt : a.tmps[jt]? ≠ some (.bool want) := fun e => by simpa using hsp.1 e
       rw [if_neg (fun e => hbt (hwi.1 e))]
       split at hs
       ·rename_i obl v rd he
        obtain ⟨_, h2⟩ := must_iff.1 hs
        refine go st.T undef c _ st.H h.tok (Cx.le.refl c) h.heap ?_ h2
        intro i hi hlt
        refine ⟨fun hjb => absurd ?_ hbt, fun _ => rfl⟩
        have hne : i ≠ jt := by
         rintro rfl
         exact hdj hi
        rw [hi] at hjb
        simp only [Act.put] at hjb
        rw [Array.getElem?_setIfInBounds_ne hne] at hjb
        exact hjb
       ·obtain ⟨_, h2⟩ := br_iff.1 hs
        have hT : TOK c (notT st.T jt want) a.tmps := by
         unfold notT
         split
         ·rename_i b hb
          have h5 := tok_bool h.tok hb
          have hb' : b = !want := by
           cases b <;> cases want <;> simp_all
          exact h.tok.refine (b := !want) (by rw [h5, hb'])
         ·exact h.tok
        exact go _ undef c .top st.H hT (Cx.le.refl c) h.heap (fun _ _ _ => by simp [RelT, Rel]) (h2 rfl)
     ·exact hs.elim
end
end Go.Own
end
