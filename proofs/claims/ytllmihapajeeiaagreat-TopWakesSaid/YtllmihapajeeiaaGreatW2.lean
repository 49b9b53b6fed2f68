/- What stands behind it, part 2. -/
import Derived.Test.YtllmihapajeeiaaGreatW1
import Derived.IntWalk
import Derived.Great.BuildSlice
set_option linter.unusedVariables false
set_option linter.unusedSimpArgs false
section
namespace Go.Own
open Go
section
variable {P : Program} {w0 : Base} {T : List AV} {H : Heap} {c : Cx} {a : Act} {g : Option (Nat × Bool)} {o : Oper}
theorem value_of (h : At P w0 T H c a.tmps g) {s : Sem Value} {u : Value} {v : AV} (he : execOp a.eval o = (do pure (.value (← s)))) (hr : s.run P c.w = .ok u c.w) (hv : Rel c v u) : Goes P o a w0 H c v :=
 goes_value h (v := u) (by rw [he]; simp only [Sem.run_bind, hr, Result.andThen_ok, Sem.run_pure]) hv
theorem pick_goes (h : At P w0 T H c a.tmps g) {j : Nat} {x y : Operand} {b : Bool} (ho : o.op = .pick (.tmp j) x y) (hj : plainUnder g (T.getD j .top) = .bool b) {v : AV}
  (hx : ∀ u1 u2, (b = true → Rel c (opd P T (some (j, true)) o.type x) u1) → (b = false → Rel c (opd P T (some (j, false)) o.type y) u2) → Rel c v (if b then u1 else u2)) : Goes P o a w0 H c v := by
 have hr := plainUnder_rel h.guard (h.tok.get j)
 rw [hj] at hr
 have hb : a.eval (.tmp j) = .bool b := rel_bool (c := c) hr
 have hjt : ∀ q : Bool, b = q → a.tmps[j]? = some (.bool q) := by
  intro q hq
  have hb' : a.tmps.getD j undef = .bool b := hb
  rw [Array.getD_eq_getD_getElem?] at hb'
  cases ht : a.tmps[j]? with
  | none => rw [ht] at hb'; cases hb'
  | some u => rw [ht] at hb'; simp at hb'; rw [hb', hq]
 refine goes_value h (v := if b then a.eval x else a.eval y) ?_ ?_
 ·simp only [execOp, ho, hb, Sem.run_bind]
  simp [asBool]
 ·refine hx _ _ (fun hq => ?_) (fun hq => ?_)
  ·have h' : At P w0 T H c a.tmps (some (j, true)) := ⟨h.heap, h.tok, by rintro j' b' he; cases he; exact hjt true hq⟩
   exact opd_rel h' o.type x
  ·have h' : At P w0 T H c a.tmps (some (j, false)) := ⟨h.heap, h.tok, by rintro j' b' he; cases he; exact hjt false hq⟩
   exact opd_rel h' o.type y
theorem not_goes (h : At P w0 T H c a.tmps g) {t : TypeId} {x : Operand} {b : Bool} (ho : o.op = .unOp .not t x) (hx : opd P T g o.type x = .bool b) : Goes P o a w0 H c (.bool (bnot b)) := by
 have r := rel_bool (opd_eq h hx)
 refine value_of h (u := .bool (bnot b)) (s := Op.unary .not (a.eval x)) (by simp only [execOp, ho]) ?_ (by simp [Rel])
 rw [r]
 simp [Op.unary, bnot]
theorem neg_goes (h : At P w0 T H c a.tmps g) {t : TypeId} {x : Operand} {k : IntKind} {n : Int} (ho : o.op = .unOp .neg t x) (hx : opd P T g o.type x = .int k n) : Goes P o a w0 H c (.int k (ineg k n)) := by
 have r := rel_int (opd_eq h hx)
 refine value_of h (u := .int k (ineg k n)) (s := Op.unary .neg (a.eval x)) (by simp only [execOp, ho]) ?_ (by simp [Rel])
 rw [r]
 simp [Op.unary, Op.intArith, ineg]
theorem convert_goes (h : At P w0 T H c a.tmps g) {s d : TypeId} {x : Operand} {k k' k2 : IntKind} {n : Int} (ho : o.op = .convert s d x) (hs : P.underlying s = some (.int k2)) (hd : P.underlying d = some (.int k)) (hx : opd P T g s x = .int k' n) : Goes P o a w0 H c (.int k (icnv k n)) := by
 have r := rel_int (opd_eq h hx)
 refine value_of h (u := .int k (icnv k n)) (s := convert s d (a.eval x)) (by simp only [execOp, ho]) ?_ (by simp [Rel])
 rw [r]
 simp [convert, run_underlying hs, run_underlying hd, Conv.intToInt, icnv]
theorem iface_goes (h : At P w0 T H c a.tmps g) {t : TypeId} {x : Operand} {d : TypeDesc} {v : AV} (ho : o.op = .makeInterface t x) (hd : P.underlying t = some d) (hi : ∀ ms, d ≠ .interface ms) (hx : opd P T g t x = v) : Goes P o a w0 H c (.ifc t v) := by
 refine value_of h (u := .iface t (a.eval x)) (s := Instr.makeInterface t (a.eval x)) (by simp only [execOp, ho]) ?_ (by simp only [Rel]; exact ⟨_, rfl, opd_eq h hx⟩)
 simp only [Instr.makeInterface, Sem.run_bind, run_underlying hd, Result.andThen_ok]
 cases d <;> first | (exact absurd rfl (hi _)) | rfl
theorem evs_rel (h : At P w0 T H c a.tmps g) (t : TypeId) (xs : Array Operand) : RelL c (xs.toList.map (opd P T g t)) (xs.map a.eval).toList := by
 rw [Array.toList_map]
 induction xs.toList with
 | nil => simp [RelL]
 | cons x l ih => simp only [List.map_cons, RelL]; exact ⟨opd_rel h t x, ih⟩
theorem makeFunc_goes (h : At P w0 T H c a.tmps g) {k : FuncId} {xs ys : Array Operand} (ho : o.op = .makeFunc (.func k) xs ys) : Goes P o a w0 H c (.fn (.func k) (xs.toList.map (opd P T g 0)) (ys.toList.map (opd P T g 0))) := by
 refine value_of h (u := .func (.func k) (xs.map a.eval) (ys.map a.eval)) (s := Instr.makeFunc (.func k) (xs.map a.eval) (ys.map a.eval)) (by simp only [execOp, ho]) rfl ?_
 simp only [Rel]
 exact ⟨_, _, rfl, evs_rel h 0 xs, evs_rel h 0 ys⟩
theorem fieldOf_some {s : TypeId} {f off : Nat} {t : TypeId} (h : fieldOf P s f = some (off, t)) : ∃ fs fd i, P.underlying s = some (.struct fs) ∧ fs[f]? = some fd ∧ fd.offset = off ∧ fd.type = t ∧ P.info? t = some i ∧ i.size ≠ 0 := by
 unfold fieldOf at h
 split at h
 ·rename_i fs hu
  split at h
  ·rename_i fd hf
   split at h
   ·cases h
   ·rename_i hc
    cases h
    cases hi : P.info? fd.type with
    | none => simp [Program.cellsOf, hi] at hc
    | some i => exact ⟨fs, fd, i, hu, hf, rfl, rfl, rfl, by simpa [Program.cellsOf, hi] using hc⟩
  ·cases h
 ·cases h
theorem run_fieldAt {s : TypeId} {f off : Nat} {t : TypeId} (h : fieldOf P s f = some (off, t)) (ad : Addr) (w : World) : (Instr.fieldAt s (.pointer (some ad)) f).run P w = .ok (.pointer (some (ad.add off))) w := by
 obtain ⟨fs, fd, i, hu, hf, rfl, rfl, hi, hz⟩ := fieldOf_some h
 simp [Instr.fieldAt, run_underlying hu, hf, Instr.sureAddr, fieldPlace, run_sizeOf hi, hz]
theorem add_off (b q n : Nat) : (⟨b, q, none⟩ : Addr).add n = ⟨b, q + n, none⟩ := by
 unfold Addr.add
 split <;> simp_all
theorem add_block (ad : Addr) (n : Nat) (h : ad.spot = none) : ad.add n = ⟨ad.block, ad.off + n, none⟩ := by
 cases ad
 simp only at h
 subst h
 exact add_off _ _ _
theorem fieldAddr_ptr (h : At P w0 T H c a.tmps g) {s : TypeId} {x : Operand} {f off : Nat} {t : TypeId} {id idx q : Nat} (ho : o.op = .fieldAddr s x f) (hf : fieldOf P s f = some (off, t)) (hx : opd P T g 0 x = .ptr id idx q) : Goes P o a w0 H c (.ptr id idx (q + off)) := by
 have r := opd_eq h hx
 simp only [Rel] at r
 obtain ⟨p, hp, hv⟩ := r
 refine value_of h (u := .pointer (some ⟨p.b, idx * p.sz + (q + off), none⟩)) (s := Instr.fieldAt s (a.eval x) f) (by simp only [execOp, ho]) ?_ (by simp only [Rel]; exact ⟨p, hp, rfl⟩)
 rw [hv, run_fieldAt hf, add_off, Nat.add_assoc]
theorem fieldAddr_ip (h : At P w0 T H c a.tmps g) {s : TypeId} {x : Operand} {f off : Nat} {t : TypeId} {cs : List AV} (ho : o.op = .fieldAddr s x f) (hf : fieldOf P s f = some (off, t)) (hx : opd P T g 0 x = .ip cs) : Goes P o a w0 H c (.ip (cs.drop off)) := by
 have r := opd_eq h hx
 simp only [Rel] at r
 obtain ⟨ad, us, hv, hs, hS, hr, hc⟩ := r
 refine value_of h (u := .pointer (some (ad.add off))) (s := Instr.fieldAt s (a.eval x) f) (by simp only [execOp, ho]) (by rw [hv, run_fieldAt hf]) ?_
 simp only [Rel]
 rw [add_block _ _ hs]
 refine ⟨_, us.drop off, rfl, rfl, hS, hr.drop off, fun j u hj => ?_⟩
 rw [List.getElem?_drop] at hj
 simpa [Nat.add_assoc] using hc _ u hj
theorem wrap_rel {t : TypeId} {cs : List AV} {us : List Value} {v : AV} (hw : wrap P t cs = some v) (hr : RelL c cs us) : Rel c v (valOf P t us) := by
 unfold wrap at hw
 split at hw
 ·rename_i hA
  cases hw
  simp only [valOf, hA, if_true, Rel]
  exact ⟨_, rfl, by simpa using hr⟩
 ·rename_i hA
  split at hw
  ·rename_i x
   cases hw
   cases us with
   | nil => simp [RelL] at hr
   | cons u us =>
    simp only [RelL] at hr
    simp only [valOf, hA, if_false, List.headD_cons]
    exact hr.1
  ·cases hw
theorem wrap_one {t : TypeId} {cs : List AV} {v : AV} (hw : wrap P t cs = some v) (hA : isAggT P t = false) : cs.length = 1 := by
 unfold wrap at hw
 rw [if_neg (by simp [hA])] at hw
 split at hw
 ·rfl
 ·cases hw
theorem readCells_rel (hh : HeapOK w0 H c) {n : Nat} {x : AV} {b : Option Bool} {cs : List AV} {rd : List Nat} {v : Value} (hx : readCells H n x = some (b, cs, rd)) (hb : b ≠ some false) (hr : Rel c x v) :
  ∃ ad us, v = .pointer (some ad) ∧ ad.spot = none ∧ us.length = n ∧ RelL c cs us ∧ ∀ (j : Nat) (u : Value), us[j]? = some u → c.w.cell? (ad.add j) = some u := by
 unfold readCells at hx
 split at hx
 ·rename_i cells
  split at hx
  ·cases hx
  ·rename_i hl
   cases hx
   simp only [Rel] at hr
   obtain ⟨ad, us, rfl, hs, hS, hrl, hc⟩ := hr
   have := hrl.length
   refine ⟨ad, us.take n, rfl, hs, by simp; omega, hrl.take n, fun j u hj => ?_⟩
   rw [add_block _ _ hs]
   rw [List.getElem?_take] at hj
   split at hj
   ·exact hc j u hj
   ·cases hj
 ·rename_i id idx off
  simp only [Rel] at hr
  obtain ⟨p, hp, rfl⟩ := hr
  split at hx
  ·rename_i cells hid
   split at hx
   ·cases hx
   ·rename_i hl
    split at hx
    ·cases hx
     obtain ⟨p', hp', hob⟩ := hh.obj id _ hid
     rw [hp] at hp'
     cases hp'
     obtain ⟨arr, t, ha, hrl⟩ := hob
     have hlen := hrl.length
     refine ⟨_, (arr.toList.drop off).take n, rfl, rfl, by simp at hlen ⊢; omega, (hrl.drop off).take n, fun j u hj => ?_⟩
     rw [add_off]
     rw [List.getElem?_take] at hj
     split at hj
     ·rw [List.getElem?_drop] at hj
      simp only [World.cell?, ha, Nat.zero_mul, Nat.zero_add]
      simpa using hj
     ·cases hj
    ·cases hx
  ·rename_i e k cols hid
   split at hx
   ·cases hx
   ·rename_i hl
    cases hx
    have hlt : idx < k := by
     rcases Nat.lt_or_ge idx k with h1 | h1
     ·exact h1
     ·exact absurd (by simp [nlt]; omega) hb
    obtain ⟨p', hp', hob⟩ := hh.obj id _ hid
    rw [hp] at hp'
    cases hp'
    obtain ⟨h1, h2, h3, h4, h5, h6⟩ := hob
    obtain ⟨arr, t, ha, hs, hx⟩ := h6 (by omega)
    have hrow : RelL c (cols.map (·.get idx)) ((arr.toList.drop (idx * p.sz)).take p.sz) := by
     have hmul : idx * p.sz + p.sz ≤ p.cap * p.sz := by
      rw [← Nat.succ_mul]
      exact Nat.mul_le_mul_right _ (by omega)
     refine RelL.of_get (by simp; omega) fun j x hj => ?_
     rw [List.getElem?_map] at hj
     cases hcj : cols[j]? with
     | none => simp [hcj] at hj
     | some col =>
      simp [hcj] at hj
      subst hj
      have hjl : j < p.sz := by
       rw [h2]
       exact (List.getElem?_eq_some_iff.1 hcj).1
      obtain ⟨u, hu, hcu⟩ := hx idx hlt j col hcj
      refine ⟨u, ?_, ?_⟩
      ·rw [List.getElem?_take, if_pos hjl, List.getElem?_drop]
       simpa using hu
      ·cases col with
       | int k l => simpa [Col.get, Rel, ColIs] using hcu
       | bool l => simpa [Col.get, Rel, ColIs] using hcu
       | ints k l =>
        simp only [ColIs] at hcu
        obtain ⟨base, cap, rfl, hcap, hin⟩ := hcu
        simp only [Col.get, Rel]
        refine ⟨base, cap, rfl, hcap, by simp [Col.len, lenI], ?_⟩
        rcases hin with hin | ⟨ad, rfl, hs', hS', hin⟩
        ·exact .inl hin
        ·refine .inr ⟨ad, rfl, hs', hS', fun i hi j' col' hj' => ?_⟩
         cases j' with
         | zero =>
          simp at hj'
          subst hj'
          exact ⟨_, by simpa using hin i hi, rfl⟩
         | succ j' => simp at hj'
    refine ⟨_, (((arr.toList.drop (idx * p.sz)).take p.sz).drop off).take n, rfl, rfl, ?_, (hrow.drop off).take n, fun j u hj => ?_⟩
    ·have hmul : idx * p.sz + p.sz ≤ p.cap * p.sz := by
      rw [← Nat.succ_mul]
      exact Nat.mul_le_mul_right _ (by omega)
     simp at hl ⊢
     omega
    ·rw [add_off]
     rw [List.getElem?_take] at hj
     split at hj
     ·rw [List.getElem?_drop, List.getElem?_take] at hj
      split at hj
      ·rw [List.getElem?_drop] at hj
       simp only [World.cell?, ha]
       simpa [Nat.add_assoc] using hj
      ·cases hj
     ·cases hj
  ·cases hx
 ·cases hx
theorem run_loadVar {t : TypeId} {n : Nat} (hs : szOf P t = some n) {ad : Addr} {us : List Value} (hl : us.length = n) (h1 : isAggT P t = false → n = 1) {w : World} (hc : ∀ (j : Nat) (u : Value), us[j]? = some u → w.cell? (ad.add j) = some u) : (loadVar t ad).run P w = .ok (valOf P t us) w := by
 obtain ⟨i, d, hi, hd, rfl⟩ := szOf_some hs
 simp only [loadVar, Sem.run_bind, run_isAgg hd, Result.andThen_ok]
 cases hA : isAggT P t with
 | true =>
  have := run_loadCells_list (P := P) w ad us hc
  rw [hl] at this
  simp only [if_true, Sem.run_bind, run_sizeOf hi, Result.andThen_ok, this, Sem.run_pure, valOf, hA]
 | false =>
  have hn := h1 hA
  cases us with
  | nil => simp at hl; omega
  | cons u us =>
   have hu := hc 0 u rfl
   have e : ad.add 0 = ad := by simp [Addr.add]
   rw [e] at hu
   simp only [Bool.false_eq_true, if_false, run_load, hu, valOf, hA, List.headD_cons]
theorem load_goes (h : At P w0 T H c a.tmps g) {t : TypeId} {x : Operand} {n : Nat} {b : Option Bool} {cs : List AV} {rd : List Nat} {v : AV} (ho : o.op = .load t x) (hs : szOf P t = some n) (hb : b ≠ some false)
  (hx : readCells H n (opd P T g 0 x) = some (b, cs, rd)) (hw : wrap P t cs = some v) : Goes P o a w0 H c v := by
 obtain ⟨ad, us, hv, _, hl, hr, hc⟩ := readCells_rel h.heap hx hb (opd_rel h 0 x)
 refine value_of h (u := valOf P t us) (s := Instr.loadAt t (a.eval x)) (by simp only [execOp, ho]) ?_ (wrap_rel hw hr)
 have h1 : isAggT P t = false → n = 1 := fun hA => by have := wrap_one hw hA; have := hr.length; omega
 rw [hv]
 simp only [Instr.loadAt, Instr.sureAddr, Sem.run_bind, Sem.run_pure, Result.andThen_ok]
 exact run_loadVar hs hl h1 hc
theorem field_goes (h : At P w0 T H c a.tmps g) {s t : TypeId} {x : Operand} {f off n : Nat} {cs : List AV} {v : AV} (ho : o.op = .field s x f) (hf : fieldOf P s f = some (off, t)) (hs : szOf P t = some n) (hx : opd P T g s x = .agg cs)
  (hl : off + n ≤ cs.length) (hw : wrap P t ((cs.drop off).take n) = some v) : Goes P o a w0 H c v := by
 have r := opd_eq h hx
 simp only [Rel] at r
 obtain ⟨vs, hv, hr⟩ := r
 have hlen := hr.length
 refine value_of h (u := valOf P t ((vs.toList.drop off).take n)) (s := Instr.field s (a.eval x) f) (by simp only [execOp, ho]) ?_ (wrap_rel hw ((hr.drop off).take n))
 obtain ⟨fs, fd, i, hu, hfd, rfl, rfl, _, _⟩ := fieldOf_some hf
 have h1 : isAggT P fd.type = false → n = 1 := fun hA => by have := wrap_one hw hA; simp at this hlen; omega
 rw [hv]
 simp only [Instr.field, Sem.run_bind, run_underlying hu, Result.andThen_ok, hfd, asAgg, Sem.run_pure]
 exact run_part hs vs fd.offset (by simp at hlen; omega) h1 c.w
theorem extract_goes (h : At P w0 T H c a.tmps g) {x : Operand} {i : Nat} {vs : List AV} {v : AV} (ho : o.op = .extract x i) (hx : opd P T g 0 x = .tup vs) (hi : vs[i]? = some v) : Goes P o a w0 H c v := by
 have r := opd_eq h hx
 simp only [Rel] at r
 obtain ⟨us, hv, hr⟩ := r
 obtain ⟨u, hu, hru⟩ := hr.get hi
 refine value_of h (u := u) (s := Instr.extract (a.eval x) i) (by simp only [execOp, ho]) ?_ hru
 rw [hv]
 have : us[i]? = some u := by simpa using hu
 simp [Instr.extract, this]
theorem typeAssert_goes (h : At P w0 T H c a.tmps g) {x : Operand} {xt t : TypeId} {d : TypeDesc} {v : AV} (ho : o.op = .typeAssert x xt t false) (hd : P.underlying t = some d) (hi : ∀ ms, d ≠ .interface ms) (hx : opd P T g 0 x = .ifc t v) : Goes P o a w0 H c v := by
 have r := opd_eq h hx
 simp only [Rel] at r
 obtain ⟨u, hv, hr⟩ := r
 refine value_of h (u := u) (s := Instr.typeAssert (a.eval x) xt t false) (by simp only [execOp, ho]) ?_ hr
 rw [hv]
 simp only [Instr.typeAssert, Sem.run_bind, run_underlying hd, Result.andThen_ok]
 cases d <;> first | (exact absurd rfl (hi _)) | simp
theorem nilCheck_goes (h : At P w0 T H c a.tmps g) {x : Operand} {v : AV} (ho : o.op = .nilCheck x) (hx : opd P T g 0 x = v) (hk : (∃ id idx off, v = .ptr id idx off) ∨ (∃ cs, v = .ip cs) ∨ ∃ k xs ys, v = .fn (.func k) xs ys) : Goes P o a w0 H c v := by
 have r := opd_eq h hx
 refine goes_value h (v := a.eval x) ?_ r
 rcases hk with ⟨id, idx, off, rfl⟩ | ⟨cs, rfl⟩ | ⟨k, xs, ys, rfl⟩
 ·simp only [Rel] at r
  obtain ⟨p, _, hv⟩ := r
  simp [execOp, ho, hv]
 ·simp only [Rel] at r
  obtain ⟨ad, us, hv, _⟩ := r
  simp [execOp, ho, hv]
 ·simp only [Rel] at r
  obtain ⟨us, vs, hv, _⟩ := r
  simp [execOp, ho, hv]
theorem rowType_some {t e : TypeId} (h : rowType P t = some e) : P.underlying t = some (.slice e) := by
 unfold rowType at h
 split at h
 ·rename_i e' hu
  cases h
  exact hu
 ·cases h
theorem run_indexAt {t e : TypeId} {i : TypeInfo} (ht : P.underlying t = some (.slice e)) (hi : P.info? e = some i) {k : IntKind} {n : Int} {len cap : Nat} {ad : Addr} (h0 : 0 ≤ n) (h1 : n < len) (w : World) :
  (Instr.indexAt t (.slice (some ad) len cap) (.int k n)).run P w = .ok (.pointer (some (ad.add (n.toNat * i.size)))) w := by
 simp [Instr.indexAt, asIntOf, run_underlying ht, h0, h1, run_sizeOf hi]
theorem index_sl (h : At P w0 T H c a.tmps g) {t e : TypeId} {x y : Operand} {n : Nat} {cols : List Col} {k : IntKind} {i : Int} (ho : o.op = .indexAddr t x y) (ht : rowType P t = some e) (hs : szOf P e = some cols.length) (hx : opd P T g t x = .sl n cols) (hy : opd P T g 3 y = .int k i)
  (h0 : 0 ≤ i) (h1 : i < n) : Goes P o a w0 H c (.ip (cols.map (·.get (nOf i)))) := by
 have r := opd_eq h hx
 have ri := rel_int (opd_eq h hy)
 simp only [Rel] at r
 obtain ⟨base, cap, hv, _, _, hr⟩ := r
 obtain ⟨ti, d, hi, hd, hsz⟩ := szOf_some hs
 have hu := rowType_some ht
 rcases hr with hr | ⟨ad, rfl, hsp, hS, hc⟩
 ·omega
 have hsel : ∀ (j : Nat) (col : Col), cols[j]? = some col → ∃ u, cellIs c.w ad.block (ad.off + (i.toNat * cols.length + j)) u ∧ ColIs c col i.toNat u := fun j col hj => hc i.toNat (by omega) j col hj
 have key : ∀ (cols' : List Col) (q : Nat), (∀ (j : Nat) (col : Col), cols'[j]? = some col → ∃ u, cellIs c.w ad.block (q + j) u ∧ ColIs c col i.toNat u) → ∃ us, RelL c (cols'.map (·.get (nOf i))) us ∧ ∀ (j : Nat) (u : Value), us[j]? = some u → cellIs c.w ad.block (q + j) u := by
  intro cols'
  induction cols' with
  | nil => exact fun q _ => ⟨[], by simp [RelL], by simp⟩
  | cons col cols' ih =>
   intro q hq
   obtain ⟨u, hu1, hu2⟩ := hq 0 col rfl
   obtain ⟨us, h1', h2'⟩ := ih (q + 1) (fun j col' hj => by simpa [Nat.add_assoc, Nat.add_comm 1 j] using hq (j + 1) col' (by simpa using hj))
   refine ⟨u :: us, ?_, ?_⟩
   ·simp only [List.map_cons, RelL]
    refine ⟨?_, h1'⟩
    cases col with
    | int k l => simpa [Col.get, Rel, ColIs, nOf] using hu2
    | bool l => simpa [Col.get, Rel, ColIs, nOf] using hu2
    | ints k l =>
     simp only [ColIs] at hu2
     obtain ⟨base, cap, rfl, hcap, hin⟩ := hu2
     simp only [Col.get, Rel, nOf]
     refine ⟨base, cap, rfl, hcap, by simp [Col.len, lenI], ?_⟩
     rcases hin with hin | ⟨ad', rfl, hs', hS', hin⟩
     ·exact .inl hin
     ·refine .inr ⟨ad', rfl, hs', hS', fun i' hi' j' col' hj' => ?_⟩
      cases j' with
      | zero =>
       simp at hj'
       subst hj'
       exact ⟨_, by simpa using hin i' hi', rfl⟩
      | succ j' => simp at hj'
   ·intro j u' hj
    cases j with
    | zero => simp at hj; subst hj; simpa using hu1
    | succ j => simpa [Nat.add_assoc, Nat.add_comm 1 j] using h2' j u' (by simpa using hj)
 obtain ⟨us, hru, hcu⟩ := key cols (ad.off + i.toNat * cols.length) (fun j col hj => by simpa [Nat.add_assoc] using hsel j col hj)
 refine value_of h (u := .pointer (some (ad.add (i.toNat * ti.size)))) (s := Instr.indexAt t (a.eval x) (a.eval y)) (by simp only [execOp, ho]) (by rw [hv, ri]; exact run_indexAt hu hi h0 h1 c.w) ?_
 simp only [Rel]
 rw [add_block _ _ hsp, hsz]
 exact ⟨_, us, rfl, rfl, hS, hru, hcu⟩
theorem index_full (h : At P w0 T H c a.tmps g) {t e e' : TypeId} {x y : Operand} {id n : Nat} {cols : List Col} {k : IntKind} {i : Int} (ho : o.op = .indexAddr t x y) (ht : rowType P t = some e) (hs : szOf P e = some cols.length) (hid : H.at id = some (.row e' n cols)) (hx : opd P T g t x = .full id) (hy : opd P T g 3 y = .int k i)
  (h0 : 0 ≤ i) (h1 : i < n) : Goes P o a w0 H c (.ptr id (nOf i) 0) := by
 have r := opd_eq h hx
 have ri := rel_int (opd_eq h hy)
 simp only [Rel] at r
 obtain ⟨p, ad, hp, hv, hca⟩ := r
 obtain ⟨p', hp', hob⟩ := h.heap.obj id _ hid
 rw [hp] at hp'
 cases hp'
 obtain ⟨q1, q2, q3, _⟩ := hob
 obtain ⟨ti, d, hi, hd, hsz⟩ := szOf_some hs
 have hu := rowType_some ht
 have hca' := hca (by omega)
 subst hca'
 refine value_of h (u := .pointer (some ((⟨p.b, 0, none⟩ : Addr).add (i.toNat * ti.size)))) (s := Instr.indexAt t (a.eval x) (a.eval y)) (by simp only [execOp, ho]) (by rw [hv, ri]; exact run_indexAt hu hi h0 (by omega) c.w) ?_
 simp only [Rel]
 rw [add_off, hsz, ← q2]
 exact ⟨p, hp, by simp [nOf]⟩
theorem index_osl (h : At P w0 T H c a.tmps g) {t e e' : TypeId} {x y : Operand} {id off n m : Nat} {cols : List Col} {k : IntKind} {i : Int} (ho : o.op = .indexAddr t x y) (ht : rowType P t = some e) (hs : szOf P e = some cols.length) (hid : H.at id = some (.row e' m cols)) (hx : opd P T g t x = .osl id off n) (hy : opd P T g 3 y = .int k i)
  (h0 : 0 ≤ i) (h1 : i < n) : Goes P o a w0 H c (.ptr id (nAdd off (nOf i)) 0) := by
 have r := opd_eq h hx
 have ri := rel_int (opd_eq h hy)
 simp only [Rel] at r
 obtain ⟨p, ad, hp, hv, hcap, hcap', hca⟩ := r
 obtain ⟨p', hp', hob⟩ := h.heap.obj id _ hid
 rw [hp] at hp'
 cases hp'
 obtain ⟨q1, q2, q3, _⟩ := hob
 obtain ⟨ti, d, hi, hd, hsz⟩ := szOf_some hs
 have hu := rowType_some ht
 have hca' := hca (by omega)
 subst hca'
 refine value_of h (u := .pointer (some ((⟨p.b, off * p.sz, none⟩ : Addr).add (i.toNat * ti.size)))) (s := Instr.indexAt t (a.eval x) (a.eval y)) (by simp only [execOp, ho]) (by rw [hv, ri]; exact run_indexAt hu hi h0 h1 c.w) ?_
 simp only [Rel]
 rw [add_off, hsz, ← q2]
 exact ⟨p, hp, by simp [nOf, nAdd, Nat.add_mul]⟩
end
end Go.Own
end
section
namespace Go.Own
open Go
theorem zipAll_len {α β γ : Type} {f : α → β → Option γ} : ∀ {as : List α} {bs : List β} {cs : List γ}, zipAll f as bs = some cs → as.length = cs.length ∧ bs.length = cs.length
 | [], [], cs, h => by simp only [zipAll, Option.some.injEq] at h; subst h; simp
 | a :: as, b :: bs, cs, h => by
  simp only [zipAll] at h
  split at h
  ·rename_i h1 h2
   cases h
   have := zipAll_len h2
   simp [this.1, this.2]
  ·cases h
 | [], _ :: _, _, h => by simp [zipAll] at h
 | _ :: _, [], _, h => by simp [zipAll] at h
theorem zipAll_get {α β γ : Type} {f : α → β → Option γ} : ∀ {as : List α} {bs : List β} {cs : List γ}, zipAll f as bs = some cs → ∀ {i : Nat} {x : γ}, cs[i]? = some x → ∃ a b, as[i]? = some a ∧ bs[i]? = some b ∧ f a b = some x
 | [], [], cs, h, i, x, hx => by simp only [zipAll, Option.some.injEq] at h; subst h; simp at hx
 | a :: as, b :: bs, cs, h, i, x, hx => by
  simp only [zipAll] at h
  split at h
  ·rename_i c cs' h1 h2
   cases h
   cases i with
   | zero => simp at hx; subst hx; exact ⟨a, b, rfl, rfl, h1⟩
   | succ i => exact zipAll_get h2 (by simpa using hx)
  ·cases h
 | [], _ :: _, _, h, _, _, _ => by simp [zipAll] at h
 | _ :: _, [], _, h, _, _, _ => by simp [zipAll] at h
theorem overL_get {α : Type} (xs ys : List α) (a k : Nat) (h : a ≤ xs.length) : (overL xs a ys)[k]? = if k < a then xs[k]? else if k < a + ys.length then ys[k - a]? else xs[k]? := by
 unfold overL
 have hl : (xs.take a).length = a := by simp; omega
 by_cases h1 : k < a
 ·rw [if_pos h1, List.append_assoc, List.getElem?_append_left (by omega), List.getElem?_take, if_pos h1]
 ·rw [if_neg h1]
  by_cases h2 : k < a + ys.length
  ·rw [if_pos h2, List.getElem?_append_left (by simp; omega), List.getElem?_append_right (by omega), hl]
  ·rw [if_neg h2, List.getElem?_append_right (by simp; omega), List.getElem?_drop]
   congr 1
   simp
   omega
theorem overL_len {α : Type} (xs ys : List α) (a : Nat) (h : a + ys.length ≤ xs.length) : (overL xs a ys).length = xs.length := by
 unfold overL
 simp
 omega
theorem ovr_eq {α : Type} (xs ys : List α) (a : Nat) : ovr xs a ys = overL xs a ys := rfl
theorem idx_inj {s i j i' j' : Nat} (hj : j < s) (hj' : j' < s) (h : i * s + j = i' * s + j') : i = i' ∧ j = j' := by
 have h1 : (i * s + j) / s = i := by rw [Nat.mul_comm, Nat.mul_add_div (by omega), Nat.div_eq_of_lt hj]; omega
 have h2 : (i' * s + j') / s = i' := by rw [Nat.mul_comm, Nat.mul_add_div (by omega), Nat.div_eq_of_lt hj']; omega
 have h3 : (i * s + j) % s = j := by rw [Nat.mul_comm, Nat.mul_add_mod, Nat.mod_eq_of_lt hj]
 have h4 : (i' * s + j') % s = j' := by rw [Nat.mul_comm, Nat.mul_add_mod, Nat.mod_eq_of_lt hj']
 rw [h] at h1 h3
 exact ⟨h1.symm.trans h2, h3.symm.trans h4⟩
theorem idx_lt {s i j n : Nat} (hj : j < s) (hi : i < n) : i * s + j < n * s := by
 have : (i + 1) * s ≤ n * s := Nat.mul_le_mul_right _ (by omega)
 rw [Nat.succ_mul] at this
 omega
def FlatIs (c : Cx) (cols : List Col) (n : Nat) (us : List Value) : Prop :=
 ∀ i, i < n → ∀ (j : Nat) (col : Col), cols[j]? = some col → ∃ u, us[i * cols.length + j]? = some u ∧ ColIs c col i u
theorem ColIs.one {c : Cx} {col : Col} {i : Nat} {u : Value} (h : ColIs c col i u) : u.oneCell' = true := by
 cases col with
 | int k l => simp only [ColIs] at h; subst h; rfl
 | bool l => simp only [ColIs] at h; subst h; rfl
 | ints k l => obtain ⟨_, _, rfl, _⟩ := h; rfl
theorem FlatIs.ones {c : Cx} {cols : List Col} {n : Nat} {us : List Value} (f : FlatIs c cols n us) (hl : us.length = n * cols.length) : ∀ u ∈ us, u.oneCell' = true := by
 intro u hu
 obtain ⟨k, hk, rfl⟩ := List.getElem_of_mem hu
 have hs : 0 < cols.length := by
  rcases Nat.eq_zero_or_pos cols.length with h0 | h0
  ·rw [hl, h0] at hk; simp at hk
  ·exact h0
 have hi : k / cols.length < n := by
  rw [Nat.div_lt_iff_lt_mul hs]
  omega
 have hj : k % cols.length < cols.length := Nat.mod_lt _ hs
 obtain ⟨u, h1, h2⟩ := f (k / cols.length) hi (k % cols.length) cols[k % cols.length] (List.getElem?_eq_getElem hj)
 have : k / cols.length * cols.length + k % cols.length = k := by rw [Nat.mul_comm]; exact Nat.div_add_mod k _
 rw [this, List.getElem?_eq_getElem hk] at h1
 cases h1
 exact h2.one
theorem IntsAt.of_sl {c : Cx} {k : IntKind} {n : Nat} {x : List Int} {u : Value} (h : Rel c (.sl n [.int k x]) u) : IntsAt c k x u ∧ n = x.length := by
 simp only [Rel] at h
 obtain ⟨base, cap, rfl, hcap, hlen, hr⟩ := h
 have hn : x.length = n := hlen (.int k x) (by simp)
 subst hn
 refine ⟨⟨base, cap, rfl, hcap, hr.imp id ?_⟩, rfl⟩
 rintro ⟨ad, rfl, hs, hS, hc⟩
 refine ⟨ad, rfl, hs, hS, fun i hi => ?_⟩
 obtain ⟨u, h1, h2⟩ := hc i hi 0 (.int k x) rfl
 simp only [ColIs] at h2
 subst h2
 simpa using h1
theorem IntsAt.emp {c : Cx} {k : IntKind} {e : TypeId} {cols : List Col} {u : Value} (h : Rel c (.emp e cols) u) : IntsAt c k [] u := by
 simp only [Rel] at h
 obtain ⟨_, b, rfl⟩ := h
 exact ⟨b, 0, rfl, Nat.le_refl _, .inl rfl⟩
theorem Col.set_spec {c : Cx} {col col' : Col} {i : Nat} {x : AV} (h : col.set i x = some col') :
  col'.len = col.len ∧ (∀ i' u, i' ≠ i → ColIs c col i' u → ColIs c col' i' u) ∧ (i < col.len → ∀ u, Rel c x u → ColIs c col' i u) := by
 cases col with
 | int k l =>
  cases x <;> simp only [Col.set, reduceCtorEq] at h
  rename_i k' n
  split at h
  ·rename_i hk
   subst hk
   cases h
   refine ⟨by simp [Col.len, put], fun i' u hi hu => ?_, fun hi u hu => ?_⟩
   ·simp only [ColIs, gI, put] at *
    rw [hu]
    simp [List.getD, List.getElem?_set, Ne.symm hi]
   ·simp only [Rel] at hu
    simp only [ColIs, gI, put, Col.len] at *
    rw [hu]
    simp [List.getD, hi]
  ·cases h
 | bool l =>
  cases x <;> simp only [Col.set, reduceCtorEq] at h
  cases h
  refine ⟨by simp [Col.len, put], fun i' u hi hu => ?_, fun hi u hu => ?_⟩
  ·simp only [ColIs, gB, put] at *
   rw [hu]
   simp [List.getD, List.getElem?_set, Ne.symm hi]
  ·simp only [Rel] at hu
   simp only [ColIs, gB, put, Col.len] at *
   rw [hu]
   simp [List.getD, hi]
 | ints k l =>
  have key : ∀ y, col' = .ints k (put l i y) → (∀ u, Rel c x u → IntsAt c k y u) → col'.len = (Col.ints k l).len ∧ (∀ i' u, i' ≠ i → ColIs c (.ints k l) i' u → ColIs c col' i' u) ∧ (i < (Col.ints k l).len → ∀ u, Rel c x u → ColIs c col' i u) := by
   rintro y rfl hy
   refine ⟨by simp [Col.len, put], fun i' u hi hu => ?_, fun hi u hu => ?_⟩
   ·simp only [ColIs, gL, put] at *
    simpa [List.getD, List.getElem?_set, Ne.symm hi] using hu
   ·simp only [ColIs, gL, put, Col.len] at *
    simpa [List.getD, hi] using hy u hu
  cases x <;> try (simp [Col.set] at h; done)
  ·rename_i n cols
   rcases cols with _ | ⟨c1, rest⟩
   ·simp [Col.set] at h
   ·rcases rest with _ | ⟨c2, rest⟩
    ·cases c1 <;> try (simp [Col.set] at h; done)
     rename_i k' y
     simp only [Col.set] at h
     split at h
     ·rename_i hk
      subst hk
      cases h
      exact key y rfl fun u hu => (IntsAt.of_sl hu).1
     ·cases h
    ·cases c1 <;> simp [Col.set] at h
  ·simp only [Col.set, Option.some.injEq] at h
   subst h
   exact key [] rfl fun u hu => IntsAt.emp hu
theorem Col.join_spec {c : Cx} {x y z : Col} (h : x.join y = some z) : z.len = x.len + y.len ∧ (∀ i u, i < x.len → ColIs c x i u → ColIs c z i u) ∧ (∀ i u, ColIs c y i u → ColIs c z (x.len + i) u) := by
 cases x <;> cases y <;> simp only [Col.join, reduceCtorEq] at h
 ·split at h
  ·rename_i hk
   subst hk
   cases h
   refine ⟨by simp [Col.len, cat], fun i u hi hu => ?_, fun i u hu => ?_⟩
   ·simp only [ColIs, gI, cat, Col.len] at *
    rw [hu]; simp [List.getD, List.getElem?_append_left hi]
   ·simp only [ColIs, gI, cat, Col.len] at *
    rw [hu]; simp [List.getD, List.getElem?_append_right]
  ·cases h
 ·cases h
  refine ⟨by simp [Col.len, cat], fun i u hi hu => ?_, fun i u hu => ?_⟩
  ·simp only [ColIs, gB, cat, Col.len] at *
   rw [hu]; simp [List.getD, List.getElem?_append_left hi]
  ·simp only [ColIs, gB, cat, Col.len] at *
   rw [hu]; simp [List.getD, List.getElem?_append_right]
 ·split at h
  ·rename_i hk
   subst hk
   cases h
   refine ⟨by simp [Col.len, cat], fun i u hi hu => ?_, fun i u hu => ?_⟩
   ·simp only [ColIs, gL, cat, Col.len] at *
    simpa [List.getD, List.getElem?_append_left hi] using hu
   ·simp only [ColIs, gL, cat, Col.len] at *
    simpa [List.getD, List.getElem?_append_right] using hu
  ·cases h
theorem Col.over_spec {c : Cx} {x y z : Col} {a : Nat} (h : x.over a y = some z) (hf : a + y.len ≤ x.len) :
  z.len = x.len ∧ (∀ i u, i < a ∨ a + y.len ≤ i → ColIs c x i u → ColIs c z i u) ∧ (∀ i u, i < y.len → ColIs c y i u → ColIs c z (a + i) u) := by
 cases x <;> cases y <;> simp only [Col.over, reduceCtorEq] at h
 ·split at h
  ·rename_i l k' m hk
   subst hk
   cases h
   simp only [Col.len] at hf
   refine ⟨by simp only [Col.len, ovr_eq]; exact overL_len _ _ _ hf, fun i u hi hu => ?_, fun i u hi hu => ?_⟩
   ·simp only [ColIs, gI, ovr_eq, Col.len] at *
    rw [hu]; simp only [List.getD, overL_get _ _ _ _ (show a ≤ l.length by omega)]
    rcases hi with hi | hi
    ·rw [if_pos hi]
    ·rw [if_neg (by omega), if_neg (by omega)]
   ·simp only [ColIs, gI, ovr_eq, Col.len] at *
    rw [hu]; simp only [List.getD, overL_get _ _ _ _ (show a ≤ l.length by omega)]
    rw [if_neg (by omega), if_pos (by omega)]
    simp
  ·cases h
 ·rename_i l m
  cases h
  simp only [Col.len] at hf
  refine ⟨by simp only [Col.len, ovr_eq]; exact overL_len _ _ _ hf, fun i u hi hu => ?_, fun i u hi hu => ?_⟩
  ·simp only [ColIs, gB, ovr_eq, Col.len] at *
   rw [hu]; simp only [List.getD, overL_get _ _ _ _ (show a ≤ l.length by omega)]
   rcases hi with hi | hi
   ·rw [if_pos hi]
   ·rw [if_neg (by omega), if_neg (by omega)]
  ·simp only [ColIs, gB, ovr_eq, Col.len] at *
   rw [hu]; simp only [List.getD, overL_get _ _ _ _ (show a ≤ l.length by omega)]
   rw [if_neg (by omega), if_pos (by omega)]
   simp
 ·split at h
  ·rename_i l k' m hk
   subst hk
   cases h
   simp only [Col.len] at hf
   refine ⟨by simp only [Col.len, ovr_eq]; exact overL_len _ _ _ hf, fun i u hi hu => ?_, fun i u hi hu => ?_⟩
   ·simp only [ColIs, gL, ovr_eq, Col.len] at *
    simp only [List.getD, overL_get _ _ _ _ (show a ≤ l.length by omega)]
    rcases hi with hi | hi
    ·rw [if_pos hi]; exact hu
    ·rw [if_neg (by omega), if_neg (by omega)]; exact hu
   ·simp only [ColIs, gL, ovr_eq, Col.len] at *
    simp only [List.getD, overL_get _ _ _ _ (show a ≤ l.length by omega)]
    rw [if_neg (by omega), if_pos (by omega)]
    simpa using hu
  ·cases h
theorem Col.part_spec {c : Cx} {x : Col} {a n : Nat} (hf : a + n ≤ x.len) : (x.part a n).len = n ∧ ∀ i u, i < n → ColIs c x (a + i) u → ColIs c (x.part a n) i u := by
 have e : ∀ {α : Type} (l : List α) (i : Nat), i < n → (pt l a n)[i]? = l[a + i]? := by
  intro α l i hi
  simp [pt, List.getElem?_take, hi]
 cases x with
 | int k l =>
  refine ⟨by simp [Col.part, Col.len, pt] at *; omega, fun i u hi hu => ?_⟩
  simp only [Col.part, ColIs, gI, List.getD, e l i hi] at *
  exact hu
 | bool l =>
  refine ⟨by simp [Col.part, Col.len, pt] at *; omega, fun i u hi hu => ?_⟩
  simp only [Col.part, ColIs, gB, List.getD, e l i hi] at *
  exact hu
 | ints k l =>
  refine ⟨by simp [Col.part, Col.len, pt] at *; omega, fun i u hi hu => ?_⟩
  simp only [Col.part, ColIs, gL, List.getD, e l i hi] at *
  exact hu
theorem cell_of_arr {w : World} {b : Nat} {arr : Array Value} {t : TypeId} {fz : Nat × Nat} (h : w.heap[b]? = some (.cells arr t fz)) (o : Nat) : w.cell? ⟨b, o, none⟩ = arr.toList[o]? := by
 simp [World.cell?, h]
theorem cells_from {w : World} {ad : Addr} {n : Nat} (h : ∀ k, k < n → ∃ u, w.cell? (ad.add k) = some u) : ∃ us : List Value, us.length = n ∧ ∀ (k : Nat) (u : Value), us[k]? = some u → w.cell? (ad.add k) = some u := by
 refine ⟨(List.range n).map fun k => (w.cell? (ad.add k)).getD undef, by simp, fun k u hk => ?_⟩
 rw [List.getElem?_map] at hk
 rcases Nat.lt_or_ge k n with hlt | hge
 ·rw [List.getElem?_range hlt] at hk
  obtain ⟨v, hv⟩ := h k hlt
  simp [hv] at hk
  rw [hv, hk]
 ·rw [List.getElem?_eq_none (by simpa using hge)] at hk
  simp at hk
theorem div_sound {k s : Nat} : k / s * s + k % s = k := by
 rw [Nat.mul_comm]; exact Nat.div_add_mod k s
theorem row_part {c : Cx} {cols : List Col} {k : Nat} {arr : List Value} (hf : FlatIs c cols k arr) (hlen : ∀ col ∈ cols, col.len = k) (off m : Nat) (hm : off + m ≤ k) (hsz : k * cols.length ≤ arr.length) :
  ((arr.drop (off * cols.length)).take (m * cols.length)).length = m * cols.length ∧ FlatIs c (cols.map (·.part off m)) m ((arr.drop (off * cols.length)).take (m * cols.length)) ∧ ∀ col ∈ cols.map (·.part off m), col.len = m := by
 have h1 : (off + m) * cols.length ≤ k * cols.length := Nat.mul_le_mul_right _ hm
 rw [Nat.add_mul] at h1
 refine ⟨by simp; omega, fun i hi j col hj => ?_, ?_⟩
 ·rw [List.getElem?_map] at hj
  cases hc : cols[j]? with
  | none => simp [hc] at hj
  | some col0 =>
   simp [hc] at hj
   subst hj
   obtain ⟨u, h2, h3⟩ := hf (off + i) (by omega) j col0 hc
   have hjl : j < cols.length := (List.getElem?_eq_some_iff.1 hc).1
   refine ⟨u, ?_, (Col.part_spec (by rw [hlen col0 (List.mem_of_getElem? hc)]; exact hm)).2 i u hi h3⟩
   simp only [List.length_map]
   rw [List.getElem?_take, if_pos (idx_lt hjl hi), List.getElem?_drop, ← h2, Nat.add_mul, Nat.add_assoc]
 ·intro col hcol
  obtain ⟨col0, h2, rfl⟩ := List.mem_map.1 hcol
  exact (Col.part_spec (c := c) (by rw [hlen col0 h2]; exact hm)).1
theorem sliceOf_rel {w0 : Base} {H : Heap} {c : Cx} (hh : HeapOK w0 H c) {x : AV} {m : Nat} {ys : List Col} {rd : List Nat} {v : Value} (hx : sliceOf H x = some (m, ys, rd)) (hr : Rel c x v) :
  ∃ base cap us, v = .slice base m cap ∧ (m ≠ 0 → ∃ ad, base = some ad ∧ ∀ (k : Nat) (u : Value), us[k]? = some u → c.w.cell? (ad.add k) = some u) ∧ us.length = m * ys.length ∧ FlatIs c ys m us ∧ ∀ col ∈ ys, col.len = m := by
 unfold sliceOf at hx
 split at hx
 ·rename_i n cols
  cases hx
  simp only [Rel] at hr
  obtain ⟨base, cap, rfl, hcap, hlen, hr⟩ := hr
  rcases hr with hr | ⟨ad, rfl, hs, hS, hc⟩
  ·subst hr
   exact ⟨base, cap, [], rfl, fun h => absurd rfl h, by simp, fun i hi => by omega, hlen⟩
  ·have key : ∀ k, k < m * ys.length → ∃ u, c.w.cell? (ad.add k) = some u := by
    intro k hk
    have hs0 : 0 < ys.length := by
     rcases Nat.eq_zero_or_pos ys.length with h0 | h0
     ·rw [h0] at hk; simp at hk
     ·exact h0
    obtain ⟨u, hu, _⟩ := hc (k / ys.length) ((Nat.div_lt_iff_lt_mul hs0).2 hk) (k % ys.length) _ (List.getElem?_eq_getElem (Nat.mod_lt _ hs0))
    rw [div_sound] at hu
    exact ⟨u, by rw [add_block _ _ hs]; exact hu⟩
   obtain ⟨us, hl, hu⟩ := cells_from key
   refine ⟨some ad, cap, us, rfl, fun _ => ⟨ad, rfl, hu⟩, hl, fun i hi j col hj => ?_, hlen⟩
   obtain ⟨u, h1, h2⟩ := hc i hi j col hj
   have hjl : j < ys.length := (List.getElem?_eq_some_iff.1 hj).1
   have hlt : i * ys.length + j < us.length := by rw [hl]; exact idx_lt hjl hi
   refine ⟨u, ?_, h2⟩
   have h3 := hu _ _ (List.getElem?_eq_getElem hlt)
   rw [add_block _ _ hs] at h3
   unfold cellIs at h1
   rw [h1] at h3
   rw [List.getElem?_eq_getElem hlt, Option.some.inj h3]
 ·cases hx
  simp only [Rel] at hr
  obtain ⟨hlen, b, rfl⟩ := hr
  exact ⟨b, 0, [], rfl, fun h => absurd rfl h, by simp, fun i hi => by omega, hlen⟩
 ·rename_i id
  split at hx
  ·rename_i e n cols hid
   cases hx
   simp only [Rel] at hr
   obtain ⟨p, ad, hp, rfl, had⟩ := hr
   obtain ⟨p', hp', hob⟩ := hh.obj id _ hid
   rw [hp] at hp'
   cases hp'
   obtain ⟨q1, q2, q3, q4, q5, q6⟩ := hob
   subst q1
   by_cases h0 : p.n = 0
   ·exact ⟨ad, p.cap, [], rfl, fun h => absurd h0 h, by simp [h0], fun i hi => by omega, q5⟩
   ·obtain ⟨arr, t, ha, hs, hx⟩ := q6 (by omega)
    have had' := had (by omega)
    subst had'
    have hle : p.n * ys.length ≤ arr.toList.length := by
     have hl : arr.toList.length = p.cap * ys.length := by simp [hs, q2]
     rw [hl]
     exact Nat.mul_le_mul_right _ q3
    have hf : FlatIs c ys p.n arr.toList := fun i hi j col hj => by
     obtain ⟨u, h1, h2⟩ := hx i hi j col hj
     rw [q2] at h1
     exact ⟨u, by simpa using h1, h2⟩
    obtain ⟨r1, r2, r3⟩ := row_part hf q5 0 p.n (by omega) hle
    refine ⟨_, _, arr.toList.take (p.n * ys.length), rfl, fun _ => ⟨_, rfl, fun k u hk => ?_⟩, by simpa using r1, ?_, q5⟩
    ·rw [add_off, cell_of_arr ha]
     rw [List.getElem?_take] at hk
     split at hk
     ·simpa using hk
     ·cases hk
    ·intro i hi j col hj
     obtain ⟨u, h1, h2⟩ := hf i hi j col hj
     have hjl : j < ys.length := (List.getElem?_eq_some_iff.1 hj).1
     exact ⟨u, by rw [List.getElem?_take, if_pos (idx_lt hjl hi), h1], h2⟩
  ·cases hx
 ·rename_i id off n
  split at hx
  ·rename_i e k cols hid
   cases hx
   simp only [Rel] at hr
   obtain ⟨p, ad, hp, rfl, hoff, hcap, had⟩ := hr
   obtain ⟨p', hp', hob⟩ := hh.obj id _ hid
   rw [hp] at hp'
   cases hp'
   obtain ⟨q1, q2, q3, q4, q5, q6⟩ := hob
   subst q1
   have r3 : ∀ col ∈ cols.map (·.part off m), col.len = m := by
    intro col hcol
    obtain ⟨col0, h2, rfl⟩ := List.mem_map.1 hcol
    exact (Col.part_spec (c := c) (by rw [q5 col0 h2]; exact hoff)).1
   by_cases h0 : m = 0
   ·exact ⟨ad, _, [], rfl, fun h => absurd h0 h, by simp [h0], fun i hi => by omega, r3⟩
   ·obtain ⟨arr, t, ha, hs, hx⟩ := q6 (by omega)
    have had' := had (by omega)
    subst had'
    have hle : p.n * cols.length ≤ arr.toList.length := by
     have hl : arr.toList.length = p.cap * cols.length := by simp [hs, q2]
     rw [hl]
     exact Nat.mul_le_mul_right _ q3
    have hf : FlatIs c cols p.n arr.toList := fun i hi j col hj => by
     obtain ⟨u, h1, h2⟩ := hx i hi j col hj
     rw [q2] at h1
     exact ⟨u, by simpa using h1, h2⟩
    obtain ⟨r1, r2, _⟩ := row_part hf q5 off m hoff hle
    refine ⟨_, _, _, rfl, fun _ => ⟨_, rfl, fun k u hk => ?_⟩, by simpa using r1, r2, r3⟩
    rw [add_off, cell_of_arr ha]
    rw [List.getElem?_take] at hk
    split at hk
    ·rw [List.getElem?_drop] at hk
     rw [q2]
     exact hk
    ·cases hk
  ·cases hx
 ·cases hx
section
variable {P : Program} {w0 : Base} {T : List AV} {H : Heap} {c : Cx} {a : Act} {g : Option (Nat × Bool)} {o : Oper}
theorem over_arr (cur : Array Value) (o : Nat) (vs : List Value) : (cur.toList.take (o + 0) ++ vs ++ cur.toList.drop (o + 0 + vs.length)) = overL cur.toList o vs := by
 simp [overL]
theorem run_storeAt {t : TypeId} {n : Nat} (hs : szOf P t = some n) {b off : Nat} {v : Value} {cur : Array Value} {ct : TypeId} {w : World} (hv : v.cells.toList.length = n) (h1 : ∀ u ∈ v.cells.toList, u.oneCell' = true)
  (hb : w.heap[b]? = some (.cells cur ct (0, 0))) (hf : off + n ≤ cur.size) : (Instr.storeAt t (.pointer (some ⟨b, off, none⟩)) v).run P w = .ok () (w.setRow b (overL cur.toList off v.cells.toList).toArray) := by
 obtain ⟨i, d, hi, hd, rfl⟩ := szOf_some hs
 have hst := run_storeCells_at P b off ct v.cells.toList 0 cur w hb (by omega) h1
 rw [over_arr] at hst
 have hsz : v.cells.size = i.size := by simpa using hv
 simp [Instr.storeAt, Instr.sureAddr, storeVar, run_sizeOf hi, hsz, hst]
theorem skip_of {s : Sem Unit} {H' : Heap} {c' : Cx} (he : execOp a.eval o = (do s; pure .skip)) (hr : s.run P c.w = .ok () c'.w) (hle : c.le c') (hh : HeapOK w0 H' c') : Goes P o a w0 H' c .top :=
 ⟨undef, c', .inr ⟨by rw [he]; simp only [Sem.run_bind, hr, Result.andThen_ok, Sem.run_pure], rfl⟩, hle, hh, by simp [Rel]⟩
theorem store_var (h : At P w0 T H c a.tmps g) {t : TypeId} {x y : Operand} {id off : Nat} {vs cs : List AV} (ho : o.op = .store t x y) (hx : opd P T g 0 x = .ptr id 0 off) (hy : cellsOfAV (opd P T g t y) = some vs) (hs : szOf P t = some vs.length)
  (hid : H.at id = some (.var cs)) (hf : off + vs.length ≤ cs.length) : Goes P o a w0 (writeAll H [(id, .var (overL cs off vs))]) c .top := by
 have r := opd_eq h hx
 simp only [Rel] at r
 obtain ⟨p, hp, hv⟩ := r
 obtain ⟨hrv, h1⟩ := cellsOfAV_rel hy (opd_rel h t y)
 obtain ⟨p', hp', hob⟩ := h.heap.obj id _ hid
 rw [hp] at hp'
 cases hp'
 obtain ⟨arr, ct, ha, hra⟩ := hob
 have hl1 := hrv.length
 have hl2 := hra.length
 have hlen : (a.eval y).cells.toList.length = vs.length := hl1.symm
 have hrun := run_storeAt (P := P) (w := c.w) (b := p.b) (off := off) (cur := arr) (ct := ct) hs hlen h1 ha (by simp at hl2; omega)
 obtain ⟨hh, hle⟩ := h.heap.store id (.var (overL cs off vs)) (c.w.setRow p.b (overL arr.toList off (a.eval y).cells.toList).toArray) ⟨rfl, rfl, rfl⟩ hid hp trivial (setRow_size _ _ _) (fun b hb => setRow_other _ _ _ _ hb) (fun hle => by
  refine ⟨_, ct, setRow_heap _ _ _ _ _ _ ha, ?_⟩
  simpa using (hra.overL off hrv).mono hle)
 refine skip_of (s := Instr.storeAt t (a.eval x) (a.eval y)) (by simp only [execOp, ho]) (c' := c.with _) ?_ hle hh
 rw [hv, Nat.zero_mul, Nat.zero_add]
 exact hrun
theorem store_row (h : At P w0 T H c a.tmps g) {t e : TypeId} {x y : Operand} {id idx off k : Nat} {vs : List AV} {cols ws : List Col} (ho : o.op = .store t x y) (hx : opd P T g 0 x = .ptr id idx off) (hy : cellsOfAV (opd P T g t y) = some vs) (hs : szOf P t = some vs.length)
  (hid : H.at id = some (.row e k cols)) (hz : zipAll (fun (c : Col) v => c.set idx v) ((cols.drop off).take vs.length) vs = some ws) (hf : off + vs.length ≤ cols.length) (hlt : idx < k) : Goes P o a w0 (writeAll H [(id, .row e k (overL cols off ws))]) c .top := by
 have r := opd_eq h hx
 simp only [Rel] at r
 obtain ⟨p, hp, hv⟩ := r
 obtain ⟨hrv, h1⟩ := cellsOfAV_rel hy (opd_rel h t y)
 obtain ⟨p', hp', hob⟩ := h.heap.obj id _ hid
 rw [hp] at hp'
 cases hp'
 obtain ⟨q1, q2, q3, q4, q5, q6⟩ := hob
 subst q1
 obtain ⟨arr, ct, ha, hs', hx'⟩ := q6 (by omega)
 have hl1 := hrv.length
 have hlen : (a.eval y).cells.toList.length = vs.length := hl1.symm
 have hzl := zipAll_len hz
 have hmul := idx_lt (s := p.sz) (i := idx) (n := p.cap) (j := p.sz - 1) (by omega) (by omega)
 have hfit : idx * p.sz + off + vs.length ≤ arr.size := by omega
 have hrun := run_storeAt (P := P) (w := c.w) (b := p.b) (off := idx * p.sz + off) (cur := arr) (ct := ct) hs hlen h1 ha hfit
 have hwl : (overL cols off ws).length = cols.length := overL_len _ _ _ (by omega)
 have hcol : ∀ (j : Nat) (col : Col), (overL cols off ws)[j]? = some col → ∃ col0, cols[j]? = some col0 ∧ col.len = col0.len ∧ ((j < off ∨ off + vs.length ≤ j) → col = col0) ∧ (off ≤ j → j < off + vs.length → ∃ v, vs[j - off]? = some v ∧ col0.set idx v = some col) := by
  intro j col hj
  rw [overL_get _ _ _ _ (by omega)] at hj
  split at hj
  ·rename_i hlt'
   exact ⟨col, hj, rfl, fun _ => rfl, fun h1 h2 => by omega⟩
  ·split at hj
   ·rename_i hn hlt'
    obtain ⟨col0, v, z1, z2, z3⟩ := zipAll_get hz hj
    rw [List.getElem?_take] at z1
    split at z1
    ·rw [List.getElem?_drop, show off + (j - off) = j by omega] at z1
     exact ⟨col0, z1, (Col.set_spec (c := c) z3).1, fun h => by omega, fun _ _ => ⟨v, z2, z3⟩⟩
    ·cases z1
   ·exact ⟨col, hj, rfl, fun _ => rfl, fun h1 h2 => by omega⟩
 obtain ⟨hh, hle⟩ := h.heap.store id (.row e p.n (overL cols off ws)) (c.w.setRow p.b (overL arr.toList (idx * p.sz + off) (a.eval y).cells.toList).toArray) ⟨rfl, rfl, rfl⟩ hid hp (by show p.cap ≠ 0; omega) (setRow_size _ _ _) (fun b hb => setRow_other _ _ _ _ hb) (fun hle => by
  refine ⟨rfl, by rw [hwl, q2], q3, by rw [hwl]; exact q4, ?_, fun _ => ⟨_, ct, setRow_heap _ _ _ _ _ _ ha, ?_, ?_⟩⟩
  ·intro col hc
   obtain ⟨j, hj⟩ := List.getElem?_of_mem hc
   obtain ⟨col0, z1, z2, _⟩ := hcol j col hj
   rw [z2]
   exact q5 col0 (List.mem_of_getElem? z1)
  ·simp only [List.size_toArray]
   rw [overL_len _ _ _ (by rw [hlen]; simpa using hfit)]
   simpa using hs'
  ·intro i hi j col hj
   obtain ⟨col0, z1, z2, z3, z4⟩ := hcol j col hj
   have hjl : j < p.sz := by rw [q2]; exact (List.getElem?_eq_some_iff.1 z1).1
   obtain ⟨u, y1, y2⟩ := hx' i hi j col0 z1
   have hget : (overL arr.toList (idx * p.sz + off) (a.eval y).cells.toList).toArray[i * p.sz + j]? = if i * p.sz + j < idx * p.sz + off then arr[i * p.sz + j]? else if i * p.sz + j < idx * p.sz + off + vs.length then (a.eval y).cells.toList[i * p.sz + j - (idx * p.sz + off)]? else arr[i * p.sz + j]? := by
    rw [List.getElem?_toArray, overL_get _ _ _ _ (by simp; omega), hlen]
    simp
   by_cases hi' : i = idx
   ·subst hi'
    by_cases hseg : off ≤ j ∧ j < off + vs.length
    ·obtain ⟨v, x1, x2⟩ := z4 hseg.1 hseg.2
     obtain ⟨u', x3, x4⟩ := hrv.get x1
     refine ⟨u', ?_, ?_⟩
     ·rw [hget, if_neg (by omega), if_pos (by omega), ← x3]
      congr 1
      omega
     ·exact ColIs.mono hle ((Col.set_spec (c := c) x2).2.2 (by rw [q5 col0 (List.mem_of_getElem? z1)]; exact hi) u' x4)
    ·have he := z3 (by omega)
     subst he
     refine ⟨u, ?_, y2.mono hle⟩
     rw [hget]
     by_cases hj1 : j < off
     ·rw [if_pos (by omega), y1]
     ·rw [if_neg (by omega), if_neg (by omega), y1]
   ·have hne : ¬ (idx * p.sz + off ≤ i * p.sz + j ∧ i * p.sz + j < idx * p.sz + off + vs.length) := by
     rintro ⟨g1, g2⟩
     have : i * p.sz + j = idx * p.sz + (i * p.sz + j - idx * p.sz) := by omega
     have := (idx_inj hjl (by omega) this).1
     exact hi' this
    refine ⟨u, ?_, ?_⟩
    ·rw [hget]
     by_cases g1 : i * p.sz + j < idx * p.sz + off
     ·rw [if_pos g1, y1]
     ·rw [if_neg g1, if_neg (by omega), y1]
    ·by_cases hseg : off ≤ j ∧ j < off + vs.length
     ·obtain ⟨v, x1, x2⟩ := z4 hseg.1 hseg.2
      exact ColIs.mono hle ((Col.set_spec (c := c) x2).2.1 i u hi' y2)
     ·have he := z3 (by omega)
      subst he
      exact y2.mono hle)
 refine skip_of (s := Instr.storeAt t (a.eval x) (a.eval y)) (by simp only [execOp, ho]) (c' := c.with _) ?_ hle hh
 rw [hv]
 exact hrun
end
end Go.Own
end
section
namespace Go.Own
open Go
section
variable {P : Program} {w0 : Base} {T : List AV} {H : Heap} {c : Cx} {a : Act} {g : Option (Nat × Bool)} {o : Oper}
structure ElemIs (P : Program) (e : TypeId) (i : TypeInfo) (z : Value) : Prop where
 info : P.info? e = some i
 zero : i.zero = some z
 bytes : i.bytes ≤ 2 ^ 12
 size : i.size = (colsOf P 9 e).length
 pos : 0 < i.size
 cells : z.cells.size = i.size
 vals : areVals ((colsOf P 9 e).map Col.zero) z.cells.toList = true
theorem elemOk_is {e : TypeId} (h : elemOk P e = true) : ∃ i z, ElemIs P e i z := by
 unfold elemOk at h
 simp only [Bool.and_eq_true, decide_eq_true_eq] at h
 obtain ⟨⟨⟨⟨h1, h2⟩, h3⟩, h4⟩, h5⟩ := h
 cases hi : P.info? e with
 | none => simp [Program.cellsOf, hi] at h3
 | some i =>
  obtain ⟨cs, hcs⟩ := Option.isSome_iff_exists.1 h4
  obtain ⟨i', z, hi', hz, _, hl⟩ := zeroCellsOf_some hcs
  rw [hi] at hi'
  cases hi'
  simp only [hi, Option.bind_some, hz, Option.getD_some] at h5
  have e1 : P.cellsOf e = i.size := by simp [Program.cellsOf, hi]
  have e2 : P.bytesOf e = i.bytes := by simp [Program.bytesOf, hi]
  exact ⟨i, z, hi, hz, by rw [← e2]; exact h1, by rw [← e1, h2], by rw [← e1]; exact h3, by simpa using hl, h5⟩
theorem wrap_in {n : Int} (h0 : 0 ≤ n) (h1 : n ≤ 2 ^ 40) : IntKind.i64.wrap n = n := IntWalk.i64_in n (by omega)
theorem zero_at {e : TypeId} {i : TypeInfo} {z : Value} (h : ElemIs P e i z) {j : Nat} {col : Col} (hj : (colsOf P 9 e)[j]? = some col) : ∃ u, z.cells[j]? = some u ∧ Rel c col.zero u := by
 have hr := areVals_rel (c := c) h.vals
 obtain ⟨u, h1, h2⟩ := hr.get (i := j) (a := col.zero) (by simp [hj])
 exact ⟨u, by simpa using h1, h2⟩
theorem zeros_flat {e : TypeId} {i : TypeInfo} {z : Value} (h : ElemIs P e i z) (n : Nat) : ((Array.range (n * i.size)).map (z.cells[· % z.cells.size]!)).toList.length = n * (zerosRow P e n).length ∧ FlatIs c (zerosRow P e n) n ((Array.range (n * i.size)).map (z.cells[· % z.cells.size]!)).toList ∧ ∀ col ∈ zerosRow P e n, col.len = n := by
 have hzl : (zerosRow P e n).length = i.size := by simp [zerosRow, h.size]
 refine ⟨by simp [hzl], fun q hq j col hj => ?_, ?_⟩
 ·rw [hzl]
  have hjl : j < i.size := by rw [← hzl]; exact (List.getElem?_eq_some_iff.1 hj).1
  have hlt := idx_lt hjl hq
  simp only [zerosRow, List.getElem?_map] at hj
  cases hc : (colsOf P 9 e)[j]? with
  | none => simp [hc] at hj
  | some col0 =>
   simp [hc] at hj
   subst hj
   obtain ⟨u, h1, h2⟩ := zero_at (c := c) h hc
   refine ⟨u, ?_, ?_⟩
   ·rw [Array.toList_map, List.getElem?_map, Array.toList_range, List.getElem?_range hlt]
    simp only [Option.map_some, h.cells]
    rw [Nat.mul_comm, Nat.mul_add_mod, Nat.mod_eq_of_lt hjl]
    rw [getElem!_def, h1]
   ·cases col0 with
    | int k l => simp only [Col.zero, Rel] at h2; subst h2; simp [Col.zeros, ColIs, gI, rI, List.getD, hq]
    | bool l => simp only [Col.zero, Rel] at h2; subst h2; simp [Col.zeros, ColIs, gB, rB, List.getD, hq]
    | ints k l =>
     simp only [Col.zero] at h2
     have := IntsAt.emp (k := k) h2
     simpa [Col.zeros, ColIs, gL, rL, List.getD, hq] using this
 ·intro col hcol
  obtain ⟨col0, _, rfl⟩ := List.mem_map.1 hcol
  cases col0 <;> simp [Col.zeros, Col.len, rI, rB, rL]
theorem new_row (h : HeapOK w0 H c) {fr : Nat} (hfr : H.at fr = none) (e t : TypeId) {cols : List Col} {n cap : Nat} {arr : Array Value} (w : World) (hw : w.heap = c.w.heap) (hrs : Rest c.w w) (hpos : 0 < cols.length) (hn : n ≤ cap) (hlen : ∀ col ∈ cols, col.len = n) (hs : arr.size = cap * cols.length)
  (hf : FlatIs c cols n arr.toList) :
  let c' := Cx.putAt c { w with heap := w.heap.push (.cells arr t (0, 0)) } fr ⟨c.w.heap.size, cols.length, n, cap⟩
  c.le c' ∧ HeapOK w0 (setAt H fr (.row e n cols)) c' ∧ Rel c' (.full fr) (.slice (some ⟨c.w.heap.size, 0, none⟩) n cap) := by
 intro c'
 obtain ⟨h1, hle1⟩ := h.same w hw hrs
 have hn1 := h1.free fr hfr
 have hle2 := le_push h1 (.cells arr t (0, 0)) fr ⟨c.w.heap.size, cols.length, n, cap⟩ hn1
 have hc' : c' = (c.with w).putAt { (c.with w).w with heap := (c.with w).w.heap.push (.cells arr t (0, 0)) } fr ⟨c.w.heap.size, cols.length, n, cap⟩ := rfl
 have hle : c.le c' := hle1.trans (hc' ▸ hle2)
 refine ⟨hle, ?_, ?_⟩
 ·rw [hc']
  refine h1.alloc fr _ _ _ hfr (by simp [Cx.with, hw]) ?_
  refine ⟨rfl, rfl, hn, hpos, hlen, fun _ => ⟨arr, t, ?_, hs, fun i hi j col hj => ?_⟩⟩
  ·have := heap_push_new (c.with w).w (.cells arr t (0, 0))
   simp only [Cx.with, hw] at this ⊢
   exact this
  ·obtain ⟨u, g1, g2⟩ := hf i hi j col hj
   exact ⟨u, by simpa using g1, g2.mono (hc' ▸ hle)⟩
 ·simp only [Rel]
  exact ⟨_, _, by simp [c', Cx.putAt]; rfl, rfl, fun _ => rfl⟩
theorem make_goes (h : At P w0 T H c a.tmps g) {t e : TypeId} {x y : Operand} {k k' : IntKind} {n : Int} {fr : Nat} (hfr : H.at fr = none) (ho : o.op = .makeSlice t x y) (ht : rowType P t = some e) (he : elemOk P e = true) (hx : opd P T g 3 x = .int k n) (hy : opd P T g 3 y = .int k' n)
  (h0 : 0 ≤ n) (h1 : n ≤ ofN room) : Goes P o a w0 (writeAll H [(fr, .row e (nOf n) (zerosRow P e (nOf n)))]) c (.full fr) := by
 obtain ⟨i, z, hi⟩ := elemOk_is he
 have rx := rel_int (opd_eq h hx)
 have ry := rel_int (opd_eq h hy)
 have hu := rowType_some ht
 have hroom : n ≤ 2 ^ 30 := by simpa [ofN, room] using h1
 have hb : (i.bytes : Int) * n ≤ 2 ^ 48 := by
  have hbb : (i.bytes : Int) ≤ 2 ^ 12 := by exact_mod_cast hi.bytes
  calc (i.bytes : Int) * n ≤ 2 ^ 12 * 2 ^ 30 := Int.mul_le_mul hbb hroom h0 (by omega)
   _ ≤ 2 ^ 48 := by decide
 obtain ⟨z1, z2, z3⟩ := zeros_flat (c := c) hi n.toNat
 have hzl : (zerosRow P e n.toNat).length = i.size := by simp [zerosRow, hi.size]
 obtain ⟨r1, r2, r3⟩ := new_row h.heap hfr e e c.w rfl ⟨rfl, rfl, rfl⟩ (cols := zerosRow P e n.toNat) (n := n.toNat) (cap := n.toNat) (arr := (Array.range (n.toNat * i.size)).map (z.cells[· % z.cells.size]!)) (by rw [hzl]; exact hi.pos) (Nat.le_refl _) z3 (by simpa using z1) z2
 refine ⟨_, _, .inl ?_, r1, r2, r3⟩
 simp only [execOp, ho, Sem.run_bind]
 have hrun : (Instr.makeSlice t (a.eval x) (a.eval y)).run P c.w = .ok (.slice (some ⟨c.w.heap.size, 0, none⟩) n.toNat n.toNat) { c.w with heap := c.w.heap.push (.cells ((Array.range (n.toNat * i.size)).map (z.cells[· % z.cells.size]!)) e (0, 0)) } := by
  rw [rx, ry]
  have hw := wrap_in h0 (show n ≤ 2 ^ 40 by omega)
  simp only [Instr.makeSlice, Sem.run_bind, run_underlying hu, Result.andThen_ok, asInt, asIntOf, Sem.run_pure, typeInfo, run_program, hi.info, hw]
  have hc1 : decide ((2 : Int) ^ 48 < (i.bytes : Int) * n) = false := by
   simp only [decide_eq_false_iff_not]
   omega
  have hc2 : ¬ n < 0 := by omega
  simp only [hc1, hc2, decide_false, Bool.or_self, gt_iff_lt, Int.lt_irrefl, Bool.false_eq_true, if_false, Sem.run_bind, run_askRoom, Result.andThen_ok, run_sizeOf hi.info, newRow, run_newObj, Sem.run_pure]
  by_cases hn0 : n.toNat * i.size = 0
  ·have hr0 : (Array.range 0) = #[] := rfl
   simp only [hn0, if_true, Sem.run_bind, Sem.run_pure, Result.andThen_ok, run_newObj, hr0, Array.map_empty]
  ·simp only [hn0, if_false, Sem.run_bind, run_zeroValue hi.info hi.zero, Result.andThen_ok, Sem.run_pure, run_newObj]
 rw [hrun]
 rfl
end
end Go.Own
end
section
namespace Go.Own
open Go
section
variable {P : Program} {w0 : Base} {T : List AV} {H : Heap} {c : Cx} {a : Act} {g : Option (Nat × Bool)} {o : Oper}
theorem run_firstCells {m xc size : Nat} {xb : Option Addr} {us : List Value} {w : World} (hl : us.length = m * size) (hx : m ≠ 0 → ∃ ad, xb = some ad ∧ ∀ (k : Nat) (u : Value), us[k]? = some u → w.cell? (ad.add k) = some u) :
  (Builtin.firstCells size m (.slice xb m xc)).run P w = .ok us.toArray w := by
 by_cases h0 : m = 0
 ·subst h0
  have : us = [] := by
   simp at hl
   exact hl
  subst this
  cases xb with
  | none => simp [Builtin.firstCells]
  | some ad => simp [Builtin.firstCells, loadCells, loadCellsFrom]
 ·obtain ⟨ad, rfl, hc⟩ := hx h0
  have := run_loadCells_list (P := P) w ad us hc
  rw [hl] at this
  simp [Builtin.firstCells, this]
theorem run_append_in {ats : Array TypeId} {t t2 e e2 ty : TypeId} {i : TypeInfo} (h1 : ats[0]? = some t) (h2 : ats[1]? = some t2) (hu : P.underlying t = some (.slice e)) (hu2 : P.underlying t2 = some (.slice e2)) (hi : P.info? e = some i)
  {n cap m xc b off : Nat} {xb : Option Addr} {us : List Value} {cur : Array Value} {ct : TypeId} {w : World} (hl : us.length = m * i.size) (hx : m ≠ 0 → ∃ ad, xb = some ad ∧ ∀ (k : Nat) (u : Value), us[k]? = some u → w.cell? (ad.add k) = some u)
  (hfit : n + m ≤ cap) (hone : ∀ u ∈ us, u.oneCell' = true) (hb : w.heap[b]? = some (.cells cur ct (0, 0))) (hroom : off + n * i.size + us.length ≤ cur.size) :
  (Builtin.append_ ats ty #[.slice (some ⟨b, off, none⟩) n cap, .slice xb m xc]).run P w = .ok (.slice (some ⟨b, off, none⟩) (n + m) cap) (w.setRow b (overL cur.toList (off + n * i.size) us).toArray) := by
 have hfc := run_firstCells (P := P) (xc := xc) (size := i.size) (w := w) hl hx
 have hst := run_storeCells_at P b (off + n * i.size) ct us 0 cur w hb (by omega) hone
 rw [over_arr] at hst
 simp [Builtin.append_, h1, h2, run_underlying hu, run_underlying hu2, run_sizeOf hi, Builtin.lenOf, hfit, hfc, add_off, hst]
theorem run_append_none {ats : Array TypeId} {t t2 e e2 ty : TypeId} {i : TypeInfo} (h1 : ats[0]? = some t) (h2 : ats[1]? = some t2) (hu : P.underlying t = some (.slice e)) (hu2 : P.underlying t2 = some (.slice e2)) (hi : P.info? e = some i)
  {xc : Nat} {sb xb : Option Addr} {w : World} :
  (Builtin.append_ ats ty #[.slice sb 0 0, .slice xb 0 xc]).run P w = .ok (.slice sb 0 0) w := by
 have hfc := run_firstCells (P := P) (xc := xc) (size := i.size) (xb := xb) (us := []) (m := 0) (w := w) (by simp) (fun h => absurd rfl h)
 cases sb with
 | none => simp [Builtin.append_, h1, h2, run_underlying hu, run_underlying hu2, run_sizeOf hi, Builtin.lenOf, hfc]
 | some ad => simp [Builtin.append_, h1, h2, run_underlying hu, run_underlying hu2, run_sizeOf hi, Builtin.lenOf, hfc, storeCells]
theorem growBy_le (need : Nat) : ∀ (r c0 : Nat), c0 ≤ need + need / 4 + 512 → Builtin.growBy need r c0 ≤ need + need / 4 + 512
 | 0, c0, h => by simp [Builtin.growBy]; omega
 | r + 1, c0, h => by
  simp only [Builtin.growBy]
  split
  ·omega
  ·exact growBy_le need r _ (by omega)
theorem next_le {need cap : Nat} (h : cap < need) : Builtin.nextslicecap need cap ≤ need + need / 4 + 512 := by
 unfold Builtin.nextslicecap
 split
 ·omega
 ·split
  ·omega
  ·exact growBy_le need 4 cap (by omega)
theorem next_zero (m : Nat) : Builtin.nextslicecap m 0 = m := by
 unfold Builtin.nextslicecap
 split
 ·rfl
 ·split <;> omega
theorem wide_is {e : TypeId} {i : TypeInfo} {z : Value} {m : Nat} (hi : ElemIs P e i z) (h : m ≤ wide P e) : m * i.bytes ≤ 2 ^ 47 ∧ (i.bytes = 0 → m ≤ 2 ^ 40) := by
 have hb : P.bytesOf e = i.bytes := by simp [Program.bytesOf, hi.info]
 unfold wide at h
 rw [hb] at h
 have h1 : m * i.bytes ≤ 2 ^ 47 / i.bytes * i.bytes := Nat.mul_le_mul_right _ h
 have h2 := Nat.div_mul_le_self (2 ^ 47) i.bytes
 refine ⟨by omega, fun h0 => ?_⟩
 rw [h0, Nat.div_zero] at h
 omega
theorem lim_of {e : TypeId} {i : TypeInfo} {z : Value} {need cap : Nat} (hi : ElemIs P e i z) (h : cap < need) (hr : need ≤ wide P e) : Builtin.nextslicecap need cap * i.bytes ≤ 2 ^ 48 := by
 have h0 := (wide_is hi hr).1
 have hb := hi.bytes
 have h1 : Builtin.nextslicecap need cap * i.bytes ≤ (need + need / 4 + 512) * i.bytes := Nat.mul_le_mul_right _ (next_le h)
 have h2 : (need + need / 4 + 512) * i.bytes = need * i.bytes + need / 4 * i.bytes + 512 * i.bytes := by rw [Nat.add_mul, Nat.add_mul]
 have h3 : 4 * (need / 4 * i.bytes) ≤ need * i.bytes := by
  rw [← Nat.mul_assoc]
  exact Nat.mul_le_mul_right _ (by omega)
 omega
theorem run_append_new {ats : Array TypeId} {t t2 e e2 ty : TypeId} {i : TypeInfo} {z : Value} (h1 : ats[0]? = some t) (h2 : ats[1]? = some t2) (hu : P.underlying t = some (.slice e)) (hu2 : P.underlying t2 = some (.slice e2)) (hi : ElemIs P e i z)
  {n cap m xc : Nat} {sb xb : Option Addr} {os us : List Value} {w : World} (hl : us.length = m * i.size) (hx : m ≠ 0 → ∃ ad, xb = some ad ∧ ∀ (k : Nat) (u : Value), us[k]? = some u → w.cell? (ad.add k) = some u)
  (hlo : os.length = n * i.size) (hxo : n ≠ 0 → ∃ ad, sb = some ad ∧ ∀ (k : Nat) (u : Value), os[k]? = some u → w.cell? (ad.add k) = some u)
  (hfit : cap < n + m) (hlim : Builtin.nextslicecap (n + m) cap * i.bytes ≤ 2 ^ 48) (hz0 : i.bytes = 0 → n + m ≤ 2 ^ 40) :
  ∃ (w' : World) (newCap : Nat) (rest : Array Value), w'.heap = w.heap ∧ Rest w w' ∧ n + m ≤ newCap ∧ rest.size = (newCap - (n + m)) * i.size ∧ (Builtin.append_ ats ty #[.slice sb n cap, .slice xb m xc]).run P w = .ok (.slice (some ⟨w.heap.size, 0, none⟩) (n + m) newCap) { w' with heap := w'.heap.push (.cells (os.toArray ++ us.toArray ++ rest) e (0, 0)) } := by
 let w' : World := w.drew
 let q : Question := .appendCap (n + m) cap e
 have hcell : ∀ ad : Addr, w'.cell? ad = w.cell? ad := fun ad => rfl
 have hfo := run_firstCells (P := P) (xc := cap) (size := i.size) (w := w') hlo (fun h0 => by obtain ⟨ad, h3, h4⟩ := hxo h0; exact ⟨ad, h3, fun k u hk => by rw [hcell]; exact h4 k u hk⟩)
 have hfx := run_firstCells (P := P) (xc := xc) (size := i.size) (w := w') hl (fun h0 => by obtain ⟨ad, h3, h4⟩ := hx h0; exact ⟨ad, h3, fun k u hk => by rw [hcell]; exact h4 k u hk⟩)
 have hlim1 : ¬ Builtin.nextslicecap (n + m) cap * i.bytes > 2 ^ 48 := by omega
 refine ⟨w', q.cut (w.tape w.drawn q), Builtin.zeroCells z.cells (q.cut (w.tape w.drawn q) - (n + m)), rfl, ⟨rfl, rfl, rfl⟩, ?_, ?_, ?_⟩
 ·simp only [q, Question.cut]
  omega
 ·simp [Builtin.zeroCells, hi.cells]
 ·have hnle : ¬ n + m ≤ cap := by omega
  have hforced : (Question.appendCap (n + m) cap e).forced = false := rfl
  have hbig : ¬ (9223372036854775807 < (n : Int) + (m : Int) ∧ i.bytes = 0) := by
   rintro ⟨h5, h6⟩
   have := hz0 h6
   omega
  have hlim' : ¬ (2 : Nat) ^ 48 < Builtin.nextslicecap (n + m) cap * i.bytes := hlim1
  have hfo' : (Builtin.firstCells i.size n (Value.slice sb n cap)).run P w.drew = .ok os.toArray w.drew := hfo
  have hfx' : (Builtin.firstCells i.size m (Value.slice xb m xc)).run P w.drew = .ok us.toArray w.drew := hfx
  simp [Builtin.append_, h1, h2, run_underlying hu, run_underlying hu2, run_sizeOf hi.info, Builtin.lenOf, hnle, typeInfo, hi.info, hbig, hlim', hforced, hfo', hfx', run_zeroValue hi.info hi.zero, newRow]
  refine ⟨rfl, congrArg (fun r => w.drew.alloc (Obj.cells r e (0, 0))) ?_⟩
  apply Array.ext'
  simp [q]
theorem call_builtin {cl : Call} {b : Builtin} (ho : o.op = .call cl) (hc : cl.callee = .builtin b) (ρ : Operand → Value) : execOp ρ o = builtin b cl.argTypes o.type (cl.args.map fun | .const _ => true | _ => false) (cl.args.map ρ) := by
 cases cl
 simp only at hc
 subst hc
 simp only [execOp, ho, resolve, invoke]
 rfl
theorem flat_cat {cols ys zs : List Col} {n m : Nat} {os us : List Value} (rest : List Value) (hz : zipAll Col.join cols ys = some zs) (hc : ∀ col ∈ cols, col.len = n) (hy : ∀ col ∈ ys, col.len = m)
  (hf1 : FlatIs c cols n os) (hlo : os.length = n * cols.length) (hf2 : FlatIs c ys m us) (hl : us.length = m * ys.length) : FlatIs c zs (n + m) (os ++ us ++ rest) ∧ ∀ col ∈ zs, col.len = n + m := by
 have hzl := zipAll_len hz
 refine ⟨fun i hi j col hj => ?_, fun col hcol => ?_⟩
 ·obtain ⟨x, y, z1, z2, z3⟩ := zipAll_get hz hj
  obtain ⟨j1, j2, j3⟩ := Col.join_spec (c := c) z3
  have hx := hc x (List.mem_of_getElem? z1)
  have hjl : j < cols.length := (List.getElem?_eq_some_iff.1 z1).1
  by_cases hin : i < n
  ·obtain ⟨u, g1, g2⟩ := hf1 i hin j x z1
   refine ⟨u, ?_, j2 i u (by omega) g2⟩
   have := idx_lt hjl hin
   rw [← hzl.1, List.append_assoc, List.getElem?_append_left (by omega), g1]
  ·obtain ⟨u, g1, g2⟩ := hf2 (i - n) (by omega) j y z2
   refine ⟨u, ?_, by have := j3 (i - n) u g2; rwa [hx, show n + (i - n) = i by omega] at this⟩
   have h3 : i * zs.length + j = n * cols.length + ((i - n) * ys.length + j) := by
    rw [← hzl.1, hzl.2, ← hzl.1, ← Nat.add_assoc, ← Nat.add_mul]
    congr 2
    omega
   have h4 := idx_lt (s := ys.length) (i := i - n) (n := m) (j := j) (by omega) (by omega)
   rw [h3, List.append_assoc, List.getElem?_append_right (by omega), hlo, show n * cols.length + ((i - n) * ys.length + j) - n * cols.length = (i - n) * ys.length + j by omega, List.getElem?_append_left (by omega), g1]
 ·obtain ⟨j, hj⟩ := List.getElem?_of_mem hcol
  obtain ⟨x, y, z1, z2, z3⟩ := zipAll_get hz hj
  rw [(Col.join_spec (c := c) z3).1, hc x (List.mem_of_getElem? z1), hy y (List.mem_of_getElem? z2)]
theorem append_full (h : At P w0 T H c a.tmps g) {cl : Call} {x y : Operand} {t t2 e e2 : TypeId} {id n m fr : Nat} {cols ys zs : List Col} {rd : List Nat} {av : AV} (hfr : H.at fr = none) (ho : o.op = .call cl) (hcl : cl.callee = .builtin .append) (hargs : cl.args = #[x, y]) (h1 : cl.argTypes[0]? = some t) (h2 : cl.argTypes[1]? = some t2)
  (ht : rowType P t = some e) (hu2 : P.underlying t2 = some (.slice e2)) (he : elemOk P e = true) (hx : opd P T g t x = .full id) (hy : opd P T g t2 y = av) (hsl : sliceOf H av = some (m, ys, rd)) (hid : H.at id = some (.row e n cols)) (hsz : cols.length = (colsOf P 9 e).length) (hz : zipAll Col.join cols ys = some zs) (hroom : n + m ≤ wide P e) :
  Goes P o a w0 (writeAll H [(id, .dead), (fr, .row e (n + m) zs)]) c (.full fr) := by
 obtain ⟨i, z, hi⟩ := elemOk_is he
 have hu := rowType_some ht
 have rx := opd_eq h hx
 have ry := opd_eq h hy
 have hslx : sliceOf H (.full id) = some (n, cols, [id]) := by simp [sliceOf, hid]
 obtain ⟨sb, cap, os, hvx, hcx, hlo, hfo, hleno⟩ := sliceOf_rel h.heap hslx rx
 obtain ⟨xb, xc, us, hvy, hcy, hl, hf, hlen⟩ := sliceOf_rel h.heap hsl ry
 simp only [Rel] at rx
 obtain ⟨p, ad, hp, hv, had⟩ := rx
 obtain ⟨p', hp', hob⟩ := h.heap.obj id _ hid
 rw [hp] at hp'
 cases hp'
 obtain ⟨q1, q2, q3, q4, q5, q6⟩ := hob
 have hzl := zipAll_len hz
 have hsi : i.size = cols.length := by rw [hi.size, hsz]
 have hsy : ys.length = cols.length := by omega
 rw [hvx] at hv
 cases hv
 have hone := hf.ones hl
 have hne : fr ≠ id := by
  rintro rfl
  rw [hid] at hfr
  cases hfr
 have hH1 := h.heap.drop id hid
 have hfr1 : Heap.at (setAt H id .dead) fr = none := by rw [Heap.at_setAt, if_neg hne]; exact hfr
 have hex : execOp a.eval o = (do pure (.value (← Builtin.append_ cl.argTypes o.type #[a.eval x, a.eval y]))) := by
  rw [call_builtin ho hcl, hargs]
  simp only [builtin, List.map_toArray, List.map_cons, List.map_nil]
 have fin : ∀ (v : Value) (c' : Cx), (Builtin.append_ cl.argTypes o.type #[a.eval x, a.eval y]).run P c.w = .ok v c'.w → c.le c' → HeapOK w0 (setAt (setAt H id .dead) fr (.row e (p.n + m) zs)) c' → Rel c' (.full fr) v → Goes P o a w0 (writeAll H [(id, .dead), (fr, .row e (p.n + m) zs)]) c (.full fr) := by
  intro v c' e1 e2 e3 e4
  exact ⟨v, c', .inl (by rw [hex]; simp only [Sem.run_bind, e1, Result.andThen_ok, Sem.run_pure]), e2, e3, e4⟩
 by_cases hfit : p.n + m ≤ p.cap
 ·by_cases hc0 : p.cap = 0
  ·have hn0 : p.n = 0 := by omega
   have hm0 : m = 0 := by omega
   subst hm0
   have hrun := run_append_none (P := P) (ty := o.type) (sb := sb) (xb := xb) (xc := xc) (w := c.w) h1 h2 hu hu2 hi.info
   have hn1 := h.heap.free fr hfr
   have hle : c.le (c.putAt c.w fr ⟨0, cols.length, 0, 0⟩) := ⟨fun q r hq => by
     show (if q = fr then _ else c.π q) = _
     rw [if_neg (by rintro rfl; rw [hn1] at hq; cases hq)]
     exact hq, fun _ h => h, fun _ _ => rfl, Nat.le_refl _, rfl, rfl, rfl⟩
   have hcat := flat_cat (c := c) [] hz q5 hlen hfo hlo hf hl
   refine fin (.slice sb 0 0) (c.putAt c.w fr ⟨0, cols.length, 0, 0⟩) ?_ hle ?_ ?_
   ·rw [hvx, hvy, hn0, hc0]
    exact hrun
   ·refine hH1.write fr _ ⟨0, cols.length, 0, 0⟩ hle (fun _ h => h) (by simp [Cx.putAt]) (fun q hq => by simp [Cx.putAt, hq]) (fun _ _ _ _ => rfl) ?_ (fun hm => absurd rfl hm) (fun _ _ => rfl)
    exact ⟨by simp [hn0], by simp [hzl.1], by simp [hn0], by rw [← hzl.1]; exact q4, hcat.2, fun hne0 => absurd rfl hne0⟩
   ·simp only [Rel]
    exact ⟨_, _, by simp [Cx.putAt]; rfl, rfl, fun hne0 => absurd rfl hne0⟩
  ·have hsb := had hc0
   subst hsb
   obtain ⟨arr, ct, ha, hsA, hxA⟩ := q6 hc0
   have hcap : (p.n + m) * cols.length ≤ p.cap * cols.length := Nat.mul_le_mul_right _ hfit
   rw [Nat.add_mul] at hcap
   have hrun := run_append_in (P := P) (ty := o.type) (off := 0) (n := p.n) (cap := p.cap) (xc := xc) (cur := arr) (ct := ct) h1 h2 hu hu2 hi.info (by rw [hl, hsi, hsy]) hcy hfit hone ha (by rw [hl, hsy, hsi, hsA, q2]; omega)
   have hlarr : arr.toList.length = p.cap * cols.length := by simp [hsA, q2]
   have hlive : Live H c id p := ⟨_, hid, hp, hc0⟩
   have hn1 := h.heap.free fr hfr
   obtain ⟨o1, o2, o3⟩ := h.heap.out id p hlive
   let w' := c.w.setRow p.b (overL arr.toList (0 + p.n * i.size) us).toArray
   let pl : Place := ⟨p.b, p.sz, p.n + m, p.cap⟩
   have hle : c.le (c.putAt w' fr pl) := ⟨fun q r hq => by
     show (if q = fr then _ else c.π q) = _
     rw [if_neg (by rintro rfl; rw [hn1] at hq; cases hq)]
     exact hq, fun _ h => h, fun b hb => setRow_other _ _ _ _ (fun e => o3 (e ▸ hb)), Nat.le_of_eq (setRow_size _ _ _).symm, rfl, rfl, rfl⟩
   have hos : FlatIs c cols p.n (arr.toList.take (p.n * cols.length)) := by
    intro i' hi' j col hj
    obtain ⟨u, g1, g2⟩ := hxA i' hi' j col hj
    have hjl : j < cols.length := (List.getElem?_eq_some_iff.1 hj).1
    rw [q2] at g1
    exact ⟨u, by rw [List.getElem?_take, if_pos (idx_lt hjl hi')]; simpa using g1, g2⟩
   have hcat := flat_cat (c := c) (arr.toList.drop (0 + p.n * cols.length + us.length)) hz q5 hlen hos (by simp only [List.length_take]; omega) hf hl
   have hover : arr.toList.take (p.n * cols.length) ++ us ++ arr.toList.drop (0 + p.n * cols.length + us.length) = overL arr.toList (0 + p.n * i.size) us := by
    rw [hsi, Nat.zero_add]
    rfl
   rw [hover] at hcat
   have hapart : ∀ q r, q ≠ fr → Live (setAt H id .dead) c q r → r.b ≠ p.b := by
    rintro q r _ ⟨oq, hoq, hpq, hmq⟩
    rw [Heap.at_setAt] at hoq
    by_cases hqi : q = id
    ·rw [if_pos hqi] at hoq
     cases hoq
     exact hmq.elim
    ·rw [if_neg hqi] at hoq
     exact h.heap.apart q id r p ⟨oq, hoq, hpq, hmq⟩ hlive hqi
   refine fin (.slice (some ⟨p.b, 0, none⟩) (p.n + m) p.cap) (c.putAt w' fr pl) ?_ hle ?_ ?_
   ·rw [hvx, hvy]
    exact hrun
   ·refine hH1.write fr _ pl hle (fun _ h => h) (by simp [Cx.putAt]) (fun q hq => by simp [Cx.putAt, hq]) ?_ ?_ ?_ ?_
    ·intro q r hq hlq
     exact setRow_other _ _ _ _ (hapart q r hq hlq)
    ·refine ⟨rfl, by show p.sz = _; omega, hfit, by rw [← hzl.1]; exact q4, hcat.2, fun _ => ⟨_, ct, setRow_heap _ _ _ _ _ _ ha, ?_, fun i' hi' j col hj => ?_⟩⟩
     ·simp only [List.size_toArray]
      rw [overL_len _ _ _ (by rw [hl, hsy, hsi]; omega)]
      show _ = p.cap * p.sz
      rw [hlarr, q2]
     ·obtain ⟨u, g1, g2⟩ := hcat.1 i' hi' j col hj
      rw [← hzl.1, ← q2] at g1
      exact ⟨u, by rw [List.getElem?_toArray]; exact g1, g2.mono hle⟩
    ·intro _
     exact ⟨o1, by show p.b < w'.heap.size; rw [setRow_size]; exact o2, o3, hapart⟩
    ·intro b hb
     exact setRow_other _ _ _ _ (by omega)
   ·simp only [Rel]
    exact ⟨pl, _, by simp [Cx.putAt], rfl, fun _ => rfl⟩
 ·obtain ⟨w', newCap, rest, hw', hrs, hcap, hrest, hrun⟩ := run_append_new (P := P) (ty := o.type) (xc := xc) (n := p.n) (cap := p.cap) (sb := sb) h1 h2 hu hu2 hi (by rw [hl, hsi, hsy]) hcy (by rw [hlo, hsi]) hcx (by omega) (lim_of hi (by omega) hroom) (wide_is hi hroom).2
  have hcat := flat_cat (c := c) rest.toList hz q5 hlen hfo hlo hf hl
  obtain ⟨r1, r2, r3⟩ := new_row hH1 hfr1 e e w' hw' hrs (cols := zs) (n := p.n + m) (cap := newCap) (arr := os.toArray ++ us.toArray ++ rest) (by rw [← hzl.1]; exact q4) hcap hcat.2 (by
   simp only [Array.size_append, List.size_toArray, hrest, hlo, hl, hsi, hsy, ← hzl.1, ← Nat.add_mul]
   congr 1
   omega) (by simpa using hcat.1)
  refine fin _ _ ?_ r1 r2 r3
  rw [hvx, hvy]
  exact hrun
theorem append_emp (h : At P w0 T H c a.tmps g) {cl : Call} {x y : Operand} {t t2 e e2 e3 : TypeId} {m fr : Nat} {cols ys zs : List Col} {rd : List Nat} {av : AV} (hfr : H.at fr = none) (ho : o.op = .call cl) (hcl : cl.callee = .builtin .append) (hargs : cl.args = #[x, y]) (h1 : cl.argTypes[0]? = some t) (h2 : cl.argTypes[1]? = some t2)
  (ht : rowType P t = some e) (hu2 : P.underlying t2 = some (.slice e2)) (he : elemOk P e = true) (hx : opd P T g t x = .emp e3 cols) (hy : opd P T g t2 y = av) (hsl : sliceOf H av = some (m, ys, rd)) (hz : zipAll Col.join (colsOf P 9 e) ys = some zs) (hroom : m ≤ wide P e) :
  Goes P o a w0 (writeAll H [(fr, .row e m zs)]) c (.full fr) := by
 obtain ⟨i, z, hi⟩ := elemOk_is he
 have hwd := wide_is hi hroom
 have hu := rowType_some ht
 have rx := opd_eq h hx
 have ry := opd_eq h hy
 obtain ⟨xb, xc, us, hvy, hcy, hl, hf, hlen⟩ := sliceOf_rel h.heap hsl ry
 simp only [Rel] at rx
 obtain ⟨_, sb, hvx⟩ := rx
 have hzl := zipAll_len hz
 have hpos : 0 < zs.length := by rw [← hzl.1, ← hi.size]; exact hi.pos
 have hsy : ys.length = i.size := by rw [hi.size]; omega
 have hex : execOp a.eval o = (do pure (.value (← Builtin.append_ cl.argTypes o.type #[a.eval x, a.eval y]))) := by
  rw [call_builtin ho hcl, hargs]
  simp only [builtin, List.map_toArray, List.map_cons, List.map_nil]
 have fin : ∀ (v : Value) (c' : Cx), (Builtin.append_ cl.argTypes o.type #[a.eval x, a.eval y]).run P c.w = .ok v c'.w → c.le c' → HeapOK w0 (setAt H fr (.row e m zs)) c' → Rel c' (.full fr) v → Goes P o a w0 (writeAll H [(fr, .row e m zs)]) c (.full fr) := by
  intro v c' e1 e2 e3 e4
  exact ⟨v, c', .inl (by rw [hex]; simp only [Sem.run_bind, e1, Result.andThen_ok, Sem.run_pure]), e2, e3, e4⟩
 have hcat := flat_cat (c := c) (n := 0) (os := []) [] hz (colsOf_len 9 e) hlen (fun i' hi' => by omega) (by simp) hf hl
 rw [Nat.zero_add] at hcat
 by_cases hm0 : m = 0
 ·subst hm0
  have hrun := run_append_none (P := P) (ty := o.type) (sb := sb) (xb := xb) (xc := xc) (w := c.w) h1 h2 hu hu2 hi.info
  have hn1 := h.heap.free fr hfr
  have hle : c.le (c.putAt c.w fr ⟨0, zs.length, 0, 0⟩) := ⟨fun q r hq => by
    show (if q = fr then _ else c.π q) = _
    rw [if_neg (by rintro rfl; rw [hn1] at hq; cases hq)]
    exact hq, fun _ h => h, fun _ _ => rfl, Nat.le_refl _, rfl, rfl, rfl⟩
  refine fin (.slice sb 0 0) (c.putAt c.w fr ⟨0, zs.length, 0, 0⟩) ?_ hle ?_ ?_
  ·rw [hvx, hvy]
   exact hrun
  ·refine h.heap.write fr _ ⟨0, zs.length, 0, 0⟩ hle (fun _ h => h) (by simp [Cx.putAt]) (fun q hq => by simp [Cx.putAt, hq]) (fun _ _ _ _ => rfl) ?_ (fun hm => absurd rfl hm) (fun _ _ => rfl)
   exact ⟨rfl, rfl, Nat.le_refl _, hpos, hcat.2, fun hne0 => absurd rfl hne0⟩
  ·simp only [Rel]
   exact ⟨_, _, by simp [Cx.putAt]; rfl, rfl, fun hne0 => absurd rfl hne0⟩
 ·obtain ⟨w', newCap, rest, hw', hrs, hcap, hrest, hrun⟩ := run_append_new (P := P) (ty := o.type) (xc := xc) (n := 0) (cap := 0) (sb := sb) (os := []) h1 h2 hu hu2 hi (by rw [hl, hsy]) hcy (by simp) (fun h => absurd rfl h) (by omega) (by rw [Nat.zero_add, next_zero]; omega) (fun h0 => by rw [Nat.zero_add]; exact hwd.2 h0)
  rw [Nat.zero_add] at hcap hrest hrun
  have hcat' := flat_cat (c := c) (n := 0) (os := []) rest.toList hz (colsOf_len 9 e) hlen (fun i' hi' => by omega) (by simp) hf hl
  rw [Nat.zero_add] at hcat'
  obtain ⟨r1, r2, r3⟩ := new_row h.heap hfr e e w' hw' hrs (cols := zs) (n := m) (cap := newCap) (arr := ([] : List Value).toArray ++ us.toArray ++ rest) hpos hcap hcat'.2 (by
   simp only [Array.size_append, List.size_toArray, List.length_nil, hrest, hl, hsy, ← hzl.1, hi.size, Nat.zero_add, ← Nat.add_mul]
   congr 1
   omega) (by simpa using hcat'.1)
  refine fin _ _ ?_ r1 r2 r3
  rw [hvx, hvy]
  exact hrun
end
end Go.Own
end
section
namespace Go.Own
open Go
section
variable {P : Program} {w0 : Base} {T : List AV} {H : Heap} {c : Cx} {a : Act} {g : Option (Nat × Bool)} {o : Oper}
theorem row_over (h : HeapOK w0 H c) {id : Nat} {e : TypeId} {k off m : Nat} {p : Place} {cols ys zs : List Col} {us : List Value} (hid : H.at id = some (.row e k cols)) (hp : c.π id = some p) (hz : zipAll (fun c y => Col.over c off y) cols ys = some zs) (hy : ∀ col ∈ ys, col.len = m)
  (hf : FlatIs c ys m us) (hl : us.length = m * ys.length) (hfit : off + m ≤ k) (hm : m ≠ 0) :
  ∃ arr ct, c.w.heap[p.b]? = some (.cells arr ct (0, 0)) ∧ off * p.sz + us.length ≤ arr.size ∧ HeapOK w0 (setAt H id (.row e k zs)) (c.with (c.w.setRow p.b (overL arr.toList (off * p.sz) us).toArray)) ∧ c.le (c.with (c.w.setRow p.b (overL arr.toList (off * p.sz) us).toArray)) := by
 obtain ⟨p', hp', hob⟩ := h.obj id _ hid
 rw [hp] at hp'
 cases hp'
 obtain ⟨q1, q2, q3, q4, q5, q6⟩ := hob
 subst q1
 obtain ⟨arr, ct, ha, hs, hx⟩ := q6 (by omega)
 have hzl := zipAll_len hz
 have hsy : ys.length = p.sz := by omega
 have hmul : (off + m) * p.sz ≤ p.cap * p.sz := Nat.mul_le_mul_right _ (by omega)
 rw [Nat.add_mul] at hmul
 have hul : us.length = m * p.sz := by rw [hl, hsy]
 have hroom : off * p.sz + us.length ≤ arr.size := by omega
 obtain ⟨hh, hle⟩ := h.store id (.row e p.n zs) (c.w.setRow p.b (overL arr.toList (off * p.sz) us).toArray) ⟨rfl, rfl, rfl⟩ hid hp (by show p.cap ≠ 0; omega) (setRow_size _ _ _) (fun b hb => setRow_other _ _ _ _ hb) (fun hle => by
  refine ⟨rfl, by omega, q3, by omega, ?_, fun _ => ⟨_, ct, setRow_heap _ _ _ _ _ _ ha, ?_, fun i hi j col hj => ?_⟩⟩
  ·intro col hcol
   obtain ⟨j, hj⟩ := List.getElem?_of_mem hcol
   obtain ⟨x, y, z1, z2, z3⟩ := zipAll_get hz hj
   rw [(Col.over_spec (c := c) z3 (by rw [hy y (List.mem_of_getElem? z2), q5 x (List.mem_of_getElem? z1)]; exact hfit)).1]
   exact q5 x (List.mem_of_getElem? z1)
  ·simp only [List.size_toArray]
   rw [overL_len _ _ _ (by simpa using hroom)]
   simpa using hs
  ·obtain ⟨x, y, z1, z2, z3⟩ := zipAll_get hz hj
   have hylen := hy y (List.mem_of_getElem? z2)
   obtain ⟨s1, s2, s3⟩ := Col.over_spec (c := c) z3 (by rw [hylen, q5 x (List.mem_of_getElem? z1)]; exact hfit)
   have hjl : j < p.sz := by rw [q2]; exact (List.getElem?_eq_some_iff.1 z1).1
   have hget : (overL arr.toList (off * p.sz) us).toArray[i * p.sz + j]? = if i * p.sz + j < off * p.sz then arr[i * p.sz + j]? else if i * p.sz + j < off * p.sz + us.length then us[i * p.sz + j - off * p.sz]? else arr[i * p.sz + j]? := by
    rw [List.getElem?_toArray, overL_get _ _ _ _ (by simp; omega)]
    simp
   by_cases hin : off ≤ i ∧ i < off + m
   ·obtain ⟨u, g1, g2⟩ := hf (i - off) (by omega) j y z2
    have h1 : i * p.sz = off * p.sz + (i - off) * p.sz := by rw [← Nat.add_mul]; congr 1; omega
    have h2 := idx_lt (s := p.sz) (i := i - off) (n := m) hjl (by omega)
    refine ⟨u, ?_, ?_⟩
    ·rw [hget, if_neg (by omega), if_pos (by omega), show i * p.sz + j - off * p.sz = (i - off) * ys.length + j by rw [hsy]; omega, g1]
    ·have := s3 (i - off) u (by omega) g2
     rw [show off + (i - off) = i by omega] at this
     exact this.mono hle
   ·obtain ⟨u, g1, g2⟩ := hx i hi j x z1
    refine ⟨u, ?_, (s2 i u (by omega) g2).mono hle⟩
    rw [hget]
    by_cases hlt : i < off
    ·have := idx_lt (s := p.sz) hjl hlt
     rw [if_pos this, g1]
    ·have h3 : (off + m) * p.sz ≤ i * p.sz := Nat.mul_le_mul_right _ (by omega)
     rw [Nat.add_mul] at h3
     rw [if_neg (by omega), if_neg (by omega), g1])
 exact ⟨arr, ct, ha, hroom, hh, hle⟩
theorem over_nil {x y z : Col} {a : Nat} (h : x.over a y = some z) (hy : y.len = 0) : z = x := by
 cases x <;> cases y <;> simp only [Col.over, reduceCtorEq] at h <;> simp only [Col.len, List.length_eq_zero_iff] at hy <;> subst hy
 ·split at h
  ·rename_i hk; cases h; simp [ovr, hk]
  ·cases h
 ·cases h; simp [ovr]
 ·split at h
  ·rename_i hk; cases h; simp [ovr, hk]
  ·cases h
theorem zip_over_nil {off : Nat} : ∀ {cols ys zs : List Col}, zipAll (fun c y => Col.over c off y) cols ys = some zs → (∀ col ∈ ys, col.len = 0) → zs = cols
 | [], [], zs, h, _ => by simp only [zipAll, Option.some.injEq] at h; exact h.symm
 | x :: cols, y :: ys, zs, h, hy => by
  simp only [zipAll] at h
  split at h
  ·rename_i z zs' h1 h2
   cases h
   rw [over_nil h1 (hy y (by simp)), zip_over_nil h2 (fun col hc => hy col (by simp [hc]))]
  ·cases h
 | [], _ :: _, _, h, _ => by simp [zipAll] at h
 | _ :: _, [], _, h, _ => by simp [zipAll] at h
theorem row_same (h : HeapOK w0 H c) {id : Nat} {ob : AObj} (hid : H.at id = some ob) : HeapOK w0 (setAt H id ob) c := by
 obtain ⟨p, hp, hob⟩ := h.obj id ob hid
 refine h.write id ob p (Cx.le.refl c) (fun _ h => h) hp (fun _ _ => rfl) (fun _ _ _ _ => rfl) hob ?_ (fun _ _ => rfl)
 intro hm
 have hl : Live H c id p := ⟨ob, hid, hp, hm⟩
 obtain ⟨h1, h2, h3⟩ := h.out id p hl
 exact ⟨h1, h2, h3, fun x q hx hq => h.apart x id q p hq hl hx⟩
theorem append_osl (h : At P w0 T H c a.tmps g) {cl : Call} {x y : Operand} {t t2 e e2 : TypeId} {id off n k m : Nat} {cols ys zs : List Col} {rd : List Nat} {av : AV} (ho : o.op = .call cl) (hcl : cl.callee = .builtin .append) (hargs : cl.args = #[x, y]) (h1 : cl.argTypes[0]? = some t) (h2 : cl.argTypes[1]? = some t2)
  (ht : rowType P t = some e) (hu2 : P.underlying t2 = some (.slice e2)) (he : elemOk P e = true) (hx : opd P T g t x = .osl id off n) (hy : opd P T g t2 y = av) (hsl : sliceOf H av = some (m, ys, rd)) (hid : H.at id = some (.row e k cols)) (hsz : cols.length = (colsOf P 9 e).length) (hz : zipAll (fun c y => Col.over c (off + n) y) cols ys = some zs) (hfit : off + n + m ≤ k) :
  Goes P o a w0 (writeAll H [(id, .row e k zs)]) c (.osl id off (n + m)) := by
 obtain ⟨i, z, hi⟩ := elemOk_is he
 have hu := rowType_some ht
 have rx := opd_eq h hx
 have ry := opd_eq h hy
 obtain ⟨xb, xc, us, hvy, hcy, hl, hf, hlen⟩ := sliceOf_rel h.heap hsl ry
 simp only [Rel] at rx
 obtain ⟨p, sb, hp, hvx, hoff, hcap, had⟩ := rx
 obtain ⟨p', hp', hob⟩ := h.heap.obj id _ hid
 rw [hp] at hp'
 cases hp'
 have hob' := hob
 obtain ⟨q1, q2, q3, q4, q5, q6⟩ := hob'
 have hzl := zipAll_len hz
 have hsi : i.size = cols.length := by rw [hi.size, hsz]
 have hsy : ys.length = cols.length := by omega
 have hone := hf.ones hl
 have hex : execOp a.eval o = (do pure (.value (← Builtin.append_ cl.argTypes o.type #[a.eval x, a.eval y]))) := by
  rw [call_builtin ho hcl, hargs]
  simp only [builtin, List.map_toArray, List.map_cons, List.map_nil]
 by_cases hm0 : m = 0
 ·subst hm0
  have hzs := zip_over_nil hz hlen
  subst hzs
  refine ⟨.slice sb n (p.cap - off), c, .inl ?_, Cx.le.refl c, row_same h.heap hid, ?_⟩
  ·rw [hex, hvx, hvy]
   have hfc := run_firstCells (P := P) (xc := xc) (size := i.size) (xb := xb) (us := []) (m := 0) (w := c.w) (by simp) (fun h => absurd rfl h)
   have hle : n ≤ p.cap - off := by omega
   cases sb with
   | none => simp [Builtin.append_, h1, h2, run_underlying hu, run_underlying hu2, run_sizeOf hi.info, Builtin.lenOf, hfc, hle]
   | some ad => simp [Builtin.append_, h1, h2, run_underlying hu, run_underlying hu2, run_sizeOf hi.info, Builtin.lenOf, hfc, hle, storeCells]
  ·simp only [Rel, Nat.add_zero]
   exact ⟨p, sb, hp, rfl, hoff, hcap, had⟩
 ·obtain ⟨arr, ct, ha, hroom, hh, hle⟩ := row_over h.heap hid hp hz hlen hf hl hfit hm0
  have hsb := had (by omega)
  subst hsb
  have e1 : off * p.sz + n * i.size = (off + n) * p.sz := by rw [hsi, ← q2, Nat.add_mul]
  have hrun := run_append_in (P := P) (ty := o.type) (off := off * p.sz) (n := n) (cap := p.cap - off) (xc := xc) (cur := arr) (ct := ct) h1 h2 hu hu2 hi.info (by rw [hl, hsi, hsy]) hcy (by omega) hone ha (by rw [e1]; exact hroom)
  rw [e1] at hrun
  refine ⟨.slice (some ⟨p.b, off * p.sz, none⟩) (n + m) (p.cap - off), _, .inl ?_, hle, hh, ?_⟩
  ·rw [hex, hvx, hvy]
   simp only [Sem.run_bind, hrun, Result.andThen_ok, Sem.run_pure]
   rfl
  ·simp only [Rel]
   exact ⟨p, _, hp, rfl, by omega, hcap, fun _ => rfl⟩
theorem run_sliceBounds {len cap : Nat} {lo hi : Option Value} {l hh : Nat} (hlo : lo = none ∧ l = 0 ∨ ∃ k, lo = some (.int k (l : Int))) (hhi : hi = none ∧ hh = len ∨ ∃ k, hi = some (.int k (hh : Int))) (h1 : l ≤ hh) (h2 : hh ≤ cap) (w : World) :
  (Instr.sliceBounds true len cap lo hi none).run P w = .ok (l, hh, cap) w := by
 have hb : ∀ (k : IntKind) (n y : Nat) (code : BoundsCode), n ≤ y → (Instr.sliceBound (.int k (n : Int)) y code).run P w = .ok n w := by
  intro k n y code hle
  have : (0 : Int) ≤ n ∧ (n : Int) ≤ y := by omega
  simp [Instr.sliceBound, asIntOf, this]
 rcases hlo with ⟨rfl, rfl⟩ | ⟨k1, rfl⟩ <;> rcases hhi with ⟨rfl, rfl⟩ | ⟨k2, rfl⟩ <;> simp [Instr.sliceBounds, hb, h1, h2]
theorem boundAV_rel (h : At P w0 T H c a.tmps g) {ox : Option Operand} {d n : Int} (hx : boundAV P T g ox d = some n) : ox.map a.eval = none ∧ n = d ∨ ∃ k, ox.map a.eval = some (.int k n) := by
 unfold boundAV at hx
 cases ox with
 | none => simp at hx; exact .inl ⟨rfl, hx.symm⟩
 | some y =>
  simp only at hx
  split at hx
  ·rename_i k n' hy
   cases hx
   exact .inr ⟨k, by simp [rel_int (opd_eq h hy)]⟩
  ·cases hx
theorem run_sliceAt {t e : TypeId} {i : TypeInfo} (hu : P.underlying t = some (.slice e)) (hi : P.info? e = some i) {base : Option Addr} {len cap : Nat} {lo hh : Option Value} {l h' : Nat} {w : World} (hb : (Instr.sliceBounds true len cap lo hh none).run P w = .ok (l, h', cap) w) :
  (Instr.sliceAt t (.slice base len cap) lo hh none).run P w = .ok (.slice (if cap = l then base else base.map (·.add (l * i.size))) (h' - l) (cap - l)) w := by
 simp [Instr.sliceAt, Instr.slice, run_underlying hu, hb, run_sizeOf hi]
theorem bounds_of (h : At P w0 T H c a.tmps g) {lo hi : Option Operand} {l hh : Int} {len cap : Nat} (hl : boundAV P T g lo 0 = some l) (hh' : boundAV P T g hi (ofN len) = some hh) (h0 : 0 ≤ l) (h1 : l ≤ hh) (h2 : hh ≤ cap) (w : World) :
  (Instr.sliceBounds true len cap (lo.map a.eval) (hi.map a.eval) none).run P w = .ok (l.toNat, hh.toNat, cap) w := by
 have e1 : ((l.toNat : Nat) : Int) = l := by omega
 have e2 : ((hh.toNat : Nat) : Int) = hh := by omega
 refine run_sliceBounds ?_ ?_ (by omega) (by omega) w
 ·rcases boundAV_rel h hl with ⟨h3, h4⟩ | ⟨k, h3⟩
  ·exact .inl ⟨h3, by omega⟩
  ·exact .inr ⟨k, by rw [h3, e1]⟩
 ·rcases boundAV_rel h hh' with ⟨h3, h4⟩ | ⟨k, h3⟩
  ·exact .inl ⟨h3, by simp [ofN] at h4; omega⟩
  ·exact .inr ⟨k, by rw [h3, e2]⟩
theorem slice_any (h : At P w0 T H c a.tmps g) {t e : TypeId} {x : Operand} {lo hi : Option Operand} {l hh : Int} {len cap n : Nat} {base : Option Addr} {v : AV} (ho : o.op = .slice t x lo hi none) (ht : rowType P t = some e) (hs : szOf P e = some n) (hv : a.eval x = .slice base len cap)
  (hl : boundAV P T g lo 0 = some l) (hh' : boundAV P T g hi (ofN len) = some hh) (h0 : 0 ≤ l) (h1 : l ≤ hh) (h2 : hh ≤ cap)
  (hr : Rel c v (.slice (if cap = l.toNat then base else base.map (·.add (l.toNat * n))) (hh.toNat - l.toNat) (cap - l.toNat))) : Goes P o a w0 H c v := by
 obtain ⟨ti, d, hi', hd, rfl⟩ := szOf_some hs
 refine value_of h (u := _) (s := Instr.sliceAt t (a.eval x) (lo.map a.eval) (hi.map a.eval) none) (by simp only [execOp, ho, Option.map_none]) ?_ hr
 rw [hv]
 exact run_sliceAt (rowType_some ht) hi' (bounds_of h hl hh' h0 h1 h2 c.w)
theorem toNat_sub {l hh : Int} (h0 : 0 ≤ l) (h1 : l ≤ hh) : hh.toNat - l.toNat = (hh - l).toNat := by omega
theorem toNat_add {l hh : Int} (h0 : 0 ≤ l) (h1 : l ≤ hh) : l.toNat + (hh - l).toNat = hh.toNat := by omega
theorem slice_sl (h : At P w0 T H c a.tmps g) {t e : TypeId} {x : Operand} {lo hi : Option Operand} {l hh : Int} {n : Nat} {cols : List Col} (ho : o.op = .slice t x lo hi none) (ht : rowType P t = some e) (hs : szOf P e = some cols.length) (hx : opd P T g t x = .sl n cols)
  (hl : boundAV P T g lo 0 = some l) (hh' : boundAV P T g hi (ofN n) = some hh) (h0 : 0 ≤ l) (h1 : l ≤ hh) (h2 : hh ≤ n) : Goes P o a w0 H c (.sl (nDiff hh l) (cols.map (·.part (nOf l) (nDiff hh l)))) := by
 have r := opd_eq h hx
 simp only [Rel] at r
 obtain ⟨base, cap, hv, hcap, hlen, hr⟩ := r
 refine slice_any h ho ht hs hv hl hh' h0 h1 (by omega) ?_
 simp only [Rel, nDiff, nOf]
 rw [toNat_sub h0 h1]
 have hfit : l.toNat + (hh - l).toNat ≤ n := by omega
 refine ⟨_, _, rfl, by omega, ?_, ?_⟩
 ·intro col hcol
  obtain ⟨col0, h3, rfl⟩ := List.mem_map.1 hcol
  exact (Col.part_spec (c := c) (by rw [hlen col0 h3]; exact hfit)).1
 ·by_cases hz : (hh - l).toNat = 0
  ·exact .inl hz
  ·rcases hr with hr | ⟨ad, rfl, hsp, hS, hc⟩
   ·omega
   ·rw [if_neg (by omega)]
    refine .inr ⟨ad.add (l.toNat * cols.length), rfl, ?_, ?_, fun i hi' j col hj => ?_⟩
    ·rw [add_block _ _ hsp]
    ·rw [add_block _ _ hsp]; exact hS
    ·rw [List.getElem?_map] at hj
     cases hcj : cols[j]? with
     | none => simp [hcj] at hj
     | some col0 =>
      simp [hcj] at hj
      subst hj
      obtain ⟨u, g1, g2⟩ := hc (l.toNat + i) (by omega) j col0 hcj
      refine ⟨u, ?_, (Col.part_spec (by rw [hlen col0 (List.mem_of_getElem? hcj)]; exact hfit)).2 i u hi' g2⟩
      rw [add_block _ _ hsp]
      simp only [List.length_map]
      rw [Nat.add_mul] at g1
      simpa [Nat.add_assoc] using g1
theorem slice_full (h : At P w0 T H c a.tmps g) {t e e' : TypeId} {x : Operand} {lo hi : Option Operand} {l hh : Int} {k id : Nat} {cols : List Col} (ho : o.op = .slice t x lo hi none) (ht : rowType P t = some e) (hs : szOf P e = some cols.length) (hx : opd P T g t x = .full id) (hid : H.at id = some (.row e' k cols))
  (hl : boundAV P T g lo 0 = some l) (hh' : boundAV P T g hi (ofN k) = some hh) (h0 : 0 ≤ l) (h1 : l ≤ hh) (h2 : hh ≤ k) : Goes P o a w0 H c (.osl id (nOf l) (nDiff hh l)) := by
 have r := opd_eq h hx
 simp only [Rel] at r
 obtain ⟨p, ad, hp, hv, had⟩ := r
 obtain ⟨p', hp', hob⟩ := h.heap.obj id _ hid
 rw [hp] at hp'
 cases hp'
 obtain ⟨q1, q2, q3, q4, q5, q6⟩ := hob
 subst q1
 refine slice_any h ho ht hs hv hl hh' h0 h1 (by omega) ?_
 simp only [Rel, nDiff, nOf]
 rw [toNat_sub h0 h1]
 refine ⟨p, _, hp, rfl, by omega, q3, fun hlt => ?_⟩
 rw [if_neg (by omega), had (by omega)]
 simp only [Option.map_some, add_off, Nat.zero_add, q2]
theorem slice_osl (h : At P w0 T H c a.tmps g) {t e e' : TypeId} {x : Operand} {lo hi : Option Operand} {l hh : Int} {k id off n : Nat} {cols : List Col} (ho : o.op = .slice t x lo hi none) (ht : rowType P t = some e) (hs : szOf P e = some cols.length) (hx : opd P T g t x = .osl id off n) (hid : H.at id = some (.row e' k cols))
  (hl : boundAV P T g lo 0 = some l) (hh' : boundAV P T g hi (ofN n) = some hh) (h0 : 0 ≤ l) (h1 : l ≤ hh) (h2 : off + hh.toNat ≤ k) : Goes P o a w0 H c (.osl id (nAdd off (nOf l)) (nDiff hh l)) := by
 have r := opd_eq h hx
 simp only [Rel] at r
 obtain ⟨p, ad, hp, hv, hoff, hcap, had⟩ := r
 obtain ⟨p', hp', hob⟩ := h.heap.obj id _ hid
 rw [hp] at hp'
 cases hp'
 obtain ⟨q1, q2, q3, q4, q5, q6⟩ := hob
 subst q1
 have h4 : hh.toNat ≤ p.cap - off := by omega
 have h5 : hh ≤ ((p.cap - off : Nat) : Int) := by
  have h6 : ((hh.toNat : Nat) : Int) = hh := Int.toNat_of_nonneg (Int.le_trans h0 h1)
  rw [← h6]
  exact_mod_cast h4
 refine slice_any h ho ht hs hv hl hh' h0 h1 h5 ?_
 simp only [Rel, nDiff, nOf, nAdd]
 rw [toNat_sub h0 h1]
 have e7 := toNat_add h0 h1
 refine ⟨p, _, hp, by rw [Nat.sub_sub], by rw [Nat.add_assoc, e7]; exact h2, hcap, fun hlt => ?_⟩
 rw [if_neg (by omega), had (by omega)]
 simp only [Option.map_some, add_off, q2, Nat.add_mul]
theorem slice_emp (h : At P w0 T H c a.tmps g) {t e e' : TypeId} {x : Operand} {lo hi : Option Operand} {n : Nat} {cols : List Col} (ho : o.op = .slice t x lo hi none) (ht : rowType P t = some e) (hs : szOf P e = some n) (hx : opd P T g t x = .emp e' cols)
  (hl : boundAV P T g lo 0 = some 0) (hh' : boundAV P T g hi 0 = some 0) : Goes P o a w0 H c (.emp e' cols) := by
 have r := opd_eq h hx
 simp only [Rel] at r
 obtain ⟨hlen, ad, hv⟩ := r
 refine slice_any (len := 0) (cap := 0) (l := 0) (hh := 0) h ho ht hs hv hl hh' (by omega) (by omega) (by omega) ?_
 simp only [Rel]
 exact ⟨hlen, ad, by simp⟩
theorem slice_max (h : At P w0 T H c a.tmps g) {t e : TypeId} {x y z : Operand} {lo : Option Operand} {l hh m : Int} {len cap n : Nat} {base : Option Addr} (ho : o.op = .slice t x lo (some y) (some z)) (ht : rowType P t = some e) (hs : szOf P e = some n) (hv : a.eval x = .slice base len cap)
  (hl : boundAV P T g lo 0 = some l) (hh' : boundAV P T g (some y) (ofN len) = some hh) (hm : boundAV P T g (some z) 0 = some m) (h0 : 0 ≤ l) (h1 : l ≤ hh) (h2 : hh ≤ m) (h3 : m ≤ cap) : Goes P o a w0 H c .top := by
 obtain ⟨ti, d, hi', hd, rfl⟩ := szOf_some hs
 have hb : ∀ (k : IntKind) (n : Int) (y : Nat) (code : BoundsCode), 0 ≤ n → n ≤ y → (Instr.sliceBound (.int k n) y code).run P c.w = .ok n.toNat c.w := by
  intro k n y code hn hle
  simp [Instr.sliceBound, asIntOf, hn, hle]
 have hy : ∃ k, a.eval y = .int k hh := by
  rcases boundAV_rel h hh' with ⟨h4, _⟩ | ⟨k, h4⟩
  ·simp at h4
  ·exact ⟨k, by simpa using h4⟩
 have hz : ∃ k, a.eval z = .int k m := by
  rcases boundAV_rel h hm with ⟨h4, _⟩ | ⟨k, h4⟩
  ·simp at h4
  ·exact ⟨k, by simpa using h4⟩
 obtain ⟨k1, hy⟩ := hy
 obtain ⟨k2, hz⟩ := hz
 have e1 : ((m.toNat : Nat) : Int) = m := by omega
 have e2 : ((hh.toNat : Nat) : Int) = hh := by omega
 have hbounds : (Instr.sliceBounds true len cap (lo.map a.eval) (some (a.eval y)) (some (a.eval z))).run P c.w = .ok (l.toNat, hh.toNat, m.toNat) c.w := by
  rw [hy, hz]
  have q1 := hb k2 m cap .slice3Acap (by omega) h3
  have q2 := hb k1 hh m.toNat .slice3B (by omega) (by omega)
  rcases boundAV_rel h hl with ⟨h4, h5⟩ | ⟨k3, h4⟩
  ·rw [h4]
   subst h5
   simp [Instr.sliceBounds, q1, q2]
  ·rw [h4]
   have q3 := hb k3 l hh.toNat .slice3C h0 (by omega)
   simp [Instr.sliceBounds, q1, q2, q3]
 refine value_of h (u := .slice (if m.toNat = l.toNat then base else base.map (·.add (l.toNat * ti.size))) (hh.toNat - l.toNat) (m.toNat - l.toNat)) (s := Instr.sliceAt t (a.eval x) (lo.map a.eval) (some (a.eval y)) (some (a.eval z))) (by simp only [execOp, ho, Option.map_some]) ?_ (by simp [Rel])
 rw [hv]
 simp [Instr.sliceAt, Instr.slice, run_underlying (rowType_some ht), hbounds, run_sizeOf hi']
end
end Go.Own
end
section
namespace Go.Own
open Go
section
variable {P : Program} {w0 : Base} {T : List AV} {H : Heap} {c : Cx} {a : Act} {g : Option (Nat × Bool)} {o : Oper}
theorem fold_set (off : Nat) : ∀ (vs : List Value) (j : Nat) (cs : Array Value), off + j + vs.length ≤ cs.size → ((vs.zipIdx j).foldl (fun (cs : Array Value) (x : Value × Nat) => cs.setIfInBounds (off + x.2) x.1) cs).toList = overL cs.toList (off + j) vs
 | [], j, cs, h => by simp [overL]
 | v :: vs, j, cs, h => by
  simp only [List.zipIdx_cons, List.foldl_cons]
  have ih := fold_set off vs (j + 1) (cs.setIfInBounds (off + j) v) (by simp at h ⊢; omega)
  rw [ih]
  apply List.ext_getElem?
  intro k
  have hl : off + j < cs.toList.length := by simp at h ⊢; omega
  rw [overL_get _ _ _ _ (by simp at h ⊢; omega), overL_get _ _ _ _ (by omega), Array.toList_setIfInBounds]
  simp only [List.length_cons, List.getElem?_set]
  by_cases h1 : k < off + j
  ·rw [if_pos (by omega), if_neg (by omega), if_pos h1]
  ·by_cases h2 : k = off + j
   ·subst h2
    rw [if_pos (by omega), if_pos rfl, if_pos hl, if_neg h1, if_pos (by omega)]
    simp
   ·rw [if_neg (by omega), if_neg h1]
    by_cases h3 : k < off + (j + 1) + vs.length
    ·rw [if_pos h3, if_pos (by omega), show k - (off + j) = (k - (off + (j + 1))) + 1 by omega, List.getElem?_cons_succ]
    ·rw [if_neg h3, if_neg (by omega), if_neg (by omega)]
theorem fill_step (off : Nat) (v : Value) (cs : Array Value) (h : off + v.cells.size ≤ cs.size) : (v.cells.zipIdx.foldl (fun (cs : Array Value) (x : Value × Nat) => cs.setIfInBounds (off + x.2) x.1) cs).toList = overL cs.toList off v.cells.toList := by
 have := fold_set off v.cells.toList 0 cs (by simpa using h)
 rw [Nat.add_zero] at this
 rw [← this, ← Array.foldl_toList]
 simp
def PartsIs (c : Cx) : List (Nat × AV) → List (Nat × Value) → Prop
 | [], [] => True
 | (i, x) :: ps, (j, v) :: qs => i = j ∧ Rel c x v ∧ PartsIs c ps qs
 | _, _ => False
theorem partsOf_rel (h : At P w0 T H c a.tmps g) (ts : Nat → TypeId) (ps : Array (Nat × Operand)) : PartsIs c (partsOf P T g ts ps) (ps.map fun (i, x) => (i, a.eval x)).toList := by
 unfold partsOf
 rw [Array.toList_map]
 induction ps.toList with
 | nil => simp [PartsIs]
 | cons p l ih =>
  obtain ⟨i, x⟩ := p
  simp only [List.map_cons, PartsIs]
  exact ⟨trivial, opd_rel h (ts i) x, ih⟩
theorem fill_rel {pl : Nat → Option (Nat × Nat)} : ∀ {ps : List (Nat × AV)} {qs : List (Nat × Value)} {cs cs' : List AV} {cells : Array Value}, PartsIs c ps qs → RelL c cs cells.toList → fillAV pl cs ps = some cs' → ∃ cells', Instr.fill pl cells qs = some cells' ∧ RelL c cs' cells'.toList
 | [], [], cs, cs', cells, _, hr, hf => by
  simp only [fillAV, Option.some.injEq] at hf
  subst hf
  exact ⟨cells, rfl, hr⟩
 | (i, x) :: ps, (j, v) :: qs, cs, cs', cells, hp, hr, hf => by
  simp only [PartsIs] at hp
  obtain ⟨rfl, hx, hps⟩ := hp
  simp only [fillAV] at hf
  split at hf
  ·rename_i off size xs hpl hxs
   split at hf
   ·rename_i hc
    obtain ⟨hxr, _⟩ := cellsOfAV_rel hxs hx
    have hl1 := hxr.length
    have hl2 := hr.length
    simp only [Array.length_toList] at hl1 hl2
    have hst := fill_step off v cells (by omega)
    obtain ⟨cells', h1, h2⟩ := fill_rel (cells := v.cells.zipIdx.foldl (fun (cs : Array Value) (x : Value × Nat) => cs.setIfInBounds (off + x.2) x.1) cells) hps (by rw [hst]; exact hr.overL off hxr) hf
    refine ⟨cells', ?_, h2⟩
    simp only [Instr.fill, hpl]
    have hcond : (decide (v.cells.size ≠ size) || decide (off + v.cells.size > cells.size)) = false := by
     simp
     omega
    simp only [hcond, Bool.false_eq_true, if_false]
    exact h1
   ·cases hf
  ·cases hf
 | [], _ :: _, _, _, _, h, _, _ => by simp [PartsIs] at h
 | _ :: _, [], _, _, _, h, _, _ => by simp [PartsIs] at h
theorem build_goes (h : At P w0 T H c a.tmps g) {t : TypeId} {ps : Array (Nat × Operand)} {z cs : List AV} {pl : Nat → Option (Nat × Nat)} (ho : o.op = .build t ps) (hz : zeroCellsOf P t = some z) (hpl : placesOf P t = some pl) (hf : fillAV pl z (partsOf P T g (fieldType P t) ps) = some cs) : Goes P o a w0 H c (.agg cs) := by
 obtain ⟨i, zv, hi, hzv, har, _⟩ := zeroCellsOf_some hz
 obtain ⟨cells, h1, h2⟩ := fill_rel (partsOf_rel h (fieldType P t) ps) (areVals_rel (c := c) har) hf
 have hb : P.built t (ps.map fun (i, x) => (i, a.eval x)).toList = some cells := by
  unfold Program.built
  unfold placesOf at hpl
  rw [hi]
  split at hpl
  ·rename_i n e hu
   split at hpl
   ·rename_i ie hie
    cases hpl
    simp only [hu, hzv, hie]
    exact h1
   ·cases hpl
  ·rename_i fields hu
   split at hpl
   ·rename_i places hp
    cases hpl
    simp only [hu, hzv, hp]
    exact h1
   ·cases hpl
  ·cases hpl
 refine value_of h (u := .agg cells) (s := Instr.build t (ps.map fun (i, x) => (i, a.eval x))) (by simp only [execOp, ho]) (run_build c.w t _ cells hb) ?_
 simp only [Rel]
 exact ⟨cells, rfl, h2⟩
theorem fill_dense {sz : Nat} : ∀ {ps : List (Nat × AV)} {qs : List (Nat × Value)} {k : Nat} {cs : List (List AV)} {cells : Array Value}, PartsIs c ps qs → partsInOrder k ps = some cs → (∀ x ∈ cs, x.length = sz) → (k + cs.length) * sz ≤ cells.size →
  ∃ uss : List (List Value), uss.length = cs.length ∧ (∀ (i : Nat) (x : List AV), cs[i]? = some x → ∃ us, uss[i]? = some us ∧ RelL c x us) ∧ ∃ cells', Instr.fill (fun i => some (i * sz, sz)) cells qs = some cells' ∧ cells'.toList = overL cells.toList (k * sz) uss.flatten
 | [], [], k, cs, cells, _, hp, _, _ => by
  simp only [partsInOrder, Option.some.injEq] at hp
  subst hp
  exact ⟨[], rfl, by simp, cells, rfl, by simp [overL]⟩
 | (i, x) :: ps, (j, v) :: qs, k, cs, cells, hr, hp, hsz, hroom => by
  simp only [PartsIs] at hr
  obtain ⟨rfl, hx, hps⟩ := hr
  simp only [partsInOrder] at hp
  split at hp
  ·rename_i hk
   subst hk
   split at hp
   ·rename_i xs cs' hxs hcs
    cases hp
    obtain ⟨hxr, _⟩ := cellsOfAV_rel hxs hx
    have hl1 := hxr.length
    have hxl : xs.length = sz := hsz xs (by simp)
    simp only [Array.length_toList] at hl1
    simp only [List.length_cons] at hroom
    have hroom' : (k + 1 + cs'.length) * sz ≤ cells.size := by rw [show k + 1 + cs'.length = k + (cs'.length + 1) by omega]; exact hroom
    have hk1 : (k + 1) * sz ≤ (k + 1 + cs'.length) * sz := Nat.mul_le_mul_right _ (by omega)
    rw [Nat.succ_mul] at hk1
    have hst := fill_step (k * sz) v cells (by omega)
    have hsize : (v.cells.zipIdx.foldl (fun (cs : Array Value) (x : Value × Nat) => cs.setIfInBounds (k * sz + x.2) x.1) cells).size = cells.size := by
     rw [← Array.length_toList, hst, overL_len _ _ _ (by simp; omega)]
     simp
    obtain ⟨uss, h1, h2, cells', h3, h4⟩ := fill_dense (k := k + 1) (cells := v.cells.zipIdx.foldl (fun (cs : Array Value) (x : Value × Nat) => cs.setIfInBounds (k * sz + x.2) x.1) cells) hps hcs (fun y hy => hsz y (by simp [hy])) (by rw [hsize]; exact hroom')
    refine ⟨v.cells.toList :: uss, by simp [h1], fun i y hi => ?_, cells', ?_, ?_⟩
    ·cases i with
     | zero => simp at hi; subst hi; exact ⟨_, rfl, hxr⟩
     | succ i => exact h2 i y (by simpa using hi)
    ·simp only [Instr.fill]
     have hcond : (decide (v.cells.size ≠ sz) || decide (k * sz + v.cells.size > cells.size)) = false := by
      simp
      omega
     simp only [hcond, Bool.false_eq_true, if_false]
     exact h3
    ·rw [h4, hst, List.flatten_cons]
     apply List.ext_getElem?
     intro q
     have hvl : v.cells.toList.length = sz := by simp; omega
     rw [overL_get _ _ _ _ (by rw [overL_len _ _ _ (by rw [hvl]; simp; omega)]; simp; rw [Nat.succ_mul]; omega), overL_get _ _ _ _ (by simp; omega), overL_get _ _ _ _ (by simp; omega)]
     rw [List.length_append, hvl, Nat.succ_mul]
     by_cases g1 : q < k * sz
     ·rw [if_pos (by omega), if_pos g1, if_pos g1]
     ·by_cases g2 : q < k * sz + sz
      ·rw [if_pos g2, if_neg g1, if_pos g2, if_neg g1, if_pos (by omega), List.getElem?_append_left (by omega)]
      ·rw [if_neg g2, if_neg g1, if_neg g1]
       by_cases g3 : q < k * sz + sz + uss.flatten.length
       ·rw [if_pos g3, if_pos (by omega), List.getElem?_append_right (by omega), hvl]
        congr 1
        omega
       ·rw [if_neg g3, if_neg g2, if_neg (by omega)]
   ·cases hp
  ·cases hp
 | [], _ :: _, _, _, _, h, _, _, _ => by simp [PartsIs] at h
 | _ :: _, [], _, _, _, h, _, _, _ => by simp [PartsIs] at h
theorem Col.cons_spec {x : AV} {y z : Col} {u : Value} (h : Col.cons x y = some z) (hu : Rel c x u) : z.len = y.len + 1 ∧ ColIs c z 0 u ∧ ∀ i v, ColIs c y i v → ColIs c z (i + 1) v := by
 cases y with
 | int k l =>
  cases x <;> try (simp [Col.cons] at h; done)
  ·rename_i k' n
   simp only [Col.cons] at h
   split at h
   ·rename_i hk
    subst hk
    cases h
    simp only [Rel] at hu
    exact ⟨rfl, by simp [ColIs, gI, hu], fun i v hv => by simpa [ColIs, gI] using hv⟩
   ·cases h
 | bool l =>
  cases x <;> try (simp [Col.cons] at h; done)
  ·simp only [Col.cons, Option.some.injEq] at h
   subst h
   simp only [Rel] at hu
   exact ⟨rfl, by simp [ColIs, gB, hu], fun i v hv => by simpa [ColIs, gB] using hv⟩
 | ints k l =>
  cases x <;> try (simp [Col.cons] at h; done)
  ·rename_i n cols
   rcases cols with _ | ⟨c1, _ | ⟨c2, rest⟩⟩
   ·simp [Col.cons] at h
   ·cases c1 <;> try (simp [Col.cons] at h; done)
    rename_i k' ys
    simp only [Col.cons] at h
    split at h
    ·rename_i hk
     subst hk
     cases h
     exact ⟨rfl, by simpa [ColIs, gL] using (IntsAt.of_sl hu).1, fun i v hv => by simpa [ColIs, gL] using hv⟩
    ·cases h
   ·cases c1 <;> simp [Col.cons] at h
  ·simp only [Col.cons, Option.some.injEq] at h
   subst h
   exact ⟨rfl, by simpa [ColIs, gL] using IntsAt.emp (k := k) hu, fun i v hv => by simpa [ColIs, gL] using hv⟩
theorem rowOf_flat : ∀ {cs : List (List AV)} {zs cols : List Col} {uss : List (List Value)}, rowOf zs cs = some cols → (∀ col ∈ zs, col.len = 0) → uss.length = cs.length → (∀ (i : Nat) (x : List AV), cs[i]? = some x → ∃ us, uss[i]? = some us ∧ RelL c x us) → (∀ x ∈ cs, x.length = zs.length) →
  cols.length = zs.length ∧ (∀ col ∈ cols, col.len = cs.length) ∧ FlatIs c cols cs.length uss.flatten ∧ uss.flatten.length = cs.length * zs.length
 | [], zs, cols, uss, h, hz, hl, _, _ => by
  simp only [rowOf, Option.some.injEq] at h
  subst h
  have : uss = [] := by simpa using hl
  subst this
  exact ⟨rfl, hz, fun i hi => by simp at hi, by simp⟩
 | x :: cs, zs, cols, uss, h, hz, hl, hr, hsz => by
  simp only [rowOf] at h
  split at h
  ·rename_i y hy
   rcases uss with _ | ⟨us, uss⟩
   ·simp at hl
   ·obtain ⟨us', hus', hrx⟩ := hr 0 x rfl
    simp at hus'
    subst hus'
    obtain ⟨h1, h2, h3, h4⟩ := rowOf_flat (uss := uss) hy hz (by simpa using hl) (fun i z hz' => by simpa using hr (i + 1) z (by simpa using hz')) (fun z hz' => hsz z (by simp [hz']))
    have hzl := zipAll_len h
    have hxl := hsz x (by simp)
    have husl := hrx.length
    refine ⟨by omega, fun col hcol => ?_, fun i hi j col hj => ?_, ?_⟩
    ·obtain ⟨j, hj⟩ := List.getElem?_of_mem hcol
     obtain ⟨xa, yc, z1, z2, z3⟩ := zipAll_get h hj
     obtain ⟨u, _, hu⟩ := hrx.get z1
     rw [(Col.cons_spec z3 hu).1, h2 yc (List.mem_of_getElem? z2)]
     simp
    ·obtain ⟨xa, yc, z1, z2, z3⟩ := zipAll_get h hj
     obtain ⟨u, hu1, hu2⟩ := hrx.get z1
     obtain ⟨s1, s2, s3⟩ := Col.cons_spec z3 hu2
     have hjl : j < us.length := (List.getElem?_eq_some_iff.1 hu1).1
     cases i with
     | zero =>
      refine ⟨u, ?_, s2⟩
      rw [Nat.zero_mul, Nat.zero_add, List.flatten_cons, List.getElem?_append_left hjl, hu1]
     | succ i =>
      obtain ⟨v, g1, g2⟩ := h3 i (by simpa using hi) j yc z2
      refine ⟨v, ?_, s3 i v g2⟩
      rw [List.flatten_cons, List.getElem?_append_right (by rw [Nat.succ_mul]; omega), ← g1]
      congr 1
      rw [Nat.succ_mul, ← hzl.2]
      omega
    ·simp only [List.flatten_cons, List.length_append, h4, List.length_cons, Nat.succ_mul]
     omega
  ·cases h
theorem buildSlice_goes (h : At P w0 T H c a.tmps g) {t e : TypeId} {n fr : Nat} {ps : Array (Nat × Operand)} {cs : List (List AV)} {cols : List Col} (hfr : H.at fr = none) (ho : o.op = .buildSlice t n ps) (ht : rowType P t = some e) (hp : partsInOrder 0 (partsOf P T g (fieldType P t) ps) = some cs)
  (he : elemOk P e = true) (hn : cs.length = n) (hsmall : n * P.cellsOf e ≤ 2 ^ 24) (hrow : rowOf (colsOf P 9 e) cs = some cols) (hsz : ∀ x ∈ cs, x.length = (colsOf P 9 e).length) : Goes P o a w0 (writeAll H [(fr, .row e n cols)]) c (.full fr) := by
 obtain ⟨i, z, hi⟩ := elemOk_is he
 have hu := rowType_some ht
 have hsi : P.cellsOf e = i.size := by simp [Program.cellsOf, hi.info]
 have hdense := fill_dense (sz := i.size) (cells := (Array.range (n * i.size)).map (z.cells[· % z.cells.size]!)) (partsOf_rel h (fieldType P t) ps) hp (fun x hx => by rw [hi.size]; exact hsz x hx) (by simp [hn])
 obtain ⟨uss, h1, h2, cells, h3, h4⟩ := hdense
 obtain ⟨r1, r2, r3, r4⟩ := rowOf_flat (c := c) hrow (colsOf_len 9 e) h1 h2 hsz
 rw [← hi.size] at r1 r4
 have hcells : cells.toList = uss.flatten := by
  rw [h4]
  unfold overL
  rw [r4, hn]
  simp
 have hcs : cells.size = n * cols.length := by
  rw [← Array.length_toList, hcells, r4, hn, r1]
 obtain ⟨q1, q2, q3⟩ := new_row h.heap hfr e e c.w rfl ⟨rfl, rfl, rfl⟩ (cols := cols) (n := n) (cap := n) (arr := cells) (by rw [r1]; exact hi.pos) (Nat.le_refl _) (by rw [← hn]; exact r2) hcs (by rw [hcells, ← hn]; exact r3)
 refine ⟨_, _, .inl ?_, q1, q2, q3⟩
 simp only [execOp, ho, Sem.run_bind]
 by_cases hn0 : n * i.size = 0
 ·have hn' : n = 0 := by
   rcases Nat.mul_eq_zero.1 hn0 with h5 | h5
   ·exact h5
   ·have := hi.pos; omega
  subst hn'
  have hcs0 : cs = [] := by simpa using hn
  subst hcs0
  have hc0 : cells = #[] := by
   apply Array.ext'
   rw [hcells]
   have : uss = [] := by simpa using h1
   simp [this]
  have hrun : (Instr.buildSlice t 0 (ps.map fun (i, x) => (i, a.eval x))).run P c.w = .ok (.slice (some ⟨c.w.heap.size, 0, none⟩) 0 0) { c.w with heap := c.w.heap.push (.cells cells e (0, 0)) } := by
   have hr0 : (Array.range 0) = #[] := rfl
   simp only [Nat.zero_mul, hr0, Array.map_empty] at h3
   have hlt : ¬ (0 : Nat) > 2 ^ 24 := by decide
   simp only [Instr.buildSlice, Sem.run_bind, run_underlying hu, Result.andThen_ok, run_sizeOf hi.info, Nat.zero_mul, hlt, if_false, if_true, Sem.run_pure, hr0, Array.map_empty, h3, newRow, run_newObj]
  rw [hrun]
  rfl
 ·rw [run_buildSlice c.w t e n _ cells i z hu hi.info hi.zero (by rw [← hsi]; omega) hn0 h3]
  rfl
end
end Go.Own
end
