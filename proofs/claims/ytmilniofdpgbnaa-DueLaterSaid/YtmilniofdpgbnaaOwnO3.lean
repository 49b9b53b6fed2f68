/- Operations that read: fields, elements, variables; bools; conversions. -/
import Derived.Test.YtmilniofdpgbnaaOwnO2
set_option linter.unusedVariables false
set_option linter.unusedSimpArgs false
namespace Go.Own
open Go

section
variable {P : Program} {w0 : Base} {T : List AV} {H : Heap} {c : Cx} {a : Act} {g : Option (Nat × Bool)} {o : Oper}

theorem value_of (h : At P w0 T H c a.tmps g) {s : Sem Value} {u : Value} {v : AV} (he : execOp a.eval o = (do pure (.value (← s)))) (hr : s.run P c.w = .ok u c.w) (hv : Rel c v u) : Goes P o a w0 H c v :=
  goes_value h (v := u) (by rw [he]; simp only [Sem.run_bind, hr, Result.andThen_ok, Sem.run_pure]) hv

theorem pick_goes (h : At P w0 T H c a.tmps g) {j : Nat} {x y : Operand} {b : Bool} (ho : o.op = .pick (.tmp j) x y) (hj : plainUnder g (T.getD j .top) = .bool b) {v : AV}
    (hx : ∀ u1 u2, (b = true → Rel c (opd P T (some (j, true)) o.type x) u1) → (b = false → Rel c (opd P T (some (j, false)) o.type y) u2) → Rel c v (if b then u1 else u2)) : Goes P o a w0 H c v := by
  have hr := plainUnder_rel h.guard (h.tok.get j)
  rw [hj] at hr
  have hb : a.eval (.tmp j) = .bool b := rel_bool (c := c) hr
  have hjt : ∀ q : Bool, b = q → a.tmps[j]? = some (.bool q) := by
    intro q hq
    have hb' : a.tmps.getD j undef = .bool b := hb
    rw [Array.getD_eq_getD_getElem?] at hb'
    cases ht : a.tmps[j]? with
    | none => rw [ht] at hb'; cases hb'
    | some u => rw [ht] at hb'; simp at hb'; rw [hb', hq]
  refine goes_value h (v := if b then a.eval x else a.eval y) ?_ ?_
  · simp only [execOp, ho, hb, Sem.run_bind]
    simp [asBool]
  · refine hx _ _ (fun hq => ?_) (fun hq => ?_)
    · have h' : At P w0 T H c a.tmps (some (j, true)) := ⟨h.heap, h.tok, by rintro j' b' he; cases he; exact hjt true hq⟩
      exact opd_rel h' o.type x
    · have h' : At P w0 T H c a.tmps (some (j, false)) := ⟨h.heap, h.tok, by rintro j' b' he; cases he; exact hjt false hq⟩
      exact opd_rel h' o.type y

theorem not_goes (h : At P w0 T H c a.tmps g) {t : TypeId} {x : Operand} {b : Bool} (ho : o.op = .unOp .not t x) (hx : opd P T g o.type x = .bool b) : Goes P o a w0 H c (.bool (bnot b)) := by
  have r := rel_bool (opd_eq h hx)
  refine value_of h (u := .bool (bnot b)) (s := Op.unary .not (a.eval x)) (by simp only [execOp, ho]) ?_ (by simp [Rel])
  rw [r]
  simp [Op.unary, bnot]

theorem neg_goes (h : At P w0 T H c a.tmps g) {t : TypeId} {x : Operand} {k : IntKind} {n : Int} (ho : o.op = .unOp .neg t x) (hx : opd P T g o.type x = .int k n) : Goes P o a w0 H c (.int k (ineg k n)) := by
  have r := rel_int (opd_eq h hx)
  refine value_of h (u := .int k (ineg k n)) (s := Op.unary .neg (a.eval x)) (by simp only [execOp, ho]) ?_ (by simp [Rel])
  rw [r]
  simp [Op.unary, Op.intArith, ineg]

theorem convert_goes (h : At P w0 T H c a.tmps g) {s d : TypeId} {x : Operand} {k k' k2 : IntKind} {n : Int} (ho : o.op = .convert s d x) (hs : P.underlying s = some (.int k2)) (hd : P.underlying d = some (.int k)) (hx : opd P T g s x = .int k' n) : Goes P o a w0 H c (.int k (icnv k n)) := by
  have r := rel_int (opd_eq h hx)
  refine value_of h (u := .int k (icnv k n)) (s := convert s d (a.eval x)) (by simp only [execOp, ho]) ?_ (by simp [Rel])
  rw [r]
  simp [convert, run_underlying hs, run_underlying hd, Conv.intToInt, icnv]

theorem iface_goes (h : At P w0 T H c a.tmps g) {t : TypeId} {x : Operand} {d : TypeDesc} {v : AV} (ho : o.op = .makeInterface t x) (hd : P.underlying t = some d) (hi : ∀ ms, d ≠ .interface ms) (hx : opd P T g t x = v) : Goes P o a w0 H c (.ifc t v) := by
  refine value_of h (u := .iface t (a.eval x)) (s := Instr.makeInterface t (a.eval x)) (by simp only [execOp, ho]) ?_ (by simp only [Rel]; exact ⟨_, rfl, opd_eq h hx⟩)
  simp only [Instr.makeInterface, Sem.run_bind, run_underlying hd, Result.andThen_ok]
  cases d <;> first | (exact absurd rfl (hi _)) | rfl

theorem evs_rel (h : At P w0 T H c a.tmps g) (t : TypeId) (xs : Array Operand) : RelL c (xs.toList.map (opd P T g t)) (xs.map a.eval).toList := by
  rw [Array.toList_map]
  induction xs.toList with
  | nil => simp [RelL]
  | cons x l ih => simp only [List.map_cons, RelL]; exact ⟨opd_rel h t x, ih⟩

theorem makeFunc_goes (h : At P w0 T H c a.tmps g) {k : FuncId} {xs ys : Array Operand} (ho : o.op = .makeFunc (.func k) xs ys) : Goes P o a w0 H c (.fn (.func k) (xs.toList.map (opd P T g 0)) (ys.toList.map (opd P T g 0))) := by
  refine value_of h (u := .func (.func k) (xs.map a.eval) (ys.map a.eval)) (s := Instr.makeFunc (.func k) (xs.map a.eval) (ys.map a.eval)) (by simp only [execOp, ho]) rfl ?_
  simp only [Rel]
  exact ⟨_, _, rfl, evs_rel h 0 xs, evs_rel h 0 ys⟩

theorem fieldOf_some {s : TypeId} {f off : Nat} {t : TypeId} (h : fieldOf P s f = some (off, t)) : ∃ fs fd i, P.underlying s = some (.struct fs) ∧ fs[f]? = some fd ∧ fd.offset = off ∧ fd.type = t ∧ P.info? t = some i ∧ i.size ≠ 0 := by
  unfold fieldOf at h
  split at h
  · rename_i fs hu
    split at h
    · rename_i fd hf
      split at h
      · cases h
      · rename_i hc
        cases h
        cases hi : P.info? fd.type with
        | none => simp [Program.cellsOf, hi] at hc
        | some i => exact ⟨fs, fd, i, hu, hf, rfl, rfl, rfl, by simpa [Program.cellsOf, hi] using hc⟩
    · cases h
  · cases h

theorem run_fieldAt {s : TypeId} {f off : Nat} {t : TypeId} (h : fieldOf P s f = some (off, t)) (ad : Addr) (w : World) : (Instr.fieldAt s (.pointer (some ad)) f).run P w = .ok (.pointer (some (ad.add off))) w := by
  obtain ⟨fs, fd, i, hu, hf, rfl, rfl, hi, hz⟩ := fieldOf_some h
  simp [Instr.fieldAt, run_underlying hu, hf, Instr.sureAddr, fieldPlace, run_sizeOf hi, hz]

theorem add_off (b q n : Nat) : (⟨b, q, none⟩ : Addr).add n = ⟨b, q + n, none⟩ := by
  unfold Addr.add
  split <;> simp_all

theorem add_block (ad : Addr) (n : Nat) (h : ad.spot = none) : ad.add n = ⟨ad.block, ad.off + n, none⟩ := by
  cases ad
  simp only at h
  subst h
  exact add_off _ _ _

theorem fieldAddr_ptr (h : At P w0 T H c a.tmps g) {s : TypeId} {x : Operand} {f off : Nat} {t : TypeId} {id idx q : Nat} (ho : o.op = .fieldAddr s x f) (hf : fieldOf P s f = some (off, t)) (hx : opd P T g 0 x = .ptr id idx q) : Goes P o a w0 H c (.ptr id idx (q + off)) := by
  have r := opd_eq h hx
  simp only [Rel] at r
  obtain ⟨p, hp, hv⟩ := r
  refine value_of h (u := .pointer (some ⟨p.b, idx * p.sz + (q + off), none⟩)) (s := Instr.fieldAt s (a.eval x) f) (by simp only [execOp, ho]) ?_ (by simp only [Rel]; exact ⟨p, hp, rfl⟩)
  rw [hv, run_fieldAt hf, add_off, Nat.add_assoc]

theorem fieldAddr_ip (h : At P w0 T H c a.tmps g) {s : TypeId} {x : Operand} {f off : Nat} {t : TypeId} {cs : List AV} (ho : o.op = .fieldAddr s x f) (hf : fieldOf P s f = some (off, t)) (hx : opd P T g 0 x = .ip cs) : Goes P o a w0 H c (.ip (cs.drop off)) := by
  have r := opd_eq h hx
  simp only [Rel] at r
  obtain ⟨ad, us, hv, hs, hS, hr, hc⟩ := r
  refine value_of h (u := .pointer (some (ad.add off))) (s := Instr.fieldAt s (a.eval x) f) (by simp only [execOp, ho]) (by rw [hv, run_fieldAt hf]) ?_
  simp only [Rel]
  rw [add_block _ _ hs]
  refine ⟨_, us.drop off, rfl, rfl, hS, hr.drop off, fun j u hj => ?_⟩
  rw [List.getElem?_drop] at hj
  simpa [Nat.add_assoc] using hc _ u hj

theorem wrap_rel {t : TypeId} {cs : List AV} {us : List Value} {v : AV} (hw : wrap P t cs = some v) (hr : RelL c cs us) : Rel c v (valOf P t us) := by
  unfold wrap at hw
  split at hw
  · rename_i hA
    cases hw
    simp only [valOf, hA, if_true, Rel]
    exact ⟨_, rfl, by simpa using hr⟩
  · rename_i hA
    split at hw
    · rename_i x
      cases hw
      cases us with
      | nil => simp [RelL] at hr
      | cons u us =>
        simp only [RelL] at hr
        simp only [valOf, hA, if_false, List.headD_cons]
        exact hr.1
    · cases hw

theorem wrap_one {t : TypeId} {cs : List AV} {v : AV} (hw : wrap P t cs = some v) (hA : isAggT P t = false) : cs.length = 1 := by
  unfold wrap at hw
  rw [if_neg (by simp [hA])] at hw
  split at hw
  · rfl
  · cases hw

/-- What n cells behind an address are. -/
theorem readCells_rel (hh : HeapOK w0 H c) {n : Nat} {x : AV} {b : Option Bool} {cs : List AV} {rd : List Nat} {v : Value} (hx : readCells H n x = some (b, cs, rd)) (hb : b ≠ some false) (hr : Rel c x v) :
    ∃ ad us, v = .pointer (some ad) ∧ ad.spot = none ∧ us.length = n ∧ RelL c cs us ∧ ∀ (j : Nat) (u : Value), us[j]? = some u → c.w.cell? (ad.add j) = some u := by
  unfold readCells at hx
  split at hx
  · rename_i cells
    split at hx
    · cases hx
    · rename_i hl
      cases hx
      simp only [Rel] at hr
      obtain ⟨ad, us, rfl, hs, hS, hrl, hc⟩ := hr
      have := hrl.length
      refine ⟨ad, us.take n, rfl, hs, by simp; omega, hrl.take n, fun j u hj => ?_⟩
      rw [add_block _ _ hs]
      rw [List.getElem?_take] at hj
      split at hj
      · exact hc j u hj
      · cases hj
  · rename_i id idx off
    simp only [Rel] at hr
    obtain ⟨p, hp, rfl⟩ := hr
    split at hx
    · rename_i cells hid
      split at hx
      · cases hx
      · rename_i hl
        split at hx
        · cases hx
          obtain ⟨p', hp', hob⟩ := hh.obj id _ hid
          rw [hp] at hp'
          cases hp'
          obtain ⟨arr, t, ha, hrl⟩ := hob
          have hlen := hrl.length
          refine ⟨_, (arr.toList.drop off).take n, rfl, rfl, by simp at hlen ⊢; omega, (hrl.drop off).take n, fun j u hj => ?_⟩
          rw [add_off]
          rw [List.getElem?_take] at hj
          split at hj
          · rw [List.getElem?_drop] at hj
            simp only [World.cell?, ha, Nat.zero_mul, Nat.zero_add]
            simpa using hj
          · cases hj
        · cases hx
    · rename_i e k cols hid
      split at hx
      · cases hx
      · rename_i hl
        cases hx
        have hlt : idx < k := by
          rcases Nat.lt_or_ge idx k with h1 | h1
          · exact h1
          · exact absurd (by simp [nlt]; omega) hb
        obtain ⟨p', hp', hob⟩ := hh.obj id _ hid
        rw [hp] at hp'
        cases hp'
        obtain ⟨h1, h2, h3, h4, h5, h6⟩ := hob
        obtain ⟨arr, t, ha, hs, hx⟩ := h6 (by omega)
        have hrow : RelL c (cols.map (·.get idx)) ((arr.toList.drop (idx * p.sz)).take p.sz) := by
          have hmul : idx * p.sz + p.sz ≤ p.cap * p.sz := by
            rw [← Nat.succ_mul]
            exact Nat.mul_le_mul_right _ (by omega)
          refine RelL.of_get (by simp; omega) fun j x hj => ?_
          rw [List.getElem?_map] at hj
          cases hcj : cols[j]? with
          | none => simp [hcj] at hj
          | some col =>
            simp [hcj] at hj
            subst hj
            have hjl : j < p.sz := by
              rw [h2]
              exact (List.getElem?_eq_some_iff.1 hcj).1
            obtain ⟨u, hu, hcu⟩ := hx idx hlt j col hcj
            refine ⟨u, ?_, ?_⟩
            · rw [List.getElem?_take, if_pos hjl, List.getElem?_drop]
              simpa using hu
            · cases col with
              | int k l => simpa [Col.get, Rel, ColIs] using hcu
              | bool l => simpa [Col.get, Rel, ColIs] using hcu
              | ints k l =>
                simp only [ColIs] at hcu
                obtain ⟨base, cap, rfl, hcap, hin⟩ := hcu
                simp only [Col.get, Rel]
                refine ⟨base, cap, rfl, hcap, by simp [Col.len, lenI], ?_⟩
                rcases hin with hin | ⟨ad, rfl, hs', hS', hin⟩
                · exact .inl hin
                · refine .inr ⟨ad, rfl, hs', hS', fun i hi j' col' hj' => ?_⟩
                  cases j' with
                  | zero =>
                    simp at hj'
                    subst hj'
                    exact ⟨_, by simpa using hin i hi, rfl⟩
                  | succ j' => simp at hj'
        refine ⟨_, (((arr.toList.drop (idx * p.sz)).take p.sz).drop off).take n, rfl, rfl, ?_, (hrow.drop off).take n, fun j u hj => ?_⟩
        · have hmul : idx * p.sz + p.sz ≤ p.cap * p.sz := by
            rw [← Nat.succ_mul]
            exact Nat.mul_le_mul_right _ (by omega)
          simp at hl ⊢
          omega
        · rw [add_off]
          rw [List.getElem?_take] at hj
          split at hj
          · rw [List.getElem?_drop, List.getElem?_take] at hj
            split at hj
            · rw [List.getElem?_drop] at hj
              simp only [World.cell?, ha]
              simpa [Nat.add_assoc] using hj
            · cases hj
          · cases hj
    · cases hx
  · cases hx

theorem run_loadVar {t : TypeId} {n : Nat} (hs : szOf P t = some n) {ad : Addr} {us : List Value} (hl : us.length = n) (h1 : isAggT P t = false → n = 1) {w : World} (hc : ∀ (j : Nat) (u : Value), us[j]? = some u → w.cell? (ad.add j) = some u) : (loadVar t ad).run P w = .ok (valOf P t us) w := by
  obtain ⟨i, d, hi, hd, rfl⟩ := szOf_some hs
  simp only [loadVar, Sem.run_bind, run_isAgg hd, Result.andThen_ok]
  cases hA : isAggT P t with
  | true =>
    have := run_loadCells_list (P := P) w ad us hc
    rw [hl] at this
    simp only [if_true, Sem.run_bind, run_sizeOf hi, Result.andThen_ok, this, Sem.run_pure, valOf, hA]
  | false =>
    have hn := h1 hA
    cases us with
    | nil => simp at hl; omega
    | cons u us =>
      have hu := hc 0 u rfl
      have e : ad.add 0 = ad := by simp [Addr.add]
      rw [e] at hu
      simp only [Bool.false_eq_true, if_false, run_load, hu, valOf, hA, List.headD_cons]

theorem load_goes (h : At P w0 T H c a.tmps g) {t : TypeId} {x : Operand} {n : Nat} {b : Option Bool} {cs : List AV} {rd : List Nat} {v : AV} (ho : o.op = .load t x) (hs : szOf P t = some n) (hb : b ≠ some false)
    (hx : readCells H n (opd P T g 0 x) = some (b, cs, rd)) (hw : wrap P t cs = some v) : Goes P o a w0 H c v := by
  obtain ⟨ad, us, hv, _, hl, hr, hc⟩ := readCells_rel h.heap hx hb (opd_rel h 0 x)
  refine value_of h (u := valOf P t us) (s := Instr.loadAt t (a.eval x)) (by simp only [execOp, ho]) ?_ (wrap_rel hw hr)
  have h1 : isAggT P t = false → n = 1 := fun hA => by have := wrap_one hw hA; have := hr.length; omega
  rw [hv]
  simp only [Instr.loadAt, Instr.sureAddr, Sem.run_bind, Sem.run_pure, Result.andThen_ok]
  exact run_loadVar hs hl h1 hc

theorem field_goes (h : At P w0 T H c a.tmps g) {s t : TypeId} {x : Operand} {f off n : Nat} {cs : List AV} {v : AV} (ho : o.op = .field s x f) (hf : fieldOf P s f = some (off, t)) (hs : szOf P t = some n) (hx : opd P T g s x = .agg cs)
    (hl : off + n ≤ cs.length) (hw : wrap P t ((cs.drop off).take n) = some v) : Goes P o a w0 H c v := by
  have r := opd_eq h hx
  simp only [Rel] at r
  obtain ⟨vs, hv, hr⟩ := r
  have hlen := hr.length
  refine value_of h (u := valOf P t ((vs.toList.drop off).take n)) (s := Instr.field s (a.eval x) f) (by simp only [execOp, ho]) ?_ (wrap_rel hw ((hr.drop off).take n))
  obtain ⟨fs, fd, i, hu, hfd, rfl, rfl, _, _⟩ := fieldOf_some hf
  have h1 : isAggT P fd.type = false → n = 1 := fun hA => by have := wrap_one hw hA; simp at this hlen; omega
  rw [hv]
  simp only [Instr.field, Sem.run_bind, run_underlying hu, Result.andThen_ok, hfd, asAgg, Sem.run_pure]
  exact run_part hs vs fd.offset (by simp at hlen; omega) h1 c.w

theorem extract_goes (h : At P w0 T H c a.tmps g) {x : Operand} {i : Nat} {vs : List AV} {v : AV} (ho : o.op = .extract x i) (hx : opd P T g 0 x = .tup vs) (hi : vs[i]? = some v) : Goes P o a w0 H c v := by
  have r := opd_eq h hx
  simp only [Rel] at r
  obtain ⟨us, hv, hr⟩ := r
  obtain ⟨u, hu, hru⟩ := hr.get hi
  refine value_of h (u := u) (s := Instr.extract (a.eval x) i) (by simp only [execOp, ho]) ?_ hru
  rw [hv]
  have : us[i]? = some u := by simpa using hu
  simp [Instr.extract, this]

theorem typeAssert_goes (h : At P w0 T H c a.tmps g) {x : Operand} {xt t : TypeId} {d : TypeDesc} {v : AV} (ho : o.op = .typeAssert x xt t false) (hd : P.underlying t = some d) (hi : ∀ ms, d ≠ .interface ms) (hx : opd P T g 0 x = .ifc t v) : Goes P o a w0 H c v := by
  have r := opd_eq h hx
  simp only [Rel] at r
  obtain ⟨u, hv, hr⟩ := r
  refine value_of h (u := u) (s := Instr.typeAssert (a.eval x) xt t false) (by simp only [execOp, ho]) ?_ hr
  rw [hv]
  simp only [Instr.typeAssert, Sem.run_bind, run_underlying hd, Result.andThen_ok]
  cases d <;> first | (exact absurd rfl (hi _)) | simp

theorem nilCheck_goes (h : At P w0 T H c a.tmps g) {x : Operand} {v : AV} (ho : o.op = .nilCheck x) (hx : opd P T g 0 x = v) (hk : (∃ id idx off, v = .ptr id idx off) ∨ (∃ cs, v = .ip cs) ∨ ∃ k xs ys, v = .fn (.func k) xs ys) : Goes P o a w0 H c v := by
  have r := opd_eq h hx
  refine goes_value h (v := a.eval x) ?_ r
  rcases hk with ⟨id, idx, off, rfl⟩ | ⟨cs, rfl⟩ | ⟨k, xs, ys, rfl⟩
  · simp only [Rel] at r
    obtain ⟨p, _, hv⟩ := r
    simp [execOp, ho, hv]
  · simp only [Rel] at r
    obtain ⟨ad, us, hv, _⟩ := r
    simp [execOp, ho, hv]
  · simp only [Rel] at r
    obtain ⟨us, vs, hv, _⟩ := r
    simp [execOp, ho, hv]

theorem rowType_some {t e : TypeId} (h : rowType P t = some e) : P.underlying t = some (.slice e) := by
  unfold rowType at h
  split at h
  · rename_i e' hu
    cases h
    exact hu
  · cases h

theorem run_indexAt {t e : TypeId} {i : TypeInfo} (ht : P.underlying t = some (.slice e)) (hi : P.info? e = some i) {k : IntKind} {n : Int} {len cap : Nat} {ad : Addr} (h0 : 0 ≤ n) (h1 : n < len) (w : World) :
    (Instr.indexAt t (.slice (some ad) len cap) (.int k n)).run P w = .ok (.pointer (some (ad.add (n.toNat * i.size)))) w := by
  simp [Instr.indexAt, asIntOf, run_underlying ht, h0, h1, run_sizeOf hi]

theorem index_sl (h : At P w0 T H c a.tmps g) {t e : TypeId} {x y : Operand} {n : Nat} {cols : List Col} {k : IntKind} {i : Int} (ho : o.op = .indexAddr t x y) (ht : rowType P t = some e) (hs : szOf P e = some cols.length) (hx : opd P T g t x = .sl n cols) (hy : opd P T g 3 y = .int k i)
    (h0 : 0 ≤ i) (h1 : i < n) : Goes P o a w0 H c (.ip (cols.map (·.get (nOf i)))) := by
  have r := opd_eq h hx
  have ri := rel_int (opd_eq h hy)
  simp only [Rel] at r
  obtain ⟨base, cap, hv, _, _, hr⟩ := r
  obtain ⟨ti, d, hi, hd, hsz⟩ := szOf_some hs
  have hu := rowType_some ht
  rcases hr with hr | ⟨ad, rfl, hsp, hS, hc⟩
  · omega
  have hsel : ∀ (j : Nat) (col : Col), cols[j]? = some col → ∃ u, cellIs c.w ad.block (ad.off + (i.toNat * cols.length + j)) u ∧ ColIs c col i.toNat u := fun j col hj => hc i.toNat (by omega) j col hj
  have key : ∀ (cols' : List Col) (q : Nat), (∀ (j : Nat) (col : Col), cols'[j]? = some col → ∃ u, cellIs c.w ad.block (q + j) u ∧ ColIs c col i.toNat u) → ∃ us, RelL c (cols'.map (·.get (nOf i))) us ∧ ∀ (j : Nat) (u : Value), us[j]? = some u → cellIs c.w ad.block (q + j) u := by
    intro cols'
    induction cols' with
    | nil => exact fun q _ => ⟨[], by simp [RelL], by simp⟩
    | cons col cols' ih =>
      intro q hq
      obtain ⟨u, hu1, hu2⟩ := hq 0 col rfl
      obtain ⟨us, h1', h2'⟩ := ih (q + 1) (fun j col' hj => by simpa [Nat.add_assoc, Nat.add_comm 1 j] using hq (j + 1) col' (by simpa using hj))
      refine ⟨u :: us, ?_, ?_⟩
      · simp only [List.map_cons, RelL]
        refine ⟨?_, h1'⟩
        cases col with
        | int k l => simpa [Col.get, Rel, ColIs, nOf] using hu2
        | bool l => simpa [Col.get, Rel, ColIs, nOf] using hu2
        | ints k l =>
          simp only [ColIs] at hu2
          obtain ⟨base, cap, rfl, hcap, hin⟩ := hu2
          simp only [Col.get, Rel, nOf]
          refine ⟨base, cap, rfl, hcap, by simp [Col.len, lenI], ?_⟩
          rcases hin with hin | ⟨ad', rfl, hs', hS', hin⟩
          · exact .inl hin
          · refine .inr ⟨ad', rfl, hs', hS', fun i' hi' j' col' hj' => ?_⟩
            cases j' with
            | zero =>
              simp at hj'
              subst hj'
              exact ⟨_, by simpa using hin i' hi', rfl⟩
            | succ j' => simp at hj'
      · intro j u' hj
        cases j with
        | zero => simp at hj; subst hj; simpa using hu1
        | succ j => simpa [Nat.add_assoc, Nat.add_comm 1 j] using h2' j u' (by simpa using hj)
  obtain ⟨us, hru, hcu⟩ := key cols (ad.off + i.toNat * cols.length) (fun j col hj => by simpa [Nat.add_assoc] using hsel j col hj)
  refine value_of h (u := .pointer (some (ad.add (i.toNat * ti.size)))) (s := Instr.indexAt t (a.eval x) (a.eval y)) (by simp only [execOp, ho]) (by rw [hv, ri]; exact run_indexAt hu hi h0 h1 c.w) ?_
  simp only [Rel]
  rw [add_block _ _ hsp, hsz]
  exact ⟨_, us, rfl, rfl, hS, hru, hcu⟩

theorem index_full (h : At P w0 T H c a.tmps g) {t e e' : TypeId} {x y : Operand} {id n : Nat} {cols : List Col} {k : IntKind} {i : Int} (ho : o.op = .indexAddr t x y) (ht : rowType P t = some e) (hs : szOf P e = some cols.length) (hid : H.at id = some (.row e' n cols)) (hx : opd P T g t x = .full id) (hy : opd P T g 3 y = .int k i)
    (h0 : 0 ≤ i) (h1 : i < n) : Goes P o a w0 H c (.ptr id (nOf i) 0) := by
  have r := opd_eq h hx
  have ri := rel_int (opd_eq h hy)
  simp only [Rel] at r
  obtain ⟨p, ad, hp, hv, hca⟩ := r
  obtain ⟨p', hp', hob⟩ := h.heap.obj id _ hid
  rw [hp] at hp'
  cases hp'
  obtain ⟨q1, q2, q3, _⟩ := hob
  obtain ⟨ti, d, hi, hd, hsz⟩ := szOf_some hs
  have hu := rowType_some ht
  have hca' := hca (by omega)
  subst hca'
  refine value_of h (u := .pointer (some ((⟨p.b, 0, none⟩ : Addr).add (i.toNat * ti.size)))) (s := Instr.indexAt t (a.eval x) (a.eval y)) (by simp only [execOp, ho]) (by rw [hv, ri]; exact run_indexAt hu hi h0 (by omega) c.w) ?_
  simp only [Rel]
  rw [add_off, hsz, ← q2]
  exact ⟨p, hp, by simp [nOf]⟩

theorem index_osl (h : At P w0 T H c a.tmps g) {t e e' : TypeId} {x y : Operand} {id off n m : Nat} {cols : List Col} {k : IntKind} {i : Int} (ho : o.op = .indexAddr t x y) (ht : rowType P t = some e) (hs : szOf P e = some cols.length) (hid : H.at id = some (.row e' m cols)) (hx : opd P T g t x = .osl id off n) (hy : opd P T g 3 y = .int k i)
    (h0 : 0 ≤ i) (h1 : i < n) : Goes P o a w0 H c (.ptr id (nAdd off (nOf i)) 0) := by
  have r := opd_eq h hx
  have ri := rel_int (opd_eq h hy)
  simp only [Rel] at r
  obtain ⟨p, ad, hp, hv, hcap, hcap', hca⟩ := r
  obtain ⟨p', hp', hob⟩ := h.heap.obj id _ hid
  rw [hp] at hp'
  cases hp'
  obtain ⟨q1, q2, q3, _⟩ := hob
  obtain ⟨ti, d, hi, hd, hsz⟩ := szOf_some hs
  have hu := rowType_some ht
  have hca' := hca (by omega)
  subst hca'
  refine value_of h (u := .pointer (some ((⟨p.b, off * p.sz, none⟩ : Addr).add (i.toNat * ti.size)))) (s := Instr.indexAt t (a.eval x) (a.eval y)) (by simp only [execOp, ho]) (by rw [hv, ri]; exact run_indexAt hu hi h0 h1 c.w) ?_
  simp only [Rel]
  rw [add_off, hsz, ← q2]
  exact ⟨p, hp, by simp [nOf, nAdd, Nat.add_mul]⟩

end
end Go.Own
