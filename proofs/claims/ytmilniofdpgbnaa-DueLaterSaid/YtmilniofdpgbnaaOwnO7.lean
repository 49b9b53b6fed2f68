/- Elements over elements: append within a row, copy, clear; slice expressions. -/
import Derived.Test.YtmilniofdpgbnaaOwnO6
set_option linter.unusedVariables false
set_option linter.unusedSimpArgs false
namespace Go.Own
open Go

section
variable {P : Program} {w0 : Base} {T : List AV} {H : Heap} {c : Cx} {a : Act} {g : Option (Nat × Bool)} {o : Oper}

theorem row_over (h : HeapOK w0 H c) {id : Nat} {e : TypeId} {k off m : Nat} {p : Place} {cols ys zs : List Col} {us : List Value} (hid : H.at id = some (.row e k cols)) (hp : c.π id = some p) (hz : zipAll (fun c y => Col.over c off y) cols ys = some zs) (hy : ∀ col ∈ ys, col.len = m)
    (hf : FlatIs c ys m us) (hl : us.length = m * ys.length) (hfit : off + m ≤ k) (hm : m ≠ 0) :
    ∃ arr ct, c.w.heap[p.b]? = some (.cells arr ct (0, 0)) ∧ off * p.sz + us.length ≤ arr.size ∧ HeapOK w0 (setAt H id (.row e k zs)) (c.with (c.w.setRow p.b (overL arr.toList (off * p.sz) us).toArray)) ∧ c.le (c.with (c.w.setRow p.b (overL arr.toList (off * p.sz) us).toArray)) := by
  obtain ⟨p', hp', hob⟩ := h.obj id _ hid
  rw [hp] at hp'
  cases hp'
  obtain ⟨q1, q2, q3, q4, q5, q6⟩ := hob
  subst q1
  obtain ⟨arr, ct, ha, hs, hx⟩ := q6 (by omega)
  have hzl := zipAll_len hz
  have hsy : ys.length = p.sz := by omega
  have hmul : (off + m) * p.sz ≤ p.cap * p.sz := Nat.mul_le_mul_right _ (by omega)
  rw [Nat.add_mul] at hmul
  have hul : us.length = m * p.sz := by rw [hl, hsy]
  have hroom : off * p.sz + us.length ≤ arr.size := by omega
  obtain ⟨hh, hle⟩ := h.store id (.row e p.n zs) (c.w.setRow p.b (overL arr.toList (off * p.sz) us).toArray) ⟨rfl, rfl, rfl⟩ hid hp (by show p.cap ≠ 0; omega) (setRow_size _ _ _) (fun b hb => setRow_other _ _ _ _ hb) (fun hle => by
    refine ⟨rfl, by omega, q3, by omega, ?_, fun _ => ⟨_, ct, setRow_heap _ _ _ _ _ _ ha, ?_, fun i hi j col hj => ?_⟩⟩
    · intro col hcol
      obtain ⟨j, hj⟩ := List.getElem?_of_mem hcol
      obtain ⟨x, y, z1, z2, z3⟩ := zipAll_get hz hj
      rw [(Col.over_spec (c := c) z3 (by rw [hy y (List.mem_of_getElem? z2), q5 x (List.mem_of_getElem? z1)]; exact hfit)).1]
      exact q5 x (List.mem_of_getElem? z1)
    · simp only [List.size_toArray]
      rw [overL_len _ _ _ (by simpa using hroom)]
      simpa using hs
    · obtain ⟨x, y, z1, z2, z3⟩ := zipAll_get hz hj
      have hylen := hy y (List.mem_of_getElem? z2)
      obtain ⟨s1, s2, s3⟩ := Col.over_spec (c := c) z3 (by rw [hylen, q5 x (List.mem_of_getElem? z1)]; exact hfit)
      have hjl : j < p.sz := by rw [q2]; exact (List.getElem?_eq_some_iff.1 z1).1
      have hget : (overL arr.toList (off * p.sz) us).toArray[i * p.sz + j]? = if i * p.sz + j < off * p.sz then arr[i * p.sz + j]? else if i * p.sz + j < off * p.sz + us.length then us[i * p.sz + j - off * p.sz]? else arr[i * p.sz + j]? := by
        rw [List.getElem?_toArray, overL_get _ _ _ _ (by simp; omega)]
        simp
      by_cases hin : off ≤ i ∧ i < off + m
      · obtain ⟨u, g1, g2⟩ := hf (i - off) (by omega) j y z2
        have h1 : i * p.sz = off * p.sz + (i - off) * p.sz := by rw [← Nat.add_mul]; congr 1; omega
        have h2 := idx_lt (s := p.sz) (i := i - off) (n := m) hjl (by omega)
        refine ⟨u, ?_, ?_⟩
        · rw [hget, if_neg (by omega), if_pos (by omega), show i * p.sz + j - off * p.sz = (i - off) * ys.length + j by rw [hsy]; omega, g1]
        · have := s3 (i - off) u (by omega) g2
          rw [show off + (i - off) = i by omega] at this
          exact this.mono hle
      · obtain ⟨u, g1, g2⟩ := hx i hi j x z1
        refine ⟨u, ?_, (s2 i u (by omega) g2).mono hle⟩
        rw [hget]
        by_cases hlt : i < off
        · have := idx_lt (s := p.sz) hjl hlt
          rw [if_pos this, g1]
        · have h3 : (off + m) * p.sz ≤ i * p.sz := Nat.mul_le_mul_right _ (by omega)
          rw [Nat.add_mul] at h3
          rw [if_neg (by omega), if_neg (by omega), g1])
  exact ⟨arr, ct, ha, hroom, hh, hle⟩

theorem over_nil {x y z : Col} {a : Nat} (h : x.over a y = some z) (hy : y.len = 0) : z = x := by
  cases x <;> cases y <;> simp only [Col.over, reduceCtorEq] at h <;> simp only [Col.len, List.length_eq_zero_iff] at hy <;> subst hy
  · split at h
    · rename_i hk; cases h; simp [ovr, hk]
    · cases h
  · cases h; simp [ovr]
  · split at h
    · rename_i hk; cases h; simp [ovr, hk]
    · cases h

theorem zip_over_nil {off : Nat} : ∀ {cols ys zs : List Col}, zipAll (fun c y => Col.over c off y) cols ys = some zs → (∀ col ∈ ys, col.len = 0) → zs = cols
  | [], [], zs, h, _ => by simp only [zipAll, Option.some.injEq] at h; exact h.symm
  | x :: cols, y :: ys, zs, h, hy => by
    simp only [zipAll] at h
    split at h
    · rename_i z zs' h1 h2
      cases h
      rw [over_nil h1 (hy y (by simp)), zip_over_nil h2 (fun col hc => hy col (by simp [hc]))]
    · cases h
  | [], _ :: _, _, h, _ => by simp [zipAll] at h
  | _ :: _, [], _, h, _ => by simp [zipAll] at h

/-- The same object, written anew. -/
theorem row_same (h : HeapOK w0 H c) {id : Nat} {ob : AObj} (hid : H.at id = some ob) : HeapOK w0 (setAt H id ob) c := by
  obtain ⟨p, hp, hob⟩ := h.obj id ob hid
  refine h.write id ob p (Cx.le.refl c) (fun _ h => h) hp (fun _ _ => rfl) (fun _ _ _ _ => rfl) hob ?_ (fun _ _ => rfl)
  intro hm
  have hl : Live H c id p := ⟨ob, hid, hp, hm⟩
  obtain ⟨h1, h2, h3⟩ := h.out id p hl
  exact ⟨h1, h2, h3, fun x q hx hq => h.apart x id q p hq hl hx⟩

theorem append_osl (h : At P w0 T H c a.tmps g) {cl : Call} {x y : Operand} {t t2 e e2 : TypeId} {id off n k m : Nat} {cols ys zs : List Col} {rd : List Nat} {av : AV} (ho : o.op = .call cl) (hcl : cl.callee = .builtin .append) (hargs : cl.args = #[x, y]) (h1 : cl.argTypes[0]? = some t) (h2 : cl.argTypes[1]? = some t2)
    (ht : rowType P t = some e) (hu2 : P.underlying t2 = some (.slice e2)) (he : elemOk P e = true) (hx : opd P T g t x = .osl id off n) (hy : opd P T g t2 y = av) (hsl : sliceOf H av = some (m, ys, rd)) (hid : H.at id = some (.row e k cols)) (hsz : cols.length = (colsOf P 9 e).length) (hz : zipAll (fun c y => Col.over c (off + n) y) cols ys = some zs) (hfit : off + n + m ≤ k) :
    Goes P o a w0 (writeAll H [(id, .row e k zs)]) c (.osl id off (n + m)) := by
  obtain ⟨i, z, hi⟩ := elemOk_is he
  have hu := rowType_some ht
  have rx := opd_eq h hx
  have ry := opd_eq h hy
  obtain ⟨xb, xc, us, hvy, hcy, hl, hf, hlen⟩ := sliceOf_rel h.heap hsl ry
  simp only [Rel] at rx
  obtain ⟨p, sb, hp, hvx, hoff, hcap, had⟩ := rx
  obtain ⟨p', hp', hob⟩ := h.heap.obj id _ hid
  rw [hp] at hp'
  cases hp'
  have hob' := hob
  obtain ⟨q1, q2, q3, q4, q5, q6⟩ := hob'
  have hzl := zipAll_len hz
  have hsi : i.size = cols.length := by rw [hi.size, hsz]
  have hsy : ys.length = cols.length := by omega
  have hone := hf.ones hl
  have hex : execOp a.eval o = (do pure (.value (← Builtin.append_ cl.argTypes o.type #[a.eval x, a.eval y]))) := by
    rw [call_builtin ho hcl, hargs]
    simp only [builtin, List.map_toArray, List.map_cons, List.map_nil]
  by_cases hm0 : m = 0
  · subst hm0
    have hzs := zip_over_nil hz hlen
    subst hzs
    refine ⟨.slice sb n (p.cap - off), c, .inl ?_, Cx.le.refl c, row_same h.heap hid, ?_⟩
    · rw [hex, hvx, hvy]
      have hfc := run_firstCells (P := P) (xc := xc) (size := i.size) (xb := xb) (us := []) (m := 0) (w := c.w) (by simp) (fun h => absurd rfl h)
      have hle : n ≤ p.cap - off := by omega
      cases sb with
      | none => simp [Builtin.append_, h1, h2, run_underlying hu, run_underlying hu2, run_sizeOf hi.info, Builtin.lenOf, hfc, hle]
      | some ad => simp [Builtin.append_, h1, h2, run_underlying hu, run_underlying hu2, run_sizeOf hi.info, Builtin.lenOf, hfc, hle, storeCells]
    · simp only [Rel, Nat.add_zero]
      exact ⟨p, sb, hp, rfl, hoff, hcap, had⟩
  · obtain ⟨arr, ct, ha, hroom, hh, hle⟩ := row_over h.heap hid hp hz hlen hf hl hfit hm0
    have hsb := had (by omega)
    subst hsb
    have e1 : off * p.sz + n * i.size = (off + n) * p.sz := by rw [hsi, ← q2, Nat.add_mul]
    have hrun := run_append_in (P := P) (ty := o.type) (off := off * p.sz) (n := n) (cap := p.cap - off) (xc := xc) (cur := arr) (ct := ct) h1 h2 hu hu2 hi.info (by rw [hl, hsi, hsy]) hcy (by omega) hone ha (by rw [e1]; exact hroom)
    rw [e1] at hrun
    refine ⟨.slice (some ⟨p.b, off * p.sz, none⟩) (n + m) (p.cap - off), _, .inl ?_, hle, hh, ?_⟩
    · rw [hex, hvx, hvy]
      simp only [Sem.run_bind, hrun, Result.andThen_ok, Sem.run_pure]
      rfl
    · simp only [Rel]
      exact ⟨p, _, hp, rfl, by omega, hcap, fun _ => rfl⟩

theorem run_sliceBounds {len cap : Nat} {lo hi : Option Value} {l hh : Nat} (hlo : lo = none ∧ l = 0 ∨ ∃ k, lo = some (.int k (l : Int))) (hhi : hi = none ∧ hh = len ∨ ∃ k, hi = some (.int k (hh : Int))) (h1 : l ≤ hh) (h2 : hh ≤ cap) (w : World) :
    (Instr.sliceBounds true len cap lo hi none).run P w = .ok (l, hh, cap) w := by
  have hb : ∀ (k : IntKind) (n y : Nat) (code : BoundsCode), n ≤ y → (Instr.sliceBound (.int k (n : Int)) y code).run P w = .ok n w := by
    intro k n y code hle
    have : (0 : Int) ≤ n ∧ (n : Int) ≤ y := by omega
    simp [Instr.sliceBound, asIntOf, this]
  rcases hlo with ⟨rfl, rfl⟩ | ⟨k1, rfl⟩ <;> rcases hhi with ⟨rfl, rfl⟩ | ⟨k2, rfl⟩ <;> simp [Instr.sliceBounds, hb, h1, h2]

theorem boundAV_rel (h : At P w0 T H c a.tmps g) {ox : Option Operand} {d n : Int} (hx : boundAV P T g ox d = some n) : ox.map a.eval = none ∧ n = d ∨ ∃ k, ox.map a.eval = some (.int k n) := by
  unfold boundAV at hx
  cases ox with
  | none => simp at hx; exact .inl ⟨rfl, hx.symm⟩
  | some y =>
    simp only at hx
    split at hx
    · rename_i k n' hy
      cases hx
      exact .inr ⟨k, by simp [rel_int (opd_eq h hy)]⟩
    · cases hx

theorem run_sliceAt {t e : TypeId} {i : TypeInfo} (hu : P.underlying t = some (.slice e)) (hi : P.info? e = some i) {base : Option Addr} {len cap : Nat} {lo hh : Option Value} {l h' : Nat} {w : World} (hb : (Instr.sliceBounds true len cap lo hh none).run P w = .ok (l, h', cap) w) :
    (Instr.sliceAt t (.slice base len cap) lo hh none).run P w = .ok (.slice (if cap = l then base else base.map (·.add (l * i.size))) (h' - l) (cap - l)) w := by
  simp [Instr.sliceAt, Instr.slice, run_underlying hu, hb, run_sizeOf hi]

/-- The two bounds of a slice expression, as numbers. -/
theorem bounds_of (h : At P w0 T H c a.tmps g) {lo hi : Option Operand} {l hh : Int} {len cap : Nat} (hl : boundAV P T g lo 0 = some l) (hh' : boundAV P T g hi (ofN len) = some hh) (h0 : 0 ≤ l) (h1 : l ≤ hh) (h2 : hh ≤ cap) (w : World) :
    (Instr.sliceBounds true len cap (lo.map a.eval) (hi.map a.eval) none).run P w = .ok (l.toNat, hh.toNat, cap) w := by
  have e1 : ((l.toNat : Nat) : Int) = l := by omega
  have e2 : ((hh.toNat : Nat) : Int) = hh := by omega
  refine run_sliceBounds ?_ ?_ (by omega) (by omega) w
  · rcases boundAV_rel h hl with ⟨h3, h4⟩ | ⟨k, h3⟩
    · exact .inl ⟨h3, by omega⟩
    · exact .inr ⟨k, by rw [h3, e1]⟩
  · rcases boundAV_rel h hh' with ⟨h3, h4⟩ | ⟨k, h3⟩
    · exact .inl ⟨h3, by simp [ofN] at h4; omega⟩
    · exact .inr ⟨k, by rw [h3, e2]⟩

theorem slice_any (h : At P w0 T H c a.tmps g) {t e : TypeId} {x : Operand} {lo hi : Option Operand} {l hh : Int} {len cap n : Nat} {base : Option Addr} {v : AV} (ho : o.op = .slice t x lo hi none) (ht : rowType P t = some e) (hs : szOf P e = some n) (hv : a.eval x = .slice base len cap)
    (hl : boundAV P T g lo 0 = some l) (hh' : boundAV P T g hi (ofN len) = some hh) (h0 : 0 ≤ l) (h1 : l ≤ hh) (h2 : hh ≤ cap)
    (hr : Rel c v (.slice (if cap = l.toNat then base else base.map (·.add (l.toNat * n))) (hh.toNat - l.toNat) (cap - l.toNat))) : Goes P o a w0 H c v := by
  obtain ⟨ti, d, hi', hd, rfl⟩ := szOf_some hs
  refine value_of h (u := _) (s := Instr.sliceAt t (a.eval x) (lo.map a.eval) (hi.map a.eval) none) (by simp only [execOp, ho, Option.map_none]) ?_ hr
  rw [hv]
  exact run_sliceAt (rowType_some ht) hi' (bounds_of h hl hh' h0 h1 h2 c.w)

theorem toNat_sub {l hh : Int} (h0 : 0 ≤ l) (h1 : l ≤ hh) : hh.toNat - l.toNat = (hh - l).toNat := by omega

theorem toNat_add {l hh : Int} (h0 : 0 ≤ l) (h1 : l ≤ hh) : l.toNat + (hh - l).toNat = hh.toNat := by omega

theorem slice_sl (h : At P w0 T H c a.tmps g) {t e : TypeId} {x : Operand} {lo hi : Option Operand} {l hh : Int} {n : Nat} {cols : List Col} (ho : o.op = .slice t x lo hi none) (ht : rowType P t = some e) (hs : szOf P e = some cols.length) (hx : opd P T g t x = .sl n cols)
    (hl : boundAV P T g lo 0 = some l) (hh' : boundAV P T g hi (ofN n) = some hh) (h0 : 0 ≤ l) (h1 : l ≤ hh) (h2 : hh ≤ n) : Goes P o a w0 H c (.sl (nDiff hh l) (cols.map (·.part (nOf l) (nDiff hh l)))) := by
  have r := opd_eq h hx
  simp only [Rel] at r
  obtain ⟨base, cap, hv, hcap, hlen, hr⟩ := r
  refine slice_any h ho ht hs hv hl hh' h0 h1 (by omega) ?_
  simp only [Rel, nDiff, nOf]
  rw [toNat_sub h0 h1]
  have hfit : l.toNat + (hh - l).toNat ≤ n := by omega
  refine ⟨_, _, rfl, by omega, ?_, ?_⟩
  · intro col hcol
    obtain ⟨col0, h3, rfl⟩ := List.mem_map.1 hcol
    exact (Col.part_spec (c := c) (by rw [hlen col0 h3]; exact hfit)).1
  · by_cases hz : (hh - l).toNat = 0
    · exact .inl hz
    · rcases hr with hr | ⟨ad, rfl, hsp, hS, hc⟩
      · omega
      · rw [if_neg (by omega)]
        refine .inr ⟨ad.add (l.toNat * cols.length), rfl, ?_, ?_, fun i hi' j col hj => ?_⟩
        · rw [add_block _ _ hsp]
        · rw [add_block _ _ hsp]; exact hS
        · rw [List.getElem?_map] at hj
          cases hcj : cols[j]? with
          | none => simp [hcj] at hj
          | some col0 =>
            simp [hcj] at hj
            subst hj
            obtain ⟨u, g1, g2⟩ := hc (l.toNat + i) (by omega) j col0 hcj
            refine ⟨u, ?_, (Col.part_spec (by rw [hlen col0 (List.mem_of_getElem? hcj)]; exact hfit)).2 i u hi' g2⟩
            rw [add_block _ _ hsp]
            simp only [List.length_map]
            rw [Nat.add_mul] at g1
            simpa [Nat.add_assoc] using g1

theorem slice_full (h : At P w0 T H c a.tmps g) {t e e' : TypeId} {x : Operand} {lo hi : Option Operand} {l hh : Int} {k id : Nat} {cols : List Col} (ho : o.op = .slice t x lo hi none) (ht : rowType P t = some e) (hs : szOf P e = some cols.length) (hx : opd P T g t x = .full id) (hid : H.at id = some (.row e' k cols))
    (hl : boundAV P T g lo 0 = some l) (hh' : boundAV P T g hi (ofN k) = some hh) (h0 : 0 ≤ l) (h1 : l ≤ hh) (h2 : hh ≤ k) : Goes P o a w0 H c (.osl id (nOf l) (nDiff hh l)) := by
  have r := opd_eq h hx
  simp only [Rel] at r
  obtain ⟨p, ad, hp, hv, had⟩ := r
  obtain ⟨p', hp', hob⟩ := h.heap.obj id _ hid
  rw [hp] at hp'
  cases hp'
  obtain ⟨q1, q2, q3, q4, q5, q6⟩ := hob
  subst q1
  refine slice_any h ho ht hs hv hl hh' h0 h1 (by omega) ?_
  simp only [Rel, nDiff, nOf]
  rw [toNat_sub h0 h1]
  refine ⟨p, _, hp, rfl, by omega, q3, fun hlt => ?_⟩
  rw [if_neg (by omega), had (by omega)]
  simp only [Option.map_some, add_off, Nat.zero_add, q2]

theorem slice_osl (h : At P w0 T H c a.tmps g) {t e e' : TypeId} {x : Operand} {lo hi : Option Operand} {l hh : Int} {k id off n : Nat} {cols : List Col} (ho : o.op = .slice t x lo hi none) (ht : rowType P t = some e) (hs : szOf P e = some cols.length) (hx : opd P T g t x = .osl id off n) (hid : H.at id = some (.row e' k cols))
    (hl : boundAV P T g lo 0 = some l) (hh' : boundAV P T g hi (ofN n) = some hh) (h0 : 0 ≤ l) (h1 : l ≤ hh) (h2 : off + hh.toNat ≤ k) : Goes P o a w0 H c (.osl id (nAdd off (nOf l)) (nDiff hh l)) := by
  have r := opd_eq h hx
  simp only [Rel] at r
  obtain ⟨p, ad, hp, hv, hoff, hcap, had⟩ := r
  obtain ⟨p', hp', hob⟩ := h.heap.obj id _ hid
  rw [hp] at hp'
  cases hp'
  obtain ⟨q1, q2, q3, q4, q5, q6⟩ := hob
  subst q1
  have h4 : hh.toNat ≤ p.cap - off := by omega
  have h5 : hh ≤ ((p.cap - off : Nat) : Int) := by
    have h6 : ((hh.toNat : Nat) : Int) = hh := Int.toNat_of_nonneg (Int.le_trans h0 h1)
    rw [← h6]
    exact_mod_cast h4
  refine slice_any h ho ht hs hv hl hh' h0 h1 h5 ?_
  simp only [Rel, nDiff, nOf, nAdd]
  rw [toNat_sub h0 h1]
  have e7 := toNat_add h0 h1
  refine ⟨p, _, hp, by rw [Nat.sub_sub], by rw [Nat.add_assoc, e7]; exact h2, hcap, fun hlt => ?_⟩
  rw [if_neg (by omega), had (by omega)]
  simp only [Option.map_some, add_off, q2, Nat.add_mul]

theorem slice_emp (h : At P w0 T H c a.tmps g) {t e e' : TypeId} {x : Operand} {lo hi : Option Operand} {n : Nat} {cols : List Col} (ho : o.op = .slice t x lo hi none) (ht : rowType P t = some e) (hs : szOf P e = some n) (hx : opd P T g t x = .emp e' cols)
    (hl : boundAV P T g lo 0 = some 0) (hh' : boundAV P T g hi 0 = some 0) : Goes P o a w0 H c (.emp e' cols) := by
  have r := opd_eq h hx
  simp only [Rel] at r
  obtain ⟨hlen, ad, hv⟩ := r
  refine slice_any (len := 0) (cap := 0) (l := 0) (hh := 0) h ho ht hs hv hl hh' (by omega) (by omega) (by omega) ?_
  simp only [Rel]
  exact ⟨hlen, ad, by simp⟩

theorem slice_max (h : At P w0 T H c a.tmps g) {t e : TypeId} {x y z : Operand} {lo : Option Operand} {l hh m : Int} {len cap n : Nat} {base : Option Addr} (ho : o.op = .slice t x lo (some y) (some z)) (ht : rowType P t = some e) (hs : szOf P e = some n) (hv : a.eval x = .slice base len cap)
    (hl : boundAV P T g lo 0 = some l) (hh' : boundAV P T g (some y) (ofN len) = some hh) (hm : boundAV P T g (some z) 0 = some m) (h0 : 0 ≤ l) (h1 : l ≤ hh) (h2 : hh ≤ m) (h3 : m ≤ cap) : Goes P o a w0 H c .top := by
  obtain ⟨ti, d, hi', hd, rfl⟩ := szOf_some hs
  have hb : ∀ (k : IntKind) (n : Int) (y : Nat) (code : BoundsCode), 0 ≤ n → n ≤ y → (Instr.sliceBound (.int k n) y code).run P c.w = .ok n.toNat c.w := by
    intro k n y code hn hle
    simp [Instr.sliceBound, asIntOf, hn, hle]
  have hy : ∃ k, a.eval y = .int k hh := by
    rcases boundAV_rel h hh' with ⟨h4, _⟩ | ⟨k, h4⟩
    · simp at h4
    · exact ⟨k, by simpa using h4⟩
  have hz : ∃ k, a.eval z = .int k m := by
    rcases boundAV_rel h hm with ⟨h4, _⟩ | ⟨k, h4⟩
    · simp at h4
    · exact ⟨k, by simpa using h4⟩
  obtain ⟨k1, hy⟩ := hy
  obtain ⟨k2, hz⟩ := hz
  have e1 : ((m.toNat : Nat) : Int) = m := by omega
  have e2 : ((hh.toNat : Nat) : Int) = hh := by omega
  have hbounds : (Instr.sliceBounds true len cap (lo.map a.eval) (some (a.eval y)) (some (a.eval z))).run P c.w = .ok (l.toNat, hh.toNat, m.toNat) c.w := by
    rw [hy, hz]
    have q1 := hb k2 m cap .slice3Acap (by omega) h3
    have q2 := hb k1 hh m.toNat .slice3B (by omega) (by omega)
    rcases boundAV_rel h hl with ⟨h4, h5⟩ | ⟨k3, h4⟩
    · rw [h4]
      subst h5
      simp [Instr.sliceBounds, q1, q2]
    · rw [h4]
      have q3 := hb k3 l hh.toNat .slice3C h0 (by omega)
      simp [Instr.sliceBounds, q1, q2, q3]
  refine value_of h (u := .slice (if m.toNat = l.toNat then base else base.map (·.add (l.toNat * ti.size))) (hh.toNat - l.toNat) (m.toNat - l.toNat)) (s := Instr.sliceAt t (a.eval x) (lo.map a.eval) (some (a.eval y)) (some (a.eval z))) (by simp only [execOp, ho, Option.map_some]) ?_ (by simp [Rel])
  rw [hv]
  simp [Instr.sliceAt, Instr.slice, run_underlying (rowType_some ht), hbounds, run_sizeOf hi']

end
end Go.Own
