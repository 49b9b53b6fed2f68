/- Append. -/
import Derived.Test.YtmilniofdpgbnaaOwnO5
set_option linter.unusedVariables false
set_option linter.unusedSimpArgs false
namespace Go.Own
open Go

section
variable {P : Program} {w0 : Base} {T : List AV} {H : Heap} {c : Cx} {a : Act} {g : Option (Nat × Bool)} {o : Oper}

theorem run_firstCells {m xc size : Nat} {xb : Option Addr} {us : List Value} {w : World} (hl : us.length = m * size) (hx : m ≠ 0 → ∃ ad, xb = some ad ∧ ∀ (k : Nat) (u : Value), us[k]? = some u → w.cell? (ad.add k) = some u) :
    (Builtin.firstCells size m (.slice xb m xc)).run P w = .ok us.toArray w := by
  by_cases h0 : m = 0
  · subst h0
    have : us = [] := by
      simp at hl
      exact hl
    subst this
    cases xb with
    | none => simp [Builtin.firstCells]
    | some ad => simp [Builtin.firstCells, loadCells, loadCellsFrom]
  · obtain ⟨ad, rfl, hc⟩ := hx h0
    have := run_loadCells_list (P := P) w ad us hc
    rw [hl] at this
    simp [Builtin.firstCells, this]

theorem run_append_in {ats : Array TypeId} {t t2 e e2 ty : TypeId} {i : TypeInfo} (h1 : ats[0]? = some t) (h2 : ats[1]? = some t2) (hu : P.underlying t = some (.slice e)) (hu2 : P.underlying t2 = some (.slice e2)) (hi : P.info? e = some i)
    {n cap m xc b off : Nat} {xb : Option Addr} {us : List Value} {cur : Array Value} {ct : TypeId} {w : World} (hl : us.length = m * i.size) (hx : m ≠ 0 → ∃ ad, xb = some ad ∧ ∀ (k : Nat) (u : Value), us[k]? = some u → w.cell? (ad.add k) = some u)
    (hfit : n + m ≤ cap) (hone : ∀ u ∈ us, u.oneCell' = true) (hb : w.heap[b]? = some (.cells cur ct (0, 0))) (hroom : off + n * i.size + us.length ≤ cur.size) :
    (Builtin.append_ ats ty #[.slice (some ⟨b, off, none⟩) n cap, .slice xb m xc]).run P w = .ok (.slice (some ⟨b, off, none⟩) (n + m) cap) (w.setRow b (overL cur.toList (off + n * i.size) us).toArray) := by
  have hfc := run_firstCells (P := P) (xc := xc) (size := i.size) (w := w) hl hx
  have hst := run_storeCells_at P b (off + n * i.size) ct us 0 cur w hb (by omega) hone
  rw [over_arr] at hst
  simp [Builtin.append_, h1, h2, run_underlying hu, run_underlying hu2, run_sizeOf hi, Builtin.lenOf, hfit, hfc, add_off, hst]

theorem run_append_none {ats : Array TypeId} {t t2 e e2 ty : TypeId} {i : TypeInfo} (h1 : ats[0]? = some t) (h2 : ats[1]? = some t2) (hu : P.underlying t = some (.slice e)) (hu2 : P.underlying t2 = some (.slice e2)) (hi : P.info? e = some i)
    {xc : Nat} {sb xb : Option Addr} {w : World} :
    (Builtin.append_ ats ty #[.slice sb 0 0, .slice xb 0 xc]).run P w = .ok (.slice sb 0 0) w := by
  have hfc := run_firstCells (P := P) (xc := xc) (size := i.size) (xb := xb) (us := []) (m := 0) (w := w) (by simp) (fun h => absurd rfl h)
  cases sb with
  | none => simp [Builtin.append_, h1, h2, run_underlying hu, run_underlying hu2, run_sizeOf hi, Builtin.lenOf, hfc]
  | some ad => simp [Builtin.append_, h1, h2, run_underlying hu, run_underlying hu2, run_sizeOf hi, Builtin.lenOf, hfc, storeCells]

theorem growBy_le (need : Nat) : ∀ (r c0 : Nat), c0 ≤ need + need / 4 + 512 → Builtin.growBy need r c0 ≤ need + need / 4 + 512
  | 0, c0, h => by simp [Builtin.growBy]; omega
  | r + 1, c0, h => by
    simp only [Builtin.growBy]
    split
    · omega
    · exact growBy_le need r _ (by omega)

theorem next_le {need cap : Nat} (h : cap < need) : Builtin.nextslicecap need cap ≤ need + need / 4 + 512 := by
  unfold Builtin.nextslicecap
  split
  · omega
  · split
    · omega
    · exact growBy_le need 4 cap (by omega)

theorem next_zero (m : Nat) : Builtin.nextslicecap m 0 = m := by
  unfold Builtin.nextslicecap
  split
  · rfl
  · split <;> omega

theorem wide_is {e : TypeId} {i : TypeInfo} {z : Value} {m : Nat} (hi : ElemIs P e i z) (h : m ≤ wide P e) : m * i.bytes ≤ 2 ^ 47 ∧ (i.bytes = 0 → m ≤ 2 ^ 40) := by
  have hb : P.bytesOf e = i.bytes := by simp [Program.bytesOf, hi.info]
  unfold wide at h
  rw [hb] at h
  have h1 : m * i.bytes ≤ 2 ^ 47 / i.bytes * i.bytes := Nat.mul_le_mul_right _ h
  have h2 := Nat.div_mul_le_self (2 ^ 47) i.bytes
  refine ⟨by omega, fun h0 => ?_⟩
  rw [h0, Nat.div_zero] at h
  omega

theorem lim_of {e : TypeId} {i : TypeInfo} {z : Value} {need cap : Nat} (hi : ElemIs P e i z) (h : cap < need) (hr : need ≤ wide P e) : Builtin.nextslicecap need cap * i.bytes ≤ 2 ^ 48 := by
  have h0 := (wide_is hi hr).1
  have hb := hi.bytes
  have h1 : Builtin.nextslicecap need cap * i.bytes ≤ (need + need / 4 + 512) * i.bytes := Nat.mul_le_mul_right _ (next_le h)
  have h2 : (need + need / 4 + 512) * i.bytes = need * i.bytes + need / 4 * i.bytes + 512 * i.bytes := by rw [Nat.add_mul, Nat.add_mul]
  have h3 : 4 * (need / 4 * i.bytes) ≤ need * i.bytes := by
    rw [← Nat.mul_assoc]
    exact Nat.mul_le_mul_right _ (by omega)
  omega

theorem run_append_new {ats : Array TypeId} {t t2 e e2 ty : TypeId} {i : TypeInfo} {z : Value} (h1 : ats[0]? = some t) (h2 : ats[1]? = some t2) (hu : P.underlying t = some (.slice e)) (hu2 : P.underlying t2 = some (.slice e2)) (hi : ElemIs P e i z)
    {n cap m xc : Nat} {sb xb : Option Addr} {os us : List Value} {w : World} (hl : us.length = m * i.size) (hx : m ≠ 0 → ∃ ad, xb = some ad ∧ ∀ (k : Nat) (u : Value), us[k]? = some u → w.cell? (ad.add k) = some u)
    (hlo : os.length = n * i.size) (hxo : n ≠ 0 → ∃ ad, sb = some ad ∧ ∀ (k : Nat) (u : Value), os[k]? = some u → w.cell? (ad.add k) = some u)
    (hfit : cap < n + m) (hlim : Builtin.nextslicecap (n + m) cap * i.bytes ≤ 2 ^ 48) (hz0 : i.bytes = 0 → n + m ≤ 2 ^ 40) :
    ∃ (w' : World) (newCap : Nat) (rest : Array Value), w'.heap = w.heap ∧ Rest w w' ∧ n + m ≤ newCap ∧ rest.size = (newCap - (n + m)) * i.size ∧ (Builtin.append_ ats ty #[.slice sb n cap, .slice xb m xc]).run P w = .ok (.slice (some ⟨w.heap.size, 0, none⟩) (n + m) newCap) { w' with heap := w'.heap.push (.cells (os.toArray ++ us.toArray ++ rest) e (0, 0)) } := by
  let w' : World := w.drew
  let q : Question := .appendCap (n + m) cap e
  have hcell : ∀ ad : Addr, w'.cell? ad = w.cell? ad := fun ad => rfl
  have hfo := run_firstCells (P := P) (xc := cap) (size := i.size) (w := w') hlo (fun h0 => by obtain ⟨ad, h3, h4⟩ := hxo h0; exact ⟨ad, h3, fun k u hk => by rw [hcell]; exact h4 k u hk⟩)
  have hfx := run_firstCells (P := P) (xc := xc) (size := i.size) (w := w') hl (fun h0 => by obtain ⟨ad, h3, h4⟩ := hx h0; exact ⟨ad, h3, fun k u hk => by rw [hcell]; exact h4 k u hk⟩)
  have hlim1 : ¬ Builtin.nextslicecap (n + m) cap * i.bytes > 2 ^ 48 := by omega
  refine ⟨w', q.cut (w.tape w.drawn q), Builtin.zeroCells z.cells (q.cut (w.tape w.drawn q) - (n + m)), rfl, ⟨rfl, rfl, rfl⟩, ?_, ?_, ?_⟩
  · simp only [q, Question.cut]
    omega
  · simp [Builtin.zeroCells, hi.cells]
  · have hnle : ¬ n + m ≤ cap := by omega
    have hforced : (Question.appendCap (n + m) cap e).forced = false := rfl
    have hbig : ¬ (9223372036854775807 < (n : Int) + (m : Int) ∧ i.bytes = 0) := by
      rintro ⟨h5, h6⟩
      have := hz0 h6
      omega
    have hlim' : ¬ (2 : Nat) ^ 48 < Builtin.nextslicecap (n + m) cap * i.bytes := hlim1
    have hfo' : (Builtin.firstCells i.size n (Value.slice sb n cap)).run P w.drew = .ok os.toArray w.drew := hfo
    have hfx' : (Builtin.firstCells i.size m (Value.slice xb m xc)).run P w.drew = .ok us.toArray w.drew := hfx
    simp [Builtin.append_, h1, h2, run_underlying hu, run_underlying hu2, run_sizeOf hi.info, Builtin.lenOf, hnle, typeInfo, hi.info, hbig, hlim', hforced, hfo', hfx', run_zeroValue hi.info hi.zero, newRow]
    refine ⟨rfl, congrArg (fun r => w.drew.alloc (Obj.cells r e (0, 0))) ?_⟩
    apply Array.ext'
    simp [q]

theorem call_builtin {cl : Call} {b : Builtin} (ho : o.op = .call cl) (hc : cl.callee = .builtin b) (ρ : Operand → Value) : execOp ρ o = builtin b cl.argTypes o.type (cl.args.map fun | .const _ => true | _ => false) (cl.args.map ρ) := by
  cases cl
  simp only at hc
  subst hc
  simp only [execOp, ho, resolve, invoke]
  rfl

theorem flat_cat {cols ys zs : List Col} {n m : Nat} {os us : List Value} (rest : List Value) (hz : zipAll Col.join cols ys = some zs) (hc : ∀ col ∈ cols, col.len = n) (hy : ∀ col ∈ ys, col.len = m)
    (hf1 : FlatIs c cols n os) (hlo : os.length = n * cols.length) (hf2 : FlatIs c ys m us) (hl : us.length = m * ys.length) : FlatIs c zs (n + m) (os ++ us ++ rest) ∧ ∀ col ∈ zs, col.len = n + m := by
  have hzl := zipAll_len hz
  refine ⟨fun i hi j col hj => ?_, fun col hcol => ?_⟩
  · obtain ⟨x, y, z1, z2, z3⟩ := zipAll_get hz hj
    obtain ⟨j1, j2, j3⟩ := Col.join_spec (c := c) z3
    have hx := hc x (List.mem_of_getElem? z1)
    have hjl : j < cols.length := (List.getElem?_eq_some_iff.1 z1).1
    by_cases hin : i < n
    · obtain ⟨u, g1, g2⟩ := hf1 i hin j x z1
      refine ⟨u, ?_, j2 i u (by omega) g2⟩
      have := idx_lt hjl hin
      rw [← hzl.1, List.append_assoc, List.getElem?_append_left (by omega), g1]
    · obtain ⟨u, g1, g2⟩ := hf2 (i - n) (by omega) j y z2
      refine ⟨u, ?_, by have := j3 (i - n) u g2; rwa [hx, show n + (i - n) = i by omega] at this⟩
      have h3 : i * zs.length + j = n * cols.length + ((i - n) * ys.length + j) := by
        rw [← hzl.1, hzl.2, ← hzl.1, ← Nat.add_assoc, ← Nat.add_mul]
        congr 2
        omega
      have h4 := idx_lt (s := ys.length) (i := i - n) (n := m) (j := j) (by omega) (by omega)
      rw [h3, List.append_assoc, List.getElem?_append_right (by omega), hlo, show n * cols.length + ((i - n) * ys.length + j) - n * cols.length = (i - n) * ys.length + j by omega, List.getElem?_append_left (by omega), g1]
  · obtain ⟨j, hj⟩ := List.getElem?_of_mem hcol
    obtain ⟨x, y, z1, z2, z3⟩ := zipAll_get hz hj
    rw [(Col.join_spec (c := c) z3).1, hc x (List.mem_of_getElem? z1), hy y (List.mem_of_getElem? z2)]

theorem append_full (h : At P w0 T H c a.tmps g) {cl : Call} {x y : Operand} {t t2 e e2 : TypeId} {id n m fr : Nat} {cols ys zs : List Col} {rd : List Nat} {av : AV} (hfr : H.at fr = none) (ho : o.op = .call cl) (hcl : cl.callee = .builtin .append) (hargs : cl.args = #[x, y]) (h1 : cl.argTypes[0]? = some t) (h2 : cl.argTypes[1]? = some t2)
    (ht : rowType P t = some e) (hu2 : P.underlying t2 = some (.slice e2)) (he : elemOk P e = true) (hx : opd P T g t x = .full id) (hy : opd P T g t2 y = av) (hsl : sliceOf H av = some (m, ys, rd)) (hid : H.at id = some (.row e n cols)) (hsz : cols.length = (colsOf P 9 e).length) (hz : zipAll Col.join cols ys = some zs) (hroom : n + m ≤ wide P e) :
    Goes P o a w0 (writeAll H [(id, .dead), (fr, .row e (n + m) zs)]) c (.full fr) := by
  obtain ⟨i, z, hi⟩ := elemOk_is he
  have hu := rowType_some ht
  have rx := opd_eq h hx
  have ry := opd_eq h hy
  have hslx : sliceOf H (.full id) = some (n, cols, [id]) := by simp [sliceOf, hid]
  obtain ⟨sb, cap, os, hvx, hcx, hlo, hfo, hleno⟩ := sliceOf_rel h.heap hslx rx
  obtain ⟨xb, xc, us, hvy, hcy, hl, hf, hlen⟩ := sliceOf_rel h.heap hsl ry
  simp only [Rel] at rx
  obtain ⟨p, ad, hp, hv, had⟩ := rx
  obtain ⟨p', hp', hob⟩ := h.heap.obj id _ hid
  rw [hp] at hp'
  cases hp'
  obtain ⟨q1, q2, q3, q4, q5, q6⟩ := hob
  have hzl := zipAll_len hz
  have hsi : i.size = cols.length := by rw [hi.size, hsz]
  have hsy : ys.length = cols.length := by omega
  rw [hvx] at hv
  cases hv
  have hone := hf.ones hl
  have hne : fr ≠ id := by
    rintro rfl
    rw [hid] at hfr
    cases hfr
  have hH1 := h.heap.drop id hid
  have hfr1 : Heap.at (setAt H id .dead) fr = none := by rw [Heap.at_setAt, if_neg hne]; exact hfr
  have hex : execOp a.eval o = (do pure (.value (← Builtin.append_ cl.argTypes o.type #[a.eval x, a.eval y]))) := by
    rw [call_builtin ho hcl, hargs]
    simp only [builtin, List.map_toArray, List.map_cons, List.map_nil]
  have fin : ∀ (v : Value) (c' : Cx), (Builtin.append_ cl.argTypes o.type #[a.eval x, a.eval y]).run P c.w = .ok v c'.w → c.le c' → HeapOK w0 (setAt (setAt H id .dead) fr (.row e (p.n + m) zs)) c' → Rel c' (.full fr) v → Goes P o a w0 (writeAll H [(id, .dead), (fr, .row e (p.n + m) zs)]) c (.full fr) := by
    intro v c' e1 e2 e3 e4
    exact ⟨v, c', .inl (by rw [hex]; simp only [Sem.run_bind, e1, Result.andThen_ok, Sem.run_pure]), e2, e3, e4⟩
  by_cases hfit : p.n + m ≤ p.cap
  · by_cases hc0 : p.cap = 0
    · have hn0 : p.n = 0 := by omega
      have hm0 : m = 0 := by omega
      subst hm0
      have hrun := run_append_none (P := P) (ty := o.type) (sb := sb) (xb := xb) (xc := xc) (w := c.w) h1 h2 hu hu2 hi.info
      have hn1 := h.heap.free fr hfr
      have hle : c.le (c.putAt c.w fr ⟨0, cols.length, 0, 0⟩) := ⟨fun q r hq => by
          show (if q = fr then _ else c.π q) = _
          rw [if_neg (by rintro rfl; rw [hn1] at hq; cases hq)]
          exact hq, fun _ h => h, fun _ _ => rfl, Nat.le_refl _, rfl, rfl, rfl⟩
      have hcat := flat_cat (c := c) [] hz q5 hlen hfo hlo hf hl
      refine fin (.slice sb 0 0) (c.putAt c.w fr ⟨0, cols.length, 0, 0⟩) ?_ hle ?_ ?_
      · rw [hvx, hvy, hn0, hc0]
        exact hrun
      · refine hH1.write fr _ ⟨0, cols.length, 0, 0⟩ hle (fun _ h => h) (by simp [Cx.putAt]) (fun q hq => by simp [Cx.putAt, hq]) (fun _ _ _ _ => rfl) ?_ (fun hm => absurd rfl hm) (fun _ _ => rfl)
        exact ⟨by simp [hn0], by simp [hzl.1], by simp [hn0], by rw [← hzl.1]; exact q4, hcat.2, fun hne0 => absurd rfl hne0⟩
      · simp only [Rel]
        exact ⟨_, _, by simp [Cx.putAt]; rfl, rfl, fun hne0 => absurd rfl hne0⟩
    · have hsb := had hc0
      subst hsb
      obtain ⟨arr, ct, ha, hsA, hxA⟩ := q6 hc0
      have hcap : (p.n + m) * cols.length ≤ p.cap * cols.length := Nat.mul_le_mul_right _ hfit
      rw [Nat.add_mul] at hcap
      have hrun := run_append_in (P := P) (ty := o.type) (off := 0) (n := p.n) (cap := p.cap) (xc := xc) (cur := arr) (ct := ct) h1 h2 hu hu2 hi.info (by rw [hl, hsi, hsy]) hcy hfit hone ha (by rw [hl, hsy, hsi, hsA, q2]; omega)
      have hlarr : arr.toList.length = p.cap * cols.length := by simp [hsA, q2]
      have hlive : Live H c id p := ⟨_, hid, hp, hc0⟩
      have hn1 := h.heap.free fr hfr
      obtain ⟨o1, o2, o3⟩ := h.heap.out id p hlive
      let w' := c.w.setRow p.b (overL arr.toList (0 + p.n * i.size) us).toArray
      let pl : Place := ⟨p.b, p.sz, p.n + m, p.cap⟩
      have hle : c.le (c.putAt w' fr pl) := ⟨fun q r hq => by
          show (if q = fr then _ else c.π q) = _
          rw [if_neg (by rintro rfl; rw [hn1] at hq; cases hq)]
          exact hq, fun _ h => h, fun b hb => setRow_other _ _ _ _ (fun e => o3 (e ▸ hb)), Nat.le_of_eq (setRow_size _ _ _).symm, rfl, rfl, rfl⟩
      have hos : FlatIs c cols p.n (arr.toList.take (p.n * cols.length)) := by
        intro i' hi' j col hj
        obtain ⟨u, g1, g2⟩ := hxA i' hi' j col hj
        have hjl : j < cols.length := (List.getElem?_eq_some_iff.1 hj).1
        rw [q2] at g1
        exact ⟨u, by rw [List.getElem?_take, if_pos (idx_lt hjl hi')]; simpa using g1, g2⟩
      have hcat := flat_cat (c := c) (arr.toList.drop (0 + p.n * cols.length + us.length)) hz q5 hlen hos (by simp only [List.length_take]; omega) hf hl
      have hover : arr.toList.take (p.n * cols.length) ++ us ++ arr.toList.drop (0 + p.n * cols.length + us.length) = overL arr.toList (0 + p.n * i.size) us := by
        rw [hsi, Nat.zero_add]
        rfl
      rw [hover] at hcat
      have hapart : ∀ q r, q ≠ fr → Live (setAt H id .dead) c q r → r.b ≠ p.b := by
        rintro q r _ ⟨oq, hoq, hpq, hmq⟩
        rw [Heap.at_setAt] at hoq
        by_cases hqi : q = id
        · rw [if_pos hqi] at hoq
          cases hoq
          exact hmq.elim
        · rw [if_neg hqi] at hoq
          exact h.heap.apart q id r p ⟨oq, hoq, hpq, hmq⟩ hlive hqi
      refine fin (.slice (some ⟨p.b, 0, none⟩) (p.n + m) p.cap) (c.putAt w' fr pl) ?_ hle ?_ ?_
      · rw [hvx, hvy]
        exact hrun
      · refine hH1.write fr _ pl hle (fun _ h => h) (by simp [Cx.putAt]) (fun q hq => by simp [Cx.putAt, hq]) ?_ ?_ ?_ ?_
        · intro q r hq hlq
          exact setRow_other _ _ _ _ (hapart q r hq hlq)
        · refine ⟨rfl, by show p.sz = _; omega, hfit, by rw [← hzl.1]; exact q4, hcat.2, fun _ => ⟨_, ct, setRow_heap _ _ _ _ _ _ ha, ?_, fun i' hi' j col hj => ?_⟩⟩
          · simp only [List.size_toArray]
            rw [overL_len _ _ _ (by rw [hl, hsy, hsi]; omega)]
            show _ = p.cap * p.sz
            rw [hlarr, q2]
          · obtain ⟨u, g1, g2⟩ := hcat.1 i' hi' j col hj
            rw [← hzl.1, ← q2] at g1
            exact ⟨u, by rw [List.getElem?_toArray]; exact g1, g2.mono hle⟩
        · intro _
          exact ⟨o1, by show p.b < w'.heap.size; rw [setRow_size]; exact o2, o3, hapart⟩
        · intro b hb
          exact setRow_other _ _ _ _ (by omega)
      · simp only [Rel]
        exact ⟨pl, _, by simp [Cx.putAt], rfl, fun _ => rfl⟩
  · obtain ⟨w', newCap, rest, hw', hrs, hcap, hrest, hrun⟩ := run_append_new (P := P) (ty := o.type) (xc := xc) (n := p.n) (cap := p.cap) (sb := sb) h1 h2 hu hu2 hi (by rw [hl, hsi, hsy]) hcy (by rw [hlo, hsi]) hcx (by omega) (lim_of hi (by omega) hroom) (wide_is hi hroom).2
    have hcat := flat_cat (c := c) rest.toList hz q5 hlen hfo hlo hf hl
    obtain ⟨r1, r2, r3⟩ := new_row hH1 hfr1 e e w' hw' hrs (cols := zs) (n := p.n + m) (cap := newCap) (arr := os.toArray ++ us.toArray ++ rest) (by rw [← hzl.1]; exact q4) hcap hcat.2 (by
      simp only [Array.size_append, List.size_toArray, hrest, hlo, hl, hsi, hsy, ← hzl.1, ← Nat.add_mul]
      congr 1
      omega) (by simpa using hcat.1)
    refine fin _ _ ?_ r1 r2 r3
    rw [hvx, hvy]
    exact hrun

theorem append_emp (h : At P w0 T H c a.tmps g) {cl : Call} {x y : Operand} {t t2 e e2 e3 : TypeId} {m fr : Nat} {cols ys zs : List Col} {rd : List Nat} {av : AV} (hfr : H.at fr = none) (ho : o.op = .call cl) (hcl : cl.callee = .builtin .append) (hargs : cl.args = #[x, y]) (h1 : cl.argTypes[0]? = some t) (h2 : cl.argTypes[1]? = some t2)
    (ht : rowType P t = some e) (hu2 : P.underlying t2 = some (.slice e2)) (he : elemOk P e = true) (hx : opd P T g t x = .emp e3 cols) (hy : opd P T g t2 y = av) (hsl : sliceOf H av = some (m, ys, rd)) (hz : zipAll Col.join (colsOf P 9 e) ys = some zs) (hroom : m ≤ wide P e) :
    Goes P o a w0 (writeAll H [(fr, .row e m zs)]) c (.full fr) := by
  obtain ⟨i, z, hi⟩ := elemOk_is he
  have hwd := wide_is hi hroom
  have hu := rowType_some ht
  have rx := opd_eq h hx
  have ry := opd_eq h hy
  obtain ⟨xb, xc, us, hvy, hcy, hl, hf, hlen⟩ := sliceOf_rel h.heap hsl ry
  simp only [Rel] at rx
  obtain ⟨_, sb, hvx⟩ := rx
  have hzl := zipAll_len hz
  have hpos : 0 < zs.length := by rw [← hzl.1, ← hi.size]; exact hi.pos
  have hsy : ys.length = i.size := by rw [hi.size]; omega
  have hex : execOp a.eval o = (do pure (.value (← Builtin.append_ cl.argTypes o.type #[a.eval x, a.eval y]))) := by
    rw [call_builtin ho hcl, hargs]
    simp only [builtin, List.map_toArray, List.map_cons, List.map_nil]
  have fin : ∀ (v : Value) (c' : Cx), (Builtin.append_ cl.argTypes o.type #[a.eval x, a.eval y]).run P c.w = .ok v c'.w → c.le c' → HeapOK w0 (setAt H fr (.row e m zs)) c' → Rel c' (.full fr) v → Goes P o a w0 (writeAll H [(fr, .row e m zs)]) c (.full fr) := by
    intro v c' e1 e2 e3 e4
    exact ⟨v, c', .inl (by rw [hex]; simp only [Sem.run_bind, e1, Result.andThen_ok, Sem.run_pure]), e2, e3, e4⟩
  have hcat := flat_cat (c := c) (n := 0) (os := []) [] hz (colsOf_len 9 e) hlen (fun i' hi' => by omega) (by simp) hf hl
  rw [Nat.zero_add] at hcat
  by_cases hm0 : m = 0
  · subst hm0
    have hrun := run_append_none (P := P) (ty := o.type) (sb := sb) (xb := xb) (xc := xc) (w := c.w) h1 h2 hu hu2 hi.info
    have hn1 := h.heap.free fr hfr
    have hle : c.le (c.putAt c.w fr ⟨0, zs.length, 0, 0⟩) := ⟨fun q r hq => by
        show (if q = fr then _ else c.π q) = _
        rw [if_neg (by rintro rfl; rw [hn1] at hq; cases hq)]
        exact hq, fun _ h => h, fun _ _ => rfl, Nat.le_refl _, rfl, rfl, rfl⟩
    refine fin (.slice sb 0 0) (c.putAt c.w fr ⟨0, zs.length, 0, 0⟩) ?_ hle ?_ ?_
    · rw [hvx, hvy]
      exact hrun
    · refine h.heap.write fr _ ⟨0, zs.length, 0, 0⟩ hle (fun _ h => h) (by simp [Cx.putAt]) (fun q hq => by simp [Cx.putAt, hq]) (fun _ _ _ _ => rfl) ?_ (fun hm => absurd rfl hm) (fun _ _ => rfl)
      exact ⟨rfl, rfl, Nat.le_refl _, hpos, hcat.2, fun hne0 => absurd rfl hne0⟩
    · simp only [Rel]
      exact ⟨_, _, by simp [Cx.putAt]; rfl, rfl, fun hne0 => absurd rfl hne0⟩
  · obtain ⟨w', newCap, rest, hw', hrs, hcap, hrest, hrun⟩ := run_append_new (P := P) (ty := o.type) (xc := xc) (n := 0) (cap := 0) (sb := sb) (os := []) h1 h2 hu hu2 hi (by rw [hl, hsy]) hcy (by simp) (fun h => absurd rfl h) (by omega) (by rw [Nat.zero_add, next_zero]; omega) (fun h0 => by rw [Nat.zero_add]; exact hwd.2 h0)
    rw [Nat.zero_add] at hcap hrest hrun
    have hcat' := flat_cat (c := c) (n := 0) (os := []) rest.toList hz (colsOf_len 9 e) hlen (fun i' hi' => by omega) (by simp) hf hl
    rw [Nat.zero_add] at hcat'
    obtain ⟨r1, r2, r3⟩ := new_row h.heap hfr e e w' hw' hrs (cols := zs) (n := m) (cap := newCap) (arr := ([] : List Value).toArray ++ us.toArray ++ rest) hpos hcap hcat'.2 (by
      simp only [Array.size_append, List.size_toArray, List.length_nil, hrest, hl, hsy, ← hzl.1, hi.size, Nat.zero_add, ← Nat.add_mul]
      congr 1
      omega) (by simpa using hcat'.1)
    refine fin _ _ ?_ r1 r2 r3
    rw [hvx, hvy]
    exact hrun

end
end Go.Own
