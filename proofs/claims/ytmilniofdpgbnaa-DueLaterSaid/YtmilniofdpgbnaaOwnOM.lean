/- Maps by ints whose elements are rows of ints and bools: made, put, dropped, looked up, and gone through. -/
import Derived.Test.YtmilniofdpgbnaaOwnO9
set_option linter.unusedVariables false
set_option linter.unusedSimpArgs false
namespace Go.Own
open Go

section
variable {P : Program} {w0 : Base} {T : List AV} {H : Heap} {c : Cx} {a : Act} {g : Option (Nat × Bool)} {o : Oper}

theorem mapT_some {t : TypeId} {cols : List Col} {one : Bool} (h : mapT P t = some (cols, one)) : ∃ k e, P.underlying t = some (.map k e) ∧ P.underlying k = some (.int .i64) ∧ (∀ col ∈ cols, col.len = 0 ∧ col.flat = true) ∧ (one = true → ∃ col, cols = [col]) := by
  unfold mapT at h
  split at h
  · rename_i k e hu
    split at h
    · rename_i hk
      split at h
      · rename_i hf
        refine ⟨k, e, hu, hk, ?_⟩
        have key : ∀ col ∈ colsOf P 9 e, col.len = 0 ∧ col.flat = true := fun col hc => ⟨colsOf_len 9 e col hc, List.all_eq_true.1 hf col hc⟩
        split at h
        · rename_i col _ he
          cases h
          exact ⟨fun x hx => key x (by rw [he]; exact hx), fun _ => ⟨_, rfl⟩⟩
        · rename_i col cs _ he
          cases h
          exact ⟨fun x hx => key x (by rw [he]; exact hx), fun h => by cases h⟩
        · cases h
      · cases h
    · cases h
  · cases h

theorem makeT_goes (h : At P w0 T H c a.tmps g) {t : TypeId} {fr : Nat} {cols : List Col} {one : Bool} (hfr : H.at fr = none) (ho : o.op = .makeMap t none) (ht : mapT P t = some (cols, one)) : Goes P o a w0 (writeAll H [(fr, .tmap [] cols one)]) c (.mp fr) := by
  have hn := h.heap.free fr hfr
  have hle := le_push h.heap (.map #[] 0) fr ⟨c.w.heap.size, 0, 0, 1⟩ hn
  obtain ⟨_, _, _, _, hc, _⟩ := mapT_some ht
  refine ⟨.map (some c.w.heap.size), c.putAt { c.w with heap := c.w.heap.push (.map #[] 0) } fr ⟨c.w.heap.size, 0, 0, 1⟩, .inl ?_, hle, ?_, ?_⟩
  · simp only [execOp, ho, Option.map_none, Sem.run_bind, Instr.makeMap, run_newObj, Result.andThen_ok, Sem.run_pure]
    rfl
  · exact h.heap.alloc fr _ _ _ hfr rfl ⟨Nat.one_ne_zero, #[], 0, heap_push_new _ _, rfl, fun col hcol => (hc col hcol).1, fun i e hi => by simp at hi, fun i e hi => by simp at hi, List.nodup_nil, List.nodup_nil, fun e he => by simp at he⟩
  · simp only [Rel]
    exact ⟨_, by simp [Cx.putAt]; rfl, rfl⟩

theorem findNow_keys {k : IntKind} {n : Int} : ∀ (ms : List MapEntry) (ks : List Int) (i : Nat), ms.length = ks.length → (∀ (j : Nat) (e : MapEntry), ms[j]? = some e → e.key = .int .i64 (gI ks j)) →
    (∃ e, n ∈ ks ∧ ms[ks.idxOf n]? = some e ∧ Instr.findNow (.int k) (.int .i64 n) ms i = some (some (i + ks.idxOf n, e.val))) ∨ (n ∉ ks ∧ Instr.findNow (.int k) (.int .i64 n) ms i = some none)
  | [], [], i, _, _ => .inr ⟨by simp, rfl⟩
  | m :: ms, x :: ks, i, hl, hk => by
    have h0 := hk 0 m rfl
    have h0' : m.key = .int .i64 x := by simpa [gI] using h0
    by_cases hx : n = x
    · subst hx
      refine .inl ⟨m, by simp, by simp, ?_⟩
      simp [Instr.findNow, h0', Instr.sameNow]
    · have hne : (n == x) = false := by simpa using hx
      have hxn : (x == n) = false := by simpa using fun e => hx e.symm
      have hi : (x :: ks).idxOf n = ks.idxOf n + 1 := by rw [List.idxOf_cons, hxn]; rfl
      rcases findNow_keys (k := k) (n := n) ms ks (i + 1) (by simpa using hl) (fun j e he => by have := hk (j + 1) e (by simpa using he); simpa [gI] using this) with ⟨e, h1, h2, h3⟩ | ⟨h1, h2⟩
      · refine .inl ⟨e, by simp [h1], by rw [hi]; simpa using h2, ?_⟩
        simp only [Instr.findNow, h0', Instr.sameNow, if_true, hne, h3, hi]
        congr 3
        omega
      · refine .inr ⟨by simp [hx, h1], ?_⟩
        simp only [Instr.findNow, h0', Instr.sameNow, if_true, hne, h2]
  | [], _ :: _, _, hl, _ => by simp at hl
  | _ :: _, [], _, hl, _ => by simp at hl

theorem MapOf.find {w : World} {b : Nat} {ks : List Int} {cols : List Col} {one : Bool} {es : Array MapEntry} {clk : Nat} (h : MapOf w b ks cols one es clk) (k : IntKind) (n : Int) :
    (∃ e, n ∈ ks ∧ es[ks.idxOf n]? = some e ∧ Instr.findNow (.int k) (.int .i64 n) es.toList 0 = some (some (ks.idxOf n, e.val))) ∨ (n ∉ ks ∧ Instr.findNow (.int k) (.int .i64 n) es.toList 0 = some none) := by
  have := findNow_keys (k := k) (n := n) es.toList ks 0 (by simpa using h.len) (fun j e he => h.key j e (by simpa using he))
  simpa using this

theorem map_at (h : At P w0 T H c a.tmps g) {m : Operand} {id : Nat} {ks : List Int} {cols : List Col} {one : Bool} (hm : opd P T g 0 m = .mp id) (hid : H.at id = some (.tmap ks cols one)) :
    ∃ p es clk, c.π id = some p ∧ a.eval m = .map (some p.b) ∧ p.cap ≠ 0 ∧ MapOf c.w p.b ks cols one es clk ∧ p.b < c.w.heap.size := by
  have rm := opd_eq h hm
  simp only [Rel] at rm
  obtain ⟨p, hp, hvm⟩ := rm
  obtain ⟨p', hp', hob⟩ := h.heap.obj id _ hid
  rw [hp] at hp'
  cases hp'
  obtain ⟨hc, es, clk, hmo⟩ := hob
  exact ⟨p, es, clk, hp, hvm, hc, hmo, (h.heap.out id p ⟨_, hid, hp, trivial⟩).2.1⟩

/-- The columns behind a put, and what stands there. -/
theorem mput_spec {ks : List Int} {n : Int} {col z : Col} {x : AV} (h : col.mput ks n x = some z) (hl : col.len = ks.length) :
    z.len = (mkey ks n).length ∧ (∀ u, Rel c x u → ColV z (ks.idxOf n) u) ∧ (∀ i u, i < ks.length → i ≠ ks.idxOf n → ColV col i u → ColV z i u) := by
  have hidx : n ∈ ks → ks.idxOf n < ks.length := fun hn => List.idxOf_lt_length_of_mem hn
  have hout : n ∉ ks → ks.idxOf n = ks.length := fun hn => List.idxOf_eq_length hn
  unfold Col.mput at h
  split at h
  · rename_i q l q' m
    split at h
    · rename_i hq
      subst hq
      cases h
      have hl' : l.length = ks.length := hl
      simp only [Col.len, mkey, mput, List.contains_iff_mem]
      by_cases hn : n ∈ ks
      · have := hidx hn
        rw [if_pos hn, if_pos hn]
        refine ⟨by simpa using hl', fun u hu => ?_, fun i u hi hne hc => ?_⟩
        · rw [rel_int hu]
          simp [ColV, gI, List.getD_eq_getElem?_getD, hl', this]
        · simp only [ColV] at hc ⊢
          rw [hc]
          simp [gI, List.getD_eq_getElem?_getD, List.getElem?_set_ne (Ne.symm hne)]
      · have := hout hn
        rw [if_neg hn, if_neg hn]
        refine ⟨by simp [hl'], fun u hu => ?_, fun i u hi hne hc => ?_⟩
        · rw [rel_int hu, this]
          simp [ColV, gI, List.getD_eq_getElem?_getD, ← hl']
        · simp only [ColV] at hc ⊢
          rw [hc]
          simp only [gI, List.getD_eq_getElem?_getD]
          rw [List.getElem?_append_left (by omega)]
    · cases h
  · rename_i l b
    cases h
    have hl' : l.length = ks.length := hl
    simp only [Col.len, mkey, mput, List.contains_iff_mem]
    by_cases hn : n ∈ ks
    · have := hidx hn
      rw [if_pos hn, if_pos hn]
      refine ⟨by simpa using hl', fun u hu => ?_, fun i u hi hne hc => ?_⟩
      · rw [rel_bool hu]
        simp [ColV, gB, List.getD_eq_getElem?_getD, hl', this]
      · simp only [ColV] at hc ⊢
        rw [hc]
        simp [gB, List.getD_eq_getElem?_getD, List.getElem?_set_ne (Ne.symm hne)]
    · have := hout hn
      rw [if_neg hn, if_neg hn]
      refine ⟨by simp [hl'], fun u hu => ?_, fun i u hi hne hc => ?_⟩
      · rw [rel_bool hu, this]
        simp [ColV, gB, List.getD_eq_getElem?_getD, ← hl']
      · simp only [ColV] at hc ⊢
        rw [hc]
        simp only [gB, List.getD_eq_getElem?_getD]
        rw [List.getElem?_append_left (by omega)]
  · cases h

theorem zips_put {ks : List Int} {n : Int} {cols zs : List Col} {xs : List AV} (h : zipAll (fun c x => c.mput ks n x) cols xs = some zs) : cols.length = zs.length ∧ xs.length = zs.length ∧ ∀ (j : Nat) (z : Col), zs[j]? = some z → ∃ col x, cols[j]? = some col ∧ xs[j]? = some x ∧ col.mput ks n x = some z :=
  ⟨(zipAll_len h).1, (zipAll_len h).2, fun j z hz => zipAll_get h hz⟩

theorem putAll_spec {ks : List Int} {n : Int} {cols zs : List Col} {one : Bool} {x : AV} (h : putAll ks cols n one x = some zs) (hl : ∀ col ∈ cols, col.len = ks.length) :
    (∀ z ∈ zs, z.len = (mkey ks n).length) ∧ (∀ u, Rel c x u → ElemV zs one (ks.idxOf n) u) ∧ (∀ i u, i < ks.length → i ≠ ks.idxOf n → ElemV cols one i u → ElemV zs one i u) := by
  cases one with
  | true =>
    have h' : zipAll (fun c x => c.mput ks n x) cols [x] = some zs := by
      unfold putAll at h
      exact h
    obtain ⟨h1, h2, h3⟩ := zips_put h'
    have hz1 : zs.length = 1 := by rw [← h2]; rfl
    obtain ⟨z, rfl⟩ : ∃ z, zs = [z] := by
      match zs, hz1 with
      | [z], _ => exact ⟨z, rfl⟩
    obtain ⟨col, y, g1, g2, g3⟩ := h3 0 z rfl
    obtain ⟨col', rfl⟩ : ∃ z, cols = [z] := by
      match cols, h1 with
      | [z], _ => exact ⟨z, rfl⟩
    simp only [List.getElem?_cons_zero, Option.some.injEq] at g1 g2
    subst g1 g2
    obtain ⟨k1, k2, k3⟩ := mput_spec (c := c) g3 (hl _ (by simp))
    refine ⟨fun w hw => by simp at hw; subst hw; exact k1, fun u hu => ⟨z, rfl, k2 u hu⟩, ?_⟩
    rintro i u hi hne ⟨col, hc, hv⟩
    simp only [List.cons.injEq, and_true] at hc
    subst hc
    exact ⟨z, rfl, k3 i u hi hne hv⟩
  | false =>
    unfold putAll at h
    split at h
    · rename_i hx; cases hx
    · rename_i vs _
      obtain ⟨h1, h2, h3⟩ := zips_put h
      refine ⟨fun z hz => ?_, fun u hu => ?_, ?_⟩
      · obtain ⟨j, hj⟩ := List.getElem?_of_mem hz
        obtain ⟨col, y, g1, g2, g3⟩ := h3 j z hj
        exact (mput_spec (c := c) g3 (hl _ (List.mem_of_getElem? g1))).1
      · simp only [Rel] at hu
        obtain ⟨us, rfl, hr⟩ := hu
        refine ⟨us, rfl, ?_, fun j z hz => ?_⟩
        · have := hr.length
          simp only [Array.length_toList] at this
          omega
        · obtain ⟨col, y, g1, g2, g3⟩ := h3 j z hz
          obtain ⟨v, hv, hrv⟩ := hr.get g2
          exact ⟨v, by simpa using hv, (mput_spec (c := c) g3 (hl _ (List.mem_of_getElem? g1))).2.1 v hrv⟩
      · rintro i u hi hne ⟨us, rfl, hs, hv⟩
        refine ⟨us, rfl, by omega, fun j z hz => ?_⟩
        obtain ⟨col, y, g1, g2, g3⟩ := h3 j z hz
        obtain ⟨v, hv1, hv2⟩ := hv j col g1
        exact ⟨v, hv1, (mput_spec (c := c) g3 (hl _ (List.mem_of_getElem? g1))).2.2 i v hi hne hv2⟩
    · cases h

theorem setObj_run {w : World} {b : Nat} {es : Array MapEntry} {clk : Nat} (ha : w.heap[b]? = some (.map es clk)) (ob : Obj) : (setObj b ob).run P w = .ok () { w with heap := w.heap.setIfInBounds b ob } := by
  simp [setObj, Sem.run, ha]

theorem getObj_run {w : World} {b : Nat} {es : Array MapEntry} {clk : Nat} (ha : w.heap[b]? = some (.map es clk)) : (getObj b).run P w = .ok (.map es clk) w := by simp [getObj, Sem.run, ha]

/-- One object's block is written anew. -/
theorem set_block (h : At P w0 T H c a.tmps g) {id : Nat} {ob : AObj} {p : Place} (hid : H.at id = some ob) (hp : c.π id = some p) (hm : Mem ob p) (ob' : AObj) (x : Obj) (hobj : ObjAt (c.with { c.w with heap := c.w.heap.setIfInBounds p.b x }) ob' p) :
    HeapOK w0 (setAt H id ob') (c.with { c.w with heap := c.w.heap.setIfInBounds p.b x }) ∧ c.le (c.with { c.w with heap := c.w.heap.setIfInBounds p.b x }) :=
  h.heap.store id ob' _ ⟨rfl, rfl, rfl⟩ hid hp hm (by simp) (fun b hb => by
    show (c.w.heap.setIfInBounds p.b _)[b]? = _
    rw [Array.getElem?_setIfInBounds_ne (Ne.symm hb)]) (fun _ => hobj)

theorem set_here {w : World} {b : Nat} {x : Obj} (hlt : b < w.heap.size) : ({ w with heap := w.heap.setIfInBounds b x } : World).heap[b]? = some x := by
  show (w.heap.setIfInBounds b _)[b]? = _
  rw [Array.getElem?_setIfInBounds_self_of_lt hlt]

theorem gI_app_old {ks : List Int} {n : Int} {i : Nat} (h : i < ks.length) : gI (ks ++ [n]) i = gI ks i := by
  simp only [gI, List.getD_eq_getElem?_getD]
  rw [List.getElem?_append_left h]

theorem gI_app_new {ks : List Int} {n : Int} : gI (ks ++ [n]) ks.length = n := by
  simp [gI, List.getD_eq_getElem?_getD]

theorem putT_goes (h : At P w0 T H c a.tmps g) {t kt e : TypeId} {k : IntKind} {m x y : Operand} {id : Nat} {n : Int} {ks : List Int} {cols zs : List Col} {one : Bool} {v : AV} (ho : o.op = .insert t m x y ∨ o.op = .mapUpdate t m x y) (ht : P.underlying t = some (.map kt e)) (hk : P.underlying kt = some (.int k)) (hm : opd P T g 0 m = .mp id) (hx : opd P T g 3 x = .int .i64 n) (hy : opd P T g 0 y = v)
    (hid : H.at id = some (.tmap ks cols one)) (hz : putAll ks cols n one v = some zs) : Goes P o a w0 (writeAll H [(id, .tmap (mkey ks n) zs one)]) c .top := by
  obtain ⟨p, es, clk, hp, hvm, hcap, hmo, hlt⟩ := map_at h hm hid
  have rx := rel_int (opd_eq h hx)
  have ry := opd_eq h hy
  obtain ⟨z1, z2, z3⟩ := putAll_spec (c := c) hz hmo.col
  have hgo := getObj_run (P := P) hmo.here
  have go : ∀ ob, ObjAt (c.with { c.w with heap := c.w.heap.setIfInBounds p.b ob }) (.tmap (mkey ks n) zs one) p → (Instr.mapUpdate t (a.eval m) (a.eval x) (a.eval y)).run P c.w = .ok () { c.w with heap := c.w.heap.setIfInBounds p.b ob } → Goes P o a w0 (writeAll H [(id, .tmap (mkey ks n) zs one)]) c .top := by
    intro ob hobj hrun
    obtain ⟨hh, hle⟩ := set_block h hid hp trivial (.tmap (mkey ks n) zs one) ob hobj
    refine ⟨undef, c.with _, .inr ⟨?_, rfl⟩, hle, hh, by simp [Rel]⟩
    rcases ho with ho | ho <;> simp only [execOp, ho, Sem.run_bind, hrun, Result.andThen_ok, Sem.run_pure] <;> rfl
  rcases hmo.find k n with ⟨e0, hn, he0, hf⟩ | ⟨hn, hf⟩
  · have hmk : mkey ks n = ks := by simp [mkey, hn]
    have hkey0 : e0.key = .int .i64 n := by
      have := hmo.key _ _ he0
      rw [this]
      have hlt := List.idxOf_lt_length_of_mem hn
      simp [gI, List.getD_eq_getElem?_getD, hlt]
    refine go (.map (es.modify (ks.idxOf n) fun e => { e with key := .int .i64 n, val := a.eval y }) clk) ?_ ?_
    · refine ⟨hcap, es.modify (ks.idxOf n) fun e => { e with key := .int .i64 n, val := a.eval y }, clk, ?_⟩
      have hget : ∀ i : Nat, (es.modify (ks.idxOf n) fun e => { e with key := .int .i64 n, val := a.eval y })[i]? = if ks.idxOf n = i then (es[i]?).map (fun e => { e with key := .int .i64 n, val := a.eval y }) else es[i]? := fun i => by rw [Array.getElem?_modify]
      rw [hmk]
      rw [hmk] at z1
      refine ⟨set_here hlt, by simpa using hmo.len, z1, ?_, ?_, hmo.nodup, ?_, ?_⟩
      · intro i e hi
        rw [hget] at hi
        split at hi
        · rename_i hei
          subst hei
          rw [he0] at hi
          cases hi
          have := hmo.key _ _ he0
          rw [hkey0] at this
          exact this
        · exact hmo.key i e hi
      · intro i e hi
        rw [hget] at hi
        split at hi
        · rename_i hei
          subst hei
          rw [he0] at hi
          cases hi
          exact z2 _ ry
        · rename_i hne
          have hlt : i < ks.length := by
            have := (Array.getElem?_eq_some_iff.1 hi).1
            rw [hmo.len] at this
            exact this
          exact z3 i _ hlt (Ne.symm hne) (hmo.val i e hi)
      · have e1 : (es.modify (ks.idxOf n) fun e => { e with key := .int .i64 n, val := a.eval y }).toList.map (·.born) = es.toList.map (·.born) := by
          apply List.ext_getElem?
          intro i
          rw [List.getElem?_map, List.getElem?_map, Array.getElem?_toList, Array.getElem?_toList, hget]
          split
          · cases es[i]? <;> rfl
          · rfl
        rw [e1]
        exact hmo.born
      · intro e he
        obtain ⟨i, hi⟩ := List.getElem?_of_mem he
        rw [Array.getElem?_toList, hget] at hi
        split at hi
        · cases hes : es[i]? with
          | none => rw [hes] at hi; cases hi
          | some e1 =>
            rw [hes] at hi
            cases hi
            exact hmo.old e1 (List.mem_of_getElem? (by rw [Array.getElem?_toList]; exact hes))
        · exact hmo.old e (List.mem_of_getElem? (by rw [Array.getElem?_toList]; exact hi))
    · rw [hvm, rx]
      have hfk : (Instr.findKey kt (.int .i64 n) es.toList).run P c.w = .ok (some (ks.idxOf n, e0.val)) c.w := by
        simp [Instr.findKey, run_underlying hk, hf]
      have hst : (Instr.keyThatStays ((es[ks.idxOf n]?.map (·.key)).getD (.int .i64 n)) (.int .i64 n)).run P c.w = .ok (.int .i64 n) c.w := by
        rw [he0]
        simp [Instr.keyThatStays, hkey0, Instr.sameBits]
      simp only [Instr.mapUpdate, Sem.run_bind, run_underlying ht, Result.andThen_ok, hgo, run_checkKey_int hk false 9999 _ ⟨_, _, rfl⟩, hfk, hst, setObj_run hmo.here]
  · have hmk : mkey ks n = ks ++ [n] := by simp [mkey, hn]
    have hix : ks.idxOf n = ks.length := List.idxOf_eq_length hn
    refine go (.map (es.push { key := .int .i64 n, val := a.eval y, born := clk }) (clk + 1)) ?_ ?_
    · refine ⟨hcap, es.push { key := .int .i64 n, val := a.eval y, born := clk }, clk + 1, ?_⟩
      have hget : ∀ (i : Nat) (e : MapEntry), (es.push { key := .int .i64 n, val := a.eval y, born := clk })[i]? = some e → (i < ks.length ∧ es[i]? = some e) ∨ (i = ks.length ∧ e = { key := .int .i64 n, val := a.eval y, born := clk }) := by
        intro i e hi
        rw [Array.getElem?_push, hmo.len] at hi
        split at hi
        · rename_i hh
          cases hi
          exact .inr ⟨hh, rfl⟩
        · have := (Array.getElem?_eq_some_iff.1 hi).1
          rw [hmo.len] at this
          exact .inl ⟨this, hi⟩
      rw [hmk]
      rw [hmk] at z1
      refine ⟨set_here hlt, by simp [hmo.len], z1, ?_, ?_, ?_, ?_, ?_⟩
      · intro i e hi
        rcases hget i e hi with ⟨h1, h2⟩ | ⟨rfl, rfl⟩
        · rw [gI_app_old h1]
          exact hmo.key i e h2
        · rw [gI_app_new]
      · intro i e hi
        rcases hget i e hi with ⟨h1, h2⟩ | ⟨rfl, rfl⟩
        · exact z3 i _ h1 (by omega) (hmo.val i e h2)
        · have := z2 _ ry
          rw [hix] at this
          exact this
      · rw [List.nodup_append]
        refine ⟨hmo.nodup, by simp, fun x1 hx1 y1 hy1 => ?_⟩
        simp at hy1
        subst hy1
        rintro rfl
        exact hn hx1
      · rw [Array.toList_push, List.map_append, List.nodup_append]
        refine ⟨hmo.born, by simp, fun x1 hx1 y1 hy1 => ?_⟩
        simp at hy1
        subst hy1
        obtain ⟨e, he, rfl⟩ := List.mem_map.1 hx1
        have := hmo.old e he
        omega
      · intro e he
        rw [Array.toList_push, List.mem_append] at he
        rcases he with he | he
        · have := hmo.old e he
          omega
        · simp at he
          subst he
          exact Nat.lt_succ_self _
    · rw [hvm, rx]
      have hfk : (Instr.findKey kt (.int .i64 n) es.toList).run P c.w = .ok none c.w := by
        simp [Instr.findKey, run_underlying hk, hf]
      simp only [Instr.mapUpdate, Sem.run_bind, run_underlying ht, Result.andThen_ok, hgo, run_checkKey_int hk false 9999 _ ⟨_, _, rfl⟩, hfk, setObj_run hmo.here]


/-- Columns without one place. -/
theorem mcut_spec {ks : List Int} {n : Int} {col : Col} (hf : ∀ i u, i < ks.length → ColV col i u → True) (hl : col.len = ks.length) (hfl : col.flat = true) :
    (col.mcut ks n).len = (mdel ks n).length ∧ ∀ i u, ColV col (if i < ks.idxOf n then i else i + 1) u → ColV (col.mcut ks n) i u := by
  have hlen : ∀ {α : Type} (l : List α), l.length = ks.length → (l.eraseIdx (ks.idxOf n)).length = (ks.eraseIdx (ks.idxOf n)).length := fun l h => by
    rw [List.length_eraseIdx, List.length_eraseIdx, h]
  cases col with
  | int q l =>
    refine ⟨hlen l hl, fun i u hu => ?_⟩
    simp only [ColV, Col.mcut, mcut] at hu ⊢
    rw [hu]
    simp only [gI, List.getD_eq_getElem?_getD, List.getElem?_eraseIdx]
    split <;> rfl
  | bool l =>
    refine ⟨hlen l hl, fun i u hu => ?_⟩
    simp only [ColV, Col.mcut, mcut] at hu ⊢
    rw [hu]
    simp only [gB, List.getD_eq_getElem?_getD, List.getElem?_eraseIdx]
    split <;> rfl
  | ints q l => cases hfl

theorem elem_cut {ks : List Int} {n : Int} {cols : List Col} {one : Bool} (hl : ∀ col ∈ cols, col.len = ks.length) {i : Nat} {u : Value} (h : ElemV cols one (if i < ks.idxOf n then i else i + 1) u) : ElemV (cols.map (·.mcut ks n)) one i u := by
  have flat_of : ∀ {col : Col} {j : Nat} {v : Value}, ColV col j v → col.flat = true := by
    intro col j v hv
    cases col with
    | ints _ _ => exact hv.elim
    | _ => rfl
  cases one with
  | true =>
    obtain ⟨col, rfl, hv⟩ := h
    exact ⟨col.mcut ks n, rfl, (mcut_spec (fun _ _ _ _ => trivial) (hl _ (by simp)) (flat_of hv)).2 _ _ hv⟩
  | false =>
    obtain ⟨us, rfl, hs, hv⟩ := h
    refine ⟨us, rfl, by simpa using hs, fun j col hj => ?_⟩
    rw [List.getElem?_map] at hj
    cases hc : cols[j]? with
    | none => rw [hc] at hj; cases hj
    | some c0 =>
      rw [hc] at hj
      cases hj
      obtain ⟨v, h1, h2⟩ := hv j c0 hc
      exact ⟨v, h1, (mcut_spec (fun _ _ _ _ => trivial) (hl _ (List.mem_of_getElem? hc)) (flat_of h2)).2 _ _ h2⟩

theorem mcut_len {ks : List Int} {n : Int} {col : Col} (hl : col.len = ks.length) (hfl : col.flat = true) : (col.mcut ks n).len = (mdel ks n).length := (mcut_spec (fun _ _ _ _ => trivial) hl hfl).1

theorem delT_goes (h : At P w0 T H c a.tmps g) {cl : Call} {m x : Operand} {t kt e t2 : TypeId} {id : Nat} {n : Int} {ks : List Int} {cols : List Col} {one : Bool} (ho : o.op = .call cl) (hcl : cl.callee = .builtin .delete) (hargs : cl.args = #[m, x]) (h1 : cl.argTypes[0]? = some t) (ht : P.underlying t = some (.map kt e)) (hk : P.underlying kt = some (.int .i64)) {t1 : TypeId} (hm : opd P T g t1 m = .mp id) (hx : opd P T g t2 x = .int .i64 n)
    (hid : H.at id = some (.tmap ks cols one)) (hfl : ∀ col ∈ cols, col.flat = true) : Goes P o a w0 (writeAll H [(id, .tmap (mdel ks n) (cols.map (·.mcut ks n)) one)]) c .top := by
  have rm := opd_eq h hm
  simp only [Rel] at rm
  obtain ⟨p, hp, hvm⟩ := rm
  obtain ⟨p', hp', hob⟩ := h.heap.obj id _ hid
  rw [hp] at hp'
  cases hp'
  obtain ⟨hcap, es, clk, hmo⟩ := hob
  have hlt := (h.heap.out id p ⟨_, hid, hp, trivial⟩).2.1
  have rx := rel_int (opd_eq h hx)
  have hgo := getObj_run (P := P) hmo.here
  have hex : execOp a.eval o = (do pure (.value (← Builtin.delete_ cl.argTypes o.type #[a.eval m, a.eval x]))) := by
    rw [call_builtin ho hcl, hargs]
    simp only [builtin, List.map_toArray, List.map_cons, List.map_nil]
  have go : ∀ es', MapOf (c.with { c.w with heap := c.w.heap.setIfInBounds p.b (.map es' clk) }).w p.b (mdel ks n) (cols.map (·.mcut ks n)) one es' clk → (Builtin.delete_ cl.argTypes o.type #[a.eval m, a.eval x]).run P c.w = .ok (.tuple #[]) { c.w with heap := c.w.heap.setIfInBounds p.b (.map es' clk) } → Goes P o a w0 (writeAll H [(id, .tmap (mdel ks n) (cols.map (·.mcut ks n)) one)]) c .top := by
    intro es' hmo' hrun
    obtain ⟨hh, hle⟩ := set_block h hid hp trivial (.tmap (mdel ks n) (cols.map (·.mcut ks n)) one) (.map es' clk) ⟨hcap, es', clk, hmo'⟩
    refine ⟨.tuple #[], c.with _, .inl ?_, hle, hh, by simp [Rel]⟩
    rw [hex]
    simp only [Sem.run_bind, hrun, Result.andThen_ok, Sem.run_pure]
    rfl
  have hcol : ∀ col ∈ cols.map (·.mcut ks n), col.len = (mdel ks n).length := by
    intro col hc
    obtain ⟨c0, h0, rfl⟩ := List.mem_map.1 hc
    exact mcut_len (hmo.col c0 h0) (hfl c0 h0)
  have gcut : ∀ i, gI (mdel ks n) i = gI ks (if i < ks.idxOf n then i else i + 1) := by
    intro i
    simp only [mdel, gI, List.getD_eq_getElem?_getD, List.getElem?_eraseIdx]
    split <;> rfl
  rcases hmo.find .i64 n with ⟨e0, hn, he0, hf⟩ | ⟨hn, hf⟩
  · have hix : ks.idxOf n < es.size := by rw [hmo.len]; exact List.idxOf_lt_length_of_mem hn
    have htl : (es.eraseIdxIfInBounds (ks.idxOf n)).toList = es.toList.eraseIdx (ks.idxOf n) := by
      simp [Array.eraseIdxIfInBounds, hix]
    have hget : ∀ i : Nat, (es.eraseIdxIfInBounds (ks.idxOf n))[i]? = es[if i < ks.idxOf n then i else i + 1]? := by
      intro i
      rw [← Array.getElem?_toList, htl, List.getElem?_eraseIdx, Array.getElem?_toList, Array.getElem?_toList]
      split <;> rfl
    refine go (es.eraseIdxIfInBounds (ks.idxOf n)) ⟨set_here hlt, ?_, hcol, ?_, ?_, ?_, ?_, ?_⟩ ?_
    · rw [← Array.length_toList, htl, List.length_eraseIdx, mdel, List.length_eraseIdx, Array.length_toList, hmo.len]
    · intro i e hi
      rw [hget] at hi
      rw [gcut]
      exact hmo.key _ e hi
    · intro i e hi
      rw [hget] at hi
      exact elem_cut hmo.col (hmo.val _ e hi)
    · exact hmo.nodup.sublist (List.eraseIdx_sublist _ _)
    · rw [htl]
      exact hmo.born.sublist ((List.eraseIdx_sublist _ _).map _)
    · intro e he
      rw [htl] at he
      exact hmo.old e ((List.eraseIdx_sublist _ _).subset he)
    · rw [hvm, rx]
      have hfk : (Instr.findKey kt (.int .i64 n) es.toList).run P c.w = .ok (some (ks.idxOf n, e0.val)) c.w := by
        simp [Instr.findKey, run_underlying hk, hf]
      simp only [Builtin.delete_, h1, List.getElem?_toArray, List.getElem?_cons_zero, List.getElem?_cons_succ, Sem.run_bind, run_underlying ht, Result.andThen_ok, hgo, run_checkKey_int hk es.isEmpty 9999 _ ⟨_, _, rfl⟩, hfk, setObj_run hmo.here, Sem.run_pure]
  · have hix : ks.idxOf n = ks.length := List.idxOf_eq_length hn
    have hmd : mdel ks n = ks := by rw [mdel, hix]; exact List.eraseIdx_of_length_le (Nat.le_refl _)
    refine go es ⟨set_here hlt, by rw [hmd]; exact hmo.len, hcol, ?_, ?_, by rw [hmd]; exact hmo.nodup, hmo.born, hmo.old⟩ ?_
    · rw [hmd]
      exact hmo.key
    · intro i e hi
      have hil : i < ks.idxOf n := by
        have := (Array.getElem?_eq_some_iff.1 hi).1
        rw [hmo.len] at this
        omega
      refine elem_cut hmo.col ?_
      rw [if_pos hil]
      exact hmo.val i e hi
    · rw [hvm, rx]
      have hfk : (Instr.findKey kt (.int .i64 n) es.toList).run P c.w = .ok none c.w := by
        simp [Instr.findKey, run_underlying hk, hf]
      simp only [Builtin.delete_, h1, List.getElem?_toArray, List.getElem?_cons_zero, List.getElem?_cons_succ, Sem.run_bind, run_underlying ht, Result.andThen_ok, hgo, run_checkKey_int hk es.isEmpty 9999 _ ⟨_, _, rfl⟩, hfk, setObj_run hmo.here, Sem.run_pure]

/-- A value out of the columns. -/
theorem col_rel {col : Col} {i : Nat} {u : Value} (h : ColV col i u) : Rel c (col.get i) u := by
  cases col with
  | int q l => (simp only [ColV] at h; simpa [Col.get, Rel] using h)
  | bool l => (simp only [ColV] at h; simpa [Col.get, Rel] using h)
  | ints _ _ => exact h.elim

theorem relL_of {xs : List AV} {vs : List Value} (hl : xs.length = vs.length) (h : ∀ (j : Nat) (x : AV) (v : Value), xs[j]? = some x → vs[j]? = some v → Rel c x v) : RelL c xs vs := by
  induction xs generalizing vs with
  | nil =>
    cases vs with
    | nil => trivial
    | cons v vs => simp at hl
  | cons x xs ih =>
    cases vs with
    | nil => simp at hl
    | cons v vs => exact ⟨h 0 x v rfl rfl, ih (by simpa using hl) fun j y u hy hu => h (j + 1) y u (by simpa using hy) (by simpa using hu)⟩

theorem elem_rel {cols : List Col} {one : Bool} {i : Nat} {u : Value} (h : ElemV cols one i u) : Rel c (elemAt cols one i) u := by
  cases one with
  | true =>
    obtain ⟨col, rfl, hv⟩ := h
    exact col_rel hv
  | false =>
    obtain ⟨us, rfl, hs, hv⟩ := h
    simp only [elemAt, Rel]
    refine ⟨us, rfl, relL_of (by simp [hs]) fun j x v hx hv' => ?_⟩
    rw [List.getElem?_map] at hx
    cases hc : cols[j]? with
    | none => rw [hc] at hx; cases hx
    | some c0 =>
      rw [hc] at hx
      cases hx
      obtain ⟨w, h1, h2⟩ := hv j c0 hc
      have : v = w := by
        have h3 : us[j]? = some v := by simpa using hv'
        rw [h1] at h3
        exact (Option.some.inj h3).symm
      subst this
      exact col_rel h2

/-- What is found is what is told; else it is the zero. -/
theorem mget_in {ks : List Int} {n : Int} {col : Col} {u : Value} (h : ColV col (ks.idxOf n) u) : Rel c (col.mget ks n) u := by
  cases col with
  | int q l => simpa [Col.mget, Rel, ColV, gI, mI] using h
  | bool l => simpa [Col.mget, Rel, ColV, gB, mB] using h
  | ints _ _ => exact h.elim

theorem mget_out {ks : List Int} {n : Int} {col : Col} {u : Value} (hn : n ∉ ks) (hl : col.len = ks.length) (hf : col.flat = true) (h : Rel c col.zero u) : Rel c (col.mget ks n) u := by
  have hix : ks.idxOf n = ks.length := List.idxOf_eq_length hn
  cases col with
  | int q l =>
    have hl' : l.length = ks.length := hl
    simpa [Col.mget, Rel, Col.zero, mI, hix, List.getD_eq_getElem?_getD, List.getElem?_eq_none (show l.length ≤ ks.length by omega)] using h
  | bool l =>
    have hl' : l.length = ks.length := hl
    simpa [Col.mget, Rel, Col.zero, mB, hix, List.getD_eq_getElem?_getD, List.getElem?_eq_none (show l.length ≤ ks.length by omega)] using h
  | ints _ _ => cases hf

theorem elemOf_in {ks : List Int} {n : Int} {cols : List Col} {one : Bool} {u : Value} (h : ElemV cols one (ks.idxOf n) u) : Rel c (elemOf ks cols one n) u := by
  cases one with
  | true =>
    obtain ⟨col, rfl, hv⟩ := h
    exact mget_in hv
  | false =>
    obtain ⟨us, rfl, hs, hv⟩ := h
    simp only [elemOf, Rel]
    refine ⟨us, rfl, relL_of (by simp [hs]) fun j x v hx hv' => ?_⟩
    rw [List.getElem?_map] at hx
    cases hc : cols[j]? with
    | none => rw [hc] at hx; cases hx
    | some c0 =>
      rw [hc] at hx
      cases hx
      obtain ⟨w, h1, h2⟩ := hv j c0 hc
      have : v = w := by
        have h3 : us[j]? = some v := by simpa using hv'
        rw [h1] at h3
        exact (Option.some.inj h3).symm
      subst this
      exact mget_in h2

/-- The zero of a map's elements. -/
def ZeroIs (cols : List Col) (zv : Value) : Bool → Prop
  | false => ∃ vs : Array Value, zv = .agg vs ∧ areVals (cols.map Col.zero) vs.toList = true
  | true => areVals (cols.map Col.zero) [zv] = true

theorem elemOf_out {ks : List Int} {n : Int} {cols : List Col} {one : Bool} {zv : Value} (hn : n ∉ ks) (hl : ∀ col ∈ cols, col.len = ks.length ∧ col.flat = true)
    (h : ZeroIs cols zv one) : Rel c (elemOf ks cols one n) zv := by
  have step : ∀ {vs : List Value}, areVals (cols.map Col.zero) vs = true → RelL c (cols.map (·.mget ks n)) vs := by
    intro vs hv
    have hr := areVals_rel (c := c) hv
    refine relL_of (by have := hr.length; simpa using this) fun j x v hx hv' => ?_
    rw [List.getElem?_map] at hx
    cases hc : cols[j]? with
    | none => rw [hc] at hx; cases hx
    | some c0 =>
      rw [hc] at hx
      cases hx
      obtain ⟨w, h1, h2⟩ := hr.get (i := j) (a := c0.zero) (by simp [hc])
      rw [hv'] at h1
      cases h1
      exact mget_out hn (hl _ (List.mem_of_getElem? hc)).1 (hl _ (List.mem_of_getElem? hc)).2 h2
  cases one with
  | true =>
    have h1 := step h
    match cols, h1 with
    | [], h1 => exact h1.elim
    | [col], h1 => exact h1.1
    | _ :: _ :: _, h1 => exact h1.2.elim
  | false =>
    obtain ⟨vs, rfl, hv⟩ := h
    simp only [elemOf, Rel]
    exact ⟨vs, rfl, step hv⟩

theorem zeroElem_some {t kt e : TypeId} {cols : List Col} {one : Bool} (ht : P.underlying t = some (.map kt e)) (h : zeroElem P t cols one = true) : ∃ i zv, P.info? e = some i ∧ i.zero = some zv ∧ ZeroIs cols zv one := by
  unfold zeroElem at h
  cases hi : P.info? e with
  | none => simp [ht, hi] at h
  | some i =>
    cases hz : i.zero with
    | none => simp [ht, hi, hz] at h
    | some zv =>
      refine ⟨i, zv, rfl, hz, ?_⟩
      simp only [ht, hi, Option.bind_some, hz] at h
      cases one with
      | true => cases zv <;> exact h
      | false =>
        cases zv <;> first | (simp at h; done) | exact ⟨_, rfl, h⟩

theorem lookupT_goes (h : At P w0 T H c a.tmps g) {t kt e : TypeId} {m k : Operand} {ok : Bool} {id : Nat} {n : Int} {ks : List Int} {cols : List Col} {one : Bool} (ho : o.op = .lookup t m k ok) (ht : P.underlying t = some (.map kt e)) (hkt : P.underlying kt = some (.int .i64)) (hm : opd P T g 0 m = .mp id) (hx : opd P T g 3 k = .int .i64 n)
    (hid : H.at id = some (.tmap ks cols one)) (hz : zeroElem P t cols one = true) (hfl : ∀ col ∈ cols, col.flat = true) : Goes P o a w0 H c (if ok then .tup [elemOf ks cols one n, .bool (mhas ks n)] else elemOf ks cols one n) := by
  obtain ⟨p, es, clk, hp, hvm, hcap, hmo, hlt⟩ := map_at h hm hid
  have rx := rel_int (opd_eq h hx)
  have hgo := getObj_run (P := P) hmo.here
  obtain ⟨i, zv, hi, hzv, hzr⟩ := zeroElem_some ht hz
  have hck := run_checkKey_int (P := P) hkt es.isEmpty 9999 (.int .i64 n) ⟨_, _, rfl⟩ c.w
  have fin : ∀ (v : Value) (b : Bool), (∀ r, (Instr.findKey kt (.int .i64 n) es.toList).run P c.w = .ok r c.w → True) → b = mhas ks n → Rel c (elemOf ks cols one n) v → (execOp a.eval o).run P c.w = .ok (.value (if ok then .tuple #[v, .bool b] else v)) c.w → Goes P o a w0 H c (if ok then .tup [elemOf ks cols one n, .bool (mhas ks n)] else elemOf ks cols one n) := by
    intro v b _ hb hr hrun
    refine goes_value h hrun ?_
    cases ok
    · exact hr
    · simp only [if_true, Rel]
      exact ⟨_, rfl, by simp [RelL, Rel, hr, hb]⟩
  rcases hmo.find .i64 n with ⟨e0, hn, he0, hf⟩ | ⟨hn, hf⟩
  · have hfk : (Instr.findKey kt (.int .i64 n) es.toList).run P c.w = .ok (some (ks.idxOf n, e0.val)) c.w := by
      simp [Instr.findKey, run_underlying hkt, hf]
    refine fin e0.val true (fun _ _ => trivial) (by simp [mhas, hn]) (elemOf_in (hmo.val _ _ he0)) ?_
    simp only [execOp, ho, hvm, rx, Instr.lookup, Sem.run_bind, run_underlying ht, Result.andThen_ok, hgo, Sem.run_pure, hck, hfk]
  · have hfk : (Instr.findKey kt (.int .i64 n) es.toList).run P c.w = .ok none c.w := by
      simp [Instr.findKey, run_underlying hkt, hf]
    refine fin zv false (fun _ _ => trivial) (by simp [mhas, hn]) (elemOf_out hn (fun col hc => ⟨hmo.col col hc, hfl col hc⟩) hzr) ?_
    simp only [execOp, ho, hvm, rx, Instr.lookup, Sem.run_bind, run_underlying ht, Result.andThen_ok, hgo, Sem.run_pure, hck, hfk, run_zeroValue hi hzv]


/-- 'range m': a new iterator; nothing has been handed out. -/
theorem rangeT_goes (h : At P w0 T H c a.tmps g) {t kt e : TypeId} {x : Operand} {fr : Nat} {ks : List Int} {cols : List Col} {one : Bool} (hfr : H.at fr = none) (ho : o.op = .range t x) (ht : P.underlying t = some (.map kt e)) (hx : opd P T g 0 x = .mapv ks cols one) :
    Goes P o a w0 (writeAll H [(fr, .iter ks cols one (nUp (lenI ks)) none)]) c (.it fr) := by
  have r := opd_eq h hx
  simp only [Rel] at r
  obtain ⟨b, es, clk, hv, hS, hmo⟩ := r
  have hn := h.heap.free fr hfr
  have hle := le_push h.heap (.mapIter (some b) clk #[] clk) fr ⟨c.w.heap.size, 0, 0, 1⟩ hn
  have hlt := h.heap.stable b hS
  refine ⟨.pointer (some ⟨c.w.heap.size, 0, none⟩), c.putAt { c.w with heap := c.w.heap.push (.mapIter (some b) clk #[] clk) } fr ⟨c.w.heap.size, 0, 0, 1⟩, .inl ?_, hle, ?_, ?_⟩
  · simp only [execOp, ho, hv, Instr.range, Sem.run_bind, run_underlying ht, Result.andThen_ok, getObj_run hmo.here, Sem.run_pure, run_newObj]
    rfl
  · refine h.heap.alloc fr _ _ _ hfr rfl ⟨b, clk, #[], es, heap_push_new _ _, hS, hmo.mono (heap_push_old _ _ hlt), List.nodup_range, fun i => ?_, fun i hi => by cases hi⟩
    simp only [nUp, lenI, List.mem_range]
    rw [← hmo.len]
    constructor
    · intro hi
      exact ⟨es[i], by simp, by simp⟩
    · rintro ⟨e, he, _⟩
      exact (Array.getElem?_eq_some_iff.1 he).1
  · simp only [Rel]
    exact ⟨_, by simp [Cx.putAt]; rfl, rfl⟩

theorem iter_at (h : At P w0 T H c a.tmps g) {x : Operand} {id : Nat} {ks : List Int} {cols : List Col} {one : Bool} {left : List Nat} {cur : Option Nat} (hx : opd P T g 0 x = .it id) (hid : H.at id = some (.iter ks cols one left cur)) :
    ∃ p, c.π id = some p ∧ a.eval x = .pointer (some ⟨p.b, 0, none⟩) ∧ IterAt c.w c.S p.b ks cols one left cur ∧ p.b < c.w.heap.size := by
  have rm := opd_eq h hx
  simp only [Rel] at rm
  obtain ⟨p, hp, hvm⟩ := rm
  obtain ⟨p', hp', hob⟩ := h.heap.obj id _ hid
  rw [hp] at hp'
  cases hp'
  exact ⟨p, hp, hvm, hob, (h.heap.out id p ⟨_, hid, hp, trivial⟩).2.1⟩

theorem find_stamp {es : Array MapEntry} (hn : (es.toList.map (·.born)).Nodup) {i : Nat} {e : MapEntry} (he : es[i]? = some e) : es.find? (·.born == e.born) = some e := by
  rw [← Array.find?_toList]
  have key : ∀ (l : List MapEntry), (l.map (·.born)).Nodup → e ∈ l → l.find? (·.born == e.born) = some e := by
    intro l
    induction l with
    | nil => intro _ h; cases h
    | cons x l ih =>
      intro hn he
      rw [List.map_cons, List.nodup_cons] at hn
      rcases List.mem_cons.1 he with rfl | h
      · simp
      · have hx : (x.born == e.born) = false := by
          cases hc : x.born == e.born with
          | false => rfl
          | true => exact absurd (by rw [beq_iff_eq.1 hc]; exact List.mem_map.2 ⟨e, h, rfl⟩) hn.1
        rw [List.find?_cons, hx]
        exact ih hn.2 h
  exact key _ hn (List.mem_of_getElem? (by rw [Array.getElem?_toList]; exact he))

/-- The round's entry. -/
theorem entryT_goes (h : At P w0 T H c a.tmps g) {x : Operand} {id i : Nat} {ks : List Int} {cols : List Col} {one : Bool} {left : List Nat} (ho : o.op = .entry x) (hx : opd P T g 0 x = .it id) (hid : H.at id = some (.iter ks cols one left (some i))) :
    Goes P o a w0 H c (.tup [.int .i64 (gI ks i), elemAt cols one i]) := by
  obtain ⟨p, hp, hv, ⟨b, clk, seen, es, h1, h2, hmo, h4, h5, h6⟩, hlt⟩ := iter_at h hx hid
  obtain ⟨e, he, hb⟩ := h6 i rfl
  refine goes_value h (v := .tuple #[e.key, e.val]) ?_ ?_
  · have g1 : (getObj p.b).run P c.w = .ok (.mapIter (some b) clk seen clk) c.w := by simp [getObj, Sem.run, h1]
    simp only [execOp, ho, hv, Instr.entry, Sem.run_bind, g1, Result.andThen_ok, hb, getObj_run hmo.here, bne_self_eq_false, Bool.false_eq_true, if_false, find_stamp hmo.born he, Sem.run_pure]
  · simp only [Rel]
    refine ⟨_, rfl, ?_, ?_, trivial⟩
    · simp only [Rel]
      exact hmo.key i e he
    · exact elem_rel (hmo.val i e he)

/-- A step of the iterator: nothing is left, or one that is left comes, whichever. -/
theorem next_run {w : World} {r b clk : Nat} {seen : Array Nat} {es : Array MapEntry} {ty : TypeId} (h1 : w.heap[r]? = some (.mapIter (some b) clk seen clk)) (hb : w.heap[b]? = some (.map es clk)) (hold : ∀ e ∈ es.toList, e.born < clk) :
    ((∀ e ∈ es.toList, seen.contains e.born = true) ∧ (Instr.next (.pointer (some ⟨r, 0, none⟩)) false ty).run P w = .ok (.tuple #[.bool false]) w) ∨
    ∃ e ∈ es.toList, seen.contains e.born = false ∧ ∃ w1 : World, w1.heap = w.heap ∧ Rest w w1 ∧ (Instr.next (.pointer (some ⟨r, 0, none⟩)) false ty).run P w = .ok (.tuple #[.bool true, e.key, e.val]) { w1 with heap := w1.heap.setIfInBounds r (.mapIter (some b) clk (seen.push e.born) clk) } := by
  have g1 : (getObj r).run P w = .ok (.mapIter (some b) clk seen clk) w := by simp [getObj, Sem.run, h1]
  have g2 : (getObj b).run P w = .ok (.map es clk) w := getObj_run hb
  have ht : (!seen.isEmpty && !es.isEmpty && es.all (fun x => decide (x.born ≥ clk))) = false := by
    cases he : es.isEmpty with
    | true => simp
    | false =>
      have hall : es.all (fun x => decide (x.born ≥ clk)) = false := by
        rw [Bool.eq_false_iff]
        intro h
        rw [Array.all_eq_true_iff_forall_mem] at h
        have h0 : 0 < es.size := by
          rcases Nat.eq_zero_or_pos es.size with h0 | h0
          · simp [Array.isEmpty, h0] at he
          · exact h0
        have h2 := h _ (Array.getElem_mem h0)
        have h3 := hold es[0] (by simp)
        simp at h2
        omega
      simp [hall]
  simp only [Instr.next, Sem.run_bind, g1, g2, Result.andThen_ok, ht, Bool.false_eq_true, if_false]
  have hmem : ∀ x ∈ (Array.filter (fun e => !seen.contains e.born) es).toList, x ∈ es.toList ∧ seen.contains x.born = false := fun x hx => by simpa using hx
  have hmem2 : ∀ x ∈ es.toList, seen.contains x.born = false → x ∈ (Array.filter (fun e => !seen.contains e.born) es).toList := fun x hx hs => by simpa using And.intro (by simpa using hx) (by simpa using hs)
  generalize Array.filter (fun e => !seen.contains e.born) es = L at hmem hmem2 ⊢
  have e1 : L.filter (fun x => decide (x.born < clk)) = L := Array.filter_eq_self.2 (fun x hx => by simpa using hold x (hmem x (by simpa using hx)).1)
  have e2 : L.filter (fun x => decide (x.born ≥ clk)) = #[] := by
    rw [Array.filter_eq_empty_iff]
    intro x hx
    have := hold x (hmem x (by simpa using hx)).1
    simp
    omega
  simp only [e1, e2, Array.append_empty]
  by_cases h0 : L.size = 0
  · left
    have hL : L = #[] := Array.eq_empty_of_size_eq_zero h0
    subst hL
    refine ⟨fun e he => ?_, ?_⟩
    · cases hs : seen.contains e.born with
      | true => rfl
      | false => have := hmem2 e he hs; simp at this
    · simp [choose, Sem.run, Question.forced]
  · right
    have hne : L.isEmpty = false := by simp [Array.isEmpty, h0]
    simp only [hne, Bool.false_eq_true, if_false, Array.empty_append, Array.size_map]
    have hch : ∃ (j : Nat) (w1 : World), j < L.size ∧ w1.heap = w.heap ∧ Rest w w1 ∧ (choose (Question.mapNext L.size)).run P w = .ok j w1 := by
      by_cases hf : L.size ≤ 1
      · exact ⟨0, w, by omega, rfl, ⟨rfl, rfl, rfl⟩, by simp [choose, Sem.run, Question.forced, hf]⟩
      · exact ⟨_, w.drew, Nat.mod_lt _ (by omega), rfl, ⟨rfl, rfl, rfl⟩, by
          simp only [choose, Sem.run, Question.forced, decide_eq_true_eq, hf, if_false, Question.cut]
          rfl⟩
    obtain ⟨j, w1, hj, hh, hr, hrun⟩ := hch
    obtain ⟨m1, m2⟩ := hmem L[j] (by simp)
    have hset : ∀ ob, (setObj r ob).run P w1 = .ok () { w1 with heap := w1.heap.setIfInBounds r ob } := by
      intro ob
      have : w1.heap[r]? = some (.mapIter (some b) clk seen clk) := by rw [hh, h1]
      simp [setObj, Sem.run, this]
    refine ⟨L[j], m1, m2, w1, hh, hr, ?_⟩
    simp only [hrun, Array.getElem?_map, Array.getElem?_eq_getElem hj, Option.map_some, Result.andThen_ok, Sem.run_bind, hset, Sem.run_pure]

theorem nextT_sound (h : At P w0 T H c a.tmps g) {x : Operand} {Q : AV → Heap → Prop} (hop : o.op = .next x false) (hs : nextOp P T H g x Q) {next : Act → World → Prop} {QQ : Exit → Act → World → Prop}
    (hn : ∀ v c' av H', c.le c' → HeapOK w0 H' c' → Rel c' av v → Q av H' → next (a.put o.dst v) c'.w) : o.wp P a c.w next QQ := by
  unfold nextOp at hs
  split at hs
  · rename_i id hx
    split at hs
    · rename_i ks cols one left cur hid
      obtain ⟨p, hp, hv, ⟨b, clk, seen, es, h1, h2, hmo, h4, h5, h6⟩, hlt⟩ := iter_at h hx hid
      unfold Oper.wp
      have hle0 := h.heap.stable b h2
      have hnp : b ≠ p.b := by
        rintro rfl
        exact (h.heap.out id p ⟨_, hid, hp, trivial⟩).2.2 h2
      rcases next_run (P := P) (ty := o.type) h1 hmo.here hmo.old with ⟨hall, hrun⟩ | ⟨e, he, hse, w1, hh, hr, hrun⟩
      · have hnil : nNil left = true := by
          unfold nNil
          rw [List.isEmpty_iff]
          refine List.eq_nil_iff_forall_not_mem.2 fun i hi => ?_
          obtain ⟨e, he, hse⟩ := (h5 i).1 hi
          rw [hall e (List.mem_of_getElem? (by rw [Array.getElem?_toList]; exact he))] at hse
          cases hse
        have hrun' : (execOp a.eval o).run P c.w = .ok (.value (.tuple #[.bool false])) c.w := by
          simp only [execOp, hop, hv, Sem.run_bind, hrun, Result.andThen_ok, Sem.run_pure]
        rw [hrun']
        rw [hnil] at hs
        exact hn _ c _ H (Cx.le.refl c) h.heap (by simp only [Rel]; exact ⟨_, rfl, by simp [RelL, Rel]⟩) hs
      · obtain ⟨i, hi⟩ := List.getElem?_of_mem he
        rw [Array.getElem?_toList] at hi
        have hil : i ∈ left := (h5 i).2 ⟨e, hi, hse⟩
        have hnil : nNil left = false := by
          unfold nNil
          rw [List.isEmpty_eq_false_iff]
          rintro rfl
          cases hil
        rw [hnil] at hs
        have hq := hs i (by unfold nIn; simpa using hil)
        have hrun' : (execOp a.eval o).run P c.w = .ok (.value (.tuple #[.bool true, e.key, e.val])) { w1 with heap := w1.heap.setIfInBounds p.b (.mapIter (some b) clk (seen.push e.born) clk) } := by
          simp only [execOp, hop, hv, Sem.run_bind, hrun, Result.andThen_ok, Sem.run_pure]
        rw [hrun']
        obtain ⟨s1, s2⟩ := h.heap.same w1 hh hr
        have hat : At P w0 T H (c.with w1) a.tmps g := ⟨s1, h.tok.mono s2, h.guard⟩
        have hsame : w1.heap[b]? = c.w.heap[b]? := by rw [hh]
        have hiter : IterAt ((c.with w1).with { (c.with w1).w with heap := (c.with w1).w.heap.setIfInBounds p.b (.mapIter (some b) clk (seen.push e.born) clk) }).w c.S p.b ks cols one (nDel left i) (some i) := by
          refine ⟨b, clk, seen.push e.born, es, ?_, h2, hmo.mono ?_, ?_, ?_, ?_⟩
          · exact set_here (w := w1) (by rw [hh]; exact hlt)
          · show (w1.heap.setIfInBounds p.b _)[b]? = _
            rw [Array.getElem?_setIfInBounds_ne (Ne.symm hnp), hh]
          · exact h4.sublist List.filter_sublist
          · intro k
            unfold nDel
            rw [List.mem_filter, h5 k]
            constructor
            · rintro ⟨⟨e2, he2, hs2⟩, hki⟩
              refine ⟨e2, he2, ?_⟩
              rw [Array.contains_push, hs2, Bool.false_or]
              rw [beq_eq_false_iff_ne]
              intro hbo
              have hki' : k ≠ i := by simpa using hki
              have e3 := find_stamp hmo.born he2
              have e4 := find_stamp hmo.born hi
              rw [hbo, e4] at e3
              cases e3
              have hkl := (Array.getElem?_eq_some_iff.1 he2).1
              have hil' := (Array.getElem?_eq_some_iff.1 hi).1
              have hb1 := hmo.born
              rw [List.nodup_iff_pairwise_ne] at hb1
              have hpw := List.pairwise_iff_getElem.1 hb1
              rcases Nat.lt_or_gt_of_ne hki' with hlt' | hlt'
              · have := hpw k i (by simpa using hkl) (by simpa using hil') hlt'
                simp [(Array.getElem?_eq_some_iff.1 he2).2, (Array.getElem?_eq_some_iff.1 hi).2] at this
              · have := hpw i k (by simpa using hil') (by simpa using hkl) hlt'
                simp [(Array.getElem?_eq_some_iff.1 he2).2, (Array.getElem?_eq_some_iff.1 hi).2] at this
            · rintro ⟨e2, he2, hs2⟩
              rw [Array.contains_push, Bool.or_eq_false_iff] at hs2
              refine ⟨⟨e2, he2, hs2.1⟩, ?_⟩
              have : k ≠ i := by
                rintro rfl
                rw [hi] at he2
                cases he2
                simp at hs2
              simpa using this
          · intro k hk
            cases hk
            exact ⟨e, hi, by simp⟩
        obtain ⟨t1, t2⟩ := set_block hat hid hp trivial (.iter ks cols one (nDel left i) (some i)) (.mapIter (some b) clk (seen.push e.born) clk) hiter
        refine hn _ _ _ _ (s2.trans t2) t1 ?_ hq
        simp only [Rel]
        refine ⟨_, rfl, by simp [Rel], ?_, elem_rel (hmo.val i e hi), trivial⟩
        simp only [Rel]
        exact hmo.key i e hi
    · exact hs.elim
  · exact hs.elim

end
end Go.Own
