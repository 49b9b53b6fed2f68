/- A region that draws its order. -/
import Derived.Test.YtmilniofdpgbnaaOwnD2
set_option linter.unusedVariables false
set_option linter.unusedSimpArgs false
namespace Go.Own
open Go

theorem edgesBack_spec : ∀ {l : List Oper} {i : Nat}, edgesBack i l = true → ∀ j o, l[j]? = some o → ∀ e ∈ o.after.toList, Region.binds .any e = true → e.on < i + j
  | [], _, _, j, o, h => by simp at h
  | p :: l, i, hb, j, o, h => by
    simp only [edgesBack, Bool.and_eq_true] at hb
    intro e he hbind
    cases j with
    | zero =>
      simp at h
      subst h
      have := List.all_eq_true.1 hb.1 e he
      simp only [hbind, Bool.not_true, Bool.false_or, decide_eq_true_eq] at this
      omega
    | succ j =>
      have := edgesBack_spec hb.2 j o (by simpa using h) e he hbind
      omega

theorem apartFrom_spec {d : DEff} {i : Nat} : ∀ {ds : List DEff} {bs : List Nat} {j : Nat}, apartFrom d i j bs ds = true → ∀ k e, ds[k]? = some e → (bs.getD k 0).testBit i = true ∨ apartD d e = true
  | [], _, _, _, k, e, h => by simp at h
  | x :: ds, [], _, hb, k, e, h => by simp [apartFrom] at hb
  | x :: ds, b :: bs, j, hb, k, e, h => by
    simp only [apartFrom, Bool.and_eq_true, Bool.or_eq_true] at hb
    cases k with
    | zero => simp at h; subst h; simpa using hb.1
    | succ k => simpa using apartFrom_spec hb.2 k e (by simpa using h)

theorem allApart_spec : ∀ {ds : List DEff} {bs : List Nat} {i : Nat}, allApart i bs ds = true → ∀ p q d e, p < q → ds[p]? = some d → ds[q]? = some e → (bs.getD q 0).testBit (i + p) = true ∨ apartD d e = true
  | [], _, _, _, p, q, d, e, _, h, _ => by simp at h
  | x :: ds, [], _, hb, p, q, d, e, _, h, _ => by simp [allApart] at hb
  | x :: ds, b :: bs, i, hb, p, q, d, e, hpq, h1, h2 => by
    simp only [allApart, Bool.and_eq_true] at hb
    obtain ⟨q, rfl⟩ : ∃ r, q = r + 1 := ⟨q - 1, by omega⟩
    cases p with
    | zero =>
      simp at h1
      subst h1
      simpa using apartFrom_spec hb.1 q e (by simpa using h2)
    | succ p =>
      have := allApart_spec hb.2 p q d e (by omega) (by simpa using h1) (by simpa using h2)
      rw [show i + 1 + p = i + (p + 1) by omega] at this
      simpa using this

theorem sizeOp_pos (o : Oper) : 0 < sizeOp o := by
  unfold sizeOp
  split
  · split <;> decide
  · decide

theorem ownOp_off {o : Oper} : ∀ (os : List Oper) (j k m : Nat), os[j]? = some o → offOp os j ≤ m → m < offOp os j + sizeOp o → ownOp os m k = k + j
  | [], j, k, m, h, _, _ => by simp at h
  | x :: os, 0, k, m, h, h1, h2 => by
    simp only [List.getElem?_cons_zero, Option.some.injEq] at h
    subst h
    simp only [offOp, Nat.zero_add] at h2
    unfold ownOp
    rw [if_pos h2]
    rfl
  | x :: os, j + 1, k, m, h, h1, h2 => by
    simp only [List.getElem?_cons_succ] at h
    simp only [offOp] at h1 h2
    unfold ownOp
    rw [if_neg (by omega), ownOp_off os j (k + 1) (m - sizeOp x) h (by omega) (by omega)]
    omega

theorem eachOk_spec {base : Nat} {os : List Oper} : ∀ {ds : List DEff} {bs : List Nat} {i : Nat}, eachOk base os i bs ds = true → ∀ j d, ds[j]? = some d →
    (∀ w ∈ d.writes, w.1 < base ∨ ownOp os (w.1 - base) 0 = i + j ∨ (bs.getD j 0).testBit (ownOp os (w.1 - base) 0) = true) ∧
    (∀ gj jt, d.guard = some (gj, jt) → (bs.getD j 0).testBit gj = true ∧ ∀ j' b v, d.val = .cond j' b v → jt = some j') ∧
    (d.guard = none → ∀ j' b v, d.val ≠ .cond j' b v)
  | [], _, _, _, j, d, h => by simp at h
  | x :: ds, [], _, hb, j, d, h => by simp [eachOk] at hb
  | x :: ds, b :: bs, i, hb, j, d, h => by
    simp only [eachOk, Bool.and_eq_true] at hb
    obtain ⟨⟨h1, h2⟩, h3⟩ := hb
    cases j with
    | zero =>
      simp at h
      subst h
      refine ⟨fun w hw => ?_, fun gj jt hg => ?_, fun hg j' bb v hv => ?_⟩
      · have := List.all_eq_true.1 h1 w hw
        simp only [Bool.or_eq_true, decide_eq_true_eq, beq_iff_eq] at this
        rcases this with (h4 | h4) | h4
        · exact .inl h4
        · exact .inr (.inl h4)
        · exact .inr (.inr h4)
      · rw [hg] at h2
        simp only [Bool.and_eq_true] at h2
        refine ⟨h2.1, fun j' bb v hv => ?_⟩
        have h5 := h2.2
        rw [hv] at h5
        simpa using h5
      · rw [hg, hv] at h2
        simp at h2
    | succ j =>
      have := eachOk_spec h3 j d (by simpa using h)
      rw [show i + 1 + j = i + (j + 1) by omega] at this
      simpa using this

theorem nodupB_get : ∀ {l : List Nat}, nodupB l = true → ∀ (i j x : Nat), l[i]? = some x → l[j]? = some x → i = j
  | [], _, i, j, x, h, _ => by simp at h
  | y :: l, hn, i, j, x, h1, h2 => by
    simp only [nodupB, Bool.and_eq_true, Bool.not_eq_true', List.contains_eq_mem, decide_eq_false_iff_not] at hn
    cases i with
    | zero =>
      simp at h1
      subst h1
      cases j with
      | zero => rfl
      | succ j => exact absurd (List.mem_of_getElem? (by simpa using h2)) hn.1
    | succ i =>
      cases j with
      | zero =>
        simp at h2
        subst h2
        exact absurd (List.mem_of_getElem? (by simpa using h1)) hn.1
      | succ j => rw [nodupB_get hn.2 i j x (by simpa using h1) (by simpa using h2)]

theorem nodup_dst : ∀ {ds : List DEff}, nodupB (ds.flatMap fun d => d.dst.toList) = true → ∀ (i j : Nat) (d e : DEff) (x : Nat), ds[i]? = some d → ds[j]? = some e → d.dst = some x → e.dst = some x → i = j
  | [], _, i, _, _, _, _, h, _, _, _ => by simp at h
  | y :: ds, hn, i, j, d, e, x, h1, h2, h3, h4 => by
    have mem : ∀ (k : Nat) (z : DEff), ds[k]? = some z → z.dst = some x → x ∈ ds.flatMap fun d => d.dst.toList := fun k z hz hx => List.mem_flatMap.2 ⟨z, List.mem_of_getElem? hz, by simp [hx]⟩
    have tail : nodupB (ds.flatMap fun d => d.dst.toList) = true := by
      cases hy : y.dst with
      | none => simpa [hy] using hn
      | some v =>
        simp only [List.flatMap_cons, hy, Option.toList_some, List.singleton_append, nodupB, Bool.and_eq_true] at hn
        exact hn.2
    have head : y.dst = some x → x ∉ ds.flatMap fun d => d.dst.toList := by
      intro hy
      simp only [List.flatMap_cons, hy, Option.toList_some, List.singleton_append, nodupB, Bool.and_eq_true, Bool.not_eq_true', List.contains_eq_mem, decide_eq_false_iff_not] at hn
      exact hn.1
    cases i with
    | zero =>
      simp at h1
      subst h1
      cases j with
      | zero => rfl
      | succ j => exact absurd (mem j e (by simpa using h2) h4) (head h3)
    | succ i =>
      cases j with
      | zero =>
        simp at h2
        subst h2
        exact absurd (mem i d (by simpa using h1) h3) (head h4)
      | succ j => rw [nodup_dst tail i j d e x (by simpa using h1) (by simpa using h2) h3 h4]

theorem disjoint_spec {a b : List Nat} (h : disjoint a b = true) : ∀ x ∈ a, x ∉ b := by
  intro x hx
  have := List.all_eq_true.1 h x hx
  simpa using this

theorem apartD_spec {d e : DEff} (h : apartD d e = true) : (∀ x, d.dst = some x → e.dst ≠ some x ∧ x ∉ e.names) ∧ (∀ x, e.dst = some x → x ∉ d.names) ∧ (∀ x, WritesH d x → x ∉ e.reads ∧ ¬ WritesH e x) ∧ (∀ x, WritesH e x → x ∉ d.reads) := by
  simp only [apartD, Bool.and_eq_true] at h
  obtain ⟨⟨⟨h1, h2⟩, h3⟩, h4⟩ := h
  refine ⟨fun x hx => ?_, fun x hx => ?_, fun x hx => ?_, fun x hx => ?_⟩
  · have := disjoint_spec h1 x (by simp [hx])
    simp only [List.mem_append, not_or, Option.mem_toList] at this
    exact this
  · exact disjoint_spec h2 x (by simp [hx])
  · have := disjoint_spec h3 x hx
    simp only [List.mem_append, not_or] at this
    exact this
  · exact disjoint_spec h4 x hx

theorem stE_lt : ∀ (ds : List DEff) (i j : Nat) (st : St), stE (fun n => decide (n < i + j)) i ds st = stE (fun _ => true) i (ds.take j) st
  | [], _, _, _ => by simp [stE]
  | d :: ds, i, 0, st => by
    have : ∀ (ds : List DEff) (k : Nat) (s : St), i ≤ k → stE (fun n => decide (n < i + 0)) k ds s = s := by
      intro ds
      induction ds with
      | nil => intros; rfl
      | cons a l ih =>
        intro k s hk
        simp only [stE]
        rw [if_neg (by simp; omega)]
        exact ih (k + 1) s (by omega)
    rw [this _ _ _ (Nat.le_refl _)]
    simp [stE]
  | d :: ds, i, j + 1, st => by
    simp only [stE, List.take_succ_cons, if_true]
    rw [if_pos (by simp)]
    have := stE_lt ds (i + 1) j (applyD d st)
    rw [← this]
    congr 1
    funext n
    congr 1
    apply propext
    omega

theorem stE_snoc : ∀ (ds : List DEff) (i : Nat) (d : DEff) (st : St), stE (fun _ => true) i (ds ++ [d]) st = applyD d (stE (fun _ => true) i ds st)
  | [], _, _, _ => rfl
  | e :: ds, i, d, st => by
    simp only [List.cons_append, stE]
    exact stE_snoc ds (i + 1) d _

/-- What the interpreter has looked at. -/
structure Drawn (P : Program) (S : FuncId → Option Summ) (ops : Array Oper) (base : Nat) (st0 : St) (ds : List DEff) : Prop where
  len : ds.length = ops.toList.length
  each : ∀ j o, ops.toList[j]? = some o → ∃ e, ds[j]? = some (deffOf ops (stE (fun n => decide (n < 0 + j)) 0 ds st0).T o e) ∧ drawEff P S ops (base + offOp ops.toList j) o (stE (fun n => decide (n < 0 + j)) 0 ds st0) = some e ∧ e.obl ≠ some false
  ok : drawOk base ops.toList ds = true

theorem drawOps_spec {P : Program} {S : FuncId → Option Summ} {ops : Array Oper} {base : Nat} {st0 : St} {Q : St → Prop} : ∀ (rest done : List Oper) (acc : List DEff) (st : St), ops.toList = done ++ rest → acc.length = done.length → st = stE (fun _ => true) 0 acc st0 →
    (∀ j o, done[j]? = some o → ∃ e, acc[j]? = some (deffOf ops (stE (fun _ => true) 0 (acc.take j) st0).T o e) ∧ drawEff P S ops (base + offOp ops.toList j) o (stE (fun _ => true) 0 (acc.take j) st0) = some e ∧ e.obl ≠ some false) →
    drawOps P S ops base done.length rest st acc Q → ∃ ds, Drawn P S ops base st0 ds ∧ Q (stE (fun _ => true) 0 ds st0)
  | [], done, acc, st, hops, hl, hst, heach, h => by
    simp only [drawOps, asrt_iff] at h
    refine ⟨acc, ⟨by rw [hops, hl]; simp, fun j o hj => ?_, h.1⟩, hst ▸ h.2⟩
    rw [hops, List.append_nil] at hj
    obtain ⟨e, h1, h2, h3⟩ := heach j o hj
    exact ⟨e, by rw [stE_lt]; exact h1, by rw [stE_lt]; exact h2, h3⟩
  | o :: rest, done, acc, st, hops, hl, hst, heach, h => by
    simp only [drawOps] at h
    split at h
    · rename_i e he
      obtain ⟨h1, h2⟩ := must_iff.1 h
      have h2' : drawOps P S ops base (done ++ [o]).length rest (applyD (deffOf ops st.T o e) st) (acc ++ [deffOf ops st.T o e]) Q := by simpa using h2
      refine drawOps_spec rest (done ++ [o]) (acc ++ [deffOf ops st.T o e]) _ (by rw [hops]; simp) (by simp [hl]) (by rw [stE_snoc, hst]) ?_ h2'
      intro j o' hj
      by_cases hlt : j < done.length
      · rw [List.getElem?_append_left hlt] at hj
        obtain ⟨e', g1, g2, g3⟩ := heach j o' hj
        rw [List.take_append_of_le_length (by omega)]
        exact ⟨e', by rw [List.getElem?_append_left (by omega)]; exact g1, g2, g3⟩
      · have hj' : j = done.length := by
          have := (List.getElem?_eq_some_iff.1 hj).1
          simp at this
          omega
        subst hj'
        rw [List.getElem?_append_right (Nat.le_refl _)] at hj
        simp at hj
        subst hj
        rw [List.take_append_of_le_length (by omega), List.take_of_length_le (by omega), ← hst]
        exact ⟨e, by rw [List.getElem?_append_right (by omega)]; simp [hl], he, h1⟩
    · exact h.elim

section
variable {P : Program} {w0 : Base} {S : FuncId → Option Summ}

theorem HeapOK.congr {H H' : Heap} {c : Cx} (h : HeapOK w0 H c) (he : ∀ id, H'.at id = H.at id) : HeapOK w0 H' c := by
  have hlive : ∀ id p, Live H' c id p → Live H c id p := by
    rintro id p ⟨o, h1, h2, h3⟩
    exact ⟨o, by rw [← he]; exact h1, h2, h3⟩
  refine ⟨fun id o ho => h.obj id o (by rw [← he]; exact ho), fun id id' p p' h1 h2 => h.apart id id' p p' (hlive _ _ h1) (hlive _ _ h2), fun id p hp => h.out id p (hlive _ _ hp), fun id hid => h.free id (by rw [← he]; exact hid), h.stable, h.kept, h.grown, h.born⟩

theorem guardB_same {T T' : List AV} : ∀ (n jt : Nat) (want : Bool), (∀ x ∈ condNames T n jt, T'[x]? = T[x]?) → guardB T' n jt want = guardB T n jt want
  | 0, _, _, _ => rfl
  | n + 1, jt, want, h => by
    have h1 : T'.getD jt .top = T.getD jt .top := by
      rw [List.getD_eq_getElem?_getD, List.getD_eq_getElem?_getD, h jt (by simp [condNames])]
    unfold guardB
    rw [h1]
    split
    · rfl
    · rename_i j b p hb
      rw [guardB_same n j b (fun x hx => h x (by unfold condNames; rw [hb]; exact List.mem_cons_of_mem _ hx))]
    · rfl

theorem names_eq {ops : Array Oper} {o : Oper} {T T' : List AV} (h : ∀ x ∈ namesOf ops T o, T'[x]? = T[x]?) : TSame T T' o.op.operands.toList ∧ ∀ j want jt, o.guard = some (j, want) → guardTmp ops j = some jt → guardB T' 6 jt want = guardB T 6 jt want := by
  refine ⟨fun i hi => ?_, fun j want jt hg hj => ?_⟩
  · have : i ∈ namesOf ops T o := by
      unfold namesOf
      refine List.mem_append.2 (.inl ?_)
      rw [List.mem_filterMap]
      exact ⟨.tmp i, hi, rfl⟩
    rw [List.getD_eq_getElem?_getD, List.getD_eq_getElem?_getD, h i this]
  · refine guardB_same 6 jt want fun x hx => h x ?_
    unfold namesOf
    refine List.mem_append.2 (.inr ?_)
    simp only [hg, hj]
    exact hx

theorem drawEff_same (hL : ∀ k s, S k = some s → SummLocal s) {ops : Array Oper} {fr : Nat} {o : Oper} {st st' : St} {e : Eff} (he : drawEff P S ops fr o st = some e) (hT : ∀ x ∈ namesOf ops st.T o, st'.T[x]? = st.T[x]?) (hH : ∀ id ∈ e.reads, st'.H.at id = st.H.at id) : drawEff P S ops fr o st' = some e := by
  obtain ⟨h1, h2⟩ := names_eq hT
  unfold drawEff at he ⊢
  split at he
  · exact opEff_same hL h1 he hH
  · rename_i j want hg
    split at he
    · cases he
    · rename_i jt hj
      rw [h2 j want jt hg hj]
      split at he
      · rename_i q hq
        split at he
        · rename_i obl v rd hop
          cases he
          rw [opEff_same hL h1 hop hH]
        · rename_i obl v rd w ws hop
          cases he
          rw [opEff_same hL h1 hop hH]
        · cases he
      · cases he

theorem TOK.putSet {T : List AV} {c : Cx} {a : Act} (h : TOK c T a.tmps) {d : Option Nat} {x : AV} {v : Value} (hno : ∀ (y j : Nat) (b : Bool) (w : AV), T[y]? = some (.cond j b w) → d ≠ some j) (hx : ∀ i, d = some i → i < a.tmps.size → RelT c (a.put d v).tmps x v) :
    TOK c (d.elim T fun i => T.set i x) (a.put d v).tmps := by
  cases d with
  | none => exact h
  | some d =>
    show TOK c (T.set d x) (a.put (some d) v).tmps
    refine ⟨by simp [Act.put, h.1], fun i y hi => ?_⟩
    simp only [Act.put, List.getElem?_set] at hi ⊢
    by_cases hd : d = i
    · subst hd
      simp only [if_true] at hi
      split at hi
      · rename_i hlt
        cases hi
        have hlt' : d < a.tmps.size := by rw [← h.1]; exact hlt
        exact ⟨v, by simp [hlt'], hx d rfl hlt'⟩
      · cases hi
    · rw [if_neg hd] at hi
      obtain ⟨u, hu, hr⟩ := h.2 i y hi
      refine ⟨u, by rw [Array.getElem?_setIfInBounds_ne (by omega), hu], ?_⟩
      cases y with
      | cond j b w =>
        have hne := hno i j b w hi
        simp only [RelT]
        rw [Array.getElem?_setIfInBounds_ne (by rintro rfl; exact hne rfl)]
        exact hr
      | _ => exact hr

theorem tok_applyD {ops : Array Oper} {T0 : List AV} {o : Oper} {e : Eff} {st : St} {c : Cx} {a : Act} (h : TOK c st.T a.tmps) {v : Value} (hno : ∀ (y j : Nat) (b : Bool) (w : AV), st.T[y]? = some (.cond j b w) → o.dst ≠ some j) (hx : ∀ i, o.dst = some i → i < a.tmps.size → RelT c (a.put o.dst v).tmps e.val v) :
    TOK c (applyD (deffOf ops T0 o e) st).T (a.put o.dst v).tmps := by
  have h1 := TOK.putSet h hno hx
  have h2 : (applyD (deffOf ops T0 o e) st).T = o.dst.elim st.T fun i => st.T.set i e.val := by
    unfold applyD deffOf
    cases o.dst <;> rfl
  rw [h2]
  exact h1

theorem countP_lt {p q : Nat → Bool} {j : Nat} : ∀ {l : List Nat}, j ∈ l → (∀ i ∈ l, q i = true → p i = true) → p j = true → q j = false → l.countP q < l.countP p
  | [], h, _, _, _ => by simp at h
  | x :: l, h, hm, hp, hq => by
    have hmono := List.countP_mono_left (l := l) (p := q) (q := p) (fun i hi => hm i (by simp [hi]))
    rw [List.countP_cons, List.countP_cons]
    by_cases hx : x = j
    · subst hx
      rw [hp, hq]
      simp
      omega
    · have hj : j ∈ l := by
        rcases List.mem_cons.1 h with h1 | h1
        · exact absurd h1.symm hx
        · exact h1
      have ih := countP_lt hj (fun i hi => hm i (by simp [hi])) hp hq
      have hxx := hm x (by simp)
      cases hqx : q x
      · simp; omega
      · simp [hxx hqx]; omega

theorem draw_sound (hS : ∀ k s, S k = some s → SummOK P k s) (hL : ∀ k s, S k = some s → SummLocal s) {ops : Array Oper} {st0 : St} {ds : List DEff} (hd : Drawn P S ops st0.H.length st0 ds) (hT0 : ∀ (x j : Nat) (b : Bool) (v : AV), st0.T[x]? ≠ some (.cond j b v))
    {QQ : Exit → Act → World → Prop} {c0 : Cx} (hn : ∀ c a, StOK w0 (stE (fun _ => true) 0 ds st0) c a → c0.le c → QQ .normal a c.w) :
    ∀ (fuel : Nat) (listed : Array Bool) (a : Act) (c : Cx), listed.size = ops.size → (List.range ops.size).countP (fun i => !listed.getD i true) ≤ fuel →
      (∀ j o, ops.toList[j]? = some o → listed.getD j false = true → ∀ e ∈ o.after.toList, Region.binds .any e = true → listed.getD e.on false = true) →
      StOK w0 (stE (fun i => listed.getD i false) 0 ds st0) c a → c0.le c → wpAny P .any ops QQ fuel listed a c.w := by
  have hok := hd.ok
  simp only [drawOk, Bool.and_eq_true] at hok
  obtain ⟨⟨⟨ok1, ok2⟩, ok3⟩, ok4⟩ := hok
  have hlenD : ds.length = ops.size := by rw [hd.len]; simp
  intro fuel
  induction fuel with
  | zero =>
    intro listed a c hsz hcnt hclosed hst hle
    have hall : ∀ i, i < ops.size → listed.getD i true = true := by
      intro i hi
      have := List.countP_eq_zero.1 (Nat.le_zero.1 hcnt) i (List.mem_range.2 hi)
      simpa using this
    have hready : Region.ready .any ops listed = [] := by
      unfold Region.ready
      rw [List.filter_eq_nil_iff]
      intro i hi
      rw [hall i (List.mem_range.1 hi)]
      simp
    refine ⟨hready, hn c a ?_ hle⟩
    have hLt : ∀ i, i < ops.size → listed.getD i false = true := by
      intro i hi
      have := hall i hi
      rw [Array.getD_eq_getD_getElem?, Array.getElem?_eq_getElem (by omega)] at this ⊢
      exact this
    have hTe : (stE (fun _ => true) 0 ds st0).T = (stE (fun i => listed.getD i false) 0 ds st0).T := by
      apply List.ext_getElem?
      intro x
      refine stE_agree_T x ds 0 st0 st0 rfl (fun k d hk _ => ?_)
      have := (List.getElem?_eq_some_iff.1 hk).1
      rw [Nat.zero_add, hLt k (by omega)]
    refine ⟨hst.heap.congr fun id => ?_, hTe ▸ hst.tok, hst.plain⟩
    refine stE_agree_H id ds 0 st0 st0 rfl (fun k d hk _ => ?_)
    have := (List.getElem?_eq_some_iff.1 hk).1
    rw [Nat.zero_add, hLt k (by omega)]
  | succ fuel ih =>
    intro listed a c hsz hcnt hclosed hst hle
    have hLf : ∀ i, i < ops.size → listed.getD i false = listed.getD i true := by
      intro i hi
      rw [Array.getD_eq_getD_getElem?, Array.getD_eq_getD_getElem?, Array.getElem?_eq_getElem (by omega)]
      rfl
    refine ⟨fun hnil => ?_, fun j hj => ?_⟩
    · have hall : ∀ i, i < ops.size → listed.getD i true = true := by
        intro i
        induction i using Nat.strongRecOn with
        | _ i ihs =>
          intro hi
          cases hLi : listed.getD i true with
          | true => rfl
          | false =>
            have hmem : i ∈ Region.ready .any ops listed := by
              unfold Region.ready
              rw [List.mem_filter]
              refine ⟨List.mem_range.2 hi, ?_⟩
              rw [hLi, Array.getElem?_eq_getElem hi]
              simp only [Bool.not_false, Option.map_some, Option.getD_some, Bool.true_and]
              rw [← Array.all_toList, List.all_eq_true]
              intro e he
              cases hb : Region.binds .any e with
              | false => rfl
              | true =>
                have hlt := edgesBack_spec ok1 i ops[i] (by simp [hi]) e he hb
                have h1 := ihs e.on (by omega) (by omega)
                rw [← hLf e.on (by omega)] at h1
                rw [h1]
                rfl
            rw [hnil] at hmem
            cases hmem
      have hzero : (List.range ops.size).countP (fun i => !listed.getD i true) = 0 := by
        rw [List.countP_eq_zero]
        intro i hi
        rw [hall i (List.mem_range.1 hi)]
        simp
      have := (ih listed a c hsz (by omega) hclosed hst hle)
      cases fuel with
      | zero => exact this.2
      | succ f => exact this.1 hnil
    · unfold Region.ready at hj
      rw [List.mem_filter] at hj
      obtain ⟨hjr, hjc⟩ := hj
      have hjn := List.mem_range.1 hjr
      rw [Array.getElem?_eq_getElem hjn] at hjc
      simp only [Option.map_some, Option.getD_some, Bool.and_eq_true, Bool.not_eq_true'] at hjc
      obtain ⟨hjl, hje⟩ := hjc
      have hoj' : ops[j]? = some ops[j] := Array.getElem?_eq_getElem hjn
      generalize ops[j] = o at hje hoj'
      have hoj : ops.toList[j]? = some o := by rw [Array.getElem?_toList]; exact hoj'
      have hLj : listed.getD j false = false := by rw [hLf j hjn, hjl]
      have hedges : ∀ e ∈ o.after.toList, Region.binds .any e = true → listed.getD e.on false = true := by
        intro e he hb
        rw [← Array.all_toList, List.all_eq_true] at hje
        have := hje e he
        simpa [hb] using this
      have hbef : ∀ i, ((befs [] ops.toList).getD j 0).testBit i = true → listed.getD i false = true := fun i hi => bef_done (L := fun i => listed.getD i false) hclosed j o i hoj hedges hi
      obtain ⟨e, hdj, heff, hobl⟩ := hd.each j o hoj
      have hAfter : ∀ (k : Nat) (dk : DEff), ds[k]? = some dk → listed.getD k false = true → ((befs [] ops.toList).getD k 0).testBit j = true → False := by
        intro k dk hk hLk hb
        have hkl : k < ops.toList.length := by rw [← hd.len]; exact (List.getElem?_eq_some_iff.1 hk).1
        have hok := List.getElem?_eq_getElem hkl
        have := bef_done (L := fun i => listed.getD i false) hclosed k _ j hok (fun e he hb' => hclosed k _ hok hLk e he hb') hb
        rw [show listed.getD j false = true from this] at hLj
        cases hLj
      have hA : ∀ (k : Nat) (dk : DEff), k < j → ds[k]? = some dk → listed.getD k false = false → apartD dk (deffOf ops (stE (fun n => decide (n < 0 + j)) 0 ds st0).T o e) = true := by
        intro k dk hkj hk hLk
        rcases allApart_spec ok2 k j dk _ hkj hk hdj with hb | hb
        · rw [Nat.zero_add] at hb
          rw [hbef k hb] at hLk
          cases hLk
        · exact hb
      have hB : ∀ (k : Nat) (dk : DEff), j < k → ds[k]? = some dk → listed.getD k false = true → apartD (deffOf ops (stE (fun n => decide (n < 0 + j)) 0 ds st0).T o e) dk = true := by
        intro k dk hkj hk hLk
        rcases allApart_spec ok2 j k _ dk hkj hdj hk with hb | hb
        · rw [Nat.zero_add] at hb
          exact (hAfter k dk hk hLk hb).elim
        · exact hb
      have hTn : ∀ x ∈ namesOf ops (stE (fun n => decide (n < 0 + j)) 0 ds st0).T o, (stE (fun i => listed.getD i false) 0 ds st0).T[x]? = (stE (fun n => decide (n < 0 + j)) 0 ds st0).T[x]? := by
        intro x hx
        refine stE_agree_T x ds 0 st0 st0 rfl (fun k dk hk hw => ?_)
        rw [Nat.zero_add, Nat.zero_add]
        rcases Nat.lt_trichotomy k j with hkj | hkj | hkj
        · cases hLk : listed.getD k false with
          | true => simp [hkj]
          | false => exact absurd hx ((apartD_spec (hA k dk hkj hk hLk)).1 x hw).2
        · subst hkj
          rw [hLj]
          simp
        · cases hLk : listed.getD k false with
          | false => simp; omega
          | true => exact absurd hx ((apartD_spec (hB k dk hkj hk hLk)).2.1 x hw)
      have hHr : ∀ id ∈ e.reads, (stE (fun i => listed.getD i false) 0 ds st0).H.at id = (stE (fun n => decide (n < 0 + j)) 0 ds st0).H.at id := by
        intro id hid
        refine stE_agree_H id ds 0 st0 st0 rfl (fun k dk hk hw => ?_)
        rw [Nat.zero_add, Nat.zero_add]
        rcases Nat.lt_trichotomy k j with hkj | hkj | hkj
        · cases hLk : listed.getD k false with
          | true => simp [hkj]
          | false => exact absurd hid ((apartD_spec (hA k dk hkj hk hLk)).2.2.1 id hw).1
        · subst hkj
          rw [hLj]
          simp
        · cases hLk : listed.getD k false with
          | false => simp; omega
          | true => exact absurd hid ((apartD_spec (hB k dk hkj hk hLk)).2.2.2 id hw)
      have heff' := drawEff_same hL heff hTn hHr
      have hfr1 : ∀ id, st0.H.length + offOp ops.toList j ≤ id → id < st0.H.length + offOp ops.toList j + sizeOp o → (stE (fun i => listed.getD i false) 0 ds st0).H.at id = none := by
        intro id h1 h2
        have := stE_agree_H (L := fun i => listed.getD i false) (L' := fun _ => false) id ds 0 st0 st0 rfl (fun k dk hk hw => by
          rw [Nat.zero_add]
          cases hLk : listed.getD k false with
          | false => rfl
          | true =>
            obtain ⟨w, hw1, hw2⟩ := List.mem_map.1 hw
            have hdiv : ownOp ops.toList (w.1 - st0.H.length) 0 = j := by
              rw [hw2]
              have := ownOp_off ops.toList j 0 (id - st0.H.length) hoj (by omega) (by omega)
              simpa using this
            rcases (eachOk_spec ok3 k dk hk).1 w hw1 with h3 | h3 | h3
            · omega
            · rw [hdiv, Nat.zero_add] at h3
              subst h3
              rw [hLj] at hLk
              cases hLk
            · rw [hdiv] at h3
              exact (hAfter k dk hk hLk h3).elim)
        rw [this, stE_none]
        unfold Heap.at
        rw [List.getElem?_eq_none (by omega)]
      have hf0 := hfr1 (st0.H.length + offOp ops.toList j) (Nat.le_refl _) (by have := sizeOp_pos o; omega)
      have hfresh : sizeOp o = 128 → Fresh (stE (fun i => listed.getD i false) 0 ds st0).H (st0.H.length + offOp ops.toList j) := fun hs id h1 h2 => hfr1 id h1 (by omega)
      let L' : Nat → Bool := fun i => (listed.setIfInBounds j true).getD i false
      have hL' : ∀ n, L' n = (listed.getD n false || n == 0 + j) := by
        intro n
        simp only [L', Array.getD_eq_getD_getElem?, Nat.zero_add]
        by_cases hnj : n = j
        · subst hnj
          rw [Array.getElem?_setIfInBounds_self_of_lt (by omega)]
          simp
        · rw [Array.getElem?_setIfInBounds_ne (Ne.symm hnj)]
          simp [hnj]
      have after : ∀ (v : Value) (c' : Cx), c.le c' → HeapOK w0 (writeAll (stE (fun i => listed.getD i false) 0 ds st0).H e.writes) c' → (∀ i, o.dst = some i → i < a.tmps.size → RelT c' (a.put o.dst v).tmps e.val v) → wpAny P .any ops QQ fuel (listed.setIfInBounds j true) (a.put o.dst v) c'.w := by
        intro v c' hcc hh hr
        refine ih (listed.setIfInBounds j true) (a.put o.dst v) c' (by simp [hsz]) ?_ ?_ ?_ (hle.trans hcc)
        · have hlt := countP_lt (p := fun i => !listed.getD i true) (q := fun i => !(listed.setIfInBounds j true).getD i true) (j := j) (l := List.range ops.size) (List.mem_range.2 hjn) (fun i hi hq => ?_) (by simp [hjl]) (by
            rw [Array.getD_eq_getD_getElem?, Array.getElem?_setIfInBounds_self_of_lt (by omega)]
            rfl)
          · omega
          · by_cases hij : i = j
            · subst hij
              rw [hjl]
              rfl
            · rw [Array.getD_eq_getD_getElem?, Array.getElem?_setIfInBounds_ne (Ne.symm hij)] at hq
              rw [Array.getD_eq_getD_getElem?]
              exact hq
        · intro k ok hk hLk e' he' hb'
          have hmono : ∀ n, listed.getD n false = true → (listed.setIfInBounds j true).getD n false = true := by
            intro n hn'
            have := hL' n
            simp only [L'] at this
            rw [this, hn']
            rfl
          have hcase := hL' k
          simp only [L'] at hcase
          rw [hLk] at hcase
          cases hLk' : listed.getD k false with
          | true => exact hmono _ (hclosed k ok hk hLk' e' he' hb')
          | false =>
            rw [hLk'] at hcase
            have hkj : k = j := by simpa using hcase.symm
            subst hkj
            rw [hoj] at hk
            cases hk
            exact hmono _ (hedges e' he' hb')
        · have hT : (stE L' 0 ds st0).T = (applyD (deffOf ops (stE (fun n => decide (n < 0 + j)) 0 ds st0).T o e) (stE (fun i => listed.getD i false) 0 ds st0)).T := by
            apply List.ext_getElem?
            intro x
            refine stE_insert_T x ds 0 j _ st0 hdj (by rw [Nat.zero_add]; exact hLj) hL' (fun hw k dk hkj hk hLk hw' => ?_)
            rw [Nat.zero_add] at hLk
            exact ((apartD_spec (hB k dk hkj hk hLk)).1 x hw).1 hw'
          refine ⟨hh.congr fun id => ?_, ?_, by rw [put_defers]; exact hst.plain⟩
          · refine stE_insert_H id ds 0 j _ st0 hdj (by rw [Nat.zero_add]; exact hLj) hL' (fun hw k dk hkj hk hLk hw' => ?_)
            rw [Nat.zero_add] at hLk
            exact ((apartD_spec (hB k dk hkj hk hLk)).2.2.1 id hw).2 hw'
          · show TOK c' (stE L' 0 ds st0).T _
            rw [hT]
            refine tok_applyD (hst.tok.mono hcc) ?_ hr
            intro y j' b w hy hdst
            rcases stE_cond ds 0 st0 hy with h1 | ⟨k, dk, h1, h2, h3, h4⟩
            · exact hT0 y j' b w h1
            · rw [Nat.zero_add] at h2
              obtain ⟨_, g2, g3⟩ := eachOk_spec ok3 k dk h1
              cases hg : dk.guard with
              | none => exact g3 hg j' b w h4
              | some gg =>
                obtain ⟨gk, jt⟩ := gg
                obtain ⟨g4, g5⟩ := g2 gk jt hg
                have hjt := g5 j' b w h4
                have hkl : k < ops.toList.length := by rw [← hd.len]; exact (List.getElem?_eq_some_iff.1 h1).1
                obtain ⟨ek, hek, _, _⟩ := hd.each k _ (List.getElem?_eq_getElem hkl)
                rw [h1] at hek
                cases hek
                have hjt' : guardTmp ops gk = some j' := by
                  simp only [deffOf] at hg
                  cases hgo : (ops.toList[k]).guard with
                  | none => rw [hgo] at hg; cases hg
                  | some q =>
                    rw [hgo] at hg
                    simp only [Option.map_some, Option.some.injEq, Prod.mk.injEq] at hg
                    obtain ⟨q1, q2⟩ := hg
                    rw [← q1, q2, hjt]
                unfold guardTmp at hjt'
                cases hog : ops[gk]? with
                | none => rw [hog] at hjt'; cases hjt'
                | some og =>
                  rw [hog] at hjt'
                  simp only [Option.bind_some] at hjt'
                  obtain ⟨eg, heg, _, _⟩ := hd.each gk og (by rw [← hog]; simp)
                  have hgj : gk = j := nodup_dst ok4 gk j _ _ j' heg hdj hjt' hdst
                  subst hgj
                  exact hAfter k _ h1 h2 g4
      unfold wpOp
      rw [hoj']
      simp only
      unfold drawEff at heff'
      cases hg : o.guard with
      | none =>
        rw [hg] at heff'
        simp only at heff'
        rw [if_pos (by simp [Region.wanted, hg])]
        refine .inl (opEff_sound hS (g := none) ⟨hst.heap, hst.tok, by simp⟩ hf0 hfresh heff' hobl _ _ ?_)
        intro v c' h1 h2 h3
        exact after v c' h1 h2 (fun _ _ _ => relT_of_rel h3)
      | some gw =>
        obtain ⟨gj, want⟩ := gw
        rw [hg] at heff'
        simp only at heff'
        split at heff'
        · cases heff'
        · rename_i jt hjt
          split at heff'
          · rename_i q hq
            have hsp := guardB_spec hst.tok 6 jt want q hq
            have hwi := wanted_iff (a := a) hg hjt
            have hne : ∀ i, o.dst = some i → i ≠ jt := by
              intro i hi
              have hgs := (eachOk_spec ok3 j _ hdj).2.1 gj (guardTmp ops gj) (by simp [deffOf, hg])
              have hLg := hbef gj hgs.1
              rintro rfl
              unfold guardTmp at hjt
              cases hog : ops[gj]? with
              | none => rw [hog] at hjt; cases hjt
              | some og =>
                rw [hog] at hjt
                simp only [Option.bind_some] at hjt
                obtain ⟨eg, heg, _, _⟩ := hd.each gj og (by rw [← hog]; simp)
                have hgj : gj = j := nodup_dst ok4 gj j _ _ i heg hdj hjt hi
                subst hgj
                rw [hLj] at hLg
                cases hLg
            split at heff'
            · rename_i obl v rd hop
              cases heff'
              cases hqb : q with
              | true =>
                subst hqb
                have hbt := hsp.2 rfl
                rw [if_pos (hwi.2 hbt)]
                refine .inl (opEff_sound hS (g := some (jt, want)) ⟨hst.heap, hst.tok, by rintro j' b' e; cases e; exact hbt⟩ hf0 hfresh hop ?_ _ _ ?_)
                · intro hf
                  apply hobl
                  simp only at hf
                  rw [hf]
                  simp [bimp]
                · intro u c' h3 h4 h5
                  refine after u c' h3 h4 (fun i hi hlt => ⟨fun _ => h5, fun hn => absurd ?_ hn⟩)
                  rw [hi]
                  simp only [Act.put]
                  rw [Array.getElem?_setIfInBounds_ne (hne i hi), hbt]
              | false =>
                subst hqb
                have hbt : a.tmps[jt]? ≠ some (.bool want) := fun e => by simpa using hsp.1 e
                rw [if_neg (fun e => hbt (hwi.1 e))]
                refine after undef c (Cx.le.refl c) hst.heap ?_
                intro i hi hlt
                refine ⟨fun hjb => absurd ?_ hbt, fun _ => rfl⟩
                rw [hi] at hjb
                simp only [Act.put] at hjb
                rw [Array.getElem?_setIfInBounds_ne (hne i hi)] at hjb
                exact hjb
            · rename_i obl v rd w ws hop
              cases heff'
              have hq1 : q = true ∧ obl ≠ some false := by
                cases obl with
                | none => exact ⟨by simpa using hobl, by simp⟩
                | some x =>
                  cases q
                  · exact absurd rfl hobl
                  · cases x
                    · exact absurd rfl hobl
                    · exact ⟨rfl, by simp⟩
              obtain ⟨hqb, hob⟩ := hq1
              subst hqb
              have hbt := hsp.2 rfl
              rw [if_pos (hwi.2 hbt)]
              refine .inl (opEff_sound hS (g := some (jt, want)) ⟨hst.heap, hst.tok, by rintro j' b' e; cases e; exact hbt⟩ hf0 hfresh hop hob _ _ ?_)
              intro u c' h3 h4 h5
              refine after u c' h3 h4 (fun i hi hlt => ⟨fun _ => h5, fun hn => absurd ?_ hn⟩)
              rw [hi]
              simp only [Act.put]
              rw [Array.getElem?_setIfInBounds_ne (hne i hi), hbt]
            · cases heff'
          · cases heff'

end
end Go.Own
