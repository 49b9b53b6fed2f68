/- Regions in the order of the text. -/
import Derived.Test.YtmilniofdpgbnaaOwnP3
import Derived.WalkSpells
set_option linter.unusedVariables false
set_option linter.unusedSimpArgs false
namespace Go.Own
open Go

structure StOK (w0 : Base) (st : St) (c : Cx) (a : Act) : Prop where
  heap : HeapOK w0 st.H c
  tok : TOK c st.T a.tmps
  plain : a.defers = []

/-- Functions that are entered in place. -/
def CallfOK (P : Program) (callf : CallF) : Prop :=
  ∀ k args H Q, callf k args H Q → Enters P k ∧ ∀ (w0 : Base) (c : Cx) (vs : Array Value), HeapOK w0 H c → RelL c args vs.toList →
    Calls P k vs c.w fun en w' => ∃ v c' av H', en = .returned v ∧ w' = c'.w ∧ c.le c' ∧ HeapOK w0 H' c' ∧ Rel c' av v ∧ Q av H'

theorem must_iff {o : Option Bool} {X : Prop} : must o X ↔ o ≠ some false ∧ X := by
  cases o with
  | none => simp [must]
  | some b => cases b <;> simp [must, asrt]

theorem br_iff {b : Bool} {X Y : Prop} : br b X Y ↔ (b = true → X) ∧ (b = false → Y) := by
  cases b <;> simp [br]

theorem isB_iff {c want : Bool} : isB c want = true ↔ c = want := by
  cases want <;> cases c <;> simp [isB, bnot]

section
variable {P : Program} {w0 : Base} {T : List AV} {H : Heap} {c : Cx} {a : Act} {g : Option (Nat × Bool)} {o : Oper} {S : FuncId → Option Summ} {callf : CallF}

/-- A temporary is written. -/
theorem TOK.put (h : TOK c T a.tmps) {d : Option Nat} {x : AV} {v : Value} (hx : ∀ i, d = some i → i < a.tmps.size → RelT c (a.put d v).tmps x v) : TOK c (setT T d x) (a.put d v).tmps := by
  cases d with
  | none => exact h
  | some d =>
    refine ⟨by simp [setT, Act.put, h.1], fun i y hi => ?_⟩
    simp only [setT, Act.put, List.getElem?_set, List.length_map, List.getElem?_map] at hi ⊢
    by_cases hd : d = i
    · subst hd
      simp only [if_true] at hi
      split at hi
      · rename_i hlt
        cases hi
        have hlt' : d < a.tmps.size := by rw [← h.1]; exact hlt
        exact ⟨v, by simp [hlt'], hx d rfl hlt'⟩
      · cases hi
    · rw [if_neg hd] at hi
      cases hT : T[i]? with
      | none => simp [hT] at hi
      | some z =>
        simp only [hT, Option.map_some, Option.some.injEq] at hi
        obtain ⟨u, hu, hr⟩ := h.2 i z hT
        refine ⟨u, by rw [Array.getElem?_setIfInBounds_ne (by omega), hu], ?_⟩
        subst hi
        cases z with
        | cond j b w =>
          simp only
          split
          · simp [RelT, Rel]
          · rename_i hj
            simp only [RelT]
            rw [Array.getElem?_setIfInBounds_ne (by omega)]
            exact hr
        | _ => exact hr

theorem TOK.refine (h : TOK c T a.tmps) {j : Nat} {b : Bool} (hj : a.tmps[j]? = some (.bool b)) : TOK c (T.set j (.bool b)) a.tmps := by
  refine ⟨by simp [h.1], fun i y hi => ?_⟩
  rw [List.getElem?_set] at hi
  by_cases hd : j = i
  · subst hd
    simp only [if_true] at hi
    split at hi
    · cases hi
      exact ⟨_, hj, by simp [RelT, Rel]⟩
    · cases hi
  · rw [if_neg hd] at hi
    exact h.2 i y hi

theorem tok_bool (h : TOK c T a.tmps) {j : Nat} {b : Bool} (hj : T.getD j .top = .bool b) : a.tmps[j]? = some (.bool b) := by
  have hlt : j < T.length := by
    rcases Nat.lt_or_ge j T.length with h1 | h1
    · exact h1
    · simp [List.getD, List.getElem?_eq_none h1] at hj
  obtain ⟨u, hu, hr⟩ := h.2 j (.bool b) (by rw [List.getD_eq_getElem?_getD] at hj; rw [List.getElem?_eq_getElem hlt] at hj ⊢; simpa using hj)
  rw [hu, rel_bool (c := c) hr]

theorem relT_of_rel {tmps : Array Value} {x : AV} {v : Value} (h : Rel c x v) : RelT c tmps x v := by
  cases x <;> first | exact h | (simp [Rel] at h)

theorem fresh_len (H : Heap) : Fresh H H.length := by
  intro id h1 _
  unfold Heap.at
  rw [List.getElem?_eq_none h1]

theorem put_defers (d : Option Nat) (v : Value) : (a.put d v).defers = a.defers := by
  cases d <;> rfl

theorem findNow_of {n : Int} {z : AV} {ok : Bool} {Q : AV → Prop} {k : IntKind} : ∀ {es : List (Int × AV)} {ms : List MapEntry} (i : Nat), MapIs c es ms → lookupBr n z ok Q es →
    ∃ r, Instr.findNow (.int k) (.int .i64 n) ms i = some r ∧ match r with
      | some (_, v) => ∃ av, Rel c av v ∧ Q (if ok then .tup [av, .bool true] else av)
      | none => Q (if ok then .tup [z, .bool false] else z)
  | [], [], _, _, h => ⟨none, rfl, h⟩
  | (m, x) :: es, e :: ms, i, hm, h => by
    obtain ⟨h1, h2, h3⟩ := hm
    simp only [lookupBr, br_iff] at h
    by_cases hk : n = m
    · subst hk
      exact ⟨some (i, e.val), by simp [Instr.findNow, h1, Instr.sameNow], x, h2, h.1 (by simp [ieq])⟩
    · have hne : (n == m) = false := by simpa using hk
      obtain ⟨r, hr1, hr2⟩ := findNow_of (i + 1) h3 (h.2 (by simpa [ieq] using hk))
      exact ⟨r, by simp only [Instr.findNow, h1, Instr.sameNow, if_true, hne]; exact hr1, hr2⟩
  | [], _ :: _, _, h, _ => h.elim
  | _ :: _, [], _, h, _ => h.elim

theorem eqNil_sound (h : At P w0 T H c a.tmps g) {op : BinOp} {t yt : TypeId} {x y : Operand} {Q : AV → Heap → Prop} (hop : o.op = .binOp op t x y yt) (ho : op = .eql ∧ isNil y = true) (hs : eqNil P T H g t x Q) {next : Act → World → Prop} {QQ : Exit → Act → World → Prop}
    (hn : ∀ v c' av H', c.le c' → HeapOK w0 H' c' → Rel c' av v → Q av H' → next (a.put o.dst v) c'.w) : o.wp P a c.w next QQ := by
  obtain ⟨rfl, hy⟩ := ho
  have hy' : a.eval y = .slice none 0 0 := by
    cases y with
    | const v =>
      cases v <;> try (simp [isNil] at hy; done)
      rename_i base n cp
      cases base with
      | none =>
        simp [isNil] at hy
        obtain ⟨rfl, rfl⟩ := hy
        rfl
      | some b => simp [isNil] at hy
    | tmp _ => simp [isNil] at hy
    | global _ => simp [isNil] at hy
    | func _ => simp [isNil] at hy
  unfold eqNil at hs
  split at hs
  · rename_i e n cols hrt hx
    have r := opd_eq h hx
    simp only [Rel] at r
    obtain ⟨base, cap, hv, hcap, hcols⟩ := r
    have hu := rowType_some hrt
    have hrun : (execOp a.eval o).run P c.w = .ok (.value (.bool base.isNone)) c.w := by
      have h1 := eqGuard_plain (P := P) .eql t x y (u := .slice base n cap) (v := .slice none 0 0) rfl (by simp) c.w
      have h2 := Lib.run_eql_slice_nil c.w t e base n cap 0 0 hu
      simp only [execOp, hop, hv, hy', Sem.run_bind, h1, h2, Result.andThen_ok, Sem.run_pure]
    unfold Oper.wp
    rw [hrun]
    refine hn _ c (.bool base.isNone) H (Cx.le.refl c) h.heap (by simp [Rel]) (hs _ fun hb => ?_)
    rcases hcols.2 with h2 | ⟨ad, rfl, _⟩
    · exact h2
    · simp at hb
  · exact hs.elim

theorem zeroOf_some {t : TypeId} {z : AV} (h : zeroOf P t = some z) : ∃ i zv, P.info? t = some i ∧ i.zero = some zv ∧ Rel c z zv := by
  cases hi : P.info? t with
  | none => simp [zeroOf, hi] at h
  | some i =>
    cases hz : i.zero with
    | none => simp [zeroOf, hi, hz] at h
    | some zv =>
      refine ⟨i, zv, rfl, hz, ?_⟩
      unfold zeroOf at h
      simp only [hi, Option.bind_some, hz] at h
      split at h
      · rename_i cs heq
        cases heq
        split at h
        · rename_i har
          cases h
          simp only [Rel]
          exact ⟨cs, rfl, areVals_rel har⟩
        · cases h
      · rename_i v hne heq
        cases heq
        split at h
        · rename_i x hx
          split at h
          · rename_i hv
            cases h
            exact isVal_rel hv
          · cases h
        · cases h
      · cases h

theorem lookup_sound (h : At P w0 T H c a.tmps g) {t : TypeId} {m k : Operand} {ok : Bool} {Q : AV → Heap → Prop} (hop : o.op = .lookup t m k ok) (hs : lookupOp P T H g t m k ok Q) {next : Act → World → Prop} {QQ : Exit → Act → World → Prop}
    (hn : ∀ v c' av H', c.le c' → HeapOK w0 H' c' → Rel c' av v → Q av H' → next (a.put o.dst v) c'.w) : o.wp P a c.w next QQ := by
  unfold lookupOp at hs
  split at hs
  · rename_i kt et id n hu hm hk
    split at hs
    · rename_i es z hkt hid hz
      have rm := opd_eq h hm
      have rk := rel_int (opd_eq h hk)
      simp only [Rel] at rm
      obtain ⟨p, hp, hvm⟩ := rm
      obtain ⟨p', hp', hob⟩ := h.heap.obj id _ hid
      rw [hp] at hp'
      cases hp'
      obtain ⟨arr, clk, ha, hes⟩ := hob
      obtain ⟨r, hr1, hr2⟩ := findNow_of (k := .i64) 0 hes hs
      obtain ⟨i, zv, hi, hzv, rz⟩ := zeroOf_some (c := c) hz
      have hgo : (getObj p.b).run P c.w = .ok (.map arr clk) c.w := by simp [getObj, Sem.run, ha]
      have hck := run_checkKey_int (P := P) hkt arr.isEmpty 9999 (.int .i64 n) ⟨_, _, rfl⟩ c.w
      have hfk : (Instr.findKey kt (.int .i64 n) arr.toList).run P c.w = .ok r c.w := by
        simp [Instr.findKey, run_underlying hkt, hr1]
      unfold Oper.wp
      cases r with
      | none =>
        have hrun : (execOp a.eval o).run P c.w = .ok (.value (if ok then .tuple #[zv, .bool false] else zv)) c.w := by
          simp only [execOp, hop, hvm, rk, Instr.lookup, Sem.run_bind, run_underlying hu, Result.andThen_ok, hgo, Sem.run_pure, hck, hfk, run_zeroValue hi hzv]
        rw [hrun]
        refine hn _ c _ H (Cx.le.refl c) h.heap ?_ hr2
        cases ok
        · exact rz
        · simp only [if_true, Rel]
          exact ⟨_, rfl, by simp [RelL, Rel, rz]⟩
      | some iv =>
        obtain ⟨i', v⟩ := iv
        obtain ⟨av, hav, hq⟩ := hr2
        have hrun : (execOp a.eval o).run P c.w = .ok (.value (if ok then .tuple #[v, .bool true] else v)) c.w := by
          simp only [execOp, hop, hvm, rk, Instr.lookup, Sem.run_bind, run_underlying hu, Result.andThen_ok, hgo, Sem.run_pure, hck, hfk]
        rw [hrun]
        refine hn _ c _ H (Cx.le.refl c) h.heap ?_ hq
        cases ok
        · exact hav
        · simp only [if_true, Rel]
          exact ⟨_, rfl, by simp [RelL, Rel, hav]⟩
    · exact hs.elim
  · exact hs.elim

/-- What parts the ways, or enters a function. -/
theorem special_sound (hc : CallfOK P callf) (h : At P w0 T H c a.tmps g) {Q : AV → Heap → Prop} (hs : special P callf T H g o Q) {next : Act → World → Prop} {QQ : Exit → Act → World → Prop}
    (hn : ∀ v c' av H', c.le c' → HeapOK w0 H' c' → Rel c' av v → Q av H' → next (a.put o.dst v) c'.w) : o.wp P a c.w next QQ := by
  unfold special at hs
  split at hs
  · rename_i op t x y yt hop
    split at hs
    · rename_i ho
      exact eqNil_sound h hop ho hs hn
    · exact hs.elim
  · rename_i t m k ok hop
    exact lookup_sound h hop hs hn
  · rename_i x hop
    exact nextT_sound h hop hs hn
  · rename_i cl hop
    split at hs
    · rename_i k args hk
      obtain ⟨hent, hcalls⟩ := hc k args H Q hs
      obtain ⟨vs, h3, h4⟩ := run_call h hop hk hent
      unfold Oper.wp
      rw [h3]
      refine Calls.mono (hcalls w0 c vs h.heap h4) ?_
      rintro en w' ⟨v, c', av, H', rfl, rfl, e1, e2, e3, e4⟩
      exact hn v c' av H' e1 e2 e3 e4
    · exact hs.elim
  · exact hs.elim

theorem runPlain_sound (hS : ∀ k s, S k = some s → SummOK P k s) (hc : CallfOK P callf) {st : St} {Q : St → Prop} (h : At P w0 st.T st.H c a.tmps g) (hs : runPlain P S callf g o st Q) {next : Act → World → Prop} {QQ : Exit → Act → World → Prop}
    (hn : ∀ v c' av H', c.le c' → HeapOK w0 H' c' → Rel c' av v → Q ⟨setT st.T o.dst av, H'⟩ → next (a.put o.dst v) c'.w) : o.wp P a c.w next QQ := by
  unfold runPlain at hs
  split at hs
  · rename_i e he
    obtain ⟨h1, h2⟩ := must_iff.1 hs
    exact opEff_sound hS h (fresh_len _ _ (Nat.le_refl _) (by omega)) (fun _ => fresh_len _) he h1 next QQ fun v c' h3 h4 h5 => hn v c' _ _ h3 h4 h5 h2
  · exact special_sound hc h hs hn

theorem wanted_iff {ops : Array Oper} {j jt : Nat} {want : Bool} (hg : o.guard = some (j, want)) (hj : guardTmp ops j = some jt) : Region.wanted o (yielded ops a.tmps) = true ↔ a.tmps[jt]? = some (.bool want) := by
  unfold guardTmp at hj
  simp only [Region.wanted, hg, yielded, hj, Option.bind_some]
  cases ht : a.tmps[jt]? with
  | none => simp
  | some u => cases u <;> simp

/-- A guard holds just where the condition that is told of it does. -/
theorem guardB_spec (h : TOK c T a.tmps) : ∀ (n jt : Nat) (want q : Bool), guardB T n jt want = some q → (a.tmps[jt]? = some (.bool want) ↔ q = true)
  | 0, _, _, _, hq => by cases hq
  | n + 1, jt, want, q, hq => by
    unfold guardB at hq
    split at hq
    · rename_i b hb
      cases hq
      rw [tok_bool h hb, isB_iff]
      simp
    · rename_i j b p hb
      split at hq
      · rename_i q' hq'
        cases hq
        have ih := guardB_spec h n j b q' hq'
        have hlt : jt < T.length := by
          rcases Nat.lt_or_ge jt T.length with h1 | h1
          · exact h1
          · simp [List.getD, List.getElem?_eq_none h1] at hb
        obtain ⟨u, hu, hr⟩ := h.2 jt (.cond j b (.bool p)) (by rw [List.getD_eq_getElem?_getD] at hb; rw [List.getElem?_eq_getElem hlt] at hb ⊢; simpa using hb)
        simp only [RelT] at hr
        rw [hu]
        by_cases hjb : a.tmps[j]? = some (.bool b)
        · rw [ih.1 hjb, rel_bool (c := c) (hr.1 hjb)]
          simp [band, isB_iff]
        · rw [hr.2 hjb]
          have : q' = false := by
            cases q' with
            | false => rfl
            | true => exact absurd (ih.2 rfl) hjb
          simp [this, band, undef]
      · cases hq
    · cases hq

theorem runOps_sound (hS : ∀ k s, S k = some s → SummOK P k s) (hc : CallfOK P callf) {ops : Array Oper} {QQ : Exit → Act → World → Prop} {Q : St → Prop} :
    ∀ (l : List Oper) (st : St) (c : Cx) (a : Act), runOps P S callf ops l st Q → StOK w0 st c a → (∀ st' c' a', StOK w0 st' c' a' → c.le c' → Q st' → QQ .normal a' c'.w) → wpList P ops QQ l a c.w
  | [], st, c, a, hs, h, hn => hn st c a h (Cx.le.refl c) hs
  | o :: l, st, c, a, hs, h, hn => by
    have go : ∀ (T' : List AV) (v : Value) (c' : Cx) (av : AV) (H' : Heap), TOK c T' a.tmps → c.le c' → HeapOK w0 H' c' → (∀ i, o.dst = some i → i < a.tmps.size → RelT c' (a.put o.dst v).tmps av v) → runOps P S callf ops l ⟨setT T' o.dst av, H'⟩ Q → wpList P ops QQ l (a.put o.dst v) c'.w := by
      intro T' v c' av H' ht hle hh hav hrest
      refine runOps_sound hS hc l _ c' _ hrest ⟨hh, (ht.mono hle).put hav, by rw [put_defers]; exact h.plain⟩ ?_
      intro st'' c'' a'' h1 h2 h3
      exact hn st'' c'' a'' h1 (hle.trans h2) h3
    simp only [runOps, runOp] at hs
    unfold wpList
    cases hg : o.guard with
    | none =>
      simp only [hg] at hs
      rw [if_pos (by simp [Region.wanted, hg])]
      refine .inl (runPlain_sound hS hc (g := none) ⟨h.heap, h.tok, by simp⟩ hs ?_)
      intro v c' av H' h1 h2 h3 h4
      exact go st.T v c' av H' h.tok h1 h2 (fun _ _ _ => relT_of_rel h3) h4
    | some gw =>
      obtain ⟨j, want⟩ := gw
      simp only [hg] at hs
      split at hs
      · exact hs.elim
      · rename_i jt hj
        split at hs
        · exact hs.elim
        · rename_i hdj
          split at hs
          · rename_i q hq
            have hsp := guardB_spec h.tok 6 jt want q hq
            have hwi := wanted_iff (a := a) hg hj
            cases hqb : q with
            | true =>
              subst hqb
              have hbt := hsp.2 rfl
              rw [if_pos (hwi.2 hbt)]
              split at hs
              · rename_i obl v rd he
                obtain ⟨h1, h2⟩ := must_iff.1 hs
                refine .inl (opEff_sound hS (g := some (jt, want)) ⟨h.heap, h.tok, by rintro j' b' e; cases e; exact hbt⟩ (fresh_len _ _ (Nat.le_refl _) (by omega)) (fun _ => fresh_len _) he ?_ _ _ ?_)
                · intro hf
                  apply h1
                  simp only at hf
                  rw [hf]
                  simp [bimp]
                · intro u c' h3 h4 h5
                  refine go st.T u c' (.cond jt want v) st.H h.tok h3 h4 (fun i hi hlt => ⟨fun _ => h5, fun hn => absurd ?_ hn⟩) h2
                  have hne : i ≠ jt := by
                    rintro rfl
                    exact hdj hi
                  rw [hi]
                  simp only [Act.put]
                  rw [Array.getElem?_setIfInBounds_ne hne, hbt]
              · obtain ⟨h1, _⟩ := br_iff.1 hs
                refine .inl (runPlain_sound hS hc (g := some (jt, want)) (st := ⟨st.T.set jt (.bool want), st.H⟩) ⟨h.heap, h.tok.refine hbt, by rintro j' b' e; cases e; exact hbt⟩ (h1 rfl) ?_)
                intro v c' av H' h3 h4 h5 h6
                exact go _ v c' av H' (h.tok.refine hbt) h3 h4 (fun _ _ _ => relT_of_rel h5) h6
            | false =>
              subst hqb
              have hbt : a.tmps[jt]? ≠ some (.bool want) := fun e => by simpa using hsp.1 e
              rw [if_neg (fun e => hbt (hwi.1 e))]
              split at hs
              · rename_i obl v rd he
                obtain ⟨_, h2⟩ := must_iff.1 hs
                refine go st.T undef c _ st.H h.tok (Cx.le.refl c) h.heap ?_ h2
                intro i hi hlt
                refine ⟨fun hjb => absurd ?_ hbt, fun _ => rfl⟩
                have hne : i ≠ jt := by
                  rintro rfl
                  exact hdj hi
                rw [hi] at hjb
                simp only [Act.put] at hjb
                rw [Array.getElem?_setIfInBounds_ne hne] at hjb
                exact hjb
              · obtain ⟨_, h2⟩ := br_iff.1 hs
                have hT : TOK c (notT st.T jt want) a.tmps := by
                  unfold notT
                  split
                  · rename_i b hb
                    have h5 := tok_bool h.tok hb
                    have hb' : b = !want := by
                      cases b <;> cases want <;> simp_all
                    exact h.tok.refine (b := !want) (by rw [h5, hb'])
                  · exact h.tok
                exact go _ undef c .top st.H hT (Cx.le.refl c) h.heap (fun _ _ _ => by simp [RelT, Rel]) (h2 rfl)
          · exact hs.elim

end
end Go.Own
