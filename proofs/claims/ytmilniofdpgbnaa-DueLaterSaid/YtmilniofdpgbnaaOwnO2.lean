/- Whether two structs are one; operations on two numbers. -/
import Derived.Test.YtmilniofdpgbnaaOwnO1
import Derived.Laws.StructEq
set_option linter.unusedVariables false
set_option linter.unusedSimpArgs false
namespace Go.Own
open Go

section
variable {P : Program} {w0 : Base} {T : List AV} {H : Heap} {c : Cx} {a : Act} {g : Option (Nat × Bool)} {o : Oper}

theorem same_true {ks : List Bool} {as bs : List AV} {r : Bool} (h : sameCells (true :: ks) as bs = some r) : ∃ k x y as' bs' r', as = .int k x :: as' ∧ bs = .int k y :: bs' ∧ sameCells ks as' bs' = some r' ∧ r = band (ieq x y) r' := by
  rcases as with _ | ⟨a, as⟩
  · simp [sameCells] at h
  · rcases bs with _ | ⟨b, bs⟩
    · cases a <;> simp [sameCells] at h
    · cases a <;> try (simp [sameCells] at h; done)
      cases b <;> try (simp [sameCells] at h; done)
      rename_i k x k' y
      simp only [sameCells] at h
      split at h
      · rename_i hk
        subst hk
        split at h
        · rename_i r' hr
          exact ⟨k, x, y, as, bs, r', rfl, rfl, hr, (Option.some.inj h).symm⟩
        · cases h
      · cases h

theorem same_false {ks : List Bool} {as bs : List AV} {r : Bool} (h : sameCells (false :: ks) as bs = some r) : ∃ x y as' bs' r', as = .bool x :: as' ∧ bs = .bool y :: bs' ∧ sameCells ks as' bs' = some r' ∧ r = band (beq2 x y) r' := by
  rcases as with _ | ⟨a, as⟩
  · simp [sameCells] at h
  · rcases bs with _ | ⟨b, bs⟩
    · cases a <;> simp [sameCells] at h
    · cases a <;> try (simp [sameCells] at h; done)
      cases b <;> try (simp [sameCells] at h; done)
      rename_i x y
      simp only [sameCells] at h
      split at h
      · rename_i r' hr
        exact ⟨x, y, as, bs, r', rfl, rfl, hr, (Option.some.inj h).symm⟩
      · cases h

theorem same_nil {as bs : List AV} {r : Bool} (h : sameCells [] as bs = some r) : as = [] ∧ bs = [] ∧ r = true := by
  rcases as with _ | ⟨a, as⟩ <;> rcases bs with _ | ⟨b, bs⟩ <;> simp_all [sameCells]

theorem same_split : ∀ (ks ls : List Bool) (as bs : List AV) (r : Bool), sameCells (ks ++ ls) as bs = some r → ∃ r1 r2, sameCells ks (as.take ks.length) (bs.take ks.length) = some r1 ∧ sameCells ls (as.drop ks.length) (bs.drop ks.length) = some r2 ∧ r = (r1 && r2)
  | [], ls, as, bs, r, h => ⟨true, r, by simp [sameCells], by simpa using h, by simp⟩
  | true :: ks, ls, as, bs, r, h => by
    obtain ⟨k, x, y, as', bs', r', rfl, rfl, hr, rfl⟩ := same_true (by simpa using h)
    obtain ⟨r1, r2, h1, h2, rfl⟩ := same_split ks ls _ _ _ hr
    exact ⟨band (ieq x y) r1, r2, by simp [sameCells, h1], by simpa using h2, by simp [band, Bool.and_assoc]⟩
  | false :: ks, ls, as, bs, r, h => by
    obtain ⟨x, y, as', bs', r', rfl, rfl, hr, rfl⟩ := same_false (by simpa using h)
    obtain ⟨r1, r2, h1, h2, rfl⟩ := same_split ks ls _ _ _ hr
    exact ⟨band (beq2 x y) r1, r2, by simp [sameCells, h1], by simpa using h2, by simp [band, Bool.and_assoc]⟩

theorem same_len : ∀ {ks : List Bool} {as bs : List AV} {r : Bool}, sameCells ks as bs = some r → as.length = ks.length ∧ bs.length = ks.length
  | [], as, bs, r, h => by
    obtain ⟨rfl, rfl, _⟩ := same_nil h
    simp
  | true :: ks, as, bs, r, h => by
    obtain ⟨k, x, y, as', bs', r', rfl, rfl, hr, rfl⟩ := same_true h
    have := same_len hr
    simp [this.1, this.2]
  | false :: ks, as, bs, r, h => by
    obtain ⟨x, y, as', bs', r', rfl, rfl, hr, rfl⟩ := same_false h
    have := same_len hr
    simp [this.1, this.2]

/-- The value of a type with these cells. -/
def valOf (P : Program) (t : TypeId) (vs : List Value) : Value := if isAggT P t then .agg vs.toArray else vs.headD undef

theorem run_part {t : TypeId} {n : Nat} (hs : szOf P t = some n) (xs : Array Value) (off : Nat) (h : off + n ≤ xs.size) (h1 : isAggT P t = false → n = 1) (w : World) : (part t xs off).run P w = .ok (valOf P t ((xs.toList.drop off).take n)) w := by
  obtain ⟨i, d, hi, hd, rfl⟩ := szOf_some hs
  simp only [part, Sem.run_bind, run_isAgg hd, Result.andThen_ok]
  cases hA : isAggT P t with
  | true =>
    simp only [if_true, Sem.run_bind, run_sizeOf hi, Result.andThen_ok, Sem.run_pure, valOf, hA]
    congr 2
    apply Array.ext'
    simp [Array.toList_extract, List.extract_eq_take_drop]
  | false =>
    have hn := h1 hA
    have hlt : off < xs.size := by omega
    simp only [Bool.false_eq_true, if_false, valOf, hA, hn]
    have e : xs[off]? = some xs[off] := Array.getElem?_eq_getElem hlt
    rw [e]
    simp only [Sem.run_pure]
    congr 1
    have : (xs.toList.drop off).take 1 = [xs[off]] := by
      rw [List.drop_eq_getElem_cons (by simpa using hlt)]
      simp
    rw [this]
    rfl

theorem flat_one {d : Nat} {t : TypeId} {ks : List Bool} (h : flatT P d t = some ks) (hA : isAggT P t = false) : ks.length = 1 := by
  cases d with
  | zero => simp [flatT] at h
  | succ d =>
    simp only [flatT] at h
    split at h <;> first | (cases h; rfl) | skip
    · rename_i fs hu
      simp [isAggT, hu] at hA
    · cases h

theorem eq_fields (ft : TypeId → Option (List Bool)) (D : Nat) (w : World)
    (one : ∀ t ks, ft t = some ks → ∀ (as bs : List AV) (xs ys : List Value) (r : Bool), RelL c as xs → RelL c bs ys → sameCells ks as bs = some r → (Op.equalIn D t (valOf P t xs) (valOf P t ys)).run P w = .ok r w)
    (len : ∀ t ks, ft t = some ks → isAggT P t = false → ks.length = 1) :
    ∀ (fs : List Field) (off : Nat) (ks : List Bool), flatT.flatFs ft P fs off = some ks → ∀ (as bs : List AV) (xs ys : Array Value) (r : Bool), RelL c as xs.toList → RelL c bs ys.toList → sameCells ks (as.drop off) (bs.drop off) = some r → off ≤ as.length → off ≤ bs.length →
      (Op.eqFields D xs ys fs).run P w = .ok r w
  | [], off, ks, hf, as, bs, xs, ys, r, _, _, hs, _, _ => by
    simp only [flatT.flatFs, Option.some.injEq] at hf
    subst hf
    obtain ⟨_, _, rfl⟩ := same_nil hs
    simp [Op.eqFields]
  | f :: fs, off, ks, hf, as, bs, xs, ys, r, ha, hb, hs, hoa, hob => by
    simp only [flatT.flatFs] at hf
    split at hf
    · rename_i k1 h1
      split at hf
      · rename_i hc
        obtain ⟨hoff, hname, hsz⟩ := hc
        split at hf
        · rename_i k2 h2
          cases hf
          obtain ⟨r1, r2, e1, e2, rfl⟩ := same_split k1 k2 _ _ _ hs
          have l1 := same_len hs
          simp only [List.length_drop, List.length_append] at l1
          have la := ha.length
          have lb := hb.length
          simp only [Array.length_toList] at la lb
          have pa := run_part (P := P) hsz xs off (by omega) (fun hA => len _ _ h1 hA) w
          have pb := run_part (P := P) hsz ys off (by omega) (fun hA => len _ _ h1 hA) w
          have hq := one _ _ h1 _ _ _ _ _ ((ha.drop off).take k1.length) ((hb.drop off).take k1.length) e1
          have ih := eq_fields ft D w one len fs (off + k1.length) k2 h2 as bs xs ys r2 ha hb (by simpa [List.drop_drop, Nat.add_comm] using e2) (by omega) (by omega)
          have hn : f.name ≠ "_" := by simpa using hname
          rw [Op.eqFields]
          simp only [if_pos hn, hoff, Sem.run_bind, pa, pb, hq, Result.andThen_ok]
          cases r1
          · simp
          · simpa using ih
        · cases hf
      · cases hf
    · cases hf

theorem eq_flat (w : World) : ∀ (d : Nat) (D : Nat), d ≤ D → ∀ (t : TypeId) (ks : List Bool), flatT P d t = some ks → ∀ (as bs : List AV) (xs ys : List Value) (r : Bool), RelL c as xs → RelL c bs ys → sameCells ks as bs = some r →
    (Op.equalIn D t (valOf P t xs) (valOf P t ys)).run P w = .ok r w
  | 0, _, _, t, ks, h, _, _, _, _, _, _, _, _ => by simp [flatT] at h
  | d + 1, 0, hD, _, _, _, _, _, _, _, _, _, _, _ => by omega
  | d + 1, D + 1, hD, t, ks, h, as, bs, xs, ys, r, ha, hb, hs => by
    simp only [flatT] at h
    split at h
    · rename_i k hu
      cases h
      have hA : isAggT P t = false := by simp [isAggT, hu]
      obtain ⟨k', x, y, as', bs', r', rfl, rfl, hr, rfl⟩ := same_true hs
      obtain ⟨rfl, rfl, rfl⟩ := same_nil hr
      cases xs with
      | nil => simp [RelL] at ha
      | cons u us => cases ys with
        | nil => simp [RelL] at hb
        | cons v vs =>
          simp only [RelL, Rel] at ha hb
          obtain ⟨rfl, _⟩ := ha
          obtain ⟨rfl, _⟩ := hb
          simp only [valOf, hA, Bool.false_eq_true, if_false, List.headD_cons]
          rw [run_equalIn_int w D t k' k _ _ hu]
          simp [band, ieq]
    · rename_i hu
      cases h
      have hA : isAggT P t = false := by simp [isAggT, hu]
      obtain ⟨x, y, as', bs', r', rfl, rfl, hr, rfl⟩ := same_false hs
      obtain ⟨rfl, rfl, rfl⟩ := same_nil hr
      cases xs with
      | nil => simp [RelL] at ha
      | cons u us => cases ys with
        | nil => simp [RelL] at hb
        | cons v vs =>
          simp only [RelL, Rel] at ha hb
          obtain ⟨rfl, _⟩ := ha
          obtain ⟨rfl, _⟩ := hb
          simp only [valOf, hA, Bool.false_eq_true, if_false, List.headD_cons]
          rw [run_equalIn_bool' w D t _ _ hu]
          simp [band, beq2]
    · rename_i fs hu
      split at h
      · cases h
      · rename_i hp
        have hA : isAggT P t = true := by simp [isAggT, hu]
        have hfo : P.fieldsOf t = fs := by simp [Program.fieldsOf, hu]
        simp only [valOf, hA, if_true]
        rw [run_equalIn_struct (P := P) w D t _ _ (by rw [hfo]; exact hu) (by simpa using hp), hfo]
        exact eq_fields (fun t => flatT P d t) D w (fun t ks h1 as bs xs ys r h2 h3 h4 => eq_flat w d D (by omega) t ks h1 as bs xs ys r h2 h3 h4) (fun t ks h1 hA => flat_one h1 hA) fs.toList 0 ks h as bs xs.toArray ys.toArray r (by simpa using ha) (by simpa using hb) (by simpa using hs) (by omega) (by omega)
    · cases h

theorem guard_fs (ft : TypeId → Option (List Bool)) (D : Nat) (one : ∀ t ks, ft t = some ks → P.eqGuardType D t = false) :
    ∀ (fs : List Field) (off : Nat) (ks : List Bool), flatT.flatFs ft P fs off = some ks → (fs.any fun f => f.name != "_" && P.eqGuardType D f.type) = false
  | [], _, _, _ => rfl
  | f :: fs, off, ks, h => by
    simp only [flatT.flatFs] at h
    split at h
    · rename_i k1 h1
      split at h
      · split at h
        · rename_i k2 h2
          simp [one _ _ h1, guard_fs ft D one fs _ _ h2]
        · cases h
      · cases h
    · cases h

theorem guard_flat : ∀ (d D : Nat), d ≤ D → ∀ (t : TypeId) (ks : List Bool), flatT P d t = some ks → P.eqGuardType D t = false
  | 0, _, _, t, ks, h => by simp [flatT] at h
  | d + 1, 0, hD, _, _, _ => by omega
  | d + 1, D + 1, hD, t, ks, h => by
    simp only [flatT] at h
    split at h
    · rename_i hu; simp [Program.eqGuardType, hu]
    · rename_i hu; simp [Program.eqGuardType, hu]
    · rename_i fs hu
      split at h
      · cases h
      · simp only [Program.eqGuardType, hu]
        rw [← Array.any_toList]
        exact guard_fs _ D (fun t ks h1 => guard_flat d D (by omega) t ks h1) fs.toList 0 ks h
    · cases h

theorem agg_eq {t : TypeId} {ks : List Bool} {as bs : List AV} {xs ys : Array Value} {r : Bool} (hf : flatOk P t = some ks) (ha : RelL c as xs.toList) (hb : RelL c bs ys.toList) (hs : sameCells ks as bs = some r) (w : World) :
    (Op.equalIn 10000 t (.agg xs) (.agg ys)).run P w = .ok r w ∧ P.eqGuardType P.depth t = false := by
  unfold flatOk at hf
  split at hf
  · rename_i hc
    have h1 := eq_flat (P := P) w 9 10000 (by omega) t ks hf as bs xs.toList ys.toList r ha hb hs
    have h2 := guard_flat (P := P) 9 P.depth hc.1 t ks hf
    simp only [valOf, hc.2, if_true] at h1
    exact ⟨h1, h2⟩
  · cases hf

theorem binop_goes (h : At P w0 T H c a.tmps g) {op : BinOp} {t yt : TypeId} {x y : Operand} {b : Option Bool} {v : AV} (ho : o.op = .binOp op t x y yt) (hb : b ≠ some false)
    (hx : binop P op t (opd P T g t x) (opd P T g yt y) = some (b, v)) : Goes P o a w0 H c v := by
  have rx := opd_rel h t x
  have ry := opd_rel h yt y
  have fin : ∀ u, (eqGuard op t x y (a.eval x) (a.eval y)).run P c.w = .ok () c.w → (binOp op t (a.eval x) (a.eval y)).run P c.w = .ok u c.w → Rel c v u → Goes P o a w0 H c v := by
    intro u h1 h2 h3
    refine goes_value h (v := u) ?_ h3
    simp only [execOp, ho, Sem.run_bind, h1, h2, Result.andThen_ok, Sem.run_pure]
  unfold binop at hx
  split at hx
  · rename_i k m k' n e1 e2
    rw [e1] at rx; rw [e2] at ry
    have q1 := rel_int rx
    have q2 := rel_int ry
    simp only [Option.some.injEq, Prod.mk.injEq] at hx
    obtain ⟨rfl, rfl⟩ := hx
    have hn : ¬ n < 0 := by
      intro hn
      exact hb (by simp [ile]; omega)
    refine fin (.int k (ishl k m n)) (by rw [q1]; exact eqGuard_plain _ _ _ _ rfl (by simp) _) ?_ (by simp [Rel])
    rw [q1, q2]
    simp [binOp, Op.shift, hn, ishl]
  · rename_i k m k' n e1 e2
    rw [e1] at rx; rw [e2] at ry
    have q1 := rel_int rx
    have q2 := rel_int ry
    simp only [Option.some.injEq, Prod.mk.injEq] at hx
    obtain ⟨rfl, rfl⟩ := hx
    have hn : ¬ n < 0 := by
      intro hn
      exact hb (by simp [ile]; omega)
    refine fin (.int k (ishr k m n)) (by rw [q1]; exact eqGuard_plain _ _ _ _ rfl (by simp) _) ?_ (by simp [Rel])
    rw [q1, q2]
    simp [binOp, Op.shift, hn, ishr]
  · rename_i k m k' n hne1 hne2 e1 e2
    rw [e1] at rx; rw [e2] at ry
    have q1 := rel_int rx
    have q2 := rel_int ry
    split at hx
    · rename_i hk
      subst hk
      obtain ⟨u, h1, h2⟩ := arith_run (P := P) (c := c) hx hb t c.w
      exact fin u (by rw [q1]; exact eqGuard_plain _ _ _ _ rfl (by simp) _) (by rw [q1, q2]; exact h1) h2
    · cases hx
  · rename_i m n e1 e2
    rw [e1] at rx; rw [e2] at ry
    have q1 := rel_bool rx
    have q2 := rel_bool ry
    split at hx
    · rename_i hu
      have hu' : P.underlying t = some .bool := by
        revert hu
        cases P.underlying t with
        | none => simp
        | some d => cases d <;> simp
      cases hx
      refine fin (.bool (beq2 m n)) (by rw [q1]; exact eqGuard_plain _ _ _ _ rfl (by simp) _) ?_ (by simp [Rel])
      rw [q1, q2]
      simp [binOp, Op.equal, Op.maxDepth, run_equalIn_bool' c.w 9999 t m n hu', beq2]
    · cases hx
  · rename_i m n e1 e2
    rw [e1] at rx; rw [e2] at ry
    have q1 := rel_bool rx
    have q2 := rel_bool ry
    split at hx
    · rename_i hu
      have hu' : P.underlying t = some .bool := by
        revert hu
        cases P.underlying t with
        | none => simp
        | some d => cases d <;> simp
      cases hx
      refine fin (.bool (bnot (beq2 m n))) (by rw [q1]; exact eqGuard_plain _ _ _ _ rfl (by simp) _) ?_ (by simp [Rel])
      rw [q1, q2]
      simp [binOp, Op.equal, Op.maxDepth, run_equalIn_bool' c.w 9999 t m n hu', beq2, bnot]
    · cases hx
  · rename_i as bs e1 e2
    rw [e1] at rx; rw [e2] at ry
    simp only [Rel] at rx ry
    obtain ⟨xs, q1, r1⟩ := rx
    obtain ⟨ys, q2, r2⟩ := ry
    split at hx
    · rename_i ks hk
      split at hx
      · rename_i r hr
        cases hx
        obtain ⟨h1, h2⟩ := agg_eq hk r1 r2 hr c.w
        refine fin (.bool r) (by rw [q1, q2]; exact run_eqGuard_agg (P := P) c.w _ t x y xs ys h2) ?_ (by simp [Rel])
        rw [q1, q2, run_eql_struct (P := P) c.w t xs ys, h1]
        rfl
      · cases hx
    · cases hx
  · rename_i as bs e1 e2
    rw [e1] at rx; rw [e2] at ry
    simp only [Rel] at rx ry
    obtain ⟨xs, q1, r1⟩ := rx
    obtain ⟨ys, q2, r2⟩ := ry
    split at hx
    · rename_i ks hk
      split at hx
      · rename_i r hr
        cases hx
        obtain ⟨h1, h2⟩ := agg_eq hk r1 r2 hr c.w
        refine fin (.bool (bnot r)) (by rw [q1, q2]; exact run_eqGuard_agg (P := P) c.w _ t x y xs ys h2) ?_ (by simp [Rel])
        rw [q1, q2, run_neq_struct (P := P) c.w t xs ys, h1]
        rfl
      · cases hx
    · cases hx
  · cases hx

end
end Go.Own
