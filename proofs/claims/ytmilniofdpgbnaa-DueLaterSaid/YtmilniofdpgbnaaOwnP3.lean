/- What one operation does, whatever it is: all of them. -/
import Derived.Test.YtmilniofdpgbnaaOwnP2
set_option linter.unusedVariables false
set_option linter.unusedSimpArgs false
namespace Go.Own
open Go

section
variable {P : Program} {w0 : Base} {T : List AV} {H : Heap} {c : Cx} {a : Act} {g : Option (Nat × Bool)} {o : Oper}

theorem ne_false {x : Bool} (h : x = true) : some x ≠ some false := by simp [h]

theorem ile_true {x y : Int} (h : ile x y = true) : x ≤ y := of_decide_eq_true h

theorem ilt_true {x y : Int} (h : ilt x y = true) : x < y := of_decide_eq_true h

theorem sliceEff_sound (h : At P w0 T H c a.tmps g) {t : TypeId} {x : Operand} {lo hi mx : Option Operand} {e : Eff} (ho : o.op = .slice t x lo hi mx) (he : sliceEff P T g H t (opd P T g t x) lo hi mx = some e) (hob : e.obl ≠ some false) : Goes P o a w0 (writeAll H e.writes) c e.val := by
  unfold sliceEff at he
  split at he
  · cases he
  · rename_i e1 hrt
    split at he
    · rename_i n cols hx
      split at he
      · rename_i hs
        split at he
        · rename_i l hh hl hhi
          cases he
          obtain ⟨b1, b2⟩ := band_true hob
          obtain ⟨b2, b3⟩ := band_true (ne_false b2)
          exact slice_sl h ho hrt hs hx hl hhi (ile_true b1) (ile_true b2) (ile_true b3)
        · cases he
      · cases he
    · rename_i e' cols hx
      split at he
      · rename_i n l hh hs hl hhi
        cases he
        obtain ⟨b1, b2⟩ := band_true hob
        have b1 : l = 0 := by simpa [ieq] using b1
        have b2 : hh = 0 := by simpa [ieq] using b2
        subst b1 b2
        exact slice_emp h ho hrt hs hx hl hhi
      · cases he
    · rename_i id hx
      split at he
      · rename_i e2 k cols hid
        split at he
        · rename_i hs
          split at he
          · rename_i hh hhi
            split at he
            · cases he
              obtain ⟨b1, b2⟩ := band_true hob
              have r1 := ile_true b1
              have r2 := ile_true b2
              have := slice_full (lo := none) (l := 0) h ho hrt hs hx hid rfl hhi (Int.le_refl 0) r1 r2
              have e1 : nOf 0 = 0 := rfl
              have e2 : nDiff hh 0 = nOf hh := by simp [nDiff, nOf]
              rw [e1, e2] at this
              exact this
            · rename_i l0
              split at he
              · rename_i l hl
                cases he
                obtain ⟨b1, b2⟩ := band_true hob
                obtain ⟨b2, b3⟩ := band_true (ne_false b2)
                exact slice_full h ho hrt hs hx hid hl hhi (ile_true b1) (ile_true b2) (ile_true b3)
              · cases he
          · rename_i hh m0 hhi
            split at he
            · rename_i l m y hl hm
              cases he
              obtain ⟨b1, b2⟩ := band_true hob
              obtain ⟨b2, b3⟩ := band_true (ne_false b2)
              obtain ⟨b3, b4⟩ := band_true (ne_false b3)
              have r := opd_eq h hx
              simp only [Rel] at r
              obtain ⟨p, base, hp, hv, _⟩ := r
              obtain ⟨p', hp', hob'⟩ := h.heap.obj id _ hid
              rw [hp] at hp'
              cases hp'
              have hk := hob'.1
              have hcap := hob'.2.2.1
              rw [hk] at hv
              have b4' : m ≤ (k : Int) := ile_true b4
              exact slice_max h ho hrt hs hv hl hhi hm (ile_true b1) (ile_true b2) (ile_true b3) (by omega)
            · cases he
          · cases he
        · cases he
      · cases he
    · rename_i id off n hx
      split at he
      · rename_i e2 k cols hid
        split at he
        · rename_i hs
          split at he
          · rename_i l hh hl hhi
            cases he
            obtain ⟨b1, b2⟩ := band_true hob
            obtain ⟨b2, b3⟩ := band_true (ne_false b2)
            exact slice_osl h ho hrt hs hx hid hl hhi (ile_true b1) (ile_true b2) (of_decide_eq_true (show decide (off + hh.toNat ≤ k) = true from b3))
          · cases he
        · cases he
      · cases he
    · cases he

theorem rel_bite {b x y : Bool} {u1 u2 : Value} (h1 : b = true → Rel c (.bool x) u1) (h2 : b = false → Rel c (.bool y) u2) : Rel c (.bool (bite b x y)) (if b then u1 else u2) := by
  cases b
  · simpa [bite] using h2 rfl
  · simpa [bite] using h1 rfl

theorem rel_iite {b : Bool} {k : IntKind} {x y : Int} {u1 u2 : Value} (h1 : b = true → Rel c (.int k x) u1) (h2 : b = false → Rel c (.int k y) u2) : Rel c (.int k (iite b x y)) (if b then u1 else u2) := by
  cases b
  · simpa [iite] using h2 rfl
  · simpa [iite] using h1 rfl

theorem isIntMap_some {t : TypeId} (h : isIntMap P t = true) : ∃ kt e k, P.underlying t = some (.map kt e) ∧ P.underlying kt = some (.int k) := by
  unfold isIntMap at h
  split at h
  · rename_i kt e hu
    split at h
    · rename_i k hk
      exact ⟨kt, e, k, hu, hk⟩
    · cases h
  · cases h

theorem allNe_any {n : Int} : ∀ {es : List (Int × AV)}, allNe n es = true → (es.any fun e => e.1 == n) = false
  | [], _ => rfl
  | (k, x) :: es, h => by
    simp only [allNe, band, Bool.and_eq_true] at h
    have h1 : (k == n) = false := by simpa [ine] using h.1
    simp only [List.any_cons, h1, allNe_any h.2, Bool.or_self]

theorem opEff_sound {S : FuncId → Option Summ} (hS : ∀ k s, S k = some s → SummOK P k s) (h : At P w0 T H c a.tmps g) {fr : Nat} (hf0 : H.at fr = none) (hfr : sizeOp o = 128 → Fresh H fr) {e : Eff} (he : opEff P S T H fr g o = some e) (hob : e.obl ≠ some false) : OpGoes P o a w0 (writeAll H e.writes) c e.val := by
  cases hop : o.op with
  | move x =>
    simp only [opEff, hop] at he
    split at he
    · cases he
    · cases he
      exact .of (move_goes h (.inl hop) rfl)
  | assign x =>
    simp only [opEff, hop] at he
    split at he
    · cases he
    · cases he
      exact .of (move_goes h (.inr hop) rfl)
  | pick cx x y =>
    cases cx with
    | tmp j =>
      simp only [opEff, hop] at he
      split at he
      · rename_i b p q hb hp hq
        cases he
        exact .of (pick_goes h hop hb (by rw [hp, hq]; exact fun u1 u2 h1 h2 => rel_bite h1 h2))
      · rename_i b k p k' q hb hp hq
        split at he
        · rename_i hk
          subst hk
          cases he
          exact .of (pick_goes h hop hb (by rw [hp, hq]; exact fun u1 u2 h1 h2 => rel_iite h1 h2))
        · cases he
      · rename_i q hb hp
        cases he
        have hbf : q = false := by simpa [bnot] using hob
        subst hbf
        exact .of (pick_goes h hop hb (fun u1 u2 h1 h2 => by simpa using h2 rfl))
      · rename_i q hb hp _
        cases he
        have hbf : q = true := by simpa using hob
        subst hbf
        exact .of (pick_goes h hop hb (fun u1 u2 h1 h2 => by simpa using h1 rfl))
      · cases he
    | const v => simp [opEff, hop] at he
    | global v => simp [opEff, hop] at he
    | func v => simp [opEff, hop] at he
  | alloc t =>
    simp only [opEff, hop] at he
    split at he
    · rename_i cs hcs
      cases he
      exact .of (alloc_goes h hf0 hop hcs)
    · cases he
  | box t x =>
    simp only [opEff, hop] at he
    split at he
    · rename_i cs hcs
      cases he
      exact .of (box_goes h hf0 hop hcs)
    · cases he
  | build t ps =>
    simp only [opEff, hop] at he
    split at he
    · rename_i z pl hz hpl
      split at he
      · rename_i cs hcs
        cases he
        exact .of (build_goes h hop hz hpl hcs)
      · cases he
    · cases he
  | buildSlice t n ps =>
    simp only [opEff, hop] at he
    split at he
    · rename_i e' cs hrt hps
      split at he
      · rename_i hc
        obtain ⟨c1, c2, c3, c4⟩ := hc
        split at he
        · rename_i cols hrow
          cases he
          exact .of (buildSlice_goes h hf0 hop hrt hps c1 c2 c3 hrow (fun x hx => by simpa using List.all_eq_true.1 c4 x hx))
        · cases he
      · cases he
    · cases he
  | load t x =>
    simp only [opEff, hop] at he
    split at he
    · rename_i n hs
      split at he
      · rename_i b cs rd hcs
        split at he
        · rename_i v hw
          cases he
          exact .of (load_goes h hop hs hob hcs hw)
        · cases he
      · cases he
    · cases he
  | store t x y =>
    simp only [opEff, hop] at he
    split at he
    · rename_i id idx off vs hx hy
      split at he
      · rename_i hs
        split at he
        · rename_i cs hid
          split at he
          · rename_i hc
            obtain ⟨hi, hl⟩ := hc
            subst hi
            cases he
            exact .of (store_var h hop hx hy hs hid hl)
          · cases he
        · rename_i e' k cols hid
          split at he
          · rename_i ws hz
            split at he
            · rename_i hl
              cases he
              exact .of (store_row h hop hx hy hs hid hz hl (of_ne hob))
            · cases he
          · cases he
        · cases he
      · cases he
    · cases he
  | nilCheck x =>
    simp only [opEff, hop] at he
    split at he
    · rename_i id idx off hx
      cases he
      exact .of (nilCheck_goes h hop hx (.inl ⟨_, _, _, rfl⟩))
    · rename_i cs hx
      cases he
      exact .of (nilCheck_goes h hop hx (.inr (.inl ⟨_, rfl⟩)))
    · rename_i f xs ys hx
      split at he
      · cases he
        exact .of (nilCheck_goes h hop hx (.inr (.inr ⟨_, _, _, rfl⟩)))
      · cases he
    · cases he
  | binOp op t x y yt =>
    simp only [opEff, hop] at he
    split at he
    · rename_i b v hb
      cases he
      exact .of (binop_goes h hop hob hb)
    · cases he
  | unOp op t x =>
    cases op with
    | not =>
      simp only [opEff, hop] at he
      split at he
      · rename_i b hb
        cases he
        exact .of (not_goes h hop hb)
      · cases he
    | neg =>
      simp only [opEff, hop] at he
      split at he
      · rename_i k n hb
        cases he
        exact .of (neg_goes h hop hb)
      · cases he
    | xor => simp [opEff, hop] at he
    | plus => simp [opEff, hop] at he
  | convert s d x =>
    simp only [opEff, hop] at he
    split at he
    · rename_i k2 k k' n h1 h2 h3
      cases he
      exact .of (convert_goes h hop h1 h2 h3)
    · cases he
  | makeInterface t x =>
    simp only [opEff, hop] at he
    split at he
    · cases he
    · rename_i d hd hni
      split at he
      · cases he
      · cases he
      · cases he
        exact .of (iface_goes h hop hni (fun ms hm => by subst hm; exact hd _ rfl) rfl)
    · cases he
  | makeFunc f xs ys =>
    cases f with
    | func k =>
      simp only [opEff, hop] at he
      cases he
      exact .of (makeFunc_goes h hop)
    | method _ => simp [opEff, hop] at he
    | methodOf _ _ => simp [opEff, hop] at he
    | via _ _ _ _ => simp [opEff, hop] at he
    | yield _ => simp [opEff, hop] at he
  | makeSlice t x y =>
    simp only [opEff, hop] at he
    split at he
    · rename_i e' k n k' m hrt hx hy
      split at he
      · rename_i hel
        cases he
        obtain ⟨b1, b4⟩ := band_true hob
        obtain ⟨b2, b3⟩ := band_true (ne_false b4)
        have hnm : n = m := by simpa [ieq] using b3
        subst hnm
        exact .of (make_goes h hf0 hop hrt hel hx hy (ile_true b1) (ile_true b2))
      · cases he
    · cases he
  | slice t x lo hi mx =>
    simp only [opEff, hop] at he
    exact .of (sliceEff_sound h hop he hob)
  | fieldAddr s x f =>
    simp only [opEff, hop] at he
    split at he
    · rename_i q1 q2 id idx off hf hx
      cases he
      exact .of (fieldAddr_ptr h hop hf hx)
    · rename_i q1 q2 cs hf hx
      cases he
      exact .of (fieldAddr_ip h hop hf hx)
    · cases he
  | field s x f =>
    simp only [opEff, hop] at he
    split at he
    · rename_i off t cs hf hx
      split at he
      · rename_i n hs
        split at he
        · cases he
        · rename_i hl
          split at he
          · rename_i v hw
            cases he
            exact .of (field_goes h hop hf hs hx (by omega) hw)
          · cases he
      · cases he
    · cases he
  | indexAddr t x y =>
    simp only [opEff, hop] at he
    split at he
    · rename_i e' n cols k i hrt hx hy
      split at he
      · rename_i hs
        cases he
        obtain ⟨b1, b2⟩ := band_true hob
        exact .of (index_sl h hop hrt hs hx hy (ile_true b1) (by simpa [ofN] using ilt_true b2))
      · cases he
    · rename_i e' id k i hrt hx hy
      split at he
      · rename_i e2 n cols hid
        split at he
        · rename_i hs
          cases he
          obtain ⟨b1, b2⟩ := band_true hob
          exact .of (index_full h hop hrt hs hid hx hy (ile_true b1) (by simpa [ofN] using ilt_true b2))
        · cases he
      · cases he
    · rename_i e' id off n k i hrt hx hy
      split at he
      · rename_i e2 m cols hid
        split at he
        · rename_i hs
          cases he
          obtain ⟨b1, b2⟩ := band_true hob
          exact .of (index_osl h hop hrt hs hid hx hy (ile_true b1) (by simpa [ofN] using ilt_true b2))
        · cases he
      · cases he
    · cases he
      exact absurd rfl hob
    · cases he
  | extract x i =>
    simp only [opEff, hop] at he
    split at he
    · rename_i vs hx
      split at he
      · cases he
      · rename_i v hv hi
        cases he
        exact .of (extract_goes h hop hx hi)
      · cases he
    · cases he
  | typeAssert x xt t ok =>
    cases ok with
    | false =>
      simp only [opEff, hop] at he
      split at he
      · cases he
      · rename_i d t' v hni hd hx
        split at he
        · rename_i ht
          subst ht
          cases he
          exact .of (typeAssert_goes h hop hd (fun ms hm => by subst hm; exact hni _ rfl) hx)
        · cases he
      · cases he
    | true => simp [opEff, hop] at he
  | makeMap t r =>
    cases r with
    | none =>
      simp only [opEff, hop] at he
      split at he
      · rename_i cols one hmt
        cases he
        exact .of (makeT_goes h hf0 hop hmt)
      · cases he
        exact .of (makeMap_goes h hf0 hop)
    | some r => simp [opEff, hop] at he
  | insert t m x y =>
    simp only [opEff, hop] at he
    split at he
    · cases he
    · rename_i him
      obtain ⟨kt, et, k, h1, h2⟩ := isIntMap_some (by simpa using him)
      split at he
      · rename_i id n hm hx
        split at he
        · rename_i ks cols one hid
          split at he
          · rename_i zs hz
            cases he
            exact .of (putT_goes h (.inl hop) h1 h2 hm hx rfl hid hz)
          · cases he
        · rename_i es f p q hid hy
          cases he
          exact .of (put_goes h (.inl hop) h1 h2 hm hx hy hid (allNe_any (by simpa using hob)))
        · rename_i es cs hid hy
          cases he
          exact .of (put_goes h (.inl hop) h1 h2 hm hx hy hid (allNe_any (by simpa using hob)))
        · cases he
      · cases he
  | mapUpdate t m x y =>
    simp only [opEff, hop] at he
    split at he
    · cases he
    · rename_i him
      obtain ⟨kt, et, k, h1, h2⟩ := isIntMap_some (by simpa using him)
      split at he
      · rename_i id n hm hx
        split at he
        · rename_i ks cols one hid
          split at he
          · rename_i zs hz
            cases he
            exact .of (putT_goes h (.inr hop) h1 h2 hm hx rfl hid hz)
          · cases he
        · rename_i es f p q hid hy
          cases he
          exact .of (put_goes h (.inr hop) h1 h2 hm hx hy hid (allNe_any (by simpa using hob)))
        · rename_i es cs hid hy
          cases he
          exact .of (put_goes h (.inr hop) h1 h2 hm hx hy hid (allNe_any (by simpa using hob)))
        · cases he
      · cases he
  | call cl =>
    simp only [opEff, hop] at he
    split at he
    · rename_i b hb
      exact .of (builtin_sound h hf0 hop hb he hob)
    · rename_i hnb
      have hsz : sizeOp o = 128 := by
        unfold sizeOp
        rw [hop]
        simp only
        try simp only
        try (split <;> first | rfl | exact absurd ‹_› (hnb _))
      split at he
      · rename_i k args hk
        split at he
        · rename_i s hs
          obtain ⟨h1, h2⟩ := hS k s hs
          obtain ⟨vs, h3, h4⟩ := run_call h hop hk h1
          exact .call h3 (h2 w0 H c args vs fr e h.heap h4 (hfr hsz) he hob)
        · cases he
      · cases he
  | ready _ => simp [opEff, hop] at he
  | waits _ => simp [opEff, hop] at he
  | sliceToArrayPointer _ _ => simp [opEff, hop] at he
  | makeChan _ _ => simp [opEff, hop] at he
  | index _ _ _ => simp [opEff, hop] at he
  | lookup t m k ok =>
    simp only [opEff, hop] at he
    split at he
    · rename_i id n hm hx
      split at he
      · rename_i ks cols one hid
        split at he
        · rename_i hz
          simp only [Bool.and_eq_true] at hz
          obtain ⟨ct, hct⟩ := Option.isSome_iff_exists.1 hz.1.2
          obtain ⟨cols', one'⟩ := ct
          obtain ⟨kt, et, hu, hk, _, _⟩ := mapT_some hct
          cases he
          exact .of (lookupT_goes h hop hu hk hm hx hid hz.1.1 (fun col hc => List.all_eq_true.1 hz.2 col hc))
        · cases he
      · cases he
    · cases he
  | mapEntry _ _ _ => simp [opEff, hop] at he
  | entryStore _ _ _ _ => simp [opEff, hop] at he
  | range t x =>
    simp only [opEff, hop] at he
    split at he
    · rename_i kt et ks cols one hu hx
      cases he
      exact .of (rangeT_goes h hf0 hop hu hx)
    · cases he
  | next _ _ => simp [opEff, hop] at he
  | entry x =>
    simp only [opEff, hop] at he
    split at he
    · rename_i id hx
      split at he
      · rename_i ks cols one left i hid
        cases he
        exact .of (entryT_goes h hop hx hid)
      · cases he
    · cases he
  | go _ => simp [opEff, hop] at he
  | defer _ => simp [opEff, hop] at he
  | panic _ => simp [opEff, hop] at he
  | send _ _ => simp [opEff, hop] at he
  | recv _ _ _ => simp [opEff, hop] at he
  | select _ _ => simp [opEff, hop] at he

end
end Go.Own
