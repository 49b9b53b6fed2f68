/- What one operation does, whatever it is. -/
import Derived.Test.YtmilniofdpgbnaaOwnP1
set_option linter.unusedVariables false
set_option linter.unusedSimpArgs false
namespace Go.Own
open Go

section
variable {P : Program} {w0 : Base} {T : List AV} {H : Heap} {c : Cx} {a : Act} {g : Option (Nat × Bool)} {o : Oper}

theorem arr_two {α : Type} {xs : Array α} {x y : α} (hs : xs.size = 2) (h0 : xs[0]? = some x) (h1 : xs[1]? = some y) : xs = #[x, y] := by
  apply Array.ext'
  cases xs with
  | mk l =>
    rcases l with _ | ⟨p, _ | ⟨q, _ | ⟨r, l⟩⟩⟩ <;> simp_all

theorem arr_one {α : Type} {xs : Array α} {x : α} (hs : xs.size = 1) (h0 : xs[0]? = some x) : xs = #[x] := by
  apply Array.ext'
  cases xs with
  | mk l =>
    rcases l with _ | ⟨p, _ | ⟨q, l⟩⟩ <;> simp_all

theorem sl_val {n : Nat} {cols : List Col} {v : Value} (h : Rel c (.sl n cols) v) : ∃ base cap, v = .slice base n cap := by
  simp only [Rel] at h
  obtain ⟨base, cap, rfl, _⟩ := h
  exact ⟨base, cap, rfl⟩

theorem band_true {x y : Bool} (h : some (band x y) ≠ some false) : x = true ∧ y = true := by
  cases x <;> cases y <;> simp_all [band]

theorem arg_eq {cl : Call} {i : Nat} {v : AV} (h : argOf P T g cl i = v) (hv : v ≠ .top) : ∃ x t, cl.args[i]? = some x ∧ cl.argTypes[i]? = some t ∧ opd P T g t x = v := by
  unfold argOf at h
  split at h
  · rename_i x t h1 h2
    exact ⟨x, t, h1, h2, h⟩
  · exact absurd h.symm hv

theorem argOf_some {cl : Call} {i : Nat} {x : Operand} {t : TypeId} (h1 : cl.args[i]? = some x) (h2 : cl.argTypes[i]? = some t) : argOf P T g cl i = opd P T g t x := by
  unfold argOf
  rw [h1, h2]

theorem of_ne {p : Prop} [Decidable p] (h : some (decide p) ≠ some false) : p := by
  by_cases hp : p
  · exact hp
  · exact absurd (by simp [hp]) h

theorem elem_len {e : TypeId} (h : elemOk P e = true) : P.cellsOf e = (colsOf P 9 e).length := by
  unfold elemOk at h
  simp only [Bool.and_eq_true, decide_eq_true_eq] at h
  exact h.1.1.1.2

theorem builtin_sound (h : At P w0 T H c a.tmps g) {fr : Nat} (hf0 : H.at fr = none) {cl : Call} {b : Builtin} {e : Eff} (ho : o.op = .call cl) (hcl : cl.callee = .builtin b) (he : builtinEff P T H fr g b cl = some e) (hob : e.obl ≠ some false) : Goes P o a w0 (writeAll H e.writes) c e.val := by
  unfold builtinEff at he
  split at he
  · -- len
    rename_i hs
    split at he
    · rename_i n cols e' h1 h2
      cases he
      obtain ⟨x, t, g1, g2, g3⟩ := arg_eq h1 (by simp)
      rw [g2] at h2
      obtain ⟨base, cap, hv⟩ := sl_val (opd_eq h g3)
      exact len_goes h ho hcl (arr_one hs g1) g2 h2 hv
    · rename_i e1 cols e' h1 h2
      cases he
      obtain ⟨x, t, g1, g2, g3⟩ := arg_eq h1 (by simp)
      rw [g2] at h2
      have r := opd_eq h g3
      simp only [Rel] at r
      obtain ⟨_, base, hv⟩ := r
      exact len_goes h ho hcl (arr_one hs g1) g2 h2 hv
    · rename_i id e' h1 h2
      split at he
      · rename_i e2 n cols hid
        cases he
        obtain ⟨x, t, g1, g2, g3⟩ := arg_eq h1 (by simp)
        rw [g2] at h2
        have r := opd_eq h g3
        simp only [Rel] at r
        obtain ⟨p, base, hp, hv, _⟩ := r
        obtain ⟨p', hp', hob'⟩ := h.heap.obj id _ hid
        rw [hp] at hp'
        cases hp'
        rw [hob'.1] at hv
        exact len_goes h ho hcl (arr_one hs g1) g2 h2 hv
      · cases he
    · rename_i id off n e' h1 h2
      cases he
      obtain ⟨x, t, g1, g2, g3⟩ := arg_eq h1 (by simp)
      rw [g2] at h2
      have r := opd_eq h g3
      simp only [Rel] at r
      obtain ⟨p, base, hp, hv, _⟩ := r
      exact len_goes h ho hcl (arr_one hs g1) g2 h2 hv
    · cases he
  · -- min
    rename_i hs
    split at he
    · rename_i k m k' n h1 h2
      cases he
      obtain ⟨x, t, g1, g2, g3⟩ := arg_eq h1 (by simp)
      obtain ⟨y, t2, g4, g5, g6⟩ := arg_eq h2 (by simp)
      exact min_goes h ho hcl (arr_two hs g1 g4) g3 g6
    · cases he
  · -- max
    rename_i hs
    split at he
    · rename_i k m k' n h1 h2
      cases he
      obtain ⟨x, t, g1, g2, g3⟩ := arg_eq h1 (by simp)
      obtain ⟨y, t2, g4, g5, g6⟩ := arg_eq h2 (by simp)
      exact max_goes h ho hcl (arr_two hs g1 g4) g3 g6
    · cases he
  · -- append
    rename_i hs
    split at he
    · rename_i t e2 h1 h2
      cases ht2 : cl.argTypes[1]? with
      | none => rw [ht2] at h2; cases h2
      | some t2 =>
        rw [ht2] at h2
        simp only [Option.bind_some] at h2
        have hx0 : 0 < cl.args.size := by omega
        have hx1 : 1 < cl.args.size := by omega
        have g1 : cl.args[0]? = some cl.args[0] := Array.getElem?_eq_getElem hx0
        have g4 : cl.args[1]? = some cl.args[1] := Array.getElem?_eq_getElem hx1
        rw [argOf_some g1 h1, argOf_some g4 ht2] at he
        have hargs := arr_two hs g1 g4
        unfold appendEff at he
        split at he
        · rename_i e' m ys rd hrt hsl
          split at he
          · rename_i heok
            split at he
            · rename_i e3 cols hx
              split at he
              · rename_i zs hz
                cases he
                simp only [nle] at hob
                exact append_emp h hf0 ho hcl hargs h1 ht2 hrt h2 heok hx rfl hsl hz (of_ne hob)
              · cases he
            · rename_i id hx
              split at he
              · rename_i e4 n cols hid
                split at he
                · rename_i hee
                  obtain ⟨hee, hc⟩ := hee
                  subst hee
                  split at he
                  · rename_i zs hz
                    cases he
                    simp only [nle, nAdd] at hob ⊢
                    exact append_full h hf0 ho hcl hargs h1 ht2 hrt h2 heok hx rfl hsl hid hc hz (of_ne hob)
                  · cases he
                · cases he
              · cases he
            · rename_i id off n hx
              split at he
              · rename_i e4 k cols hid
                split at he
                · rename_i hee
                  obtain ⟨hee, hc⟩ := hee
                  subst hee
                  split at he
                  · rename_i zs hz
                    cases he
                    simp only [nle, nAdd] at hob hz ⊢
                    exact append_osl h ho hcl hargs h1 ht2 hrt h2 heok hx rfl hsl hid hc hz (of_ne hob)
                  · cases he
                · cases he
              · cases he
            · cases he
          · cases he
        · cases he
    · cases he
  · -- copy
    rename_i hs
    split at he
    · rename_i e2 h1
      cases ht : cl.argTypes[0]? with
      | none => rw [ht] at h1; cases h1
      | some t =>
        have hx0 : 0 < cl.args.size := by omega
        have hx1 : 1 < cl.args.size := by omega
        have g1 : cl.args[0]? = some cl.args[0] := Array.getElem?_eq_getElem hx0
        have g4 : cl.args[1]? = some cl.args[1] := Array.getElem?_eq_getElem hx1
        have hargs := arr_two hs g1 g4
        have htd : cl.argTypes.getD 0 0 = t := by rw [Array.getD_eq_getD_getElem?, ht]; rfl
        rw [htd, argOf_some g1 ht] at he
        cases ht2 : cl.argTypes[1]? with
        | none =>
          have hno : argOf P T g cl 1 = .top := by unfold argOf; rw [g4, ht2]
          rw [hno] at he
          simp [copyEff, sliceOf] at he
        | some t2 =>
          rw [argOf_some g4 ht2] at he
          unfold copyEff at he
          split at he
          · rename_i id e' m ys rd hx hrt hsl
            split at he
            · rename_i e4 n cols hid
              split at he
              · rename_i hee
                obtain ⟨hee, heok, hc⟩ := hee
                subst hee
                split at he
                · rename_i zs hz
                  cases he
                  exact copy_goes h ho hcl hargs ht hrt heok hx rfl hsl hid hc hz
                · cases he
              · cases he
            · cases he
          · cases he
    · cases he
  · -- clear
    rename_i hs
    split at he
    · rename_i id off n e' h1 h2
      split at he
      · rename_i e4 k cols hid
        split at he
        · rename_i hee
          obtain ⟨hee, heok⟩ := hee
          subst hee
          split at he
          · rename_i zs hz
            cases he
            obtain ⟨x, t, g1, g2, g3⟩ := arg_eq h1 (by simp)
            rw [g2] at h2
            have hrt : rowType P t = some e' := by
              simp only [Option.bind_some] at h2
              simp [rowType, h2]
            simp only [nle, nAdd] at hob
            exact clear_goes h ho hcl (arr_one hs g1) g2 hrt heok g3 hid hz (of_ne hob)
          · cases he
        · cases he
      · cases he
    · cases he
  · -- delete
    rename_i hs
    split at he
    · rename_i id n h1 h2
      split at he
      · rename_i ks cols one ct hid hmt
        split at he
        · rename_i hfl
          cases he
          obtain ⟨x, t, g1, g2, g3⟩ := arg_eq h1 (by simp)
          obtain ⟨y, t2, k1, k2, k3⟩ := arg_eq h2 (by simp)
          rw [g2] at hmt
          simp only [Option.bind_some] at hmt
          obtain ⟨cols', one'⟩ := ct
          obtain ⟨kt, e', hu, hk, _, _⟩ := mapT_some hmt
          exact delT_goes h ho hcl (arr_two hs g1 k1) g2 hu hk g3 k3 hid (fun col hc => List.all_eq_true.1 hfl col hc)
        · cases he
      · cases he
    · cases he
  · cases he

end
end Go.Own
