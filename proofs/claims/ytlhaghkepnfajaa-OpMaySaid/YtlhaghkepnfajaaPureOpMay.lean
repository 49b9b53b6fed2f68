/- A thread that may do one thing may do each, but for what is received of one that is Single (the plain part). -/
import Derived.Test.YtlhaghkepnfajaaOpRef
import Derived.Test.YtlhaghkepnfajaaPLx9
namespace Go.Proofs.Ytlhaghkepnfajaa.Pure
open Go.RowKit Go.Proofs.Ytlhaghkepnfajaa.PL Go.Proofs.YtlhaghkepnfajaaW.PrintWords Go.Proofs.YtlhaghkepnfajaaW.PrintLast Go.Proofs.YtlhaghkepnfajaaW.PrintMore
set_option linter.unusedSimpArgs false
set_option linter.unusedVariables false
theorem mayv_out {th : Int} {one : Bool} {id kind : Int} (h : id < 0 ∨ id ≥ th) : mayv th one id kind = 123 := if_pos h
theorem mayv_in {th : Int} {one : Bool} {id kind : Int} (h : ¬ (id < 0 ∨ id ≥ th)) (hk : 1 ≤ kind ∧ kind ≤ 8) : mayv th one id kind = if one = true ∧ 4 ≤ kind ∧ kind ≤ 6 ∧ id > 0 then 123 else 0 := (if_neg h).trans (if_pos hk)
theorem mayv_no {th : Int} {one : Bool} {id kind : Int} (h : ¬ (id < 0 ∨ id ≥ th)) (hk : ¬ (1 ≤ kind ∧ kind ≤ 8)) : mayv th one id kind = 190 := (if_neg h).trans (if_neg hk)
theorem mayv_0 {th : Int} {one : Bool} {id kind : Int} (h : mayv th one id kind = 0) : ¬ (id < 0 ∨ id ≥ th) ∧ (1 ≤ kind ∧ kind ≤ 8) := by
  by_cases h1 : id < 0 ∨ id ≥ th
  · rw [mayv_out h1] at h; cases h
  by_cases h2 : 1 ≤ kind ∧ kind ≤ 8
  · exact ⟨h1, h2⟩
  · rw [mayv_no h1 h2] at h; cases h
theorem free_ok {th : Int} {one : Bool} {id a b : Int} (h : mayv th one id a = 0) (hb : 1 ≤ b ∧ b ≤ 8) (free : Bool) (hf : free = decide (one = false ∨ id = 0 ∨ ¬ (4 ≤ b ∧ b ≤ 6))) : ((mayv th one id b == 0) == free) = true := by
  obtain ⟨h1, _⟩ := mayv_0 h
  rw [mayv_in h1 hb, hf]
  by_cases c : one = true ∧ 4 ≤ b ∧ b ≤ 6 ∧ id > 0
  · rw [if_pos c, decide_eq_false (by rw [c.1]; simp; omega)]; rfl
  · rw [if_neg c, decide_eq_true ?_]; · rfl
    cases one
    · exact .inl rfl
    · by_cases i : id = 0
      · exact .inr (.inl i)
      · exact .inr (.inr (fun x => c ⟨rfl, x.1, x.2, by omega⟩))
theorem OpMay : sakialaw11_OpMay.Pure := by
  intro b0 b1 b2 b3 b4 b5 one id a b _ _ _ _
  refine ⟨4, ?_⟩
  unfold sakialaw11_OpMay.f
  rw [upOp 0, may_eq 1, may_eq 1]
  simp only [Option.bind_some, opcheck_eq, side_eq, if_true]
  by_cases h0 : id ≥ 0
  · rw [if_pos h0]
    have fin : ∀ free : Bool, free = decide (one = false ∨ id = 0 ∨ ¬ (4 ≤ b ∧ b ≤ 6)) → (if mayv b1 one id a = 0 then (if id < b1 then (if decide (1 ≤ a ∧ a ≤ 8) = true then (if decide (1 ≤ b ∧ b ≤ 8) = true then some ((mayv b1 one id b == 0) == free) else some true) else some false) else some false) else (if id < b1 then some true else (if mayv b1 one id a = 123 then some true else some false))) = some true := by
      intro free hf
      by_cases hx : mayv b1 one id a = 0
      · obtain ⟨h1, h2⟩ := mayv_0 hx
        rw [if_pos hx, if_pos (by omega), if_pos (decide_eq_true h2)]
        by_cases hb : 1 ≤ b ∧ b ≤ 8
        · rw [if_pos (decide_eq_true hb), free_ok hx hb free hf]
        · rw [if_neg (by simpa using hb)]
      · rw [if_neg hx]
        by_cases h1 : id < b1
        · rw [if_pos h1]
        · rw [if_neg h1, if_pos (mayv_out (by omega))]
    by_cases ho : one = true
    · rw [if_pos ho]
      by_cases hi : id = 0
      · rw [if_pos hi]
        exact fin true (decide_eq_true (.inr (.inl hi))).symm
      · rw [if_neg hi]
        refine fin (sidev b != 2) ?_
        show (!(sidev b == 2)) = _
        rw [sidev_2, ← decide_not]
        refine decide_eq_decide.2 ⟨fun h => .inr (.inr h), fun h => ?_⟩
        rcases h with h | h | h
        · rw [ho] at h; cases h
        · exact absurd h hi
        · exact h
    · rw [if_neg ho]
      exact fin true (decide_eq_true (.inl (by simpa using ho))).symm
  · rw [if_neg h0]
    have e : mayv b1 one id a = 123 := mayv_out (by omega)
    rw [e]
    by_cases ho : one = true
    · rw [if_pos ho]
      by_cases hi : id = 0
      · rw [if_pos hi, if_neg (show ¬ (123 : Int) = 0 by decide), if_pos (rfl : (123 : Int) = 123)]
      · rw [if_neg hi, if_neg (show ¬ (123 : Int) = 0 by decide), if_pos (rfl : (123 : Int) = 123)]
    · rw [if_neg ho, if_neg (show ¬ (123 : Int) = 0 by decide), if_pos (rfl : (123 : Int) = 123)]
end Go.Proofs.Ytlhaghkepnfajaa.Pure
