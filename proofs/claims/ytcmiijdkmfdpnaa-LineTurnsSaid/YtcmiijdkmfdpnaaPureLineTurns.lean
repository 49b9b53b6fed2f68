/- Who enters ahead of another one stands ahead of it (the plain part). -/
import Derived.Test.YtcmiijdkmfdpnaaLineLib
import Derived.Test.YtcmiijdkmfdpnaaPLx20
import Derived.Test.YtcmiijdkmfdpnaaPLx27
namespace Go.Proofs.Ytcmiijdkmfdpnaa.Pure
open Go.RowKit Go.Proofs.Ytcmiijdkmfdpnaa.PL Go.Proofs.YtcmiijdkmfdpnaaW.PrintWords Go.Proofs.YtcmiijdkmfdpnaaW.PrintLast Go.Proofs.YtcmiijdkmfdpnaaW.PrintMore
set_option linter.unusedSimpArgs false
set_option linter.unusedVariables false
theorem turns_j0 {y : List Int} {a b : Int} {k : Nat} (hl : y.length ≤ 110) (hk : 230 ≤ k) (o : Ok y) (ha : 0 ≤ pos y a) (hab : pos y b = pos y a + 1) : sakialaw05_LineTurns.j0 (k + 1) a b true y false = some true := by
  have h1 := pos_lo y a
  simp only [sakialaw05_LineTurns.j0]
  rw [if_neg (by simp), if_pos trivial, place_yes hl hk o, place_yes hl hk o]
  simp only [Option.bind_some]
  rw [if_pos ha, w64 (by omega) (by omega), hab]
  simp
theorem LineTurns : sakialaw05_LineTurns.Pure := by
  intro l a b g _ _ _ _ _ _
  refine ⟨400, ?_⟩
  unfold sakialaw05_LineTurns.f
  rw [sakialaw05_awake.eq_]
  simp only [Option.bind_some]
  by_cases hl : (l.length : Int) > 100
  · rw [if_pos hl]
  rw [if_neg hl]
  have hl : l.length ≤ 100 := by omega
  have hstop : ∀ y, sakialaw05_LineTurns.j0 400 a b true y true = some true := fun y => by
    simp only [sakialaw05_LineTurns.j0]
    rw [if_pos trivial]
  have hent : ∀ (m : List Int) (x : Int), m.length ≤ 110 → (Ok m ∧ In x ∧ x ∉ m) ∨ ∃ e : Int, line_Enter.f 400 m x = some (m, e) ∧ e ≠ 0 := by
    intro m x hm
    by_cases o : Ok m
    · by_cases i : In x
      · by_cases hx : x ∈ m
        · exact .inr ⟨60, enter_two hm (by omega) o i hx, by omega⟩
        · exact .inl ⟨o, i, hx⟩
      · exact .inr ⟨40, enter_bad hm (by omega) (.inr i), by omega⟩
    · exact .inr ⟨40, enter_bad hm (by omega) (.inl o), by omega⟩
  have hlea : ∀ (m : List Int) (x : Int), m.length ≤ 110 → ∃ n e, line_Leave.f 400 m x = some (n, e) := by
    intro m x hm
    by_cases h : Ok m ∧ x ∈ m
    · exact ⟨_, _, leave_yes hm (by omega) h.1 h.2⟩
    · exact ⟨_, _, leave_no hm (by omega) (by
        by_cases o : Ok m
        · exact .inr (fun hx => h ⟨o, hx⟩)
        · exact .inl o)⟩
  rcases hent l a (by omega) with ⟨o, ia, ha⟩ | ⟨e, he, hne⟩
  · rw [enter_in (by omega) (by omega) o ia ha]
    simp only [Option.bind_some]
    have oa := ok_app o ia ha
    rcases hent (l ++ [a]) b (by simp; omega) with ⟨o2, ib, hb⟩ | ⟨e, he, hne⟩
    · rw [enter_in (by simp; omega) (by omega) oa ib hb]
      simp only [Option.bind_some]
      have ob := ok_app oa ib hb
      have hl2 : (l ++ [a] ++ [b]).length ≤ 110 := by simp; omega
      have hab : a ≠ b := fun e => hb (by simp [e])
      have hpa : pos (l ++ [a] ++ [b]) a = l.length := by rw [pos_app _ _ _ hab, pos_end l a ha]
      have hpb : pos (l ++ [a] ++ [b]) b = l.length + 1 := by rw [pos_end _ _ hb]; simp
      simp only [if_true]
      by_cases hg : g ∈ l ++ [a] ++ [b]
      · rw [leave_yes hl2 (by omega) ob hg]
        simp only [Option.bind_some]
        by_cases ga : g = a
        · rw [if_pos ga]; exact hstop _
        · rw [if_neg ga]
          by_cases gb : g = b
          · rw [beq_iff_eq.2 gb]; exact hstop _
          · rw [beq_eq_false_iff_ne.2 gb]
            have hgl : g ∈ l := by simpa [ga, gb] using hg
            have hpg : pos (l ++ [a] ++ [b]) g = pos l g := by rw [pos_app _ _ _ gb, pos_app _ _ _ ga]
            have bg := pos_lo l g
            have he1 := pos_erase (l ++ [a] ++ [b]) g ob.2 hg a
            have he2 := pos_erase (l ++ [a] ++ [b]) g ob.2 hg b
            rw [if_neg (fun e => ga e.symm), hpa, hpg, if_pos (by omega)] at he1
            rw [if_neg (fun e => gb e.symm), hpb, hpg, if_pos (by omega)] at he2
            have h0 := (pos_mem l g).2 hgl
            refine turns_j0 (k := 399) (Nat.le_trans (List.length_eraseIdx_le _ _) hl2) (by omega) (ok_erase ob _) ?_ ?_
            · rw [hpg, he1]; omega
            · rw [hpg, he1, he2]; omega
      · rw [leave_no hl2 (by omega) (.inr hg)]
        simp only [Option.bind_some]
        rw [if_neg (fun e => hg (by simp [e])), beq_eq_false_iff_ne.2 (fun e => hg (by simp [e]))]
        exact turns_j0 (k := 399) hl2 (by omega) ob (by rw [hpa]; omega) (by rw [hpa, hpb])
    · rw [he]
      simp only [Option.bind_some]
      obtain ⟨n, e2, h2⟩ := hlea (l ++ [a]) g (by simp; omega)
      rw [h2]
      simp only [Option.bind_some]
      rw [if_pos trivial, if_neg hne]
      exact hstop _
  · rw [he]
    simp only [Option.bind_some]
    have h3 : ∃ m f, line_Enter.f 400 l b = some (m, f) ∧ m.length ≤ 110 := by
      rcases hent l b (by omega) with ⟨o, ib, hb⟩ | ⟨f, hf, _⟩
      · exact ⟨_, _, enter_in (by omega) (by omega) o ib hb, by simp; omega⟩
      · exact ⟨_, _, hf, by omega⟩
    obtain ⟨m, f, h3, h4⟩ := h3
    obtain ⟨n, e2, h2⟩ := hlea m g h4
    rw [h3]
    simp only [Option.bind_some]
    rw [h2]
    simp only [Option.bind_some]
    rw [if_neg hne]
    exact hstop _
end Go.Proofs.Ytcmiijdkmfdpnaa.Pure
