/- What a fabric is told by. -/
import Derived.Test.YtdoapbopldhakaaGreatFabR
namespace Go.Own
open Go Go.Proofs
set_option maxRecDepth 100000
set_option linter.unusedVariables false
set_option linter.unusedSimpArgs false

/-- The values from the i-th on. -/
def SR.qfrom (s : SR) (i : Nat) : List Int := ((List.range (s.tl - s.hd).toNat).drop i).map fun j : Nat => s.sv.getD (placeOf (s.hd + (j : Int)) s.ns).toNat 0

def SR.qv (s : SR) : List Int := if s.ok then s.qfrom 0 else []


theorem SR.ok_word {s : SR} (h : s.ok = true) : 0 ≤ s.hd ∧ s.hd ≤ s.tl ∧ s.tl ≤ 1099511627776 ∧ s.tl - s.hd ≤ s.ns := by
  obtain ⟨_, h1, h2, _⟩ := (SR.ok_iff s).1 h
  rw [← h2] at h1
  simp only [wordOk, decide_eq_true_eq] at h1
  obtain ⟨a1, a2, a3, a4, _⟩ := h1
  unfold wlen at a4
  refine ⟨a3, a1, a2, ?_⟩
  split at a4
  · omega
  · rw [if_neg (by omega)] at a4
    exact a4

theorem SR.qfrom_lt (s : SR) {i : Nat} (h : i < (s.tl - s.hd).toNat) : s.qfrom i = (s.sv.getD (placeOf (s.hd + (i : Int)) s.ns).toNat 0) :: s.qfrom (i + 1) := by
  unfold SR.qfrom
  rw [List.drop_eq_getElem_cons (by simpa using h)]
  simp

theorem SR.qfrom_ge (s : SR) {i : Nat} (h : (s.tl - s.hd).toNat ≤ i) : s.qfrom i = [] := by
  unfold SR.qfrom
  rw [List.drop_eq_nil_of_le (by simpa using h)]
  rfl

def tabQ : List (FuncId × Pure1) := [(86, FposLen)] ++ tabK3

theorem ok_tabQ : ∀ p ∈ tabQ, PureOK Tryz.prog p.1 p.2 := by
  intro p hp
  simp only [tabQ, List.mem_append, List.mem_cons, List.not_mem_nil, or_false] at hp
  rcases hp with (rfl) | hp
  · exact ok_posLen
  · exact ok_tabK3 p hp





end Go.Own
