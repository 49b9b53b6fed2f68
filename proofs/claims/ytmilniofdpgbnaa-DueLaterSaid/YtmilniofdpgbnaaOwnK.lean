/- The leaf words, told as propositions. -/
import Derived.Test.YtmilniofdpgbnaaOwnQ7
set_option linter.unusedVariables false
set_option linter.unusedSimpArgs false
namespace Go.Own
open Go

section
variable {a b : Int} {m n : Nat} {p q c : Bool}
theorem ieq_t : (ieq a b = true) = (a = b) := by simp [ieq]
theorem ieq_f : (ieq a b = false) = (a ≠ b) := by simp [ieq]
theorem ine_t : (ine a b = true) = (a ≠ b) := by simp [ine]
theorem ine_f : (ine a b = false) = (a = b) := by simp [ine]
theorem ilt_t : (ilt a b = true) = (a < b) := by simp [ilt]
theorem ilt_f : (ilt a b = false) = (b ≤ a) := by simp [ilt]
theorem ile_t : (ile a b = true) = (a ≤ b) := by simp [ile]
theorem ile_f : (ile a b = false) = (b < a) := by simp [ile]
theorem igt_t : (igt a b = true) = (b < a) := by simp [igt]
theorem igt_f : (igt a b = false) = (a ≤ b) := by simp [igt]
theorem ige_t : (ige a b = true) = (b ≤ a) := by simp [ige]
theorem ige_f : (ige a b = false) = (a < b) := by simp [ige]
theorem nlt_t : (nlt m n = true) = (m < n) := by simp [nlt]
theorem nlt_f : (nlt m n = false) = (n ≤ m) := by simp [nlt]
theorem nle_t : (nle m n = true) = (m ≤ n) := by simp [nle]
theorem nle_f : (nle m n = false) = (n < m) := by simp [nle]
theorem neq_t : (neq m n = true) = (m = n) := by simp [neq]
theorem neq_f : (neq m n = false) = (m ≠ n) := by simp [neq]
theorem beq2_t : (beq2 p q = true) = (p = q) := by simp [beq2]
theorem beq2_f : (beq2 p q = false) = (p ≠ q) := by simp [beq2]
theorem bnot_t : (bnot p = true) = (p = false) := by simp [bnot]
theorem bnot_f : (bnot p = false) = (p = true) := by simp [bnot]
theorem band_t : (band p q = true) = (p = true ∧ q = true) := by simp [band]
theorem band_f : (band p q = false) = (p = true → q = false) := by cases p <;> simp [band]
theorem bite_t : (bite c p q = true) = ((c = true → p = true) ∧ (c = false → q = true)) := by cases c <;> simp [bite]
theorem bite_f : (bite c p q = false) = ((c = true → p = false) ∧ (c = false → q = false)) := by cases c <;> simp [bite]
theorem bimp_t : (bimp c p = true) = (c = true → p = true) := by cases c <;> simp [bimp]
theorem bimp_f : (bimp c p = false) = (c = true ∧ p = false) := by cases c <;> simp [bimp]
theorem iadd_e {k : IntKind} : iadd k a b = k.wrap (a + b) := rfl
theorem isub_e {k : IntKind} : isub k a b = k.wrap (a - b) := rfl
theorem imul_e {k : IntKind} : imul k a b = k.wrap (a * b) := rfl
theorem ofN_e : ofN n = (n : Int) := rfl
theorem nOf_e : nOf a = a.toNat := rfl
theorem nOf_n : nOf (n : Int) = n := rfl
theorem nAdd_e : nAdd m n = m + n := rfl
theorem nDiff_e : nDiff a b = (a - b).toNat := rfl
theorem room_e : room = 1073741824 := rfl
theorem lenI_e {l : List Int} : lenI l = l.length := rfl
theorem gI_e {l : List Int} {i : Nat} : gI l i = l[i]?.getD 0 := List.getD_eq_getElem?_getD ..
theorem gB_e {l : List Bool} {i : Nat} : gB l i = l[i]?.getD false := List.getD_eq_getElem?_getD ..
theorem imin_e : imin a b = min a b := by unfold imin; split <;> omega
theorem imax_e : imax a b = max a b := by unfold imax; split <;> omega
theorem cat_e {α : Type} {l k : List α} : cat l k = l ++ k := rfl
theorem pt_e {α : Type} {l : List α} : pt l m n = (l.drop m).take n := rfl
theorem put_e {α : Type} {l : List α} {x : α} : put l m x = l.set m x := rfl
theorem wr (h : -2 ^ 62 ≤ a) (h' : a ≤ 2 ^ 62) : IntKind.i64.wrap a = a := IntWalk.i64_in a (by omega)
theorem some_f : ((some p : Option Bool) ≠ some false) = (p = true) := by cases p <;> simp
end
end Go.Own
