/- What the laws of dues are given. -/
import Derived.Test.YtmilniofdpgbnaaDueP
namespace Go.Own
open Go Go.Proofs
set_option maxRecDepth 100000
set_option linter.unusedVariables false
set_option linter.unusedSimpArgs false

theorem op_3 : OpA Try.prog 3 (fun n : Int => [.int .i64 n]) (fun n => (Lit.int .i64 n).wf = true) := opA_int Try.underlying3

theorem op_57 : OpA Try.prog 57 (fun n : Int => [.int .u32 n]) (fun n => (Lit.int .u32 n).wf = true) := opA_int Try.underlying57

theorem op_43 : OpA Try.prog 43 (fun e : Int × Int => [.int .i64 e.1, .int .i64 e.2]) (fun e => (Lit.int .i64 e.1).wf = true ∧ (Lit.int .i64 e.2).wf = true) := by
  have h := opA_struct (n := 2) Try.underlying43 (by kernel_rfl) (opF_cons (n := 1) rfl (by kernel_rfl) (opA_int Try.underlying3) (opF_last (n := 1) rfl (by kernel_rfl) (opA_int Try.underlying3)))
  exact h

theorem op_41 : OpA Try.prog 41 (fun l : List (Int × Int) => [.sl l.length [.int .i64 (l.map fun e => e.1), .int .i64 (l.map fun e => e.2)]]) (fun _ => True) := by
  have h := opA_rows [Fld.int .i64 (fun e : Int × Int => e.1), Fld.int .i64 (fun e : Int × Int => e.2)] Try.underlying41 (by kernel_rfl) (by simp) op_43
  intro w H enc base spare held fuel cs x hx
  obtain ⟨a, h1, _⟩ := h w H enc base spare held fuel cs x hx
  exact ⟨a, h1, trivial⟩

/-- Of pairs. -/
theorem as_P {n : Nat} {a d : List Int} (h1 : a.length = n) (h2 : d.length = n) : ∃ P : Prs, a = pa P ∧ d = pi P ∧ n = P.length := ⟨a.zip d, (pa_zip (by omega)).symm, (pi_zip (by omega)).symm, by simp; omega⟩

theorem duEq_P (P Q : Prs) : duEq P.length (pa P) (pi P) Q.length (pa Q) (pi Q) = decide (P = Q) := by
  unfold duEq
  rw [Bool.eq_iff_iff]
  simp only [decide_eq_true_eq]
  constructor
  · rintro ⟨_, h1, h2⟩
    rw [← zip_P P, ← zip_P Q, h1, h2]
  · rintro rfl
    exact ⟨rfl, rfl, rfl⟩

theorem putP_ok {P : Prs} {p : Int × Int} (h : putE2 P p = 0) : putP P p = srt (P ++ [p]) := by
  unfold putP
  rw [if_pos h]

theorem putP_no {P : Prs} {p : Int × Int} (h : ¬ putE2 P p = 0) : putP P p = P := by
  unfold putP
  rw [if_neg h]

theorem putP_le (P : Prs) (p : Int × Int) : (putP P p).length ≤ P.length + 1 := by
  unfold putP
  split
  · rw [(srt_perm _).length_eq]
    simp
  · omega

theorem putE_P (P : Prs) (x y : Int) : putE (pa P) (pi P) x y = putE2 P (x, y) := rfl

theorem big_le {n : Nat} (h : n ≤ 1000) : nle n big = true := by
  rw [nle_t]
  exact le_big (by omega)

theorem duEq_self (P : Prs) : duEq P.length (pa P) (pi P) P.length (pa P) (pi P) = true := by rw [duEq_P]; simp

end Go.Own
