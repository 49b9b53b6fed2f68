/- Laws of queues: what they are given. -/
import Derived.Test.YtmilniofdpgbnaaFifoRun
namespace Go.Own
open Go Go.Proofs
set_option maxRecDepth 100000
set_option linter.unusedVariables false
set_option linter.unusedSimpArgs false

abbrev Qu := List Int × Int × Int × Int

abbrev Ent := Int × Int × Int × Int × Int

theorem op_24 : OpA Try.prog 24 (fun e : Qu => [.sl e.1.length [.int .i64 e.1], .int .i64 e.2.1, .int .i64 e.2.2.1, .int .i64 e.2.2.2]) (fun e => ((e.1.length ≤ maxLen ∧ ∀ x ∈ e.1, (Lit.int .i64 x).wf = true) ∧ (Lit.int .i64 e.2.1).wf = true ∧ (Lit.int .i64 e.2.2.1).wf = true ∧ (Lit.int .i64 e.2.2.2).wf = true)) := by
  have h := opA_struct (n := 4) Try.underlying24 (by kernel_rfl) (opF_cons (n := 1) rfl (by kernel_rfl) (opA_ints Try.underlying22 Try.underlying3 (by kernel_rfl)) (opF_cons (n := 1) rfl (by kernel_rfl) (opA_int Try.underlying3) (opF_cons (n := 1) rfl (by kernel_rfl) (opA_int Try.underlying3) (opF_last (n := 1) rfl (by kernel_rfl) (opA_int Try.underlying3)))))
  exact h

theorem op_30 : OpA Try.prog 30 (fun e : Ent => [.int .i64 e.1, .int .i64 e.2.1, .int .i64 e.2.2.1, .int .i64 e.2.2.2.1, .int .i64 e.2.2.2.2]) (fun e => True) := by
  have h := opA_struct (n := 5) Try.underlying30 (by kernel_rfl) (opF_cons (n := 1) rfl (by kernel_rfl) (opA_int Try.underlying3) (opF_cons (n := 1) rfl (by kernel_rfl) (opA_int Try.underlying3) (opF_cons (n := 1) rfl (by kernel_rfl) (opA_int Try.underlying3) (opF_cons (n := 1) rfl (by kernel_rfl) (opA_int Try.underlying3) (opF_last (n := 1) rfl (by kernel_rfl) (opA_int Try.underlying3))))))
  intro w H enc base spare held fuel cs x hx
  obtain ⟨a, h1, _⟩ := h w H enc base spare held fuel cs x hx
  exact ⟨a, h1, trivial⟩

theorem op_25 : OpA Try.prog 25 (fun l : List Ent => [.sl l.length [.int .i64 (l.map (·.1)), .int .i64 (l.map (·.2.1)), .int .i64 (l.map (·.2.2.1)), .int .i64 (l.map (·.2.2.2.1)), .int .i64 (l.map (·.2.2.2.2))]]) (fun l => l.length ≤ maxLen) := by
  have h := opA_rows [Fld.int .i64 (fun e : Ent => e.1), Fld.int .i64 (fun e => e.2.1), Fld.int .i64 (fun e => e.2.2.1), Fld.int .i64 (fun e => e.2.2.2.1), Fld.int .i64 (fun e => e.2.2.2.2)] Try.underlying25 (by kernel_rfl) (by simp) op_30
  intro w H enc base spare held fuel cs x hx
  obtain ⟨a, h1, h2⟩ := h w H enc base spare held fuel cs x hx
  exact ⟨a, h1, h2.1⟩

theorem op_3 : OpA Try.prog 3 (fun n : Int => [.int .i64 n]) (fun n => (Lit.int .i64 n).wf = true) := opA_int Try.underlying3

theorem op_5 : OpA Try.prog 5 (fun n : Int => [.int .u8 n]) (fun n => (Lit.int .u8 n).wf = true) := opA_int Try.underlying5

theorem valS_no {l : List Int} {a b c e1 e2 e3 e4 : Int} (h : mayS l a b c e1 e2 e3 e4 = false) : valS l a b c e1 e2 e3 e4 = l ∧ modeS l a b c e1 e2 e3 e4 = c := by
  simp [valS, modeS, h]

theorem send_in {l : List Int} {a b c e1 e2 e3 e4 : Int} (hm : mayS l a b c e1 e2 e3 e4 = true) (hs : 1 ≤ e1 ∧ e1 ≤ 3) (h3 : e3 = 1) : c = 0 ∧ ¬ a ≤ l.length := by
  unfold mayS at hm
  rw [if_neg (by omega), if_neg (by omega), if_neg (by omega), if_pos hs] at hm
  unfold sendB at hm
  rw [if_pos h3] at hm
  simpa using hm

theorem valS_grow {l : List Int} {a b c e1 e2 e3 e4 : Int} (h : l.length < (valS l a b c e1 e2 e3 e4).length) : c = 0 ∧ ¬ a ≤ l.length ∧ (valS l a b c e1 e2 e3 e4).length = l.length + 1 := by
  cases hm : mayS l a b c e1 e2 e3 e4 with
  | false => rw [(valS_no hm).1] at h; omega
  | true =>
    have h1 := evictV_le l e4
    have h3 := recvV_le l e3 e4
    unfold valS at h ⊢
    rw [if_pos hm] at h ⊢
    split at h
    · omega
    · rename_i c9
      rw [if_neg c9]
      split at h
      · rename_i hs
        rw [if_pos hs]
        unfold sendV at h ⊢
        split at h
        · rename_i h3
          rw [if_pos h3]
          have := send_in hm hs h3
          exact ⟨this.1, this.2, by simp⟩
        · omega
      · split at h <;> omega

theorem ens_take : ∀ (m : Nat) (ks vs rs gs : List Int), ens (ks.take m) (vs.take m) (rs.take m) (gs.take m) = (ens ks vs rs gs).take m
  | 0, ks, vs, rs, gs => by simp [ens]
  | m + 1, k :: ks, v :: vs, r :: rs, g :: gs => by simp [ens, ens_take m ks vs rs gs]
  | m + 1, [], _, _, _ => by simp [ens]
  | m + 1, _ :: _, [], _, _ => by simp [ens]
  | m + 1, _ :: _, _ :: _, [], _ => by simp [ens]
  | m + 1, _ :: _, _ :: _, _ :: _, [] => by simp [ens]

theorem ens_tail : ∀ (m : Nat) (ks vs rs gs : List Int), vs.length = ks.length → rs.length = ks.length → gs.length = ks.length → ens (ks.drop m) (vs.drop m) (rs.drop m) (gs.drop m) = (ens ks vs rs gs).drop m
  | 0, ks, vs, rs, gs, _, _, _ => by simp
  | m + 1, k :: ks, v :: vs, r :: rs, g :: gs, h1, h2, h3 => by
    simp only [List.length_cons, Nat.add_right_cancel_iff] at h1 h2 h3
    simp [ens, ens_tail m ks vs rs gs h1 h2 h3]
  | m + 1, [], [], [], [], _, _, _ => by simp [ens]
  | m + 1, [], _ :: _, _, _, h, _, _ => by simp at h
  | m + 1, [], [], _ :: _, _, _, h, _ => by simp at h
  | m + 1, [], [], [], _ :: _, _, _, h => by simp at h
  | m + 1, _ :: _, [], _, _, h, _, _ => by simp at h
  | m + 1, _ :: _, _ :: _, [], _, _, h, _ => by simp at h
  | m + 1, _ :: _, _ :: _, _ :: _, [], _, _, h => by simp at h

theorem run_some {a b : Int} {l : List Int} {c : Int} {e : En} (es : List En) (h : mayS l a b c e.k e.v e.r e.g = true) : run a b l c (e :: es) = ((run a b (valS l a b c e.k e.v e.r e.g) (modeS l a b c e.k e.v e.r e.g) es).1, (run a b (valS l a b c e.k e.v e.r e.g) (modeS l a b c e.k e.v e.r e.g) es).2.1, (run a b (valS l a b c e.k e.v e.r e.g) (modeS l a b c e.k e.v e.r e.g) es).2.2 + 1) := by
  conv => lhs; unfold run
  rw [h, if_pos rfl]

theorem run_none {a b : Int} {l : List Int} {c : Int} {e : En} (es : List En) (h : mayS l a b c e.k e.v e.r e.g = false) : run a b l c (e :: es) = (l, c, 0) := by
  unfold run
  rw [h]
  rfl

theorem run_le (a b : Int) : ∀ (es : List En) (l : List Int) (c : Int), (run a b l c es).2.2 ≤ es.length ∧ (run a b l c es).1.length ≤ l.length + es.length := by
  intro es
  induction es with
  | nil => intro l c; simp [run]
  | cons e es ih =>
    intro l c
    cases h : mayS l a b c e.k e.v e.r e.g with
    | false => rw [run_none es h]; simp
    | true =>
      rw [run_some es h]
      have h1 := ih (valS l a b c e.k e.v e.r e.g) (modeS l a b c e.k e.v e.r e.g)
      have h2 := valS_le l a b c e.k e.v e.r e.g
      simp only [List.length_cons]
      omega

end Go.Own
