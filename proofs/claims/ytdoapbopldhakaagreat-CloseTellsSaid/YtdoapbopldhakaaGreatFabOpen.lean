/- What the laws of the fabric are given. -/
import Derived.Test.YtdoapbopldhakaaGreatFabQ
namespace Go.Own
open Go Go.Proofs
set_option maxRecDepth 100000
set_option linter.unusedVariables false
set_option linter.unusedSimpArgs false

theorem op_3 : OpA Tryz.prog 3 (fun n : Int => [.int .i64 n]) (fun n => (Lit.int .i64 n).wf = true) := opA_int Tryz.underlying3

theorem op_4 : OpA Tryz.prog 4 (fun n : Bool => [.bool n]) (fun _ => True) := opA_bool Tryz.underlying4

theorem op_23 : OpA Tryz.prog 23 (fun e : Int × Int × Int × Int × Int × Int × Bool => [.int .i64 e.1, .int .i64 e.2.1, .int .i64 e.2.2.1, .int .i64 e.2.2.2.1, .int .i64 e.2.2.2.2.1, .int .i64 e.2.2.2.2.2.1, .bool e.2.2.2.2.2.2]) (fun _ => True) := by
  have h := opA_struct (n := 7) Tryz.underlying23 (by kernel_rfl) (opF_cons (n := 1) rfl (by kernel_rfl) (opA_int Tryz.underlying3) (opF_cons (n := 1) rfl (by kernel_rfl) (opA_int Tryz.underlying3) (opF_cons (n := 1) rfl (by kernel_rfl) (opA_int Tryz.underlying3) (opF_cons (n := 1) rfl (by kernel_rfl) (opA_int Tryz.underlying3) (opF_cons (n := 1) rfl (by kernel_rfl) (opA_int Tryz.underlying3) (opF_cons (n := 1) rfl (by kernel_rfl) (opA_int Tryz.underlying3) (opF_last (n := 1) rfl (by kernel_rfl) (opA_bool Tryz.underlying4))))))))
  intro w H enc base spare held fuel cs x hx
  obtain ⟨a, h1, _⟩ := h w H enc base spare held fuel cs x hx
  exact ⟨a, h1, trivial⟩

theorem op_25 : OpA Tryz.prog 25 (fun e : Int × Int × Int => [.int .i64 e.1, .int .i64 e.2.1, .int .i64 e.2.2]) (fun e => (Lit.int .i64 e.1).wf = true ∧ (Lit.int .i64 e.2.1).wf = true ∧ (Lit.int .i64 e.2.2).wf = true) := by
  have h := opA_struct (n := 3) Tryz.underlying25 (by kernel_rfl) (opF_cons (n := 1) rfl (by kernel_rfl) (opA_int Tryz.underlying3) (opF_cons (n := 1) rfl (by kernel_rfl) (opA_int Tryz.underlying3) (opF_last (n := 1) rfl (by kernel_rfl) (opA_int Tryz.underlying3))))
  exact h

theorem op_87 : OpA Tryz.prog 87 (fun e : Int × Int => [.int .i64 e.1, .int .i64 e.2]) (fun _ => True) := by
  have h := opA_struct (n := 2) Tryz.underlying87 (by kernel_rfl) (opF_cons (n := 1) rfl (by kernel_rfl) (opA_int Tryz.underlying3) (opF_last (n := 1) rfl (by kernel_rfl) (opA_int Tryz.underlying3)))
  intro w H enc base spare held fuel cs x hx
  obtain ⟨a, h1, _⟩ := h w H enc base spare held fuel cs x hx
  exact ⟨a, h1, trivial⟩

theorem op_49 : OpA Tryz.prog 49 (fun e : Int × Int × Int × Int × Int × Int × Int × Int × Bool × Int × Int => [.int .i64 e.1, .int .i64 e.2.1, .int .i64 e.2.2.1, .int .i64 e.2.2.2.1, .int .i64 e.2.2.2.2.1, .int .i64 e.2.2.2.2.2.1, .int .i64 e.2.2.2.2.2.2.1, .int .i64 e.2.2.2.2.2.2.2.1, .bool e.2.2.2.2.2.2.2.2.1, .int .i64 e.2.2.2.2.2.2.2.2.2.1, .int .i64 e.2.2.2.2.2.2.2.2.2.2]) (fun _ => True) := by
  have h := opA_struct (n := 11) Tryz.underlying49 (by kernel_rfl) (opF_cons (n := 1) rfl (by kernel_rfl) (opA_int Tryz.underlying3) (opF_cons (n := 1) rfl (by kernel_rfl) (opA_int Tryz.underlying3) (opF_cons (n := 1) rfl (by kernel_rfl) (opA_int Tryz.underlying3) (opF_cons (n := 1) rfl (by kernel_rfl) (opA_int Tryz.underlying3) (opF_cons (n := 1) rfl (by kernel_rfl) (opA_int Tryz.underlying3) (opF_cons (n := 1) rfl (by kernel_rfl) (opA_int Tryz.underlying3) (opF_cons (n := 1) rfl (by kernel_rfl) (opA_int Tryz.underlying3) (opF_cons (n := 1) rfl (by kernel_rfl) (opA_int Tryz.underlying3) (opF_cons (n := 1) rfl (by kernel_rfl) (opA_bool Tryz.underlying4) (opF_cons (n := 1) rfl (by kernel_rfl) (opA_int Tryz.underlying3) (opF_last (n := 1) rfl (by kernel_rfl) (opA_int Tryz.underlying3))))))))))))
  intro w H enc base spare held fuel cs x hx
  obtain ⟨a, h1, _⟩ := h w H enc base spare held fuel cs x hx
  exact ⟨a, h1, trivial⟩

theorem op_51 : OpA Tryz.prog 51 (fun e : Int × Int × Int × Int × Int => [.int .i64 e.1, .int .i64 e.2.1, .int .i64 e.2.2.1, .int .i64 e.2.2.2.1, .int .i64 e.2.2.2.2]) (fun _ => True) := by
  have h := opA_struct (n := 5) Tryz.underlying51 (by kernel_rfl) (opF_cons (n := 1) rfl (by kernel_rfl) (opA_int Tryz.underlying3) (opF_cons (n := 1) rfl (by kernel_rfl) (opA_int Tryz.underlying3) (opF_cons (n := 1) rfl (by kernel_rfl) (opA_int Tryz.underlying3) (opF_cons (n := 1) rfl (by kernel_rfl) (opA_int Tryz.underlying3) (opF_last (n := 1) rfl (by kernel_rfl) (opA_int Tryz.underlying3))))))
  intro w H enc base spare held fuel cs x hx
  obtain ⟨a, h1, _⟩ := h w H enc base spare held fuel cs x hx
  exact ⟨a, h1, trivial⟩

theorem op_26 : OpA Tryz.prog 26 (fun l : List (Int × Int) => [.sl l.length [.int .i64 (l.map fun e => e.1), .int .i64 (l.map fun e => e.2)]]) (fun _ => True) := by
  have h := opA_rows [Fld.int .i64 (fun e : Int × Int => e.1), Fld.int .i64 (fun e : Int × Int => e.2)] Tryz.underlying26 (by kernel_rfl) (by simp) op_87
  intro w H enc base spare held fuel cs x hx
  obtain ⟨a, h1, _⟩ := h w H enc base spare held fuel cs x hx
  exact ⟨a, h1, trivial⟩

theorem op_30 : OpA Tryz.prog 30 (fun l : List (Int × Int × Int × Int × Int × Int × Int × Int × Bool × Int × Int) => [.sl l.length [.int .i64 (l.map fun e => e.1), .int .i64 (l.map fun e => e.2.1), .int .i64 (l.map fun e => e.2.2.1), .int .i64 (l.map fun e => e.2.2.2.1), .int .i64 (l.map fun e => e.2.2.2.2.1), .int .i64 (l.map fun e => e.2.2.2.2.2.1), .int .i64 (l.map fun e => e.2.2.2.2.2.2.1), .int .i64 (l.map fun e => e.2.2.2.2.2.2.2.1), .bool (l.map fun e => e.2.2.2.2.2.2.2.2.1), .int .i64 (l.map fun e => e.2.2.2.2.2.2.2.2.2.1), .int .i64 (l.map fun e => e.2.2.2.2.2.2.2.2.2.2)]]) (fun _ => True) := by
  have h := opA_rows [Fld.int .i64 (fun e : Int × Int × Int × Int × Int × Int × Int × Int × Bool × Int × Int => e.1), Fld.int .i64 (fun e : Int × Int × Int × Int × Int × Int × Int × Int × Bool × Int × Int => e.2.1), Fld.int .i64 (fun e : Int × Int × Int × Int × Int × Int × Int × Int × Bool × Int × Int => e.2.2.1), Fld.int .i64 (fun e : Int × Int × Int × Int × Int × Int × Int × Int × Bool × Int × Int => e.2.2.2.1), Fld.int .i64 (fun e : Int × Int × Int × Int × Int × Int × Int × Int × Bool × Int × Int => e.2.2.2.2.1), Fld.int .i64 (fun e : Int × Int × Int × Int × Int × Int × Int × Int × Bool × Int × Int => e.2.2.2.2.2.1), Fld.int .i64 (fun e : Int × Int × Int × Int × Int × Int × Int × Int × Bool × Int × Int => e.2.2.2.2.2.2.1), Fld.int .i64 (fun e : Int × Int × Int × Int × Int × Int × Int × Int × Bool × Int × Int => e.2.2.2.2.2.2.2.1), Fld.bool (fun e : Int × Int × Int × Int × Int × Int × Int × Int × Bool × Int × Int => e.2.2.2.2.2.2.2.2.1), Fld.int .i64 (fun e : Int × Int × Int × Int × Int × Int × Int × Int × Bool × Int × Int => e.2.2.2.2.2.2.2.2.2.1), Fld.int .i64 (fun e : Int × Int × Int × Int × Int × Int × Int × Int × Bool × Int × Int => e.2.2.2.2.2.2.2.2.2.2)] Tryz.underlying30 (by kernel_rfl) (by simp) op_49
  intro w H enc base spare held fuel cs x hx
  obtain ⟨a, h1, _⟩ := h w H enc base spare held fuel cs x hx
  exact ⟨a, h1, trivial⟩

theorem op_31 : OpA Tryz.prog 31 (fun l : List (Int × Int × Int × Int × Int) => [.sl l.length [.int .i64 (l.map fun e => e.1), .int .i64 (l.map fun e => e.2.1), .int .i64 (l.map fun e => e.2.2.1), .int .i64 (l.map fun e => e.2.2.2.1), .int .i64 (l.map fun e => e.2.2.2.2)]]) (fun _ => True) := by
  have h := opA_rows [Fld.int .i64 (fun e : Int × Int × Int × Int × Int => e.1), Fld.int .i64 (fun e : Int × Int × Int × Int × Int => e.2.1), Fld.int .i64 (fun e : Int × Int × Int × Int × Int => e.2.2.1), Fld.int .i64 (fun e : Int × Int × Int × Int × Int => e.2.2.2.1), Fld.int .i64 (fun e : Int × Int × Int × Int × Int => e.2.2.2.2)] Tryz.underlying31 (by kernel_rfl) (by simp) op_51
  intro w H enc base spare held fuel cs x hx
  obtain ⟨a, h1, _⟩ := h w H enc base spare held fuel cs x hx
  exact ⟨a, h1, trivial⟩

theorem op_27 : OpA Tryz.prog 27 (fun l : List Int => [.sl l.length [.int .i64 l]]) (fun _ => True) := by
  have h := opA_ints Tryz.underlying27 Tryz.underlying3 (by kernel_rfl)
  intro w H enc base spare held fuel cs x hx
  obtain ⟨a, h1, _⟩ := h w H enc base spare held fuel cs x hx
  exact ⟨a, h1, trivial⟩

theorem op_29 : OpA Tryz.prog 29 (fun e : Int × List Int => [.int .i64 e.1, .sl e.2.length [.int .i64 e.2]]) (fun _ => True) := by
  have h := opA_struct (n := 2) Tryz.underlying29 (by kernel_rfl) (opF_cons (n := 1) rfl (by kernel_rfl) (opA_int Tryz.underlying3) (opF_last (n := 1) rfl (by kernel_rfl) op_27))
  intro w H enc base spare held fuel cs x hx
  obtain ⟨a, h1, _⟩ := h w H enc base spare held fuel cs x hx
  exact ⟨a, h1, trivial⟩

/-- A state out of what is read of it. -/
def srOf (e : (Int × Int × Int × Int × Int × Int × Bool) × (Int × Int × Int) × List (Int × Int) × List Int × List Int × (Int × List Int) × (Int × List Int) × Int × List (Int × Int × Int × Int × Int × Int × Int × Int × Bool × Int × Int) × List (Int × Int × Int × Int × Int)) : SR := ⟨e.1.1, e.1.2.1, e.1.2.2.1, e.1.2.2.2.1, e.1.2.2.2.2.1, e.1.2.2.2.2.2.1, e.1.2.2.2.2.2.2, e.2.1.1, e.2.1.2.1, e.2.1.2.2, e.2.2.1.length, e.2.2.1.map (fun e => e.1), e.2.2.1.map (fun e => e.2), e.2.2.2.1.length, e.2.2.2.1, e.2.2.2.2.1.length, e.2.2.2.2.1, e.2.2.2.2.2.1.1, e.2.2.2.2.2.1.2.length, e.2.2.2.2.2.1.2, e.2.2.2.2.2.2.1.1, e.2.2.2.2.2.2.1.2.length, e.2.2.2.2.2.2.1.2, e.2.2.2.2.2.2.2.1, e.2.2.2.2.2.2.2.2.1.length, e.2.2.2.2.2.2.2.2.1.map (fun e => e.1), e.2.2.2.2.2.2.2.2.1.map (fun e => e.2.1), e.2.2.2.2.2.2.2.2.1.map (fun e => e.2.2.1), e.2.2.2.2.2.2.2.2.1.map (fun e => e.2.2.2.1), e.2.2.2.2.2.2.2.2.1.map (fun e => e.2.2.2.2.1), e.2.2.2.2.2.2.2.2.1.map (fun e => e.2.2.2.2.2.1), e.2.2.2.2.2.2.2.2.1.map (fun e => e.2.2.2.2.2.2.1), e.2.2.2.2.2.2.2.2.1.map (fun e => e.2.2.2.2.2.2.2.1), e.2.2.2.2.2.2.2.2.1.map (fun e => e.2.2.2.2.2.2.2.2.1), e.2.2.2.2.2.2.2.2.1.map (fun e => e.2.2.2.2.2.2.2.2.2.1), e.2.2.2.2.2.2.2.2.1.map (fun e => e.2.2.2.2.2.2.2.2.2.2), e.2.2.2.2.2.2.2.2.2.length, e.2.2.2.2.2.2.2.2.2.map (fun e => e.1), e.2.2.2.2.2.2.2.2.2.map (fun e => e.2.1), e.2.2.2.2.2.2.2.2.2.map (fun e => e.2.2.1), e.2.2.2.2.2.2.2.2.2.map (fun e => e.2.2.2.1), e.2.2.2.2.2.2.2.2.2.map (fun e => e.2.2.2.2)⟩

theorem op_33 : OpA Tryz.prog 33 (fun s : SR => s.cells) (fun s => in64 s.hd s.tl = true) := by
  have h := opA_struct (n := 20) Tryz.underlying33 (by kernel_rfl) (opF_cons (n := 7) rfl (by kernel_rfl) op_23 (opF_cons (n := 3) rfl (by kernel_rfl) op_25 (opF_cons (n := 1) rfl (by kernel_rfl) op_26 (opF_cons (n := 1) rfl (by kernel_rfl) op_27 (opF_cons (n := 1) rfl (by kernel_rfl) op_27 (opF_cons (n := 2) rfl (by kernel_rfl) op_29 (opF_cons (n := 2) rfl (by kernel_rfl) op_29 (opF_cons (n := 1) rfl (by kernel_rfl) op_3 (opF_cons (n := 1) rfl (by kernel_rfl) op_30 (opF_last (n := 1) rfl (by kernel_rfl) op_31))))))))))
  refine opA_iso SR.cells (fun s => in64 s.hd s.tl = true) srOf (fun a => rfl) (fun a ha => ?_) h
  obtain ⟨_, ⟨h1, h2, _⟩, _⟩ := ha
  simp [Lit.wf, IntKind.min, IntKind.max, IntKind.signed, IntKind.bits] at h1 h2
  show in64 a.2.1.1 a.2.1.2.1 = true
  simp [in64]
  omega

/- The same, with what memory takes. -/
theorem oz_ints : OpZ Tryz.prog 27 (fun l : List Int => [.sl l.length [.int .i64 l]]) (fun l => l.length ≤ 17592186044416) := by
  have h := opZ_row (n := fun l : List Int => l.length) Tryz.underlying27 op_27
  have e : Tryz.prog.bytesOf 3 = 8 := by kernel_rfl
  intro w H enc base spare held fuel cs x hx hz
  obtain ⟨a, h1, _, h2⟩ := h w H enc base spare held fuel cs x hx hz
  rw [e] at h2
  unfold reachBytes at h2
  exact ⟨a, h1, by omega⟩

theorem oz_slots : OpZ Tryz.prog 26 (fun l : List (Int × Int) => [.sl l.length [.int .i64 (l.map fun e => e.1), .int .i64 (l.map fun e => e.2)]]) (fun l => l.length ≤ 8796093022208) := by
  have h := opZ_row (n := fun l : List (Int × Int) => l.length) Tryz.underlying26 op_26
  have e : Tryz.prog.bytesOf 87 = 16 := by kernel_rfl
  intro w H enc base spare held fuel cs x hx hz
  obtain ⟨a, h1, _, h2⟩ := h w H enc base spare held fuel cs x hx hz
  rw [e] at h2
  unfold reachBytes at h2
  exact ⟨a, h1, by omega⟩

theorem oz_threads : OpZ Tryz.prog 30 (fun l : List (Int × Int × Int × Int × Int × Int × Int × Int × Bool × Int × Int) => [.sl l.length [.int .i64 (l.map fun e => e.1), .int .i64 (l.map fun e => e.2.1), .int .i64 (l.map fun e => e.2.2.1), .int .i64 (l.map fun e => e.2.2.2.1), .int .i64 (l.map fun e => e.2.2.2.2.1), .int .i64 (l.map fun e => e.2.2.2.2.2.1), .int .i64 (l.map fun e => e.2.2.2.2.2.2.1), .int .i64 (l.map fun e => e.2.2.2.2.2.2.2.1), .bool (l.map fun e => e.2.2.2.2.2.2.2.2.1), .int .i64 (l.map fun e => e.2.2.2.2.2.2.2.2.2.1), .int .i64 (l.map fun e => e.2.2.2.2.2.2.2.2.2.2)]]) (fun l => l.length ≤ 1599289640401) := by
  have h := opZ_row (n := fun l : List (Int × Int × Int × Int × Int × Int × Int × Int × Bool × Int × Int) => l.length) Tryz.underlying30 op_30
  have e : Tryz.prog.bytesOf 49 = 88 := by kernel_rfl
  intro w H enc base spare held fuel cs x hx hz
  obtain ⟨a, h1, _, h2⟩ := h w H enc base spare held fuel cs x hx hz
  rw [e] at h2
  unfold reachBytes at h2
  exact ⟨a, h1, by omega⟩

theorem oz_log : OpZ Tryz.prog 31 (fun l : List (Int × Int × Int × Int × Int) => [.sl l.length [.int .i64 (l.map fun e => e.1), .int .i64 (l.map fun e => e.2.1), .int .i64 (l.map fun e => e.2.2.1), .int .i64 (l.map fun e => e.2.2.2.1), .int .i64 (l.map fun e => e.2.2.2.2)]]) (fun l => l.length ≤ 3518437208883) := by
  have h := opZ_row (n := fun l : List (Int × Int × Int × Int × Int) => l.length) Tryz.underlying31 op_31
  have e : Tryz.prog.bytesOf 51 = 40 := by kernel_rfl
  intro w H enc base spare held fuel cs x hx hz
  obtain ⟨a, h1, _, h2⟩ := h w H enc base spare held fuel cs x hx hz
  rw [e] at h2
  unfold reachBytes at h2
  exact ⟨a, h1, by omega⟩

theorem oz_event : OpZ Tryz.prog 29 (fun e : Int × List Int => [.int .i64 e.1, .sl e.2.length [.int .i64 e.2]]) (fun e => e.2.length ≤ 17592186044416) := by
  have h := opZ_struct (n := 2) Tryz.underlying29 (by kernel_rfl) (opFZ_cons (n := 1) rfl (by kernel_rfl) op_3.z (opFZ_last (n := 1) rfl (by kernel_rfl) oz_ints))
  intro w H enc base spare held fuel cs x hx hz
  obtain ⟨a, h1, h2⟩ := h w H enc base spare held fuel cs x hx hz
  exact ⟨a, h1, h2.2⟩

theorem oz_33 : OpZ Tryz.prog 33 (fun s : SR => s.cells) (fun s => s.fitW = true) := by
  have h := opZ_struct (n := 20) Tryz.underlying33 (by kernel_rfl) (opFZ_cons (n := 7) rfl (by kernel_rfl) op_23.z (opFZ_cons (n := 3) rfl (by kernel_rfl) op_25.z (opFZ_cons (n := 1) rfl (by kernel_rfl) oz_slots (opFZ_cons (n := 1) rfl (by kernel_rfl) oz_ints (opFZ_cons (n := 1) rfl (by kernel_rfl) oz_ints (opFZ_cons (n := 2) rfl (by kernel_rfl) oz_event (opFZ_cons (n := 2) rfl (by kernel_rfl) oz_event (opFZ_cons (n := 1) rfl (by kernel_rfl) op_3.z (opFZ_cons (n := 1) rfl (by kernel_rfl) oz_threads (opFZ_last (n := 1) rfl (by kernel_rfl) oz_log))))))))))
  refine opZ_iso SR.cells (fun s => s.fitW = true) srOf (fun a => rfl) (fun a ha => ?_) h
  obtain ⟨_, ⟨h1, h2, _⟩, k1, k2, k3, k4, k5, _, k6, k7⟩ := ha
  simp [Lit.wf, IntKind.min, IntKind.max, IntKind.signed, IntKind.bits] at h1 h2
  have e1 : in64 a.2.1.1 a.2.1.2.1 = true := by simp [in64]; omega
  have e2 : wideB a.2.2.1.length a.2.2.2.1.length a.2.2.2.2.1.length a.2.2.2.2.2.1.2.length a.2.2.2.2.2.2.1.2.length a.2.2.2.2.2.2.2.2.1.length a.2.2.2.2.2.2.2.2.2.length = true := by
    simp only [wideB, decide_eq_true_eq]
    exact ⟨k1, k2, k3, k4, k5, k6, k7⟩
  show (in64 a.2.1.1 a.2.1.2.1 && wideB a.2.2.1.length a.2.2.2.1.length a.2.2.2.2.1.length a.2.2.2.2.2.1.2.length a.2.2.2.2.2.2.1.2.length a.2.2.2.2.2.2.2.2.1.length a.2.2.2.2.2.2.2.2.2.length) = true
  rw [e1, e2]
  rfl

end Go.Own
