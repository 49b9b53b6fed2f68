/- What the laws of the fabric are given. -/
import Derived.Test.YtmahobkimmbhgaaFabLaw
namespace Go.Own
open Go Go.Proofs
set_option maxRecDepth 100000
set_option linter.unusedVariables false
set_option linter.unusedSimpArgs false

theorem op_3 : OpA Try.prog 3 (fun n : Int => [.int .i64 n]) (fun n => (Lit.int .i64 n).wf = true) := opA_int Try.underlying3

theorem op_4 : OpA Try.prog 4 (fun n : Bool => [.bool n]) (fun _ => True) := opA_bool Try.underlying4

theorem op_43 : OpA Try.prog 43 (fun e : Int × Int × Int × Int × Int × Int × Bool => [.int .i64 e.1, .int .i64 e.2.1, .int .i64 e.2.2.1, .int .i64 e.2.2.2.1, .int .i64 e.2.2.2.2.1, .int .i64 e.2.2.2.2.2.1, .bool e.2.2.2.2.2.2]) (fun _ => True) := by
  have h := opA_struct (n := 7) Try.underlying43 (by kernel_rfl) (opF_cons (n := 1) rfl (by kernel_rfl) (opA_int Try.underlying3) (opF_cons (n := 1) rfl (by kernel_rfl) (opA_int Try.underlying3) (opF_cons (n := 1) rfl (by kernel_rfl) (opA_int Try.underlying3) (opF_cons (n := 1) rfl (by kernel_rfl) (opA_int Try.underlying3) (opF_cons (n := 1) rfl (by kernel_rfl) (opA_int Try.underlying3) (opF_cons (n := 1) rfl (by kernel_rfl) (opA_int Try.underlying3) (opF_last (n := 1) rfl (by kernel_rfl) (opA_bool Try.underlying4))))))))
  intro w H enc base spare held fuel cs x hx
  obtain ⟨a, h1, _⟩ := h w H enc base spare held fuel cs x hx
  exact ⟨a, h1, trivial⟩

theorem op_45 : OpA Try.prog 45 (fun e : Int × Int × Int => [.int .i64 e.1, .int .i64 e.2.1, .int .i64 e.2.2]) (fun e => (Lit.int .i64 e.1).wf = true ∧ (Lit.int .i64 e.2.1).wf = true ∧ (Lit.int .i64 e.2.2).wf = true) := by
  have h := opA_struct (n := 3) Try.underlying45 (by kernel_rfl) (opF_cons (n := 1) rfl (by kernel_rfl) (opA_int Try.underlying3) (opF_cons (n := 1) rfl (by kernel_rfl) (opA_int Try.underlying3) (opF_last (n := 1) rfl (by kernel_rfl) (opA_int Try.underlying3))))
  exact h

theorem op_84 : OpA Try.prog 84 (fun e : Int × Int => [.int .i64 e.1, .int .i64 e.2]) (fun _ => True) := by
  have h := opA_struct (n := 2) Try.underlying84 (by kernel_rfl) (opF_cons (n := 1) rfl (by kernel_rfl) (opA_int Try.underlying3) (opF_last (n := 1) rfl (by kernel_rfl) (opA_int Try.underlying3)))
  intro w H enc base spare held fuel cs x hx
  obtain ⟨a, h1, _⟩ := h w H enc base spare held fuel cs x hx
  exact ⟨a, h1, trivial⟩

theorem op_65 : OpA Try.prog 65 (fun e : Int × Int × Int × Int × Int × Int × Int × Int × Bool × Int × Int => [.int .i64 e.1, .int .i64 e.2.1, .int .i64 e.2.2.1, .int .i64 e.2.2.2.1, .int .i64 e.2.2.2.2.1, .int .i64 e.2.2.2.2.2.1, .int .i64 e.2.2.2.2.2.2.1, .int .i64 e.2.2.2.2.2.2.2.1, .bool e.2.2.2.2.2.2.2.2.1, .int .i64 e.2.2.2.2.2.2.2.2.2.1, .int .i64 e.2.2.2.2.2.2.2.2.2.2]) (fun _ => True) := by
  have h := opA_struct (n := 11) Try.underlying65 (by kernel_rfl) (opF_cons (n := 1) rfl (by kernel_rfl) (opA_int Try.underlying3) (opF_cons (n := 1) rfl (by kernel_rfl) (opA_int Try.underlying3) (opF_cons (n := 1) rfl (by kernel_rfl) (opA_int Try.underlying3) (opF_cons (n := 1) rfl (by kernel_rfl) (opA_int Try.underlying3) (opF_cons (n := 1) rfl (by kernel_rfl) (opA_int Try.underlying3) (opF_cons (n := 1) rfl (by kernel_rfl) (opA_int Try.underlying3) (opF_cons (n := 1) rfl (by kernel_rfl) (opA_int Try.underlying3) (opF_cons (n := 1) rfl (by kernel_rfl) (opA_int Try.underlying3) (opF_cons (n := 1) rfl (by kernel_rfl) (opA_bool Try.underlying4) (opF_cons (n := 1) rfl (by kernel_rfl) (opA_int Try.underlying3) (opF_last (n := 1) rfl (by kernel_rfl) (opA_int Try.underlying3))))))))))))
  intro w H enc base spare held fuel cs x hx
  obtain ⟨a, h1, _⟩ := h w H enc base spare held fuel cs x hx
  exact ⟨a, h1, trivial⟩

theorem op_63 : OpA Try.prog 63 (fun e : Int × Int × Int × Int × Int => [.int .i64 e.1, .int .i64 e.2.1, .int .i64 e.2.2.1, .int .i64 e.2.2.2.1, .int .i64 e.2.2.2.2]) (fun _ => True) := by
  have h := opA_struct (n := 5) Try.underlying63 (by kernel_rfl) (opF_cons (n := 1) rfl (by kernel_rfl) (opA_int Try.underlying3) (opF_cons (n := 1) rfl (by kernel_rfl) (opA_int Try.underlying3) (opF_cons (n := 1) rfl (by kernel_rfl) (opA_int Try.underlying3) (opF_cons (n := 1) rfl (by kernel_rfl) (opA_int Try.underlying3) (opF_last (n := 1) rfl (by kernel_rfl) (opA_int Try.underlying3))))))
  intro w H enc base spare held fuel cs x hx
  obtain ⟨a, h1, _⟩ := h w H enc base spare held fuel cs x hx
  exact ⟨a, h1, trivial⟩

theorem op_46 : OpA Try.prog 46 (fun l : List (Int × Int) => [.sl l.length [.int .i64 (l.map fun e => e.1), .int .i64 (l.map fun e => e.2)]]) (fun _ => True) := by
  have h := opA_rows [Fld.int .i64 (fun e : Int × Int => e.1), Fld.int .i64 (fun e : Int × Int => e.2)] Try.underlying46 (by kernel_rfl) (by simp) op_84
  intro w H enc base spare held fuel cs x hx
  obtain ⟨a, h1, _⟩ := h w H enc base spare held fuel cs x hx
  exact ⟨a, h1, trivial⟩

theorem op_47 : OpA Try.prog 47 (fun l : List (Int × Int × Int × Int × Int × Int × Int × Int × Bool × Int × Int) => [.sl l.length [.int .i64 (l.map fun e => e.1), .int .i64 (l.map fun e => e.2.1), .int .i64 (l.map fun e => e.2.2.1), .int .i64 (l.map fun e => e.2.2.2.1), .int .i64 (l.map fun e => e.2.2.2.2.1), .int .i64 (l.map fun e => e.2.2.2.2.2.1), .int .i64 (l.map fun e => e.2.2.2.2.2.2.1), .int .i64 (l.map fun e => e.2.2.2.2.2.2.2.1), .bool (l.map fun e => e.2.2.2.2.2.2.2.2.1), .int .i64 (l.map fun e => e.2.2.2.2.2.2.2.2.2.1), .int .i64 (l.map fun e => e.2.2.2.2.2.2.2.2.2.2)]]) (fun _ => True) := by
  have h := opA_rows [Fld.int .i64 (fun e : Int × Int × Int × Int × Int × Int × Int × Int × Bool × Int × Int => e.1), Fld.int .i64 (fun e : Int × Int × Int × Int × Int × Int × Int × Int × Bool × Int × Int => e.2.1), Fld.int .i64 (fun e : Int × Int × Int × Int × Int × Int × Int × Int × Bool × Int × Int => e.2.2.1), Fld.int .i64 (fun e : Int × Int × Int × Int × Int × Int × Int × Int × Bool × Int × Int => e.2.2.2.1), Fld.int .i64 (fun e : Int × Int × Int × Int × Int × Int × Int × Int × Bool × Int × Int => e.2.2.2.2.1), Fld.int .i64 (fun e : Int × Int × Int × Int × Int × Int × Int × Int × Bool × Int × Int => e.2.2.2.2.2.1), Fld.int .i64 (fun e : Int × Int × Int × Int × Int × Int × Int × Int × Bool × Int × Int => e.2.2.2.2.2.2.1), Fld.int .i64 (fun e : Int × Int × Int × Int × Int × Int × Int × Int × Bool × Int × Int => e.2.2.2.2.2.2.2.1), Fld.bool (fun e : Int × Int × Int × Int × Int × Int × Int × Int × Bool × Int × Int => e.2.2.2.2.2.2.2.2.1), Fld.int .i64 (fun e : Int × Int × Int × Int × Int × Int × Int × Int × Bool × Int × Int => e.2.2.2.2.2.2.2.2.2.1), Fld.int .i64 (fun e : Int × Int × Int × Int × Int × Int × Int × Int × Bool × Int × Int => e.2.2.2.2.2.2.2.2.2.2)] Try.underlying47 (by kernel_rfl) (by simp) op_65
  intro w H enc base spare held fuel cs x hx
  obtain ⟨a, h1, _⟩ := h w H enc base spare held fuel cs x hx
  exact ⟨a, h1, trivial⟩

theorem op_48 : OpA Try.prog 48 (fun l : List (Int × Int × Int × Int × Int) => [.sl l.length [.int .i64 (l.map fun e => e.1), .int .i64 (l.map fun e => e.2.1), .int .i64 (l.map fun e => e.2.2.1), .int .i64 (l.map fun e => e.2.2.2.1), .int .i64 (l.map fun e => e.2.2.2.2)]]) (fun _ => True) := by
  have h := opA_rows [Fld.int .i64 (fun e : Int × Int × Int × Int × Int => e.1), Fld.int .i64 (fun e : Int × Int × Int × Int × Int => e.2.1), Fld.int .i64 (fun e : Int × Int × Int × Int × Int => e.2.2.1), Fld.int .i64 (fun e : Int × Int × Int × Int × Int => e.2.2.2.1), Fld.int .i64 (fun e : Int × Int × Int × Int × Int => e.2.2.2.2)] Try.underlying48 (by kernel_rfl) (by simp) op_63
  intro w H enc base spare held fuel cs x hx
  obtain ⟨a, h1, _⟩ := h w H enc base spare held fuel cs x hx
  exact ⟨a, h1, trivial⟩

theorem op_22 : OpA Try.prog 22 (fun l : List Int => [.sl l.length [.int .i64 l]]) (fun _ => True) := by
  have h := opA_ints Try.underlying22 Try.underlying3 (by kernel_rfl)
  intro w H enc base spare held fuel cs x hx
  obtain ⟨a, h1, _⟩ := h w H enc base spare held fuel cs x hx
  exact ⟨a, h1, trivial⟩

theorem op_24 : OpA Try.prog 24 (fun e : Int × List Int => [.int .i64 e.1, .sl e.2.length [.int .i64 e.2]]) (fun _ => True) := by
  have h := opA_struct (n := 2) Try.underlying24 (by kernel_rfl) (opF_cons (n := 1) rfl (by kernel_rfl) (opA_int Try.underlying3) (opF_last (n := 1) rfl (by kernel_rfl) op_22))
  intro w H enc base spare held fuel cs x hx
  obtain ⟨a, h1, _⟩ := h w H enc base spare held fuel cs x hx
  exact ⟨a, h1, trivial⟩

/-- A state out of what is read of it. -/
def srOf (e : (Int × Int × Int × Int × Int × Int × Bool) × (Int × Int × Int) × List (Int × Int) × List Int × List Int × (Int × List Int) × (Int × List Int) × Int × List (Int × Int × Int × Int × Int × Int × Int × Int × Bool × Int × Int) × List (Int × Int × Int × Int × Int)) : SR := ⟨e.1.1, e.1.2.1, e.1.2.2.1, e.1.2.2.2.1, e.1.2.2.2.2.1, e.1.2.2.2.2.2.1, e.1.2.2.2.2.2.2, e.2.1.1, e.2.1.2.1, e.2.1.2.2, e.2.2.1.length, e.2.2.1.map (fun e => e.1), e.2.2.1.map (fun e => e.2), e.2.2.2.1.length, e.2.2.2.1, e.2.2.2.2.1.length, e.2.2.2.2.1, e.2.2.2.2.2.1.1, e.2.2.2.2.2.1.2.length, e.2.2.2.2.2.1.2, e.2.2.2.2.2.2.1.1, e.2.2.2.2.2.2.1.2.length, e.2.2.2.2.2.2.1.2, e.2.2.2.2.2.2.2.1, e.2.2.2.2.2.2.2.2.1.length, e.2.2.2.2.2.2.2.2.1.map (fun e => e.1), e.2.2.2.2.2.2.2.2.1.map (fun e => e.2.1), e.2.2.2.2.2.2.2.2.1.map (fun e => e.2.2.1), e.2.2.2.2.2.2.2.2.1.map (fun e => e.2.2.2.1), e.2.2.2.2.2.2.2.2.1.map (fun e => e.2.2.2.2.1), e.2.2.2.2.2.2.2.2.1.map (fun e => e.2.2.2.2.2.1), e.2.2.2.2.2.2.2.2.1.map (fun e => e.2.2.2.2.2.2.1), e.2.2.2.2.2.2.2.2.1.map (fun e => e.2.2.2.2.2.2.2.1), e.2.2.2.2.2.2.2.2.1.map (fun e => e.2.2.2.2.2.2.2.2.1), e.2.2.2.2.2.2.2.2.1.map (fun e => e.2.2.2.2.2.2.2.2.2.1), e.2.2.2.2.2.2.2.2.1.map (fun e => e.2.2.2.2.2.2.2.2.2.2), e.2.2.2.2.2.2.2.2.2.length, e.2.2.2.2.2.2.2.2.2.map (fun e => e.1), e.2.2.2.2.2.2.2.2.2.map (fun e => e.2.1), e.2.2.2.2.2.2.2.2.2.map (fun e => e.2.2.1), e.2.2.2.2.2.2.2.2.2.map (fun e => e.2.2.2.1), e.2.2.2.2.2.2.2.2.2.map (fun e => e.2.2.2.2)⟩

theorem op_50 : OpA Try.prog 50 (fun s : SR => s.cells) (fun s => in64 s.hd s.tl = true) := by
  have h := opA_struct (n := 20) Try.underlying50 (by kernel_rfl) (opF_cons (n := 7) rfl (by kernel_rfl) op_43 (opF_cons (n := 3) rfl (by kernel_rfl) op_45 (opF_cons (n := 1) rfl (by kernel_rfl) op_46 (opF_cons (n := 1) rfl (by kernel_rfl) op_22 (opF_cons (n := 1) rfl (by kernel_rfl) op_22 (opF_cons (n := 2) rfl (by kernel_rfl) op_24 (opF_cons (n := 2) rfl (by kernel_rfl) op_24 (opF_cons (n := 1) rfl (by kernel_rfl) op_3 (opF_cons (n := 1) rfl (by kernel_rfl) op_47 (opF_last (n := 1) rfl (by kernel_rfl) op_48))))))))))
  refine opA_iso SR.cells (fun s => in64 s.hd s.tl = true) srOf (fun a => rfl) (fun a ha => ?_) h
  obtain ⟨_, ⟨h1, h2, _⟩, _⟩ := ha
  simp [Lit.wf, IntKind.min, IntKind.max, IntKind.signed, IntKind.bits] at h1 h2
  show in64 a.2.1.1 a.2.1.2.1 = true
  simp [in64]
  omega

end Go.Own
