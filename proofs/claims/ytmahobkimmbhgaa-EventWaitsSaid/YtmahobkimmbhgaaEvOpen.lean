/- What the laws of events are given. -/
import Derived.Test.YtmahobkimmbhgaaLine
namespace Go.Own
open Go Go.Proofs
set_option maxRecDepth 100000
set_option linter.unusedVariables false

theorem op_24 : OpA Try.prog 24 (fun e : Int × List Int => [.int .i64 e.1, .sl e.2.length [.int .i64 e.2]]) (fun e => ((Lit.int .i64 e.1).wf = true ∧ e.2.length ≤ maxLen ∧ ∀ x ∈ e.2, (Lit.int .i64 x).wf = true)) := by
  have h := opA_struct (n := 2) Try.underlying24 (by kernel_rfl) (opF_cons (n := 1) rfl (by kernel_rfl) (opA_int Try.underlying3) (opF_last (n := 1) rfl (by kernel_rfl) (opA_ints Try.underlying22 Try.underlying3 (by kernel_rfl))))
  exact h

theorem op_3 : OpA Try.prog 3 (fun n : Int => [.int .i64 n]) (fun n => (Lit.int .i64 n).wf = true) := opA_int Try.underlying3

theorem op_4 : OpA Try.prog 4 (fun b : Bool => [.bool b]) (fun _ => True) := opA_bool Try.underlying4

end Go.Own
