/-
  No cell of these rows narrows 'for every input' (looked for: loops, veiled, ifaces, maps, wideKeys, modest, calm, conditions, laid).
  DERIVED. THE GIVEN ROWS OF THIS SEAT. 6 by the template 'for every input the law returns true; each argument reads behind the call as it read before'; 0 by the template 'total and deterministic' (their statements: YtmahobkimmbhgaaTotals.lean).
  GIVEN WITH THE SEED: the statements are not yours to turn. If you find one false, say at which input.
  Laid BY PROGRAM, IN A SANDBOX (cutbox-rows.mjs): the forced cells as the released guide's own fill.sh prints them over the translation 76764468cf37d8a6… (all of the seat's roots in one cut). By AI agents, Wed Nov 11 2026. No macro, syntax, notation, axiom, sorry.
-/
import Derived.Test.YtmahobkimmbhgaaChecked
import GoSem.Claim
import GoSem.ClaimJoined
import GoSem.ClaimMapViews
import Derived.JoinedTies
import Derived.KernelRfl
namespace Go.Proofs.Ytmahobkimmbhgaa
/- THE CELL 'sum', in the pinned program and in every row, IS THE sha256 OF THE DUMP (.gsa) THAT YtmahobkimmbhgaaProg.lean LOADS. Nothing in Lean hashes anything: it is a label: what it is worth is what the hold of that sum in a sandbox is worth. -/
noncomputable def Try.pinned : Pinned := { name := "ytmahobkimmbhgaa", sum := "76764468cf37d8a6de78a328b435e7bec6a7815c6764459a7db5692eaa70d43f", checked := Try.checked }
namespace Rows
def none {H : Type} : Left H := { results := [], args := [] }

/-- 'sakialaw06.EventSeen': WHATEVER THE INPUT: true; the input reads as it did. -/
def eventSeenSpec : ChangeSpec := { name := "eventSeen", fn := fun _ => fun
  | [d1, d2, d3] => { results := [.lit (.bool true)], args := [d1, d2, d3] }
  | _ => none }
def eventSeenRow : OpenClaim := { program := "ytmahobkimmbhgaa", sum := "76764468cf37d8a6de78a328b435e7bec6a7815c6764459a7db5692eaa70d43f", func := "sakia/sakialaw06.EventSeen", spec := "eventSeen", unfollowed := true, recurses := true, apart := false }
def EventSeenSaid : Prop := eventSeenRow.holds Try.pinned (OpenSpec.ofChange eventSeenSpec)

/-- ITS FALSE NEIGHBOUR: 'it returns false'. Refute it at one input. -/
def eventSeenWrong : ChangeSpec := { name := "eventSeen", fn := fun _ => fun
  | [d1, d2, d3] => { results := [.lit (.bool false)], args := [d1, d2, d3] }
  | _ => none }
def EventSeenWrongFalsely : Prop := eventSeenRow.holds Try.pinned (OpenSpec.ofChange eventSeenWrong)

/-- 'sakialaw06.EventOne': WHATEVER THE INPUT: true; the input reads as it did. -/
def eventOneSpec : ChangeSpec := { name := "eventOne", fn := fun _ => fun
  | [d] => { results := [.lit (.bool true)], args := [d] }
  | _ => none }
def eventOneRow : OpenClaim := { program := "ytmahobkimmbhgaa", sum := "76764468cf37d8a6de78a328b435e7bec6a7815c6764459a7db5692eaa70d43f", func := "sakia/sakialaw06.EventOne", spec := "eventOne", unfollowed := true, recurses := true, apart := false }
def EventOneSaid : Prop := eventOneRow.holds Try.pinned (OpenSpec.ofChange eventOneSpec)

/-- ITS FALSE NEIGHBOUR: 'it returns false'. Refute it at one input. -/
def eventOneWrong : ChangeSpec := { name := "eventOne", fn := fun _ => fun
  | [d] => { results := [.lit (.bool false)], args := [d] }
  | _ => none }
def EventOneWrongFalsely : Prop := eventOneRow.holds Try.pinned (OpenSpec.ofChange eventOneWrong)

/-- 'sakialaw06.EventCancels': WHATEVER THE INPUT: true; the input reads as it did. -/
def eventCancelsSpec : ChangeSpec := { name := "eventCancels", fn := fun _ => fun
  | [d1, d2] => { results := [.lit (.bool true)], args := [d1, d2] }
  | _ => none }
def eventCancelsRow : OpenClaim := { program := "ytmahobkimmbhgaa", sum := "76764468cf37d8a6de78a328b435e7bec6a7815c6764459a7db5692eaa70d43f", func := "sakia/sakialaw06.EventCancels", spec := "eventCancels", unfollowed := true, recurses := true, apart := false }
def EventCancelsSaid : Prop := eventCancelsRow.holds Try.pinned (OpenSpec.ofChange eventCancelsSpec)

/-- ITS FALSE NEIGHBOUR: 'it returns false'. Refute it at one input. -/
def eventCancelsWrong : ChangeSpec := { name := "eventCancels", fn := fun _ => fun
  | [d1, d2] => { results := [.lit (.bool false)], args := [d1, d2] }
  | _ => none }
def EventCancelsWrongFalsely : Prop := eventCancelsRow.holds Try.pinned (OpenSpec.ofChange eventCancelsWrong)

/-- 'sakialaw06.EventWaits': WHATEVER THE INPUT: true; the input reads as it did. -/
def eventWaitsSpec : ChangeSpec := { name := "eventWaits", fn := fun _ => fun
  | [d1, d2] => { results := [.lit (.bool true)], args := [d1, d2] }
  | _ => none }
def eventWaitsRow : OpenClaim := { program := "ytmahobkimmbhgaa", sum := "76764468cf37d8a6de78a328b435e7bec6a7815c6764459a7db5692eaa70d43f", func := "sakia/sakialaw06.EventWaits", spec := "eventWaits", unfollowed := true, recurses := true, apart := false }
def EventWaitsSaid : Prop := eventWaitsRow.holds Try.pinned (OpenSpec.ofChange eventWaitsSpec)

/-- ITS FALSE NEIGHBOUR: 'it returns false'. Refute it at one input. -/
def eventWaitsWrong : ChangeSpec := { name := "eventWaits", fn := fun _ => fun
  | [d1, d2] => { results := [.lit (.bool false)], args := [d1, d2] }
  | _ => none }
def EventWaitsWrongFalsely : Prop := eventWaitsRow.holds Try.pinned (OpenSpec.ofChange eventWaitsWrong)

/-- 'sakialaw13.FabricNew': WHATEVER THE INPUT: true; the input reads as it did. -/
def fabricNewSpec : ChangeSpec := { name := "fabricNew", fn := fun _ => fun
  | [d1, d2] => { results := [.lit (.bool true)], args := [d1, d2] }
  | _ => none }
def fabricNewRow : OpenClaim := { program := "ytmahobkimmbhgaa", sum := "76764468cf37d8a6de78a328b435e7bec6a7815c6764459a7db5692eaa70d43f", func := "sakia/sakialaw13.FabricNew", spec := "fabricNew", unfollowed := true, recurses := true, apart := false }
def FabricNewSaid : Prop := fabricNewRow.holds Try.pinned (OpenSpec.ofChange fabricNewSpec)

/-- ITS FALSE NEIGHBOUR: 'it returns false'. Refute it at one input. -/
def fabricNewWrong : ChangeSpec := { name := "fabricNew", fn := fun _ => fun
  | [d1, d2] => { results := [.lit (.bool false)], args := [d1, d2] }
  | _ => none }
def FabricNewWrongFalsely : Prop := fabricNewRow.holds Try.pinned (OpenSpec.ofChange fabricNewWrong)

/-- 'sakialaw13.FabricLogs': WHATEVER THE INPUT: true; the input reads as it did. -/
def fabricLogsSpec : ChangeSpec := { name := "fabricLogs", fn := fun _ => fun
  | [d1, d2, d3, d4, d5] => { results := [.lit (.bool true)], args := [d1, d2, d3, d4, d5] }
  | _ => none }
def fabricLogsRow : OpenClaim := { program := "ytmahobkimmbhgaa", sum := "76764468cf37d8a6de78a328b435e7bec6a7815c6764459a7db5692eaa70d43f", func := "sakia/sakialaw13.FabricLogs", spec := "fabricLogs", unfollowed := true, recurses := true, apart := false }
def FabricLogsSaid : Prop := fabricLogsRow.holds Try.pinned (OpenSpec.ofChange fabricLogsSpec)

/-- ITS FALSE NEIGHBOUR: 'it returns false'. Refute it at one input. -/
def fabricLogsWrong : ChangeSpec := { name := "fabricLogs", fn := fun _ => fun
  | [d1, d2, d3, d4, d5] => { results := [.lit (.bool false)], args := [d1, d2, d3, d4, d5] }
  | _ => none }
def FabricLogsWrongFalsely : Prop := fabricLogsRow.holds Try.pinned (OpenSpec.ofChange fabricLogsWrong)

/- THE SECOND FORM. 'bulk': how many values and letters a reading holds, each counted each time it is reached (what is shared counts as often as it is met; a slice's spare places count too). A statement '..UptoSaid' is the law's where the arguments, and the package variables that the reading takes, are together of bulk at most 1048576: NARROWER than '..Said'. Prove '..Said' where nothing that the law and all that it calls make is longer than what came in: it says more and counts as full. Else prove '..UptoSaid'. A law counts once. -/
mutual
def uptoBulk {H : Type} : DataW H → Nat
  | .lit (.string bytes) => bytes.length + 1
  | .lit _ => 1
  | .nil => 1
  | .ptr d => uptoBulk d + 1
  | .slice elems spare => uptoBulkAll elems + uptoBulkAll spare + 1
  | .agg parts => uptoBulkAll parts + 1
  | .iface _ d => uptoBulk d + 1
  | .map entries => uptoBulkEntries entries + 1
  | .held _ => 1
def uptoBulkAll {H : Type} : List (DataW H) → Nat
  | [] => 0
  | d :: r => uptoBulk d + uptoBulkAll r
def uptoBulkEntries {H : Type} : List (Lit × DataW H) → Nat
  | [] => 0
  | x :: r => uptoBulkEntry x + uptoBulkEntries r
def uptoBulkEntry {H : Type} : Lit × DataW H → Nat
  | (.string bytes, d) => bytes.length + uptoBulk d + 1
  | (_, d) => uptoBulk d + 1
 end
def uptoSmall : (H : Type) → List (DataW H) → Bool := fun _ ds => decide (uptoBulkAll ds ≤ 1048576)
def OpenSpec.upto (s : _root_.Go.ChangeSpec) : _root_.Go.OpenSpec := { _root_.Go.OpenSpec.ofChange s with cond := some uptoSmall }

/-- 'sakialaw06.EventSeen', WHERE WHAT IT READS IS OF BULK AT MOST 1048576: true; the input reads as it did. -/
def eventSeenUptoRow : OpenClaim := { program := "ytmahobkimmbhgaa", sum := "76764468cf37d8a6de78a328b435e7bec6a7815c6764459a7db5692eaa70d43f", func := "sakia/sakialaw06.EventSeen", spec := "eventSeen", unfollowed := true, recurses := true, apart := false, narrowed := true }
def EventSeenUptoSaid : Prop := eventSeenUptoRow.holds Try.pinned (OpenSpec.upto eventSeenSpec)

/-- 'sakialaw06.EventOne', WHERE WHAT IT READS IS OF BULK AT MOST 1048576: true; the input reads as it did. -/
def eventOneUptoRow : OpenClaim := { program := "ytmahobkimmbhgaa", sum := "76764468cf37d8a6de78a328b435e7bec6a7815c6764459a7db5692eaa70d43f", func := "sakia/sakialaw06.EventOne", spec := "eventOne", unfollowed := true, recurses := true, apart := false, narrowed := true }
def EventOneUptoSaid : Prop := eventOneUptoRow.holds Try.pinned (OpenSpec.upto eventOneSpec)

/-- 'sakialaw06.EventCancels', WHERE WHAT IT READS IS OF BULK AT MOST 1048576: true; the input reads as it did. -/
def eventCancelsUptoRow : OpenClaim := { program := "ytmahobkimmbhgaa", sum := "76764468cf37d8a6de78a328b435e7bec6a7815c6764459a7db5692eaa70d43f", func := "sakia/sakialaw06.EventCancels", spec := "eventCancels", unfollowed := true, recurses := true, apart := false, narrowed := true }
def EventCancelsUptoSaid : Prop := eventCancelsUptoRow.holds Try.pinned (OpenSpec.upto eventCancelsSpec)

/-- 'sakialaw06.EventWaits', WHERE WHAT IT READS IS OF BULK AT MOST 1048576: true; the input reads as it did. -/
def eventWaitsUptoRow : OpenClaim := { program := "ytmahobkimmbhgaa", sum := "76764468cf37d8a6de78a328b435e7bec6a7815c6764459a7db5692eaa70d43f", func := "sakia/sakialaw06.EventWaits", spec := "eventWaits", unfollowed := true, recurses := true, apart := false, narrowed := true }
def EventWaitsUptoSaid : Prop := eventWaitsUptoRow.holds Try.pinned (OpenSpec.upto eventWaitsSpec)

/-- 'sakialaw13.FabricNew', WHERE WHAT IT READS IS OF BULK AT MOST 1048576: true; the input reads as it did. -/
def fabricNewUptoRow : OpenClaim := { program := "ytmahobkimmbhgaa", sum := "76764468cf37d8a6de78a328b435e7bec6a7815c6764459a7db5692eaa70d43f", func := "sakia/sakialaw13.FabricNew", spec := "fabricNew", unfollowed := true, recurses := true, apart := false, narrowed := true }
def FabricNewUptoSaid : Prop := fabricNewUptoRow.holds Try.pinned (OpenSpec.upto fabricNewSpec)

/-- 'sakialaw13.FabricLogs', WHERE WHAT IT READS IS OF BULK AT MOST 1048576: true; the input reads as it did. -/
def fabricLogsUptoRow : OpenClaim := { program := "ytmahobkimmbhgaa", sum := "76764468cf37d8a6de78a328b435e7bec6a7815c6764459a7db5692eaa70d43f", func := "sakia/sakialaw13.FabricLogs", spec := "fabricLogs", unfollowed := true, recurses := true, apart := false, narrowed := true }
def FabricLogsUptoSaid : Prop := fabricLogsUptoRow.holds Try.pinned (OpenSpec.upto fabricLogsSpec)

end Rows
end Go.Proofs.Ytmahobkimmbhgaa
