/-
  No cell of these rows narrows 'for every input' (looked for: loops, veiled, ifaces, maps, wideKeys, modest, calm, conditions, laid).
  DERIVED. THE GIVEN ROWS OF THIS SEAT. 5 by the template 'for every input the law returns true; each argument reads behind the call as it read before'; 0 by the template 'total and deterministic' (their statements: YtdoapbopldhakaaTotals.lean).
  GIVEN WITH THE SEED: the statements are not yours to turn. If you find one false, say at which input.
  Laid BY PROGRAM, IN A SANDBOX (cutbox-rows.mjs): the forced cells as the released guide's own fill.sh prints them over the translation ec0f7f3083bdfef2… (all of the seat's roots in one cut). By AI agents, Wed Nov 11 2026. No macro, syntax, notation, axiom, sorry.
-/
import Derived.Test.YtdoapbopldhakaaChecked
import GoSem.Claim
import GoSem.ClaimJoined
import GoSem.ClaimMapViews
import Derived.JoinedTies
import Derived.KernelRfl
namespace Go.Proofs.Ytdoapbopldhakaa
/- THE CELL 'sum', in the pinned program and in every row, IS THE sha256 OF THE DUMP (.gsa) THAT YtdoapbopldhakaaProg.lean LOADS. Nothing in Lean hashes anything: it is a label: what it is worth is what the hold of that sum in a sandbox is worth. -/
noncomputable def Try.pinned : Pinned := { name := "ytdoapbopldhakaa", sum := "ec0f7f3083bdfef2b0583e1fd170525e6de1610f59044191fcddb6cec9b11b70", checked := Try.checked }
namespace Rows
def none {H : Type} : Left H := { results := [], args := [] }

/-- 'sakialaw16.CloseOne': WHATEVER THE INPUT: true; the input reads as it did. -/
def closeOneSpec : ChangeSpec := { name := "closeOne", fn := fun _ => fun
  | [d1, d2] => { results := [.lit (.bool true)], args := [d1, d2] }
  | _ => none }
def closeOneRow : OpenClaim := { program := "ytdoapbopldhakaa", sum := "ec0f7f3083bdfef2b0583e1fd170525e6de1610f59044191fcddb6cec9b11b70", func := "sakia/sakialaw16.CloseOne", spec := "closeOne", unfollowed := true, recurses := true, apart := false }
def CloseOneSaid : Prop := closeOneRow.holds Try.pinned (OpenSpec.ofChange closeOneSpec)

/-- ITS FALSE NEIGHBOUR: 'it returns false'. Refute it at one input. -/
def closeOneWrong : ChangeSpec := { name := "closeOne", fn := fun _ => fun
  | [d1, d2] => { results := [.lit (.bool false)], args := [d1, d2] }
  | _ => none }
def CloseOneWrongFalsely : Prop := closeOneRow.holds Try.pinned (OpenSpec.ofChange closeOneWrong)

/-- 'sakialaw16.CloseStays': WHATEVER THE INPUT: true; the input reads as it did. -/
def closeStaysSpec : ChangeSpec := { name := "closeStays", fn := fun _ => fun
  | [d1, d2, d3] => { results := [.lit (.bool true)], args := [d1, d2, d3] }
  | _ => none }
def closeStaysRow : OpenClaim := { program := "ytdoapbopldhakaa", sum := "ec0f7f3083bdfef2b0583e1fd170525e6de1610f59044191fcddb6cec9b11b70", func := "sakia/sakialaw16.CloseStays", spec := "closeStays", unfollowed := true, recurses := true, apart := false }
def CloseStaysSaid : Prop := closeStaysRow.holds Try.pinned (OpenSpec.ofChange closeStaysSpec)

/-- ITS FALSE NEIGHBOUR: 'it returns false'. Refute it at one input. -/
def closeStaysWrong : ChangeSpec := { name := "closeStays", fn := fun _ => fun
  | [d1, d2, d3] => { results := [.lit (.bool false)], args := [d1, d2, d3] }
  | _ => none }
def CloseStaysWrongFalsely : Prop := closeStaysRow.holds Try.pinned (OpenSpec.ofChange closeStaysWrong)

/-- 'sakialaw16.CloseThree': WHATEVER THE INPUT: true; the input reads as it did. -/
def closeThreeSpec : ChangeSpec := { name := "closeThree", fn := fun _ => fun
  | [d1, d2, d3] => { results := [.lit (.bool true)], args := [d1, d2, d3] }
  | _ => none }
def closeThreeRow : OpenClaim := { program := "ytdoapbopldhakaa", sum := "ec0f7f3083bdfef2b0583e1fd170525e6de1610f59044191fcddb6cec9b11b70", func := "sakia/sakialaw16.CloseThree", spec := "closeThree", unfollowed := true, recurses := true, apart := false }
def CloseThreeSaid : Prop := closeThreeRow.holds Try.pinned (OpenSpec.ofChange closeThreeSpec)

/-- ITS FALSE NEIGHBOUR: 'it returns false'. Refute it at one input. -/
def closeThreeWrong : ChangeSpec := { name := "closeThree", fn := fun _ => fun
  | [d1, d2, d3] => { results := [.lit (.bool false)], args := [d1, d2, d3] }
  | _ => none }
def CloseThreeWrongFalsely : Prop := closeThreeRow.holds Try.pinned (OpenSpec.ofChange closeThreeWrong)

/-- 'sakialaw16.CloseTwice': WHATEVER THE INPUT: true; the input reads as it did. -/
def closeTwiceSpec : ChangeSpec := { name := "closeTwice", fn := fun _ => fun
  | [d1, d2] => { results := [.lit (.bool true)], args := [d1, d2] }
  | _ => none }
def closeTwiceRow : OpenClaim := { program := "ytdoapbopldhakaa", sum := "ec0f7f3083bdfef2b0583e1fd170525e6de1610f59044191fcddb6cec9b11b70", func := "sakia/sakialaw16.CloseTwice", spec := "closeTwice", unfollowed := true, recurses := true, apart := false }
def CloseTwiceSaid : Prop := closeTwiceRow.holds Try.pinned (OpenSpec.ofChange closeTwiceSpec)

/-- ITS FALSE NEIGHBOUR: 'it returns false'. Refute it at one input. -/
def closeTwiceWrong : ChangeSpec := { name := "closeTwice", fn := fun _ => fun
  | [d1, d2] => { results := [.lit (.bool false)], args := [d1, d2] }
  | _ => none }
def CloseTwiceWrongFalsely : Prop := closeTwiceRow.holds Try.pinned (OpenSpec.ofChange closeTwiceWrong)

/-- 'sakialaw16.CloseQueue': WHATEVER THE INPUT: true; the input reads as it did. -/
def closeQueueSpec : ChangeSpec := { name := "closeQueue", fn := fun _ => fun
  | [d1, d2] => { results := [.lit (.bool true)], args := [d1, d2] }
  | _ => none }
def closeQueueRow : OpenClaim := { program := "ytdoapbopldhakaa", sum := "ec0f7f3083bdfef2b0583e1fd170525e6de1610f59044191fcddb6cec9b11b70", func := "sakia/sakialaw16.CloseQueue", spec := "closeQueue", unfollowed := true, recurses := true, apart := false }
def CloseQueueSaid : Prop := closeQueueRow.holds Try.pinned (OpenSpec.ofChange closeQueueSpec)

/-- ITS FALSE NEIGHBOUR: 'it returns false'. Refute it at one input. -/
def closeQueueWrong : ChangeSpec := { name := "closeQueue", fn := fun _ => fun
  | [d1, d2] => { results := [.lit (.bool false)], args := [d1, d2] }
  | _ => none }
def CloseQueueWrongFalsely : Prop := closeQueueRow.holds Try.pinned (OpenSpec.ofChange closeQueueWrong)

/- THE SECOND FORM. 'bulk': how many values and letters a reading holds, each counted each time it is reached (what is shared counts as often as it is met; a slice's spare places count too). A statement '..UptoSaid' is the law's where the arguments, and the package variables that the reading takes, are together of bulk at most 1048576: NARROWER than '..Said'. Prove '..Said' where nothing that the law and all that it calls make is longer than what came in: it says more and counts as full. Else prove '..UptoSaid'. A law counts once. -/
mutual
def uptoBulk {H : Type} : DataW H → Nat
  | .lit (.string bytes) => bytes.length + 1
  | .lit _ => 1
  | .nil => 1
  | .ptr d => uptoBulk d + 1
  | .slice elems spare => uptoBulkAll elems + uptoBulkAll spare + 1
  | .agg parts => uptoBulkAll parts + 1
  | .iface _ d => uptoBulk d + 1
  | .map entries => uptoBulkEntries entries + 1
  | .held _ => 1
def uptoBulkAll {H : Type} : List (DataW H) → Nat
  | [] => 0
  | d :: r => uptoBulk d + uptoBulkAll r
def uptoBulkEntries {H : Type} : List (Lit × DataW H) → Nat
  | [] => 0
  | x :: r => uptoBulkEntry x + uptoBulkEntries r
def uptoBulkEntry {H : Type} : Lit × DataW H → Nat
  | (.string bytes, d) => bytes.length + uptoBulk d + 1
  | (_, d) => uptoBulk d + 1
 end
def uptoSmall : (H : Type) → List (DataW H) → Bool := fun _ ds => decide (uptoBulkAll ds ≤ 1048576)
def OpenSpec.upto (s : _root_.Go.ChangeSpec) : _root_.Go.OpenSpec := { _root_.Go.OpenSpec.ofChange s with cond := some uptoSmall }

/-- 'sakialaw16.CloseOne', WHERE WHAT IT READS IS OF BULK AT MOST 1048576: true; the input reads as it did. -/
def closeOneUptoRow : OpenClaim := { program := "ytdoapbopldhakaa", sum := "ec0f7f3083bdfef2b0583e1fd170525e6de1610f59044191fcddb6cec9b11b70", func := "sakia/sakialaw16.CloseOne", spec := "closeOne", unfollowed := true, recurses := true, apart := false, narrowed := true }
def CloseOneUptoSaid : Prop := closeOneUptoRow.holds Try.pinned (OpenSpec.upto closeOneSpec)

/-- 'sakialaw16.CloseStays', WHERE WHAT IT READS IS OF BULK AT MOST 1048576: true; the input reads as it did. -/
def closeStaysUptoRow : OpenClaim := { program := "ytdoapbopldhakaa", sum := "ec0f7f3083bdfef2b0583e1fd170525e6de1610f59044191fcddb6cec9b11b70", func := "sakia/sakialaw16.CloseStays", spec := "closeStays", unfollowed := true, recurses := true, apart := false, narrowed := true }
def CloseStaysUptoSaid : Prop := closeStaysUptoRow.holds Try.pinned (OpenSpec.upto closeStaysSpec)

/-- 'sakialaw16.CloseThree', WHERE WHAT IT READS IS OF BULK AT MOST 1048576: true; the input reads as it did. -/
def closeThreeUptoRow : OpenClaim := { program := "ytdoapbopldhakaa", sum := "ec0f7f3083bdfef2b0583e1fd170525e6de1610f59044191fcddb6cec9b11b70", func := "sakia/sakialaw16.CloseThree", spec := "closeThree", unfollowed := true, recurses := true, apart := false, narrowed := true }
def CloseThreeUptoSaid : Prop := closeThreeUptoRow.holds Try.pinned (OpenSpec.upto closeThreeSpec)

/-- 'sakialaw16.CloseTwice', WHERE WHAT IT READS IS OF BULK AT MOST 1048576: true; the input reads as it did. -/
def closeTwiceUptoRow : OpenClaim := { program := "ytdoapbopldhakaa", sum := "ec0f7f3083bdfef2b0583e1fd170525e6de1610f59044191fcddb6cec9b11b70", func := "sakia/sakialaw16.CloseTwice", spec := "closeTwice", unfollowed := true, recurses := true, apart := false, narrowed := true }
def CloseTwiceUptoSaid : Prop := closeTwiceUptoRow.holds Try.pinned (OpenSpec.upto closeTwiceSpec)

/-- 'sakialaw16.CloseQueue', WHERE WHAT IT READS IS OF BULK AT MOST 1048576: true; the input reads as it did. -/
def closeQueueUptoRow : OpenClaim := { program := "ytdoapbopldhakaa", sum := "ec0f7f3083bdfef2b0583e1fd170525e6de1610f59044191fcddb6cec9b11b70", func := "sakia/sakialaw16.CloseQueue", spec := "closeQueue", unfollowed := true, recurses := true, apart := false, narrowed := true }
def CloseQueueUptoSaid : Prop := closeQueueUptoRow.holds Try.pinned (OpenSpec.upto closeQueueSpec)

end Rows
end Go.Proofs.Ytdoapbopldhakaa
