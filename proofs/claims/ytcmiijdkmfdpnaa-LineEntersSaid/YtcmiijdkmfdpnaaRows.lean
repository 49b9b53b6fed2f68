/-
  No cell of these rows narrows 'for every input' (looked for: loops, veiled, ifaces, maps, wideKeys, modest, calm, conditions, laid).
  DERIVED. THE GIVEN ROWS OF THIS SEAT. 12 by the template 'for every input the law returns true; each argument reads behind the call as it read before'; 0 by the template 'total and deterministic' (their statements: YtcmiijdkmfdpnaaTotals.lean).
  GIVEN WITH THE SEED: the statements are not yours to turn. If you find one false, say at which input.
  Laid BY PROGRAM, IN A SANDBOX (cutbox-rows.mjs): the forced cells as the released guide's own fill.sh prints them over the translation d12caf5678ab0c57… (all of the seat's roots in one cut). By AI agents, Wed Nov 11 2026. No macro, syntax, notation, axiom, sorry.
-/
import Derived.Test.YtcmiijdkmfdpnaaChecked
import GoSem.Claim
import GoSem.ClaimJoined
import GoSem.ClaimMapViews
import Derived.JoinedTies
import Derived.KernelRfl
namespace Go.Proofs.Ytcmiijdkmfdpnaa
/- THE CELL 'sum', in the pinned program and in every row, IS THE sha256 OF THE DUMP (.gsa) THAT YtcmiijdkmfdpnaaProg.lean LOADS. Nothing in Lean hashes anything: it is a label: what it is worth is what the hold of that sum in a sandbox is worth. -/
noncomputable def Try.pinned : Pinned := { name := "ytcmiijdkmfdpnaa", sum := "d12caf5678ab0c57e0a2c9b3de1e9ae0ab99e87abc84f0d92cef981d712d5c9d", checked := Try.checked }
namespace Rows
def none {H : Type} : Left H := { results := [], args := [] }

/-- 'sakialaw08.WordTells': WHATEVER THE INPUT: true; the input reads as it did. -/
def wordTellsSpec : ChangeSpec := { name := "wordTells", fn := fun _ => fun
  | [d1, d2, d3, d4] => { results := [.lit (.bool true)], args := [d1, d2, d3, d4] }
  | _ => none }
def wordTellsRow : OpenClaim := { program := "ytcmiijdkmfdpnaa", sum := "d12caf5678ab0c57e0a2c9b3de1e9ae0ab99e87abc84f0d92cef981d712d5c9d", func := "sakia/sakialaw08.WordTells", spec := "wordTells", unfollowed := true, recurses := true, apart := false }
def WordTellsSaid : Prop := wordTellsRow.holds Try.pinned (OpenSpec.ofChange wordTellsSpec)

/-- ITS FALSE NEIGHBOUR: 'it returns false'. Refute it at one input. -/
def wordTellsWrong : ChangeSpec := { name := "wordTells", fn := fun _ => fun
  | [d1, d2, d3, d4] => { results := [.lit (.bool false)], args := [d1, d2, d3, d4] }
  | _ => none }
def WordTellsWrongFalsely : Prop := wordTellsRow.holds Try.pinned (OpenSpec.ofChange wordTellsWrong)

/-- 'sakialaw08.WordStays': WHATEVER THE INPUT: true; the input reads as it did. -/
def wordStaysSpec : ChangeSpec := { name := "wordStays", fn := fun _ => fun
  | [d1, d2, d3, d4] => { results := [.lit (.bool true)], args := [d1, d2, d3, d4] }
  | _ => none }
def wordStaysRow : OpenClaim := { program := "ytcmiijdkmfdpnaa", sum := "d12caf5678ab0c57e0a2c9b3de1e9ae0ab99e87abc84f0d92cef981d712d5c9d", func := "sakia/sakialaw08.WordStays", spec := "wordStays", unfollowed := true, recurses := true, apart := false }
def WordStaysSaid : Prop := wordStaysRow.holds Try.pinned (OpenSpec.ofChange wordStaysSpec)

/-- ITS FALSE NEIGHBOUR: 'it returns false'. Refute it at one input. -/
def wordStaysWrong : ChangeSpec := { name := "wordStays", fn := fun _ => fun
  | [d1, d2, d3, d4] => { results := [.lit (.bool false)], args := [d1, d2, d3, d4] }
  | _ => none }
def WordStaysWrongFalsely : Prop := wordStaysRow.holds Try.pinned (OpenSpec.ofChange wordStaysWrong)

/-- 'sakialaw08.WordOrder': WHATEVER THE INPUT: true; the input reads as it did. -/
def wordOrderSpec : ChangeSpec := { name := "wordOrder", fn := fun _ => fun
  | [d1, d2] => { results := [.lit (.bool true)], args := [d1, d2] }
  | _ => none }
def wordOrderRow : OpenClaim := { program := "ytcmiijdkmfdpnaa", sum := "d12caf5678ab0c57e0a2c9b3de1e9ae0ab99e87abc84f0d92cef981d712d5c9d", func := "sakia/sakialaw08.WordOrder", spec := "wordOrder", unfollowed := true, recurses := true, apart := false }
def WordOrderSaid : Prop := wordOrderRow.holds Try.pinned (OpenSpec.ofChange wordOrderSpec)

/-- ITS FALSE NEIGHBOUR: 'it returns false'. Refute it at one input. -/
def wordOrderWrong : ChangeSpec := { name := "wordOrder", fn := fun _ => fun
  | [d1, d2] => { results := [.lit (.bool false)], args := [d1, d2] }
  | _ => none }
def WordOrderWrongFalsely : Prop := wordOrderRow.holds Try.pinned (OpenSpec.ofChange wordOrderWrong)

/-- 'sakialaw08.WordModes': WHATEVER THE INPUT: true; the input reads as it did. -/
def wordModesSpec : ChangeSpec := { name := "wordModes", fn := fun _ => fun
  | [d1, d2, d3, d4] => { results := [.lit (.bool true)], args := [d1, d2, d3, d4] }
  | _ => none }
def wordModesRow : OpenClaim := { program := "ytcmiijdkmfdpnaa", sum := "d12caf5678ab0c57e0a2c9b3de1e9ae0ab99e87abc84f0d92cef981d712d5c9d", func := "sakia/sakialaw08.WordModes", spec := "wordModes", unfollowed := true, recurses := true, apart := false }
def WordModesSaid : Prop := wordModesRow.holds Try.pinned (OpenSpec.ofChange wordModesSpec)

/-- ITS FALSE NEIGHBOUR: 'it returns false'. Refute it at one input. -/
def wordModesWrong : ChangeSpec := { name := "wordModes", fn := fun _ => fun
  | [d1, d2, d3, d4] => { results := [.lit (.bool false)], args := [d1, d2, d3, d4] }
  | _ => none }
def WordModesWrongFalsely : Prop := wordModesRow.holds Try.pinned (OpenSpec.ofChange wordModesWrong)

/-- 'sakialaw08.WordBoth': WHATEVER THE INPUT: true; the input reads as it did. -/
def wordBothSpec : ChangeSpec := { name := "wordBoth", fn := fun _ => fun
  | [d1, d2] => { results := [.lit (.bool true)], args := [d1, d2] }
  | _ => none }
def wordBothRow : OpenClaim := { program := "ytcmiijdkmfdpnaa", sum := "d12caf5678ab0c57e0a2c9b3de1e9ae0ab99e87abc84f0d92cef981d712d5c9d", func := "sakia/sakialaw08.WordBoth", spec := "wordBoth", unfollowed := true, recurses := true, apart := false }
def WordBothSaid : Prop := wordBothRow.holds Try.pinned (OpenSpec.ofChange wordBothSpec)

/-- ITS FALSE NEIGHBOUR: 'it returns false'. Refute it at one input. -/
def wordBothWrong : ChangeSpec := { name := "wordBoth", fn := fun _ => fun
  | [d1, d2] => { results := [.lit (.bool false)], args := [d1, d2] }
  | _ => none }
def WordBothWrongFalsely : Prop := wordBothRow.holds Try.pinned (OpenSpec.ofChange wordBothWrong)

/-- 'sakialaw08.WordLater': WHATEVER THE INPUT: true; the input reads as it did. -/
def wordLaterSpec : ChangeSpec := { name := "wordLater", fn := fun _ => fun
  | [d1, d2, d3, d4, d5] => { results := [.lit (.bool true)], args := [d1, d2, d3, d4, d5] }
  | _ => none }
def wordLaterRow : OpenClaim := { program := "ytcmiijdkmfdpnaa", sum := "d12caf5678ab0c57e0a2c9b3de1e9ae0ab99e87abc84f0d92cef981d712d5c9d", func := "sakia/sakialaw08.WordLater", spec := "wordLater", unfollowed := true, recurses := true, apart := false }
def WordLaterSaid : Prop := wordLaterRow.holds Try.pinned (OpenSpec.ofChange wordLaterSpec)

/-- ITS FALSE NEIGHBOUR: 'it returns false'. Refute it at one input. -/
def wordLaterWrong : ChangeSpec := { name := "wordLater", fn := fun _ => fun
  | [d1, d2, d3, d4, d5] => { results := [.lit (.bool false)], args := [d1, d2, d3, d4, d5] }
  | _ => none }
def WordLaterWrongFalsely : Prop := wordLaterRow.holds Try.pinned (OpenSpec.ofChange wordLaterWrong)

/-- 'sakialaw05.LineTells': WHATEVER THE INPUT: true; the input reads as it did. -/
def lineTellsSpec : ChangeSpec := { name := "lineTells", fn := fun _ => fun
  | [d1, d2] => { results := [.lit (.bool true)], args := [d1, d2] }
  | _ => none }
def lineTellsRow : OpenClaim := { program := "ytcmiijdkmfdpnaa", sum := "d12caf5678ab0c57e0a2c9b3de1e9ae0ab99e87abc84f0d92cef981d712d5c9d", func := "sakia/sakialaw05.LineTells", spec := "lineTells", unfollowed := true, recurses := true, apart := false }
def LineTellsSaid : Prop := lineTellsRow.holds Try.pinned (OpenSpec.ofChange lineTellsSpec)

/-- ITS FALSE NEIGHBOUR: 'it returns false'. Refute it at one input. -/
def lineTellsWrong : ChangeSpec := { name := "lineTells", fn := fun _ => fun
  | [d1, d2] => { results := [.lit (.bool false)], args := [d1, d2] }
  | _ => none }
def LineTellsWrongFalsely : Prop := lineTellsRow.holds Try.pinned (OpenSpec.ofChange lineTellsWrong)

/-- 'sakialaw05.LineBack': WHATEVER THE INPUT: true; the input reads as it did. -/
def lineBackSpec : ChangeSpec := { name := "lineBack", fn := fun _ => fun
  | [d1, d2] => { results := [.lit (.bool true)], args := [d1, d2] }
  | _ => none }
def lineBackRow : OpenClaim := { program := "ytcmiijdkmfdpnaa", sum := "d12caf5678ab0c57e0a2c9b3de1e9ae0ab99e87abc84f0d92cef981d712d5c9d", func := "sakia/sakialaw05.LineBack", spec := "lineBack", unfollowed := true, recurses := true, apart := false }
def LineBackSaid : Prop := lineBackRow.holds Try.pinned (OpenSpec.ofChange lineBackSpec)

/-- ITS FALSE NEIGHBOUR: 'it returns false'. Refute it at one input. -/
def lineBackWrong : ChangeSpec := { name := "lineBack", fn := fun _ => fun
  | [d1, d2] => { results := [.lit (.bool false)], args := [d1, d2] }
  | _ => none }
def LineBackWrongFalsely : Prop := lineBackRow.holds Try.pinned (OpenSpec.ofChange lineBackWrong)

/-- 'sakialaw05.LineLeaves': WHATEVER THE INPUT: true; the input reads as it did. -/
def lineLeavesSpec : ChangeSpec := { name := "lineLeaves", fn := fun _ => fun
  | [d1, d2, d3] => { results := [.lit (.bool true)], args := [d1, d2, d3] }
  | _ => none }
def lineLeavesRow : OpenClaim := { program := "ytcmiijdkmfdpnaa", sum := "d12caf5678ab0c57e0a2c9b3de1e9ae0ab99e87abc84f0d92cef981d712d5c9d", func := "sakia/sakialaw05.LineLeaves", spec := "lineLeaves", unfollowed := true, recurses := true, apart := false }
def LineLeavesSaid : Prop := lineLeavesRow.holds Try.pinned (OpenSpec.ofChange lineLeavesSpec)

/-- ITS FALSE NEIGHBOUR: 'it returns false'. Refute it at one input. -/
def lineLeavesWrong : ChangeSpec := { name := "lineLeaves", fn := fun _ => fun
  | [d1, d2, d3] => { results := [.lit (.bool false)], args := [d1, d2, d3] }
  | _ => none }
def LineLeavesWrongFalsely : Prop := lineLeavesRow.holds Try.pinned (OpenSpec.ofChange lineLeavesWrong)

/-- 'sakialaw05.LineServes': WHATEVER THE INPUT: true; the input reads as it did. -/
def lineServesSpec : ChangeSpec := { name := "lineServes", fn := fun _ => fun
  | [d] => { results := [.lit (.bool true)], args := [d] }
  | _ => none }
def lineServesRow : OpenClaim := { program := "ytcmiijdkmfdpnaa", sum := "d12caf5678ab0c57e0a2c9b3de1e9ae0ab99e87abc84f0d92cef981d712d5c9d", func := "sakia/sakialaw05.LineServes", spec := "lineServes", unfollowed := true, recurses := true, apart := false }
def LineServesSaid : Prop := lineServesRow.holds Try.pinned (OpenSpec.ofChange lineServesSpec)

/-- ITS FALSE NEIGHBOUR: 'it returns false'. Refute it at one input. -/
def lineServesWrong : ChangeSpec := { name := "lineServes", fn := fun _ => fun
  | [d] => { results := [.lit (.bool false)], args := [d] }
  | _ => none }
def LineServesWrongFalsely : Prop := lineServesRow.holds Try.pinned (OpenSpec.ofChange lineServesWrong)

/-- 'sakialaw05.LineTurns': WHATEVER THE INPUT: true; the input reads as it did. -/
def lineTurnsSpec : ChangeSpec := { name := "lineTurns", fn := fun _ => fun
  | [d1, d2, d3, d4] => { results := [.lit (.bool true)], args := [d1, d2, d3, d4] }
  | _ => none }
def lineTurnsRow : OpenClaim := { program := "ytcmiijdkmfdpnaa", sum := "d12caf5678ab0c57e0a2c9b3de1e9ae0ab99e87abc84f0d92cef981d712d5c9d", func := "sakia/sakialaw05.LineTurns", spec := "lineTurns", unfollowed := true, recurses := true, apart := false }
def LineTurnsSaid : Prop := lineTurnsRow.holds Try.pinned (OpenSpec.ofChange lineTurnsSpec)

/-- ITS FALSE NEIGHBOUR: 'it returns false'. Refute it at one input. -/
def lineTurnsWrong : ChangeSpec := { name := "lineTurns", fn := fun _ => fun
  | [d1, d2, d3, d4] => { results := [.lit (.bool false)], args := [d1, d2, d3, d4] }
  | _ => none }
def LineTurnsWrongFalsely : Prop := lineTurnsRow.holds Try.pinned (OpenSpec.ofChange lineTurnsWrong)

/-- 'sakialaw05.LineEnters': WHATEVER THE INPUT: true; the input reads as it did. -/
def lineEntersSpec : ChangeSpec := { name := "lineEnters", fn := fun _ => fun
  | [d] => { results := [.lit (.bool true)], args := [d] }
  | _ => none }
def lineEntersRow : OpenClaim := { program := "ytcmiijdkmfdpnaa", sum := "d12caf5678ab0c57e0a2c9b3de1e9ae0ab99e87abc84f0d92cef981d712d5c9d", func := "sakia/sakialaw05.LineEnters", spec := "lineEnters", unfollowed := true, recurses := true, apart := false }
def LineEntersSaid : Prop := lineEntersRow.holds Try.pinned (OpenSpec.ofChange lineEntersSpec)

/-- ITS FALSE NEIGHBOUR: 'it returns false'. Refute it at one input. -/
def lineEntersWrong : ChangeSpec := { name := "lineEnters", fn := fun _ => fun
  | [d] => { results := [.lit (.bool false)], args := [d] }
  | _ => none }
def LineEntersWrongFalsely : Prop := lineEntersRow.holds Try.pinned (OpenSpec.ofChange lineEntersWrong)

/- THE SECOND FORM. 'bulk': how many values and letters a reading holds, each counted each time it is reached (what is shared counts as often as it is met; a slice's spare places count too). A statement '..UptoSaid' is the law's where the arguments, and the package variables that the reading takes, are together of bulk at most 1048576: NARROWER than '..Said'. Prove '..Said' where nothing that the law and all that it calls make is longer than what came in: it says more and counts as full. Else prove '..UptoSaid'. A law counts once. -/
mutual
def uptoBulk {H : Type} : DataW H → Nat
  | .lit (.string bytes) => bytes.length + 1
  | .lit _ => 1
  | .nil => 1
  | .ptr d => uptoBulk d + 1
  | .slice elems spare => uptoBulkAll elems + uptoBulkAll spare + 1
  | .agg parts => uptoBulkAll parts + 1
  | .iface _ d => uptoBulk d + 1
  | .map entries => uptoBulkEntries entries + 1
  | .held _ => 1
def uptoBulkAll {H : Type} : List (DataW H) → Nat
  | [] => 0
  | d :: r => uptoBulk d + uptoBulkAll r
def uptoBulkEntries {H : Type} : List (Lit × DataW H) → Nat
  | [] => 0
  | x :: r => uptoBulkEntry x + uptoBulkEntries r
def uptoBulkEntry {H : Type} : Lit × DataW H → Nat
  | (.string bytes, d) => bytes.length + uptoBulk d + 1
  | (_, d) => uptoBulk d + 1
 end
def uptoSmall : (H : Type) → List (DataW H) → Bool := fun _ ds => decide (uptoBulkAll ds ≤ 1048576)
def OpenSpec.upto (s : _root_.Go.ChangeSpec) : _root_.Go.OpenSpec := { _root_.Go.OpenSpec.ofChange s with cond := some uptoSmall }

/-- 'sakialaw08.WordTells', WHERE WHAT IT READS IS OF BULK AT MOST 1048576: true; the input reads as it did. -/
def wordTellsUptoRow : OpenClaim := { program := "ytcmiijdkmfdpnaa", sum := "d12caf5678ab0c57e0a2c9b3de1e9ae0ab99e87abc84f0d92cef981d712d5c9d", func := "sakia/sakialaw08.WordTells", spec := "wordTells", unfollowed := true, recurses := true, apart := false, narrowed := true }
def WordTellsUptoSaid : Prop := wordTellsUptoRow.holds Try.pinned (OpenSpec.upto wordTellsSpec)

/-- 'sakialaw08.WordStays', WHERE WHAT IT READS IS OF BULK AT MOST 1048576: true; the input reads as it did. -/
def wordStaysUptoRow : OpenClaim := { program := "ytcmiijdkmfdpnaa", sum := "d12caf5678ab0c57e0a2c9b3de1e9ae0ab99e87abc84f0d92cef981d712d5c9d", func := "sakia/sakialaw08.WordStays", spec := "wordStays", unfollowed := true, recurses := true, apart := false, narrowed := true }
def WordStaysUptoSaid : Prop := wordStaysUptoRow.holds Try.pinned (OpenSpec.upto wordStaysSpec)

/-- 'sakialaw08.WordOrder', WHERE WHAT IT READS IS OF BULK AT MOST 1048576: true; the input reads as it did. -/
def wordOrderUptoRow : OpenClaim := { program := "ytcmiijdkmfdpnaa", sum := "d12caf5678ab0c57e0a2c9b3de1e9ae0ab99e87abc84f0d92cef981d712d5c9d", func := "sakia/sakialaw08.WordOrder", spec := "wordOrder", unfollowed := true, recurses := true, apart := false, narrowed := true }
def WordOrderUptoSaid : Prop := wordOrderUptoRow.holds Try.pinned (OpenSpec.upto wordOrderSpec)

/-- 'sakialaw08.WordModes', WHERE WHAT IT READS IS OF BULK AT MOST 1048576: true; the input reads as it did. -/
def wordModesUptoRow : OpenClaim := { program := "ytcmiijdkmfdpnaa", sum := "d12caf5678ab0c57e0a2c9b3de1e9ae0ab99e87abc84f0d92cef981d712d5c9d", func := "sakia/sakialaw08.WordModes", spec := "wordModes", unfollowed := true, recurses := true, apart := false, narrowed := true }
def WordModesUptoSaid : Prop := wordModesUptoRow.holds Try.pinned (OpenSpec.upto wordModesSpec)

/-- 'sakialaw08.WordBoth', WHERE WHAT IT READS IS OF BULK AT MOST 1048576: true; the input reads as it did. -/
def wordBothUptoRow : OpenClaim := { program := "ytcmiijdkmfdpnaa", sum := "d12caf5678ab0c57e0a2c9b3de1e9ae0ab99e87abc84f0d92cef981d712d5c9d", func := "sakia/sakialaw08.WordBoth", spec := "wordBoth", unfollowed := true, recurses := true, apart := false, narrowed := true }
def WordBothUptoSaid : Prop := wordBothUptoRow.holds Try.pinned (OpenSpec.upto wordBothSpec)

/-- 'sakialaw08.WordLater', WHERE WHAT IT READS IS OF BULK AT MOST 1048576: true; the input reads as it did. -/
def wordLaterUptoRow : OpenClaim := { program := "ytcmiijdkmfdpnaa", sum := "d12caf5678ab0c57e0a2c9b3de1e9ae0ab99e87abc84f0d92cef981d712d5c9d", func := "sakia/sakialaw08.WordLater", spec := "wordLater", unfollowed := true, recurses := true, apart := false, narrowed := true }
def WordLaterUptoSaid : Prop := wordLaterUptoRow.holds Try.pinned (OpenSpec.upto wordLaterSpec)

/-- 'sakialaw05.LineTells', WHERE WHAT IT READS IS OF BULK AT MOST 1048576: true; the input reads as it did. -/
def lineTellsUptoRow : OpenClaim := { program := "ytcmiijdkmfdpnaa", sum := "d12caf5678ab0c57e0a2c9b3de1e9ae0ab99e87abc84f0d92cef981d712d5c9d", func := "sakia/sakialaw05.LineTells", spec := "lineTells", unfollowed := true, recurses := true, apart := false, narrowed := true }
def LineTellsUptoSaid : Prop := lineTellsUptoRow.holds Try.pinned (OpenSpec.upto lineTellsSpec)

/-- 'sakialaw05.LineBack', WHERE WHAT IT READS IS OF BULK AT MOST 1048576: true; the input reads as it did. -/
def lineBackUptoRow : OpenClaim := { program := "ytcmiijdkmfdpnaa", sum := "d12caf5678ab0c57e0a2c9b3de1e9ae0ab99e87abc84f0d92cef981d712d5c9d", func := "sakia/sakialaw05.LineBack", spec := "lineBack", unfollowed := true, recurses := true, apart := false, narrowed := true }
def LineBackUptoSaid : Prop := lineBackUptoRow.holds Try.pinned (OpenSpec.upto lineBackSpec)

/-- 'sakialaw05.LineLeaves', WHERE WHAT IT READS IS OF BULK AT MOST 1048576: true; the input reads as it did. -/
def lineLeavesUptoRow : OpenClaim := { program := "ytcmiijdkmfdpnaa", sum := "d12caf5678ab0c57e0a2c9b3de1e9ae0ab99e87abc84f0d92cef981d712d5c9d", func := "sakia/sakialaw05.LineLeaves", spec := "lineLeaves", unfollowed := true, recurses := true, apart := false, narrowed := true }
def LineLeavesUptoSaid : Prop := lineLeavesUptoRow.holds Try.pinned (OpenSpec.upto lineLeavesSpec)

/-- 'sakialaw05.LineServes', WHERE WHAT IT READS IS OF BULK AT MOST 1048576: true; the input reads as it did. -/
def lineServesUptoRow : OpenClaim := { program := "ytcmiijdkmfdpnaa", sum := "d12caf5678ab0c57e0a2c9b3de1e9ae0ab99e87abc84f0d92cef981d712d5c9d", func := "sakia/sakialaw05.LineServes", spec := "lineServes", unfollowed := true, recurses := true, apart := false, narrowed := true }
def LineServesUptoSaid : Prop := lineServesUptoRow.holds Try.pinned (OpenSpec.upto lineServesSpec)

/-- 'sakialaw05.LineTurns', WHERE WHAT IT READS IS OF BULK AT MOST 1048576: true; the input reads as it did. -/
def lineTurnsUptoRow : OpenClaim := { program := "ytcmiijdkmfdpnaa", sum := "d12caf5678ab0c57e0a2c9b3de1e9ae0ab99e87abc84f0d92cef981d712d5c9d", func := "sakia/sakialaw05.LineTurns", spec := "lineTurns", unfollowed := true, recurses := true, apart := false, narrowed := true }
def LineTurnsUptoSaid : Prop := lineTurnsUptoRow.holds Try.pinned (OpenSpec.upto lineTurnsSpec)

/-- 'sakialaw05.LineEnters', WHERE WHAT IT READS IS OF BULK AT MOST 1048576: true; the input reads as it did. -/
def lineEntersUptoRow : OpenClaim := { program := "ytcmiijdkmfdpnaa", sum := "d12caf5678ab0c57e0a2c9b3de1e9ae0ab99e87abc84f0d92cef981d712d5c9d", func := "sakia/sakialaw05.LineEnters", spec := "lineEnters", unfollowed := true, recurses := true, apart := false, narrowed := true }
def LineEntersUptoSaid : Prop := lineEntersUptoRow.holds Try.pinned (OpenSpec.upto lineEntersSpec)

end Rows
end Go.Proofs.Ytcmiijdkmfdpnaa
