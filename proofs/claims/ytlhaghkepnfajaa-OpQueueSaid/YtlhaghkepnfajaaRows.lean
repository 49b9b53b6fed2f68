/-
  No cell of these rows narrows 'for every input' (looked for: loops, veiled, ifaces, maps, wideKeys, modest, calm, conditions, laid).
  DERIVED. THE GIVEN ROWS OF THIS SEAT. 11 by the template 'for every input the law returns true; each argument reads behind the call as it read before'; 0 by the template 'total and deterministic' (their statements: YtlhaghkepnfajaaTotals.lean).
  GIVEN WITH THE SEED: the statements are not yours to turn. If you find one false, say at which input.
  Laid BY PROGRAM, IN A SANDBOX (cutbox-rows.mjs): the forced cells as the released guide's own fill.sh prints them over the translation 3984f637286e3a01… (all of the seat's roots in one cut). By AI agents, Wed Nov 11 2026. No macro, syntax, notation, axiom, sorry.
-/
import Derived.Test.YtlhaghkepnfajaaChecked
import GoSem.Claim
import GoSem.ClaimJoined
import GoSem.ClaimMapViews
import Derived.JoinedTies
import Derived.KernelRfl
namespace Go.Proofs.Ytlhaghkepnfajaa
/- THE CELL 'sum', in the pinned program and in every row, IS THE sha256 OF THE DUMP (.gsa) THAT YtlhaghkepnfajaaProg.lean LOADS. Nothing in Lean hashes anything: it is a label: what it is worth is what the hold of that sum in a sandbox is worth. -/
noncomputable def Try.pinned : Pinned := { name := "ytlhaghkepnfajaa", sum := "3984f637286e3a01d5fdf5eebe43d0f04ed577fd0261135b5151882c444b5829", checked := Try.checked }
namespace Rows
def none {H : Type} : Left H := { results := [], args := [] }

/-- 'sakialaw11.OpTells': WHATEVER THE INPUT: true; the input reads as it did. -/
def opTellsSpec : ChangeSpec := { name := "opTells", fn := fun _ => fun
  | [d1, d2, d3, d4] => { results := [.lit (.bool true)], args := [d1, d2, d3, d4] }
  | _ => none }
def opTellsRow : OpenClaim := { program := "ytlhaghkepnfajaa", sum := "3984f637286e3a01d5fdf5eebe43d0f04ed577fd0261135b5151882c444b5829", func := "sakia/sakialaw11.OpTells", spec := "opTells", unfollowed := true, recurses := true, apart := false }
def OpTellsSaid : Prop := opTellsRow.holds Try.pinned (OpenSpec.ofChange opTellsSpec)

/-- ITS FALSE NEIGHBOUR: 'it returns false'. Refute it at one input. -/
def opTellsWrong : ChangeSpec := { name := "opTells", fn := fun _ => fun
  | [d1, d2, d3, d4] => { results := [.lit (.bool false)], args := [d1, d2, d3, d4] }
  | _ => none }
def OpTellsWrongFalsely : Prop := opTellsRow.holds Try.pinned (OpenSpec.ofChange opTellsWrong)

/-- 'sakialaw11.OpMay': WHATEVER THE INPUT: true; the input reads as it did. -/
def opMaySpec : ChangeSpec := { name := "opMay", fn := fun _ => fun
  | [d1, d2, d3, d4] => { results := [.lit (.bool true)], args := [d1, d2, d3, d4] }
  | _ => none }
def opMayRow : OpenClaim := { program := "ytlhaghkepnfajaa", sum := "3984f637286e3a01d5fdf5eebe43d0f04ed577fd0261135b5151882c444b5829", func := "sakia/sakialaw11.OpMay", spec := "opMay", unfollowed := true, recurses := true, apart := false }
def OpMaySaid : Prop := opMayRow.holds Try.pinned (OpenSpec.ofChange opMaySpec)

/-- ITS FALSE NEIGHBOUR: 'it returns false'. Refute it at one input. -/
def opMayWrong : ChangeSpec := { name := "opMay", fn := fun _ => fun
  | [d1, d2, d3, d4] => { results := [.lit (.bool false)], args := [d1, d2, d3, d4] }
  | _ => none }
def OpMayWrongFalsely : Prop := opMayRow.holds Try.pinned (OpenSpec.ofChange opMayWrong)

/-- 'sakialaw11.OpEnds': WHATEVER THE INPUT: true; the input reads as it did. -/
def opEndsSpec : ChangeSpec := { name := "opEnds", fn := fun _ => fun
  | [d1, d2] => { results := [.lit (.bool true)], args := [d1, d2] }
  | _ => none }
def opEndsRow : OpenClaim := { program := "ytlhaghkepnfajaa", sum := "3984f637286e3a01d5fdf5eebe43d0f04ed577fd0261135b5151882c444b5829", func := "sakia/sakialaw11.OpEnds", spec := "opEnds", unfollowed := true, recurses := true, apart := false }
def OpEndsSaid : Prop := opEndsRow.holds Try.pinned (OpenSpec.ofChange opEndsSpec)

/-- ITS FALSE NEIGHBOUR: 'it returns false'. Refute it at one input. -/
def opEndsWrong : ChangeSpec := { name := "opEnds", fn := fun _ => fun
  | [d1, d2] => { results := [.lit (.bool false)], args := [d1, d2] }
  | _ => none }
def OpEndsWrongFalsely : Prop := opEndsRow.holds Try.pinned (OpenSpec.ofChange opEndsWrong)

/-- 'sakialaw11.OpSides': WHATEVER THE INPUT: true; the input reads as it did. -/
def opSidesSpec : ChangeSpec := { name := "opSides", fn := fun _ => fun
  | [d] => { results := [.lit (.bool true)], args := [d] }
  | _ => none }
def opSidesRow : OpenClaim := { program := "ytlhaghkepnfajaa", sum := "3984f637286e3a01d5fdf5eebe43d0f04ed577fd0261135b5151882c444b5829", func := "sakia/sakialaw11.OpSides", spec := "opSides", unfollowed := true, recurses := true, apart := false }
def OpSidesSaid : Prop := opSidesRow.holds Try.pinned (OpenSpec.ofChange opSidesSpec)

/-- ITS FALSE NEIGHBOUR: 'it returns false'. Refute it at one input. -/
def opSidesWrong : ChangeSpec := { name := "opSides", fn := fun _ => fun
  | [d] => { results := [.lit (.bool false)], args := [d] }
  | _ => none }
def OpSidesWrongFalsely : Prop := opSidesRow.holds Try.pinned (OpenSpec.ofChange opSidesWrong)

/-- 'sakialaw12.ThreadTells': WHATEVER THE INPUT: true; the input reads as it did. -/
def threadTellsSpec : ChangeSpec := { name := "threadTells", fn := fun _ => fun
  | [d1, d2, d3, d4, d5] => { results := [.lit (.bool true)], args := [d1, d2, d3, d4, d5] }
  | _ => none }
def threadTellsRow : OpenClaim := { program := "ytlhaghkepnfajaa", sum := "3984f637286e3a01d5fdf5eebe43d0f04ed577fd0261135b5151882c444b5829", func := "sakia/sakialaw12.ThreadTells", spec := "threadTells", apart := false }
def ThreadTellsSaid : Prop := threadTellsRow.holds Try.pinned (OpenSpec.ofChange threadTellsSpec)

/-- ITS FALSE NEIGHBOUR: 'it returns false'. Refute it at one input. -/
def threadTellsWrong : ChangeSpec := { name := "threadTells", fn := fun _ => fun
  | [d1, d2, d3, d4, d5] => { results := [.lit (.bool false)], args := [d1, d2, d3, d4, d5] }
  | _ => none }
def ThreadTellsWrongFalsely : Prop := threadTellsRow.holds Try.pinned (OpenSpec.ofChange threadTellsWrong)

/-- 'sakialaw12.ThreadStays': WHATEVER THE INPUT: true; the input reads as it did. -/
def threadStaysSpec : ChangeSpec := { name := "threadStays", fn := fun _ => fun
  | [d1, d2, d3, d4, d5] => { results := [.lit (.bool true)], args := [d1, d2, d3, d4, d5] }
  | _ => none }
def threadStaysRow : OpenClaim := { program := "ytlhaghkepnfajaa", sum := "3984f637286e3a01d5fdf5eebe43d0f04ed577fd0261135b5151882c444b5829", func := "sakia/sakialaw12.ThreadStays", spec := "threadStays", apart := false }
def ThreadStaysSaid : Prop := threadStaysRow.holds Try.pinned (OpenSpec.ofChange threadStaysSpec)

/-- ITS FALSE NEIGHBOUR: 'it returns false'. Refute it at one input. -/
def threadStaysWrong : ChangeSpec := { name := "threadStays", fn := fun _ => fun
  | [d1, d2, d3, d4, d5] => { results := [.lit (.bool false)], args := [d1, d2, d3, d4, d5] }
  | _ => none }
def ThreadStaysWrongFalsely : Prop := threadStaysRow.holds Try.pinned (OpenSpec.ofChange threadStaysWrong)

/-- 'sakialaw12.ThreadBegins': WHATEVER THE INPUT: true; the input reads as it did. -/
def threadBeginsSpec : ChangeSpec := { name := "threadBegins", fn := fun _ => fun
  | [d1, d2, d3, d4] => { results := [.lit (.bool true)], args := [d1, d2, d3, d4] }
  | _ => none }
def threadBeginsRow : OpenClaim := { program := "ytlhaghkepnfajaa", sum := "3984f637286e3a01d5fdf5eebe43d0f04ed577fd0261135b5151882c444b5829", func := "sakia/sakialaw12.ThreadBegins", spec := "threadBegins", apart := false }
def ThreadBeginsSaid : Prop := threadBeginsRow.holds Try.pinned (OpenSpec.ofChange threadBeginsSpec)

/-- ITS FALSE NEIGHBOUR: 'it returns false'. Refute it at one input. -/
def threadBeginsWrong : ChangeSpec := { name := "threadBegins", fn := fun _ => fun
  | [d1, d2, d3, d4] => { results := [.lit (.bool false)], args := [d1, d2, d3, d4] }
  | _ => none }
def ThreadBeginsWrongFalsely : Prop := threadBeginsRow.holds Try.pinned (OpenSpec.ofChange threadBeginsWrong)

/-- 'sakialaw12.ThreadParks': WHATEVER THE INPUT: true; the input reads as it did. -/
def threadParksSpec : ChangeSpec := { name := "threadParks", fn := fun _ => fun
  | [d1, d2] => { results := [.lit (.bool true)], args := [d1, d2] }
  | _ => none }
def threadParksRow : OpenClaim := { program := "ytlhaghkepnfajaa", sum := "3984f637286e3a01d5fdf5eebe43d0f04ed577fd0261135b5151882c444b5829", func := "sakia/sakialaw12.ThreadParks", spec := "threadParks", apart := false }
def ThreadParksSaid : Prop := threadParksRow.holds Try.pinned (OpenSpec.ofChange threadParksSpec)

/-- ITS FALSE NEIGHBOUR: 'it returns false'. Refute it at one input. -/
def threadParksWrong : ChangeSpec := { name := "threadParks", fn := fun _ => fun
  | [d1, d2] => { results := [.lit (.bool false)], args := [d1, d2] }
  | _ => none }
def ThreadParksWrongFalsely : Prop := threadParksRow.holds Try.pinned (OpenSpec.ofChange threadParksWrong)

/-- 'sakialaw12.ThreadEnds': WHATEVER THE INPUT: true; the input reads as it did. -/
def threadEndsSpec : ChangeSpec := { name := "threadEnds", fn := fun _ => fun
  | [d1, d2, d3] => { results := [.lit (.bool true)], args := [d1, d2, d3] }
  | _ => none }
def threadEndsRow : OpenClaim := { program := "ytlhaghkepnfajaa", sum := "3984f637286e3a01d5fdf5eebe43d0f04ed577fd0261135b5151882c444b5829", func := "sakia/sakialaw12.ThreadEnds", spec := "threadEnds", apart := false }
def ThreadEndsSaid : Prop := threadEndsRow.holds Try.pinned (OpenSpec.ofChange threadEndsSpec)

/-- ITS FALSE NEIGHBOUR: 'it returns false'. Refute it at one input. -/
def threadEndsWrong : ChangeSpec := { name := "threadEnds", fn := fun _ => fun
  | [d1, d2, d3] => { results := [.lit (.bool false)], args := [d1, d2, d3] }
  | _ => none }
def ThreadEndsWrongFalsely : Prop := threadEndsRow.holds Try.pinned (OpenSpec.ofChange threadEndsWrong)

/-- 'sakialaw12.ThreadOnce': WHATEVER THE INPUT: true; the input reads as it did. -/
def threadOnceSpec : ChangeSpec := { name := "threadOnce", fn := fun _ => fun
  | [d1, d2] => { results := [.lit (.bool true)], args := [d1, d2] }
  | _ => none }
def threadOnceRow : OpenClaim := { program := "ytlhaghkepnfajaa", sum := "3984f637286e3a01d5fdf5eebe43d0f04ed577fd0261135b5151882c444b5829", func := "sakia/sakialaw12.ThreadOnce", spec := "threadOnce", apart := false }
def ThreadOnceSaid : Prop := threadOnceRow.holds Try.pinned (OpenSpec.ofChange threadOnceSpec)

/-- ITS FALSE NEIGHBOUR: 'it returns false'. Refute it at one input. -/
def threadOnceWrong : ChangeSpec := { name := "threadOnce", fn := fun _ => fun
  | [d1, d2] => { results := [.lit (.bool false)], args := [d1, d2] }
  | _ => none }
def ThreadOnceWrongFalsely : Prop := threadOnceRow.holds Try.pinned (OpenSpec.ofChange threadOnceWrong)

/-- 'sakialaw11.OpQueue': WHATEVER THE INPUT: true; the input reads as it did. -/
def opQueueSpec : ChangeSpec := { name := "opQueue", fn := fun _ => fun
  | [d1, d2] => { results := [.lit (.bool true)], args := [d1, d2] }
  | _ => none }
def opQueueRow : OpenClaim := { program := "ytlhaghkepnfajaa", sum := "3984f637286e3a01d5fdf5eebe43d0f04ed577fd0261135b5151882c444b5829", func := "sakia/sakialaw11.OpQueue", spec := "opQueue", unfollowed := true, recurses := true, apart := false }
def OpQueueSaid : Prop := opQueueRow.holds Try.pinned (OpenSpec.ofChange opQueueSpec)

/-- ITS FALSE NEIGHBOUR: 'it returns false'. Refute it at one input. -/
def opQueueWrong : ChangeSpec := { name := "opQueue", fn := fun _ => fun
  | [d1, d2] => { results := [.lit (.bool false)], args := [d1, d2] }
  | _ => none }
def OpQueueWrongFalsely : Prop := opQueueRow.holds Try.pinned (OpenSpec.ofChange opQueueWrong)

/- THE SECOND FORM. 'bulk': how many values and letters a reading holds, each counted each time it is reached (what is shared counts as often as it is met; a slice's spare places count too). A statement '..UptoSaid' is the law's where the arguments, and the package variables that the reading takes, are together of bulk at most 1048576: NARROWER than '..Said'. Prove '..Said' where nothing that the law and all that it calls make is longer than what came in: it says more and counts as full. Else prove '..UptoSaid'. A law counts once. -/
mutual
def uptoBulk {H : Type} : DataW H → Nat
  | .lit (.string bytes) => bytes.length + 1
  | .lit _ => 1
  | .nil => 1
  | .ptr d => uptoBulk d + 1
  | .slice elems spare => uptoBulkAll elems + uptoBulkAll spare + 1
  | .agg parts => uptoBulkAll parts + 1
  | .iface _ d => uptoBulk d + 1
  | .map entries => uptoBulkEntries entries + 1
  | .held _ => 1
def uptoBulkAll {H : Type} : List (DataW H) → Nat
  | [] => 0
  | d :: r => uptoBulk d + uptoBulkAll r
def uptoBulkEntries {H : Type} : List (Lit × DataW H) → Nat
  | [] => 0
  | x :: r => uptoBulkEntry x + uptoBulkEntries r
def uptoBulkEntry {H : Type} : Lit × DataW H → Nat
  | (.string bytes, d) => bytes.length + uptoBulk d + 1
  | (_, d) => uptoBulk d + 1
 end
def uptoSmall : (H : Type) → List (DataW H) → Bool := fun _ ds => decide (uptoBulkAll ds ≤ 1048576)
def OpenSpec.upto (s : _root_.Go.ChangeSpec) : _root_.Go.OpenSpec := { _root_.Go.OpenSpec.ofChange s with cond := some uptoSmall }

/-- 'sakialaw11.OpTells', WHERE WHAT IT READS IS OF BULK AT MOST 1048576: true; the input reads as it did. -/
def opTellsUptoRow : OpenClaim := { program := "ytlhaghkepnfajaa", sum := "3984f637286e3a01d5fdf5eebe43d0f04ed577fd0261135b5151882c444b5829", func := "sakia/sakialaw11.OpTells", spec := "opTells", unfollowed := true, recurses := true, apart := false, narrowed := true }
def OpTellsUptoSaid : Prop := opTellsUptoRow.holds Try.pinned (OpenSpec.upto opTellsSpec)

/-- 'sakialaw11.OpMay', WHERE WHAT IT READS IS OF BULK AT MOST 1048576: true; the input reads as it did. -/
def opMayUptoRow : OpenClaim := { program := "ytlhaghkepnfajaa", sum := "3984f637286e3a01d5fdf5eebe43d0f04ed577fd0261135b5151882c444b5829", func := "sakia/sakialaw11.OpMay", spec := "opMay", unfollowed := true, recurses := true, apart := false, narrowed := true }
def OpMayUptoSaid : Prop := opMayUptoRow.holds Try.pinned (OpenSpec.upto opMaySpec)

/-- 'sakialaw11.OpEnds', WHERE WHAT IT READS IS OF BULK AT MOST 1048576: true; the input reads as it did. -/
def opEndsUptoRow : OpenClaim := { program := "ytlhaghkepnfajaa", sum := "3984f637286e3a01d5fdf5eebe43d0f04ed577fd0261135b5151882c444b5829", func := "sakia/sakialaw11.OpEnds", spec := "opEnds", unfollowed := true, recurses := true, apart := false, narrowed := true }
def OpEndsUptoSaid : Prop := opEndsUptoRow.holds Try.pinned (OpenSpec.upto opEndsSpec)

/-- 'sakialaw11.OpSides', WHERE WHAT IT READS IS OF BULK AT MOST 1048576: true; the input reads as it did. -/
def opSidesUptoRow : OpenClaim := { program := "ytlhaghkepnfajaa", sum := "3984f637286e3a01d5fdf5eebe43d0f04ed577fd0261135b5151882c444b5829", func := "sakia/sakialaw11.OpSides", spec := "opSides", unfollowed := true, recurses := true, apart := false, narrowed := true }
def OpSidesUptoSaid : Prop := opSidesUptoRow.holds Try.pinned (OpenSpec.upto opSidesSpec)

/-- 'sakialaw12.ThreadTells', WHERE WHAT IT READS IS OF BULK AT MOST 1048576: true; the input reads as it did. -/
def threadTellsUptoRow : OpenClaim := { program := "ytlhaghkepnfajaa", sum := "3984f637286e3a01d5fdf5eebe43d0f04ed577fd0261135b5151882c444b5829", func := "sakia/sakialaw12.ThreadTells", spec := "threadTells", apart := false, narrowed := true }
def ThreadTellsUptoSaid : Prop := threadTellsUptoRow.holds Try.pinned (OpenSpec.upto threadTellsSpec)

/-- 'sakialaw12.ThreadStays', WHERE WHAT IT READS IS OF BULK AT MOST 1048576: true; the input reads as it did. -/
def threadStaysUptoRow : OpenClaim := { program := "ytlhaghkepnfajaa", sum := "3984f637286e3a01d5fdf5eebe43d0f04ed577fd0261135b5151882c444b5829", func := "sakia/sakialaw12.ThreadStays", spec := "threadStays", apart := false, narrowed := true }
def ThreadStaysUptoSaid : Prop := threadStaysUptoRow.holds Try.pinned (OpenSpec.upto threadStaysSpec)

/-- 'sakialaw12.ThreadBegins', WHERE WHAT IT READS IS OF BULK AT MOST 1048576: true; the input reads as it did. -/
def threadBeginsUptoRow : OpenClaim := { program := "ytlhaghkepnfajaa", sum := "3984f637286e3a01d5fdf5eebe43d0f04ed577fd0261135b5151882c444b5829", func := "sakia/sakialaw12.ThreadBegins", spec := "threadBegins", apart := false, narrowed := true }
def ThreadBeginsUptoSaid : Prop := threadBeginsUptoRow.holds Try.pinned (OpenSpec.upto threadBeginsSpec)

/-- 'sakialaw12.ThreadParks', WHERE WHAT IT READS IS OF BULK AT MOST 1048576: true; the input reads as it did. -/
def threadParksUptoRow : OpenClaim := { program := "ytlhaghkepnfajaa", sum := "3984f637286e3a01d5fdf5eebe43d0f04ed577fd0261135b5151882c444b5829", func := "sakia/sakialaw12.ThreadParks", spec := "threadParks", apart := false, narrowed := true }
def ThreadParksUptoSaid : Prop := threadParksUptoRow.holds Try.pinned (OpenSpec.upto threadParksSpec)

/-- 'sakialaw12.ThreadEnds', WHERE WHAT IT READS IS OF BULK AT MOST 1048576: true; the input reads as it did. -/
def threadEndsUptoRow : OpenClaim := { program := "ytlhaghkepnfajaa", sum := "3984f637286e3a01d5fdf5eebe43d0f04ed577fd0261135b5151882c444b5829", func := "sakia/sakialaw12.ThreadEnds", spec := "threadEnds", apart := false, narrowed := true }
def ThreadEndsUptoSaid : Prop := threadEndsUptoRow.holds Try.pinned (OpenSpec.upto threadEndsSpec)

/-- 'sakialaw12.ThreadOnce', WHERE WHAT IT READS IS OF BULK AT MOST 1048576: true; the input reads as it did. -/
def threadOnceUptoRow : OpenClaim := { program := "ytlhaghkepnfajaa", sum := "3984f637286e3a01d5fdf5eebe43d0f04ed577fd0261135b5151882c444b5829", func := "sakia/sakialaw12.ThreadOnce", spec := "threadOnce", apart := false, narrowed := true }
def ThreadOnceUptoSaid : Prop := threadOnceUptoRow.holds Try.pinned (OpenSpec.upto threadOnceSpec)

/-- 'sakialaw11.OpQueue', WHERE WHAT IT READS IS OF BULK AT MOST 1048576: true; the input reads as it did. -/
def opQueueUptoRow : OpenClaim := { program := "ytlhaghkepnfajaa", sum := "3984f637286e3a01d5fdf5eebe43d0f04ed577fd0261135b5151882c444b5829", func := "sakia/sakialaw11.OpQueue", spec := "opQueue", unfollowed := true, recurses := true, apart := false, narrowed := true }
def OpQueueUptoSaid : Prop := opQueueUptoRow.holds Try.pinned (OpenSpec.upto opQueueSpec)

end Rows
end Go.Proofs.Ytlhaghkepnfajaa
