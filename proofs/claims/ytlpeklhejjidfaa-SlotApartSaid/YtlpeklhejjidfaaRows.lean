/-
  No cell of these rows narrows 'for every input' (looked for: loops, veiled, ifaces, maps, wideKeys, modest, calm, conditions, laid).
  DERIVED. THE GIVEN ROWS OF THIS SEAT. 11 by the template 'for every input the law returns true; each argument reads behind the call as it read before'; 0 by the template 'total and deterministic' (their statements: YtlpeklhejjidfaaTotals.lean).
  GIVEN WITH THE SEED: the statements are not yours to turn. If you find one false, say at which input.
  Laid BY PROGRAM, IN A SANDBOX (cutbox-rows.mjs): the forced cells as the released guide's own fill.sh prints them over the translation 170adfa3fec38727… (all of the seat's roots in one cut). By AI agents, Wed Nov 11 2026. No macro, syntax, notation, axiom, sorry.
-/
import Derived.Test.YtlpeklhejjidfaaChecked
import GoSem.Claim
import GoSem.ClaimJoined
import GoSem.ClaimMapViews
import Derived.JoinedTies
import Derived.KernelRfl
namespace Go.Proofs.Ytlpeklhejjidfaa
/- THE CELL 'sum', in the pinned program and in every row, IS THE sha256 OF THE DUMP (.gsa) THAT YtlpeklhejjidfaaProg.lean LOADS. Nothing in Lean hashes anything: it is a label: what it is worth is what the hold of that sum in a sandbox is worth. -/
noncomputable def Try.pinned : Pinned := { name := "ytlpeklhejjidfaa", sum := "170adfa3fec387278a6e11fdb4511b98a5e05214b343b4a4013ac1fab6b4a1b2", checked := Try.checked }
namespace Rows
def none {H : Type} : Left H := { results := [], args := [] }

/-- 'sakialaw01.PosTells': WHATEVER THE INPUT: true; the input reads as it did. -/
def posTellsSpec : ChangeSpec := { name := "posTells", fn := fun _ => fun
  | [d1, d2, d3, d4] => { results := [.lit (.bool true)], args := [d1, d2, d3, d4] }
  | _ => none }
def posTellsRow : OpenClaim := { program := "ytlpeklhejjidfaa", sum := "170adfa3fec387278a6e11fdb4511b98a5e05214b343b4a4013ac1fab6b4a1b2", func := "sakia/sakialaw01.PosTells", spec := "posTells", unfollowed := true, recurses := true, apart := false }
def PosTellsSaid : Prop := posTellsRow.holds Try.pinned (OpenSpec.ofChange posTellsSpec)

/-- ITS FALSE NEIGHBOUR: 'it returns false'. Refute it at one input. -/
def posTellsWrong : ChangeSpec := { name := "posTells", fn := fun _ => fun
  | [d1, d2, d3, d4] => { results := [.lit (.bool false)], args := [d1, d2, d3, d4] }
  | _ => none }
def PosTellsWrongFalsely : Prop := posTellsRow.holds Try.pinned (OpenSpec.ofChange posTellsWrong)

/-- 'sakialaw01.PosSplits': WHATEVER THE INPUT: true; the input reads as it did. -/
def posSplitsSpec : ChangeSpec := { name := "posSplits", fn := fun _ => fun
  | [d1, d2] => { results := [.lit (.bool true)], args := [d1, d2] }
  | _ => none }
def posSplitsRow : OpenClaim := { program := "ytlpeklhejjidfaa", sum := "170adfa3fec387278a6e11fdb4511b98a5e05214b343b4a4013ac1fab6b4a1b2", func := "sakia/sakialaw01.PosSplits", spec := "posSplits", unfollowed := true, recurses := true, apart := false }
def PosSplitsSaid : Prop := posSplitsRow.holds Try.pinned (OpenSpec.ofChange posSplitsSpec)

/-- ITS FALSE NEIGHBOUR: 'it returns false'. Refute it at one input. -/
def posSplitsWrong : ChangeSpec := { name := "posSplits", fn := fun _ => fun
  | [d1, d2] => { results := [.lit (.bool false)], args := [d1, d2] }
  | _ => none }
def PosSplitsWrongFalsely : Prop := posSplitsRow.holds Try.pinned (OpenSpec.ofChange posSplitsWrong)

/-- 'sakialaw01.PosNext': WHATEVER THE INPUT: true; the input reads as it did. -/
def posNextSpec : ChangeSpec := { name := "posNext", fn := fun _ => fun
  | [d1, d2] => { results := [.lit (.bool true)], args := [d1, d2] }
  | _ => none }
def posNextRow : OpenClaim := { program := "ytlpeklhejjidfaa", sum := "170adfa3fec387278a6e11fdb4511b98a5e05214b343b4a4013ac1fab6b4a1b2", func := "sakia/sakialaw01.PosNext", spec := "posNext", unfollowed := true, recurses := true, apart := false }
def PosNextSaid : Prop := posNextRow.holds Try.pinned (OpenSpec.ofChange posNextSpec)

/-- ITS FALSE NEIGHBOUR: 'it returns false'. Refute it at one input. -/
def posNextWrong : ChangeSpec := { name := "posNext", fn := fun _ => fun
  | [d1, d2] => { results := [.lit (.bool false)], args := [d1, d2] }
  | _ => none }
def PosNextWrongFalsely : Prop := posNextRow.holds Try.pinned (OpenSpec.ofChange posNextWrong)

/-- 'sakialaw01.PosApart': WHATEVER THE INPUT: true; the input reads as it did. -/
def posApartSpec : ChangeSpec := { name := "posApart", fn := fun _ => fun
  | [d1, d2, d3, d4] => { results := [.lit (.bool true)], args := [d1, d2, d3, d4] }
  | _ => none }
def posApartRow : OpenClaim := { program := "ytlpeklhejjidfaa", sum := "170adfa3fec387278a6e11fdb4511b98a5e05214b343b4a4013ac1fab6b4a1b2", func := "sakia/sakialaw01.PosApart", spec := "posApart", unfollowed := true, recurses := true, apart := false }
def PosApartSaid : Prop := posApartRow.holds Try.pinned (OpenSpec.ofChange posApartSpec)

/-- ITS FALSE NEIGHBOUR: 'it returns false'. Refute it at one input. -/
def posApartWrong : ChangeSpec := { name := "posApart", fn := fun _ => fun
  | [d1, d2, d3, d4] => { results := [.lit (.bool false)], args := [d1, d2, d3, d4] }
  | _ => none }
def PosApartWrongFalsely : Prop := posApartRow.holds Try.pinned (OpenSpec.ofChange posApartWrong)

/-- 'sakialaw01.PosLen': WHATEVER THE INPUT: true; the input reads as it did. -/
def posLenSpec : ChangeSpec := { name := "posLen", fn := fun _ => fun
  | [d1, d2] => { results := [.lit (.bool true)], args := [d1, d2] }
  | _ => none }
def posLenRow : OpenClaim := { program := "ytlpeklhejjidfaa", sum := "170adfa3fec387278a6e11fdb4511b98a5e05214b343b4a4013ac1fab6b4a1b2", func := "sakia/sakialaw01.PosLen", spec := "posLen", unfollowed := true, recurses := true, apart := false }
def PosLenSaid : Prop := posLenRow.holds Try.pinned (OpenSpec.ofChange posLenSpec)

/-- ITS FALSE NEIGHBOUR: 'it returns false'. Refute it at one input. -/
def posLenWrong : ChangeSpec := { name := "posLen", fn := fun _ => fun
  | [d1, d2] => { results := [.lit (.bool false)], args := [d1, d2] }
  | _ => none }
def PosLenWrongFalsely : Prop := posLenRow.holds Try.pinned (OpenSpec.ofChange posLenWrong)

/-- 'sakialaw01.PosLaps': WHATEVER THE INPUT: true; the input reads as it did. -/
def posLapsSpec : ChangeSpec := { name := "posLaps", fn := fun _ => fun
  | [d1, d2, d3] => { results := [.lit (.bool true)], args := [d1, d2, d3] }
  | _ => none }
def posLapsRow : OpenClaim := { program := "ytlpeklhejjidfaa", sum := "170adfa3fec387278a6e11fdb4511b98a5e05214b343b4a4013ac1fab6b4a1b2", func := "sakia/sakialaw01.PosLaps", spec := "posLaps", unfollowed := true, recurses := true, apart := false }
def PosLapsSaid : Prop := posLapsRow.holds Try.pinned (OpenSpec.ofChange posLapsSpec)

/-- ITS FALSE NEIGHBOUR: 'it returns false'. Refute it at one input. -/
def posLapsWrong : ChangeSpec := { name := "posLaps", fn := fun _ => fun
  | [d1, d2, d3] => { results := [.lit (.bool false)], args := [d1, d2, d3] }
  | _ => none }
def PosLapsWrongFalsely : Prop := posLapsRow.holds Try.pinned (OpenSpec.ofChange posLapsWrong)

/-- 'sakialaw09.SlotTells': WHATEVER THE INPUT: true; the input reads as it did. -/
def slotTellsSpec : ChangeSpec := { name := "slotTells", fn := fun _ => fun
  | [d1, d2, d3, d4] => { results := [.lit (.bool true)], args := [d1, d2, d3, d4] }
  | _ => none }
def slotTellsRow : OpenClaim := { program := "ytlpeklhejjidfaa", sum := "170adfa3fec387278a6e11fdb4511b98a5e05214b343b4a4013ac1fab6b4a1b2", func := "sakia/sakialaw09.SlotTells", spec := "slotTells", unfollowed := true, recurses := true, apart := false }
def SlotTellsSaid : Prop := slotTellsRow.holds Try.pinned (OpenSpec.ofChange slotTellsSpec)

/-- ITS FALSE NEIGHBOUR: 'it returns false'. Refute it at one input. -/
def slotTellsWrong : ChangeSpec := { name := "slotTells", fn := fun _ => fun
  | [d1, d2, d3, d4] => { results := [.lit (.bool false)], args := [d1, d2, d3, d4] }
  | _ => none }
def SlotTellsWrongFalsely : Prop := slotTellsRow.holds Try.pinned (OpenSpec.ofChange slotTellsWrong)

/-- 'sakialaw09.SlotBack': WHATEVER THE INPUT: true; the input reads as it did. -/
def slotBackSpec : ChangeSpec := { name := "slotBack", fn := fun _ => fun
  | [d1, d2, d3, d4] => { results := [.lit (.bool true)], args := [d1, d2, d3, d4] }
  | _ => none }
def slotBackRow : OpenClaim := { program := "ytlpeklhejjidfaa", sum := "170adfa3fec387278a6e11fdb4511b98a5e05214b343b4a4013ac1fab6b4a1b2", func := "sakia/sakialaw09.SlotBack", spec := "slotBack", unfollowed := true, recurses := true, apart := false }
def SlotBackSaid : Prop := slotBackRow.holds Try.pinned (OpenSpec.ofChange slotBackSpec)

/-- ITS FALSE NEIGHBOUR: 'it returns false'. Refute it at one input. -/
def slotBackWrong : ChangeSpec := { name := "slotBack", fn := fun _ => fun
  | [d1, d2, d3, d4] => { results := [.lit (.bool false)], args := [d1, d2, d3, d4] }
  | _ => none }
def SlotBackWrongFalsely : Prop := slotBackRow.holds Try.pinned (OpenSpec.ofChange slotBackWrong)

/-- 'sakialaw09.SlotTurns': WHATEVER THE INPUT: true; the input reads as it did. -/
def slotTurnsSpec : ChangeSpec := { name := "slotTurns", fn := fun _ => fun
  | [d1, d2] => { results := [.lit (.bool true)], args := [d1, d2] }
  | _ => none }
def slotTurnsRow : OpenClaim := { program := "ytlpeklhejjidfaa", sum := "170adfa3fec387278a6e11fdb4511b98a5e05214b343b4a4013ac1fab6b4a1b2", func := "sakia/sakialaw09.SlotTurns", spec := "slotTurns", unfollowed := true, recurses := true, apart := false }
def SlotTurnsSaid : Prop := slotTurnsRow.holds Try.pinned (OpenSpec.ofChange slotTurnsSpec)

/-- ITS FALSE NEIGHBOUR: 'it returns false'. Refute it at one input. -/
def slotTurnsWrong : ChangeSpec := { name := "slotTurns", fn := fun _ => fun
  | [d1, d2] => { results := [.lit (.bool false)], args := [d1, d2] }
  | _ => none }
def SlotTurnsWrongFalsely : Prop := slotTurnsRow.holds Try.pinned (OpenSpec.ofChange slotTurnsWrong)

/-- 'sakialaw09.SlotLaps': WHATEVER THE INPUT: true; the input reads as it did. -/
def slotLapsSpec : ChangeSpec := { name := "slotLaps", fn := fun _ => fun
  | [d1, d2] => { results := [.lit (.bool true)], args := [d1, d2] }
  | _ => none }
def slotLapsRow : OpenClaim := { program := "ytlpeklhejjidfaa", sum := "170adfa3fec387278a6e11fdb4511b98a5e05214b343b4a4013ac1fab6b4a1b2", func := "sakia/sakialaw09.SlotLaps", spec := "slotLaps", unfollowed := true, recurses := true, apart := false }
def SlotLapsSaid : Prop := slotLapsRow.holds Try.pinned (OpenSpec.ofChange slotLapsSpec)

/-- ITS FALSE NEIGHBOUR: 'it returns false'. Refute it at one input. -/
def slotLapsWrong : ChangeSpec := { name := "slotLaps", fn := fun _ => fun
  | [d1, d2] => { results := [.lit (.bool false)], args := [d1, d2] }
  | _ => none }
def SlotLapsWrongFalsely : Prop := slotLapsRow.holds Try.pinned (OpenSpec.ofChange slotLapsWrong)

/-- 'sakialaw09.SlotApart': WHATEVER THE INPUT: true; the input reads as it did. -/
def slotApartSpec : ChangeSpec := { name := "slotApart", fn := fun _ => fun
  | [d1, d2, d3, d4, d5] => { results := [.lit (.bool true)], args := [d1, d2, d3, d4, d5] }
  | _ => none }
def slotApartRow : OpenClaim := { program := "ytlpeklhejjidfaa", sum := "170adfa3fec387278a6e11fdb4511b98a5e05214b343b4a4013ac1fab6b4a1b2", func := "sakia/sakialaw09.SlotApart", spec := "slotApart", unfollowed := true, recurses := true, apart := false }
def SlotApartSaid : Prop := slotApartRow.holds Try.pinned (OpenSpec.ofChange slotApartSpec)

/-- ITS FALSE NEIGHBOUR: 'it returns false'. Refute it at one input. -/
def slotApartWrong : ChangeSpec := { name := "slotApart", fn := fun _ => fun
  | [d1, d2, d3, d4, d5] => { results := [.lit (.bool false)], args := [d1, d2, d3, d4, d5] }
  | _ => none }
def SlotApartWrongFalsely : Prop := slotApartRow.holds Try.pinned (OpenSpec.ofChange slotApartWrong)

/- THE SECOND FORM. 'bulk': how many values and letters a reading holds, each counted each time it is reached (what is shared counts as often as it is met; a slice's spare places count too). A statement '..UptoSaid' is the law's where the arguments, and the package variables that the reading takes, are together of bulk at most 1048576: NARROWER than '..Said'. Prove '..Said' where nothing that the law and all that it calls make is longer than what came in: it says more and counts as full. Else prove '..UptoSaid'. A law counts once. -/
mutual
def uptoBulk {H : Type} : DataW H → Nat
  | .lit (.string bytes) => bytes.length + 1
  | .lit _ => 1
  | .nil => 1
  | .ptr d => uptoBulk d + 1
  | .slice elems spare => uptoBulkAll elems + uptoBulkAll spare + 1
  | .agg parts => uptoBulkAll parts + 1
  | .iface _ d => uptoBulk d + 1
  | .map entries => uptoBulkEntries entries + 1
  | .held _ => 1
def uptoBulkAll {H : Type} : List (DataW H) → Nat
  | [] => 0
  | d :: r => uptoBulk d + uptoBulkAll r
def uptoBulkEntries {H : Type} : List (Lit × DataW H) → Nat
  | [] => 0
  | x :: r => uptoBulkEntry x + uptoBulkEntries r
def uptoBulkEntry {H : Type} : Lit × DataW H → Nat
  | (.string bytes, d) => bytes.length + uptoBulk d + 1
  | (_, d) => uptoBulk d + 1
 end
def uptoSmall : (H : Type) → List (DataW H) → Bool := fun _ ds => decide (uptoBulkAll ds ≤ 1048576)
def OpenSpec.upto (s : _root_.Go.ChangeSpec) : _root_.Go.OpenSpec := { _root_.Go.OpenSpec.ofChange s with cond := some uptoSmall }

/-- 'sakialaw01.PosTells', WHERE WHAT IT READS IS OF BULK AT MOST 1048576: true; the input reads as it did. -/
def posTellsUptoRow : OpenClaim := { program := "ytlpeklhejjidfaa", sum := "170adfa3fec387278a6e11fdb4511b98a5e05214b343b4a4013ac1fab6b4a1b2", func := "sakia/sakialaw01.PosTells", spec := "posTells", unfollowed := true, recurses := true, apart := false, narrowed := true }
def PosTellsUptoSaid : Prop := posTellsUptoRow.holds Try.pinned (OpenSpec.upto posTellsSpec)

/-- 'sakialaw01.PosSplits', WHERE WHAT IT READS IS OF BULK AT MOST 1048576: true; the input reads as it did. -/
def posSplitsUptoRow : OpenClaim := { program := "ytlpeklhejjidfaa", sum := "170adfa3fec387278a6e11fdb4511b98a5e05214b343b4a4013ac1fab6b4a1b2", func := "sakia/sakialaw01.PosSplits", spec := "posSplits", unfollowed := true, recurses := true, apart := false, narrowed := true }
def PosSplitsUptoSaid : Prop := posSplitsUptoRow.holds Try.pinned (OpenSpec.upto posSplitsSpec)

/-- 'sakialaw01.PosNext', WHERE WHAT IT READS IS OF BULK AT MOST 1048576: true; the input reads as it did. -/
def posNextUptoRow : OpenClaim := { program := "ytlpeklhejjidfaa", sum := "170adfa3fec387278a6e11fdb4511b98a5e05214b343b4a4013ac1fab6b4a1b2", func := "sakia/sakialaw01.PosNext", spec := "posNext", unfollowed := true, recurses := true, apart := false, narrowed := true }
def PosNextUptoSaid : Prop := posNextUptoRow.holds Try.pinned (OpenSpec.upto posNextSpec)

/-- 'sakialaw01.PosApart', WHERE WHAT IT READS IS OF BULK AT MOST 1048576: true; the input reads as it did. -/
def posApartUptoRow : OpenClaim := { program := "ytlpeklhejjidfaa", sum := "170adfa3fec387278a6e11fdb4511b98a5e05214b343b4a4013ac1fab6b4a1b2", func := "sakia/sakialaw01.PosApart", spec := "posApart", unfollowed := true, recurses := true, apart := false, narrowed := true }
def PosApartUptoSaid : Prop := posApartUptoRow.holds Try.pinned (OpenSpec.upto posApartSpec)

/-- 'sakialaw01.PosLen', WHERE WHAT IT READS IS OF BULK AT MOST 1048576: true; the input reads as it did. -/
def posLenUptoRow : OpenClaim := { program := "ytlpeklhejjidfaa", sum := "170adfa3fec387278a6e11fdb4511b98a5e05214b343b4a4013ac1fab6b4a1b2", func := "sakia/sakialaw01.PosLen", spec := "posLen", unfollowed := true, recurses := true, apart := false, narrowed := true }
def PosLenUptoSaid : Prop := posLenUptoRow.holds Try.pinned (OpenSpec.upto posLenSpec)

/-- 'sakialaw01.PosLaps', WHERE WHAT IT READS IS OF BULK AT MOST 1048576: true; the input reads as it did. -/
def posLapsUptoRow : OpenClaim := { program := "ytlpeklhejjidfaa", sum := "170adfa3fec387278a6e11fdb4511b98a5e05214b343b4a4013ac1fab6b4a1b2", func := "sakia/sakialaw01.PosLaps", spec := "posLaps", unfollowed := true, recurses := true, apart := false, narrowed := true }
def PosLapsUptoSaid : Prop := posLapsUptoRow.holds Try.pinned (OpenSpec.upto posLapsSpec)

/-- 'sakialaw09.SlotTells', WHERE WHAT IT READS IS OF BULK AT MOST 1048576: true; the input reads as it did. -/
def slotTellsUptoRow : OpenClaim := { program := "ytlpeklhejjidfaa", sum := "170adfa3fec387278a6e11fdb4511b98a5e05214b343b4a4013ac1fab6b4a1b2", func := "sakia/sakialaw09.SlotTells", spec := "slotTells", unfollowed := true, recurses := true, apart := false, narrowed := true }
def SlotTellsUptoSaid : Prop := slotTellsUptoRow.holds Try.pinned (OpenSpec.upto slotTellsSpec)

/-- 'sakialaw09.SlotBack', WHERE WHAT IT READS IS OF BULK AT MOST 1048576: true; the input reads as it did. -/
def slotBackUptoRow : OpenClaim := { program := "ytlpeklhejjidfaa", sum := "170adfa3fec387278a6e11fdb4511b98a5e05214b343b4a4013ac1fab6b4a1b2", func := "sakia/sakialaw09.SlotBack", spec := "slotBack", unfollowed := true, recurses := true, apart := false, narrowed := true }
def SlotBackUptoSaid : Prop := slotBackUptoRow.holds Try.pinned (OpenSpec.upto slotBackSpec)

/-- 'sakialaw09.SlotTurns', WHERE WHAT IT READS IS OF BULK AT MOST 1048576: true; the input reads as it did. -/
def slotTurnsUptoRow : OpenClaim := { program := "ytlpeklhejjidfaa", sum := "170adfa3fec387278a6e11fdb4511b98a5e05214b343b4a4013ac1fab6b4a1b2", func := "sakia/sakialaw09.SlotTurns", spec := "slotTurns", unfollowed := true, recurses := true, apart := false, narrowed := true }
def SlotTurnsUptoSaid : Prop := slotTurnsUptoRow.holds Try.pinned (OpenSpec.upto slotTurnsSpec)

/-- 'sakialaw09.SlotLaps', WHERE WHAT IT READS IS OF BULK AT MOST 1048576: true; the input reads as it did. -/
def slotLapsUptoRow : OpenClaim := { program := "ytlpeklhejjidfaa", sum := "170adfa3fec387278a6e11fdb4511b98a5e05214b343b4a4013ac1fab6b4a1b2", func := "sakia/sakialaw09.SlotLaps", spec := "slotLaps", unfollowed := true, recurses := true, apart := false, narrowed := true }
def SlotLapsUptoSaid : Prop := slotLapsUptoRow.holds Try.pinned (OpenSpec.upto slotLapsSpec)

/-- 'sakialaw09.SlotApart', WHERE WHAT IT READS IS OF BULK AT MOST 1048576: true; the input reads as it did. -/
def slotApartUptoRow : OpenClaim := { program := "ytlpeklhejjidfaa", sum := "170adfa3fec387278a6e11fdb4511b98a5e05214b343b4a4013ac1fab6b4a1b2", func := "sakia/sakialaw09.SlotApart", spec := "slotApart", unfollowed := true, recurses := true, apart := false, narrowed := true }
def SlotApartUptoSaid : Prop := slotApartUptoRow.holds Try.pinned (OpenSpec.upto slotApartSpec)

end Rows
end Go.Proofs.Ytlpeklhejjidfaa
