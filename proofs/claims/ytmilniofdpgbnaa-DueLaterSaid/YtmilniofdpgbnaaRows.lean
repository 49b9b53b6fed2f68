/-
  No cell of these rows narrows 'for every input' (looked for: loops, veiled, ifaces, maps, wideKeys, modest, calm, conditions, laid).
  DERIVED. THE GIVEN ROWS OF THIS SEAT. 12 by the template 'for every input the law returns true; each argument reads behind the call as it read before'; 0 by the template 'total and deterministic' (their statements: YtmilniofdpgbnaaTotals.lean).
  GIVEN WITH THE SEED: the statements are not yours to turn. If you find one false, say at which input.
  Laid BY PROGRAM, IN A SANDBOX (cutbox-rows.mjs): the forced cells as the released guide's own fill.sh prints them over the translation c386f7b157806bb2… (all of the seat's roots in one cut). By AI agents, Wed Nov 11 2026. No macro, syntax, notation, axiom, sorry.
-/
import Derived.Test.YtmilniofdpgbnaaChecked
import GoSem.Claim
import GoSem.ClaimJoined
import GoSem.ClaimMapViews
import Derived.JoinedTies
import Derived.KernelRfl
namespace Go.Proofs.Ytmilniofdpgbnaa
/- THE CELL 'sum', in the pinned program and in every row, IS THE sha256 OF THE DUMP (.gsa) THAT YtmilniofdpgbnaaProg.lean LOADS. Nothing in Lean hashes anything: it is a label: what it is worth is what the hold of that sum in a sandbox is worth. -/
noncomputable def Try.pinned : Pinned := { name := "ytmilniofdpgbnaa", sum := "c386f7b157806bb28aad5e52bf83047228866f724d6d7306892e5f990cb03059", checked := Try.checked }
namespace Rows
def none {H : Type} : Left H := { results := [], args := [] }

/-- 'sakialaw03.FifoTells': WHATEVER THE INPUT: true; the input reads as it did. -/
def fifoTellsSpec : ChangeSpec := { name := "fifoTells", fn := fun _ => fun
  | [d1, d2, d3] => { results := [.lit (.bool true)], args := [d1, d2, d3] }
  | _ => none }
def fifoTellsRow : OpenClaim := { program := "ytmilniofdpgbnaa", sum := "c386f7b157806bb28aad5e52bf83047228866f724d6d7306892e5f990cb03059", func := "sakia/sakialaw03.FifoTells", spec := "fifoTells", unfollowed := true, recurses := true, apart := false }
def FifoTellsSaid : Prop := fifoTellsRow.holds Try.pinned (OpenSpec.ofChange fifoTellsSpec)

/-- ITS FALSE NEIGHBOUR: 'it returns false'. Refute it at one input. -/
def fifoTellsWrong : ChangeSpec := { name := "fifoTells", fn := fun _ => fun
  | [d1, d2, d3] => { results := [.lit (.bool false)], args := [d1, d2, d3] }
  | _ => none }
def FifoTellsWrongFalsely : Prop := fifoTellsRow.holds Try.pinned (OpenSpec.ofChange fifoTellsWrong)

/-- 'sakialaw03.FifoOrder': WHATEVER THE INPUT: true; the input reads as it did. -/
def fifoOrderSpec : ChangeSpec := { name := "fifoOrder", fn := fun _ => fun
  | [d1, d2] => { results := [.lit (.bool true)], args := [d1, d2] }
  | _ => none }
def fifoOrderRow : OpenClaim := { program := "ytmilniofdpgbnaa", sum := "c386f7b157806bb28aad5e52bf83047228866f724d6d7306892e5f990cb03059", func := "sakia/sakialaw03.FifoOrder", spec := "fifoOrder", unfollowed := true, recurses := true, apart := false }
def FifoOrderSaid : Prop := fifoOrderRow.holds Try.pinned (OpenSpec.ofChange fifoOrderSpec)

/-- ITS FALSE NEIGHBOUR: 'it returns false'. Refute it at one input. -/
def fifoOrderWrong : ChangeSpec := { name := "fifoOrder", fn := fun _ => fun
  | [d1, d2] => { results := [.lit (.bool false)], args := [d1, d2] }
  | _ => none }
def FifoOrderWrongFalsely : Prop := fifoOrderRow.holds Try.pinned (OpenSpec.ofChange fifoOrderWrong)

/-- 'sakialaw03.FifoRoom': WHATEVER THE INPUT: true; the input reads as it did. -/
def fifoRoomSpec : ChangeSpec := { name := "fifoRoom", fn := fun _ => fun
  | [d1, d2] => { results := [.lit (.bool true)], args := [d1, d2] }
  | _ => none }
def fifoRoomRow : OpenClaim := { program := "ytmilniofdpgbnaa", sum := "c386f7b157806bb28aad5e52bf83047228866f724d6d7306892e5f990cb03059", func := "sakia/sakialaw03.FifoRoom", spec := "fifoRoom", unfollowed := true, recurses := true, apart := false }
def FifoRoomSaid : Prop := fifoRoomRow.holds Try.pinned (OpenSpec.ofChange fifoRoomSpec)

/-- ITS FALSE NEIGHBOUR: 'it returns false'. Refute it at one input. -/
def fifoRoomWrong : ChangeSpec := { name := "fifoRoom", fn := fun _ => fun
  | [d1, d2] => { results := [.lit (.bool false)], args := [d1, d2] }
  | _ => none }
def FifoRoomWrongFalsely : Prop := fifoRoomRow.holds Try.pinned (OpenSpec.ofChange fifoRoomWrong)

/-- 'sakialaw03.FifoOne': WHATEVER THE INPUT: true; the input reads as it did. -/
def fifoOneSpec : ChangeSpec := { name := "fifoOne", fn := fun _ => fun
  | [d1, d2] => { results := [.lit (.bool true)], args := [d1, d2] }
  | _ => none }
def fifoOneRow : OpenClaim := { program := "ytmilniofdpgbnaa", sum := "c386f7b157806bb28aad5e52bf83047228866f724d6d7306892e5f990cb03059", func := "sakia/sakialaw03.FifoOne", spec := "fifoOne", unfollowed := true, recurses := true, apart := false }
def FifoOneSaid : Prop := fifoOneRow.holds Try.pinned (OpenSpec.ofChange fifoOneSpec)

/-- ITS FALSE NEIGHBOUR: 'it returns false'. Refute it at one input. -/
def fifoOneWrong : ChangeSpec := { name := "fifoOne", fn := fun _ => fun
  | [d1, d2] => { results := [.lit (.bool false)], args := [d1, d2] }
  | _ => none }
def FifoOneWrongFalsely : Prop := fifoOneRow.holds Try.pinned (OpenSpec.ofChange fifoOneWrong)

/-- 'sakialaw03.FifoAll': WHATEVER THE INPUT: true; the input reads as it did. -/
def fifoAllSpec : ChangeSpec := { name := "fifoAll", fn := fun _ => fun
  | [d1, d2, d3] => { results := [.lit (.bool true)], args := [d1, d2, d3] }
  | _ => none }
def fifoAllRow : OpenClaim := { program := "ytmilniofdpgbnaa", sum := "c386f7b157806bb28aad5e52bf83047228866f724d6d7306892e5f990cb03059", func := "sakia/sakialaw03.FifoAll", spec := "fifoAll", unfollowed := true, recurses := true, apart := false }
def FifoAllSaid : Prop := fifoAllRow.holds Try.pinned (OpenSpec.ofChange fifoAllSpec)

/-- ITS FALSE NEIGHBOUR: 'it returns false'. Refute it at one input. -/
def fifoAllWrong : ChangeSpec := { name := "fifoAll", fn := fun _ => fun
  | [d1, d2, d3] => { results := [.lit (.bool false)], args := [d1, d2, d3] }
  | _ => none }
def FifoAllWrongFalsely : Prop := fifoAllRow.holds Try.pinned (OpenSpec.ofChange fifoAllWrong)

/-- 'sakialaw03.FifoEnds': WHATEVER THE INPUT: true; the input reads as it did. -/
def fifoEndsSpec : ChangeSpec := { name := "fifoEnds", fn := fun _ => fun
  | [d1, d2] => { results := [.lit (.bool true)], args := [d1, d2] }
  | _ => none }
def fifoEndsRow : OpenClaim := { program := "ytmilniofdpgbnaa", sum := "c386f7b157806bb28aad5e52bf83047228866f724d6d7306892e5f990cb03059", func := "sakia/sakialaw03.FifoEnds", spec := "fifoEnds", unfollowed := true, recurses := true, apart := false }
def FifoEndsSaid : Prop := fifoEndsRow.holds Try.pinned (OpenSpec.ofChange fifoEndsSpec)

/-- ITS FALSE NEIGHBOUR: 'it returns false'. Refute it at one input. -/
def fifoEndsWrong : ChangeSpec := { name := "fifoEnds", fn := fun _ => fun
  | [d1, d2] => { results := [.lit (.bool false)], args := [d1, d2] }
  | _ => none }
def FifoEndsWrongFalsely : Prop := fifoEndsRow.holds Try.pinned (OpenSpec.ofChange fifoEndsWrong)

/-- 'sakialaw03.FifoThreads': WHATEVER THE INPUT: true; the input reads as it did. -/
def fifoThreadsSpec : ChangeSpec := { name := "fifoThreads", fn := fun _ => fun
  | [d1, d2, d3, d4] => { results := [.lit (.bool true)], args := [d1, d2, d3, d4] }
  | _ => none }
def fifoThreadsRow : OpenClaim := { program := "ytmilniofdpgbnaa", sum := "c386f7b157806bb28aad5e52bf83047228866f724d6d7306892e5f990cb03059", func := "sakia/sakialaw03.FifoThreads", spec := "fifoThreads", unfollowed := true, recurses := true, apart := false }
def FifoThreadsSaid : Prop := fifoThreadsRow.holds Try.pinned (OpenSpec.ofChange fifoThreadsSpec)

/-- ITS FALSE NEIGHBOUR: 'it returns false'. Refute it at one input. -/
def fifoThreadsWrong : ChangeSpec := { name := "fifoThreads", fn := fun _ => fun
  | [d1, d2, d3, d4] => { results := [.lit (.bool false)], args := [d1, d2, d3, d4] }
  | _ => none }
def FifoThreadsWrongFalsely : Prop := fifoThreadsRow.holds Try.pinned (OpenSpec.ofChange fifoThreadsWrong)

/-- 'sakialaw04.DueBack': WHATEVER THE INPUT: true; the input reads as it did. -/
def dueBackSpec : ChangeSpec := { name := "dueBack", fn := fun _ => fun
  | [d1, d2] => { results := [.lit (.bool true)], args := [d1, d2] }
  | _ => none }
def dueBackRow : OpenClaim := { program := "ytmilniofdpgbnaa", sum := "c386f7b157806bb28aad5e52bf83047228866f724d6d7306892e5f990cb03059", func := "sakia/sakialaw04.DueBack", spec := "dueBack", unfollowed := true, recurses := true, apart := false }
def DueBackSaid : Prop := dueBackRow.holds Try.pinned (OpenSpec.ofChange dueBackSpec)

/-- ITS FALSE NEIGHBOUR: 'it returns false'. Refute it at one input. -/
def dueBackWrong : ChangeSpec := { name := "dueBack", fn := fun _ => fun
  | [d1, d2] => { results := [.lit (.bool false)], args := [d1, d2] }
  | _ => none }
def DueBackWrongFalsely : Prop := dueBackRow.holds Try.pinned (OpenSpec.ofChange dueBackWrong)

/-- 'sakialaw04.DueLate': WHATEVER THE INPUT: true; the input reads as it did. -/
def dueLateSpec : ChangeSpec := { name := "dueLate", fn := fun _ => fun
  | [d1, d2, d3] => { results := [.lit (.bool true)], args := [d1, d2, d3] }
  | _ => none }
def dueLateRow : OpenClaim := { program := "ytmilniofdpgbnaa", sum := "c386f7b157806bb28aad5e52bf83047228866f724d6d7306892e5f990cb03059", func := "sakia/sakialaw04.DueLate", spec := "dueLate", unfollowed := true, recurses := true, apart := false }
def DueLateSaid : Prop := dueLateRow.holds Try.pinned (OpenSpec.ofChange dueLateSpec)

/-- ITS FALSE NEIGHBOUR: 'it returns false'. Refute it at one input. -/
def dueLateWrong : ChangeSpec := { name := "dueLate", fn := fun _ => fun
  | [d1, d2, d3] => { results := [.lit (.bool false)], args := [d1, d2, d3] }
  | _ => none }
def DueLateWrongFalsely : Prop := dueLateRow.holds Try.pinned (OpenSpec.ofChange dueLateWrong)

/-- 'sakialaw04.DueOrder': WHATEVER THE INPUT: true; the input reads as it did. -/
def dueOrderSpec : ChangeSpec := { name := "dueOrder", fn := fun _ => fun
  | [d1, d2, d3] => { results := [.lit (.bool true)], args := [d1, d2, d3] }
  | _ => none }
def dueOrderRow : OpenClaim := { program := "ytmilniofdpgbnaa", sum := "c386f7b157806bb28aad5e52bf83047228866f724d6d7306892e5f990cb03059", func := "sakia/sakialaw04.DueOrder", spec := "dueOrder", unfollowed := true, recurses := true, apart := false }
def DueOrderSaid : Prop := dueOrderRow.holds Try.pinned (OpenSpec.ofChange dueOrderSpec)

/-- ITS FALSE NEIGHBOUR: 'it returns false'. Refute it at one input. -/
def dueOrderWrong : ChangeSpec := { name := "dueOrder", fn := fun _ => fun
  | [d1, d2, d3] => { results := [.lit (.bool false)], args := [d1, d2, d3] }
  | _ => none }
def DueOrderWrongFalsely : Prop := dueOrderRow.holds Try.pinned (OpenSpec.ofChange dueOrderWrong)

/-- 'sakialaw04.DueDrains': WHATEVER THE INPUT: true; the input reads as it did. -/
def dueDrainsSpec : ChangeSpec := { name := "dueDrains", fn := fun _ => fun
  | [d] => { results := [.lit (.bool true)], args := [d] }
  | _ => none }
def dueDrainsRow : OpenClaim := { program := "ytmilniofdpgbnaa", sum := "c386f7b157806bb28aad5e52bf83047228866f724d6d7306892e5f990cb03059", func := "sakia/sakialaw04.DueDrains", spec := "dueDrains", unfollowed := true, recurses := true, apart := false }
def DueDrainsSaid : Prop := dueDrainsRow.holds Try.pinned (OpenSpec.ofChange dueDrainsSpec)

/-- ITS FALSE NEIGHBOUR: 'it returns false'. Refute it at one input. -/
def dueDrainsWrong : ChangeSpec := { name := "dueDrains", fn := fun _ => fun
  | [d] => { results := [.lit (.bool false)], args := [d] }
  | _ => none }
def DueDrainsWrongFalsely : Prop := dueDrainsRow.holds Try.pinned (OpenSpec.ofChange dueDrainsWrong)

/-- 'sakialaw04.DueLater': WHATEVER THE INPUT: true; the input reads as it did. -/
def dueLaterSpec : ChangeSpec := { name := "dueLater", fn := fun _ => fun
  | [d1, d2, d3] => { results := [.lit (.bool true)], args := [d1, d2, d3] }
  | _ => none }
def dueLaterRow : OpenClaim := { program := "ytmilniofdpgbnaa", sum := "c386f7b157806bb28aad5e52bf83047228866f724d6d7306892e5f990cb03059", func := "sakia/sakialaw04.DueLater", spec := "dueLater", unfollowed := true, recurses := true, apart := false }
def DueLaterSaid : Prop := dueLaterRow.holds Try.pinned (OpenSpec.ofChange dueLaterSpec)

/-- ITS FALSE NEIGHBOUR: 'it returns false'. Refute it at one input. -/
def dueLaterWrong : ChangeSpec := { name := "dueLater", fn := fun _ => fun
  | [d1, d2, d3] => { results := [.lit (.bool false)], args := [d1, d2, d3] }
  | _ => none }
def DueLaterWrongFalsely : Prop := dueLaterRow.holds Try.pinned (OpenSpec.ofChange dueLaterWrong)

/- THE SECOND FORM. 'bulk': how many values and letters a reading holds, each counted each time it is reached (what is shared counts as often as it is met; a slice's spare places count too). A statement '..UptoSaid' is the law's where the arguments, and the package variables that the reading takes, are together of bulk at most 1048576: NARROWER than '..Said'. Prove '..Said' where nothing that the law and all that it calls make is longer than what came in: it says more and counts as full. Else prove '..UptoSaid'. A law counts once. -/
mutual
def uptoBulk {H : Type} : DataW H → Nat
  | .lit (.string bytes) => bytes.length + 1
  | .lit _ => 1
  | .nil => 1
  | .ptr d => uptoBulk d + 1
  | .slice elems spare => uptoBulkAll elems + uptoBulkAll spare + 1
  | .agg parts => uptoBulkAll parts + 1
  | .iface _ d => uptoBulk d + 1
  | .map entries => uptoBulkEntries entries + 1
  | .held _ => 1
def uptoBulkAll {H : Type} : List (DataW H) → Nat
  | [] => 0
  | d :: r => uptoBulk d + uptoBulkAll r
def uptoBulkEntries {H : Type} : List (Lit × DataW H) → Nat
  | [] => 0
  | x :: r => uptoBulkEntry x + uptoBulkEntries r
def uptoBulkEntry {H : Type} : Lit × DataW H → Nat
  | (.string bytes, d) => bytes.length + uptoBulk d + 1
  | (_, d) => uptoBulk d + 1
 end
def uptoSmall : (H : Type) → List (DataW H) → Bool := fun _ ds => decide (uptoBulkAll ds ≤ 1048576)
def OpenSpec.upto (s : _root_.Go.ChangeSpec) : _root_.Go.OpenSpec := { _root_.Go.OpenSpec.ofChange s with cond := some uptoSmall }

/-- 'sakialaw03.FifoTells', WHERE WHAT IT READS IS OF BULK AT MOST 1048576: true; the input reads as it did. -/
def fifoTellsUptoRow : OpenClaim := { program := "ytmilniofdpgbnaa", sum := "c386f7b157806bb28aad5e52bf83047228866f724d6d7306892e5f990cb03059", func := "sakia/sakialaw03.FifoTells", spec := "fifoTells", unfollowed := true, recurses := true, apart := false, narrowed := true }
def FifoTellsUptoSaid : Prop := fifoTellsUptoRow.holds Try.pinned (OpenSpec.upto fifoTellsSpec)

/-- 'sakialaw03.FifoOrder', WHERE WHAT IT READS IS OF BULK AT MOST 1048576: true; the input reads as it did. -/
def fifoOrderUptoRow : OpenClaim := { program := "ytmilniofdpgbnaa", sum := "c386f7b157806bb28aad5e52bf83047228866f724d6d7306892e5f990cb03059", func := "sakia/sakialaw03.FifoOrder", spec := "fifoOrder", unfollowed := true, recurses := true, apart := false, narrowed := true }
def FifoOrderUptoSaid : Prop := fifoOrderUptoRow.holds Try.pinned (OpenSpec.upto fifoOrderSpec)

/-- 'sakialaw03.FifoRoom', WHERE WHAT IT READS IS OF BULK AT MOST 1048576: true; the input reads as it did. -/
def fifoRoomUptoRow : OpenClaim := { program := "ytmilniofdpgbnaa", sum := "c386f7b157806bb28aad5e52bf83047228866f724d6d7306892e5f990cb03059", func := "sakia/sakialaw03.FifoRoom", spec := "fifoRoom", unfollowed := true, recurses := true, apart := false, narrowed := true }
def FifoRoomUptoSaid : Prop := fifoRoomUptoRow.holds Try.pinned (OpenSpec.upto fifoRoomSpec)

/-- 'sakialaw03.FifoOne', WHERE WHAT IT READS IS OF BULK AT MOST 1048576: true; the input reads as it did. -/
def fifoOneUptoRow : OpenClaim := { program := "ytmilniofdpgbnaa", sum := "c386f7b157806bb28aad5e52bf83047228866f724d6d7306892e5f990cb03059", func := "sakia/sakialaw03.FifoOne", spec := "fifoOne", unfollowed := true, recurses := true, apart := false, narrowed := true }
def FifoOneUptoSaid : Prop := fifoOneUptoRow.holds Try.pinned (OpenSpec.upto fifoOneSpec)

/-- 'sakialaw03.FifoAll', WHERE WHAT IT READS IS OF BULK AT MOST 1048576: true; the input reads as it did. -/
def fifoAllUptoRow : OpenClaim := { program := "ytmilniofdpgbnaa", sum := "c386f7b157806bb28aad5e52bf83047228866f724d6d7306892e5f990cb03059", func := "sakia/sakialaw03.FifoAll", spec := "fifoAll", unfollowed := true, recurses := true, apart := false, narrowed := true }
def FifoAllUptoSaid : Prop := fifoAllUptoRow.holds Try.pinned (OpenSpec.upto fifoAllSpec)

/-- 'sakialaw03.FifoEnds', WHERE WHAT IT READS IS OF BULK AT MOST 1048576: true; the input reads as it did. -/
def fifoEndsUptoRow : OpenClaim := { program := "ytmilniofdpgbnaa", sum := "c386f7b157806bb28aad5e52bf83047228866f724d6d7306892e5f990cb03059", func := "sakia/sakialaw03.FifoEnds", spec := "fifoEnds", unfollowed := true, recurses := true, apart := false, narrowed := true }
def FifoEndsUptoSaid : Prop := fifoEndsUptoRow.holds Try.pinned (OpenSpec.upto fifoEndsSpec)

/-- 'sakialaw03.FifoThreads', WHERE WHAT IT READS IS OF BULK AT MOST 1048576: true; the input reads as it did. -/
def fifoThreadsUptoRow : OpenClaim := { program := "ytmilniofdpgbnaa", sum := "c386f7b157806bb28aad5e52bf83047228866f724d6d7306892e5f990cb03059", func := "sakia/sakialaw03.FifoThreads", spec := "fifoThreads", unfollowed := true, recurses := true, apart := false, narrowed := true }
def FifoThreadsUptoSaid : Prop := fifoThreadsUptoRow.holds Try.pinned (OpenSpec.upto fifoThreadsSpec)

/-- 'sakialaw04.DueBack', WHERE WHAT IT READS IS OF BULK AT MOST 1048576: true; the input reads as it did. -/
def dueBackUptoRow : OpenClaim := { program := "ytmilniofdpgbnaa", sum := "c386f7b157806bb28aad5e52bf83047228866f724d6d7306892e5f990cb03059", func := "sakia/sakialaw04.DueBack", spec := "dueBack", unfollowed := true, recurses := true, apart := false, narrowed := true }
def DueBackUptoSaid : Prop := dueBackUptoRow.holds Try.pinned (OpenSpec.upto dueBackSpec)

/-- 'sakialaw04.DueLate', WHERE WHAT IT READS IS OF BULK AT MOST 1048576: true; the input reads as it did. -/
def dueLateUptoRow : OpenClaim := { program := "ytmilniofdpgbnaa", sum := "c386f7b157806bb28aad5e52bf83047228866f724d6d7306892e5f990cb03059", func := "sakia/sakialaw04.DueLate", spec := "dueLate", unfollowed := true, recurses := true, apart := false, narrowed := true }
def DueLateUptoSaid : Prop := dueLateUptoRow.holds Try.pinned (OpenSpec.upto dueLateSpec)

/-- 'sakialaw04.DueOrder', WHERE WHAT IT READS IS OF BULK AT MOST 1048576: true; the input reads as it did. -/
def dueOrderUptoRow : OpenClaim := { program := "ytmilniofdpgbnaa", sum := "c386f7b157806bb28aad5e52bf83047228866f724d6d7306892e5f990cb03059", func := "sakia/sakialaw04.DueOrder", spec := "dueOrder", unfollowed := true, recurses := true, apart := false, narrowed := true }
def DueOrderUptoSaid : Prop := dueOrderUptoRow.holds Try.pinned (OpenSpec.upto dueOrderSpec)

/-- 'sakialaw04.DueDrains', WHERE WHAT IT READS IS OF BULK AT MOST 1048576: true; the input reads as it did. -/
def dueDrainsUptoRow : OpenClaim := { program := "ytmilniofdpgbnaa", sum := "c386f7b157806bb28aad5e52bf83047228866f724d6d7306892e5f990cb03059", func := "sakia/sakialaw04.DueDrains", spec := "dueDrains", unfollowed := true, recurses := true, apart := false, narrowed := true }
def DueDrainsUptoSaid : Prop := dueDrainsUptoRow.holds Try.pinned (OpenSpec.upto dueDrainsSpec)

/-- 'sakialaw04.DueLater', WHERE WHAT IT READS IS OF BULK AT MOST 1048576: true; the input reads as it did. -/
def dueLaterUptoRow : OpenClaim := { program := "ytmilniofdpgbnaa", sum := "c386f7b157806bb28aad5e52bf83047228866f724d6d7306892e5f990cb03059", func := "sakia/sakialaw04.DueLater", spec := "dueLater", unfollowed := true, recurses := true, apart := false, narrowed := true }
def DueLaterUptoSaid : Prop := dueLaterUptoRow.holds Try.pinned (OpenSpec.upto dueLaterSpec)

end Rows
end Go.Proofs.Ytmilniofdpgbnaa
