/- What many functions share. -/
import Derived.Test.YtlhaghkepnfajaaOwn
import Derived.Test.YtlhaghkepnfajaaProg
import Derived.Test.YtlhaghkepnfajaaChecked
namespace Go.Own
open Go Go.Proofs
set_option maxRecDepth 100000
set_option linter.unusedVariables false
set_option linter.unusedSimpArgs false

theorem mixed : Try.prog.follows .mixedOrders = true := Try.checked.mixed

def big : Nat := 2 ^ 50

def sameFrom (l m : List Int) (i : Int) : Bool := l.drop i.toNat == m.drop i.toNat

def sameI (l m : List Int) : Bool := l == m


theorem bite_and (c p : Bool) : bite c p false = (c && p) := by cases c <;> rfl

theorem bite_or (c q : Bool) : bite c true q = (c || q) := by cases c <;> rfl

theorem le_big {n : Nat} (h : n ≤ 1073741824) : n ≤ big := by unfold big; omega

def tab0 : List (FuncId × Pure1) := []

theorem ok_tab0 : ∀ p ∈ tab0, PureOK Try.prog p.1 p.2 := by
  intro p hp
  simp only [tab0, List.mem_cons, List.not_mem_nil, or_false] at hp


end Go.Own
