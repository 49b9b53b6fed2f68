/- What the laws of who closes begin with. -/
import Derived.Test.YtdoapbopldhakaaGreatCloT
namespace Go.Own
open Go Go.Proofs
set_option maxRecDepth 100000
set_option linter.unusedVariables false
set_option linter.unusedSimpArgs false

def tabG : List (FuncId × Pure1) := [(14, Ffnew), (15, Ffinvoke), (5, Ffew13), (9, Fsame13), (23, FloSame), (20, Fints), (6, Fsteps), (8, Fnear)] ++ tabClo3

theorem ok_tabG : ∀ p ∈ tabG, PureOK Tryz.prog p.1 p.2 := by
  intro p hp
  simp only [tabG, List.mem_append, List.mem_cons, List.not_mem_nil, or_false] at hp
  rcases hp with (rfl | rfl | rfl | rfl | rfl | rfl | rfl | rfl) | hp
  · exact ok_fnew
  · exact ok_finvoke
  · exact ok_few13
  · exact ok_same13
  · exact ok_loSame
  · exact ok_ints
  · exact ok_steps
  · exact ok_near
  · exact ok_tabClo3 p hp


def Fawake16 : Pure1 := fun
  | [] => some (none, .bool true)
  | _ => none

theorem ok_awake16 : PureOK Tryz.prog 4 Fawake16 := by
  refine tab_plain mixed (l := tabG) ok_tabG false (by kernel_rfl) fun xs b r h hb wf => ?_
  unfold Fawake16 at h
  split at h
  · cases h
    have e : VC Tryz.prog (tabS tabG) noL false 4 [] (.bool true) = (some (AV.bool true) = some (AV.bool true)) := by kernel_rfl
    rw [e]
  · cases h

def tabH : List (FuncId × Pure1) := [(4, Fawake16)] ++ tabG

theorem ok_tabH : ∀ p ∈ tabH, PureOK Tryz.prog p.1 p.2 := by
  intro p hp
  simp only [tabH, List.mem_append, List.mem_cons, List.not_mem_nil, or_false] at hp
  rcases hp with (rfl) | hp
  · exact ok_awake16
  · exact ok_tabG p hp


end Go.Own
