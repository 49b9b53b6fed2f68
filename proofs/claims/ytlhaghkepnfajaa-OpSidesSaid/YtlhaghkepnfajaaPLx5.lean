-- written by this repo's pp.py (the kit's print, turned by wip/patches.py)
import Derived.Test.YtlhaghkepnfajaaPLx0
import Derived.Test.YtlhaghkepnfajaaPLx2
import Derived.Test.YtlhaghkepnfajaaPLx3
import Derived.Test.YtlhaghkepnfajaaPLx4
namespace Go.Proofs.Ytlhaghkepnfajaa.PL
open Go.RowKit Go.Proofs.YtlhaghkepnfajaaW.PrintWords Go.Proofs.YtlhaghkepnfajaaW.PrintLast Go.Proofs.YtlhaghkepnfajaaW.PrintMore
attribute [local go_sem] max2_int min2_int max_two min_two max_three min_three max_four min_four   -- for this text's walks alone
set_option linter.unusedVariables false
set_option linter.unusedSimpArgs false

/-! ### sakialaw11_awake: function 14 -/
def sakialaw11_awake.f (k : Nat)  : Option (Bool) := (op_Check.f k 1).bind fun t108 => (if t108 = true then ((op_Check.f k 8).bind fun t109 => (if t109 = true then ((op_Check.f k 0).bind fun t110 => (if t110 = true then (some false) else ((op_Check.f k 9).bind fun t111 => (if t111 = true then (some false) else ((op_Side.f k 5).bind fun t112 => (if t112 = 2 then ((op_Side.f k 3).bind fun t113 => (if t113 = 1 then ((op_Side.f k 8).bind fun t114 => (if t114 = 3 then ((op_Side.f k 9).bind fun t115 => (if t115 = 0 then ((op_Timed.f 3).bind fun t116 => (if t116 = true then ((op_Timed.f 1).bind fun t117 => (if t117 = true then (some false) else ((op_Once.f 2).bind fun t118 => (if t118 = true then ((op_Once.f 3).bind fun t119 => (if t119 = true then (some false) else ((op_May.f k 0 3 0 0 0 0 true 0 4).bind fun t120 => (if t120 = 0 then ((op_May.f k 0 3 0 0 0 0 true 1 4).bind fun t121 => (if t121 = 123 then ((op_May.f k 0 3 0 0 0 0 true 1 1).bind fun t122 => (if t122 = 0 then ((op_May.f k 0 3 0 0 0 0 true 3 1).bind fun t123 => (if t123 = 123 then ((op_May.f k 0 3 0 0 0 0 true 3 9).bind fun t124 => (if t124 = 123 then ((op_May.f k 0 3 0 0 0 0 true 2 9).bind fun t125 => (if t125 = 190 then ((op_Ends.f k 7 1).bind fun t126 => (if t126 = true then ((op_Ends.f k 7 7).bind fun t127 => (if t127 = true then (some false) else ((op_Ends.f k 1 3).bind fun t128 => (if t128 = true then ((op_Ends.f k 1 2).bind fun t129 => (if t129 = true then (some false) else ((op_Ends.f k 9 1).bind fun t130 => (if t130 = true then (some false) else (some true))))) else (some false))))) else (some false))) else (some false))) else (some false))) else (some false))) else (some false))) else (some false))) else (some false))))) else (some false))))) else (some false))) else (some false))) else (some false))) else (some false))) else (some false))))))) else (some false))) else (some false))
theorem sakialaw11_awake.mono : ∀ k, LeO (sakialaw11_awake.f k ) (sakialaw11_awake.f (k + 1) ) := by
 intro  k
 unfold sakialaw11_awake.f
 repeat' first
   | (with_reducible exact op_Check.mono _ _)
   | (with_reducible exact op_Ends.mono _ _ _)
   | (with_reducible exact op_May.mono _ _ _ _ _ _ _ _ _ _)
   | (with_reducible exact op_Side.mono _ _)
   | (with_reducible exact LeO.refl _)
   | (with_reducible exact LeO.none _)
   | (with_reducible refine LeO.ite ?_ ?_)
   | (with_reducible refine LeO.bind ?_ (fun _ => ?_))
   | exact op_Check.mono _ _
   | exact op_Ends.mono _ _ _
   | exact op_May.mono _ _ _ _ _ _ _ _ _ _
   | exact op_Side.mono _ _
   | exact LeO.none _
   | refine LeO.ite ?_ ?_
   | refine LeO.bind ?_ (fun _ => ?_)
theorem sakialaw11_awake.eq_ : sakialaw11_awake.f 400 = some true := by decide +kernel
theorem sakialaw11_awake.up_ (a b : Nat) (r : Bool) (hab : a ≤ b) (h : sakialaw11_awake.f a = some r) : sakialaw11_awake.f b = some r := by
 induction hab with
 | refl => exact h
 | step _ ih => exact sakialaw11_awake.mono _ _ ih
theorem sakialaw11_awake.true_ (k : Nat) (r : Bool) (h : sakialaw11_awake.f k = some r) : r = true := by
 rcases Nat.le_total k 400 with hk | hk
 ·exact Option.some.inj ((sakialaw11_awake.up_ k 400 r hk h).symm.trans sakialaw11_awake.eq_)
 ·exact Option.some.inj (h.symm.trans (sakialaw11_awake.up_ 400 k true hk sakialaw11_awake.eq_))
set_option maxHeartbeats 8000000 in
set_option maxRecDepth 100000 in
theorem sakialaw11_awake.calls (k : Nat)  (r : Bool) (w : World) (h : sakialaw11_awake.f k  = some r) :
  Calls Try.prog 14 #[] w fun e w' => e = .returned (.bool r) ∧ Below w.heap.size w w' := by
 have hu23 := Try.underlying23
 have HB := Aside0.mk (Below.refl w.heap.size w)
 have HR_ := Aside0.mk (sakialaw11_awake.true_ k r h)
 have H : ((op_Check.f k 1).bind fun t108 => (if t108 = true then ((op_Check.f k 8).bind fun t109 => (if t109 = true then ((op_Check.f k 0).bind fun t110 => (if t110 = true then (some false) else ((op_Check.f k 9).bind fun t111 => (if t111 = true then (some false) else ((op_Side.f k 5).bind fun t112 => (if t112 = 2 then ((op_Side.f k 3).bind fun t113 => (if t113 = 1 then ((op_Side.f k 8).bind fun t114 => (if t114 = 3 then ((op_Side.f k 9).bind fun t115 => (if t115 = 0 then ((op_Timed.f 3).bind fun t116 => (if t116 = true then ((op_Timed.f 1).bind fun t117 => (if t117 = true then (some false) else ((op_Once.f 2).bind fun t118 => (if t118 = true then ((op_Once.f 3).bind fun t119 => (if t119 = true then (some false) else ((op_May.f k 0 3 0 0 0 0 true 0 4).bind fun t120 => (if t120 = 0 then ((op_May.f k 0 3 0 0 0 0 true 1 4).bind fun t121 => (if t121 = 123 then ((op_May.f k 0 3 0 0 0 0 true 1 1).bind fun t122 => (if t122 = 0 then ((op_May.f k 0 3 0 0 0 0 true 3 1).bind fun t123 => (if t123 = 123 then ((op_May.f k 0 3 0 0 0 0 true 3 9).bind fun t124 => (if t124 = 123 then ((op_May.f k 0 3 0 0 0 0 true 2 9).bind fun t125 => (if t125 = 190 then ((op_Ends.f k 7 1).bind fun t126 => (if t126 = true then ((op_Ends.f k 7 7).bind fun t127 => (if t127 = true then (some false) else ((op_Ends.f k 1 3).bind fun t128 => (if t128 = true then ((op_Ends.f k 1 2).bind fun t129 => (if t129 = true then (some false) else ((op_Ends.f k 9 1).bind fun t130 => (if t130 = true then (some false) else (some true))))) else (some false))))) else (some false))) else (some false))) else (some false))) else (some false))) else (some false))) else (some false))) else (some false))))) else (some false))))) else (some false))) else (some false))) else (some false))) else (some false))) else (some false))))))) else (some false))) else (some false))) = some r := h
 clear h
 replace H := Option.bind_eq_some_iff.mp H
 obtain ⟨t108, A10, H⟩ := H
 replace H : (if t108 = true then ((op_Check.f k 8).bind fun t109 => (if t109 = true then ((op_Check.f k 0).bind fun t110 => (if t110 = true then (some false) else ((op_Check.f k 9).bind fun t111 => (if t111 = true then (some false) else ((op_Side.f k 5).bind fun t112 => (if t112 = 2 then ((op_Side.f k 3).bind fun t113 => (if t113 = 1 then ((op_Side.f k 8).bind fun t114 => (if t114 = 3 then ((op_Side.f k 9).bind fun t115 => (if t115 = 0 then ((op_Timed.f 3).bind fun t116 => (if t116 = true then ((op_Timed.f 1).bind fun t117 => (if t117 = true then (some false) else ((op_Once.f 2).bind fun t118 => (if t118 = true then ((op_Once.f 3).bind fun t119 => (if t119 = true then (some false) else ((op_May.f k 0 3 0 0 0 0 true 0 4).bind fun t120 => (if t120 = 0 then ((op_May.f k 0 3 0 0 0 0 true 1 4).bind fun t121 => (if t121 = 123 then ((op_May.f k 0 3 0 0 0 0 true 1 1).bind fun t122 => (if t122 = 0 then ((op_May.f k 0 3 0 0 0 0 true 3 1).bind fun t123 => (if t123 = 123 then ((op_May.f k 0 3 0 0 0 0 true 3 9).bind fun t124 => (if t124 = 123 then ((op_May.f k 0 3 0 0 0 0 true 2 9).bind fun t125 => (if t125 = 190 then ((op_Ends.f k 7 1).bind fun t126 => (if t126 = true then ((op_Ends.f k 7 7).bind fun t127 => (if t127 = true then (some false) else ((op_Ends.f k 1 3).bind fun t128 => (if t128 = true then ((op_Ends.f k 1 2).bind fun t129 => (if t129 = true then (some false) else ((op_Ends.f k 9 1).bind fun t130 => (if t130 = true then (some false) else (some true))))) else (some false))))) else (some false))) else (some false))) else (some false))) else (some false))) else (some false))) else (some false))) else (some false))))) else (some false))))) else (some false))) else (some false))) else (some false))) else (some false))) else (some false))))))) else (some false))) else (some false)) = some r := H
 have A1 := Aside0.mk A10
 clear A10
 by_cases c2 : t108 = true
 ·subst c2
  have H1 : ((op_Check.f k 8).bind fun t109 => (if t109 = true then ((op_Check.f k 0).bind fun t110 => (if t110 = true then (some false) else ((op_Check.f k 9).bind fun t111 => (if t111 = true then (some false) else ((op_Side.f k 5).bind fun t112 => (if t112 = 2 then ((op_Side.f k 3).bind fun t113 => (if t113 = 1 then ((op_Side.f k 8).bind fun t114 => (if t114 = 3 then ((op_Side.f k 9).bind fun t115 => (if t115 = 0 then ((op_Timed.f 3).bind fun t116 => (if t116 = true then ((op_Timed.f 1).bind fun t117 => (if t117 = true then (some false) else ((op_Once.f 2).bind fun t118 => (if t118 = true then ((op_Once.f 3).bind fun t119 => (if t119 = true then (some false) else ((op_May.f k 0 3 0 0 0 0 true 0 4).bind fun t120 => (if t120 = 0 then ((op_May.f k 0 3 0 0 0 0 true 1 4).bind fun t121 => (if t121 = 123 then ((op_May.f k 0 3 0 0 0 0 true 1 1).bind fun t122 => (if t122 = 0 then ((op_May.f k 0 3 0 0 0 0 true 3 1).bind fun t123 => (if t123 = 123 then ((op_May.f k 0 3 0 0 0 0 true 3 9).bind fun t124 => (if t124 = 123 then ((op_May.f k 0 3 0 0 0 0 true 2 9).bind fun t125 => (if t125 = 190 then ((op_Ends.f k 7 1).bind fun t126 => (if t126 = true then ((op_Ends.f k 7 7).bind fun t127 => (if t127 = true then (some false) else ((op_Ends.f k 1 3).bind fun t128 => (if t128 = true then ((op_Ends.f k 1 2).bind fun t129 => (if t129 = true then (some false) else ((op_Ends.f k 9 1).bind fun t130 => (if t130 = true then (some false) else (some true))))) else (some false))))) else (some false))) else (some false))) else (some false))) else (some false))) else (some false))) else (some false))) else (some false))))) else (some false))))) else (some false))) else (some false))) else (some false))) else (some false))) else (some false))))))) else (some false))) = some r := by rw [if_pos rfl] at H; exact H
  clear H
  have H := H1
  clear H1
  replace H := Option.bind_eq_some_iff.mp H
  obtain ⟨t109, A30, H⟩ := H
  replace H : (if t109 = true then ((op_Check.f k 0).bind fun t110 => (if t110 = true then (some false) else ((op_Check.f k 9).bind fun t111 => (if t111 = true then (some false) else ((op_Side.f k 5).bind fun t112 => (if t112 = 2 then ((op_Side.f k 3).bind fun t113 => (if t113 = 1 then ((op_Side.f k 8).bind fun t114 => (if t114 = 3 then ((op_Side.f k 9).bind fun t115 => (if t115 = 0 then ((op_Timed.f 3).bind fun t116 => (if t116 = true then ((op_Timed.f 1).bind fun t117 => (if t117 = true then (some false) else ((op_Once.f 2).bind fun t118 => (if t118 = true then ((op_Once.f 3).bind fun t119 => (if t119 = true then (some false) else ((op_May.f k 0 3 0 0 0 0 true 0 4).bind fun t120 => (if t120 = 0 then ((op_May.f k 0 3 0 0 0 0 true 1 4).bind fun t121 => (if t121 = 123 then ((op_May.f k 0 3 0 0 0 0 true 1 1).bind fun t122 => (if t122 = 0 then ((op_May.f k 0 3 0 0 0 0 true 3 1).bind fun t123 => (if t123 = 123 then ((op_May.f k 0 3 0 0 0 0 true 3 9).bind fun t124 => (if t124 = 123 then ((op_May.f k 0 3 0 0 0 0 true 2 9).bind fun t125 => (if t125 = 190 then ((op_Ends.f k 7 1).bind fun t126 => (if t126 = true then ((op_Ends.f k 7 7).bind fun t127 => (if t127 = true then (some false) else ((op_Ends.f k 1 3).bind fun t128 => (if t128 = true then ((op_Ends.f k 1 2).bind fun t129 => (if t129 = true then (some false) else ((op_Ends.f k 9 1).bind fun t130 => (if t130 = true then (some false) else (some true))))) else (some false))))) else (some false))) else (some false))) else (some false))) else (some false))) else (some false))) else (some false))) else (some false))))) else (some false))))) else (some false))) else (some false))) else (some false))) else (some false))) else (some false))))))) else (some false)) = some r := H
  have A3 := Aside0.mk A30
  clear A30
  by_cases c4 : t109 = true
  ·subst c4
   have H1 : ((op_Check.f k 0).bind fun t110 => (if t110 = true then (some false) else ((op_Check.f k 9).bind fun t111 => (if t111 = true then (some false) else ((op_Side.f k 5).bind fun t112 => (if t112 = 2 then ((op_Side.f k 3).bind fun t113 => (if t113 = 1 then ((op_Side.f k 8).bind fun t114 => (if t114 = 3 then ((op_Side.f k 9).bind fun t115 => (if t115 = 0 then ((op_Timed.f 3).bind fun t116 => (if t116 = true then ((op_Timed.f 1).bind fun t117 => (if t117 = true then (some false) else ((op_Once.f 2).bind fun t118 => (if t118 = true then ((op_Once.f 3).bind fun t119 => (if t119 = true then (some false) else ((op_May.f k 0 3 0 0 0 0 true 0 4).bind fun t120 => (if t120 = 0 then ((op_May.f k 0 3 0 0 0 0 true 1 4).bind fun t121 => (if t121 = 123 then ((op_May.f k 0 3 0 0 0 0 true 1 1).bind fun t122 => (if t122 = 0 then ((op_May.f k 0 3 0 0 0 0 true 3 1).bind fun t123 => (if t123 = 123 then ((op_May.f k 0 3 0 0 0 0 true 3 9).bind fun t124 => (if t124 = 123 then ((op_May.f k 0 3 0 0 0 0 true 2 9).bind fun t125 => (if t125 = 190 then ((op_Ends.f k 7 1).bind fun t126 => (if t126 = true then ((op_Ends.f k 7 7).bind fun t127 => (if t127 = true then (some false) else ((op_Ends.f k 1 3).bind fun t128 => (if t128 = true then ((op_Ends.f k 1 2).bind fun t129 => (if t129 = true then (some false) else ((op_Ends.f k 9 1).bind fun t130 => (if t130 = true then (some false) else (some true))))) else (some false))))) else (some false))) else (some false))) else (some false))) else (some false))) else (some false))) else (some false))) else (some false))))) else (some false))))) else (some false))) else (some false))) else (some false))) else (some false))) else (some false))))))) = some r := by rw [if_pos rfl] at H; exact H
   clear H
   have H := H1
   clear H1
   replace H := Option.bind_eq_some_iff.mp H
   obtain ⟨t110, A50, H⟩ := H
   replace H : (if t110 = true then (some false) else ((op_Check.f k 9).bind fun t111 => (if t111 = true then (some false) else ((op_Side.f k 5).bind fun t112 => (if t112 = 2 then ((op_Side.f k 3).bind fun t113 => (if t113 = 1 then ((op_Side.f k 8).bind fun t114 => (if t114 = 3 then ((op_Side.f k 9).bind fun t115 => (if t115 = 0 then ((op_Timed.f 3).bind fun t116 => (if t116 = true then ((op_Timed.f 1).bind fun t117 => (if t117 = true then (some false) else ((op_Once.f 2).bind fun t118 => (if t118 = true then ((op_Once.f 3).bind fun t119 => (if t119 = true then (some false) else ((op_May.f k 0 3 0 0 0 0 true 0 4).bind fun t120 => (if t120 = 0 then ((op_May.f k 0 3 0 0 0 0 true 1 4).bind fun t121 => (if t121 = 123 then ((op_May.f k 0 3 0 0 0 0 true 1 1).bind fun t122 => (if t122 = 0 then ((op_May.f k 0 3 0 0 0 0 true 3 1).bind fun t123 => (if t123 = 123 then ((op_May.f k 0 3 0 0 0 0 true 3 9).bind fun t124 => (if t124 = 123 then ((op_May.f k 0 3 0 0 0 0 true 2 9).bind fun t125 => (if t125 = 190 then ((op_Ends.f k 7 1).bind fun t126 => (if t126 = true then ((op_Ends.f k 7 7).bind fun t127 => (if t127 = true then (some false) else ((op_Ends.f k 1 3).bind fun t128 => (if t128 = true then ((op_Ends.f k 1 2).bind fun t129 => (if t129 = true then (some false) else ((op_Ends.f k 9 1).bind fun t130 => (if t130 = true then (some false) else (some true))))) else (some false))))) else (some false))) else (some false))) else (some false))) else (some false))) else (some false))) else (some false))) else (some false))))) else (some false))))) else (some false))) else (some false))) else (some false))) else (some false))) else (some false)))))) = some r := H
   have A5 := Aside0.mk A50
   clear A50
   by_cases c6 : t110 = true
   ·subst c6
    have H1 : (some false) = some r := by rw [if_pos rfl] at H; exact H
    clear H
    have H := H1
    clear H1
    exact absurd ((Option.some.inj H).trans HR_.out) (by decide)
   ·replace c6 := Bool.eq_false_iff.mpr c6
    subst c6
    have H1 : ((op_Check.f k 9).bind fun t111 => (if t111 = true then (some false) else ((op_Side.f k 5).bind fun t112 => (if t112 = 2 then ((op_Side.f k 3).bind fun t113 => (if t113 = 1 then ((op_Side.f k 8).bind fun t114 => (if t114 = 3 then ((op_Side.f k 9).bind fun t115 => (if t115 = 0 then ((op_Timed.f 3).bind fun t116 => (if t116 = true then ((op_Timed.f 1).bind fun t117 => (if t117 = true then (some false) else ((op_Once.f 2).bind fun t118 => (if t118 = true then ((op_Once.f 3).bind fun t119 => (if t119 = true then (some false) else ((op_May.f k 0 3 0 0 0 0 true 0 4).bind fun t120 => (if t120 = 0 then ((op_May.f k 0 3 0 0 0 0 true 1 4).bind fun t121 => (if t121 = 123 then ((op_May.f k 0 3 0 0 0 0 true 1 1).bind fun t122 => (if t122 = 0 then ((op_May.f k 0 3 0 0 0 0 true 3 1).bind fun t123 => (if t123 = 123 then ((op_May.f k 0 3 0 0 0 0 true 3 9).bind fun t124 => (if t124 = 123 then ((op_May.f k 0 3 0 0 0 0 true 2 9).bind fun t125 => (if t125 = 190 then ((op_Ends.f k 7 1).bind fun t126 => (if t126 = true then ((op_Ends.f k 7 7).bind fun t127 => (if t127 = true then (some false) else ((op_Ends.f k 1 3).bind fun t128 => (if t128 = true then ((op_Ends.f k 1 2).bind fun t129 => (if t129 = true then (some false) else ((op_Ends.f k 9 1).bind fun t130 => (if t130 = true then (some false) else (some true))))) else (some false))))) else (some false))) else (some false))) else (some false))) else (some false))) else (some false))) else (some false))) else (some false))))) else (some false))))) else (some false))) else (some false))) else (some false))) else (some false))) else (some false))))) = some r := by rw [if_neg (show ¬ (false = true) by decide)] at H; exact H
    clear H
    have H := H1
    clear H1
    replace H := Option.bind_eq_some_iff.mp H
    obtain ⟨t111, A70, H⟩ := H
    replace H : (if t111 = true then (some false) else ((op_Side.f k 5).bind fun t112 => (if t112 = 2 then ((op_Side.f k 3).bind fun t113 => (if t113 = 1 then ((op_Side.f k 8).bind fun t114 => (if t114 = 3 then ((op_Side.f k 9).bind fun t115 => (if t115 = 0 then ((op_Timed.f 3).bind fun t116 => (if t116 = true then ((op_Timed.f 1).bind fun t117 => (if t117 = true then (some false) else ((op_Once.f 2).bind fun t118 => (if t118 = true then ((op_Once.f 3).bind fun t119 => (if t119 = true then (some false) else ((op_May.f k 0 3 0 0 0 0 true 0 4).bind fun t120 => (if t120 = 0 then ((op_May.f k 0 3 0 0 0 0 true 1 4).bind fun t121 => (if t121 = 123 then ((op_May.f k 0 3 0 0 0 0 true 1 1).bind fun t122 => (if t122 = 0 then ((op_May.f k 0 3 0 0 0 0 true 3 1).bind fun t123 => (if t123 = 123 then ((op_May.f k 0 3 0 0 0 0 true 3 9).bind fun t124 => (if t124 = 123 then ((op_May.f k 0 3 0 0 0 0 true 2 9).bind fun t125 => (if t125 = 190 then ((op_Ends.f k 7 1).bind fun t126 => (if t126 = true then ((op_Ends.f k 7 7).bind fun t127 => (if t127 = true then (some false) else ((op_Ends.f k 1 3).bind fun t128 => (if t128 = true then ((op_Ends.f k 1 2).bind fun t129 => (if t129 = true then (some false) else ((op_Ends.f k 9 1).bind fun t130 => (if t130 = true then (some false) else (some true))))) else (some false))))) else (some false))) else (some false))) else (some false))) else (some false))) else (some false))) else (some false))) else (some false))))) else (some false))))) else (some false))) else (some false))) else (some false))) else (some false))) else (some false)))) = some r := H
    have A7 := Aside0.mk A70
    clear A70
    by_cases c8 : t111 = true
    ·subst c8
     have H1 : (some false) = some r := by rw [if_pos rfl] at H; exact H
     clear H
     have H := H1
     clear H1
     exact absurd ((Option.some.inj H).trans HR_.out) (by decide)
    ·replace c8 := Bool.eq_false_iff.mpr c8
     subst c8
     have H1 : ((op_Side.f k 5).bind fun t112 => (if t112 = 2 then ((op_Side.f k 3).bind fun t113 => (if t113 = 1 then ((op_Side.f k 8).bind fun t114 => (if t114 = 3 then ((op_Side.f k 9).bind fun t115 => (if t115 = 0 then ((op_Timed.f 3).bind fun t116 => (if t116 = true then ((op_Timed.f 1).bind fun t117 => (if t117 = true then (some false) else ((op_Once.f 2).bind fun t118 => (if t118 = true then ((op_Once.f 3).bind fun t119 => (if t119 = true then (some false) else ((op_May.f k 0 3 0 0 0 0 true 0 4).bind fun t120 => (if t120 = 0 then ((op_May.f k 0 3 0 0 0 0 true 1 4).bind fun t121 => (if t121 = 123 then ((op_May.f k 0 3 0 0 0 0 true 1 1).bind fun t122 => (if t122 = 0 then ((op_May.f k 0 3 0 0 0 0 true 3 1).bind fun t123 => (if t123 = 123 then ((op_May.f k 0 3 0 0 0 0 true 3 9).bind fun t124 => (if t124 = 123 then ((op_May.f k 0 3 0 0 0 0 true 2 9).bind fun t125 => (if t125 = 190 then ((op_Ends.f k 7 1).bind fun t126 => (if t126 = true then ((op_Ends.f k 7 7).bind fun t127 => (if t127 = true then (some false) else ((op_Ends.f k 1 3).bind fun t128 => (if t128 = true then ((op_Ends.f k 1 2).bind fun t129 => (if t129 = true then (some false) else ((op_Ends.f k 9 1).bind fun t130 => (if t130 = true then (some false) else (some true))))) else (some false))))) else (some false))) else (some false))) else (some false))) else (some false))) else (some false))) else (some false))) else (some false))))) else (some false))))) else (some false))) else (some false))) else (some false))) else (some false))) else (some false))) = some r := by rw [if_neg (show ¬ (false = true) by decide)] at H; exact H
     clear H
     have H := H1
     clear H1
     replace H := Option.bind_eq_some_iff.mp H
     obtain ⟨t112, A90, H⟩ := H
     replace H : (if t112 = 2 then ((op_Side.f k 3).bind fun t113 => (if t113 = 1 then ((op_Side.f k 8).bind fun t114 => (if t114 = 3 then ((op_Side.f k 9).bind fun t115 => (if t115 = 0 then ((op_Timed.f 3).bind fun t116 => (if t116 = true then ((op_Timed.f 1).bind fun t117 => (if t117 = true then (some false) else ((op_Once.f 2).bind fun t118 => (if t118 = true then ((op_Once.f 3).bind fun t119 => (if t119 = true then (some false) else ((op_May.f k 0 3 0 0 0 0 true 0 4).bind fun t120 => (if t120 = 0 then ((op_May.f k 0 3 0 0 0 0 true 1 4).bind fun t121 => (if t121 = 123 then ((op_May.f k 0 3 0 0 0 0 true 1 1).bind fun t122 => (if t122 = 0 then ((op_May.f k 0 3 0 0 0 0 true 3 1).bind fun t123 => (if t123 = 123 then ((op_May.f k 0 3 0 0 0 0 true 3 9).bind fun t124 => (if t124 = 123 then ((op_May.f k 0 3 0 0 0 0 true 2 9).bind fun t125 => (if t125 = 190 then ((op_Ends.f k 7 1).bind fun t126 => (if t126 = true then ((op_Ends.f k 7 7).bind fun t127 => (if t127 = true then (some false) else ((op_Ends.f k 1 3).bind fun t128 => (if t128 = true then ((op_Ends.f k 1 2).bind fun t129 => (if t129 = true then (some false) else ((op_Ends.f k 9 1).bind fun t130 => (if t130 = true then (some false) else (some true))))) else (some false))))) else (some false))) else (some false))) else (some false))) else (some false))) else (some false))) else (some false))) else (some false))))) else (some false))))) else (some false))) else (some false))) else (some false))) else (some false))) else (some false)) = some r := H
     have A9 := Aside0.mk A90
     clear A90
     by_cases c10 : t112 = 2
     ·rw [if_pos c10] at H
      have c10b0 : (t112 == 2) = true := beq_iff_eq.mpr c10
      have c10b1 : (t112 != 2) = false := bne_eq_false_iff_eq.mpr c10
      clear c10
      replace H := Option.bind_eq_some_iff.mp H
      obtain ⟨t113, A110, H⟩ := H
      replace H : (if t113 = 1 then ((op_Side.f k 8).bind fun t114 => (if t114 = 3 then ((op_Side.f k 9).bind fun t115 => (if t115 = 0 then ((op_Timed.f 3).bind fun t116 => (if t116 = true then ((op_Timed.f 1).bind fun t117 => (if t117 = true then (some false) else ((op_Once.f 2).bind fun t118 => (if t118 = true then ((op_Once.f 3).bind fun t119 => (if t119 = true then (some false) else ((op_May.f k 0 3 0 0 0 0 true 0 4).bind fun t120 => (if t120 = 0 then ((op_May.f k 0 3 0 0 0 0 true 1 4).bind fun t121 => (if t121 = 123 then ((op_May.f k 0 3 0 0 0 0 true 1 1).bind fun t122 => (if t122 = 0 then ((op_May.f k 0 3 0 0 0 0 true 3 1).bind fun t123 => (if t123 = 123 then ((op_May.f k 0 3 0 0 0 0 true 3 9).bind fun t124 => (if t124 = 123 then ((op_May.f k 0 3 0 0 0 0 true 2 9).bind fun t125 => (if t125 = 190 then ((op_Ends.f k 7 1).bind fun t126 => (if t126 = true then ((op_Ends.f k 7 7).bind fun t127 => (if t127 = true then (some false) else ((op_Ends.f k 1 3).bind fun t128 => (if t128 = true then ((op_Ends.f k 1 2).bind fun t129 => (if t129 = true then (some false) else ((op_Ends.f k 9 1).bind fun t130 => (if t130 = true then (some false) else (some true))))) else (some false))))) else (some false))) else (some false))) else (some false))) else (some false))) else (some false))) else (some false))) else (some false))))) else (some false))))) else (some false))) else (some false))) else (some false))) else (some false)) = some r := H
      have A11 := Aside0.mk A110
      clear A110
      by_cases c12 : t113 = 1
      ·rw [if_pos c12] at H
       have c12b0 : (t113 == 1) = true := beq_iff_eq.mpr c12
       have c12b1 : (t113 != 1) = false := bne_eq_false_iff_eq.mpr c12
       clear c12
       replace H := Option.bind_eq_some_iff.mp H
       obtain ⟨t114, A130, H⟩ := H
       replace H : (if t114 = 3 then ((op_Side.f k 9).bind fun t115 => (if t115 = 0 then ((op_Timed.f 3).bind fun t116 => (if t116 = true then ((op_Timed.f 1).bind fun t117 => (if t117 = true then (some false) else ((op_Once.f 2).bind fun t118 => (if t118 = true then ((op_Once.f 3).bind fun t119 => (if t119 = true then (some false) else ((op_May.f k 0 3 0 0 0 0 true 0 4).bind fun t120 => (if t120 = 0 then ((op_May.f k 0 3 0 0 0 0 true 1 4).bind fun t121 => (if t121 = 123 then ((op_May.f k 0 3 0 0 0 0 true 1 1).bind fun t122 => (if t122 = 0 then ((op_May.f k 0 3 0 0 0 0 true 3 1).bind fun t123 => (if t123 = 123 then ((op_May.f k 0 3 0 0 0 0 true 3 9).bind fun t124 => (if t124 = 123 then ((op_May.f k 0 3 0 0 0 0 true 2 9).bind fun t125 => (if t125 = 190 then ((op_Ends.f k 7 1).bind fun t126 => (if t126 = true then ((op_Ends.f k 7 7).bind fun t127 => (if t127 = true then (some false) else ((op_Ends.f k 1 3).bind fun t128 => (if t128 = true then ((op_Ends.f k 1 2).bind fun t129 => (if t129 = true then (some false) else ((op_Ends.f k 9 1).bind fun t130 => (if t130 = true then (some false) else (some true))))) else (some false))))) else (some false))) else (some false))) else (some false))) else (some false))) else (some false))) else (some false))) else (some false))))) else (some false))))) else (some false))) else (some false))) else (some false)) = some r := H
       have A13 := Aside0.mk A130
       clear A130
       by_cases c14 : t114 = 3
       ·rw [if_pos c14] at H
        have c14b0 : (t114 == 3) = true := beq_iff_eq.mpr c14
        have c14b1 : (t114 != 3) = false := bne_eq_false_iff_eq.mpr c14
        clear c14
        replace H := Option.bind_eq_some_iff.mp H
        obtain ⟨t115, A150, H⟩ := H
        replace H : (if t115 = 0 then ((op_Timed.f 3).bind fun t116 => (if t116 = true then ((op_Timed.f 1).bind fun t117 => (if t117 = true then (some false) else ((op_Once.f 2).bind fun t118 => (if t118 = true then ((op_Once.f 3).bind fun t119 => (if t119 = true then (some false) else ((op_May.f k 0 3 0 0 0 0 true 0 4).bind fun t120 => (if t120 = 0 then ((op_May.f k 0 3 0 0 0 0 true 1 4).bind fun t121 => (if t121 = 123 then ((op_May.f k 0 3 0 0 0 0 true 1 1).bind fun t122 => (if t122 = 0 then ((op_May.f k 0 3 0 0 0 0 true 3 1).bind fun t123 => (if t123 = 123 then ((op_May.f k 0 3 0 0 0 0 true 3 9).bind fun t124 => (if t124 = 123 then ((op_May.f k 0 3 0 0 0 0 true 2 9).bind fun t125 => (if t125 = 190 then ((op_Ends.f k 7 1).bind fun t126 => (if t126 = true then ((op_Ends.f k 7 7).bind fun t127 => (if t127 = true then (some false) else ((op_Ends.f k 1 3).bind fun t128 => (if t128 = true then ((op_Ends.f k 1 2).bind fun t129 => (if t129 = true then (some false) else ((op_Ends.f k 9 1).bind fun t130 => (if t130 = true then (some false) else (some true))))) else (some false))))) else (some false))) else (some false))) else (some false))) else (some false))) else (some false))) else (some false))) else (some false))))) else (some false))))) else (some false))) else (some false)) = some r := H
        have A15 := Aside0.mk A150
        clear A150
        by_cases c16 : t115 = 0
        ·rw [if_pos c16] at H
         have c16b0 : (t115 == 0) = true := beq_iff_eq.mpr c16
         have c16b1 : (t115 != 0) = false := bne_eq_false_iff_eq.mpr c16
         clear c16
         replace H := Option.bind_eq_some_iff.mp H
         obtain ⟨t116, A170, H⟩ := H
         replace H : (if t116 = true then ((op_Timed.f 1).bind fun t117 => (if t117 = true then (some false) else ((op_Once.f 2).bind fun t118 => (if t118 = true then ((op_Once.f 3).bind fun t119 => (if t119 = true then (some false) else ((op_May.f k 0 3 0 0 0 0 true 0 4).bind fun t120 => (if t120 = 0 then ((op_May.f k 0 3 0 0 0 0 true 1 4).bind fun t121 => (if t121 = 123 then ((op_May.f k 0 3 0 0 0 0 true 1 1).bind fun t122 => (if t122 = 0 then ((op_May.f k 0 3 0 0 0 0 true 3 1).bind fun t123 => (if t123 = 123 then ((op_May.f k 0 3 0 0 0 0 true 3 9).bind fun t124 => (if t124 = 123 then ((op_May.f k 0 3 0 0 0 0 true 2 9).bind fun t125 => (if t125 = 190 then ((op_Ends.f k 7 1).bind fun t126 => (if t126 = true then ((op_Ends.f k 7 7).bind fun t127 => (if t127 = true then (some false) else ((op_Ends.f k 1 3).bind fun t128 => (if t128 = true then ((op_Ends.f k 1 2).bind fun t129 => (if t129 = true then (some false) else ((op_Ends.f k 9 1).bind fun t130 => (if t130 = true then (some false) else (some true))))) else (some false))))) else (some false))) else (some false))) else (some false))) else (some false))) else (some false))) else (some false))) else (some false))))) else (some false))))) else (some false)) = some r := H
         have A17 := Aside0.mk A170
         clear A170
         by_cases c18 : t116 = true
         ·subst c18
          have H1 : ((op_Timed.f 1).bind fun t117 => (if t117 = true then (some false) else ((op_Once.f 2).bind fun t118 => (if t118 = true then ((op_Once.f 3).bind fun t119 => (if t119 = true then (some false) else ((op_May.f k 0 3 0 0 0 0 true 0 4).bind fun t120 => (if t120 = 0 then ((op_May.f k 0 3 0 0 0 0 true 1 4).bind fun t121 => (if t121 = 123 then ((op_May.f k 0 3 0 0 0 0 true 1 1).bind fun t122 => (if t122 = 0 then ((op_May.f k 0 3 0 0 0 0 true 3 1).bind fun t123 => (if t123 = 123 then ((op_May.f k 0 3 0 0 0 0 true 3 9).bind fun t124 => (if t124 = 123 then ((op_May.f k 0 3 0 0 0 0 true 2 9).bind fun t125 => (if t125 = 190 then ((op_Ends.f k 7 1).bind fun t126 => (if t126 = true then ((op_Ends.f k 7 7).bind fun t127 => (if t127 = true then (some false) else ((op_Ends.f k 1 3).bind fun t128 => (if t128 = true then ((op_Ends.f k 1 2).bind fun t129 => (if t129 = true then (some false) else ((op_Ends.f k 9 1).bind fun t130 => (if t130 = true then (some false) else (some true))))) else (some false))))) else (some false))) else (some false))) else (some false))) else (some false))) else (some false))) else (some false))) else (some false))))) else (some false))))) = some r := by rw [if_pos rfl] at H; exact H
          clear H
          have H := H1
          clear H1
          replace H := Option.bind_eq_some_iff.mp H
          obtain ⟨t117, A190, H⟩ := H
          replace H : (if t117 = true then (some false) else ((op_Once.f 2).bind fun t118 => (if t118 = true then ((op_Once.f 3).bind fun t119 => (if t119 = true then (some false) else ((op_May.f k 0 3 0 0 0 0 true 0 4).bind fun t120 => (if t120 = 0 then ((op_May.f k 0 3 0 0 0 0 true 1 4).bind fun t121 => (if t121 = 123 then ((op_May.f k 0 3 0 0 0 0 true 1 1).bind fun t122 => (if t122 = 0 then ((op_May.f k 0 3 0 0 0 0 true 3 1).bind fun t123 => (if t123 = 123 then ((op_May.f k 0 3 0 0 0 0 true 3 9).bind fun t124 => (if t124 = 123 then ((op_May.f k 0 3 0 0 0 0 true 2 9).bind fun t125 => (if t125 = 190 then ((op_Ends.f k 7 1).bind fun t126 => (if t126 = true then ((op_Ends.f k 7 7).bind fun t127 => (if t127 = true then (some false) else ((op_Ends.f k 1 3).bind fun t128 => (if t128 = true then ((op_Ends.f k 1 2).bind fun t129 => (if t129 = true then (some false) else ((op_Ends.f k 9 1).bind fun t130 => (if t130 = true then (some false) else (some true))))) else (some false))))) else (some false))) else (some false))) else (some false))) else (some false))) else (some false))) else (some false))) else (some false))))) else (some false)))) = some r := H
          have A19 := Aside0.mk A190
          clear A190
          by_cases c20 : t117 = true
          ·subst c20
           have H1 : (some false) = some r := by rw [if_pos rfl] at H; exact H
           clear H
           have H := H1
           clear H1
           exact absurd ((Option.some.inj H).trans HR_.out) (by decide)
          ·replace c20 := Bool.eq_false_iff.mpr c20
           subst c20
           have H1 : ((op_Once.f 2).bind fun t118 => (if t118 = true then ((op_Once.f 3).bind fun t119 => (if t119 = true then (some false) else ((op_May.f k 0 3 0 0 0 0 true 0 4).bind fun t120 => (if t120 = 0 then ((op_May.f k 0 3 0 0 0 0 true 1 4).bind fun t121 => (if t121 = 123 then ((op_May.f k 0 3 0 0 0 0 true 1 1).bind fun t122 => (if t122 = 0 then ((op_May.f k 0 3 0 0 0 0 true 3 1).bind fun t123 => (if t123 = 123 then ((op_May.f k 0 3 0 0 0 0 true 3 9).bind fun t124 => (if t124 = 123 then ((op_May.f k 0 3 0 0 0 0 true 2 9).bind fun t125 => (if t125 = 190 then ((op_Ends.f k 7 1).bind fun t126 => (if t126 = true then ((op_Ends.f k 7 7).bind fun t127 => (if t127 = true then (some false) else ((op_Ends.f k 1 3).bind fun t128 => (if t128 = true then ((op_Ends.f k 1 2).bind fun t129 => (if t129 = true then (some false) else ((op_Ends.f k 9 1).bind fun t130 => (if t130 = true then (some false) else (some true))))) else (some false))))) else (some false))) else (some false))) else (some false))) else (some false))) else (some false))) else (some false))) else (some false))))) else (some false))) = some r := by rw [if_neg (show ¬ (false = true) by decide)] at H; exact H
           clear H
           have H := H1
           clear H1
           replace H := Option.bind_eq_some_iff.mp H
           obtain ⟨t118, A210, H⟩ := H
           replace H : (if t118 = true then ((op_Once.f 3).bind fun t119 => (if t119 = true then (some false) else ((op_May.f k 0 3 0 0 0 0 true 0 4).bind fun t120 => (if t120 = 0 then ((op_May.f k 0 3 0 0 0 0 true 1 4).bind fun t121 => (if t121 = 123 then ((op_May.f k 0 3 0 0 0 0 true 1 1).bind fun t122 => (if t122 = 0 then ((op_May.f k 0 3 0 0 0 0 true 3 1).bind fun t123 => (if t123 = 123 then ((op_May.f k 0 3 0 0 0 0 true 3 9).bind fun t124 => (if t124 = 123 then ((op_May.f k 0 3 0 0 0 0 true 2 9).bind fun t125 => (if t125 = 190 then ((op_Ends.f k 7 1).bind fun t126 => (if t126 = true then ((op_Ends.f k 7 7).bind fun t127 => (if t127 = true then (some false) else ((op_Ends.f k 1 3).bind fun t128 => (if t128 = true then ((op_Ends.f k 1 2).bind fun t129 => (if t129 = true then (some false) else ((op_Ends.f k 9 1).bind fun t130 => (if t130 = true then (some false) else (some true))))) else (some false))))) else (some false))) else (some false))) else (some false))) else (some false))) else (some false))) else (some false))) else (some false))))) else (some false)) = some r := H
           have A21 := Aside0.mk A210
           clear A210
           by_cases c22 : t118 = true
           ·subst c22
            have H1 : ((op_Once.f 3).bind fun t119 => (if t119 = true then (some false) else ((op_May.f k 0 3 0 0 0 0 true 0 4).bind fun t120 => (if t120 = 0 then ((op_May.f k 0 3 0 0 0 0 true 1 4).bind fun t121 => (if t121 = 123 then ((op_May.f k 0 3 0 0 0 0 true 1 1).bind fun t122 => (if t122 = 0 then ((op_May.f k 0 3 0 0 0 0 true 3 1).bind fun t123 => (if t123 = 123 then ((op_May.f k 0 3 0 0 0 0 true 3 9).bind fun t124 => (if t124 = 123 then ((op_May.f k 0 3 0 0 0 0 true 2 9).bind fun t125 => (if t125 = 190 then ((op_Ends.f k 7 1).bind fun t126 => (if t126 = true then ((op_Ends.f k 7 7).bind fun t127 => (if t127 = true then (some false) else ((op_Ends.f k 1 3).bind fun t128 => (if t128 = true then ((op_Ends.f k 1 2).bind fun t129 => (if t129 = true then (some false) else ((op_Ends.f k 9 1).bind fun t130 => (if t130 = true then (some false) else (some true))))) else (some false))))) else (some false))) else (some false))) else (some false))) else (some false))) else (some false))) else (some false))) else (some false))))) = some r := by rw [if_pos rfl] at H; exact H
            clear H
            have H := H1
            clear H1
            replace H := Option.bind_eq_some_iff.mp H
            obtain ⟨t119, A230, H⟩ := H
            replace H : (if t119 = true then (some false) else ((op_May.f k 0 3 0 0 0 0 true 0 4).bind fun t120 => (if t120 = 0 then ((op_May.f k 0 3 0 0 0 0 true 1 4).bind fun t121 => (if t121 = 123 then ((op_May.f k 0 3 0 0 0 0 true 1 1).bind fun t122 => (if t122 = 0 then ((op_May.f k 0 3 0 0 0 0 true 3 1).bind fun t123 => (if t123 = 123 then ((op_May.f k 0 3 0 0 0 0 true 3 9).bind fun t124 => (if t124 = 123 then ((op_May.f k 0 3 0 0 0 0 true 2 9).bind fun t125 => (if t125 = 190 then ((op_Ends.f k 7 1).bind fun t126 => (if t126 = true then ((op_Ends.f k 7 7).bind fun t127 => (if t127 = true then (some false) else ((op_Ends.f k 1 3).bind fun t128 => (if t128 = true then ((op_Ends.f k 1 2).bind fun t129 => (if t129 = true then (some false) else ((op_Ends.f k 9 1).bind fun t130 => (if t130 = true then (some false) else (some true))))) else (some false))))) else (some false))) else (some false))) else (some false))) else (some false))) else (some false))) else (some false))) else (some false)))) = some r := H
            have A23 := Aside0.mk A230
            clear A230
            by_cases c24 : t119 = true
            ·subst c24
             have H1 : (some false) = some r := by rw [if_pos rfl] at H; exact H
             clear H
             have H := H1
             clear H1
             exact absurd ((Option.some.inj H).trans HR_.out) (by decide)
            ·replace c24 := Bool.eq_false_iff.mpr c24
             subst c24
             have H1 : ((op_May.f k 0 3 0 0 0 0 true 0 4).bind fun t120 => (if t120 = 0 then ((op_May.f k 0 3 0 0 0 0 true 1 4).bind fun t121 => (if t121 = 123 then ((op_May.f k 0 3 0 0 0 0 true 1 1).bind fun t122 => (if t122 = 0 then ((op_May.f k 0 3 0 0 0 0 true 3 1).bind fun t123 => (if t123 = 123 then ((op_May.f k 0 3 0 0 0 0 true 3 9).bind fun t124 => (if t124 = 123 then ((op_May.f k 0 3 0 0 0 0 true 2 9).bind fun t125 => (if t125 = 190 then ((op_Ends.f k 7 1).bind fun t126 => (if t126 = true then ((op_Ends.f k 7 7).bind fun t127 => (if t127 = true then (some false) else ((op_Ends.f k 1 3).bind fun t128 => (if t128 = true then ((op_Ends.f k 1 2).bind fun t129 => (if t129 = true then (some false) else ((op_Ends.f k 9 1).bind fun t130 => (if t130 = true then (some false) else (some true))))) else (some false))))) else (some false))) else (some false))) else (some false))) else (some false))) else (some false))) else (some false))) else (some false))) = some r := by rw [if_neg (show ¬ (false = true) by decide)] at H; exact H
             clear H
             have H := H1
             clear H1
             replace H := Option.bind_eq_some_iff.mp H
             obtain ⟨t120, A250, H⟩ := H
             replace H : (if t120 = 0 then ((op_May.f k 0 3 0 0 0 0 true 1 4).bind fun t121 => (if t121 = 123 then ((op_May.f k 0 3 0 0 0 0 true 1 1).bind fun t122 => (if t122 = 0 then ((op_May.f k 0 3 0 0 0 0 true 3 1).bind fun t123 => (if t123 = 123 then ((op_May.f k 0 3 0 0 0 0 true 3 9).bind fun t124 => (if t124 = 123 then ((op_May.f k 0 3 0 0 0 0 true 2 9).bind fun t125 => (if t125 = 190 then ((op_Ends.f k 7 1).bind fun t126 => (if t126 = true then ((op_Ends.f k 7 7).bind fun t127 => (if t127 = true then (some false) else ((op_Ends.f k 1 3).bind fun t128 => (if t128 = true then ((op_Ends.f k 1 2).bind fun t129 => (if t129 = true then (some false) else ((op_Ends.f k 9 1).bind fun t130 => (if t130 = true then (some false) else (some true))))) else (some false))))) else (some false))) else (some false))) else (some false))) else (some false))) else (some false))) else (some false))) else (some false)) = some r := H
             have A25 := Aside0.mk A250
             clear A250
             by_cases c26 : t120 = 0
             ·rw [if_pos c26] at H
              have c26b0 : (t120 == 0) = true := beq_iff_eq.mpr c26
              have c26b1 : (t120 != 0) = false := bne_eq_false_iff_eq.mpr c26
              clear c26
              replace H := Option.bind_eq_some_iff.mp H
              obtain ⟨t121, A270, H⟩ := H
              replace H : (if t121 = 123 then ((op_May.f k 0 3 0 0 0 0 true 1 1).bind fun t122 => (if t122 = 0 then ((op_May.f k 0 3 0 0 0 0 true 3 1).bind fun t123 => (if t123 = 123 then ((op_May.f k 0 3 0 0 0 0 true 3 9).bind fun t124 => (if t124 = 123 then ((op_May.f k 0 3 0 0 0 0 true 2 9).bind fun t125 => (if t125 = 190 then ((op_Ends.f k 7 1).bind fun t126 => (if t126 = true then ((op_Ends.f k 7 7).bind fun t127 => (if t127 = true then (some false) else ((op_Ends.f k 1 3).bind fun t128 => (if t128 = true then ((op_Ends.f k 1 2).bind fun t129 => (if t129 = true then (some false) else ((op_Ends.f k 9 1).bind fun t130 => (if t130 = true then (some false) else (some true))))) else (some false))))) else (some false))) else (some false))) else (some false))) else (some false))) else (some false))) else (some false)) = some r := H
              have A27 := Aside0.mk A270
              clear A270
              by_cases c28 : t121 = 123
              ·rw [if_pos c28] at H
               have c28b0 : (t121 == 123) = true := beq_iff_eq.mpr c28
               have c28b1 : (t121 != 123) = false := bne_eq_false_iff_eq.mpr c28
               clear c28
               replace H := Option.bind_eq_some_iff.mp H
               obtain ⟨t122, A290, H⟩ := H
               replace H : (if t122 = 0 then ((op_May.f k 0 3 0 0 0 0 true 3 1).bind fun t123 => (if t123 = 123 then ((op_May.f k 0 3 0 0 0 0 true 3 9).bind fun t124 => (if t124 = 123 then ((op_May.f k 0 3 0 0 0 0 true 2 9).bind fun t125 => (if t125 = 190 then ((op_Ends.f k 7 1).bind fun t126 => (if t126 = true then ((op_Ends.f k 7 7).bind fun t127 => (if t127 = true then (some false) else ((op_Ends.f k 1 3).bind fun t128 => (if t128 = true then ((op_Ends.f k 1 2).bind fun t129 => (if t129 = true then (some false) else ((op_Ends.f k 9 1).bind fun t130 => (if t130 = true then (some false) else (some true))))) else (some false))))) else (some false))) else (some false))) else (some false))) else (some false))) else (some false)) = some r := H
               have A29 := Aside0.mk A290
               clear A290
               by_cases c30 : t122 = 0
               ·rw [if_pos c30] at H
                have c30b0 : (t122 == 0) = true := beq_iff_eq.mpr c30
                have c30b1 : (t122 != 0) = false := bne_eq_false_iff_eq.mpr c30
                clear c30
                replace H := Option.bind_eq_some_iff.mp H
                obtain ⟨t123, A310, H⟩ := H
                replace H : (if t123 = 123 then ((op_May.f k 0 3 0 0 0 0 true 3 9).bind fun t124 => (if t124 = 123 then ((op_May.f k 0 3 0 0 0 0 true 2 9).bind fun t125 => (if t125 = 190 then ((op_Ends.f k 7 1).bind fun t126 => (if t126 = true then ((op_Ends.f k 7 7).bind fun t127 => (if t127 = true then (some false) else ((op_Ends.f k 1 3).bind fun t128 => (if t128 = true then ((op_Ends.f k 1 2).bind fun t129 => (if t129 = true then (some false) else ((op_Ends.f k 9 1).bind fun t130 => (if t130 = true then (some false) else (some true))))) else (some false))))) else (some false))) else (some false))) else (some false))) else (some false)) = some r := H
                have A31 := Aside0.mk A310
                clear A310
                by_cases c32 : t123 = 123
                ·rw [if_pos c32] at H
                 have c32b0 : (t123 == 123) = true := beq_iff_eq.mpr c32
                 have c32b1 : (t123 != 123) = false := bne_eq_false_iff_eq.mpr c32
                 clear c32
                 replace H := Option.bind_eq_some_iff.mp H
                 obtain ⟨t124, A330, H⟩ := H
                 replace H : (if t124 = 123 then ((op_May.f k 0 3 0 0 0 0 true 2 9).bind fun t125 => (if t125 = 190 then ((op_Ends.f k 7 1).bind fun t126 => (if t126 = true then ((op_Ends.f k 7 7).bind fun t127 => (if t127 = true then (some false) else ((op_Ends.f k 1 3).bind fun t128 => (if t128 = true then ((op_Ends.f k 1 2).bind fun t129 => (if t129 = true then (some false) else ((op_Ends.f k 9 1).bind fun t130 => (if t130 = true then (some false) else (some true))))) else (some false))))) else (some false))) else (some false))) else (some false)) = some r := H
                 have A33 := Aside0.mk A330
                 clear A330
                 by_cases c34 : t124 = 123
                 ·rw [if_pos c34] at H
                  have c34b0 : (t124 == 123) = true := beq_iff_eq.mpr c34
                  have c34b1 : (t124 != 123) = false := bne_eq_false_iff_eq.mpr c34
                  clear c34
                  replace H := Option.bind_eq_some_iff.mp H
                  obtain ⟨t125, A350, H⟩ := H
                  replace H : (if t125 = 190 then ((op_Ends.f k 7 1).bind fun t126 => (if t126 = true then ((op_Ends.f k 7 7).bind fun t127 => (if t127 = true then (some false) else ((op_Ends.f k 1 3).bind fun t128 => (if t128 = true then ((op_Ends.f k 1 2).bind fun t129 => (if t129 = true then (some false) else ((op_Ends.f k 9 1).bind fun t130 => (if t130 = true then (some false) else (some true))))) else (some false))))) else (some false))) else (some false)) = some r := H
                  have A35 := Aside0.mk A350
                  clear A350
                  by_cases c36 : t125 = 190
                  ·rw [if_pos c36] at H
                   have c36b0 : (t125 == 190) = true := beq_iff_eq.mpr c36
                   have c36b1 : (t125 != 190) = false := bne_eq_false_iff_eq.mpr c36
                   clear c36
                   replace H := Option.bind_eq_some_iff.mp H
                   obtain ⟨t126, A370, H⟩ := H
                   replace H : (if t126 = true then ((op_Ends.f k 7 7).bind fun t127 => (if t127 = true then (some false) else ((op_Ends.f k 1 3).bind fun t128 => (if t128 = true then ((op_Ends.f k 1 2).bind fun t129 => (if t129 = true then (some false) else ((op_Ends.f k 9 1).bind fun t130 => (if t130 = true then (some false) else (some true))))) else (some false))))) else (some false)) = some r := H
                   have A37 := Aside0.mk A370
                   clear A370
                   by_cases c38 : t126 = true
                   ·subst c38
                    have H1 : ((op_Ends.f k 7 7).bind fun t127 => (if t127 = true then (some false) else ((op_Ends.f k 1 3).bind fun t128 => (if t128 = true then ((op_Ends.f k 1 2).bind fun t129 => (if t129 = true then (some false) else ((op_Ends.f k 9 1).bind fun t130 => (if t130 = true then (some false) else (some true))))) else (some false))))) = some r := by rw [if_pos rfl] at H; exact H
                    clear H
                    have H := H1
                    clear H1
                    replace H := Option.bind_eq_some_iff.mp H
                    obtain ⟨t127, A390, H⟩ := H
                    replace H : (if t127 = true then (some false) else ((op_Ends.f k 1 3).bind fun t128 => (if t128 = true then ((op_Ends.f k 1 2).bind fun t129 => (if t129 = true then (some false) else ((op_Ends.f k 9 1).bind fun t130 => (if t130 = true then (some false) else (some true))))) else (some false)))) = some r := H
                    have A39 := Aside0.mk A390
                    clear A390
                    by_cases c40 : t127 = true
                    ·subst c40
                     have H1 : (some false) = some r := by rw [if_pos rfl] at H; exact H
                     clear H
                     have H := H1
                     clear H1
                     exact absurd ((Option.some.inj H).trans HR_.out) (by decide)
                    ·replace c40 := Bool.eq_false_iff.mpr c40
                     subst c40
                     have H1 : ((op_Ends.f k 1 3).bind fun t128 => (if t128 = true then ((op_Ends.f k 1 2).bind fun t129 => (if t129 = true then (some false) else ((op_Ends.f k 9 1).bind fun t130 => (if t130 = true then (some false) else (some true))))) else (some false))) = some r := by rw [if_neg (show ¬ (false = true) by decide)] at H; exact H
                     clear H
                     have H := H1
                     clear H1
                     replace H := Option.bind_eq_some_iff.mp H
                     obtain ⟨t128, A410, H⟩ := H
                     replace H : (if t128 = true then ((op_Ends.f k 1 2).bind fun t129 => (if t129 = true then (some false) else ((op_Ends.f k 9 1).bind fun t130 => (if t130 = true then (some false) else (some true))))) else (some false)) = some r := H
                     have A41 := Aside0.mk A410
                     clear A410
                     by_cases c42 : t128 = true
                     ·subst c42
                      have H1 : ((op_Ends.f k 1 2).bind fun t129 => (if t129 = true then (some false) else ((op_Ends.f k 9 1).bind fun t130 => (if t130 = true then (some false) else (some true))))) = some r := by rw [if_pos rfl] at H; exact H
                      clear H
                      have H := H1
                      clear H1
                      replace H := Option.bind_eq_some_iff.mp H
                      obtain ⟨t129, A430, H⟩ := H
                      replace H : (if t129 = true then (some false) else ((op_Ends.f k 9 1).bind fun t130 => (if t130 = true then (some false) else (some true)))) = some r := H
                      have A43 := Aside0.mk A430
                      clear A430
                      by_cases c44 : t129 = true
                      ·subst c44
                       have H1 : (some false) = some r := by rw [if_pos rfl] at H; exact H
                       clear H
                       have H := H1
                       clear H1
                       exact absurd ((Option.some.inj H).trans HR_.out) (by decide)
                      ·replace c44 := Bool.eq_false_iff.mpr c44
                       subst c44
                       have H1 : ((op_Ends.f k 9 1).bind fun t130 => (if t130 = true then (some false) else (some true))) = some r := by rw [if_neg (show ¬ (false = true) by decide)] at H; exact H
                       clear H
                       have H := H1
                       clear H1
                       replace H := Option.bind_eq_some_iff.mp H
                       obtain ⟨t130, A450, H⟩ := H
                       replace H : (if t130 = true then (some false) else (some true)) = some r := H
                       have A45 := Aside0.mk A450
                       clear A450
                       by_cases c46 : t130 = true
                       ·subst c46
                        have H1 : (some false) = some r := by rw [if_pos rfl] at H; exact H
                        clear H
                        have H := H1
                        clear H1
                        exact absurd ((Option.some.inj H).trans HR_.out) (by decide)
                       ·replace c46 := Bool.eq_false_iff.mpr c46
                        subst c46
                        have H1 : (some true) = some r := by rw [if_neg (show ¬ (false = true) by decide)] at H; exact H
                        clear H
                        have H := H1
                        clear H1
                        obtain rfl := Option.some.inj H
                        go_enter Try.func14, Try.ntmps14
                        (try simp only [List.append_eq, List.cons_append, List.nil_append])
                        go_wp2_with (first | ((with_reducible refine gate_dst (N := 1) rfl ?_); refine box_event ?hg (N := 1) ?hd (cs := #[.int .i64 0, .int .i64 0, .int .i64 0, .int .i64 0, .int .i64 0, .int .i64 0, .bool false]) (t := 23) ?hr ?_; (case hd => rfl); (case hg => rfl); (case hr => first | (go_simp; done) | (go_simp; rfl)); intro gb107 hg w47 hbox hb; have n0_ := Aside0.mk (below_step (by repeat (first | (with_reducible first | exact HB.out | apply bA | apply bN | apply bD) | exact HB.out)) hb); have n1_ := Aside0.mk (hbox); have n2_ := Aside0.mk ((by rw [hg]; exact (below_size (by repeat (first | (with_reducible first | exact HB.out | apply bA | apply bN | apply bD) | exact HB.out))) : w.heap.size ≤ gb107)); have n3_ := Aside0.mk ((by rw [hg]; exact (below_size (by repeat (first | (with_reducible first | exact HB.out | apply bA | apply bN | apply bD) | exact HB.out))) : w.heap.size ≤ gb107)); clear HB; have HB := n0_; have BK107 := n1_; have GW107 := n2_; have GE107 := n3_; clear n0_ n1_ n2_ n3_; clear hb hbox hg; obtain ⟨hcz48_0, hcz48_1, hcz48_2, hcz48_3, hcz48_4, hcz48_5, hcz48_6, hfz48_0, hfz48_1, hfz48_2, hfz48_3, hfz48_4, hfz48_5, hfz48_6⟩ := cells7 (w := w47) (g := gb107) BK107.out) | ((with_reducible refine gate_callee (f := 15) rfl ?_); refine goesL_ (some 3) rfl rfl Try.func15 (by kernel_rfl) rfl #[.int .i64 1] rfl (by (try simp only [List.map_toArray, List.map_cons, List.map_nil]); first | done | rfl | (simp only [List.length_drop, List.length_take]; rfl)) ?_; (with_reducible refine (op_Check.calls k 1 true _ A1.out).mono ?_); rintro e w' ⟨rfl, ⟨nd, rfl⟩⟩; refine ⟨_, rfl, ?_⟩) | (go_at_call 15; (with_reducible refine (op_Check.calls k 8 true _ A3.out).mono ?_); rintro e w' ⟨rfl, ⟨nd, rfl⟩⟩) | (go_at_call 15; (with_reducible refine (op_Check.calls k 0 false _ A5.out).mono ?_); rintro e w' ⟨rfl, ⟨nd, rfl⟩⟩) | (go_at_call 15; (with_reducible refine (op_Check.calls k 9 false _ A7.out).mono ?_); rintro e w' ⟨rfl, ⟨nd, rfl⟩⟩) | (go_at_call 17; (with_reducible refine (op_Side.calls k 5 t112 _ A9.out).mono ?_); rintro e w' ⟨rfl, ⟨nd, rfl⟩⟩) | (go_at_call 17; (with_reducible refine (op_Side.calls k 3 t113 _ A11.out).mono ?_); rintro e w' ⟨rfl, ⟨nd, rfl⟩⟩) | (go_at_call 17; (with_reducible refine (op_Side.calls k 8 t114 _ A13.out).mono ?_); rintro e w' ⟨rfl, ⟨nd, rfl⟩⟩) | (go_at_call 17; (with_reducible refine (op_Side.calls k 9 t115 _ A15.out).mono ?_); rintro e w' ⟨rfl, ⟨nd, rfl⟩⟩) | (go_at_call 19; (with_reducible refine (op_Timed.calls 3 true _ A17.out).mono ?_); rintro e w' ⟨rfl, ⟨nd, rfl⟩⟩) | (go_at_call 19; (with_reducible refine (op_Timed.calls 1 false _ A19.out).mono ?_); rintro e w' ⟨rfl, ⟨nd, rfl⟩⟩) | (go_at_call 21; (with_reducible refine (op_Once.calls 2 true _ A21.out).mono ?_); rintro e w' ⟨rfl, ⟨nd, rfl⟩⟩) | (go_at_call 21; (with_reducible refine (op_Once.calls 3 false _ A23.out).mono ?_); rintro e w' ⟨rfl, ⟨nd, rfl⟩⟩) | (go_at_call 23; (with_reducible refine (op_May.calls k 0 3 0 0 0 0 true 0 4 t120 _ A25.out).mono ?_); rintro e w49 ⟨rfl, hb⟩; have n0_ := Aside0.mk (blk_below (g := gb107) (o := .cells #[.int .i64 0, .int .i64 3, .int .i64 0, .int .i64 0, .int .i64 0, .int .i64 0, .bool true] 23 (0, 0)) (by (with_reducible repeat (first | apply kN | apply kD | apply kA)); refine blk_put (cs := #[.int .i64 0, .int .i64 3, .int .i64 0, .int .i64 0, .int .i64 0, .int .i64 0, .bool false]) ?_ 6 _ rfl; (with_reducible repeat (first | apply kN | apply kD | apply kA)); refine blk_put (cs := #[.int .i64 0, .int .i64 3, .int .i64 0, .int .i64 0, .int .i64 0, .int .i64 0, .bool false]) ?_ 5 _ rfl; (with_reducible repeat (first | apply kN | apply kD | apply kA)); refine blk_put (cs := #[.int .i64 0, .int .i64 3, .int .i64 0, .int .i64 0, .int .i64 0, .int .i64 0, .bool false]) ?_ 4 _ rfl; (with_reducible repeat (first | apply kN | apply kD | apply kA)); refine blk_put (cs := #[.int .i64 0, .int .i64 3, .int .i64 0, .int .i64 0, .int .i64 0, .int .i64 0, .bool false]) ?_ 3 _ rfl; (with_reducible repeat (first | apply kN | apply kD | apply kA)); refine blk_put (cs := #[.int .i64 0, .int .i64 3, .int .i64 0, .int .i64 0, .int .i64 0, .int .i64 0, .bool false]) ?_ 2 _ rfl; (with_reducible repeat (first | apply kN | apply kD | apply kA)); refine blk_put (cs := #[.int .i64 0, .int .i64 0, .int .i64 0, .int .i64 0, .int .i64 0, .int .i64 0, .bool false]) ?_ 1 _ rfl; (with_reducible repeat (first | apply kN | apply kD | apply kA)); refine blk_put (cs := #[.int .i64 0, .int .i64 0, .int .i64 0, .int .i64 0, .int .i64 0, .int .i64 0, .bool false]) ?_ 0 _ rfl; (with_reducible repeat (first | apply kN | apply kD | apply kA)); exact BK107.out) hb); have n1_ := Aside0.mk (below_step (by repeat (first | (with_reducible first | exact HB.out | apply bA | apply bN | apply bD | refine below_set ?_ GE107.out) | exact HB.out)) hb); clear BK107; clear HB; have BK107 := n0_; have HB := n1_; clear n0_ n1_; (try clear hb); (try clear hb2); (try clear hk); (try clear hi); obtain ⟨hcz50_0, hcz50_1, hcz50_2, hcz50_3, hcz50_4, hcz50_5, hcz50_6, hfz50_0, hfz50_1, hfz50_2, hfz50_3, hfz50_4, hfz50_5, hfz50_6⟩ := cells7 (w := w49) (g := gb107) BK107.out) | (go_at_call 23; (with_reducible refine (op_May.calls k 0 3 0 0 0 0 true 1 4 t121 _ A27.out).mono ?_); rintro e w51 ⟨rfl, hb⟩; have n0_ := Aside0.mk (blk_below (g := gb107) (o := .cells #[.int .i64 0, .int .i64 3, .int .i64 0, .int .i64 0, .int .i64 0, .int .i64 0, .bool true] 23 (0, 0)) (by (with_reducible repeat (first | apply kN | apply kD | apply kA)); exact BK107.out) hb); have n1_ := Aside0.mk (below_step (by repeat (first | (with_reducible first | exact HB.out | apply bA | apply bN | apply bD | refine below_set ?_ GE107.out) | exact HB.out)) hb); clear BK107; clear HB; have BK107 := n0_; have HB := n1_; clear n0_ n1_; (try clear hb); (try clear hb2); (try clear hk); (try clear hi); obtain ⟨hcz52_0, hcz52_1, hcz52_2, hcz52_3, hcz52_4, hcz52_5, hcz52_6, hfz52_0, hfz52_1, hfz52_2, hfz52_3, hfz52_4, hfz52_5, hfz52_6⟩ := cells7 (w := w51) (g := gb107) BK107.out) | (go_at_call 23; (with_reducible refine (op_May.calls k 0 3 0 0 0 0 true 1 1 t122 _ A29.out).mono ?_); rintro e w53 ⟨rfl, hb⟩; have n0_ := Aside0.mk (blk_below (g := gb107) (o := .cells #[.int .i64 0, .int .i64 3, .int .i64 0, .int .i64 0, .int .i64 0, .int .i64 0, .bool true] 23 (0, 0)) (by (with_reducible repeat (first | apply kN | apply kD | apply kA)); exact BK107.out) hb); have n1_ := Aside0.mk (below_step (by repeat (first | (with_reducible first | exact HB.out | apply bA | apply bN | apply bD | refine below_set ?_ GE107.out) | exact HB.out)) hb); clear BK107; clear HB; have BK107 := n0_; have HB := n1_; clear n0_ n1_; (try clear hb); (try clear hb2); (try clear hk); (try clear hi); obtain ⟨hcz54_0, hcz54_1, hcz54_2, hcz54_3, hcz54_4, hcz54_5, hcz54_6, hfz54_0, hfz54_1, hfz54_2, hfz54_3, hfz54_4, hfz54_5, hfz54_6⟩ := cells7 (w := w53) (g := gb107) BK107.out) | (go_at_call 23; (with_reducible refine (op_May.calls k 0 3 0 0 0 0 true 3 1 t123 _ A31.out).mono ?_); rintro e w55 ⟨rfl, hb⟩; have n0_ := Aside0.mk (blk_below (g := gb107) (o := .cells #[.int .i64 0, .int .i64 3, .int .i64 0, .int .i64 0, .int .i64 0, .int .i64 0, .bool true] 23 (0, 0)) (by (with_reducible repeat (first | apply kN | apply kD | apply kA)); exact BK107.out) hb); have n1_ := Aside0.mk (below_step (by repeat (first | (with_reducible first | exact HB.out | apply bA | apply bN | apply bD | refine below_set ?_ GE107.out) | exact HB.out)) hb); clear BK107; clear HB; have BK107 := n0_; have HB := n1_; clear n0_ n1_; (try clear hb); (try clear hb2); (try clear hk); (try clear hi); obtain ⟨hcz56_0, hcz56_1, hcz56_2, hcz56_3, hcz56_4, hcz56_5, hcz56_6, hfz56_0, hfz56_1, hfz56_2, hfz56_3, hfz56_4, hfz56_5, hfz56_6⟩ := cells7 (w := w55) (g := gb107) BK107.out) | (go_at_call 23; (with_reducible refine (op_May.calls k 0 3 0 0 0 0 true 3 9 t124 _ A33.out).mono ?_); rintro e w57 ⟨rfl, hb⟩; have n0_ := Aside0.mk (blk_below (g := gb107) (o := .cells #[.int .i64 0, .int .i64 3, .int .i64 0, .int .i64 0, .int .i64 0, .int .i64 0, .bool true] 23 (0, 0)) (by (with_reducible repeat (first | apply kN | apply kD | apply kA)); exact BK107.out) hb); have n1_ := Aside0.mk (below_step (by repeat (first | (with_reducible first | exact HB.out | apply bA | apply bN | apply bD | refine below_set ?_ GE107.out) | exact HB.out)) hb); clear BK107; clear HB; have BK107 := n0_; have HB := n1_; clear n0_ n1_; (try clear hb); (try clear hb2); (try clear hk); (try clear hi); obtain ⟨hcz58_0, hcz58_1, hcz58_2, hcz58_3, hcz58_4, hcz58_5, hcz58_6, hfz58_0, hfz58_1, hfz58_2, hfz58_3, hfz58_4, hfz58_5, hfz58_6⟩ := cells7 (w := w57) (g := gb107) BK107.out) | (go_at_call 23; (with_reducible refine (op_May.calls k 0 3 0 0 0 0 true 2 9 t125 _ A35.out).mono ?_); rintro e w59 ⟨rfl, hb⟩; have n0_ := Aside0.mk (below_step (by repeat (first | (with_reducible first | exact HB.out | apply bA | apply bN | apply bD) | exact HB.out)) hb); clear HB; have HB := n0_; clear n0_; (try clear hb); (try clear hb2); (try clear hk); (try clear hi)) | (go_at_call 25; (with_reducible refine (op_Ends.calls k 7 1 true _ A37.out).mono ?_); rintro e w60 ⟨rfl, hb⟩; have n0_ := Aside0.mk (below_step (by repeat (first | (with_reducible first | exact HB.out | apply bA | apply bN | apply bD) | exact HB.out)) hb); clear HB; have HB := n0_; clear n0_; (try clear hb); (try clear hb2); (try clear hk); (try clear hi)) | (go_at_call 25; (with_reducible refine (op_Ends.calls k 7 7 false _ A39.out).mono ?_); rintro e w61 ⟨rfl, hb⟩; have n0_ := Aside0.mk (below_step (by repeat (first | (with_reducible first | exact HB.out | apply bA | apply bN | apply bD) | exact HB.out)) hb); clear HB; have HB := n0_; clear n0_; (try clear hb); (try clear hb2); (try clear hk); (try clear hi)) | (go_at_call 25; (with_reducible refine (op_Ends.calls k 1 3 true _ A41.out).mono ?_); rintro e w62 ⟨rfl, hb⟩; have n0_ := Aside0.mk (below_step (by repeat (first | (with_reducible first | exact HB.out | apply bA | apply bN | apply bD) | exact HB.out)) hb); clear HB; have HB := n0_; clear n0_; (try clear hb); (try clear hb2); (try clear hk); (try clear hi)) | (go_at_call 25; (with_reducible refine (op_Ends.calls k 1 2 false _ A43.out).mono ?_); rintro e w63 ⟨rfl, hb⟩; have n0_ := Aside0.mk (below_step (by repeat (first | (with_reducible first | exact HB.out | apply bA | apply bN | apply bD) | exact HB.out)) hb); clear HB; have HB := n0_; clear n0_; (try clear hb); (try clear hb2); (try clear hk); (try clear hi)) | (go_at_call 25; (with_reducible refine (op_Ends.calls k 9 1 false _ A45.out).mono ?_); rintro e w64 ⟨rfl, hb⟩; have n0_ := Aside0.mk (below_step (by repeat (first | (with_reducible first | exact HB.out | apply bA | apply bN | apply bD) | exact HB.out)) hb); clear HB; have HB := n0_; clear n0_; (try clear hb); (try clear hb2); (try clear hk); (try clear hi)))
                        go_ret
                        exact ⟨by first | rfl | (simp [errW_none, errW_some] <;> rfl) | (simp [*, errW_none, errW_some] <;> rfl), by repeat (first | (with_reducible first | exact HB.out | apply bA | apply bN | apply bD) | exact HB.out)⟩
                     ·replace c42 := Bool.eq_false_iff.mpr c42
                      subst c42
                      have H1 : (some false) = some r := by rw [if_neg (show ¬ (false = true) by decide)] at H; exact H
                      clear H
                      have H := H1
                      clear H1
                      exact absurd ((Option.some.inj H).trans HR_.out) (by decide)
                   ·replace c38 := Bool.eq_false_iff.mpr c38
                    subst c38
                    have H1 : (some false) = some r := by rw [if_neg (show ¬ (false = true) by decide)] at H; exact H
                    clear H
                    have H := H1
                    clear H1
                    exact absurd ((Option.some.inj H).trans HR_.out) (by decide)
                  ·rw [if_neg c36] at H
                   have c36b0 : (t125 == 190) = false := beq_eq_false_iff_ne.mpr c36
                   have c36b1 : (t125 != 190) = true := bne_iff_ne.mpr c36
                   exact absurd ((Option.some.inj H).trans HR_.out) (by decide)
                 ·rw [if_neg c34] at H
                  have c34b0 : (t124 == 123) = false := beq_eq_false_iff_ne.mpr c34
                  have c34b1 : (t124 != 123) = true := bne_iff_ne.mpr c34
                  exact absurd ((Option.some.inj H).trans HR_.out) (by decide)
                ·rw [if_neg c32] at H
                 have c32b0 : (t123 == 123) = false := beq_eq_false_iff_ne.mpr c32
                 have c32b1 : (t123 != 123) = true := bne_iff_ne.mpr c32
                 exact absurd ((Option.some.inj H).trans HR_.out) (by decide)
               ·rw [if_neg c30] at H
                have c30b0 : (t122 == 0) = false := beq_eq_false_iff_ne.mpr c30
                have c30b1 : (t122 != 0) = true := bne_iff_ne.mpr c30
                exact absurd ((Option.some.inj H).trans HR_.out) (by decide)
              ·rw [if_neg c28] at H
               have c28b0 : (t121 == 123) = false := beq_eq_false_iff_ne.mpr c28
               have c28b1 : (t121 != 123) = true := bne_iff_ne.mpr c28
               exact absurd ((Option.some.inj H).trans HR_.out) (by decide)
             ·rw [if_neg c26] at H
              have c26b0 : (t120 == 0) = false := beq_eq_false_iff_ne.mpr c26
              have c26b1 : (t120 != 0) = true := bne_iff_ne.mpr c26
              exact absurd ((Option.some.inj H).trans HR_.out) (by decide)
           ·replace c22 := Bool.eq_false_iff.mpr c22
            subst c22
            have H1 : (some false) = some r := by rw [if_neg (show ¬ (false = true) by decide)] at H; exact H
            clear H
            have H := H1
            clear H1
            exact absurd ((Option.some.inj H).trans HR_.out) (by decide)
         ·replace c18 := Bool.eq_false_iff.mpr c18
          subst c18
          have H1 : (some false) = some r := by rw [if_neg (show ¬ (false = true) by decide)] at H; exact H
          clear H
          have H := H1
          clear H1
          exact absurd ((Option.some.inj H).trans HR_.out) (by decide)
        ·rw [if_neg c16] at H
         have c16b0 : (t115 == 0) = false := beq_eq_false_iff_ne.mpr c16
         have c16b1 : (t115 != 0) = true := bne_iff_ne.mpr c16
         exact absurd ((Option.some.inj H).trans HR_.out) (by decide)
       ·rw [if_neg c14] at H
        have c14b0 : (t114 == 3) = false := beq_eq_false_iff_ne.mpr c14
        have c14b1 : (t114 != 3) = true := bne_iff_ne.mpr c14
        exact absurd ((Option.some.inj H).trans HR_.out) (by decide)
      ·rw [if_neg c12] at H
       have c12b0 : (t113 == 1) = false := beq_eq_false_iff_ne.mpr c12
       have c12b1 : (t113 != 1) = true := bne_iff_ne.mpr c12
       exact absurd ((Option.some.inj H).trans HR_.out) (by decide)
     ·rw [if_neg c10] at H
      have c10b0 : (t112 == 2) = false := beq_eq_false_iff_ne.mpr c10
      have c10b1 : (t112 != 2) = true := bne_iff_ne.mpr c10
      exact absurd ((Option.some.inj H).trans HR_.out) (by decide)
  ·replace c4 := Bool.eq_false_iff.mpr c4
   subst c4
   have H1 : (some false) = some r := by rw [if_neg (show ¬ (false = true) by decide)] at H; exact H
   clear H
   have H := H1
   clear H1
   exact absurd ((Option.some.inj H).trans HR_.out) (by decide)
 ·replace c2 := Bool.eq_false_iff.mpr c2
  subst c2
  have H1 : (some false) = some r := by rw [if_neg (show ¬ (false = true) by decide)] at H; exact H
  clear H
  have H := H1
  clear H1
  exact absurd ((Option.some.inj H).trans HR_.out) (by decide)

end Go.Proofs.Ytlhaghkepnfajaa.PL
