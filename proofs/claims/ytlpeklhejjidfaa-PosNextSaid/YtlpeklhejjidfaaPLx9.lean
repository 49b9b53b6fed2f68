-- written by this repo's pp.py (the kit's print, turned by wip/patches.py)
import Derived.Test.YtlpeklhejjidfaaPLx0
import Derived.Test.YtlpeklhejjidfaaPLx3
import Derived.Test.YtlpeklhejjidfaaPLx4
import Derived.Test.YtlpeklhejjidfaaPLx5
namespace Go.Proofs.Ytlpeklhejjidfaa.PL
open Go.RowKit Go.Proofs.YtlpeklhejjidfaaW.PrintWords Go.Proofs.YtlpeklhejjidfaaW.PrintLast Go.Proofs.YtlpeklhejjidfaaW.PrintMore
attribute [local go_sem] max2_int min2_int max_two min_two max_three min_three max_four min_four   -- for this text's walks alone
set_option linter.unusedVariables false
set_option linter.unusedSimpArgs false

/-! ### sakialaw01_PosNext: function 5 -/
def sakialaw01_PosNext.f (k : Nat) (a0 : Int) (a1 : Int) : Option (Bool) := (sakialaw01_awake.f k).bind fun t152 => ((pos_Place.f (wrap64 (a0)) (wrap64 (1 + (wrap64 (a1))))).bind fun t153 => ((pos_Place.f (wrap64 ((wrap64 (a0)) + 1)) (wrap64 (1 + (wrap64 (a1))))).bind fun t154 => ((pos_Lap.f (wrap64 ((wrap64 (a0)) + 1)) (wrap64 (1 + (wrap64 (a1))))).bind fun t155 => ((pos_Lap.f (wrap64 (a0)) (wrap64 (1 + (wrap64 (a1))))).bind fun t156 => (if t152 = true then (if (wrap64 (t153 + 1)) < (wrap64 (1 + (wrap64 (a1)))) then (if t154 = (wrap64 (t153 + 1)) then (if (wrap64 (t155 - t156)) = 0 then ((pos_Ahead.f (wrap64 (a0)) (wrap64 ((wrap64 (a0)) + (wrap64 (1 + (wrap64 (a1)))))) (wrap64 (1 + (wrap64 (a1))))).bind fun t157 => (if t157 = true then ((pos_Ahead.f (wrap64 ((wrap64 (a0)) + (wrap64 (1 + (wrap64 (a1)))))) (wrap64 (a0)) (wrap64 (1 + (wrap64 (a1))))).bind fun t158 => (some (!t158))) else (some false))) else (if (wrap64 (t153 + 1)) = (wrap64 (1 + (wrap64 (a1)))) then (if t154 = 0 then (if (wrap64 (t155 - t156)) = 1 then ((pos_Ahead.f (wrap64 (a0)) (wrap64 ((wrap64 (a0)) + (wrap64 (1 + (wrap64 (a1)))))) (wrap64 (1 + (wrap64 (a1))))).bind fun t159 => (if t159 = true then ((pos_Ahead.f (wrap64 ((wrap64 (a0)) + (wrap64 (1 + (wrap64 (a1)))))) (wrap64 (a0)) (wrap64 (1 + (wrap64 (a1))))).bind fun t160 => (some (!t160))) else (some false))) else (some false)) else (some false)) else (some false))) else (if (wrap64 (t153 + 1)) = (wrap64 (1 + (wrap64 (a1)))) then (if t154 = 0 then (if (wrap64 (t155 - t156)) = 1 then ((pos_Ahead.f (wrap64 (a0)) (wrap64 ((wrap64 (a0)) + (wrap64 (1 + (wrap64 (a1)))))) (wrap64 (1 + (wrap64 (a1))))).bind fun t161 => (if t161 = true then ((pos_Ahead.f (wrap64 ((wrap64 (a0)) + (wrap64 (1 + (wrap64 (a1)))))) (wrap64 (a0)) (wrap64 (1 + (wrap64 (a1))))).bind fun t162 => (some (!t162))) else (some false))) else (some false)) else (some false)) else (some false))) else (if (wrap64 (t153 + 1)) = (wrap64 (1 + (wrap64 (a1)))) then (if t154 = 0 then (if (wrap64 (t155 - t156)) = 1 then ((pos_Ahead.f (wrap64 (a0)) (wrap64 ((wrap64 (a0)) + (wrap64 (1 + (wrap64 (a1)))))) (wrap64 (1 + (wrap64 (a1))))).bind fun t163 => (if t163 = true then ((pos_Ahead.f (wrap64 ((wrap64 (a0)) + (wrap64 (1 + (wrap64 (a1)))))) (wrap64 (a0)) (wrap64 (1 + (wrap64 (a1))))).bind fun t164 => (some (!t164))) else (some false))) else (some false)) else (some false)) else (some false))) else (some false))))))
theorem sakialaw01_PosNext.mono : ∀ a0 a1 k, LeO (sakialaw01_PosNext.f k a0 a1) (sakialaw01_PosNext.f (k + 1) a0 a1) := by
  intro a0 a1 k
  unfold sakialaw01_PosNext.f
  repeat' first
      | (with_reducible exact sakialaw01_awake.mono _)
      | (with_reducible exact LeO.refl _)
      | (with_reducible exact LeO.none _)
      | (with_reducible refine LeO.ite ?_ ?_)
      | (with_reducible refine LeO.bind ?_ (fun _ => ?_))
      | exact sakialaw01_awake.mono _
      | exact LeO.none _
      | refine LeO.ite ?_ ?_
      | refine LeO.bind ?_ (fun _ => ?_)
set_option maxHeartbeats 8000000 in
set_option maxRecDepth 100000 in
theorem sakialaw01_PosNext.calls (k : Nat) (a0 : Int) (a1 : Int) (r : Bool) (w : World) (hr_ : r = true) (h : sakialaw01_PosNext.f k a0 a1 = some r) :
    Calls Try.prog 5 #[.int .u32 a0, .int .u16 a1] w fun e w' => e = .returned (.bool r) ∧ Below w.heap.size w w' := by
  have HB := Aside0.mk (Below.refl w.heap.size w)
  have HR_ := Aside0.mk hr_
  clear hr_
  have H : ((sakialaw01_awake.f k).bind fun t152 => ((pos_Place.f (wrap64 (a0)) (wrap64 (1 + (wrap64 (a1))))).bind fun t153 => ((pos_Place.f (wrap64 ((wrap64 (a0)) + 1)) (wrap64 (1 + (wrap64 (a1))))).bind fun t154 => ((pos_Lap.f (wrap64 ((wrap64 (a0)) + 1)) (wrap64 (1 + (wrap64 (a1))))).bind fun t155 => ((pos_Lap.f (wrap64 (a0)) (wrap64 (1 + (wrap64 (a1))))).bind fun t156 => (if t152 = true then (if (wrap64 (t153 + 1)) < (wrap64 (1 + (wrap64 (a1)))) then (if t154 = (wrap64 (t153 + 1)) then (if (wrap64 (t155 - t156)) = 0 then ((pos_Ahead.f (wrap64 (a0)) (wrap64 ((wrap64 (a0)) + (wrap64 (1 + (wrap64 (a1)))))) (wrap64 (1 + (wrap64 (a1))))).bind fun t157 => (if t157 = true then ((pos_Ahead.f (wrap64 ((wrap64 (a0)) + (wrap64 (1 + (wrap64 (a1)))))) (wrap64 (a0)) (wrap64 (1 + (wrap64 (a1))))).bind fun t158 => (some (!t158))) else (some false))) else (if (wrap64 (t153 + 1)) = (wrap64 (1 + (wrap64 (a1)))) then (if t154 = 0 then (if (wrap64 (t155 - t156)) = 1 then ((pos_Ahead.f (wrap64 (a0)) (wrap64 ((wrap64 (a0)) + (wrap64 (1 + (wrap64 (a1)))))) (wrap64 (1 + (wrap64 (a1))))).bind fun t159 => (if t159 = true then ((pos_Ahead.f (wrap64 ((wrap64 (a0)) + (wrap64 (1 + (wrap64 (a1)))))) (wrap64 (a0)) (wrap64 (1 + (wrap64 (a1))))).bind fun t160 => (some (!t160))) else (some false))) else (some false)) else (some false)) else (some false))) else (if (wrap64 (t153 + 1)) = (wrap64 (1 + (wrap64 (a1)))) then (if t154 = 0 then (if (wrap64 (t155 - t156)) = 1 then ((pos_Ahead.f (wrap64 (a0)) (wrap64 ((wrap64 (a0)) + (wrap64 (1 + (wrap64 (a1)))))) (wrap64 (1 + (wrap64 (a1))))).bind fun t161 => (if t161 = true then ((pos_Ahead.f (wrap64 ((wrap64 (a0)) + (wrap64 (1 + (wrap64 (a1)))))) (wrap64 (a0)) (wrap64 (1 + (wrap64 (a1))))).bind fun t162 => (some (!t162))) else (some false))) else (some false)) else (some false)) else (some false))) else (if (wrap64 (t153 + 1)) = (wrap64 (1 + (wrap64 (a1)))) then (if t154 = 0 then (if (wrap64 (t155 - t156)) = 1 then ((pos_Ahead.f (wrap64 (a0)) (wrap64 ((wrap64 (a0)) + (wrap64 (1 + (wrap64 (a1)))))) (wrap64 (1 + (wrap64 (a1))))).bind fun t163 => (if t163 = true then ((pos_Ahead.f (wrap64 ((wrap64 (a0)) + (wrap64 (1 + (wrap64 (a1)))))) (wrap64 (a0)) (wrap64 (1 + (wrap64 (a1))))).bind fun t164 => (some (!t164))) else (some false))) else (some false)) else (some false)) else (some false))) else (some false))))))) = some r := h
  clear h
  replace H := Option.bind_eq_some_iff.mp H
  obtain ⟨t152, A30, H⟩ := H
  replace H : ((pos_Place.f (wrap64 (a0)) (wrap64 (1 + (wrap64 (a1))))).bind fun t153 => ((pos_Place.f (wrap64 ((wrap64 (a0)) + 1)) (wrap64 (1 + (wrap64 (a1))))).bind fun t154 => ((pos_Lap.f (wrap64 ((wrap64 (a0)) + 1)) (wrap64 (1 + (wrap64 (a1))))).bind fun t155 => ((pos_Lap.f (wrap64 (a0)) (wrap64 (1 + (wrap64 (a1))))).bind fun t156 => (if t152 = true then (if (wrap64 (t153 + 1)) < (wrap64 (1 + (wrap64 (a1)))) then (if t154 = (wrap64 (t153 + 1)) then (if (wrap64 (t155 - t156)) = 0 then ((pos_Ahead.f (wrap64 (a0)) (wrap64 ((wrap64 (a0)) + (wrap64 (1 + (wrap64 (a1)))))) (wrap64 (1 + (wrap64 (a1))))).bind fun t157 => (if t157 = true then ((pos_Ahead.f (wrap64 ((wrap64 (a0)) + (wrap64 (1 + (wrap64 (a1)))))) (wrap64 (a0)) (wrap64 (1 + (wrap64 (a1))))).bind fun t158 => (some (!t158))) else (some false))) else (if (wrap64 (t153 + 1)) = (wrap64 (1 + (wrap64 (a1)))) then (if t154 = 0 then (if (wrap64 (t155 - t156)) = 1 then ((pos_Ahead.f (wrap64 (a0)) (wrap64 ((wrap64 (a0)) + (wrap64 (1 + (wrap64 (a1)))))) (wrap64 (1 + (wrap64 (a1))))).bind fun t159 => (if t159 = true then ((pos_Ahead.f (wrap64 ((wrap64 (a0)) + (wrap64 (1 + (wrap64 (a1)))))) (wrap64 (a0)) (wrap64 (1 + (wrap64 (a1))))).bind fun t160 => (some (!t160))) else (some false))) else (some false)) else (some false)) else (some false))) else (if (wrap64 (t153 + 1)) = (wrap64 (1 + (wrap64 (a1)))) then (if t154 = 0 then (if (wrap64 (t155 - t156)) = 1 then ((pos_Ahead.f (wrap64 (a0)) (wrap64 ((wrap64 (a0)) + (wrap64 (1 + (wrap64 (a1)))))) (wrap64 (1 + (wrap64 (a1))))).bind fun t161 => (if t161 = true then ((pos_Ahead.f (wrap64 ((wrap64 (a0)) + (wrap64 (1 + (wrap64 (a1)))))) (wrap64 (a0)) (wrap64 (1 + (wrap64 (a1))))).bind fun t162 => (some (!t162))) else (some false))) else (some false)) else (some false)) else (some false))) else (if (wrap64 (t153 + 1)) = (wrap64 (1 + (wrap64 (a1)))) then (if t154 = 0 then (if (wrap64 (t155 - t156)) = 1 then ((pos_Ahead.f (wrap64 (a0)) (wrap64 ((wrap64 (a0)) + (wrap64 (1 + (wrap64 (a1)))))) (wrap64 (1 + (wrap64 (a1))))).bind fun t163 => (if t163 = true then ((pos_Ahead.f (wrap64 ((wrap64 (a0)) + (wrap64 (1 + (wrap64 (a1)))))) (wrap64 (a0)) (wrap64 (1 + (wrap64 (a1))))).bind fun t164 => (some (!t164))) else (some false))) else (some false)) else (some false)) else (some false))) else (some false)))))) = some r := H
  have A3 := Aside0.mk A30
  clear A30
  replace H := Option.bind_eq_some_iff.mp H
  obtain ⟨t153, A40, H⟩ := H
  replace H : ((pos_Place.f (wrap64 ((wrap64 (a0)) + 1)) (wrap64 (1 + (wrap64 (a1))))).bind fun t154 => ((pos_Lap.f (wrap64 ((wrap64 (a0)) + 1)) (wrap64 (1 + (wrap64 (a1))))).bind fun t155 => ((pos_Lap.f (wrap64 (a0)) (wrap64 (1 + (wrap64 (a1))))).bind fun t156 => (if t152 = true then (if (wrap64 (t153 + 1)) < (wrap64 (1 + (wrap64 (a1)))) then (if t154 = (wrap64 (t153 + 1)) then (if (wrap64 (t155 - t156)) = 0 then ((pos_Ahead.f (wrap64 (a0)) (wrap64 ((wrap64 (a0)) + (wrap64 (1 + (wrap64 (a1)))))) (wrap64 (1 + (wrap64 (a1))))).bind fun t157 => (if t157 = true then ((pos_Ahead.f (wrap64 ((wrap64 (a0)) + (wrap64 (1 + (wrap64 (a1)))))) (wrap64 (a0)) (wrap64 (1 + (wrap64 (a1))))).bind fun t158 => (some (!t158))) else (some false))) else (if (wrap64 (t153 + 1)) = (wrap64 (1 + (wrap64 (a1)))) then (if t154 = 0 then (if (wrap64 (t155 - t156)) = 1 then ((pos_Ahead.f (wrap64 (a0)) (wrap64 ((wrap64 (a0)) + (wrap64 (1 + (wrap64 (a1)))))) (wrap64 (1 + (wrap64 (a1))))).bind fun t159 => (if t159 = true then ((pos_Ahead.f (wrap64 ((wrap64 (a0)) + (wrap64 (1 + (wrap64 (a1)))))) (wrap64 (a0)) (wrap64 (1 + (wrap64 (a1))))).bind fun t160 => (some (!t160))) else (some false))) else (some false)) else (some false)) else (some false))) else (if (wrap64 (t153 + 1)) = (wrap64 (1 + (wrap64 (a1)))) then (if t154 = 0 then (if (wrap64 (t155 - t156)) = 1 then ((pos_Ahead.f (wrap64 (a0)) (wrap64 ((wrap64 (a0)) + (wrap64 (1 + (wrap64 (a1)))))) (wrap64 (1 + (wrap64 (a1))))).bind fun t161 => (if t161 = true then ((pos_Ahead.f (wrap64 ((wrap64 (a0)) + (wrap64 (1 + (wrap64 (a1)))))) (wrap64 (a0)) (wrap64 (1 + (wrap64 (a1))))).bind fun t162 => (some (!t162))) else (some false))) else (some false)) else (some false)) else (some false))) else (if (wrap64 (t153 + 1)) = (wrap64 (1 + (wrap64 (a1)))) then (if t154 = 0 then (if (wrap64 (t155 - t156)) = 1 then ((pos_Ahead.f (wrap64 (a0)) (wrap64 ((wrap64 (a0)) + (wrap64 (1 + (wrap64 (a1)))))) (wrap64 (1 + (wrap64 (a1))))).bind fun t163 => (if t163 = true then ((pos_Ahead.f (wrap64 ((wrap64 (a0)) + (wrap64 (1 + (wrap64 (a1)))))) (wrap64 (a0)) (wrap64 (1 + (wrap64 (a1))))).bind fun t164 => (some (!t164))) else (some false))) else (some false)) else (some false)) else (some false))) else (some false))))) = some r := H
  have A4 := Aside0.mk A40
  clear A40
  replace H := Option.bind_eq_some_iff.mp H
  obtain ⟨t154, A50, H⟩ := H
  replace H : ((pos_Lap.f (wrap64 ((wrap64 (a0)) + 1)) (wrap64 (1 + (wrap64 (a1))))).bind fun t155 => ((pos_Lap.f (wrap64 (a0)) (wrap64 (1 + (wrap64 (a1))))).bind fun t156 => (if t152 = true then (if (wrap64 (t153 + 1)) < (wrap64 (1 + (wrap64 (a1)))) then (if t154 = (wrap64 (t153 + 1)) then (if (wrap64 (t155 - t156)) = 0 then ((pos_Ahead.f (wrap64 (a0)) (wrap64 ((wrap64 (a0)) + (wrap64 (1 + (wrap64 (a1)))))) (wrap64 (1 + (wrap64 (a1))))).bind fun t157 => (if t157 = true then ((pos_Ahead.f (wrap64 ((wrap64 (a0)) + (wrap64 (1 + (wrap64 (a1)))))) (wrap64 (a0)) (wrap64 (1 + (wrap64 (a1))))).bind fun t158 => (some (!t158))) else (some false))) else (if (wrap64 (t153 + 1)) = (wrap64 (1 + (wrap64 (a1)))) then (if t154 = 0 then (if (wrap64 (t155 - t156)) = 1 then ((pos_Ahead.f (wrap64 (a0)) (wrap64 ((wrap64 (a0)) + (wrap64 (1 + (wrap64 (a1)))))) (wrap64 (1 + (wrap64 (a1))))).bind fun t159 => (if t159 = true then ((pos_Ahead.f (wrap64 ((wrap64 (a0)) + (wrap64 (1 + (wrap64 (a1)))))) (wrap64 (a0)) (wrap64 (1 + (wrap64 (a1))))).bind fun t160 => (some (!t160))) else (some false))) else (some false)) else (some false)) else (some false))) else (if (wrap64 (t153 + 1)) = (wrap64 (1 + (wrap64 (a1)))) then (if t154 = 0 then (if (wrap64 (t155 - t156)) = 1 then ((pos_Ahead.f (wrap64 (a0)) (wrap64 ((wrap64 (a0)) + (wrap64 (1 + (wrap64 (a1)))))) (wrap64 (1 + (wrap64 (a1))))).bind fun t161 => (if t161 = true then ((pos_Ahead.f (wrap64 ((wrap64 (a0)) + (wrap64 (1 + (wrap64 (a1)))))) (wrap64 (a0)) (wrap64 (1 + (wrap64 (a1))))).bind fun t162 => (some (!t162))) else (some false))) else (some false)) else (some false)) else (some false))) else (if (wrap64 (t153 + 1)) = (wrap64 (1 + (wrap64 (a1)))) then (if t154 = 0 then (if (wrap64 (t155 - t156)) = 1 then ((pos_Ahead.f (wrap64 (a0)) (wrap64 ((wrap64 (a0)) + (wrap64 (1 + (wrap64 (a1)))))) (wrap64 (1 + (wrap64 (a1))))).bind fun t163 => (if t163 = true then ((pos_Ahead.f (wrap64 ((wrap64 (a0)) + (wrap64 (1 + (wrap64 (a1)))))) (wrap64 (a0)) (wrap64 (1 + (wrap64 (a1))))).bind fun t164 => (some (!t164))) else (some false))) else (some false)) else (some false)) else (some false))) else (some false)))) = some r := H
  have A5 := Aside0.mk A50
  clear A50
  replace H := Option.bind_eq_some_iff.mp H
  obtain ⟨t155, A60, H⟩ := H
  replace H : ((pos_Lap.f (wrap64 (a0)) (wrap64 (1 + (wrap64 (a1))))).bind fun t156 => (if t152 = true then (if (wrap64 (t153 + 1)) < (wrap64 (1 + (wrap64 (a1)))) then (if t154 = (wrap64 (t153 + 1)) then (if (wrap64 (t155 - t156)) = 0 then ((pos_Ahead.f (wrap64 (a0)) (wrap64 ((wrap64 (a0)) + (wrap64 (1 + (wrap64 (a1)))))) (wrap64 (1 + (wrap64 (a1))))).bind fun t157 => (if t157 = true then ((pos_Ahead.f (wrap64 ((wrap64 (a0)) + (wrap64 (1 + (wrap64 (a1)))))) (wrap64 (a0)) (wrap64 (1 + (wrap64 (a1))))).bind fun t158 => (some (!t158))) else (some false))) else (if (wrap64 (t153 + 1)) = (wrap64 (1 + (wrap64 (a1)))) then (if t154 = 0 then (if (wrap64 (t155 - t156)) = 1 then ((pos_Ahead.f (wrap64 (a0)) (wrap64 ((wrap64 (a0)) + (wrap64 (1 + (wrap64 (a1)))))) (wrap64 (1 + (wrap64 (a1))))).bind fun t159 => (if t159 = true then ((pos_Ahead.f (wrap64 ((wrap64 (a0)) + (wrap64 (1 + (wrap64 (a1)))))) (wrap64 (a0)) (wrap64 (1 + (wrap64 (a1))))).bind fun t160 => (some (!t160))) else (some false))) else (some false)) else (some false)) else (some false))) else (if (wrap64 (t153 + 1)) = (wrap64 (1 + (wrap64 (a1)))) then (if t154 = 0 then (if (wrap64 (t155 - t156)) = 1 then ((pos_Ahead.f (wrap64 (a0)) (wrap64 ((wrap64 (a0)) + (wrap64 (1 + (wrap64 (a1)))))) (wrap64 (1 + (wrap64 (a1))))).bind fun t161 => (if t161 = true then ((pos_Ahead.f (wrap64 ((wrap64 (a0)) + (wrap64 (1 + (wrap64 (a1)))))) (wrap64 (a0)) (wrap64 (1 + (wrap64 (a1))))).bind fun t162 => (some (!t162))) else (some false))) else (some false)) else (some false)) else (some false))) else (if (wrap64 (t153 + 1)) = (wrap64 (1 + (wrap64 (a1)))) then (if t154 = 0 then (if (wrap64 (t155 - t156)) = 1 then ((pos_Ahead.f (wrap64 (a0)) (wrap64 ((wrap64 (a0)) + (wrap64 (1 + (wrap64 (a1)))))) (wrap64 (1 + (wrap64 (a1))))).bind fun t163 => (if t163 = true then ((pos_Ahead.f (wrap64 ((wrap64 (a0)) + (wrap64 (1 + (wrap64 (a1)))))) (wrap64 (a0)) (wrap64 (1 + (wrap64 (a1))))).bind fun t164 => (some (!t164))) else (some false))) else (some false)) else (some false)) else (some false))) else (some false))) = some r := H
  have A6 := Aside0.mk A60
  clear A60
  replace H := Option.bind_eq_some_iff.mp H
  obtain ⟨t156, A70, H⟩ := H
  replace H : (if t152 = true then (if (wrap64 (t153 + 1)) < (wrap64 (1 + (wrap64 (a1)))) then (if t154 = (wrap64 (t153 + 1)) then (if (wrap64 (t155 - t156)) = 0 then ((pos_Ahead.f (wrap64 (a0)) (wrap64 ((wrap64 (a0)) + (wrap64 (1 + (wrap64 (a1)))))) (wrap64 (1 + (wrap64 (a1))))).bind fun t157 => (if t157 = true then ((pos_Ahead.f (wrap64 ((wrap64 (a0)) + (wrap64 (1 + (wrap64 (a1)))))) (wrap64 (a0)) (wrap64 (1 + (wrap64 (a1))))).bind fun t158 => (some (!t158))) else (some false))) else (if (wrap64 (t153 + 1)) = (wrap64 (1 + (wrap64 (a1)))) then (if t154 = 0 then (if (wrap64 (t155 - t156)) = 1 then ((pos_Ahead.f (wrap64 (a0)) (wrap64 ((wrap64 (a0)) + (wrap64 (1 + (wrap64 (a1)))))) (wrap64 (1 + (wrap64 (a1))))).bind fun t159 => (if t159 = true then ((pos_Ahead.f (wrap64 ((wrap64 (a0)) + (wrap64 (1 + (wrap64 (a1)))))) (wrap64 (a0)) (wrap64 (1 + (wrap64 (a1))))).bind fun t160 => (some (!t160))) else (some false))) else (some false)) else (some false)) else (some false))) else (if (wrap64 (t153 + 1)) = (wrap64 (1 + (wrap64 (a1)))) then (if t154 = 0 then (if (wrap64 (t155 - t156)) = 1 then ((pos_Ahead.f (wrap64 (a0)) (wrap64 ((wrap64 (a0)) + (wrap64 (1 + (wrap64 (a1)))))) (wrap64 (1 + (wrap64 (a1))))).bind fun t161 => (if t161 = true then ((pos_Ahead.f (wrap64 ((wrap64 (a0)) + (wrap64 (1 + (wrap64 (a1)))))) (wrap64 (a0)) (wrap64 (1 + (wrap64 (a1))))).bind fun t162 => (some (!t162))) else (some false))) else (some false)) else (some false)) else (some false))) else (if (wrap64 (t153 + 1)) = (wrap64 (1 + (wrap64 (a1)))) then (if t154 = 0 then (if (wrap64 (t155 - t156)) = 1 then ((pos_Ahead.f (wrap64 (a0)) (wrap64 ((wrap64 (a0)) + (wrap64 (1 + (wrap64 (a1)))))) (wrap64 (1 + (wrap64 (a1))))).bind fun t163 => (if t163 = true then ((pos_Ahead.f (wrap64 ((wrap64 (a0)) + (wrap64 (1 + (wrap64 (a1)))))) (wrap64 (a0)) (wrap64 (1 + (wrap64 (a1))))).bind fun t164 => (some (!t164))) else (some false))) else (some false)) else (some false)) else (some false))) else (some false)) = some r := H
  have A7 := Aside0.mk A70
  clear A70
  by_cases c8 : t152 = true
  · subst c8
    have H1 : (if (wrap64 (t153 + 1)) < (wrap64 (1 + (wrap64 (a1)))) then (if t154 = (wrap64 (t153 + 1)) then (if (wrap64 (t155 - t156)) = 0 then ((pos_Ahead.f (wrap64 (a0)) (wrap64 ((wrap64 (a0)) + (wrap64 (1 + (wrap64 (a1)))))) (wrap64 (1 + (wrap64 (a1))))).bind fun t157 => (if t157 = true then ((pos_Ahead.f (wrap64 ((wrap64 (a0)) + (wrap64 (1 + (wrap64 (a1)))))) (wrap64 (a0)) (wrap64 (1 + (wrap64 (a1))))).bind fun t158 => (some (!t158))) else (some false))) else (if (wrap64 (t153 + 1)) = (wrap64 (1 + (wrap64 (a1)))) then (if t154 = 0 then (if (wrap64 (t155 - t156)) = 1 then ((pos_Ahead.f (wrap64 (a0)) (wrap64 ((wrap64 (a0)) + (wrap64 (1 + (wrap64 (a1)))))) (wrap64 (1 + (wrap64 (a1))))).bind fun t159 => (if t159 = true then ((pos_Ahead.f (wrap64 ((wrap64 (a0)) + (wrap64 (1 + (wrap64 (a1)))))) (wrap64 (a0)) (wrap64 (1 + (wrap64 (a1))))).bind fun t160 => (some (!t160))) else (some false))) else (some false)) else (some false)) else (some false))) else (if (wrap64 (t153 + 1)) = (wrap64 (1 + (wrap64 (a1)))) then (if t154 = 0 then (if (wrap64 (t155 - t156)) = 1 then ((pos_Ahead.f (wrap64 (a0)) (wrap64 ((wrap64 (a0)) + (wrap64 (1 + (wrap64 (a1)))))) (wrap64 (1 + (wrap64 (a1))))).bind fun t161 => (if t161 = true then ((pos_Ahead.f (wrap64 ((wrap64 (a0)) + (wrap64 (1 + (wrap64 (a1)))))) (wrap64 (a0)) (wrap64 (1 + (wrap64 (a1))))).bind fun t162 => (some (!t162))) else (some false))) else (some false)) else (some false)) else (some false))) else (if (wrap64 (t153 + 1)) = (wrap64 (1 + (wrap64 (a1)))) then (if t154 = 0 then (if (wrap64 (t155 - t156)) = 1 then ((pos_Ahead.f (wrap64 (a0)) (wrap64 ((wrap64 (a0)) + (wrap64 (1 + (wrap64 (a1)))))) (wrap64 (1 + (wrap64 (a1))))).bind fun t163 => (if t163 = true then ((pos_Ahead.f (wrap64 ((wrap64 (a0)) + (wrap64 (1 + (wrap64 (a1)))))) (wrap64 (a0)) (wrap64 (1 + (wrap64 (a1))))).bind fun t164 => (some (!t164))) else (some false))) else (some false)) else (some false)) else (some false))) = some r := by rw [if_pos rfl] at H; exact H
    clear H
    have H := H1
    clear H1
    by_cases c9 : (wrap64 (t153 + 1)) < (wrap64 (1 + (wrap64 (a1))))
    · rw [if_pos c9] at H
      have c9b0 : decide ((wrap64 (t153 + 1)) < (wrap64 (1 + (wrap64 (a1))))) = true := decide_eq_true c9
      clear c9
      by_cases c10 : t154 = (wrap64 (t153 + 1))
      · rw [if_pos c10] at H
        have c10b0 : (t154 == (wrap64 (t153 + 1))) = true := beq_iff_eq.mpr c10
        have c10b1 : (t154 != (wrap64 (t153 + 1))) = false := bne_eq_false_iff_eq.mpr c10
        clear c10
        by_cases c11 : (wrap64 (t155 - t156)) = 0
        · rw [if_pos c11] at H
          have c11b0 : ((wrap64 (t155 - t156)) == 0) = true := beq_iff_eq.mpr c11
          have c11b1 : ((wrap64 (t155 - t156)) != 0) = false := bne_eq_false_iff_eq.mpr c11
          clear c11
          replace H := Option.bind_eq_some_iff.mp H
          obtain ⟨t157, A120, H⟩ := H
          replace H : (if t157 = true then ((pos_Ahead.f (wrap64 ((wrap64 (a0)) + (wrap64 (1 + (wrap64 (a1)))))) (wrap64 (a0)) (wrap64 (1 + (wrap64 (a1))))).bind fun t158 => (some (!t158))) else (some false)) = some r := H
          have A12 := Aside0.mk A120
          clear A120
          by_cases c13 : t157 = true
          · subst c13
            have H1 : ((pos_Ahead.f (wrap64 ((wrap64 (a0)) + (wrap64 (1 + (wrap64 (a1)))))) (wrap64 (a0)) (wrap64 (1 + (wrap64 (a1))))).bind fun t158 => (some (!t158))) = some r := by rw [if_pos rfl] at H; exact H
            clear H
            have H := H1
            clear H1
            replace H := Option.bind_eq_some_iff.mp H
            obtain ⟨t158, A140, H⟩ := H
            replace H : (some (!t158)) = some r := H
            have A14 := Aside0.mk A140
            clear A140
            obtain rfl := Option.some.inj H
            go_enter Try.func5, Try.ntmps5
            go_wp2_with (first | ((with_reducible refine gate_callee (f := 14) rfl ?_); refine goesL_ (some 10) rfl rfl Try.func14 (by kernel_rfl) rfl #[] rfl (by (try simp only [List.map_toArray, List.map_cons, List.map_nil]); first | done | rfl | (simp only [List.length_drop, List.length_take]; rfl)) ?_; (with_reducible refine (sakialaw01_awake.calls k  true _ A3.out).mono ?_); rintro e w15 ⟨rfl, hb⟩; refine ⟨_, rfl, ?_⟩; have n0_ := Aside0.mk (below_step (by repeat (first | (with_reducible first | exact HB.out | apply below_alloc | apply pw_below_drewN | apply below_drew1) | exact HB.out)) hb); clear HB; have HB := n0_; clear n0_; (try clear hb); (try clear hb2); (try clear hk); (try clear hi)) | ((with_reducible refine gate_callee (f := 20) rfl ?_); refine goesL_ (some 17) rfl rfl Try.func20 (by kernel_rfl) rfl #[.int .i64 (wrap64 (a0)), .int .i64 (wrap64 (1 + (wrap64 (a1))))] rfl (by (try simp only [List.map_toArray, List.map_cons, List.map_nil]); first | done | rfl | (simp only [List.length_drop, List.length_take]; rfl)) ?_; (with_reducible refine (pos_Place.calls (wrap64 (a0)) (wrap64 (1 + (wrap64 (a1)))) t153 _ A4.out).mono ?_); rintro e w' ⟨rfl, ⟨nd, rfl⟩⟩; refine ⟨_, rfl, ?_⟩) | ((with_reducible refine gate_callee (f := 20) rfl ?_); refine goesL_ (some 22) rfl rfl Try.func20 (by kernel_rfl) rfl #[.int .i64 (wrap64 ((wrap64 (a0)) + 1)), .int .i64 (wrap64 (1 + (wrap64 (a1))))] rfl (by (try simp only [List.map_toArray, List.map_cons, List.map_nil]); first | done | rfl | (simp only [List.length_drop, List.length_take]; rfl)) ?_; (with_reducible refine (pos_Place.calls (wrap64 ((wrap64 (a0)) + 1)) (wrap64 (1 + (wrap64 (a1)))) t154 _ A5.out).mono ?_); rintro e w' ⟨rfl, ⟨nd, rfl⟩⟩; refine ⟨_, rfl, ?_⟩) | ((with_reducible refine gate_callee (f := 22) rfl ?_); refine goesL_ (some 27) rfl rfl Try.func22 (by kernel_rfl) rfl #[.int .i64 (wrap64 ((wrap64 (a0)) + 1)), .int .i64 (wrap64 (1 + (wrap64 (a1))))] rfl (by (try simp only [List.map_toArray, List.map_cons, List.map_nil]); first | done | rfl | (simp only [List.length_drop, List.length_take]; rfl)) ?_; (with_reducible refine (pos_Lap.calls (wrap64 ((wrap64 (a0)) + 1)) (wrap64 (1 + (wrap64 (a1)))) t155 _ A6.out).mono ?_); rintro e w' ⟨rfl, ⟨nd, rfl⟩⟩; refine ⟨_, rfl, ?_⟩) | ((with_reducible refine gate_callee (f := 22) rfl ?_); refine goesL_ (some 31) rfl rfl Try.func22 (by kernel_rfl) rfl #[.int .i64 (wrap64 (a0)), .int .i64 (wrap64 (1 + (wrap64 (a1))))] rfl (by (try simp only [List.map_toArray, List.map_cons, List.map_nil]); first | done | rfl | (simp only [List.length_drop, List.length_take]; rfl)) ?_; (with_reducible refine (pos_Lap.calls (wrap64 (a0)) (wrap64 (1 + (wrap64 (a1)))) t156 _ A7.out).mono ?_); rintro e w' ⟨rfl, ⟨nd, rfl⟩⟩; refine ⟨_, rfl, ?_⟩) | (go_at_call 24; (with_reducible refine (pos_Ahead.calls (wrap64 (a0)) (wrap64 ((wrap64 (a0)) + (wrap64 (1 + (wrap64 (a1)))))) (wrap64 (1 + (wrap64 (a1)))) true _ A12.out).mono ?_); rintro e w' ⟨rfl, ⟨nd, rfl⟩⟩) | (go_at_call 24; (with_reducible refine (pos_Ahead.calls (wrap64 ((wrap64 (a0)) + (wrap64 (1 + (wrap64 (a1)))))) (wrap64 (a0)) (wrap64 (1 + (wrap64 (a1)))) t158 _ A14.out).mono ?_); rintro e w' ⟨rfl, ⟨nd, rfl⟩⟩))
            go_ret
            exact ⟨by first | rfl | (simp [errW_none, errW_some] <;> rfl) | (simp [*, errW_none, errW_some] <;> rfl), by repeat (first | (with_reducible first | exact HB.out | apply below_alloc | apply pw_below_drewN | apply below_drew1) | exact HB.out)⟩
          · replace c13 := Bool.eq_false_iff.mpr c13
            subst c13
            have H1 : (some false) = some r := by rw [if_neg (show ¬ (false = true) by decide)] at H; exact H
            clear H
            have H := H1
            clear H1
            exact absurd ((Option.some.inj H).trans HR_.out) (by decide)
        · rw [if_neg c11] at H
          have c11b0 : ((wrap64 (t155 - t156)) == 0) = false := beq_eq_false_iff_ne.mpr c11
          have c11b1 : ((wrap64 (t155 - t156)) != 0) = true := bne_iff_ne.mpr c11
          by_cases c16 : (wrap64 (t153 + 1)) = (wrap64 (1 + (wrap64 (a1))))
          · rw [if_pos c16] at H
            have c16b0 : ((wrap64 (t153 + 1)) == (wrap64 (1 + (wrap64 (a1))))) = true := beq_iff_eq.mpr c16
            have c16b1 : ((wrap64 (t153 + 1)) != (wrap64 (1 + (wrap64 (a1))))) = false := bne_eq_false_iff_eq.mpr c16
            clear c16
            by_cases c17 : t154 = 0
            · rw [if_pos c17] at H
              have c17b0 : (t154 == 0) = true := beq_iff_eq.mpr c17
              have c17b1 : (t154 != 0) = false := bne_eq_false_iff_eq.mpr c17
              clear c17
              by_cases c18 : (wrap64 (t155 - t156)) = 1
              · rw [if_pos c18] at H
                have c18b0 : ((wrap64 (t155 - t156)) == 1) = true := beq_iff_eq.mpr c18
                have c18b1 : ((wrap64 (t155 - t156)) != 1) = false := bne_eq_false_iff_eq.mpr c18
                clear c18
                replace H := Option.bind_eq_some_iff.mp H
                obtain ⟨t159, A190, H⟩ := H
                replace H : (if t159 = true then ((pos_Ahead.f (wrap64 ((wrap64 (a0)) + (wrap64 (1 + (wrap64 (a1)))))) (wrap64 (a0)) (wrap64 (1 + (wrap64 (a1))))).bind fun t160 => (some (!t160))) else (some false)) = some r := H
                have A19 := Aside0.mk A190
                clear A190
                by_cases c20 : t159 = true
                · subst c20
                  have H1 : ((pos_Ahead.f (wrap64 ((wrap64 (a0)) + (wrap64 (1 + (wrap64 (a1)))))) (wrap64 (a0)) (wrap64 (1 + (wrap64 (a1))))).bind fun t160 => (some (!t160))) = some r := by rw [if_pos rfl] at H; exact H
                  clear H
                  have H := H1
                  clear H1
                  replace H := Option.bind_eq_some_iff.mp H
                  obtain ⟨t160, A210, H⟩ := H
                  replace H : (some (!t160)) = some r := H
                  have A21 := Aside0.mk A210
                  clear A210
                  obtain rfl := Option.some.inj H
                  go_enter Try.func5, Try.ntmps5
                  go_wp2_with (first | ((with_reducible refine gate_callee (f := 14) rfl ?_); refine goesL_ (some 10) rfl rfl Try.func14 (by kernel_rfl) rfl #[] rfl (by (try simp only [List.map_toArray, List.map_cons, List.map_nil]); first | done | rfl | (simp only [List.length_drop, List.length_take]; rfl)) ?_; (with_reducible refine (sakialaw01_awake.calls k  true _ A3.out).mono ?_); rintro e w22 ⟨rfl, hb⟩; refine ⟨_, rfl, ?_⟩; have n0_ := Aside0.mk (below_step (by repeat (first | (with_reducible first | exact HB.out | apply below_alloc | apply pw_below_drewN | apply below_drew1) | exact HB.out)) hb); clear HB; have HB := n0_; clear n0_; (try clear hb); (try clear hb2); (try clear hk); (try clear hi)) | ((with_reducible refine gate_callee (f := 20) rfl ?_); refine goesL_ (some 17) rfl rfl Try.func20 (by kernel_rfl) rfl #[.int .i64 (wrap64 (a0)), .int .i64 (wrap64 (1 + (wrap64 (a1))))] rfl (by (try simp only [List.map_toArray, List.map_cons, List.map_nil]); first | done | rfl | (simp only [List.length_drop, List.length_take]; rfl)) ?_; (with_reducible refine (pos_Place.calls (wrap64 (a0)) (wrap64 (1 + (wrap64 (a1)))) t153 _ A4.out).mono ?_); rintro e w' ⟨rfl, ⟨nd, rfl⟩⟩; refine ⟨_, rfl, ?_⟩) | ((with_reducible refine gate_callee (f := 20) rfl ?_); refine goesL_ (some 22) rfl rfl Try.func20 (by kernel_rfl) rfl #[.int .i64 (wrap64 ((wrap64 (a0)) + 1)), .int .i64 (wrap64 (1 + (wrap64 (a1))))] rfl (by (try simp only [List.map_toArray, List.map_cons, List.map_nil]); first | done | rfl | (simp only [List.length_drop, List.length_take]; rfl)) ?_; (with_reducible refine (pos_Place.calls (wrap64 ((wrap64 (a0)) + 1)) (wrap64 (1 + (wrap64 (a1)))) t154 _ A5.out).mono ?_); rintro e w' ⟨rfl, ⟨nd, rfl⟩⟩; refine ⟨_, rfl, ?_⟩) | ((with_reducible refine gate_callee (f := 22) rfl ?_); refine goesL_ (some 27) rfl rfl Try.func22 (by kernel_rfl) rfl #[.int .i64 (wrap64 ((wrap64 (a0)) + 1)), .int .i64 (wrap64 (1 + (wrap64 (a1))))] rfl (by (try simp only [List.map_toArray, List.map_cons, List.map_nil]); first | done | rfl | (simp only [List.length_drop, List.length_take]; rfl)) ?_; (with_reducible refine (pos_Lap.calls (wrap64 ((wrap64 (a0)) + 1)) (wrap64 (1 + (wrap64 (a1)))) t155 _ A6.out).mono ?_); rintro e w' ⟨rfl, ⟨nd, rfl⟩⟩; refine ⟨_, rfl, ?_⟩) | ((with_reducible refine gate_callee (f := 22) rfl ?_); refine goesL_ (some 31) rfl rfl Try.func22 (by kernel_rfl) rfl #[.int .i64 (wrap64 (a0)), .int .i64 (wrap64 (1 + (wrap64 (a1))))] rfl (by (try simp only [List.map_toArray, List.map_cons, List.map_nil]); first | done | rfl | (simp only [List.length_drop, List.length_take]; rfl)) ?_; (with_reducible refine (pos_Lap.calls (wrap64 (a0)) (wrap64 (1 + (wrap64 (a1)))) t156 _ A7.out).mono ?_); rintro e w' ⟨rfl, ⟨nd, rfl⟩⟩; refine ⟨_, rfl, ?_⟩) | (go_at_call 24; (with_reducible refine (pos_Ahead.calls (wrap64 (a0)) (wrap64 ((wrap64 (a0)) + (wrap64 (1 + (wrap64 (a1)))))) (wrap64 (1 + (wrap64 (a1)))) true _ A19.out).mono ?_); rintro e w' ⟨rfl, ⟨nd, rfl⟩⟩) | (go_at_call 24; (with_reducible refine (pos_Ahead.calls (wrap64 ((wrap64 (a0)) + (wrap64 (1 + (wrap64 (a1)))))) (wrap64 (a0)) (wrap64 (1 + (wrap64 (a1)))) t160 _ A21.out).mono ?_); rintro e w' ⟨rfl, ⟨nd, rfl⟩⟩))
                  go_ret
                  exact ⟨by first | rfl | (simp [errW_none, errW_some] <;> rfl) | (simp [*, errW_none, errW_some] <;> rfl), by repeat (first | (with_reducible first | exact HB.out | apply below_alloc | apply pw_below_drewN | apply below_drew1) | exact HB.out)⟩
                · replace c20 := Bool.eq_false_iff.mpr c20
                  subst c20
                  have H1 : (some false) = some r := by rw [if_neg (show ¬ (false = true) by decide)] at H; exact H
                  clear H
                  have H := H1
                  clear H1
                  exact absurd ((Option.some.inj H).trans HR_.out) (by decide)
              · rw [if_neg c18] at H
                have c18b0 : ((wrap64 (t155 - t156)) == 1) = false := beq_eq_false_iff_ne.mpr c18
                have c18b1 : ((wrap64 (t155 - t156)) != 1) = true := bne_iff_ne.mpr c18
                exact absurd ((Option.some.inj H).trans HR_.out) (by decide)
            · rw [if_neg c17] at H
              have c17b0 : (t154 == 0) = false := beq_eq_false_iff_ne.mpr c17
              have c17b1 : (t154 != 0) = true := bne_iff_ne.mpr c17
              exact absurd ((Option.some.inj H).trans HR_.out) (by decide)
          · rw [if_neg c16] at H
            have c16b0 : ((wrap64 (t153 + 1)) == (wrap64 (1 + (wrap64 (a1))))) = false := beq_eq_false_iff_ne.mpr c16
            have c16b1 : ((wrap64 (t153 + 1)) != (wrap64 (1 + (wrap64 (a1))))) = true := bne_iff_ne.mpr c16
            exact absurd ((Option.some.inj H).trans HR_.out) (by decide)
      · rw [if_neg c10] at H
        have c10b0 : (t154 == (wrap64 (t153 + 1))) = false := beq_eq_false_iff_ne.mpr c10
        have c10b1 : (t154 != (wrap64 (t153 + 1))) = true := bne_iff_ne.mpr c10
        by_cases c23 : (wrap64 (t153 + 1)) = (wrap64 (1 + (wrap64 (a1))))
        · rw [if_pos c23] at H
          have c23b0 : ((wrap64 (t153 + 1)) == (wrap64 (1 + (wrap64 (a1))))) = true := beq_iff_eq.mpr c23
          have c23b1 : ((wrap64 (t153 + 1)) != (wrap64 (1 + (wrap64 (a1))))) = false := bne_eq_false_iff_eq.mpr c23
          clear c23
          by_cases c24 : t154 = 0
          · rw [if_pos c24] at H
            have c24b0 : (t154 == 0) = true := beq_iff_eq.mpr c24
            have c24b1 : (t154 != 0) = false := bne_eq_false_iff_eq.mpr c24
            clear c24
            by_cases c25 : (wrap64 (t155 - t156)) = 1
            · rw [if_pos c25] at H
              have c25b0 : ((wrap64 (t155 - t156)) == 1) = true := beq_iff_eq.mpr c25
              have c25b1 : ((wrap64 (t155 - t156)) != 1) = false := bne_eq_false_iff_eq.mpr c25
              clear c25
              replace H := Option.bind_eq_some_iff.mp H
              obtain ⟨t161, A260, H⟩ := H
              replace H : (if t161 = true then ((pos_Ahead.f (wrap64 ((wrap64 (a0)) + (wrap64 (1 + (wrap64 (a1)))))) (wrap64 (a0)) (wrap64 (1 + (wrap64 (a1))))).bind fun t162 => (some (!t162))) else (some false)) = some r := H
              have A26 := Aside0.mk A260
              clear A260
              by_cases c27 : t161 = true
              · subst c27
                have H1 : ((pos_Ahead.f (wrap64 ((wrap64 (a0)) + (wrap64 (1 + (wrap64 (a1)))))) (wrap64 (a0)) (wrap64 (1 + (wrap64 (a1))))).bind fun t162 => (some (!t162))) = some r := by rw [if_pos rfl] at H; exact H
                clear H
                have H := H1
                clear H1
                replace H := Option.bind_eq_some_iff.mp H
                obtain ⟨t162, A280, H⟩ := H
                replace H : (some (!t162)) = some r := H
                have A28 := Aside0.mk A280
                clear A280
                obtain rfl := Option.some.inj H
                go_enter Try.func5, Try.ntmps5
                go_wp2_with (first | ((with_reducible refine gate_callee (f := 14) rfl ?_); refine goesL_ (some 10) rfl rfl Try.func14 (by kernel_rfl) rfl #[] rfl (by (try simp only [List.map_toArray, List.map_cons, List.map_nil]); first | done | rfl | (simp only [List.length_drop, List.length_take]; rfl)) ?_; (with_reducible refine (sakialaw01_awake.calls k  true _ A3.out).mono ?_); rintro e w29 ⟨rfl, hb⟩; refine ⟨_, rfl, ?_⟩; have n0_ := Aside0.mk (below_step (by repeat (first | (with_reducible first | exact HB.out | apply below_alloc | apply pw_below_drewN | apply below_drew1) | exact HB.out)) hb); clear HB; have HB := n0_; clear n0_; (try clear hb); (try clear hb2); (try clear hk); (try clear hi)) | ((with_reducible refine gate_callee (f := 20) rfl ?_); refine goesL_ (some 17) rfl rfl Try.func20 (by kernel_rfl) rfl #[.int .i64 (wrap64 (a0)), .int .i64 (wrap64 (1 + (wrap64 (a1))))] rfl (by (try simp only [List.map_toArray, List.map_cons, List.map_nil]); first | done | rfl | (simp only [List.length_drop, List.length_take]; rfl)) ?_; (with_reducible refine (pos_Place.calls (wrap64 (a0)) (wrap64 (1 + (wrap64 (a1)))) t153 _ A4.out).mono ?_); rintro e w' ⟨rfl, ⟨nd, rfl⟩⟩; refine ⟨_, rfl, ?_⟩) | ((with_reducible refine gate_callee (f := 20) rfl ?_); refine goesL_ (some 22) rfl rfl Try.func20 (by kernel_rfl) rfl #[.int .i64 (wrap64 ((wrap64 (a0)) + 1)), .int .i64 (wrap64 (1 + (wrap64 (a1))))] rfl (by (try simp only [List.map_toArray, List.map_cons, List.map_nil]); first | done | rfl | (simp only [List.length_drop, List.length_take]; rfl)) ?_; (with_reducible refine (pos_Place.calls (wrap64 ((wrap64 (a0)) + 1)) (wrap64 (1 + (wrap64 (a1)))) t154 _ A5.out).mono ?_); rintro e w' ⟨rfl, ⟨nd, rfl⟩⟩; refine ⟨_, rfl, ?_⟩) | ((with_reducible refine gate_callee (f := 22) rfl ?_); refine goesL_ (some 27) rfl rfl Try.func22 (by kernel_rfl) rfl #[.int .i64 (wrap64 ((wrap64 (a0)) + 1)), .int .i64 (wrap64 (1 + (wrap64 (a1))))] rfl (by (try simp only [List.map_toArray, List.map_cons, List.map_nil]); first | done | rfl | (simp only [List.length_drop, List.length_take]; rfl)) ?_; (with_reducible refine (pos_Lap.calls (wrap64 ((wrap64 (a0)) + 1)) (wrap64 (1 + (wrap64 (a1)))) t155 _ A6.out).mono ?_); rintro e w' ⟨rfl, ⟨nd, rfl⟩⟩; refine ⟨_, rfl, ?_⟩) | ((with_reducible refine gate_callee (f := 22) rfl ?_); refine goesL_ (some 31) rfl rfl Try.func22 (by kernel_rfl) rfl #[.int .i64 (wrap64 (a0)), .int .i64 (wrap64 (1 + (wrap64 (a1))))] rfl (by (try simp only [List.map_toArray, List.map_cons, List.map_nil]); first | done | rfl | (simp only [List.length_drop, List.length_take]; rfl)) ?_; (with_reducible refine (pos_Lap.calls (wrap64 (a0)) (wrap64 (1 + (wrap64 (a1)))) t156 _ A7.out).mono ?_); rintro e w' ⟨rfl, ⟨nd, rfl⟩⟩; refine ⟨_, rfl, ?_⟩) | (go_at_call 24; (with_reducible refine (pos_Ahead.calls (wrap64 (a0)) (wrap64 ((wrap64 (a0)) + (wrap64 (1 + (wrap64 (a1)))))) (wrap64 (1 + (wrap64 (a1)))) true _ A26.out).mono ?_); rintro e w' ⟨rfl, ⟨nd, rfl⟩⟩) | (go_at_call 24; (with_reducible refine (pos_Ahead.calls (wrap64 ((wrap64 (a0)) + (wrap64 (1 + (wrap64 (a1)))))) (wrap64 (a0)) (wrap64 (1 + (wrap64 (a1)))) t162 _ A28.out).mono ?_); rintro e w' ⟨rfl, ⟨nd, rfl⟩⟩))
                go_ret
                exact ⟨by first | rfl | (simp [errW_none, errW_some] <;> rfl) | (simp [*, errW_none, errW_some] <;> rfl), by repeat (first | (with_reducible first | exact HB.out | apply below_alloc | apply pw_below_drewN | apply below_drew1) | exact HB.out)⟩
              · replace c27 := Bool.eq_false_iff.mpr c27
                subst c27
                have H1 : (some false) = some r := by rw [if_neg (show ¬ (false = true) by decide)] at H; exact H
                clear H
                have H := H1
                clear H1
                exact absurd ((Option.some.inj H).trans HR_.out) (by decide)
            · rw [if_neg c25] at H
              have c25b0 : ((wrap64 (t155 - t156)) == 1) = false := beq_eq_false_iff_ne.mpr c25
              have c25b1 : ((wrap64 (t155 - t156)) != 1) = true := bne_iff_ne.mpr c25
              exact absurd ((Option.some.inj H).trans HR_.out) (by decide)
          · rw [if_neg c24] at H
            have c24b0 : (t154 == 0) = false := beq_eq_false_iff_ne.mpr c24
            have c24b1 : (t154 != 0) = true := bne_iff_ne.mpr c24
            exact absurd ((Option.some.inj H).trans HR_.out) (by decide)
        · rw [if_neg c23] at H
          have c23b0 : ((wrap64 (t153 + 1)) == (wrap64 (1 + (wrap64 (a1))))) = false := beq_eq_false_iff_ne.mpr c23
          have c23b1 : ((wrap64 (t153 + 1)) != (wrap64 (1 + (wrap64 (a1))))) = true := bne_iff_ne.mpr c23
          exact absurd ((Option.some.inj H).trans HR_.out) (by decide)
    · rw [if_neg c9] at H
      have c9b0 : decide ((wrap64 (t153 + 1)) < (wrap64 (1 + (wrap64 (a1))))) = false := decide_eq_false c9
      clear c9
      by_cases c30 : (wrap64 (t153 + 1)) = (wrap64 (1 + (wrap64 (a1))))
      · rw [if_pos c30] at H
        have c30b0 : ((wrap64 (t153 + 1)) == (wrap64 (1 + (wrap64 (a1))))) = true := beq_iff_eq.mpr c30
        have c30b1 : ((wrap64 (t153 + 1)) != (wrap64 (1 + (wrap64 (a1))))) = false := bne_eq_false_iff_eq.mpr c30
        clear c30
        by_cases c31 : t154 = 0
        · rw [if_pos c31] at H
          have c31b0 : (t154 == 0) = true := beq_iff_eq.mpr c31
          have c31b1 : (t154 != 0) = false := bne_eq_false_iff_eq.mpr c31
          clear c31
          by_cases c32 : (wrap64 (t155 - t156)) = 1
          · rw [if_pos c32] at H
            have c32b0 : ((wrap64 (t155 - t156)) == 1) = true := beq_iff_eq.mpr c32
            have c32b1 : ((wrap64 (t155 - t156)) != 1) = false := bne_eq_false_iff_eq.mpr c32
            clear c32
            replace H := Option.bind_eq_some_iff.mp H
            obtain ⟨t163, A330, H⟩ := H
            replace H : (if t163 = true then ((pos_Ahead.f (wrap64 ((wrap64 (a0)) + (wrap64 (1 + (wrap64 (a1)))))) (wrap64 (a0)) (wrap64 (1 + (wrap64 (a1))))).bind fun t164 => (some (!t164))) else (some false)) = some r := H
            have A33 := Aside0.mk A330
            clear A330
            by_cases c34 : t163 = true
            · subst c34
              have H1 : ((pos_Ahead.f (wrap64 ((wrap64 (a0)) + (wrap64 (1 + (wrap64 (a1)))))) (wrap64 (a0)) (wrap64 (1 + (wrap64 (a1))))).bind fun t164 => (some (!t164))) = some r := by rw [if_pos rfl] at H; exact H
              clear H
              have H := H1
              clear H1
              replace H := Option.bind_eq_some_iff.mp H
              obtain ⟨t164, A350, H⟩ := H
              replace H : (some (!t164)) = some r := H
              have A35 := Aside0.mk A350
              clear A350
              obtain rfl := Option.some.inj H
              go_enter Try.func5, Try.ntmps5
              go_wp2_with (first | ((with_reducible refine gate_callee (f := 14) rfl ?_); refine goesL_ (some 10) rfl rfl Try.func14 (by kernel_rfl) rfl #[] rfl (by (try simp only [List.map_toArray, List.map_cons, List.map_nil]); first | done | rfl | (simp only [List.length_drop, List.length_take]; rfl)) ?_; (with_reducible refine (sakialaw01_awake.calls k  true _ A3.out).mono ?_); rintro e w36 ⟨rfl, hb⟩; refine ⟨_, rfl, ?_⟩; have n0_ := Aside0.mk (below_step (by repeat (first | (with_reducible first | exact HB.out | apply below_alloc | apply pw_below_drewN | apply below_drew1) | exact HB.out)) hb); clear HB; have HB := n0_; clear n0_; (try clear hb); (try clear hb2); (try clear hk); (try clear hi)) | ((with_reducible refine gate_callee (f := 20) rfl ?_); refine goesL_ (some 17) rfl rfl Try.func20 (by kernel_rfl) rfl #[.int .i64 (wrap64 (a0)), .int .i64 (wrap64 (1 + (wrap64 (a1))))] rfl (by (try simp only [List.map_toArray, List.map_cons, List.map_nil]); first | done | rfl | (simp only [List.length_drop, List.length_take]; rfl)) ?_; (with_reducible refine (pos_Place.calls (wrap64 (a0)) (wrap64 (1 + (wrap64 (a1)))) t153 _ A4.out).mono ?_); rintro e w' ⟨rfl, ⟨nd, rfl⟩⟩; refine ⟨_, rfl, ?_⟩) | ((with_reducible refine gate_callee (f := 20) rfl ?_); refine goesL_ (some 22) rfl rfl Try.func20 (by kernel_rfl) rfl #[.int .i64 (wrap64 ((wrap64 (a0)) + 1)), .int .i64 (wrap64 (1 + (wrap64 (a1))))] rfl (by (try simp only [List.map_toArray, List.map_cons, List.map_nil]); first | done | rfl | (simp only [List.length_drop, List.length_take]; rfl)) ?_; (with_reducible refine (pos_Place.calls (wrap64 ((wrap64 (a0)) + 1)) (wrap64 (1 + (wrap64 (a1)))) t154 _ A5.out).mono ?_); rintro e w' ⟨rfl, ⟨nd, rfl⟩⟩; refine ⟨_, rfl, ?_⟩) | ((with_reducible refine gate_callee (f := 22) rfl ?_); refine goesL_ (some 27) rfl rfl Try.func22 (by kernel_rfl) rfl #[.int .i64 (wrap64 ((wrap64 (a0)) + 1)), .int .i64 (wrap64 (1 + (wrap64 (a1))))] rfl (by (try simp only [List.map_toArray, List.map_cons, List.map_nil]); first | done | rfl | (simp only [List.length_drop, List.length_take]; rfl)) ?_; (with_reducible refine (pos_Lap.calls (wrap64 ((wrap64 (a0)) + 1)) (wrap64 (1 + (wrap64 (a1)))) t155 _ A6.out).mono ?_); rintro e w' ⟨rfl, ⟨nd, rfl⟩⟩; refine ⟨_, rfl, ?_⟩) | ((with_reducible refine gate_callee (f := 22) rfl ?_); refine goesL_ (some 31) rfl rfl Try.func22 (by kernel_rfl) rfl #[.int .i64 (wrap64 (a0)), .int .i64 (wrap64 (1 + (wrap64 (a1))))] rfl (by (try simp only [List.map_toArray, List.map_cons, List.map_nil]); first | done | rfl | (simp only [List.length_drop, List.length_take]; rfl)) ?_; (with_reducible refine (pos_Lap.calls (wrap64 (a0)) (wrap64 (1 + (wrap64 (a1)))) t156 _ A7.out).mono ?_); rintro e w' ⟨rfl, ⟨nd, rfl⟩⟩; refine ⟨_, rfl, ?_⟩) | (go_at_call 24; (with_reducible refine (pos_Ahead.calls (wrap64 (a0)) (wrap64 ((wrap64 (a0)) + (wrap64 (1 + (wrap64 (a1)))))) (wrap64 (1 + (wrap64 (a1)))) true _ A33.out).mono ?_); rintro e w' ⟨rfl, ⟨nd, rfl⟩⟩) | (go_at_call 24; (with_reducible refine (pos_Ahead.calls (wrap64 ((wrap64 (a0)) + (wrap64 (1 + (wrap64 (a1)))))) (wrap64 (a0)) (wrap64 (1 + (wrap64 (a1)))) t164 _ A35.out).mono ?_); rintro e w' ⟨rfl, ⟨nd, rfl⟩⟩))
              go_ret
              exact ⟨by first | rfl | (simp [errW_none, errW_some] <;> rfl) | (simp [*, errW_none, errW_some] <;> rfl), by repeat (first | (with_reducible first | exact HB.out | apply below_alloc | apply pw_below_drewN | apply below_drew1) | exact HB.out)⟩
            · replace c34 := Bool.eq_false_iff.mpr c34
              subst c34
              have H1 : (some false) = some r := by rw [if_neg (show ¬ (false = true) by decide)] at H; exact H
              clear H
              have H := H1
              clear H1
              exact absurd ((Option.some.inj H).trans HR_.out) (by decide)
          · rw [if_neg c32] at H
            have c32b0 : ((wrap64 (t155 - t156)) == 1) = false := beq_eq_false_iff_ne.mpr c32
            have c32b1 : ((wrap64 (t155 - t156)) != 1) = true := bne_iff_ne.mpr c32
            exact absurd ((Option.some.inj H).trans HR_.out) (by decide)
        · rw [if_neg c31] at H
          have c31b0 : (t154 == 0) = false := beq_eq_false_iff_ne.mpr c31
          have c31b1 : (t154 != 0) = true := bne_iff_ne.mpr c31
          exact absurd ((Option.some.inj H).trans HR_.out) (by decide)
      · rw [if_neg c30] at H
        have c30b0 : ((wrap64 (t153 + 1)) == (wrap64 (1 + (wrap64 (a1))))) = false := beq_eq_false_iff_ne.mpr c30
        have c30b1 : ((wrap64 (t153 + 1)) != (wrap64 (1 + (wrap64 (a1))))) = true := bne_iff_ne.mpr c30
        exact absurd ((Option.some.inj H).trans HR_.out) (by decide)
  · replace c8 := Bool.eq_false_iff.mpr c8
    subst c8
    have H1 : (some false) = some r := by rw [if_neg (show ¬ (false = true) by decide)] at H; exact H
    clear H
    have H := H1
    clear H1
    exact absurd ((Option.some.inj H).trans HR_.out) (by decide)

/-- THE ONE PURE STATEMENT of sakialaw01_PosNext. -/
def sakialaw01_PosNext.Pure : Prop := ∀ (a0 : Int) (a1 : Int), (Lit.int .u32 a0).wf = true → (Lit.int .u16 a1).wf = true → ∃ k, sakialaw01_PosNext.f k a0 a1 = some true

/-! ### sakialaw01_PosApart: function 6 -/
def sakialaw01_PosApart.f (k : Nat) (a0 : Int) (a1 : Int) (a2 : Int) (a3 : Int) : Option (Bool) := (sakialaw01_awake.f k).bind fun t165 => (if (wrap64 (1 + (wrap64 (a3)))) = 0 then (none) else (if t165 = true then ((pos_Place.f (wrap64 ((wrap64 (a0)) + (Int.tmod (wrap64 (a1)) (wrap64 (1 + (wrap64 (a3))))))) (wrap64 (1 + (wrap64 (a3))))).bind fun t166 => ((pos_Place.f (wrap64 ((wrap64 (a0)) + (Int.tmod (wrap64 (a2)) (wrap64 (1 + (wrap64 (a3))))))) (wrap64 (1 + (wrap64 (a3))))).bind fun t167 => (if ((t166 == t167) == ((wrap64 ((wrap64 (a0)) + (Int.tmod (wrap64 (a1)) (wrap64 (1 + (wrap64 (a3))))))) == (wrap64 ((wrap64 (a0)) + (Int.tmod (wrap64 (a2)) (wrap64 (1 + (wrap64 (a3))))))))) = true then ((pos_Ahead.f (wrap64 (a0)) (wrap64 ((wrap64 (a0)) + (wrap64 (a1)))) (wrap64 (1 + (wrap64 (a3))))).bind fun t168 => (if (wrap64 (a0)) < (wrap64 ((wrap64 (a0)) + (wrap64 (a1)))) then ((pos_Place.f (wrap64 (a0)) (wrap64 (1 + (wrap64 (a3))))).bind fun t169 => ((pos_Place.f (wrap64 ((wrap64 (a0)) + (wrap64 (a1)))) (wrap64 (1 + (wrap64 (a3))))).bind fun t170 => (some (t168 == (t169 == t170))))) else (some (t168 == false)))) else (some false)))) else (some false)))
theorem sakialaw01_PosApart.mono : ∀ a0 a1 a2 a3 k, LeO (sakialaw01_PosApart.f k a0 a1 a2 a3) (sakialaw01_PosApart.f (k + 1) a0 a1 a2 a3) := by
  intro a0 a1 a2 a3 k
  unfold sakialaw01_PosApart.f
  repeat' first
      | (with_reducible exact sakialaw01_awake.mono _)
      | (with_reducible exact LeO.refl _)
      | (with_reducible exact LeO.none _)
      | (with_reducible refine LeO.ite ?_ ?_)
      | (with_reducible refine LeO.bind ?_ (fun _ => ?_))
      | exact sakialaw01_awake.mono _
      | exact LeO.none _
      | refine LeO.ite ?_ ?_
      | refine LeO.bind ?_ (fun _ => ?_)
set_option maxHeartbeats 8000000 in
set_option maxRecDepth 100000 in
theorem sakialaw01_PosApart.calls (k : Nat) (a0 : Int) (a1 : Int) (a2 : Int) (a3 : Int) (r : Bool) (w : World) (hr_ : r = true) (h : sakialaw01_PosApart.f k a0 a1 a2 a3 = some r) :
    Calls Try.prog 6 #[.int .u32 a0, .int .u16 a1, .int .u16 a2, .int .u16 a3] w fun e w' => e = .returned (.bool r) ∧ Below w.heap.size w w' := by
  have HB := Aside0.mk (Below.refl w.heap.size w)
  have HR_ := Aside0.mk hr_
  clear hr_
  have H : ((sakialaw01_awake.f k).bind fun t165 => (if (wrap64 (1 + (wrap64 (a3)))) = 0 then (none) else (if t165 = true then ((pos_Place.f (wrap64 ((wrap64 (a0)) + (Int.tmod (wrap64 (a1)) (wrap64 (1 + (wrap64 (a3))))))) (wrap64 (1 + (wrap64 (a3))))).bind fun t166 => ((pos_Place.f (wrap64 ((wrap64 (a0)) + (Int.tmod (wrap64 (a2)) (wrap64 (1 + (wrap64 (a3))))))) (wrap64 (1 + (wrap64 (a3))))).bind fun t167 => (if ((t166 == t167) == ((wrap64 ((wrap64 (a0)) + (Int.tmod (wrap64 (a1)) (wrap64 (1 + (wrap64 (a3))))))) == (wrap64 ((wrap64 (a0)) + (Int.tmod (wrap64 (a2)) (wrap64 (1 + (wrap64 (a3))))))))) = true then ((pos_Ahead.f (wrap64 (a0)) (wrap64 ((wrap64 (a0)) + (wrap64 (a1)))) (wrap64 (1 + (wrap64 (a3))))).bind fun t168 => (if (wrap64 (a0)) < (wrap64 ((wrap64 (a0)) + (wrap64 (a1)))) then ((pos_Place.f (wrap64 (a0)) (wrap64 (1 + (wrap64 (a3))))).bind fun t169 => ((pos_Place.f (wrap64 ((wrap64 (a0)) + (wrap64 (a1)))) (wrap64 (1 + (wrap64 (a3))))).bind fun t170 => (some (t168 == (t169 == t170))))) else (some (t168 == false)))) else (some false)))) else (some false)))) = some r := h
  clear h
  replace H := Option.bind_eq_some_iff.mp H
  obtain ⟨t165, A50, H⟩ := H
  replace H : (if (wrap64 (1 + (wrap64 (a3)))) = 0 then (none) else (if t165 = true then ((pos_Place.f (wrap64 ((wrap64 (a0)) + (Int.tmod (wrap64 (a1)) (wrap64 (1 + (wrap64 (a3))))))) (wrap64 (1 + (wrap64 (a3))))).bind fun t166 => ((pos_Place.f (wrap64 ((wrap64 (a0)) + (Int.tmod (wrap64 (a2)) (wrap64 (1 + (wrap64 (a3))))))) (wrap64 (1 + (wrap64 (a3))))).bind fun t167 => (if ((t166 == t167) == ((wrap64 ((wrap64 (a0)) + (Int.tmod (wrap64 (a1)) (wrap64 (1 + (wrap64 (a3))))))) == (wrap64 ((wrap64 (a0)) + (Int.tmod (wrap64 (a2)) (wrap64 (1 + (wrap64 (a3))))))))) = true then ((pos_Ahead.f (wrap64 (a0)) (wrap64 ((wrap64 (a0)) + (wrap64 (a1)))) (wrap64 (1 + (wrap64 (a3))))).bind fun t168 => (if (wrap64 (a0)) < (wrap64 ((wrap64 (a0)) + (wrap64 (a1)))) then ((pos_Place.f (wrap64 (a0)) (wrap64 (1 + (wrap64 (a3))))).bind fun t169 => ((pos_Place.f (wrap64 ((wrap64 (a0)) + (wrap64 (a1)))) (wrap64 (1 + (wrap64 (a3))))).bind fun t170 => (some (t168 == (t169 == t170))))) else (some (t168 == false)))) else (some false)))) else (some false))) = some r := H
  have A5 := Aside0.mk A50
  clear A50
  by_cases c6 : (wrap64 (1 + (wrap64 (a3)))) = 0
  · rw [if_pos c6] at H
    exact absurd H (by simp)
  · rw [if_neg c6] at H
    have c6b0 : ((wrap64 (1 + (wrap64 (a3)))) == 0) = false := beq_eq_false_iff_ne.mpr c6
    have c6b1 : ((wrap64 (1 + (wrap64 (a3)))) != 0) = true := bne_iff_ne.mpr c6
    by_cases c7 : t165 = true
    · subst c7
      have H1 : ((pos_Place.f (wrap64 ((wrap64 (a0)) + (Int.tmod (wrap64 (a1)) (wrap64 (1 + (wrap64 (a3))))))) (wrap64 (1 + (wrap64 (a3))))).bind fun t166 => ((pos_Place.f (wrap64 ((wrap64 (a0)) + (Int.tmod (wrap64 (a2)) (wrap64 (1 + (wrap64 (a3))))))) (wrap64 (1 + (wrap64 (a3))))).bind fun t167 => (if ((t166 == t167) == ((wrap64 ((wrap64 (a0)) + (Int.tmod (wrap64 (a1)) (wrap64 (1 + (wrap64 (a3))))))) == (wrap64 ((wrap64 (a0)) + (Int.tmod (wrap64 (a2)) (wrap64 (1 + (wrap64 (a3))))))))) = true then ((pos_Ahead.f (wrap64 (a0)) (wrap64 ((wrap64 (a0)) + (wrap64 (a1)))) (wrap64 (1 + (wrap64 (a3))))).bind fun t168 => (if (wrap64 (a0)) < (wrap64 ((wrap64 (a0)) + (wrap64 (a1)))) then ((pos_Place.f (wrap64 (a0)) (wrap64 (1 + (wrap64 (a3))))).bind fun t169 => ((pos_Place.f (wrap64 ((wrap64 (a0)) + (wrap64 (a1)))) (wrap64 (1 + (wrap64 (a3))))).bind fun t170 => (some (t168 == (t169 == t170))))) else (some (t168 == false)))) else (some false)))) = some r := by rw [if_pos rfl] at H; exact H
      clear H
      have H := H1
      clear H1
      replace H := Option.bind_eq_some_iff.mp H
      obtain ⟨t166, A80, H⟩ := H
      replace H : ((pos_Place.f (wrap64 ((wrap64 (a0)) + (Int.tmod (wrap64 (a2)) (wrap64 (1 + (wrap64 (a3))))))) (wrap64 (1 + (wrap64 (a3))))).bind fun t167 => (if ((t166 == t167) == ((wrap64 ((wrap64 (a0)) + (Int.tmod (wrap64 (a1)) (wrap64 (1 + (wrap64 (a3))))))) == (wrap64 ((wrap64 (a0)) + (Int.tmod (wrap64 (a2)) (wrap64 (1 + (wrap64 (a3))))))))) = true then ((pos_Ahead.f (wrap64 (a0)) (wrap64 ((wrap64 (a0)) + (wrap64 (a1)))) (wrap64 (1 + (wrap64 (a3))))).bind fun t168 => (if (wrap64 (a0)) < (wrap64 ((wrap64 (a0)) + (wrap64 (a1)))) then ((pos_Place.f (wrap64 (a0)) (wrap64 (1 + (wrap64 (a3))))).bind fun t169 => ((pos_Place.f (wrap64 ((wrap64 (a0)) + (wrap64 (a1)))) (wrap64 (1 + (wrap64 (a3))))).bind fun t170 => (some (t168 == (t169 == t170))))) else (some (t168 == false)))) else (some false))) = some r := H
      have A8 := Aside0.mk A80
      clear A80
      replace H := Option.bind_eq_some_iff.mp H
      obtain ⟨t167, A90, H⟩ := H
      replace H : (if ((t166 == t167) == ((wrap64 ((wrap64 (a0)) + (Int.tmod (wrap64 (a1)) (wrap64 (1 + (wrap64 (a3))))))) == (wrap64 ((wrap64 (a0)) + (Int.tmod (wrap64 (a2)) (wrap64 (1 + (wrap64 (a3))))))))) = true then ((pos_Ahead.f (wrap64 (a0)) (wrap64 ((wrap64 (a0)) + (wrap64 (a1)))) (wrap64 (1 + (wrap64 (a3))))).bind fun t168 => (if (wrap64 (a0)) < (wrap64 ((wrap64 (a0)) + (wrap64 (a1)))) then ((pos_Place.f (wrap64 (a0)) (wrap64 (1 + (wrap64 (a3))))).bind fun t169 => ((pos_Place.f (wrap64 ((wrap64 (a0)) + (wrap64 (a1)))) (wrap64 (1 + (wrap64 (a3))))).bind fun t170 => (some (t168 == (t169 == t170))))) else (some (t168 == false)))) else (some false)) = some r := H
      have A9 := Aside0.mk A90
      clear A90
      by_cases c10 : ((t166 == t167) == ((wrap64 ((wrap64 (a0)) + (Int.tmod (wrap64 (a1)) (wrap64 (1 + (wrap64 (a3))))))) == (wrap64 ((wrap64 (a0)) + (Int.tmod (wrap64 (a2)) (wrap64 (1 + (wrap64 (a3))))))))) = true
      · rw [if_pos c10] at H
        have c10b0 : ((t166 == t167) == ((wrap64 ((wrap64 (a0)) + (Int.tmod (wrap64 (a1)) (wrap64 (1 + (wrap64 (a3))))))) == (wrap64 ((wrap64 (a0)) + (Int.tmod (wrap64 (a2)) (wrap64 (1 + (wrap64 (a3))))))))) = true := c10
        (try (have c10b1 : decide ((t166 == t167) = ((wrap64 ((wrap64 (a0)) + (Int.tmod (wrap64 (a1)) (wrap64 (1 + (wrap64 (a3))))))) == (wrap64 ((wrap64 (a0)) + (Int.tmod (wrap64 (a2)) (wrap64 (1 + (wrap64 (a3))))))))) = true := by simpa using c10))
        (try (have c10b2 : ((t166 == t167) == ((wrap64 ((wrap64 (a0)) + (Int.tmod (wrap64 (a1)) (wrap64 (1 + (wrap64 (a3))))))) == (wrap64 ((wrap64 (a0)) + (Int.tmod (wrap64 (a2)) (wrap64 (1 + (wrap64 (a3))))))))) = true := by simpa using c10))
        clear c10
        replace H := Option.bind_eq_some_iff.mp H
        obtain ⟨t168, A110, H⟩ := H
        replace H : (if (wrap64 (a0)) < (wrap64 ((wrap64 (a0)) + (wrap64 (a1)))) then ((pos_Place.f (wrap64 (a0)) (wrap64 (1 + (wrap64 (a3))))).bind fun t169 => ((pos_Place.f (wrap64 ((wrap64 (a0)) + (wrap64 (a1)))) (wrap64 (1 + (wrap64 (a3))))).bind fun t170 => (some (t168 == (t169 == t170))))) else (some (t168 == false))) = some r := H
        have A11 := Aside0.mk A110
        clear A110
        by_cases c12 : (wrap64 (a0)) < (wrap64 ((wrap64 (a0)) + (wrap64 (a1))))
        · rw [if_pos c12] at H
          have c12b0 : decide ((wrap64 (a0)) < (wrap64 ((wrap64 (a0)) + (wrap64 (a1))))) = true := decide_eq_true c12
          clear c12
          replace H := Option.bind_eq_some_iff.mp H
          obtain ⟨t169, A130, H⟩ := H
          replace H : ((pos_Place.f (wrap64 ((wrap64 (a0)) + (wrap64 (a1)))) (wrap64 (1 + (wrap64 (a3))))).bind fun t170 => (some (t168 == (t169 == t170)))) = some r := H
          have A13 := Aside0.mk A130
          clear A130
          replace H := Option.bind_eq_some_iff.mp H
          obtain ⟨t170, A140, H⟩ := H
          replace H : (some (t168 == (t169 == t170))) = some r := H
          have A14 := Aside0.mk A140
          clear A140
          obtain rfl := Option.some.inj H
          go_enter Try.func6, Try.ntmps6
          go_wp2_with (first | ((with_reducible refine gate_callee (f := 14) rfl ?_); refine goesL_ (some 14) rfl rfl Try.func14 (by kernel_rfl) rfl #[] rfl (by (try simp only [List.map_toArray, List.map_cons, List.map_nil]); first | done | rfl | (simp only [List.length_drop, List.length_take]; rfl)) ?_; (with_reducible refine (sakialaw01_awake.calls k  true _ A5.out).mono ?_); rintro e w15 ⟨rfl, hb⟩; refine ⟨_, rfl, ?_⟩; have n0_ := Aside0.mk (below_step (by repeat (first | (with_reducible first | exact HB.out | apply below_alloc | apply pw_below_drewN | apply below_drew1) | exact HB.out)) hb); clear HB; have HB := n0_; clear n0_; (try clear hb); (try clear hb2); (try clear hk); (try clear hi)) | (go_at_call 20; (with_reducible refine (pos_Place.calls (wrap64 ((wrap64 (a0)) + (Int.tmod (wrap64 (a1)) (wrap64 (1 + (wrap64 (a3))))))) (wrap64 (1 + (wrap64 (a3)))) t166 _ A8.out).mono ?_); rintro e w' ⟨rfl, ⟨nd, rfl⟩⟩) | (go_at_call 20; (with_reducible refine (pos_Place.calls (wrap64 ((wrap64 (a0)) + (Int.tmod (wrap64 (a2)) (wrap64 (1 + (wrap64 (a3))))))) (wrap64 (1 + (wrap64 (a3)))) t167 _ A9.out).mono ?_); rintro e w' ⟨rfl, ⟨nd, rfl⟩⟩) | (go_at_call 24; (with_reducible refine (pos_Ahead.calls (wrap64 (a0)) (wrap64 ((wrap64 (a0)) + (wrap64 (a1)))) (wrap64 (1 + (wrap64 (a3)))) t168 _ A11.out).mono ?_); rintro e w' ⟨rfl, ⟨nd, rfl⟩⟩) | (go_at_call 20; (with_reducible refine (pos_Place.calls (wrap64 (a0)) (wrap64 (1 + (wrap64 (a3)))) t169 _ A13.out).mono ?_); rintro e w' ⟨rfl, ⟨nd, rfl⟩⟩) | (go_at_call 20; (with_reducible refine (pos_Place.calls (wrap64 ((wrap64 (a0)) + (wrap64 (a1)))) (wrap64 (1 + (wrap64 (a3)))) t170 _ A14.out).mono ?_); rintro e w' ⟨rfl, ⟨nd, rfl⟩⟩))
          go_ret
          exact ⟨by first | rfl | (simp [errW_none, errW_some] <;> rfl) | (simp [*, errW_none, errW_some] <;> rfl), by repeat (first | (with_reducible first | exact HB.out | apply below_alloc | apply pw_below_drewN | apply below_drew1) | exact HB.out)⟩
        · rw [if_neg c12] at H
          have c12b0 : decide ((wrap64 (a0)) < (wrap64 ((wrap64 (a0)) + (wrap64 (a1))))) = false := decide_eq_false c12
          clear c12
          obtain rfl := Option.some.inj H
          go_enter Try.func6, Try.ntmps6
          go_wp2_with (first | ((with_reducible refine gate_callee (f := 14) rfl ?_); refine goesL_ (some 14) rfl rfl Try.func14 (by kernel_rfl) rfl #[] rfl (by (try simp only [List.map_toArray, List.map_cons, List.map_nil]); first | done | rfl | (simp only [List.length_drop, List.length_take]; rfl)) ?_; (with_reducible refine (sakialaw01_awake.calls k  true _ A5.out).mono ?_); rintro e w16 ⟨rfl, hb⟩; refine ⟨_, rfl, ?_⟩; have n0_ := Aside0.mk (below_step (by repeat (first | (with_reducible first | exact HB.out | apply below_alloc | apply pw_below_drewN | apply below_drew1) | exact HB.out)) hb); clear HB; have HB := n0_; clear n0_; (try clear hb); (try clear hb2); (try clear hk); (try clear hi)) | (go_at_call 20; (with_reducible refine (pos_Place.calls (wrap64 ((wrap64 (a0)) + (Int.tmod (wrap64 (a1)) (wrap64 (1 + (wrap64 (a3))))))) (wrap64 (1 + (wrap64 (a3)))) t166 _ A8.out).mono ?_); rintro e w' ⟨rfl, ⟨nd, rfl⟩⟩) | (go_at_call 20; (with_reducible refine (pos_Place.calls (wrap64 ((wrap64 (a0)) + (Int.tmod (wrap64 (a2)) (wrap64 (1 + (wrap64 (a3))))))) (wrap64 (1 + (wrap64 (a3)))) t167 _ A9.out).mono ?_); rintro e w' ⟨rfl, ⟨nd, rfl⟩⟩) | (go_at_call 24; (with_reducible refine (pos_Ahead.calls (wrap64 (a0)) (wrap64 ((wrap64 (a0)) + (wrap64 (a1)))) (wrap64 (1 + (wrap64 (a3)))) t168 _ A11.out).mono ?_); rintro e w' ⟨rfl, ⟨nd, rfl⟩⟩))
          go_ret
          exact ⟨by first | rfl | (simp [errW_none, errW_some] <;> rfl) | (simp [*, errW_none, errW_some] <;> rfl), by repeat (first | (with_reducible first | exact HB.out | apply below_alloc | apply pw_below_drewN | apply below_drew1) | exact HB.out)⟩
      · rw [if_neg c10] at H
        have c10b0 : ((t166 == t167) == ((wrap64 ((wrap64 (a0)) + (Int.tmod (wrap64 (a1)) (wrap64 (1 + (wrap64 (a3))))))) == (wrap64 ((wrap64 (a0)) + (Int.tmod (wrap64 (a2)) (wrap64 (1 + (wrap64 (a3))))))))) = false := by simpa using c10
        (try (have c10b1 : decide ((t166 == t167) = ((wrap64 ((wrap64 (a0)) + (Int.tmod (wrap64 (a1)) (wrap64 (1 + (wrap64 (a3))))))) == (wrap64 ((wrap64 (a0)) + (Int.tmod (wrap64 (a2)) (wrap64 (1 + (wrap64 (a3))))))))) = false := by simpa using c10))
        (try (have c10b2 : ((t166 == t167) == ((wrap64 ((wrap64 (a0)) + (Int.tmod (wrap64 (a1)) (wrap64 (1 + (wrap64 (a3))))))) == (wrap64 ((wrap64 (a0)) + (Int.tmod (wrap64 (a2)) (wrap64 (1 + (wrap64 (a3))))))))) = false := by simpa using c10))
        (try (have c10b3 : ¬ ((t166 == t167) = ((wrap64 ((wrap64 (a0)) + (Int.tmod (wrap64 (a1)) (wrap64 (1 + (wrap64 (a3))))))) == (wrap64 ((wrap64 (a0)) + (Int.tmod (wrap64 (a2)) (wrap64 (1 + (wrap64 (a3))))))))) := by simpa using c10))
        clear c10
        exact absurd ((Option.some.inj H).trans HR_.out) (by decide)
    · replace c7 := Bool.eq_false_iff.mpr c7
      subst c7
      have H1 : (some false) = some r := by rw [if_neg (show ¬ (false = true) by decide)] at H; exact H
      clear H
      have H := H1
      clear H1
      exact absurd ((Option.some.inj H).trans HR_.out) (by decide)

/-- THE ONE PURE STATEMENT of sakialaw01_PosApart. -/
def sakialaw01_PosApart.Pure : Prop := ∀ (a0 : Int) (a1 : Int) (a2 : Int) (a3 : Int), (Lit.int .u32 a0).wf = true → (Lit.int .u16 a1).wf = true → (Lit.int .u16 a2).wf = true → (Lit.int .u16 a3).wf = true → ∃ k, sakialaw01_PosApart.f k a0 a1 a2 a3 = some true

end Go.Proofs.Ytlpeklhejjidfaa.PL
