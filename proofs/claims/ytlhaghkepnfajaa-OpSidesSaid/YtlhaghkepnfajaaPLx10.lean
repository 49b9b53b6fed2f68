-- written by this repo's pp.py (the kit's print, turned by wip/patches.py)
import Derived.Test.YtlhaghkepnfajaaPLx0
import Derived.Test.YtlhaghkepnfajaaPLx2
import Derived.Test.YtlhaghkepnfajaaPLx4
import Derived.Test.YtlhaghkepnfajaaPLx5
namespace Go.Proofs.Ytlhaghkepnfajaa.PL
open Go.RowKit Go.Proofs.YtlhaghkepnfajaaW.PrintWords Go.Proofs.YtlhaghkepnfajaaW.PrintLast Go.Proofs.YtlhaghkepnfajaaW.PrintMore
attribute [local go_sem] max2_int min2_int max_two min_two max_three min_three max_four min_four   -- for this text's walks alone
set_option linter.unusedVariables false
set_option linter.unusedSimpArgs false

/-! ### sakialaw11_OpEnds: function 5 -/
def sakialaw11_OpEnds.f (k : Nat) (a0 : Int) (a1 : Int) : Option (Bool) := (sakialaw11_awake.f k).bind fun t158 => (if t158 = true then ((op_Ends.f k a0 1).bind fun t159 => ((op_Check.f k a0).bind fun t160 => (if (t159 == t160) = true then ((op_Ends.f k a0 0).bind fun t161 => (if t161 = true then (some false) else ((op_Ends.f k a0 5).bind fun t162 => ((op_Timed.f a0).bind fun t163 => (if (t162 == t163) = true then ((op_Ends.f k a0 a1).bind fun t164 => (if t164 = true then (if a1 ≥ 1 then (if a1 ≤ 7 then ((op_Ends.f k a0 6).bind fun t165 => ((op_Ends.f k a0 7).bind fun t166 => (some (t165 == t166)))) else (some false)) else (some false)) else ((op_Ends.f k a0 6).bind fun t167 => ((op_Ends.f k a0 7).bind fun t168 => (some (t167 == t168)))))) else (some false)))))) else (some false)))) else (some false))
theorem sakialaw11_OpEnds.mono : ∀ a0 a1 k, LeO (sakialaw11_OpEnds.f k a0 a1) (sakialaw11_OpEnds.f (k + 1) a0 a1) := by
 intro a0 a1 k
 unfold sakialaw11_OpEnds.f
 repeat' first
   | (with_reducible exact op_Check.mono _ _)
   | (with_reducible exact op_Ends.mono _ _ _)
   | (with_reducible exact sakialaw11_awake.mono _)
   | (with_reducible exact LeO.refl _)
   | (with_reducible exact LeO.none _)
   | (with_reducible refine LeO.ite ?_ ?_)
   | (with_reducible refine LeO.bind ?_ (fun _ => ?_))
   | exact op_Check.mono _ _
   | exact op_Ends.mono _ _ _
   | exact sakialaw11_awake.mono _
   | exact LeO.none _
   | refine LeO.ite ?_ ?_
   | refine LeO.bind ?_ (fun _ => ?_)
set_option maxHeartbeats 8000000 in
set_option maxRecDepth 100000 in
theorem sakialaw11_OpEnds.calls (k : Nat) (a0 : Int) (a1 : Int) (r : Bool) (w : World) (hr_ : r = true) (h : sakialaw11_OpEnds.f k a0 a1 = some r) :
  Calls Try.prog 5 #[.int .i64 a0, .int .i64 a1] w fun e w' => e = .returned (.bool r) ∧ Below w.heap.size w w' := by
 have HB := Aside0.mk (Below.refl w.heap.size w)
 have HR_ := Aside0.mk hr_
 clear hr_
 have H : ((sakialaw11_awake.f k).bind fun t158 => (if t158 = true then ((op_Ends.f k a0 1).bind fun t159 => ((op_Check.f k a0).bind fun t160 => (if (t159 == t160) = true then ((op_Ends.f k a0 0).bind fun t161 => (if t161 = true then (some false) else ((op_Ends.f k a0 5).bind fun t162 => ((op_Timed.f a0).bind fun t163 => (if (t162 == t163) = true then ((op_Ends.f k a0 a1).bind fun t164 => (if t164 = true then (if a1 ≥ 1 then (if a1 ≤ 7 then ((op_Ends.f k a0 6).bind fun t165 => ((op_Ends.f k a0 7).bind fun t166 => (some (t165 == t166)))) else (some false)) else (some false)) else ((op_Ends.f k a0 6).bind fun t167 => ((op_Ends.f k a0 7).bind fun t168 => (some (t167 == t168)))))) else (some false)))))) else (some false)))) else (some false))) = some r := h
 clear h
 replace H := Option.bind_eq_some_iff.mp H
 obtain ⟨t158, A30, H⟩ := H
 replace H : (if t158 = true then ((op_Ends.f k a0 1).bind fun t159 => ((op_Check.f k a0).bind fun t160 => (if (t159 == t160) = true then ((op_Ends.f k a0 0).bind fun t161 => (if t161 = true then (some false) else ((op_Ends.f k a0 5).bind fun t162 => ((op_Timed.f a0).bind fun t163 => (if (t162 == t163) = true then ((op_Ends.f k a0 a1).bind fun t164 => (if t164 = true then (if a1 ≥ 1 then (if a1 ≤ 7 then ((op_Ends.f k a0 6).bind fun t165 => ((op_Ends.f k a0 7).bind fun t166 => (some (t165 == t166)))) else (some false)) else (some false)) else ((op_Ends.f k a0 6).bind fun t167 => ((op_Ends.f k a0 7).bind fun t168 => (some (t167 == t168)))))) else (some false)))))) else (some false)))) else (some false)) = some r := H
 have A3 := Aside0.mk A30
 clear A30
 by_cases c4 : t158 = true
 ·subst c4
  have H1 : ((op_Ends.f k a0 1).bind fun t159 => ((op_Check.f k a0).bind fun t160 => (if (t159 == t160) = true then ((op_Ends.f k a0 0).bind fun t161 => (if t161 = true then (some false) else ((op_Ends.f k a0 5).bind fun t162 => ((op_Timed.f a0).bind fun t163 => (if (t162 == t163) = true then ((op_Ends.f k a0 a1).bind fun t164 => (if t164 = true then (if a1 ≥ 1 then (if a1 ≤ 7 then ((op_Ends.f k a0 6).bind fun t165 => ((op_Ends.f k a0 7).bind fun t166 => (some (t165 == t166)))) else (some false)) else (some false)) else ((op_Ends.f k a0 6).bind fun t167 => ((op_Ends.f k a0 7).bind fun t168 => (some (t167 == t168)))))) else (some false)))))) else (some false)))) = some r := by rw [if_pos rfl] at H; exact H
  clear H
  have H := H1
  clear H1
  replace H := Option.bind_eq_some_iff.mp H
  obtain ⟨t159, A50, H⟩ := H
  replace H : ((op_Check.f k a0).bind fun t160 => (if (t159 == t160) = true then ((op_Ends.f k a0 0).bind fun t161 => (if t161 = true then (some false) else ((op_Ends.f k a0 5).bind fun t162 => ((op_Timed.f a0).bind fun t163 => (if (t162 == t163) = true then ((op_Ends.f k a0 a1).bind fun t164 => (if t164 = true then (if a1 ≥ 1 then (if a1 ≤ 7 then ((op_Ends.f k a0 6).bind fun t165 => ((op_Ends.f k a0 7).bind fun t166 => (some (t165 == t166)))) else (some false)) else (some false)) else ((op_Ends.f k a0 6).bind fun t167 => ((op_Ends.f k a0 7).bind fun t168 => (some (t167 == t168)))))) else (some false)))))) else (some false))) = some r := H
  have A5 := Aside0.mk A50
  clear A50
  replace H := Option.bind_eq_some_iff.mp H
  obtain ⟨t160, A60, H⟩ := H
  replace H : (if (t159 == t160) = true then ((op_Ends.f k a0 0).bind fun t161 => (if t161 = true then (some false) else ((op_Ends.f k a0 5).bind fun t162 => ((op_Timed.f a0).bind fun t163 => (if (t162 == t163) = true then ((op_Ends.f k a0 a1).bind fun t164 => (if t164 = true then (if a1 ≥ 1 then (if a1 ≤ 7 then ((op_Ends.f k a0 6).bind fun t165 => ((op_Ends.f k a0 7).bind fun t166 => (some (t165 == t166)))) else (some false)) else (some false)) else ((op_Ends.f k a0 6).bind fun t167 => ((op_Ends.f k a0 7).bind fun t168 => (some (t167 == t168)))))) else (some false)))))) else (some false)) = some r := H
  have A6 := Aside0.mk A60
  clear A60
  by_cases c7 : (t159 == t160) = true
  ·rw [if_pos c7] at H
   have c7b0 : (t159 == t160) = true := c7
   (try (have c7b1 : decide (t159 = t160) = true := by simpa using c7))
   (try (have c7b2 : (t159 == t160) = true := by simpa using c7))
   clear c7
   replace H := Option.bind_eq_some_iff.mp H
   obtain ⟨t161, A80, H⟩ := H
   replace H : (if t161 = true then (some false) else ((op_Ends.f k a0 5).bind fun t162 => ((op_Timed.f a0).bind fun t163 => (if (t162 == t163) = true then ((op_Ends.f k a0 a1).bind fun t164 => (if t164 = true then (if a1 ≥ 1 then (if a1 ≤ 7 then ((op_Ends.f k a0 6).bind fun t165 => ((op_Ends.f k a0 7).bind fun t166 => (some (t165 == t166)))) else (some false)) else (some false)) else ((op_Ends.f k a0 6).bind fun t167 => ((op_Ends.f k a0 7).bind fun t168 => (some (t167 == t168)))))) else (some false))))) = some r := H
   have A8 := Aside0.mk A80
   clear A80
   by_cases c9 : t161 = true
   ·subst c9
    have H1 : (some false) = some r := by rw [if_pos rfl] at H; exact H
    clear H
    have H := H1
    clear H1
    exact absurd ((Option.some.inj H).trans HR_.out) (by decide)
   ·replace c9 := Bool.eq_false_iff.mpr c9
    subst c9
    have H1 : ((op_Ends.f k a0 5).bind fun t162 => ((op_Timed.f a0).bind fun t163 => (if (t162 == t163) = true then ((op_Ends.f k a0 a1).bind fun t164 => (if t164 = true then (if a1 ≥ 1 then (if a1 ≤ 7 then ((op_Ends.f k a0 6).bind fun t165 => ((op_Ends.f k a0 7).bind fun t166 => (some (t165 == t166)))) else (some false)) else (some false)) else ((op_Ends.f k a0 6).bind fun t167 => ((op_Ends.f k a0 7).bind fun t168 => (some (t167 == t168)))))) else (some false)))) = some r := by rw [if_neg (show ¬ (false = true) by decide)] at H; exact H
    clear H
    have H := H1
    clear H1
    replace H := Option.bind_eq_some_iff.mp H
    obtain ⟨t162, A100, H⟩ := H
    replace H : ((op_Timed.f a0).bind fun t163 => (if (t162 == t163) = true then ((op_Ends.f k a0 a1).bind fun t164 => (if t164 = true then (if a1 ≥ 1 then (if a1 ≤ 7 then ((op_Ends.f k a0 6).bind fun t165 => ((op_Ends.f k a0 7).bind fun t166 => (some (t165 == t166)))) else (some false)) else (some false)) else ((op_Ends.f k a0 6).bind fun t167 => ((op_Ends.f k a0 7).bind fun t168 => (some (t167 == t168)))))) else (some false))) = some r := H
    have A10 := Aside0.mk A100
    clear A100
    replace H := Option.bind_eq_some_iff.mp H
    obtain ⟨t163, A110, H⟩ := H
    replace H : (if (t162 == t163) = true then ((op_Ends.f k a0 a1).bind fun t164 => (if t164 = true then (if a1 ≥ 1 then (if a1 ≤ 7 then ((op_Ends.f k a0 6).bind fun t165 => ((op_Ends.f k a0 7).bind fun t166 => (some (t165 == t166)))) else (some false)) else (some false)) else ((op_Ends.f k a0 6).bind fun t167 => ((op_Ends.f k a0 7).bind fun t168 => (some (t167 == t168)))))) else (some false)) = some r := H
    have A11 := Aside0.mk A110
    clear A110
    by_cases c12 : (t162 == t163) = true
    ·rw [if_pos c12] at H
     have c12b0 : (t162 == t163) = true := c12
     (try (have c12b1 : decide (t162 = t163) = true := by simpa using c12))
     (try (have c12b2 : (t162 == t163) = true := by simpa using c12))
     clear c12
     replace H := Option.bind_eq_some_iff.mp H
     obtain ⟨t164, A130, H⟩ := H
     replace H : (if t164 = true then (if a1 ≥ 1 then (if a1 ≤ 7 then ((op_Ends.f k a0 6).bind fun t165 => ((op_Ends.f k a0 7).bind fun t166 => (some (t165 == t166)))) else (some false)) else (some false)) else ((op_Ends.f k a0 6).bind fun t167 => ((op_Ends.f k a0 7).bind fun t168 => (some (t167 == t168))))) = some r := H
     have A13 := Aside0.mk A130
     clear A130
     by_cases c14 : t164 = true
     ·subst c14
      have H1 : (if a1 ≥ 1 then (if a1 ≤ 7 then ((op_Ends.f k a0 6).bind fun t165 => ((op_Ends.f k a0 7).bind fun t166 => (some (t165 == t166)))) else (some false)) else (some false)) = some r := by rw [if_pos rfl] at H; exact H
      clear H
      have H := H1
      clear H1
      by_cases c15 : a1 ≥ 1
      ·rw [if_pos c15] at H
       have c15b0 : decide (1 ≤ a1) = true := decide_eq_true c15
       clear c15
       by_cases c16 : a1 ≤ 7
       ·rw [if_pos c16] at H
        have c16b0 : decide (a1 ≤ 7) = true := decide_eq_true c16
        clear c16
        replace H := Option.bind_eq_some_iff.mp H
        obtain ⟨t165, A170, H⟩ := H
        replace H : ((op_Ends.f k a0 7).bind fun t166 => (some (t165 == t166))) = some r := H
        have A17 := Aside0.mk A170
        clear A170
        replace H := Option.bind_eq_some_iff.mp H
        obtain ⟨t166, A180, H⟩ := H
        replace H : (some (t165 == t166)) = some r := H
        have A18 := Aside0.mk A180
        clear A180
        obtain rfl := Option.some.inj H
        go_enter Try.func5, Try.ntmps5
        go_wp2_with (first | ((with_reducible refine gate_callee (f := 14) rfl ?_); refine goesL_ (some 6) rfl rfl Try.func14 (by kernel_rfl) rfl #[] rfl (by (try simp only [List.map_toArray, List.map_cons, List.map_nil]); first | done | rfl | (simp only [List.length_drop, List.length_take]; rfl)) ?_; (with_reducible refine (sakialaw11_awake.calls k  true _ A3.out).mono ?_); rintro e w19 ⟨rfl, hb⟩; refine ⟨_, rfl, ?_⟩; have n0_ := Aside0.mk (below_step (by repeat (first | (with_reducible first | exact HB.out | apply bA | apply bN | apply bD) | exact HB.out)) hb); clear HB; have HB := n0_; clear n0_; (try clear hb); (try clear hb2); (try clear hk); (try clear hi)) | (go_at_call 25; (with_reducible refine (op_Ends.calls k a0 1 t159 _ A5.out).mono ?_); rintro e w20 ⟨rfl, hb⟩; have n0_ := Aside0.mk (below_step (by repeat (first | (with_reducible first | exact HB.out | apply bA | apply bN | apply bD) | exact HB.out)) hb); clear HB; have HB := n0_; clear n0_; (try clear hb); (try clear hb2); (try clear hk); (try clear hi)) | (go_at_call 15; (with_reducible refine (op_Check.calls k a0 t160 _ A6.out).mono ?_); rintro e w' ⟨rfl, ⟨nd, rfl⟩⟩) | (go_at_call 25; (with_reducible refine (op_Ends.calls k a0 0 false _ A8.out).mono ?_); rintro e w21 ⟨rfl, hb⟩; have n0_ := Aside0.mk (below_step (by repeat (first | (with_reducible first | exact HB.out | apply bA | apply bN | apply bD) | exact HB.out)) hb); clear HB; have HB := n0_; clear n0_; (try clear hb); (try clear hb2); (try clear hk); (try clear hi)) | (go_at_call 25; (with_reducible refine (op_Ends.calls k a0 5 t162 _ A10.out).mono ?_); rintro e w22 ⟨rfl, hb⟩; have n0_ := Aside0.mk (below_step (by repeat (first | (with_reducible first | exact HB.out | apply bA | apply bN | apply bD) | exact HB.out)) hb); clear HB; have HB := n0_; clear n0_; (try clear hb); (try clear hb2); (try clear hk); (try clear hi)) | (go_at_call 19; (with_reducible refine (op_Timed.calls a0 t163 _ A11.out).mono ?_); rintro e w' ⟨rfl, ⟨nd, rfl⟩⟩) | (go_at_call 25; (with_reducible refine (op_Ends.calls k a0 a1 true _ A13.out).mono ?_); rintro e w23 ⟨rfl, hb⟩; have n0_ := Aside0.mk (below_step (by repeat (first | (with_reducible first | exact HB.out | apply bA | apply bN | apply bD) | exact HB.out)) hb); clear HB; have HB := n0_; clear n0_; (try clear hb); (try clear hb2); (try clear hk); (try clear hi)) | (go_at_call 25; (with_reducible refine (op_Ends.calls k a0 6 t165 _ A17.out).mono ?_); rintro e w24 ⟨rfl, hb⟩; have n0_ := Aside0.mk (below_step (by repeat (first | (with_reducible first | exact HB.out | apply bA | apply bN | apply bD) | exact HB.out)) hb); clear HB; have HB := n0_; clear n0_; (try clear hb); (try clear hb2); (try clear hk); (try clear hi)) | (go_at_call 25; (with_reducible refine (op_Ends.calls k a0 7 t166 _ A18.out).mono ?_); rintro e w25 ⟨rfl, hb⟩; have n0_ := Aside0.mk (below_step (by repeat (first | (with_reducible first | exact HB.out | apply bA | apply bN | apply bD) | exact HB.out)) hb); clear HB; have HB := n0_; clear n0_; (try clear hb); (try clear hb2); (try clear hk); (try clear hi)))
        go_ret
        exact ⟨by first | rfl | (simp [errW_none, errW_some] <;> rfl) | (simp [*, errW_none, errW_some] <;> rfl), by repeat (first | (with_reducible first | exact HB.out | apply bA | apply bN | apply bD) | exact HB.out)⟩
       ·rw [if_neg c16] at H
        have c16b0 : decide (a1 ≤ 7) = false := decide_eq_false c16
        clear c16
        exact absurd ((Option.some.inj H).trans HR_.out) (by decide)
      ·rw [if_neg c15] at H
       have c15b0 : decide (1 ≤ a1) = false := decide_eq_false c15
       clear c15
       exact absurd ((Option.some.inj H).trans HR_.out) (by decide)
     ·replace c14 := Bool.eq_false_iff.mpr c14
      subst c14
      have H1 : ((op_Ends.f k a0 6).bind fun t167 => ((op_Ends.f k a0 7).bind fun t168 => (some (t167 == t168)))) = some r := by rw [if_neg (show ¬ (false = true) by decide)] at H; exact H
      clear H
      have H := H1
      clear H1
      replace H := Option.bind_eq_some_iff.mp H
      obtain ⟨t167, A260, H⟩ := H
      replace H : ((op_Ends.f k a0 7).bind fun t168 => (some (t167 == t168))) = some r := H
      have A26 := Aside0.mk A260
      clear A260
      replace H := Option.bind_eq_some_iff.mp H
      obtain ⟨t168, A270, H⟩ := H
      replace H : (some (t167 == t168)) = some r := H
      have A27 := Aside0.mk A270
      clear A270
      obtain rfl := Option.some.inj H
      go_enter Try.func5, Try.ntmps5
      go_wp2_with (first | ((with_reducible refine gate_callee (f := 14) rfl ?_); refine goesL_ (some 6) rfl rfl Try.func14 (by kernel_rfl) rfl #[] rfl (by (try simp only [List.map_toArray, List.map_cons, List.map_nil]); first | done | rfl | (simp only [List.length_drop, List.length_take]; rfl)) ?_; (with_reducible refine (sakialaw11_awake.calls k  true _ A3.out).mono ?_); rintro e w28 ⟨rfl, hb⟩; refine ⟨_, rfl, ?_⟩; have n0_ := Aside0.mk (below_step (by repeat (first | (with_reducible first | exact HB.out | apply bA | apply bN | apply bD) | exact HB.out)) hb); clear HB; have HB := n0_; clear n0_; (try clear hb); (try clear hb2); (try clear hk); (try clear hi)) | (go_at_call 25; (with_reducible refine (op_Ends.calls k a0 1 t159 _ A5.out).mono ?_); rintro e w29 ⟨rfl, hb⟩; have n0_ := Aside0.mk (below_step (by repeat (first | (with_reducible first | exact HB.out | apply bA | apply bN | apply bD) | exact HB.out)) hb); clear HB; have HB := n0_; clear n0_; (try clear hb); (try clear hb2); (try clear hk); (try clear hi)) | (go_at_call 15; (with_reducible refine (op_Check.calls k a0 t160 _ A6.out).mono ?_); rintro e w' ⟨rfl, ⟨nd, rfl⟩⟩) | (go_at_call 25; (with_reducible refine (op_Ends.calls k a0 0 false _ A8.out).mono ?_); rintro e w30 ⟨rfl, hb⟩; have n0_ := Aside0.mk (below_step (by repeat (first | (with_reducible first | exact HB.out | apply bA | apply bN | apply bD) | exact HB.out)) hb); clear HB; have HB := n0_; clear n0_; (try clear hb); (try clear hb2); (try clear hk); (try clear hi)) | (go_at_call 25; (with_reducible refine (op_Ends.calls k a0 5 t162 _ A10.out).mono ?_); rintro e w31 ⟨rfl, hb⟩; have n0_ := Aside0.mk (below_step (by repeat (first | (with_reducible first | exact HB.out | apply bA | apply bN | apply bD) | exact HB.out)) hb); clear HB; have HB := n0_; clear n0_; (try clear hb); (try clear hb2); (try clear hk); (try clear hi)) | (go_at_call 19; (with_reducible refine (op_Timed.calls a0 t163 _ A11.out).mono ?_); rintro e w' ⟨rfl, ⟨nd, rfl⟩⟩) | (go_at_call 25; (with_reducible refine (op_Ends.calls k a0 a1 false _ A13.out).mono ?_); rintro e w32 ⟨rfl, hb⟩; have n0_ := Aside0.mk (below_step (by repeat (first | (with_reducible first | exact HB.out | apply bA | apply bN | apply bD) | exact HB.out)) hb); clear HB; have HB := n0_; clear n0_; (try clear hb); (try clear hb2); (try clear hk); (try clear hi)) | (go_at_call 25; (with_reducible refine (op_Ends.calls k a0 6 t167 _ A26.out).mono ?_); rintro e w33 ⟨rfl, hb⟩; have n0_ := Aside0.mk (below_step (by repeat (first | (with_reducible first | exact HB.out | apply bA | apply bN | apply bD) | exact HB.out)) hb); clear HB; have HB := n0_; clear n0_; (try clear hb); (try clear hb2); (try clear hk); (try clear hi)) | (go_at_call 25; (with_reducible refine (op_Ends.calls k a0 7 t168 _ A27.out).mono ?_); rintro e w34 ⟨rfl, hb⟩; have n0_ := Aside0.mk (below_step (by repeat (first | (with_reducible first | exact HB.out | apply bA | apply bN | apply bD) | exact HB.out)) hb); clear HB; have HB := n0_; clear n0_; (try clear hb); (try clear hb2); (try clear hk); (try clear hi)))
      go_ret
      exact ⟨by first | rfl | (simp [errW_none, errW_some] <;> rfl) | (simp [*, errW_none, errW_some] <;> rfl), by repeat (first | (with_reducible first | exact HB.out | apply bA | apply bN | apply bD) | exact HB.out)⟩
    ·rw [if_neg c12] at H
     have c12b0 : (t162 == t163) = false := by simpa using c12
     (try (have c12b1 : decide (t162 = t163) = false := by simpa using c12))
     (try (have c12b2 : (t162 == t163) = false := by simpa using c12))
     (try (have c12b3 : ¬ (t162 = t163) := by simpa using c12))
     clear c12
     exact absurd ((Option.some.inj H).trans HR_.out) (by decide)
  ·rw [if_neg c7] at H
   have c7b0 : (t159 == t160) = false := by simpa using c7
   (try (have c7b1 : decide (t159 = t160) = false := by simpa using c7))
   (try (have c7b2 : (t159 == t160) = false := by simpa using c7))
   (try (have c7b3 : ¬ (t159 = t160) := by simpa using c7))
   clear c7
   exact absurd ((Option.some.inj H).trans HR_.out) (by decide)
 ·replace c4 := Bool.eq_false_iff.mpr c4
  subst c4
  have H1 : (some false) = some r := by rw [if_neg (show ¬ (false = true) by decide)] at H; exact H
  clear H
  have H := H1
  clear H1
  exact absurd ((Option.some.inj H).trans HR_.out) (by decide)

/-- THE ONE PURE STATEMENT of sakialaw11_OpEnds. -/
def sakialaw11_OpEnds.Pure : Prop := ∀ (a0 : Int) (a1 : Int), (Lit.int .i64 a0).wf = true → (Lit.int .i64 a1).wf = true → ∃ k, sakialaw11_OpEnds.f k a0 a1 = some true

/-! ### fifo_Sends: function 27 -/
def fifo_Sends.f (a0 : Int) : Option (Bool) := if a0 = 1 then (some true) else (if a0 = 2 then (some true) else (some (a0 == 3)))
set_option maxHeartbeats 8000000 in
set_option maxRecDepth 100000 in
theorem fifo_Sends.calls (a0 : Int) (r : Bool) (w : World) (h : fifo_Sends.f a0 = some r) :
  Calls Try.prog 27 #[.int .i64 a0] w fun e w' => e = .returned (.bool r) ∧ Drawn0 w w' := by
 have H : (if a0 = 1 then (some true) else (if a0 = 2 then (some true) else (some (a0 == 3)))) = some r := h
 clear h
 by_cases c2 : a0 = 1
 ·rw [if_pos c2] at H
  have c2b0 : (a0 == 1) = true := beq_iff_eq.mpr c2
  have c2b1 : (a0 != 1) = false := bne_eq_false_iff_eq.mpr c2
  clear c2
  obtain rfl := Option.some.inj H
  go_enter Try.func27, Try.ntmps27
  go_wp2
  go_ret
  exact ⟨by first | rfl | (simp; done) | (simp [*]; done), by repeat (first | exact Drawn0.refl _ | apply Drawn0.step)⟩
 ·rw [if_neg c2] at H
  have c2b0 : (a0 == 1) = false := beq_eq_false_iff_ne.mpr c2
  have c2b1 : (a0 != 1) = true := bne_iff_ne.mpr c2
  by_cases c3 : a0 = 2
  ·rw [if_pos c3] at H
   have c3b0 : (a0 == 2) = true := beq_iff_eq.mpr c3
   have c3b1 : (a0 != 2) = false := bne_eq_false_iff_eq.mpr c3
   clear c3
   obtain rfl := Option.some.inj H
   go_enter Try.func27, Try.ntmps27
   go_wp2
   go_ret
   exact ⟨by first | rfl | (simp; done) | (simp [*]; done), by repeat (first | exact Drawn0.refl _ | apply Drawn0.step)⟩
  ·rw [if_neg c3] at H
   have c3b0 : (a0 == 2) = false := beq_eq_false_iff_ne.mpr c3
   have c3b1 : (a0 != 2) = true := bne_iff_ne.mpr c3
   obtain rfl := Option.some.inj H
   go_enter Try.func27, Try.ntmps27
   go_wp2
   go_ret
   exact ⟨by first | rfl | (simp; done) | (simp [*]; done), by repeat (first | exact Drawn0.refl _ | apply Drawn0.step)⟩

/-! ### fifo_Recvs: function 28 -/
def fifo_Recvs.f (a0 : Int) : Option (Bool) := if a0 = 4 then (some true) else (if a0 = 5 then (some true) else (some (a0 == 6)))
set_option maxHeartbeats 8000000 in
set_option maxRecDepth 100000 in
theorem fifo_Recvs.calls (a0 : Int) (r : Bool) (w : World) (h : fifo_Recvs.f a0 = some r) :
  Calls Try.prog 28 #[.int .i64 a0] w fun e w' => e = .returned (.bool r) ∧ Drawn0 w w' := by
 have H : (if a0 = 4 then (some true) else (if a0 = 5 then (some true) else (some (a0 == 6)))) = some r := h
 clear h
 by_cases c2 : a0 = 4
 ·rw [if_pos c2] at H
  have c2b0 : (a0 == 4) = true := beq_iff_eq.mpr c2
  have c2b1 : (a0 != 4) = false := bne_eq_false_iff_eq.mpr c2
  clear c2
  obtain rfl := Option.some.inj H
  go_enter Try.func28, Try.ntmps28
  go_wp2
  go_ret
  exact ⟨by first | rfl | (simp; done) | (simp [*]; done), by repeat (first | exact Drawn0.refl _ | apply Drawn0.step)⟩
 ·rw [if_neg c2] at H
  have c2b0 : (a0 == 4) = false := beq_eq_false_iff_ne.mpr c2
  have c2b1 : (a0 != 4) = true := bne_iff_ne.mpr c2
  by_cases c3 : a0 = 5
  ·rw [if_pos c3] at H
   have c3b0 : (a0 == 5) = true := beq_iff_eq.mpr c3
   have c3b1 : (a0 != 5) = false := bne_eq_false_iff_eq.mpr c3
   clear c3
   obtain rfl := Option.some.inj H
   go_enter Try.func28, Try.ntmps28
   go_wp2
   go_ret
   exact ⟨by first | rfl | (simp; done) | (simp [*]; done), by repeat (first | exact Drawn0.refl _ | apply Drawn0.step)⟩
  ·rw [if_neg c3] at H
   have c3b0 : (a0 == 5) = false := beq_eq_false_iff_ne.mpr c3
   have c3b1 : (a0 != 5) = true := bne_iff_ne.mpr c3
   obtain rfl := Option.some.inj H
   go_enter Try.func28, Try.ntmps28
   go_wp2
   go_ret
   exact ⟨by first | rfl | (simp; done) | (simp [*]; done), by repeat (first | exact Drawn0.refl _ | apply Drawn0.step)⟩

end Go.Proofs.Ytlhaghkepnfajaa.PL
