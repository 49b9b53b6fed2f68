-- written by this repo's pp.py (the kit's print, turned by wip/patches.py)
import Derived.Test.YtlhaghkepnfajaaPLx0
namespace Go.Proofs.Ytlhaghkepnfajaa.PL
open Go.RowKit Go.Proofs.YtlhaghkepnfajaaW.PrintWords Go.Proofs.YtlhaghkepnfajaaW.PrintLast Go.Proofs.YtlhaghkepnfajaaW.PrintMore
attribute [local go_sem] max2_int min2_int max_two min_two max_three min_three max_four min_four   -- for this text's walks alone
set_option linter.unusedVariables false
set_option linter.unusedSimpArgs false

/-! ### sakiaref11_Ends: function 26 -/
def sakiaref11_Ends.f (a0 : Int) (a1 : Int) : Option (Bool) := if a1 = 1 then (if a0 ≥ 1 then (some (decide (a0 ≤ 8))) else (some false)) else (if a1 = 2 then (some (a0 == 2)) else (if a1 = 3 then (if a0 ≥ 1 then (some (decide (a0 ≤ 3))) else (some false)) else (if a1 = 4 then (some (a0 == 5)) else (if a1 = 5 then (if a0 = 3 then (some true) else (some (a0 == 6))) else (if a1 = 6 then (if a0 ≥ 1 then (some (decide (a0 ≤ 6))) else (some false)) else (if a1 = 7 then (if a0 ≥ 1 then (some (decide (a0 ≤ 6))) else (some false)) else (some false)))))))
set_option maxHeartbeats 8000000 in
set_option maxRecDepth 100000 in
theorem sakiaref11_Ends.calls (a0 : Int) (a1 : Int) (r : Bool) (w : World) (h : sakiaref11_Ends.f a0 a1 = some r) :
  Calls Try.prog 26 #[.int .i64 a0, .int .i64 a1] w fun e w' => e = .returned (.bool r) ∧ Drawn0 w w' := by
 have H : (if a1 = 1 then (if a0 ≥ 1 then (some (decide (a0 ≤ 8))) else (some false)) else (if a1 = 2 then (some (a0 == 2)) else (if a1 = 3 then (if a0 ≥ 1 then (some (decide (a0 ≤ 3))) else (some false)) else (if a1 = 4 then (some (a0 == 5)) else (if a1 = 5 then (if a0 = 3 then (some true) else (some (a0 == 6))) else (if a1 = 6 then (if a0 ≥ 1 then (some (decide (a0 ≤ 6))) else (some false)) else (if a1 = 7 then (if a0 ≥ 1 then (some (decide (a0 ≤ 6))) else (some false)) else (some false)))))))) = some r := h
 clear h
 by_cases c3 : a1 = 1
 ·rw [if_pos c3] at H
  have c3b0 : (a1 == 1) = true := beq_iff_eq.mpr c3
  have c3b1 : (a1 != 1) = false := bne_eq_false_iff_eq.mpr c3
  clear c3
  by_cases c4 : a0 ≥ 1
  ·rw [if_pos c4] at H
   have c4b0 : decide (1 ≤ a0) = true := decide_eq_true c4
   clear c4
   obtain rfl := Option.some.inj H
   go_enter Try.func26, Try.ntmps26
   go_wp2
   go_ret
   exact ⟨by first | rfl | (simp; done) | (simp [*]; done), by repeat (first | exact Drawn0.refl _ | apply Drawn0.step)⟩
  ·rw [if_neg c4] at H
   have c4b0 : decide (1 ≤ a0) = false := decide_eq_false c4
   clear c4
   obtain rfl := Option.some.inj H
   go_enter Try.func26, Try.ntmps26
   go_wp2
   go_ret
   exact ⟨by first | rfl | (simp; done) | (simp [*]; done), by repeat (first | exact Drawn0.refl _ | apply Drawn0.step)⟩
 ·rw [if_neg c3] at H
  have c3b0 : (a1 == 1) = false := beq_eq_false_iff_ne.mpr c3
  have c3b1 : (a1 != 1) = true := bne_iff_ne.mpr c3
  by_cases c5 : a1 = 2
  ·rw [if_pos c5] at H
   have c5b0 : (a1 == 2) = true := beq_iff_eq.mpr c5
   have c5b1 : (a1 != 2) = false := bne_eq_false_iff_eq.mpr c5
   clear c5
   obtain rfl := Option.some.inj H
   go_enter Try.func26, Try.ntmps26
   go_wp2
   go_ret
   exact ⟨by first | rfl | (simp; done) | (simp [*]; done), by repeat (first | exact Drawn0.refl _ | apply Drawn0.step)⟩
  ·rw [if_neg c5] at H
   have c5b0 : (a1 == 2) = false := beq_eq_false_iff_ne.mpr c5
   have c5b1 : (a1 != 2) = true := bne_iff_ne.mpr c5
   by_cases c6 : a1 = 3
   ·rw [if_pos c6] at H
    have c6b0 : (a1 == 3) = true := beq_iff_eq.mpr c6
    have c6b1 : (a1 != 3) = false := bne_eq_false_iff_eq.mpr c6
    clear c6
    by_cases c7 : a0 ≥ 1
    ·rw [if_pos c7] at H
     have c7b0 : decide (1 ≤ a0) = true := decide_eq_true c7
     clear c7
     obtain rfl := Option.some.inj H
     go_enter Try.func26, Try.ntmps26
     go_wp2
     go_ret
     exact ⟨by first | rfl | (simp; done) | (simp [*]; done), by repeat (first | exact Drawn0.refl _ | apply Drawn0.step)⟩
    ·rw [if_neg c7] at H
     have c7b0 : decide (1 ≤ a0) = false := decide_eq_false c7
     clear c7
     obtain rfl := Option.some.inj H
     go_enter Try.func26, Try.ntmps26
     go_wp2
     go_ret
     exact ⟨by first | rfl | (simp; done) | (simp [*]; done), by repeat (first | exact Drawn0.refl _ | apply Drawn0.step)⟩
   ·rw [if_neg c6] at H
    have c6b0 : (a1 == 3) = false := beq_eq_false_iff_ne.mpr c6
    have c6b1 : (a1 != 3) = true := bne_iff_ne.mpr c6
    by_cases c8 : a1 = 4
    ·rw [if_pos c8] at H
     have c8b0 : (a1 == 4) = true := beq_iff_eq.mpr c8
     have c8b1 : (a1 != 4) = false := bne_eq_false_iff_eq.mpr c8
     clear c8
     obtain rfl := Option.some.inj H
     go_enter Try.func26, Try.ntmps26
     go_wp2
     go_ret
     exact ⟨by first | rfl | (simp; done) | (simp [*]; done), by repeat (first | exact Drawn0.refl _ | apply Drawn0.step)⟩
    ·rw [if_neg c8] at H
     have c8b0 : (a1 == 4) = false := beq_eq_false_iff_ne.mpr c8
     have c8b1 : (a1 != 4) = true := bne_iff_ne.mpr c8
     by_cases c9 : a1 = 5
     ·rw [if_pos c9] at H
      have c9b0 : (a1 == 5) = true := beq_iff_eq.mpr c9
      have c9b1 : (a1 != 5) = false := bne_eq_false_iff_eq.mpr c9
      clear c9
      by_cases c10 : a0 = 3
      ·rw [if_pos c10] at H
       have c10b0 : (a0 == 3) = true := beq_iff_eq.mpr c10
       have c10b1 : (a0 != 3) = false := bne_eq_false_iff_eq.mpr c10
       clear c10
       obtain rfl := Option.some.inj H
       go_enter Try.func26, Try.ntmps26
       go_wp2
       go_ret
       exact ⟨by first | rfl | (simp; done) | (simp [*]; done), by repeat (first | exact Drawn0.refl _ | apply Drawn0.step)⟩
      ·rw [if_neg c10] at H
       have c10b0 : (a0 == 3) = false := beq_eq_false_iff_ne.mpr c10
       have c10b1 : (a0 != 3) = true := bne_iff_ne.mpr c10
       obtain rfl := Option.some.inj H
       go_enter Try.func26, Try.ntmps26
       go_wp2
       go_ret
       exact ⟨by first | rfl | (simp; done) | (simp [*]; done), by repeat (first | exact Drawn0.refl _ | apply Drawn0.step)⟩
     ·rw [if_neg c9] at H
      have c9b0 : (a1 == 5) = false := beq_eq_false_iff_ne.mpr c9
      have c9b1 : (a1 != 5) = true := bne_iff_ne.mpr c9
      by_cases c11 : a1 = 6
      ·rw [if_pos c11] at H
       have c11b0 : (a1 == 6) = true := beq_iff_eq.mpr c11
       have c11b1 : (a1 != 6) = false := bne_eq_false_iff_eq.mpr c11
       clear c11
       by_cases c12 : a0 ≥ 1
       ·rw [if_pos c12] at H
        have c12b0 : decide (1 ≤ a0) = true := decide_eq_true c12
        clear c12
        obtain rfl := Option.some.inj H
        go_enter Try.func26, Try.ntmps26
        go_wp2
        go_ret
        exact ⟨by first | rfl | (simp; done) | (simp [*]; done), by repeat (first | exact Drawn0.refl _ | apply Drawn0.step)⟩
       ·rw [if_neg c12] at H
        have c12b0 : decide (1 ≤ a0) = false := decide_eq_false c12
        clear c12
        obtain rfl := Option.some.inj H
        go_enter Try.func26, Try.ntmps26
        go_wp2
        go_ret
        exact ⟨by first | rfl | (simp; done) | (simp [*]; done), by repeat (first | exact Drawn0.refl _ | apply Drawn0.step)⟩
      ·rw [if_neg c11] at H
       have c11b0 : (a1 == 6) = false := beq_eq_false_iff_ne.mpr c11
       have c11b1 : (a1 != 6) = true := bne_iff_ne.mpr c11
       by_cases c13 : a1 = 7
       ·rw [if_pos c13] at H
        have c13b0 : (a1 == 7) = true := beq_iff_eq.mpr c13
        have c13b1 : (a1 != 7) = false := bne_eq_false_iff_eq.mpr c13
        clear c13
        by_cases c14 : a0 ≥ 1
        ·rw [if_pos c14] at H
         have c14b0 : decide (1 ≤ a0) = true := decide_eq_true c14
         clear c14
         obtain rfl := Option.some.inj H
         go_enter Try.func26, Try.ntmps26
         go_wp2
         go_ret
         exact ⟨by first | rfl | (simp; done) | (simp [*]; done), by repeat (first | exact Drawn0.refl _ | apply Drawn0.step)⟩
        ·rw [if_neg c14] at H
         have c14b0 : decide (1 ≤ a0) = false := decide_eq_false c14
         clear c14
         obtain rfl := Option.some.inj H
         go_enter Try.func26, Try.ntmps26
         go_wp2
         go_ret
         exact ⟨by first | rfl | (simp; done) | (simp [*]; done), by repeat (first | exact Drawn0.refl _ | apply Drawn0.step)⟩
       ·rw [if_neg c13] at H
        have c13b0 : (a1 == 7) = false := beq_eq_false_iff_ne.mpr c13
        have c13b1 : (a1 != 7) = true := bne_iff_ne.mpr c13
        obtain rfl := Option.some.inj H
        go_enter Try.func26, Try.ntmps26
        go_wp2
        go_ret
        exact ⟨by first | rfl | (simp; done) | (simp [*]; done), by repeat (first | exact Drawn0.refl _ | apply Drawn0.step)⟩

end Go.Proofs.Ytlhaghkepnfajaa.PL
