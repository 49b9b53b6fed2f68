-- written by this repo's pp.py (the kit's print, turned by wip/patches.py)
import Derived.Test.YtlpeklhejjidfaaPLx0
import Derived.Test.YtlpeklhejjidfaaPLx3
namespace Go.Proofs.Ytlpeklhejjidfaa.PL
open Go.RowKit Go.Proofs.YtlpeklhejjidfaaW.PrintWords Go.Proofs.YtlpeklhejjidfaaW.PrintLast Go.Proofs.YtlpeklhejjidfaaW.PrintMore
attribute [local go_sem] max2_int min2_int max_two min_two max_three min_three max_four min_four   -- for this text's walks alone
set_option linter.unusedVariables false
set_option linter.unusedSimpArgs false

/-! ### pos_Ahead: function 24 -/
def pos_Ahead.f (a0 : Int) (a1 : Int) (a2 : Int) : Option (Bool) := (pos_is.f a0 a2).bind fun t110 => (if t110 = true then ((pos_is.f a1 a2).bind fun t111 => (if t111 = true then ((pos_Place.f a0 a2).bind fun t112 => ((pos_Place.f a1 a2).bind fun t113 => (if t112 = t113 then ((pos_Lap.f a0 a2).bind fun t114 => ((pos_Lap.f a1 a2).bind fun t115 => (some (decide (t114 < t115))))) else (some false)))) else (some false))) else (some false))
set_option maxHeartbeats 8000000 in
set_option maxRecDepth 100000 in
theorem pos_Ahead.calls (a0 : Int) (a1 : Int) (a2 : Int) (r : Bool) (w : World) (h : pos_Ahead.f a0 a1 a2 = some r) :
  Calls Try.prog 24 #[.int .i64 a0, .int .i64 a1, .int .i64 a2] w fun e w' => e = .returned (.bool r) ∧ Drawn0 w w' := by
 have H : ((pos_is.f a0 a2).bind fun t110 => (if t110 = true then ((pos_is.f a1 a2).bind fun t111 => (if t111 = true then ((pos_Place.f a0 a2).bind fun t112 => ((pos_Place.f a1 a2).bind fun t113 => (if t112 = t113 then ((pos_Lap.f a0 a2).bind fun t114 => ((pos_Lap.f a1 a2).bind fun t115 => (some (decide (t114 < t115))))) else (some false)))) else (some false))) else (some false))) = some r := h
 clear h
 replace H := Option.bind_eq_some_iff.mp H
 obtain ⟨t110, A40, H⟩ := H
 replace H : (if t110 = true then ((pos_is.f a1 a2).bind fun t111 => (if t111 = true then ((pos_Place.f a0 a2).bind fun t112 => ((pos_Place.f a1 a2).bind fun t113 => (if t112 = t113 then ((pos_Lap.f a0 a2).bind fun t114 => ((pos_Lap.f a1 a2).bind fun t115 => (some (decide (t114 < t115))))) else (some false)))) else (some false))) else (some false)) = some r := H
 have A4 := Aside0.mk A40
 clear A40
 by_cases c5 : t110 = true
 ·subst c5
  have H1 : ((pos_is.f a1 a2).bind fun t111 => (if t111 = true then ((pos_Place.f a0 a2).bind fun t112 => ((pos_Place.f a1 a2).bind fun t113 => (if t112 = t113 then ((pos_Lap.f a0 a2).bind fun t114 => ((pos_Lap.f a1 a2).bind fun t115 => (some (decide (t114 < t115))))) else (some false)))) else (some false))) = some r := by rw [if_pos rfl] at H; exact H
  clear H
  have H := H1
  clear H1
  replace H := Option.bind_eq_some_iff.mp H
  obtain ⟨t111, A60, H⟩ := H
  replace H : (if t111 = true then ((pos_Place.f a0 a2).bind fun t112 => ((pos_Place.f a1 a2).bind fun t113 => (if t112 = t113 then ((pos_Lap.f a0 a2).bind fun t114 => ((pos_Lap.f a1 a2).bind fun t115 => (some (decide (t114 < t115))))) else (some false)))) else (some false)) = some r := H
  have A6 := Aside0.mk A60
  clear A60
  by_cases c7 : t111 = true
  ·subst c7
   have H1 : ((pos_Place.f a0 a2).bind fun t112 => ((pos_Place.f a1 a2).bind fun t113 => (if t112 = t113 then ((pos_Lap.f a0 a2).bind fun t114 => ((pos_Lap.f a1 a2).bind fun t115 => (some (decide (t114 < t115))))) else (some false)))) = some r := by rw [if_pos rfl] at H; exact H
   clear H
   have H := H1
   clear H1
   replace H := Option.bind_eq_some_iff.mp H
   obtain ⟨t112, A80, H⟩ := H
   replace H : ((pos_Place.f a1 a2).bind fun t113 => (if t112 = t113 then ((pos_Lap.f a0 a2).bind fun t114 => ((pos_Lap.f a1 a2).bind fun t115 => (some (decide (t114 < t115))))) else (some false))) = some r := H
   have A8 := Aside0.mk A80
   clear A80
   replace H := Option.bind_eq_some_iff.mp H
   obtain ⟨t113, A90, H⟩ := H
   replace H : (if t112 = t113 then ((pos_Lap.f a0 a2).bind fun t114 => ((pos_Lap.f a1 a2).bind fun t115 => (some (decide (t114 < t115))))) else (some false)) = some r := H
   have A9 := Aside0.mk A90
   clear A90
   by_cases c10 : t112 = t113
   ·rw [if_pos c10] at H
    have c10b0 : (t112 == t113) = true := beq_iff_eq.mpr c10
    have c10b1 : (t112 != t113) = false := bne_eq_false_iff_eq.mpr c10
    clear c10
    replace H := Option.bind_eq_some_iff.mp H
    obtain ⟨t114, A110, H⟩ := H
    replace H : ((pos_Lap.f a1 a2).bind fun t115 => (some (decide (t114 < t115)))) = some r := H
    have A11 := Aside0.mk A110
    clear A110
    replace H := Option.bind_eq_some_iff.mp H
    obtain ⟨t115, A120, H⟩ := H
    replace H : (some (decide (t114 < t115))) = some r := H
    have A12 := Aside0.mk A120
    clear A120
    obtain rfl := Option.some.inj H
    go_enter Try.func24, Try.ntmps24
    go_wp2_with (first | ((with_reducible refine gate_callee (f := 41) rfl ?_); refine goesL_ (some 9) rfl rfl Try.func41 (by kernel_rfl) rfl #[.int .i64 a0, .int .i64 a2] rfl (by (try simp only [List.map_toArray, List.map_cons, List.map_nil]); first | done | rfl | (simp only [List.length_drop, List.length_take]; rfl)) ?_; (with_reducible refine (pos_is.calls a0 a2 true _ A4.out).mono ?_); rintro e w' ⟨rfl, ⟨nd, rfl⟩⟩; refine ⟨_, rfl, ?_⟩) | (go_at_call 41; (with_reducible refine (pos_is.calls a1 a2 true _ A6.out).mono ?_); rintro e w' ⟨rfl, ⟨nd, rfl⟩⟩) | (go_at_call 20; (with_reducible refine (pos_Place.calls a0 a2 t112 _ A8.out).mono ?_); rintro e w' ⟨rfl, ⟨nd, rfl⟩⟩) | (go_at_call 20; (with_reducible refine (pos_Place.calls a1 a2 t113 _ A9.out).mono ?_); rintro e w' ⟨rfl, ⟨nd, rfl⟩⟩) | (go_at_call 22; (with_reducible refine (pos_Lap.calls a0 a2 t114 _ A11.out).mono ?_); rintro e w' ⟨rfl, ⟨nd, rfl⟩⟩) | (go_at_call 22; (with_reducible refine (pos_Lap.calls a1 a2 t115 _ A12.out).mono ?_); rintro e w' ⟨rfl, ⟨nd, rfl⟩⟩))
    go_ret
    exact ⟨by first | rfl | (simp; done) | (simp [*]; done), by repeat (first | exact Drawn0.refl _ | apply Drawn0.step)⟩
   ·rw [if_neg c10] at H
    have c10b0 : (t112 == t113) = false := beq_eq_false_iff_ne.mpr c10
    have c10b1 : (t112 != t113) = true := bne_iff_ne.mpr c10
    obtain rfl := Option.some.inj H
    go_enter Try.func24, Try.ntmps24
    go_wp2_with (first | ((with_reducible refine gate_callee (f := 41) rfl ?_); refine goesL_ (some 9) rfl rfl Try.func41 (by kernel_rfl) rfl #[.int .i64 a0, .int .i64 a2] rfl (by (try simp only [List.map_toArray, List.map_cons, List.map_nil]); first | done | rfl | (simp only [List.length_drop, List.length_take]; rfl)) ?_; (with_reducible refine (pos_is.calls a0 a2 true _ A4.out).mono ?_); rintro e w' ⟨rfl, ⟨nd, rfl⟩⟩; refine ⟨_, rfl, ?_⟩) | (go_at_call 41; (with_reducible refine (pos_is.calls a1 a2 true _ A6.out).mono ?_); rintro e w' ⟨rfl, ⟨nd, rfl⟩⟩) | (go_at_call 20; (with_reducible refine (pos_Place.calls a0 a2 t112 _ A8.out).mono ?_); rintro e w' ⟨rfl, ⟨nd, rfl⟩⟩) | (go_at_call 20; (with_reducible refine (pos_Place.calls a1 a2 t113 _ A9.out).mono ?_); rintro e w' ⟨rfl, ⟨nd, rfl⟩⟩))
    go_ret
    exact ⟨by first | rfl | (simp; done) | (simp [*]; done), by repeat (first | exact Drawn0.refl _ | apply Drawn0.step)⟩
  ·replace c7 := Bool.eq_false_iff.mpr c7
   subst c7
   have H1 : (some false) = some r := by rw [if_neg (show ¬ (false = true) by decide)] at H; exact H
   clear H
   have H := H1
   clear H1
   obtain rfl := Option.some.inj H
   go_enter Try.func24, Try.ntmps24
   go_wp2_with (first | ((with_reducible refine gate_callee (f := 41) rfl ?_); refine goesL_ (some 9) rfl rfl Try.func41 (by kernel_rfl) rfl #[.int .i64 a0, .int .i64 a2] rfl (by (try simp only [List.map_toArray, List.map_cons, List.map_nil]); first | done | rfl | (simp only [List.length_drop, List.length_take]; rfl)) ?_; (with_reducible refine (pos_is.calls a0 a2 true _ A4.out).mono ?_); rintro e w' ⟨rfl, ⟨nd, rfl⟩⟩; refine ⟨_, rfl, ?_⟩) | (go_at_call 41; (with_reducible refine (pos_is.calls a1 a2 false _ A6.out).mono ?_); rintro e w' ⟨rfl, ⟨nd, rfl⟩⟩))
   go_ret
   exact ⟨by first | rfl | (simp; done) | (simp [*]; done), by repeat (first | exact Drawn0.refl _ | apply Drawn0.step)⟩
 ·replace c5 := Bool.eq_false_iff.mpr c5
  subst c5
  have H1 : (some false) = some r := by rw [if_neg (show ¬ (false = true) by decide)] at H; exact H
  clear H
  have H := H1
  clear H1
  obtain rfl := Option.some.inj H
  go_enter Try.func24, Try.ntmps24
  go_wp2_with (first | ((with_reducible refine gate_callee (f := 41) rfl ?_); refine goesL_ (some 9) rfl rfl Try.func41 (by kernel_rfl) rfl #[.int .i64 a0, .int .i64 a2] rfl (by (try simp only [List.map_toArray, List.map_cons, List.map_nil]); first | done | rfl | (simp only [List.length_drop, List.length_take]; rfl)) ?_; (with_reducible refine (pos_is.calls a0 a2 false _ A4.out).mono ?_); rintro e w' ⟨rfl, ⟨nd, rfl⟩⟩; refine ⟨_, rfl, ?_⟩))
  go_ret
  exact ⟨by first | rfl | (simp; done) | (simp [*]; done), by repeat (first | exact Drawn0.refl _ | apply Drawn0.step)⟩

/-! ### sakialaw01_awake: function 14 -/
def sakialaw01_awake.f (k : Nat)  : Option (Bool) := (pos_Check.f k 3 7 0 4).bind fun t116 => (if t116 = true then ((pos_Check.f k 3 8 0 4).bind fun t117 => (if t117 = true then (some false) else ((pos_Check.f k 3 2 0 4).bind fun t118 => (if t118 = true then (some false) else ((pos_Check.f k 0 0 3 4).bind fun t119 => (if t119 = true then (some false) else ((pos_Len.f k 3 7 0).bind fun t120 => (if t120 = 4 then ((pos_Len.f k 7 3 0).bind fun t121 => (if t121 = 0 then ((pos_Len.f k (-9223372036854775808) 9223372036854775807 0).bind fun t122 => (if t122 = 9223372036854775807 then ((pos_Full.f k 3 7 0 4).bind fun t123 => (if t123 = true then ((pos_Full.f k 3 7 0 5).bind fun t124 => (if t124 = true then (some false) else ((pos_Place.f 11 4).bind fun t125 => (if t125 = 3 then ((pos_Place.f (-1) 4).bind fun t126 => (if t126 = 0 then ((pos_Lap.f 11 4).bind fun t127 => (if t127 = 2 then ((pos_Lap.f 11 0).bind fun t128 => (if t128 = 0 then ((pos_Ahead.f 3 11 4).bind fun t129 => (if t129 = true then ((pos_Ahead.f 11 3 4).bind fun t130 => (if t130 = true then (some false) else ((pos_Ahead.f 3 10 4).bind fun t131 => (if t131 = true then (some false) else (some true))))) else (some false))) else (some false))) else (some false))) else (some false))) else (some false))))) else (some false))) else (some false))) else (some false))) else (some false))))))))) else (some false))
theorem sakialaw01_awake.mono : ∀ k, LeO (sakialaw01_awake.f k ) (sakialaw01_awake.f (k + 1) ) := by
 intro  k
 unfold sakialaw01_awake.f
 repeat' first
   | (with_reducible exact pos_Check.mono _ _ _ _ _)
   | (with_reducible exact pos_Full.mono _ _ _ _ _)
   | (with_reducible exact pos_Len.mono _ _ _ _)
   | (with_reducible exact LeO.refl _)
   | (with_reducible exact LeO.none _)
   | (with_reducible refine LeO.ite ?_ ?_)
   | (with_reducible refine LeO.bind ?_ (fun _ => ?_))
   | exact pos_Check.mono _ _ _ _ _
   | exact pos_Full.mono _ _ _ _ _
   | exact pos_Len.mono _ _ _ _
   | exact LeO.none _
   | refine LeO.ite ?_ ?_
   | refine LeO.bind ?_ (fun _ => ?_)
theorem sakialaw01_awake.eq_ : sakialaw01_awake.f 400 = some true := by decide +kernel
theorem sakialaw01_awake.up_ (a b : Nat) (r : Bool) (hab : a ≤ b) (h : sakialaw01_awake.f a = some r) : sakialaw01_awake.f b = some r := by
 induction hab with
 | refl => exact h
 | step _ ih => exact sakialaw01_awake.mono _ _ ih
theorem sakialaw01_awake.true_ (k : Nat) (r : Bool) (h : sakialaw01_awake.f k = some r) : r = true := by
 rcases Nat.le_total k 400 with hk | hk
 ·exact Option.some.inj ((sakialaw01_awake.up_ k 400 r hk h).symm.trans sakialaw01_awake.eq_)
 ·exact Option.some.inj (h.symm.trans (sakialaw01_awake.up_ 400 k true hk sakialaw01_awake.eq_))
set_option maxHeartbeats 8000000 in
set_option maxRecDepth 100000 in
theorem sakialaw01_awake.calls (k : Nat)  (r : Bool) (w : World) (h : sakialaw01_awake.f k  = some r) :
  Calls Try.prog 14 #[] w fun e w' => e = .returned (.bool r) ∧ Below w.heap.size w w' := by
 have hu23 := Try.underlying23
 have HB := Aside0.mk (Below.refl w.heap.size w)
 have HR_ := Aside0.mk (sakialaw01_awake.true_ k r h)
 have H : ((pos_Check.f k 3 7 0 4).bind fun t116 => (if t116 = true then ((pos_Check.f k 3 8 0 4).bind fun t117 => (if t117 = true then (some false) else ((pos_Check.f k 3 2 0 4).bind fun t118 => (if t118 = true then (some false) else ((pos_Check.f k 0 0 3 4).bind fun t119 => (if t119 = true then (some false) else ((pos_Len.f k 3 7 0).bind fun t120 => (if t120 = 4 then ((pos_Len.f k 7 3 0).bind fun t121 => (if t121 = 0 then ((pos_Len.f k (-9223372036854775808) 9223372036854775807 0).bind fun t122 => (if t122 = 9223372036854775807 then ((pos_Full.f k 3 7 0 4).bind fun t123 => (if t123 = true then ((pos_Full.f k 3 7 0 5).bind fun t124 => (if t124 = true then (some false) else ((pos_Place.f 11 4).bind fun t125 => (if t125 = 3 then ((pos_Place.f (-1) 4).bind fun t126 => (if t126 = 0 then ((pos_Lap.f 11 4).bind fun t127 => (if t127 = 2 then ((pos_Lap.f 11 0).bind fun t128 => (if t128 = 0 then ((pos_Ahead.f 3 11 4).bind fun t129 => (if t129 = true then ((pos_Ahead.f 11 3 4).bind fun t130 => (if t130 = true then (some false) else ((pos_Ahead.f 3 10 4).bind fun t131 => (if t131 = true then (some false) else (some true))))) else (some false))) else (some false))) else (some false))) else (some false))) else (some false))))) else (some false))) else (some false))) else (some false))) else (some false))))))))) else (some false))) = some r := h
 clear h
 replace H := Option.bind_eq_some_iff.mp H
 obtain ⟨t116, A10, H⟩ := H
 replace H : (if t116 = true then ((pos_Check.f k 3 8 0 4).bind fun t117 => (if t117 = true then (some false) else ((pos_Check.f k 3 2 0 4).bind fun t118 => (if t118 = true then (some false) else ((pos_Check.f k 0 0 3 4).bind fun t119 => (if t119 = true then (some false) else ((pos_Len.f k 3 7 0).bind fun t120 => (if t120 = 4 then ((pos_Len.f k 7 3 0).bind fun t121 => (if t121 = 0 then ((pos_Len.f k (-9223372036854775808) 9223372036854775807 0).bind fun t122 => (if t122 = 9223372036854775807 then ((pos_Full.f k 3 7 0 4).bind fun t123 => (if t123 = true then ((pos_Full.f k 3 7 0 5).bind fun t124 => (if t124 = true then (some false) else ((pos_Place.f 11 4).bind fun t125 => (if t125 = 3 then ((pos_Place.f (-1) 4).bind fun t126 => (if t126 = 0 then ((pos_Lap.f 11 4).bind fun t127 => (if t127 = 2 then ((pos_Lap.f 11 0).bind fun t128 => (if t128 = 0 then ((pos_Ahead.f 3 11 4).bind fun t129 => (if t129 = true then ((pos_Ahead.f 11 3 4).bind fun t130 => (if t130 = true then (some false) else ((pos_Ahead.f 3 10 4).bind fun t131 => (if t131 = true then (some false) else (some true))))) else (some false))) else (some false))) else (some false))) else (some false))) else (some false))))) else (some false))) else (some false))) else (some false))) else (some false))))))))) else (some false)) = some r := H
 have A1 := Aside0.mk A10
 clear A10
 by_cases c2 : t116 = true
 ·subst c2
  have H1 : ((pos_Check.f k 3 8 0 4).bind fun t117 => (if t117 = true then (some false) else ((pos_Check.f k 3 2 0 4).bind fun t118 => (if t118 = true then (some false) else ((pos_Check.f k 0 0 3 4).bind fun t119 => (if t119 = true then (some false) else ((pos_Len.f k 3 7 0).bind fun t120 => (if t120 = 4 then ((pos_Len.f k 7 3 0).bind fun t121 => (if t121 = 0 then ((pos_Len.f k (-9223372036854775808) 9223372036854775807 0).bind fun t122 => (if t122 = 9223372036854775807 then ((pos_Full.f k 3 7 0 4).bind fun t123 => (if t123 = true then ((pos_Full.f k 3 7 0 5).bind fun t124 => (if t124 = true then (some false) else ((pos_Place.f 11 4).bind fun t125 => (if t125 = 3 then ((pos_Place.f (-1) 4).bind fun t126 => (if t126 = 0 then ((pos_Lap.f 11 4).bind fun t127 => (if t127 = 2 then ((pos_Lap.f 11 0).bind fun t128 => (if t128 = 0 then ((pos_Ahead.f 3 11 4).bind fun t129 => (if t129 = true then ((pos_Ahead.f 11 3 4).bind fun t130 => (if t130 = true then (some false) else ((pos_Ahead.f 3 10 4).bind fun t131 => (if t131 = true then (some false) else (some true))))) else (some false))) else (some false))) else (some false))) else (some false))) else (some false))))) else (some false))) else (some false))) else (some false))) else (some false))))))))) = some r := by rw [if_pos rfl] at H; exact H
  clear H
  have H := H1
  clear H1
  replace H := Option.bind_eq_some_iff.mp H
  obtain ⟨t117, A30, H⟩ := H
  replace H : (if t117 = true then (some false) else ((pos_Check.f k 3 2 0 4).bind fun t118 => (if t118 = true then (some false) else ((pos_Check.f k 0 0 3 4).bind fun t119 => (if t119 = true then (some false) else ((pos_Len.f k 3 7 0).bind fun t120 => (if t120 = 4 then ((pos_Len.f k 7 3 0).bind fun t121 => (if t121 = 0 then ((pos_Len.f k (-9223372036854775808) 9223372036854775807 0).bind fun t122 => (if t122 = 9223372036854775807 then ((pos_Full.f k 3 7 0 4).bind fun t123 => (if t123 = true then ((pos_Full.f k 3 7 0 5).bind fun t124 => (if t124 = true then (some false) else ((pos_Place.f 11 4).bind fun t125 => (if t125 = 3 then ((pos_Place.f (-1) 4).bind fun t126 => (if t126 = 0 then ((pos_Lap.f 11 4).bind fun t127 => (if t127 = 2 then ((pos_Lap.f 11 0).bind fun t128 => (if t128 = 0 then ((pos_Ahead.f 3 11 4).bind fun t129 => (if t129 = true then ((pos_Ahead.f 11 3 4).bind fun t130 => (if t130 = true then (some false) else ((pos_Ahead.f 3 10 4).bind fun t131 => (if t131 = true then (some false) else (some true))))) else (some false))) else (some false))) else (some false))) else (some false))) else (some false))))) else (some false))) else (some false))) else (some false))) else (some false)))))))) = some r := H
  have A3 := Aside0.mk A30
  clear A30
  by_cases c4 : t117 = true
  ·subst c4
   have H1 : (some false) = some r := by rw [if_pos rfl] at H; exact H
   clear H
   have H := H1
   clear H1
   exact absurd ((Option.some.inj H).trans HR_.out) (by decide)
  ·replace c4 := Bool.eq_false_iff.mpr c4
   subst c4
   have H1 : ((pos_Check.f k 3 2 0 4).bind fun t118 => (if t118 = true then (some false) else ((pos_Check.f k 0 0 3 4).bind fun t119 => (if t119 = true then (some false) else ((pos_Len.f k 3 7 0).bind fun t120 => (if t120 = 4 then ((pos_Len.f k 7 3 0).bind fun t121 => (if t121 = 0 then ((pos_Len.f k (-9223372036854775808) 9223372036854775807 0).bind fun t122 => (if t122 = 9223372036854775807 then ((pos_Full.f k 3 7 0 4).bind fun t123 => (if t123 = true then ((pos_Full.f k 3 7 0 5).bind fun t124 => (if t124 = true then (some false) else ((pos_Place.f 11 4).bind fun t125 => (if t125 = 3 then ((pos_Place.f (-1) 4).bind fun t126 => (if t126 = 0 then ((pos_Lap.f 11 4).bind fun t127 => (if t127 = 2 then ((pos_Lap.f 11 0).bind fun t128 => (if t128 = 0 then ((pos_Ahead.f 3 11 4).bind fun t129 => (if t129 = true then ((pos_Ahead.f 11 3 4).bind fun t130 => (if t130 = true then (some false) else ((pos_Ahead.f 3 10 4).bind fun t131 => (if t131 = true then (some false) else (some true))))) else (some false))) else (some false))) else (some false))) else (some false))) else (some false))))) else (some false))) else (some false))) else (some false))) else (some false))))))) = some r := by rw [if_neg (show ¬ (false = true) by decide)] at H; exact H
   clear H
   have H := H1
   clear H1
   replace H := Option.bind_eq_some_iff.mp H
   obtain ⟨t118, A50, H⟩ := H
   replace H : (if t118 = true then (some false) else ((pos_Check.f k 0 0 3 4).bind fun t119 => (if t119 = true then (some false) else ((pos_Len.f k 3 7 0).bind fun t120 => (if t120 = 4 then ((pos_Len.f k 7 3 0).bind fun t121 => (if t121 = 0 then ((pos_Len.f k (-9223372036854775808) 9223372036854775807 0).bind fun t122 => (if t122 = 9223372036854775807 then ((pos_Full.f k 3 7 0 4).bind fun t123 => (if t123 = true then ((pos_Full.f k 3 7 0 5).bind fun t124 => (if t124 = true then (some false) else ((pos_Place.f 11 4).bind fun t125 => (if t125 = 3 then ((pos_Place.f (-1) 4).bind fun t126 => (if t126 = 0 then ((pos_Lap.f 11 4).bind fun t127 => (if t127 = 2 then ((pos_Lap.f 11 0).bind fun t128 => (if t128 = 0 then ((pos_Ahead.f 3 11 4).bind fun t129 => (if t129 = true then ((pos_Ahead.f 11 3 4).bind fun t130 => (if t130 = true then (some false) else ((pos_Ahead.f 3 10 4).bind fun t131 => (if t131 = true then (some false) else (some true))))) else (some false))) else (some false))) else (some false))) else (some false))) else (some false))))) else (some false))) else (some false))) else (some false))) else (some false)))))) = some r := H
   have A5 := Aside0.mk A50
   clear A50
   by_cases c6 : t118 = true
   ·subst c6
    have H1 : (some false) = some r := by rw [if_pos rfl] at H; exact H
    clear H
    have H := H1
    clear H1
    exact absurd ((Option.some.inj H).trans HR_.out) (by decide)
   ·replace c6 := Bool.eq_false_iff.mpr c6
    subst c6
    have H1 : ((pos_Check.f k 0 0 3 4).bind fun t119 => (if t119 = true then (some false) else ((pos_Len.f k 3 7 0).bind fun t120 => (if t120 = 4 then ((pos_Len.f k 7 3 0).bind fun t121 => (if t121 = 0 then ((pos_Len.f k (-9223372036854775808) 9223372036854775807 0).bind fun t122 => (if t122 = 9223372036854775807 then ((pos_Full.f k 3 7 0 4).bind fun t123 => (if t123 = true then ((pos_Full.f k 3 7 0 5).bind fun t124 => (if t124 = true then (some false) else ((pos_Place.f 11 4).bind fun t125 => (if t125 = 3 then ((pos_Place.f (-1) 4).bind fun t126 => (if t126 = 0 then ((pos_Lap.f 11 4).bind fun t127 => (if t127 = 2 then ((pos_Lap.f 11 0).bind fun t128 => (if t128 = 0 then ((pos_Ahead.f 3 11 4).bind fun t129 => (if t129 = true then ((pos_Ahead.f 11 3 4).bind fun t130 => (if t130 = true then (some false) else ((pos_Ahead.f 3 10 4).bind fun t131 => (if t131 = true then (some false) else (some true))))) else (some false))) else (some false))) else (some false))) else (some false))) else (some false))))) else (some false))) else (some false))) else (some false))) else (some false))))) = some r := by rw [if_neg (show ¬ (false = true) by decide)] at H; exact H
    clear H
    have H := H1
    clear H1
    replace H := Option.bind_eq_some_iff.mp H
    obtain ⟨t119, A70, H⟩ := H
    replace H : (if t119 = true then (some false) else ((pos_Len.f k 3 7 0).bind fun t120 => (if t120 = 4 then ((pos_Len.f k 7 3 0).bind fun t121 => (if t121 = 0 then ((pos_Len.f k (-9223372036854775808) 9223372036854775807 0).bind fun t122 => (if t122 = 9223372036854775807 then ((pos_Full.f k 3 7 0 4).bind fun t123 => (if t123 = true then ((pos_Full.f k 3 7 0 5).bind fun t124 => (if t124 = true then (some false) else ((pos_Place.f 11 4).bind fun t125 => (if t125 = 3 then ((pos_Place.f (-1) 4).bind fun t126 => (if t126 = 0 then ((pos_Lap.f 11 4).bind fun t127 => (if t127 = 2 then ((pos_Lap.f 11 0).bind fun t128 => (if t128 = 0 then ((pos_Ahead.f 3 11 4).bind fun t129 => (if t129 = true then ((pos_Ahead.f 11 3 4).bind fun t130 => (if t130 = true then (some false) else ((pos_Ahead.f 3 10 4).bind fun t131 => (if t131 = true then (some false) else (some true))))) else (some false))) else (some false))) else (some false))) else (some false))) else (some false))))) else (some false))) else (some false))) else (some false))) else (some false)))) = some r := H
    have A7 := Aside0.mk A70
    clear A70
    by_cases c8 : t119 = true
    ·subst c8
     have H1 : (some false) = some r := by rw [if_pos rfl] at H; exact H
     clear H
     have H := H1
     clear H1
     exact absurd ((Option.some.inj H).trans HR_.out) (by decide)
    ·replace c8 := Bool.eq_false_iff.mpr c8
     subst c8
     have H1 : ((pos_Len.f k 3 7 0).bind fun t120 => (if t120 = 4 then ((pos_Len.f k 7 3 0).bind fun t121 => (if t121 = 0 then ((pos_Len.f k (-9223372036854775808) 9223372036854775807 0).bind fun t122 => (if t122 = 9223372036854775807 then ((pos_Full.f k 3 7 0 4).bind fun t123 => (if t123 = true then ((pos_Full.f k 3 7 0 5).bind fun t124 => (if t124 = true then (some false) else ((pos_Place.f 11 4).bind fun t125 => (if t125 = 3 then ((pos_Place.f (-1) 4).bind fun t126 => (if t126 = 0 then ((pos_Lap.f 11 4).bind fun t127 => (if t127 = 2 then ((pos_Lap.f 11 0).bind fun t128 => (if t128 = 0 then ((pos_Ahead.f 3 11 4).bind fun t129 => (if t129 = true then ((pos_Ahead.f 11 3 4).bind fun t130 => (if t130 = true then (some false) else ((pos_Ahead.f 3 10 4).bind fun t131 => (if t131 = true then (some false) else (some true))))) else (some false))) else (some false))) else (some false))) else (some false))) else (some false))))) else (some false))) else (some false))) else (some false))) else (some false))) = some r := by rw [if_neg (show ¬ (false = true) by decide)] at H; exact H
     clear H
     have H := H1
     clear H1
     replace H := Option.bind_eq_some_iff.mp H
     obtain ⟨t120, A90, H⟩ := H
     replace H : (if t120 = 4 then ((pos_Len.f k 7 3 0).bind fun t121 => (if t121 = 0 then ((pos_Len.f k (-9223372036854775808) 9223372036854775807 0).bind fun t122 => (if t122 = 9223372036854775807 then ((pos_Full.f k 3 7 0 4).bind fun t123 => (if t123 = true then ((pos_Full.f k 3 7 0 5).bind fun t124 => (if t124 = true then (some false) else ((pos_Place.f 11 4).bind fun t125 => (if t125 = 3 then ((pos_Place.f (-1) 4).bind fun t126 => (if t126 = 0 then ((pos_Lap.f 11 4).bind fun t127 => (if t127 = 2 then ((pos_Lap.f 11 0).bind fun t128 => (if t128 = 0 then ((pos_Ahead.f 3 11 4).bind fun t129 => (if t129 = true then ((pos_Ahead.f 11 3 4).bind fun t130 => (if t130 = true then (some false) else ((pos_Ahead.f 3 10 4).bind fun t131 => (if t131 = true then (some false) else (some true))))) else (some false))) else (some false))) else (some false))) else (some false))) else (some false))))) else (some false))) else (some false))) else (some false))) else (some false)) = some r := H
     have A9 := Aside0.mk A90
     clear A90
     by_cases c10 : t120 = 4
     ·rw [if_pos c10] at H
      have c10b0 : (t120 == 4) = true := beq_iff_eq.mpr c10
      have c10b1 : (t120 != 4) = false := bne_eq_false_iff_eq.mpr c10
      clear c10
      replace H := Option.bind_eq_some_iff.mp H
      obtain ⟨t121, A110, H⟩ := H
      replace H : (if t121 = 0 then ((pos_Len.f k (-9223372036854775808) 9223372036854775807 0).bind fun t122 => (if t122 = 9223372036854775807 then ((pos_Full.f k 3 7 0 4).bind fun t123 => (if t123 = true then ((pos_Full.f k 3 7 0 5).bind fun t124 => (if t124 = true then (some false) else ((pos_Place.f 11 4).bind fun t125 => (if t125 = 3 then ((pos_Place.f (-1) 4).bind fun t126 => (if t126 = 0 then ((pos_Lap.f 11 4).bind fun t127 => (if t127 = 2 then ((pos_Lap.f 11 0).bind fun t128 => (if t128 = 0 then ((pos_Ahead.f 3 11 4).bind fun t129 => (if t129 = true then ((pos_Ahead.f 11 3 4).bind fun t130 => (if t130 = true then (some false) else ((pos_Ahead.f 3 10 4).bind fun t131 => (if t131 = true then (some false) else (some true))))) else (some false))) else (some false))) else (some false))) else (some false))) else (some false))))) else (some false))) else (some false))) else (some false)) = some r := H
      have A11 := Aside0.mk A110
      clear A110
      by_cases c12 : t121 = 0
      ·rw [if_pos c12] at H
       have c12b0 : (t121 == 0) = true := beq_iff_eq.mpr c12
       have c12b1 : (t121 != 0) = false := bne_eq_false_iff_eq.mpr c12
       clear c12
       replace H := Option.bind_eq_some_iff.mp H
       obtain ⟨t122, A130, H⟩ := H
       replace H : (if t122 = 9223372036854775807 then ((pos_Full.f k 3 7 0 4).bind fun t123 => (if t123 = true then ((pos_Full.f k 3 7 0 5).bind fun t124 => (if t124 = true then (some false) else ((pos_Place.f 11 4).bind fun t125 => (if t125 = 3 then ((pos_Place.f (-1) 4).bind fun t126 => (if t126 = 0 then ((pos_Lap.f 11 4).bind fun t127 => (if t127 = 2 then ((pos_Lap.f 11 0).bind fun t128 => (if t128 = 0 then ((pos_Ahead.f 3 11 4).bind fun t129 => (if t129 = true then ((pos_Ahead.f 11 3 4).bind fun t130 => (if t130 = true then (some false) else ((pos_Ahead.f 3 10 4).bind fun t131 => (if t131 = true then (some false) else (some true))))) else (some false))) else (some false))) else (some false))) else (some false))) else (some false))))) else (some false))) else (some false)) = some r := H
       have A13 := Aside0.mk A130
       clear A130
       by_cases c14 : t122 = 9223372036854775807
       ·rw [if_pos c14] at H
        have c14b0 : (t122 == 9223372036854775807) = true := beq_iff_eq.mpr c14
        have c14b1 : (t122 != 9223372036854775807) = false := bne_eq_false_iff_eq.mpr c14
        clear c14
        replace H := Option.bind_eq_some_iff.mp H
        obtain ⟨t123, A150, H⟩ := H
        replace H : (if t123 = true then ((pos_Full.f k 3 7 0 5).bind fun t124 => (if t124 = true then (some false) else ((pos_Place.f 11 4).bind fun t125 => (if t125 = 3 then ((pos_Place.f (-1) 4).bind fun t126 => (if t126 = 0 then ((pos_Lap.f 11 4).bind fun t127 => (if t127 = 2 then ((pos_Lap.f 11 0).bind fun t128 => (if t128 = 0 then ((pos_Ahead.f 3 11 4).bind fun t129 => (if t129 = true then ((pos_Ahead.f 11 3 4).bind fun t130 => (if t130 = true then (some false) else ((pos_Ahead.f 3 10 4).bind fun t131 => (if t131 = true then (some false) else (some true))))) else (some false))) else (some false))) else (some false))) else (some false))) else (some false))))) else (some false)) = some r := H
        have A15 := Aside0.mk A150
        clear A150
        by_cases c16 : t123 = true
        ·subst c16
         have H1 : ((pos_Full.f k 3 7 0 5).bind fun t124 => (if t124 = true then (some false) else ((pos_Place.f 11 4).bind fun t125 => (if t125 = 3 then ((pos_Place.f (-1) 4).bind fun t126 => (if t126 = 0 then ((pos_Lap.f 11 4).bind fun t127 => (if t127 = 2 then ((pos_Lap.f 11 0).bind fun t128 => (if t128 = 0 then ((pos_Ahead.f 3 11 4).bind fun t129 => (if t129 = true then ((pos_Ahead.f 11 3 4).bind fun t130 => (if t130 = true then (some false) else ((pos_Ahead.f 3 10 4).bind fun t131 => (if t131 = true then (some false) else (some true))))) else (some false))) else (some false))) else (some false))) else (some false))) else (some false))))) = some r := by rw [if_pos rfl] at H; exact H
         clear H
         have H := H1
         clear H1
         replace H := Option.bind_eq_some_iff.mp H
         obtain ⟨t124, A170, H⟩ := H
         replace H : (if t124 = true then (some false) else ((pos_Place.f 11 4).bind fun t125 => (if t125 = 3 then ((pos_Place.f (-1) 4).bind fun t126 => (if t126 = 0 then ((pos_Lap.f 11 4).bind fun t127 => (if t127 = 2 then ((pos_Lap.f 11 0).bind fun t128 => (if t128 = 0 then ((pos_Ahead.f 3 11 4).bind fun t129 => (if t129 = true then ((pos_Ahead.f 11 3 4).bind fun t130 => (if t130 = true then (some false) else ((pos_Ahead.f 3 10 4).bind fun t131 => (if t131 = true then (some false) else (some true))))) else (some false))) else (some false))) else (some false))) else (some false))) else (some false)))) = some r := H
         have A17 := Aside0.mk A170
         clear A170
         by_cases c18 : t124 = true
         ·subst c18
          have H1 : (some false) = some r := by rw [if_pos rfl] at H; exact H
          clear H
          have H := H1
          clear H1
          exact absurd ((Option.some.inj H).trans HR_.out) (by decide)
         ·replace c18 := Bool.eq_false_iff.mpr c18
          subst c18
          have H1 : ((pos_Place.f 11 4).bind fun t125 => (if t125 = 3 then ((pos_Place.f (-1) 4).bind fun t126 => (if t126 = 0 then ((pos_Lap.f 11 4).bind fun t127 => (if t127 = 2 then ((pos_Lap.f 11 0).bind fun t128 => (if t128 = 0 then ((pos_Ahead.f 3 11 4).bind fun t129 => (if t129 = true then ((pos_Ahead.f 11 3 4).bind fun t130 => (if t130 = true then (some false) else ((pos_Ahead.f 3 10 4).bind fun t131 => (if t131 = true then (some false) else (some true))))) else (some false))) else (some false))) else (some false))) else (some false))) else (some false))) = some r := by rw [if_neg (show ¬ (false = true) by decide)] at H; exact H
          clear H
          have H := H1
          clear H1
          replace H := Option.bind_eq_some_iff.mp H
          obtain ⟨t125, A190, H⟩ := H
          replace H : (if t125 = 3 then ((pos_Place.f (-1) 4).bind fun t126 => (if t126 = 0 then ((pos_Lap.f 11 4).bind fun t127 => (if t127 = 2 then ((pos_Lap.f 11 0).bind fun t128 => (if t128 = 0 then ((pos_Ahead.f 3 11 4).bind fun t129 => (if t129 = true then ((pos_Ahead.f 11 3 4).bind fun t130 => (if t130 = true then (some false) else ((pos_Ahead.f 3 10 4).bind fun t131 => (if t131 = true then (some false) else (some true))))) else (some false))) else (some false))) else (some false))) else (some false))) else (some false)) = some r := H
          have A19 := Aside0.mk A190
          clear A190
          by_cases c20 : t125 = 3
          ·rw [if_pos c20] at H
           have c20b0 : (t125 == 3) = true := beq_iff_eq.mpr c20
           have c20b1 : (t125 != 3) = false := bne_eq_false_iff_eq.mpr c20
           clear c20
           replace H := Option.bind_eq_some_iff.mp H
           obtain ⟨t126, A210, H⟩ := H
           replace H : (if t126 = 0 then ((pos_Lap.f 11 4).bind fun t127 => (if t127 = 2 then ((pos_Lap.f 11 0).bind fun t128 => (if t128 = 0 then ((pos_Ahead.f 3 11 4).bind fun t129 => (if t129 = true then ((pos_Ahead.f 11 3 4).bind fun t130 => (if t130 = true then (some false) else ((pos_Ahead.f 3 10 4).bind fun t131 => (if t131 = true then (some false) else (some true))))) else (some false))) else (some false))) else (some false))) else (some false)) = some r := H
           have A21 := Aside0.mk A210
           clear A210
           by_cases c22 : t126 = 0
           ·rw [if_pos c22] at H
            have c22b0 : (t126 == 0) = true := beq_iff_eq.mpr c22
            have c22b1 : (t126 != 0) = false := bne_eq_false_iff_eq.mpr c22
            clear c22
            replace H := Option.bind_eq_some_iff.mp H
            obtain ⟨t127, A230, H⟩ := H
            replace H : (if t127 = 2 then ((pos_Lap.f 11 0).bind fun t128 => (if t128 = 0 then ((pos_Ahead.f 3 11 4).bind fun t129 => (if t129 = true then ((pos_Ahead.f 11 3 4).bind fun t130 => (if t130 = true then (some false) else ((pos_Ahead.f 3 10 4).bind fun t131 => (if t131 = true then (some false) else (some true))))) else (some false))) else (some false))) else (some false)) = some r := H
            have A23 := Aside0.mk A230
            clear A230
            by_cases c24 : t127 = 2
            ·rw [if_pos c24] at H
             have c24b0 : (t127 == 2) = true := beq_iff_eq.mpr c24
             have c24b1 : (t127 != 2) = false := bne_eq_false_iff_eq.mpr c24
             clear c24
             replace H := Option.bind_eq_some_iff.mp H
             obtain ⟨t128, A250, H⟩ := H
             replace H : (if t128 = 0 then ((pos_Ahead.f 3 11 4).bind fun t129 => (if t129 = true then ((pos_Ahead.f 11 3 4).bind fun t130 => (if t130 = true then (some false) else ((pos_Ahead.f 3 10 4).bind fun t131 => (if t131 = true then (some false) else (some true))))) else (some false))) else (some false)) = some r := H
             have A25 := Aside0.mk A250
             clear A250
             by_cases c26 : t128 = 0
             ·rw [if_pos c26] at H
              have c26b0 : (t128 == 0) = true := beq_iff_eq.mpr c26
              have c26b1 : (t128 != 0) = false := bne_eq_false_iff_eq.mpr c26
              clear c26
              replace H := Option.bind_eq_some_iff.mp H
              obtain ⟨t129, A270, H⟩ := H
              replace H : (if t129 = true then ((pos_Ahead.f 11 3 4).bind fun t130 => (if t130 = true then (some false) else ((pos_Ahead.f 3 10 4).bind fun t131 => (if t131 = true then (some false) else (some true))))) else (some false)) = some r := H
              have A27 := Aside0.mk A270
              clear A270
              by_cases c28 : t129 = true
              ·subst c28
               have H1 : ((pos_Ahead.f 11 3 4).bind fun t130 => (if t130 = true then (some false) else ((pos_Ahead.f 3 10 4).bind fun t131 => (if t131 = true then (some false) else (some true))))) = some r := by rw [if_pos rfl] at H; exact H
               clear H
               have H := H1
               clear H1
               replace H := Option.bind_eq_some_iff.mp H
               obtain ⟨t130, A290, H⟩ := H
               replace H : (if t130 = true then (some false) else ((pos_Ahead.f 3 10 4).bind fun t131 => (if t131 = true then (some false) else (some true)))) = some r := H
               have A29 := Aside0.mk A290
               clear A290
               by_cases c30 : t130 = true
               ·subst c30
                have H1 : (some false) = some r := by rw [if_pos rfl] at H; exact H
                clear H
                have H := H1
                clear H1
                exact absurd ((Option.some.inj H).trans HR_.out) (by decide)
               ·replace c30 := Bool.eq_false_iff.mpr c30
                subst c30
                have H1 : ((pos_Ahead.f 3 10 4).bind fun t131 => (if t131 = true then (some false) else (some true))) = some r := by rw [if_neg (show ¬ (false = true) by decide)] at H; exact H
                clear H
                have H := H1
                clear H1
                replace H := Option.bind_eq_some_iff.mp H
                obtain ⟨t131, A310, H⟩ := H
                replace H : (if t131 = true then (some false) else (some true)) = some r := H
                have A31 := Aside0.mk A310
                clear A310
                by_cases c32 : t131 = true
                ·subst c32
                 have H1 : (some false) = some r := by rw [if_pos rfl] at H; exact H
                 clear H
                 have H := H1
                 clear H1
                 exact absurd ((Option.some.inj H).trans HR_.out) (by decide)
                ·replace c32 := Bool.eq_false_iff.mpr c32
                 subst c32
                 have H1 : (some true) = some r := by rw [if_neg (show ¬ (false = true) by decide)] at H; exact H
                 clear H
                 have H := H1
                 clear H1
                 obtain rfl := Option.some.inj H
                 go_enter Try.func14, Try.ntmps14
                 (try simp only [List.append_eq, List.cons_append, List.nil_append])
                 go_wp2_with (first | ((with_reducible refine gate_callee (f := 15) rfl ?_); refine goesL_ (some 2) rfl rfl Try.func15 (by kernel_rfl) rfl #[.agg #[.int .i64 3, .int .i64 7, .int .i64 0], .int .i64 4] rfl (by (try simp only [List.map_toArray, List.map_cons, List.map_nil]); first | done | rfl | (simp only [List.length_drop, List.length_take]; rfl)) ?_; (with_reducible refine (pos_Check.calls k 3 7 0 4 true _ A1.out).mono ?_); rintro e w33 ⟨rfl, hb⟩; refine ⟨_, rfl, ?_⟩; have n0_ := Aside0.mk (below_step (by repeat (first | (with_reducible first | exact HB.out | apply bA | apply bN | apply bD) | exact HB.out)) hb); clear HB; have HB := n0_; clear n0_; (try clear hb); (try clear hb2); (try clear hk); (try clear hi)) | (go_at_call 15; (with_reducible refine (pos_Check.calls k 3 8 0 4 false _ A3.out).mono ?_); rintro e w34 ⟨rfl, hb⟩; have n0_ := Aside0.mk (below_step (by repeat (first | (with_reducible first | exact HB.out | apply bA | apply bN | apply bD) | exact HB.out)) hb); clear HB; have HB := n0_; clear n0_; (try clear hb); (try clear hb2); (try clear hk); (try clear hi)) | (go_at_call 15; (with_reducible refine (pos_Check.calls k 3 2 0 4 false _ A5.out).mono ?_); rintro e w35 ⟨rfl, hb⟩; have n0_ := Aside0.mk (below_step (by repeat (first | (with_reducible first | exact HB.out | apply bA | apply bN | apply bD) | exact HB.out)) hb); clear HB; have HB := n0_; clear n0_; (try clear hb); (try clear hb2); (try clear hk); (try clear hi)) | (go_at_call 15; (with_reducible refine (pos_Check.calls k 0 0 3 4 false _ A7.out).mono ?_); rintro e w36 ⟨rfl, hb⟩; have n0_ := Aside0.mk (below_step (by repeat (first | (with_reducible first | exact HB.out | apply bA | apply bN | apply bD) | exact HB.out)) hb); clear HB; have HB := n0_; clear n0_; (try clear hb); (try clear hb2); (try clear hk); (try clear hi)) | (go_at_call 17; (with_reducible refine (pos_Len.calls k 3 7 0 t120 _ A9.out).mono ?_); rintro e w37 ⟨rfl, hb⟩; have n0_ := Aside0.mk (below_step (by repeat (first | (with_reducible first | exact HB.out | apply bA | apply bN | apply bD) | exact HB.out)) hb); clear HB; have HB := n0_; clear n0_; (try clear hb); (try clear hb2); (try clear hk); (try clear hi)) | (go_at_call 17; (with_reducible refine (pos_Len.calls k 7 3 0 t121 _ A11.out).mono ?_); rintro e w38 ⟨rfl, hb⟩; have n0_ := Aside0.mk (below_step (by repeat (first | (with_reducible first | exact HB.out | apply bA | apply bN | apply bD) | exact HB.out)) hb); clear HB; have HB := n0_; clear n0_; (try clear hb); (try clear hb2); (try clear hk); (try clear hi)) | (go_at_call 17; (with_reducible refine (pos_Len.calls k (-9223372036854775808) 9223372036854775807 0 t122 _ A13.out).mono ?_); rintro e w39 ⟨rfl, hb⟩; have n0_ := Aside0.mk (below_step (by repeat (first | (with_reducible first | exact HB.out | apply bA | apply bN | apply bD) | exact HB.out)) hb); clear HB; have HB := n0_; clear n0_; (try clear hb); (try clear hb2); (try clear hk); (try clear hi)) | (go_at_call 19; (with_reducible refine (pos_Full.calls k 3 7 0 4 true _ A15.out).mono ?_); rintro e w40 ⟨rfl, hb⟩; have n0_ := Aside0.mk (below_step (by repeat (first | (with_reducible first | exact HB.out | apply bA | apply bN | apply bD) | exact HB.out)) hb); clear HB; have HB := n0_; clear n0_; (try clear hb); (try clear hb2); (try clear hk); (try clear hi)) | (go_at_call 19; (with_reducible refine (pos_Full.calls k 3 7 0 5 false _ A17.out).mono ?_); rintro e w41 ⟨rfl, hb⟩; have n0_ := Aside0.mk (below_step (by repeat (first | (with_reducible first | exact HB.out | apply bA | apply bN | apply bD) | exact HB.out)) hb); clear HB; have HB := n0_; clear n0_; (try clear hb); (try clear hb2); (try clear hk); (try clear hi)) | (go_at_call 20; (with_reducible refine (pos_Place.calls 11 4 t125 _ A19.out).mono ?_); rintro e w' ⟨rfl, ⟨nd, rfl⟩⟩) | (go_at_call 20; (with_reducible refine (pos_Place.calls (-1) 4 t126 _ A21.out).mono ?_); rintro e w' ⟨rfl, ⟨nd, rfl⟩⟩) | (go_at_call 22; (with_reducible refine (pos_Lap.calls 11 4 t127 _ A23.out).mono ?_); rintro e w' ⟨rfl, ⟨nd, rfl⟩⟩) | (go_at_call 22; (with_reducible refine (pos_Lap.calls 11 0 t128 _ A25.out).mono ?_); rintro e w' ⟨rfl, ⟨nd, rfl⟩⟩) | (go_at_call 24; (with_reducible refine (pos_Ahead.calls 3 11 4 true _ A27.out).mono ?_); rintro e w' ⟨rfl, ⟨nd, rfl⟩⟩) | (go_at_call 24; (with_reducible refine (pos_Ahead.calls 11 3 4 false _ A29.out).mono ?_); rintro e w' ⟨rfl, ⟨nd, rfl⟩⟩) | (go_at_call 24; (with_reducible refine (pos_Ahead.calls 3 10 4 false _ A31.out).mono ?_); rintro e w' ⟨rfl, ⟨nd, rfl⟩⟩))
                 go_ret
                 exact ⟨by first | rfl | (simp [errW_none, errW_some] <;> rfl) | (simp [*, errW_none, errW_some] <;> rfl), by repeat (first | (with_reducible first | exact HB.out | apply bA | apply bN | apply bD) | exact HB.out)⟩
              ·replace c28 := Bool.eq_false_iff.mpr c28
               subst c28
               have H1 : (some false) = some r := by rw [if_neg (show ¬ (false = true) by decide)] at H; exact H
               clear H
               have H := H1
               clear H1
               exact absurd ((Option.some.inj H).trans HR_.out) (by decide)
             ·rw [if_neg c26] at H
              have c26b0 : (t128 == 0) = false := beq_eq_false_iff_ne.mpr c26
              have c26b1 : (t128 != 0) = true := bne_iff_ne.mpr c26
              exact absurd ((Option.some.inj H).trans HR_.out) (by decide)
            ·rw [if_neg c24] at H
             have c24b0 : (t127 == 2) = false := beq_eq_false_iff_ne.mpr c24
             have c24b1 : (t127 != 2) = true := bne_iff_ne.mpr c24
             exact absurd ((Option.some.inj H).trans HR_.out) (by decide)
           ·rw [if_neg c22] at H
            have c22b0 : (t126 == 0) = false := beq_eq_false_iff_ne.mpr c22
            have c22b1 : (t126 != 0) = true := bne_iff_ne.mpr c22
            exact absurd ((Option.some.inj H).trans HR_.out) (by decide)
          ·rw [if_neg c20] at H
           have c20b0 : (t125 == 3) = false := beq_eq_false_iff_ne.mpr c20
           have c20b1 : (t125 != 3) = true := bne_iff_ne.mpr c20
           exact absurd ((Option.some.inj H).trans HR_.out) (by decide)
        ·replace c16 := Bool.eq_false_iff.mpr c16
         subst c16
         have H1 : (some false) = some r := by rw [if_neg (show ¬ (false = true) by decide)] at H; exact H
         clear H
         have H := H1
         clear H1
         exact absurd ((Option.some.inj H).trans HR_.out) (by decide)
       ·rw [if_neg c14] at H
        have c14b0 : (t122 == 9223372036854775807) = false := beq_eq_false_iff_ne.mpr c14
        have c14b1 : (t122 != 9223372036854775807) = true := bne_iff_ne.mpr c14
        exact absurd ((Option.some.inj H).trans HR_.out) (by decide)
      ·rw [if_neg c12] at H
       have c12b0 : (t121 == 0) = false := beq_eq_false_iff_ne.mpr c12
       have c12b1 : (t121 != 0) = true := bne_iff_ne.mpr c12
       exact absurd ((Option.some.inj H).trans HR_.out) (by decide)
     ·rw [if_neg c10] at H
      have c10b0 : (t120 == 4) = false := beq_eq_false_iff_ne.mpr c10
      have c10b1 : (t120 != 4) = true := bne_iff_ne.mpr c10
      exact absurd ((Option.some.inj H).trans HR_.out) (by decide)
 ·replace c2 := Bool.eq_false_iff.mpr c2
  subst c2
  have H1 : (some false) = some r := by rw [if_neg (show ¬ (false = true) by decide)] at H; exact H
  clear H
  have H := H1
  clear H1
  exact absurd ((Option.some.inj H).trans HR_.out) (by decide)

end Go.Proofs.Ytlpeklhejjidfaa.PL
