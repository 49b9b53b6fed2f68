-- written by this repo's pp.py (the kit's print, turned by wip/patches.py)
import Derived.Test.YtlhaghkepnfajaaPLx0
import Derived.Test.YtlhaghkepnfajaaPLx2
import Derived.Test.YtlhaghkepnfajaaPLx5
import Derived.Test.YtlhaghkepnfajaaPLx10
namespace Go.Proofs.Ytlhaghkepnfajaa.PL
open Go.RowKit Go.Proofs.YtlhaghkepnfajaaW.PrintWords Go.Proofs.YtlhaghkepnfajaaW.PrintLast Go.Proofs.YtlhaghkepnfajaaW.PrintMore
attribute [local go_sem] max2_int min2_int max_two min_two max_three min_three max_four min_four   -- for this text's walks alone
set_option linter.unusedVariables false
set_option linter.unusedSimpArgs false

/-! ### sakialaw11_OpSides: function 6 -/
def sakialaw11_OpSides.f (k : Nat) (a0 : Int) : Option (Bool) := (sakialaw11_awake.f k).bind fun t169 => ((op_Side.f k a0).bind fun t170 => (if t169 = true then ((fifo_Sends.f a0).bind fun t171 => (if ((t170 == 1) == t171) = true then ((fifo_Recvs.f a0).bind fun t172 => (if ((t170 == 2) == t172) = true then ((op_Check.f k a0).bind fun t173 => (if (t173 == (t170 != 0)) = true then ((op_Timed.f a0).bind fun t174 => (if t174 = true then ((op_Once.f a0).bind fun t175 => (if t175 = true then (some false) else (if t170 = 1 then (some true) else (some (t170 == 2))))) else ((op_Once.f a0).bind fun t176 => (if t176 = true then (if t170 = 1 then (some true) else (some (t170 == 2))) else (some true))))) else (some false))) else (some false))) else (some false))) else (some false)))
theorem sakialaw11_OpSides.mono : ∀ a0 k, LeO (sakialaw11_OpSides.f k a0) (sakialaw11_OpSides.f (k + 1) a0) := by
 intro a0 k
 unfold sakialaw11_OpSides.f
 repeat' first
   | (with_reducible exact op_Check.mono _ _)
   | (with_reducible exact op_Side.mono _ _)
   | (with_reducible exact sakialaw11_awake.mono _)
   | (with_reducible exact LeO.refl _)
   | (with_reducible exact LeO.none _)
   | (with_reducible refine LeO.ite ?_ ?_)
   | (with_reducible refine LeO.bind ?_ (fun _ => ?_))
   | exact op_Check.mono _ _
   | exact op_Side.mono _ _
   | exact sakialaw11_awake.mono _
   | exact LeO.none _
   | refine LeO.ite ?_ ?_
   | refine LeO.bind ?_ (fun _ => ?_)
set_option maxHeartbeats 8000000 in
set_option maxRecDepth 100000 in
theorem sakialaw11_OpSides.calls (k : Nat) (a0 : Int) (r : Bool) (w : World) (hr_ : r = true) (h : sakialaw11_OpSides.f k a0 = some r) :
  Calls Try.prog 6 #[.int .i64 a0] w fun e w' => e = .returned (.bool r) ∧ Below w.heap.size w w' := by
 have HB := Aside0.mk (Below.refl w.heap.size w)
 have HR_ := Aside0.mk hr_
 clear hr_
 have H : ((sakialaw11_awake.f k).bind fun t169 => ((op_Side.f k a0).bind fun t170 => (if t169 = true then ((fifo_Sends.f a0).bind fun t171 => (if ((t170 == 1) == t171) = true then ((fifo_Recvs.f a0).bind fun t172 => (if ((t170 == 2) == t172) = true then ((op_Check.f k a0).bind fun t173 => (if (t173 == (t170 != 0)) = true then ((op_Timed.f a0).bind fun t174 => (if t174 = true then ((op_Once.f a0).bind fun t175 => (if t175 = true then (some false) else (if t170 = 1 then (some true) else (some (t170 == 2))))) else ((op_Once.f a0).bind fun t176 => (if t176 = true then (if t170 = 1 then (some true) else (some (t170 == 2))) else (some true))))) else (some false))) else (some false))) else (some false))) else (some false)))) = some r := h
 clear h
 replace H := Option.bind_eq_some_iff.mp H
 obtain ⟨t169, A20, H⟩ := H
 replace H : ((op_Side.f k a0).bind fun t170 => (if t169 = true then ((fifo_Sends.f a0).bind fun t171 => (if ((t170 == 1) == t171) = true then ((fifo_Recvs.f a0).bind fun t172 => (if ((t170 == 2) == t172) = true then ((op_Check.f k a0).bind fun t173 => (if (t173 == (t170 != 0)) = true then ((op_Timed.f a0).bind fun t174 => (if t174 = true then ((op_Once.f a0).bind fun t175 => (if t175 = true then (some false) else (if t170 = 1 then (some true) else (some (t170 == 2))))) else ((op_Once.f a0).bind fun t176 => (if t176 = true then (if t170 = 1 then (some true) else (some (t170 == 2))) else (some true))))) else (some false))) else (some false))) else (some false))) else (some false))) = some r := H
 have A2 := Aside0.mk A20
 clear A20
 replace H := Option.bind_eq_some_iff.mp H
 obtain ⟨t170, A30, H⟩ := H
 replace H : (if t169 = true then ((fifo_Sends.f a0).bind fun t171 => (if ((t170 == 1) == t171) = true then ((fifo_Recvs.f a0).bind fun t172 => (if ((t170 == 2) == t172) = true then ((op_Check.f k a0).bind fun t173 => (if (t173 == (t170 != 0)) = true then ((op_Timed.f a0).bind fun t174 => (if t174 = true then ((op_Once.f a0).bind fun t175 => (if t175 = true then (some false) else (if t170 = 1 then (some true) else (some (t170 == 2))))) else ((op_Once.f a0).bind fun t176 => (if t176 = true then (if t170 = 1 then (some true) else (some (t170 == 2))) else (some true))))) else (some false))) else (some false))) else (some false))) else (some false)) = some r := H
 have A3 := Aside0.mk A30
 clear A30
 by_cases c4 : t169 = true
 ·subst c4
  have H1 : ((fifo_Sends.f a0).bind fun t171 => (if ((t170 == 1) == t171) = true then ((fifo_Recvs.f a0).bind fun t172 => (if ((t170 == 2) == t172) = true then ((op_Check.f k a0).bind fun t173 => (if (t173 == (t170 != 0)) = true then ((op_Timed.f a0).bind fun t174 => (if t174 = true then ((op_Once.f a0).bind fun t175 => (if t175 = true then (some false) else (if t170 = 1 then (some true) else (some (t170 == 2))))) else ((op_Once.f a0).bind fun t176 => (if t176 = true then (if t170 = 1 then (some true) else (some (t170 == 2))) else (some true))))) else (some false))) else (some false))) else (some false))) = some r := by rw [if_pos rfl] at H; exact H
  clear H
  have H := H1
  clear H1
  replace H := Option.bind_eq_some_iff.mp H
  obtain ⟨t171, A50, H⟩ := H
  replace H : (if ((t170 == 1) == t171) = true then ((fifo_Recvs.f a0).bind fun t172 => (if ((t170 == 2) == t172) = true then ((op_Check.f k a0).bind fun t173 => (if (t173 == (t170 != 0)) = true then ((op_Timed.f a0).bind fun t174 => (if t174 = true then ((op_Once.f a0).bind fun t175 => (if t175 = true then (some false) else (if t170 = 1 then (some true) else (some (t170 == 2))))) else ((op_Once.f a0).bind fun t176 => (if t176 = true then (if t170 = 1 then (some true) else (some (t170 == 2))) else (some true))))) else (some false))) else (some false))) else (some false)) = some r := H
  have A5 := Aside0.mk A50
  clear A50
  by_cases c6 : ((t170 == 1) == t171) = true
  ·rw [if_pos c6] at H
   have c6b0 : ((t170 == 1) == t171) = true := c6
   (try (have c6b1 : decide ((t170 == 1) = t171) = true := by simpa using c6))
   (try (have c6b2 : ((t170 == 1) == t171) = true := by simpa using c6))
   clear c6
   replace H := Option.bind_eq_some_iff.mp H
   obtain ⟨t172, A70, H⟩ := H
   replace H : (if ((t170 == 2) == t172) = true then ((op_Check.f k a0).bind fun t173 => (if (t173 == (t170 != 0)) = true then ((op_Timed.f a0).bind fun t174 => (if t174 = true then ((op_Once.f a0).bind fun t175 => (if t175 = true then (some false) else (if t170 = 1 then (some true) else (some (t170 == 2))))) else ((op_Once.f a0).bind fun t176 => (if t176 = true then (if t170 = 1 then (some true) else (some (t170 == 2))) else (some true))))) else (some false))) else (some false)) = some r := H
   have A7 := Aside0.mk A70
   clear A70
   by_cases c8 : ((t170 == 2) == t172) = true
   ·rw [if_pos c8] at H
    have c8b0 : ((t170 == 2) == t172) = true := c8
    (try (have c8b1 : decide ((t170 == 2) = t172) = true := by simpa using c8))
    (try (have c8b2 : ((t170 == 2) == t172) = true := by simpa using c8))
    clear c8
    replace H := Option.bind_eq_some_iff.mp H
    obtain ⟨t173, A90, H⟩ := H
    replace H : (if (t173 == (t170 != 0)) = true then ((op_Timed.f a0).bind fun t174 => (if t174 = true then ((op_Once.f a0).bind fun t175 => (if t175 = true then (some false) else (if t170 = 1 then (some true) else (some (t170 == 2))))) else ((op_Once.f a0).bind fun t176 => (if t176 = true then (if t170 = 1 then (some true) else (some (t170 == 2))) else (some true))))) else (some false)) = some r := H
    have A9 := Aside0.mk A90
    clear A90
    by_cases c10 : (t173 == (t170 != 0)) = true
    ·rw [if_pos c10] at H
     have c10b0 : (t173 == (t170 != 0)) = true := c10
     (try (have c10b1 : decide (t173 = (t170 != 0)) = true := by simpa using c10))
     (try (have c10b2 : (t173 == (t170 != 0)) = true := by simpa using c10))
     clear c10
     replace H := Option.bind_eq_some_iff.mp H
     obtain ⟨t174, A110, H⟩ := H
     replace H : (if t174 = true then ((op_Once.f a0).bind fun t175 => (if t175 = true then (some false) else (if t170 = 1 then (some true) else (some (t170 == 2))))) else ((op_Once.f a0).bind fun t176 => (if t176 = true then (if t170 = 1 then (some true) else (some (t170 == 2))) else (some true)))) = some r := H
     have A11 := Aside0.mk A110
     clear A110
     by_cases c12 : t174 = true
     ·subst c12
      have H1 : ((op_Once.f a0).bind fun t175 => (if t175 = true then (some false) else (if t170 = 1 then (some true) else (some (t170 == 2))))) = some r := by rw [if_pos rfl] at H; exact H
      clear H
      have H := H1
      clear H1
      replace H := Option.bind_eq_some_iff.mp H
      obtain ⟨t175, A130, H⟩ := H
      replace H : (if t175 = true then (some false) else (if t170 = 1 then (some true) else (some (t170 == 2)))) = some r := H
      have A13 := Aside0.mk A130
      clear A130
      by_cases c14 : t175 = true
      ·subst c14
       have H1 : (some false) = some r := by rw [if_pos rfl] at H; exact H
       clear H
       have H := H1
       clear H1
       exact absurd ((Option.some.inj H).trans HR_.out) (by decide)
      ·replace c14 := Bool.eq_false_iff.mpr c14
       subst c14
       have H1 : (if t170 = 1 then (some true) else (some (t170 == 2))) = some r := by rw [if_neg (show ¬ (false = true) by decide)] at H; exact H
       clear H
       have H := H1
       clear H1
       by_cases c15 : t170 = 1
       ·rw [if_pos c15] at H
        have c15b0 : (t170 == 1) = true := beq_iff_eq.mpr c15
        have c15b1 : (t170 != 1) = false := bne_eq_false_iff_eq.mpr c15
        clear c15
        (try (have c6b0zc15b0 := c6b0; rw [c15b0] at c6b0zc15b0; simp only [beq_true, beq_false, Bool.not_eq_true', Bool.not_eq_false', Bool.true_beq, Bool.false_beq] at c6b0zc15b0))
        (try (have c6b2zc15b0 := c6b2; rw [c15b0] at c6b2zc15b0; simp only [beq_true, beq_false, Bool.not_eq_true', Bool.not_eq_false', Bool.true_beq, Bool.false_beq] at c6b2zc15b0))
        obtain rfl := Option.some.inj H
        go_enter Try.func6, Try.ntmps6
        go_wp2_with (first | ((with_reducible refine gate_callee (f := 14) rfl ?_); refine goesL_ (some 5) rfl rfl Try.func14 (by kernel_rfl) rfl #[] rfl (by (try simp only [List.map_toArray, List.map_cons, List.map_nil]); first | done | rfl | (simp only [List.length_drop, List.length_take]; rfl)) ?_; (with_reducible refine (sakialaw11_awake.calls k  true _ A2.out).mono ?_); rintro e w16 ⟨rfl, hb⟩; refine ⟨_, rfl, ?_⟩; have n0_ := Aside0.mk (below_step (by repeat (first | (with_reducible first | exact HB.out | apply bA | apply bN | apply bD) | exact HB.out)) hb); clear HB; have HB := n0_; clear n0_; (try clear hb); (try clear hb2); (try clear hk); (try clear hi)) | ((with_reducible refine gate_callee (f := 17) rfl ?_); refine goesL_ (some 7) rfl rfl Try.func17 (by kernel_rfl) rfl #[.int .i64 a0] rfl (by (try simp only [List.map_toArray, List.map_cons, List.map_nil]); first | done | rfl | (simp only [List.length_drop, List.length_take]; rfl)) ?_; (with_reducible refine (op_Side.calls k a0 t170 _ A3.out).mono ?_); rintro e w' ⟨rfl, ⟨nd, rfl⟩⟩; refine ⟨_, rfl, ?_⟩) | (go_at_call 27; (with_reducible refine (fifo_Sends.calls a0 t171 _ A5.out).mono ?_); rintro e w' ⟨rfl, ⟨nd, rfl⟩⟩) | (go_at_call 28; (with_reducible refine (fifo_Recvs.calls a0 t172 _ A7.out).mono ?_); rintro e w' ⟨rfl, ⟨nd, rfl⟩⟩) | (go_at_call 15; (with_reducible refine (op_Check.calls k a0 t173 _ A9.out).mono ?_); rintro e w' ⟨rfl, ⟨nd, rfl⟩⟩) | (go_at_call 19; (with_reducible refine (op_Timed.calls a0 true _ A11.out).mono ?_); rintro e w' ⟨rfl, ⟨nd, rfl⟩⟩) | (go_at_call 21; (with_reducible refine (op_Once.calls a0 false _ A13.out).mono ?_); rintro e w' ⟨rfl, ⟨nd, rfl⟩⟩))
        go_ret
        exact ⟨by first | rfl | (simp [errW_none, errW_some] <;> rfl) | (simp [*, errW_none, errW_some] <;> rfl), by repeat (first | (with_reducible first | exact HB.out | apply bA | apply bN | apply bD) | exact HB.out)⟩
       ·rw [if_neg c15] at H
        have c15b0 : (t170 == 1) = false := beq_eq_false_iff_ne.mpr c15
        have c15b1 : (t170 != 1) = true := bne_iff_ne.mpr c15
        (try (have c6b0zc15b0 := c6b0; rw [c15b0] at c6b0zc15b0; simp only [beq_true, beq_false, Bool.not_eq_true', Bool.not_eq_false', Bool.true_beq, Bool.false_beq] at c6b0zc15b0))
        (try (have c6b2zc15b0 := c6b2; rw [c15b0] at c6b2zc15b0; simp only [beq_true, beq_false, Bool.not_eq_true', Bool.not_eq_false', Bool.true_beq, Bool.false_beq] at c6b2zc15b0))
        obtain rfl := Option.some.inj H
        go_enter Try.func6, Try.ntmps6
        go_wp2_with (first | ((with_reducible refine gate_callee (f := 14) rfl ?_); refine goesL_ (some 5) rfl rfl Try.func14 (by kernel_rfl) rfl #[] rfl (by (try simp only [List.map_toArray, List.map_cons, List.map_nil]); first | done | rfl | (simp only [List.length_drop, List.length_take]; rfl)) ?_; (with_reducible refine (sakialaw11_awake.calls k  true _ A2.out).mono ?_); rintro e w17 ⟨rfl, hb⟩; refine ⟨_, rfl, ?_⟩; have n0_ := Aside0.mk (below_step (by repeat (first | (with_reducible first | exact HB.out | apply bA | apply bN | apply bD) | exact HB.out)) hb); clear HB; have HB := n0_; clear n0_; (try clear hb); (try clear hb2); (try clear hk); (try clear hi)) | ((with_reducible refine gate_callee (f := 17) rfl ?_); refine goesL_ (some 7) rfl rfl Try.func17 (by kernel_rfl) rfl #[.int .i64 a0] rfl (by (try simp only [List.map_toArray, List.map_cons, List.map_nil]); first | done | rfl | (simp only [List.length_drop, List.length_take]; rfl)) ?_; (with_reducible refine (op_Side.calls k a0 t170 _ A3.out).mono ?_); rintro e w' ⟨rfl, ⟨nd, rfl⟩⟩; refine ⟨_, rfl, ?_⟩) | (go_at_call 27; (with_reducible refine (fifo_Sends.calls a0 t171 _ A5.out).mono ?_); rintro e w' ⟨rfl, ⟨nd, rfl⟩⟩) | (go_at_call 28; (with_reducible refine (fifo_Recvs.calls a0 t172 _ A7.out).mono ?_); rintro e w' ⟨rfl, ⟨nd, rfl⟩⟩) | (go_at_call 15; (with_reducible refine (op_Check.calls k a0 t173 _ A9.out).mono ?_); rintro e w' ⟨rfl, ⟨nd, rfl⟩⟩) | (go_at_call 19; (with_reducible refine (op_Timed.calls a0 true _ A11.out).mono ?_); rintro e w' ⟨rfl, ⟨nd, rfl⟩⟩) | (go_at_call 21; (with_reducible refine (op_Once.calls a0 false _ A13.out).mono ?_); rintro e w' ⟨rfl, ⟨nd, rfl⟩⟩))
        go_ret
        exact ⟨by first | rfl | (simp [errW_none, errW_some] <;> rfl) | (simp [*, errW_none, errW_some] <;> rfl), by repeat (first | (with_reducible first | exact HB.out | apply bA | apply bN | apply bD) | exact HB.out)⟩
     ·replace c12 := Bool.eq_false_iff.mpr c12
      subst c12
      have H1 : ((op_Once.f a0).bind fun t176 => (if t176 = true then (if t170 = 1 then (some true) else (some (t170 == 2))) else (some true))) = some r := by rw [if_neg (show ¬ (false = true) by decide)] at H; exact H
      clear H
      have H := H1
      clear H1
      replace H := Option.bind_eq_some_iff.mp H
      obtain ⟨t176, A180, H⟩ := H
      replace H : (if t176 = true then (if t170 = 1 then (some true) else (some (t170 == 2))) else (some true)) = some r := H
      have A18 := Aside0.mk A180
      clear A180
      by_cases c19 : t176 = true
      ·subst c19
       have H1 : (if t170 = 1 then (some true) else (some (t170 == 2))) = some r := by rw [if_pos rfl] at H; exact H
       clear H
       have H := H1
       clear H1
       by_cases c20 : t170 = 1
       ·rw [if_pos c20] at H
        have c20b0 : (t170 == 1) = true := beq_iff_eq.mpr c20
        have c20b1 : (t170 != 1) = false := bne_eq_false_iff_eq.mpr c20
        clear c20
        (try (have c6b0zc20b0 := c6b0; rw [c20b0] at c6b0zc20b0; simp only [beq_true, beq_false, Bool.not_eq_true', Bool.not_eq_false', Bool.true_beq, Bool.false_beq] at c6b0zc20b0))
        (try (have c6b2zc20b0 := c6b2; rw [c20b0] at c6b2zc20b0; simp only [beq_true, beq_false, Bool.not_eq_true', Bool.not_eq_false', Bool.true_beq, Bool.false_beq] at c6b2zc20b0))
        obtain rfl := Option.some.inj H
        go_enter Try.func6, Try.ntmps6
        go_wp2_with (first | ((with_reducible refine gate_callee (f := 14) rfl ?_); refine goesL_ (some 5) rfl rfl Try.func14 (by kernel_rfl) rfl #[] rfl (by (try simp only [List.map_toArray, List.map_cons, List.map_nil]); first | done | rfl | (simp only [List.length_drop, List.length_take]; rfl)) ?_; (with_reducible refine (sakialaw11_awake.calls k  true _ A2.out).mono ?_); rintro e w21 ⟨rfl, hb⟩; refine ⟨_, rfl, ?_⟩; have n0_ := Aside0.mk (below_step (by repeat (first | (with_reducible first | exact HB.out | apply bA | apply bN | apply bD) | exact HB.out)) hb); clear HB; have HB := n0_; clear n0_; (try clear hb); (try clear hb2); (try clear hk); (try clear hi)) | ((with_reducible refine gate_callee (f := 17) rfl ?_); refine goesL_ (some 7) rfl rfl Try.func17 (by kernel_rfl) rfl #[.int .i64 a0] rfl (by (try simp only [List.map_toArray, List.map_cons, List.map_nil]); first | done | rfl | (simp only [List.length_drop, List.length_take]; rfl)) ?_; (with_reducible refine (op_Side.calls k a0 t170 _ A3.out).mono ?_); rintro e w' ⟨rfl, ⟨nd, rfl⟩⟩; refine ⟨_, rfl, ?_⟩) | (go_at_call 27; (with_reducible refine (fifo_Sends.calls a0 t171 _ A5.out).mono ?_); rintro e w' ⟨rfl, ⟨nd, rfl⟩⟩) | (go_at_call 28; (with_reducible refine (fifo_Recvs.calls a0 t172 _ A7.out).mono ?_); rintro e w' ⟨rfl, ⟨nd, rfl⟩⟩) | (go_at_call 15; (with_reducible refine (op_Check.calls k a0 t173 _ A9.out).mono ?_); rintro e w' ⟨rfl, ⟨nd, rfl⟩⟩) | (go_at_call 19; (with_reducible refine (op_Timed.calls a0 false _ A11.out).mono ?_); rintro e w' ⟨rfl, ⟨nd, rfl⟩⟩) | (go_at_call 21; (with_reducible refine (op_Once.calls a0 true _ A18.out).mono ?_); rintro e w' ⟨rfl, ⟨nd, rfl⟩⟩))
        go_ret
        exact ⟨by first | rfl | (simp [errW_none, errW_some] <;> rfl) | (simp [*, errW_none, errW_some] <;> rfl), by repeat (first | (with_reducible first | exact HB.out | apply bA | apply bN | apply bD) | exact HB.out)⟩
       ·rw [if_neg c20] at H
        have c20b0 : (t170 == 1) = false := beq_eq_false_iff_ne.mpr c20
        have c20b1 : (t170 != 1) = true := bne_iff_ne.mpr c20
        (try (have c6b0zc20b0 := c6b0; rw [c20b0] at c6b0zc20b0; simp only [beq_true, beq_false, Bool.not_eq_true', Bool.not_eq_false', Bool.true_beq, Bool.false_beq] at c6b0zc20b0))
        (try (have c6b2zc20b0 := c6b2; rw [c20b0] at c6b2zc20b0; simp only [beq_true, beq_false, Bool.not_eq_true', Bool.not_eq_false', Bool.true_beq, Bool.false_beq] at c6b2zc20b0))
        obtain rfl := Option.some.inj H
        go_enter Try.func6, Try.ntmps6
        go_wp2_with (first | ((with_reducible refine gate_callee (f := 14) rfl ?_); refine goesL_ (some 5) rfl rfl Try.func14 (by kernel_rfl) rfl #[] rfl (by (try simp only [List.map_toArray, List.map_cons, List.map_nil]); first | done | rfl | (simp only [List.length_drop, List.length_take]; rfl)) ?_; (with_reducible refine (sakialaw11_awake.calls k  true _ A2.out).mono ?_); rintro e w22 ⟨rfl, hb⟩; refine ⟨_, rfl, ?_⟩; have n0_ := Aside0.mk (below_step (by repeat (first | (with_reducible first | exact HB.out | apply bA | apply bN | apply bD) | exact HB.out)) hb); clear HB; have HB := n0_; clear n0_; (try clear hb); (try clear hb2); (try clear hk); (try clear hi)) | ((with_reducible refine gate_callee (f := 17) rfl ?_); refine goesL_ (some 7) rfl rfl Try.func17 (by kernel_rfl) rfl #[.int .i64 a0] rfl (by (try simp only [List.map_toArray, List.map_cons, List.map_nil]); first | done | rfl | (simp only [List.length_drop, List.length_take]; rfl)) ?_; (with_reducible refine (op_Side.calls k a0 t170 _ A3.out).mono ?_); rintro e w' ⟨rfl, ⟨nd, rfl⟩⟩; refine ⟨_, rfl, ?_⟩) | (go_at_call 27; (with_reducible refine (fifo_Sends.calls a0 t171 _ A5.out).mono ?_); rintro e w' ⟨rfl, ⟨nd, rfl⟩⟩) | (go_at_call 28; (with_reducible refine (fifo_Recvs.calls a0 t172 _ A7.out).mono ?_); rintro e w' ⟨rfl, ⟨nd, rfl⟩⟩) | (go_at_call 15; (with_reducible refine (op_Check.calls k a0 t173 _ A9.out).mono ?_); rintro e w' ⟨rfl, ⟨nd, rfl⟩⟩) | (go_at_call 19; (with_reducible refine (op_Timed.calls a0 false _ A11.out).mono ?_); rintro e w' ⟨rfl, ⟨nd, rfl⟩⟩) | (go_at_call 21; (with_reducible refine (op_Once.calls a0 true _ A18.out).mono ?_); rintro e w' ⟨rfl, ⟨nd, rfl⟩⟩))
        go_ret
        exact ⟨by first | rfl | (simp [errW_none, errW_some] <;> rfl) | (simp [*, errW_none, errW_some] <;> rfl), by repeat (first | (with_reducible first | exact HB.out | apply bA | apply bN | apply bD) | exact HB.out)⟩
      ·replace c19 := Bool.eq_false_iff.mpr c19
       subst c19
       have H1 : (some true) = some r := by rw [if_neg (show ¬ (false = true) by decide)] at H; exact H
       clear H
       have H := H1
       clear H1
       obtain rfl := Option.some.inj H
       go_enter Try.func6, Try.ntmps6
       go_wp2_with (first | ((with_reducible refine gate_callee (f := 14) rfl ?_); refine goesL_ (some 5) rfl rfl Try.func14 (by kernel_rfl) rfl #[] rfl (by (try simp only [List.map_toArray, List.map_cons, List.map_nil]); first | done | rfl | (simp only [List.length_drop, List.length_take]; rfl)) ?_; (with_reducible refine (sakialaw11_awake.calls k  true _ A2.out).mono ?_); rintro e w23 ⟨rfl, hb⟩; refine ⟨_, rfl, ?_⟩; have n0_ := Aside0.mk (below_step (by repeat (first | (with_reducible first | exact HB.out | apply bA | apply bN | apply bD) | exact HB.out)) hb); clear HB; have HB := n0_; clear n0_; (try clear hb); (try clear hb2); (try clear hk); (try clear hi)) | ((with_reducible refine gate_callee (f := 17) rfl ?_); refine goesL_ (some 7) rfl rfl Try.func17 (by kernel_rfl) rfl #[.int .i64 a0] rfl (by (try simp only [List.map_toArray, List.map_cons, List.map_nil]); first | done | rfl | (simp only [List.length_drop, List.length_take]; rfl)) ?_; (with_reducible refine (op_Side.calls k a0 t170 _ A3.out).mono ?_); rintro e w' ⟨rfl, ⟨nd, rfl⟩⟩; refine ⟨_, rfl, ?_⟩) | (go_at_call 27; (with_reducible refine (fifo_Sends.calls a0 t171 _ A5.out).mono ?_); rintro e w' ⟨rfl, ⟨nd, rfl⟩⟩) | (go_at_call 28; (with_reducible refine (fifo_Recvs.calls a0 t172 _ A7.out).mono ?_); rintro e w' ⟨rfl, ⟨nd, rfl⟩⟩) | (go_at_call 15; (with_reducible refine (op_Check.calls k a0 t173 _ A9.out).mono ?_); rintro e w' ⟨rfl, ⟨nd, rfl⟩⟩) | (go_at_call 19; (with_reducible refine (op_Timed.calls a0 false _ A11.out).mono ?_); rintro e w' ⟨rfl, ⟨nd, rfl⟩⟩) | (go_at_call 21; (with_reducible refine (op_Once.calls a0 false _ A18.out).mono ?_); rintro e w' ⟨rfl, ⟨nd, rfl⟩⟩))
       go_ret
       exact ⟨by first | rfl | (simp [errW_none, errW_some] <;> rfl) | (simp [*, errW_none, errW_some] <;> rfl), by repeat (first | (with_reducible first | exact HB.out | apply bA | apply bN | apply bD) | exact HB.out)⟩
    ·rw [if_neg c10] at H
     have c10b0 : (t173 == (t170 != 0)) = false := by simpa using c10
     (try (have c10b1 : decide (t173 = (t170 != 0)) = false := by simpa using c10))
     (try (have c10b2 : (t173 == (t170 != 0)) = false := by simpa using c10))
     (try (have c10b3 : ¬ (t173 = (t170 != 0)) := by simpa using c10))
     clear c10
     exact absurd ((Option.some.inj H).trans HR_.out) (by decide)
   ·rw [if_neg c8] at H
    have c8b0 : ((t170 == 2) == t172) = false := by simpa using c8
    (try (have c8b1 : decide ((t170 == 2) = t172) = false := by simpa using c8))
    (try (have c8b2 : ((t170 == 2) == t172) = false := by simpa using c8))
    (try (have c8b3 : ¬ ((t170 == 2) = t172) := by simpa using c8))
    clear c8
    exact absurd ((Option.some.inj H).trans HR_.out) (by decide)
  ·rw [if_neg c6] at H
   have c6b0 : ((t170 == 1) == t171) = false := by simpa using c6
   (try (have c6b1 : decide ((t170 == 1) = t171) = false := by simpa using c6))
   (try (have c6b2 : ((t170 == 1) == t171) = false := by simpa using c6))
   (try (have c6b3 : ¬ ((t170 == 1) = t171) := by simpa using c6))
   clear c6
   exact absurd ((Option.some.inj H).trans HR_.out) (by decide)
 ·replace c4 := Bool.eq_false_iff.mpr c4
  subst c4
  have H1 : (some false) = some r := by rw [if_neg (show ¬ (false = true) by decide)] at H; exact H
  clear H
  have H := H1
  clear H1
  exact absurd ((Option.some.inj H).trans HR_.out) (by decide)

/-- THE ONE PURE STATEMENT of sakialaw11_OpSides. -/
def sakialaw11_OpSides.Pure : Prop := ∀ (a0 : Int), (Lit.int .i64 a0).wf = true → ∃ k, sakialaw11_OpSides.f k a0 = some true

/-! ### thread_within: function 49 -/
def thread_within.f (a0 : Int) (a1 : Int) (a2 : Int) : Option (Bool) := if a0 ≥ a1 then (some (decide (a0 ≤ a2))) else (some false)
set_option maxHeartbeats 8000000 in
set_option maxRecDepth 100000 in
theorem thread_within.calls (a0 : Int) (a1 : Int) (a2 : Int) (r : Bool) (w : World) (h : thread_within.f a0 a1 a2 = some r) :
  Calls Try.prog 49 #[.int .i64 a0, .int .i64 a1, .int .i64 a2] w fun e w' => e = .returned (.bool r) ∧ Drawn0 w w' := by
 have H : (if a0 ≥ a1 then (some (decide (a0 ≤ a2))) else (some false)) = some r := h
 clear h
 by_cases c4 : a0 ≥ a1
 ·rw [if_pos c4] at H
  have c4b0 : decide (a1 ≤ a0) = true := decide_eq_true c4
  clear c4
  obtain rfl := Option.some.inj H
  go_enter Try.func49, Try.ntmps49
  go_wp2
  go_ret
  exact ⟨by first | rfl | (simp; done) | (simp [*]; done), by repeat (first | exact Drawn0.refl _ | apply Drawn0.step)⟩
 ·rw [if_neg c4] at H
  have c4b0 : decide (a1 ≤ a0) = false := decide_eq_false c4
  clear c4
  obtain rfl := Option.some.inj H
  go_enter Try.func49, Try.ntmps49
  go_wp2
  go_ret
  exact ⟨by first | rfl | (simp; done) | (simp [*]; done), by repeat (first | exact Drawn0.refl _ | apply Drawn0.step)⟩

end Go.Proofs.Ytlhaghkepnfajaa.PL
