-- written by this repo's pp.py (the kit's print, turned by wip/patches.py)
import Derived.Test.YtlpeklhejjidfaaPLx0
import Derived.Test.YtlpeklhejjidfaaPLx3
import Derived.Test.YtlpeklhejjidfaaPLx4
import Derived.Test.YtlpeklhejjidfaaPLx5
namespace Go.Proofs.Ytlpeklhejjidfaa.PL
open Go.RowKit Go.Proofs.YtlpeklhejjidfaaW.PrintWords Go.Proofs.YtlpeklhejjidfaaW.PrintLast Go.Proofs.YtlpeklhejjidfaaW.PrintMore
attribute [local go_sem] max2_int min2_int max_two min_two max_three min_three max_four min_four   -- for this text's walks alone
set_option linter.unusedVariables false
set_option linter.unusedSimpArgs false

/-! ### sakialaw01_PosSplits: function 4 -/
def sakialaw01_PosSplits.f (k : Nat) (a0 : Int) (a1 : Int) : Option (Bool) := (sakialaw01_awake.f k).bind fun t149 => ((pos_Place.f a0 a1).bind fun t150 => ((pos_Lap.f a0 a1).bind fun t151 => (if a0 < 0 then (if t149 = true then (if t150 = 0 then (some (t151 == 0)) else (some false)) else (some false)) else (if a1 < 1 then (if t149 = true then (if t150 = 0 then (some (t151 == 0)) else (some false)) else (some false)) else (if t149 = true then (if t150 ≥ 0 then (if t150 < a1 then (if t151 ≥ 0 then (some ((wrap64 ((wrap64 (t151 * a1)) + t150)) == a0)) else (some false)) else (some false)) else (some false)) else (some false))))))
theorem sakialaw01_PosSplits.mono : ∀ a0 a1 k, LeO (sakialaw01_PosSplits.f k a0 a1) (sakialaw01_PosSplits.f (k + 1) a0 a1) := by
  intro a0 a1 k
  unfold sakialaw01_PosSplits.f
  repeat' first
      | (with_reducible exact sakialaw01_awake.mono _)
      | (with_reducible exact LeO.refl _)
      | (with_reducible exact LeO.none _)
      | (with_reducible refine LeO.ite ?_ ?_)
      | (with_reducible refine LeO.bind ?_ (fun _ => ?_))
      | exact sakialaw01_awake.mono _
      | exact LeO.none _
      | refine LeO.ite ?_ ?_
      | refine LeO.bind ?_ (fun _ => ?_)
set_option maxHeartbeats 8000000 in
set_option maxRecDepth 100000 in
theorem sakialaw01_PosSplits.calls (k : Nat) (a0 : Int) (a1 : Int) (r : Bool) (w : World) (hr_ : r = true) (h : sakialaw01_PosSplits.f k a0 a1 = some r) :
    Calls Try.prog 4 #[.int .i64 a0, .int .i64 a1] w fun e w' => e = .returned (.bool r) ∧ Below w.heap.size w w' := by
  have HB := Aside0.mk (Below.refl w.heap.size w)
  have HR_ := Aside0.mk hr_
  clear hr_
  have H : ((sakialaw01_awake.f k).bind fun t149 => ((pos_Place.f a0 a1).bind fun t150 => ((pos_Lap.f a0 a1).bind fun t151 => (if a0 < 0 then (if t149 = true then (if t150 = 0 then (some (t151 == 0)) else (some false)) else (some false)) else (if a1 < 1 then (if t149 = true then (if t150 = 0 then (some (t151 == 0)) else (some false)) else (some false)) else (if t149 = true then (if t150 ≥ 0 then (if t150 < a1 then (if t151 ≥ 0 then (some ((wrap64 ((wrap64 (t151 * a1)) + t150)) == a0)) else (some false)) else (some false)) else (some false)) else (some false))))))) = some r := h
  clear h
  replace H := Option.bind_eq_some_iff.mp H
  obtain ⟨t149, A30, H⟩ := H
  replace H : ((pos_Place.f a0 a1).bind fun t150 => ((pos_Lap.f a0 a1).bind fun t151 => (if a0 < 0 then (if t149 = true then (if t150 = 0 then (some (t151 == 0)) else (some false)) else (some false)) else (if a1 < 1 then (if t149 = true then (if t150 = 0 then (some (t151 == 0)) else (some false)) else (some false)) else (if t149 = true then (if t150 ≥ 0 then (if t150 < a1 then (if t151 ≥ 0 then (some ((wrap64 ((wrap64 (t151 * a1)) + t150)) == a0)) else (some false)) else (some false)) else (some false)) else (some false)))))) = some r := H
  have A3 := Aside0.mk A30
  clear A30
  replace H := Option.bind_eq_some_iff.mp H
  obtain ⟨t150, A40, H⟩ := H
  replace H : ((pos_Lap.f a0 a1).bind fun t151 => (if a0 < 0 then (if t149 = true then (if t150 = 0 then (some (t151 == 0)) else (some false)) else (some false)) else (if a1 < 1 then (if t149 = true then (if t150 = 0 then (some (t151 == 0)) else (some false)) else (some false)) else (if t149 = true then (if t150 ≥ 0 then (if t150 < a1 then (if t151 ≥ 0 then (some ((wrap64 ((wrap64 (t151 * a1)) + t150)) == a0)) else (some false)) else (some false)) else (some false)) else (some false))))) = some r := H
  have A4 := Aside0.mk A40
  clear A40
  replace H := Option.bind_eq_some_iff.mp H
  obtain ⟨t151, A50, H⟩ := H
  replace H : (if a0 < 0 then (if t149 = true then (if t150 = 0 then (some (t151 == 0)) else (some false)) else (some false)) else (if a1 < 1 then (if t149 = true then (if t150 = 0 then (some (t151 == 0)) else (some false)) else (some false)) else (if t149 = true then (if t150 ≥ 0 then (if t150 < a1 then (if t151 ≥ 0 then (some ((wrap64 ((wrap64 (t151 * a1)) + t150)) == a0)) else (some false)) else (some false)) else (some false)) else (some false)))) = some r := H
  have A5 := Aside0.mk A50
  clear A50
  by_cases c6 : a0 < 0
  · rw [if_pos c6] at H
    have c6b0 : decide (a0 < 0) = true := decide_eq_true c6
    clear c6
    by_cases c7 : t149 = true
    · subst c7
      have H1 : (if t150 = 0 then (some (t151 == 0)) else (some false)) = some r := by rw [if_pos rfl] at H; exact H
      clear H
      have H := H1
      clear H1
      by_cases c8 : t150 = 0
      · rw [if_pos c8] at H
        have c8b0 : (t150 == 0) = true := beq_iff_eq.mpr c8
        have c8b1 : (t150 != 0) = false := bne_eq_false_iff_eq.mpr c8
        clear c8
        obtain rfl := Option.some.inj H
        go_enter Try.func4, Try.ntmps4
        go_wp2_with (first | ((with_reducible refine gate_callee (f := 14) rfl ?_); refine goesL_ (some 8) rfl rfl Try.func14 (by kernel_rfl) rfl #[] rfl (by (try simp only [List.map_toArray, List.map_cons, List.map_nil]); first | done | rfl | (simp only [List.length_drop, List.length_take]; rfl)) ?_; (with_reducible refine (sakialaw01_awake.calls k  true _ A3.out).mono ?_); rintro e w9 ⟨rfl, hb⟩; refine ⟨_, rfl, ?_⟩; have n0_ := Aside0.mk (below_step (by repeat (first | (with_reducible first | exact HB.out | apply below_alloc | apply pw_below_drewN | apply below_drew1) | exact HB.out)) hb); clear HB; have HB := n0_; clear n0_; (try clear hb); (try clear hb2); (try clear hk); (try clear hi)) | ((with_reducible refine gate_callee (f := 20) rfl ?_); refine goesL_ (some 11) rfl rfl Try.func20 (by kernel_rfl) rfl #[.int .i64 a0, .int .i64 a1] rfl (by (try simp only [List.map_toArray, List.map_cons, List.map_nil]); first | done | rfl | (simp only [List.length_drop, List.length_take]; rfl)) ?_; (with_reducible refine (pos_Place.calls a0 a1 t150 _ A4.out).mono ?_); rintro e w' ⟨rfl, ⟨nd, rfl⟩⟩; refine ⟨_, rfl, ?_⟩) | ((with_reducible refine gate_callee (f := 22) rfl ?_); refine goesL_ (some 14) rfl rfl Try.func22 (by kernel_rfl) rfl #[.int .i64 a0, .int .i64 a1] rfl (by (try simp only [List.map_toArray, List.map_cons, List.map_nil]); first | done | rfl | (simp only [List.length_drop, List.length_take]; rfl)) ?_; (with_reducible refine (pos_Lap.calls a0 a1 t151 _ A5.out).mono ?_); rintro e w' ⟨rfl, ⟨nd, rfl⟩⟩; refine ⟨_, rfl, ?_⟩))
        go_ret
        exact ⟨by first | rfl | (simp [errW_none, errW_some] <;> rfl) | (simp [*, errW_none, errW_some] <;> rfl), by repeat (first | (with_reducible first | exact HB.out | apply below_alloc | apply pw_below_drewN | apply below_drew1) | exact HB.out)⟩
      · rw [if_neg c8] at H
        have c8b0 : (t150 == 0) = false := beq_eq_false_iff_ne.mpr c8
        have c8b1 : (t150 != 0) = true := bne_iff_ne.mpr c8
        exact absurd ((Option.some.inj H).trans HR_.out) (by decide)
    · replace c7 := Bool.eq_false_iff.mpr c7
      subst c7
      have H1 : (some false) = some r := by rw [if_neg (show ¬ (false = true) by decide)] at H; exact H
      clear H
      have H := H1
      clear H1
      exact absurd ((Option.some.inj H).trans HR_.out) (by decide)
  · rw [if_neg c6] at H
    have c6b0 : decide (a0 < 0) = false := decide_eq_false c6
    clear c6
    by_cases c10 : a1 < 1
    · rw [if_pos c10] at H
      have c10b0 : decide (a1 < 1) = true := decide_eq_true c10
      clear c10
      by_cases c11 : t149 = true
      · subst c11
        have H1 : (if t150 = 0 then (some (t151 == 0)) else (some false)) = some r := by rw [if_pos rfl] at H; exact H
        clear H
        have H := H1
        clear H1
        by_cases c12 : t150 = 0
        · rw [if_pos c12] at H
          have c12b0 : (t150 == 0) = true := beq_iff_eq.mpr c12
          have c12b1 : (t150 != 0) = false := bne_eq_false_iff_eq.mpr c12
          clear c12
          obtain rfl := Option.some.inj H
          go_enter Try.func4, Try.ntmps4
          go_wp2_with (first | ((with_reducible refine gate_callee (f := 14) rfl ?_); refine goesL_ (some 8) rfl rfl Try.func14 (by kernel_rfl) rfl #[] rfl (by (try simp only [List.map_toArray, List.map_cons, List.map_nil]); first | done | rfl | (simp only [List.length_drop, List.length_take]; rfl)) ?_; (with_reducible refine (sakialaw01_awake.calls k  true _ A3.out).mono ?_); rintro e w13 ⟨rfl, hb⟩; refine ⟨_, rfl, ?_⟩; have n0_ := Aside0.mk (below_step (by repeat (first | (with_reducible first | exact HB.out | apply below_alloc | apply pw_below_drewN | apply below_drew1) | exact HB.out)) hb); clear HB; have HB := n0_; clear n0_; (try clear hb); (try clear hb2); (try clear hk); (try clear hi)) | ((with_reducible refine gate_callee (f := 20) rfl ?_); refine goesL_ (some 11) rfl rfl Try.func20 (by kernel_rfl) rfl #[.int .i64 a0, .int .i64 a1] rfl (by (try simp only [List.map_toArray, List.map_cons, List.map_nil]); first | done | rfl | (simp only [List.length_drop, List.length_take]; rfl)) ?_; (with_reducible refine (pos_Place.calls a0 a1 t150 _ A4.out).mono ?_); rintro e w' ⟨rfl, ⟨nd, rfl⟩⟩; refine ⟨_, rfl, ?_⟩) | ((with_reducible refine gate_callee (f := 22) rfl ?_); refine goesL_ (some 14) rfl rfl Try.func22 (by kernel_rfl) rfl #[.int .i64 a0, .int .i64 a1] rfl (by (try simp only [List.map_toArray, List.map_cons, List.map_nil]); first | done | rfl | (simp only [List.length_drop, List.length_take]; rfl)) ?_; (with_reducible refine (pos_Lap.calls a0 a1 t151 _ A5.out).mono ?_); rintro e w' ⟨rfl, ⟨nd, rfl⟩⟩; refine ⟨_, rfl, ?_⟩))
          go_ret
          exact ⟨by first | rfl | (simp [errW_none, errW_some] <;> rfl) | (simp [*, errW_none, errW_some] <;> rfl), by repeat (first | (with_reducible first | exact HB.out | apply below_alloc | apply pw_below_drewN | apply below_drew1) | exact HB.out)⟩
        · rw [if_neg c12] at H
          have c12b0 : (t150 == 0) = false := beq_eq_false_iff_ne.mpr c12
          have c12b1 : (t150 != 0) = true := bne_iff_ne.mpr c12
          exact absurd ((Option.some.inj H).trans HR_.out) (by decide)
      · replace c11 := Bool.eq_false_iff.mpr c11
        subst c11
        have H1 : (some false) = some r := by rw [if_neg (show ¬ (false = true) by decide)] at H; exact H
        clear H
        have H := H1
        clear H1
        exact absurd ((Option.some.inj H).trans HR_.out) (by decide)
    · rw [if_neg c10] at H
      have c10b0 : decide (a1 < 1) = false := decide_eq_false c10
      clear c10
      by_cases c14 : t149 = true
      · subst c14
        have H1 : (if t150 ≥ 0 then (if t150 < a1 then (if t151 ≥ 0 then (some ((wrap64 ((wrap64 (t151 * a1)) + t150)) == a0)) else (some false)) else (some false)) else (some false)) = some r := by rw [if_pos rfl] at H; exact H
        clear H
        have H := H1
        clear H1
        by_cases c15 : t150 ≥ 0
        · rw [if_pos c15] at H
          have c15b0 : decide (0 ≤ t150) = true := decide_eq_true c15
          clear c15
          by_cases c16 : t150 < a1
          · rw [if_pos c16] at H
            have c16b0 : decide (t150 < a1) = true := decide_eq_true c16
            clear c16
            by_cases c17 : t151 ≥ 0
            · rw [if_pos c17] at H
              have c17b0 : decide (0 ≤ t151) = true := decide_eq_true c17
              clear c17
              obtain rfl := Option.some.inj H
              go_enter Try.func4, Try.ntmps4
              go_wp2_with (first | ((with_reducible refine gate_callee (f := 14) rfl ?_); refine goesL_ (some 8) rfl rfl Try.func14 (by kernel_rfl) rfl #[] rfl (by (try simp only [List.map_toArray, List.map_cons, List.map_nil]); first | done | rfl | (simp only [List.length_drop, List.length_take]; rfl)) ?_; (with_reducible refine (sakialaw01_awake.calls k  true _ A3.out).mono ?_); rintro e w18 ⟨rfl, hb⟩; refine ⟨_, rfl, ?_⟩; have n0_ := Aside0.mk (below_step (by repeat (first | (with_reducible first | exact HB.out | apply below_alloc | apply pw_below_drewN | apply below_drew1) | exact HB.out)) hb); clear HB; have HB := n0_; clear n0_; (try clear hb); (try clear hb2); (try clear hk); (try clear hi)) | ((with_reducible refine gate_callee (f := 20) rfl ?_); refine goesL_ (some 11) rfl rfl Try.func20 (by kernel_rfl) rfl #[.int .i64 a0, .int .i64 a1] rfl (by (try simp only [List.map_toArray, List.map_cons, List.map_nil]); first | done | rfl | (simp only [List.length_drop, List.length_take]; rfl)) ?_; (with_reducible refine (pos_Place.calls a0 a1 t150 _ A4.out).mono ?_); rintro e w' ⟨rfl, ⟨nd, rfl⟩⟩; refine ⟨_, rfl, ?_⟩) | ((with_reducible refine gate_callee (f := 22) rfl ?_); refine goesL_ (some 14) rfl rfl Try.func22 (by kernel_rfl) rfl #[.int .i64 a0, .int .i64 a1] rfl (by (try simp only [List.map_toArray, List.map_cons, List.map_nil]); first | done | rfl | (simp only [List.length_drop, List.length_take]; rfl)) ?_; (with_reducible refine (pos_Lap.calls a0 a1 t151 _ A5.out).mono ?_); rintro e w' ⟨rfl, ⟨nd, rfl⟩⟩; refine ⟨_, rfl, ?_⟩))
              go_ret
              exact ⟨by first | rfl | (simp [errW_none, errW_some] <;> rfl) | (simp [*, errW_none, errW_some] <;> rfl), by repeat (first | (with_reducible first | exact HB.out | apply below_alloc | apply pw_below_drewN | apply below_drew1) | exact HB.out)⟩
            · rw [if_neg c17] at H
              have c17b0 : decide (0 ≤ t151) = false := decide_eq_false c17
              clear c17
              exact absurd ((Option.some.inj H).trans HR_.out) (by decide)
          · rw [if_neg c16] at H
            have c16b0 : decide (t150 < a1) = false := decide_eq_false c16
            clear c16
            exact absurd ((Option.some.inj H).trans HR_.out) (by decide)
        · rw [if_neg c15] at H
          have c15b0 : decide (0 ≤ t150) = false := decide_eq_false c15
          clear c15
          exact absurd ((Option.some.inj H).trans HR_.out) (by decide)
      · replace c14 := Bool.eq_false_iff.mpr c14
        subst c14
        have H1 : (some false) = some r := by rw [if_neg (show ¬ (false = true) by decide)] at H; exact H
        clear H
        have H := H1
        clear H1
        exact absurd ((Option.some.inj H).trans HR_.out) (by decide)

/-- THE ONE PURE STATEMENT of sakialaw01_PosSplits. -/
def sakialaw01_PosSplits.Pure : Prop := ∀ (a0 : Int) (a1 : Int), (Lit.int .i64 a0).wf = true → (Lit.int .i64 a1).wf = true → ∃ k, sakialaw01_PosSplits.f k a0 a1 = some true

end Go.Proofs.Ytlpeklhejjidfaa.PL
