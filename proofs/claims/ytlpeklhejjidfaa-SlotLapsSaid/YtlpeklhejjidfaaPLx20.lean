-- written by this repo's pp.py (the kit's print, turned by wip/patches.py)
import Derived.Test.YtlpeklhejjidfaaPLx0
import Derived.Test.YtlpeklhejjidfaaPLx10
import Derived.Test.YtlpeklhejjidfaaPLx11
import Derived.Test.YtlpeklhejjidfaaPLx12
import Derived.Test.YtlpeklhejjidfaaPLx13
namespace Go.Proofs.Ytlpeklhejjidfaa.PL
open Go.RowKit Go.Proofs.YtlpeklhejjidfaaW.PrintWords Go.Proofs.YtlpeklhejjidfaaW.PrintLast Go.Proofs.YtlpeklhejjidfaaW.PrintMore
attribute [local go_sem] max2_int min2_int max_two min_two max_three min_three max_four min_four   -- for this text's walks alone
set_option linter.unusedVariables false
set_option linter.unusedSimpArgs false

/-! ### sakialaw09_SlotLaps: function 12 -/
def sakialaw09_SlotLaps.l0 : Nat → Int → Bool → Int → List (S49) → Int → Option (Bool)
 | 0, _, _, _, _, _ => none
 | k + 1, x1, x5, x6, x7, x8 => if x8 < (wrap64 (x1)) then ((slot_Write.f k x7 x8 (wrap64 (3 * x8))).bind fun bt340 => ((slot_Write.f k bt340.1 (wrap64 (x8 + x6)) 5).bind fun bt344 => ((slot_Read.f k bt340.1 x8).bind fun bt348 => ((slot_Release.f k bt340.1 x8).bind fun bt350 => (if bt340.2 = 0 then (if bt344.2 = 30 then (if bt348.2 = 0 then (if bt348.1 = (wrap64 (3 * x8)) then (if bt350.2 = 0 then ((slot_Check.f k bt350.1).bind fun t354 => (if t354 = true then (sakialaw09_SlotLaps.l0 k x1 x5 x6 bt350.1 (wrap64 (x8 + 1))) else (some false))) else (some false)) else (some false)) else (some false)) else (some false)) else (some false)))))) else (if x5 = true then (some ((x7.length : Int) == x6)) else (some false))
def sakialaw09_SlotLaps.f (k : Nat) (a0 : Int) (a1 : Int) : Option (Bool) := (sakialaw09_awake.f k).bind fun t336 => ((slot_New.f k (wrap64 (1 + (wrap64 (Int.tmod a0 64))))).bind fun t337 => (sakialaw09_SlotLaps.l0 k a1 t336 (wrap64 (1 + (wrap64 (Int.tmod a0 64)))) t337 0))
theorem sakialaw09_SlotLaps.mono_l : ∀ k, (∀ y0 y1 y2 y3 y4, LeO (sakialaw09_SlotLaps.l0 k y0 y1 y2 y3 y4) (sakialaw09_SlotLaps.l0 (k + 1) y0 y1 y2 y3 y4))
 | 0 => fun _ _ _ _ _ r h => by simp [sakialaw09_SlotLaps.l0] at h
 | k + 1 => by
  have ih0 := sakialaw09_SlotLaps.mono_l k
  ·intro y0 y1 y2 y3 y4
   unfold sakialaw09_SlotLaps.l0
   repeat' first
   | (with_reducible exact ih0 _ _ _ _ _)
   | (with_reducible exact sakialaw09_awake.mono _)
   | (with_reducible exact slot_Check.mono _ _)
   | (with_reducible exact slot_New.mono _ _)
   | (with_reducible exact slot_Read.mono _ _ _)
   | (with_reducible exact slot_Release.mono _ _ _)
   | (with_reducible exact slot_Write.mono _ _ _ _)
   | (with_reducible exact LeO.refl _)
   | (with_reducible exact LeO.none _)
   | (with_reducible refine LeO.ite ?_ ?_)
   | (with_reducible refine LeO.bind ?_ (fun _ => ?_))
   | exact ih0 _ _ _ _ _
   | exact sakialaw09_awake.mono _
   | exact slot_Check.mono _ _
   | exact slot_New.mono _ _
   | exact slot_Read.mono _ _ _
   | exact slot_Release.mono _ _ _
   | exact slot_Write.mono _ _ _ _
   | exact LeO.none _
   | refine LeO.ite ?_ ?_
   | refine LeO.bind ?_ (fun _ => ?_)
theorem sakialaw09_SlotLaps.mono : ∀ a0 a1 k, LeO (sakialaw09_SlotLaps.f k a0 a1) (sakialaw09_SlotLaps.f (k + 1) a0 a1) := by
 intro a0 a1 k
 have ih0 := sakialaw09_SlotLaps.mono_l k
 unfold sakialaw09_SlotLaps.f
 repeat' first
   | (with_reducible exact ih0 _ _ _ _ _)
   | (with_reducible exact sakialaw09_awake.mono _)
   | (with_reducible exact slot_Check.mono _ _)
   | (with_reducible exact slot_New.mono _ _)
   | (with_reducible exact slot_Read.mono _ _ _)
   | (with_reducible exact slot_Release.mono _ _ _)
   | (with_reducible exact slot_Write.mono _ _ _ _)
   | (with_reducible exact LeO.refl _)
   | (with_reducible exact LeO.none _)
   | (with_reducible refine LeO.ite ?_ ?_)
   | (with_reducible refine LeO.bind ?_ (fun _ => ?_))
   | exact ih0 _ _ _ _ _
   | exact sakialaw09_awake.mono _
   | exact slot_Check.mono _ _
   | exact slot_New.mono _ _
   | exact slot_Read.mono _ _ _
   | exact slot_Release.mono _ _ _
   | exact slot_Write.mono _ _ _ _
   | exact LeO.none _
   | refine LeO.ite ?_ ?_
   | refine LeO.bind ?_ (fun _ => ?_)
set_option maxHeartbeats 8000000 in
set_option maxRecDepth 100000 in
theorem sakialaw09_SlotLaps.calls (k : Nat) (a0 : Int) (a1 : Int) (r : Bool) (w : World) (hr_ : r = true) (h : sakialaw09_SlotLaps.f k a0 a1 = some r) :
  Calls Try.prog 12 #[.int .u8 a0, .int .u8 a1] w fun e w' => e = .returned (.bool r) ∧ Below w.heap.size w w' := by
 have HB := Aside0.mk (Below.refl w.heap.size w)
 have HR_ := Aside0.mk hr_
 clear hr_
 have H : ((sakialaw09_awake.f k).bind fun t336 => ((slot_New.f k (wrap64 (1 + (wrap64 (Int.tmod a0 64))))).bind fun t337 => (sakialaw09_SlotLaps.l0 k a1 t336 (wrap64 (1 + (wrap64 (Int.tmod a0 64)))) t337 0))) = some r := h
 clear h
 replace H := Option.bind_eq_some_iff.mp H
 obtain ⟨t336, A30, H⟩ := H
 replace H : ((slot_New.f k (wrap64 (1 + (wrap64 (Int.tmod a0 64))))).bind fun t337 => (sakialaw09_SlotLaps.l0 k a1 t336 (wrap64 (1 + (wrap64 (Int.tmod a0 64)))) t337 0)) = some r := H
 have A3 := Aside0.mk A30
 clear A30
 replace H := Option.bind_eq_some_iff.mp H
 obtain ⟨t337, A40, H⟩ := H
 replace H : (sakialaw09_SlotLaps.l0 k a1 t336 (wrap64 (1 + (wrap64 (Int.tmod a0 64)))) t337 0) = some r := H
 have A4 := Aside0.mk A40
 clear A40
 have H' := Aside0.mk H
 clear H
 go_enter Try.func12, Try.ntmps12
 go_wp2_with (first | ((with_reducible refine gate_callee (f := 26) rfl ?_); refine goesL_ (some 17) rfl rfl Try.func26 (by kernel_rfl) rfl #[] rfl (by (try simp only [List.map_toArray, List.map_cons, List.map_nil]); first | done | rfl | (simp only [List.length_drop, List.length_take]; rfl)) ?_; (with_reducible refine (sakialaw09_awake.calls k  t336 _ A3.out).mono ?_); rintro e w5 ⟨rfl, hb⟩; refine ⟨_, rfl, ?_⟩; have n0_ := Aside0.mk (below_step (by repeat (first | (with_reducible first | exact HB.out | apply bA | apply bN | apply bD) | exact HB.out)) hb); clear HB; have HB := n0_; clear n0_; (try clear hb); (try clear hb2); (try clear hk); (try clear hi)) | ((with_reducible refine gate_callee (f := 34) rfl ?_); refine goesL_ (some 23) rfl rfl Try.func34 (by kernel_rfl) rfl #[.int .i64 (wrap64 (1 + (wrap64 (Int.tmod a0 64))))] rfl (by (try simp only [List.map_toArray, List.map_cons, List.map_nil]); first | done | rfl | (simp only [List.length_drop, List.length_take]; rfl)) ?_; (with_reducible refine (slot_New.calls k (wrap64 (1 + (wrap64 (Int.tmod a0 64)))) t337 _ A4.out).mono ?_); rintro e w6 ⟨v338, rfl, ho0, hb⟩; refine ⟨_, rfl, ?_⟩; have n0_ := Aside0.mk (Kd.R_lower ho0 (below_size (by repeat (first | (with_reducible first | exact HB.out | apply bA | apply bN | apply bD) | exact HB.out)))); have n1_ := Aside0.mk (below_step (by repeat (first | (with_reducible first | exact HB.out | apply bA | apply bN | apply bD) | exact HB.out)) hb); clear HB; have HO339 := n0_; have HB := n1_; clear n0_ n1_; (try clear hb); (try clear hb2); (try clear hk); (try clear hi); (try clear ho0)))
 go_loopg [7, 8] k (fun kq v7 v8 w' => ∃ (x7_1 : List (S49)) (x8_1 : Int), v8 = .int .i64 x8_1 ∧ Aside0 (sakialaw09_SlotLaps.l0 kq a1 t336 (wrap64 (1 + (wrap64 (Int.tmod a0 64)))) x7_1 x8_1 = some r) ∧ Aside0 (kq ≤ k) ∧ Aside0 (Kd.R k49 49 w' w.heap.size (fun _ => True) v7 x7_1) ∧ Aside0 (Below w.heap.size w w'))
 case atStart => exact ⟨(t337), (0), (by first | rfl | (simp; done) | (simp [*]; done)), H', ⟨Nat.le_refl _⟩, ⟨by (with_reducible repeat (first | apply Kd.R_alloc | apply Kd.R_drewN | apply Kd.R_drew)); exact HO339.out⟩, ⟨by repeat (first | (with_reducible first | exact HB.out | apply bA | apply bN | apply bD) | exact HB.out)⟩⟩
 case round =>
  clear H'
  try clear c1
  try clear c2
  try clear p2
  try clear c3
  try clear p6
  obtain ⟨x7_1, x8_1, rfl, HA, HK1, HO_7, HB⟩ := hrel
  cases gk with
  | zero => exact absurd HA.out (by simp [sakialaw09_SlotLaps.l0])
  | succ k1 =>
   have H := HA.out
   clear HA
   simp only [sakialaw09_SlotLaps.l0] at H
   by_cases c7 : x8_1 < (wrap64 (a1))
   ·rw [if_pos c7] at H
    have c7b0 : decide (x8_1 < (wrap64 (a1))) = true := decide_eq_true c7
    clear c7
    replace H := Option.bind_eq_some_iff.mp H
    obtain ⟨⟨t340, t341⟩, A80, H⟩ := H
    replace H : ((slot_Write.f k1 t340 (wrap64 (x8_1 + (wrap64 (1 + (wrap64 (Int.tmod a0 64)))))) 5).bind fun bt344 => ((slot_Read.f k1 t340 x8_1).bind fun bt348 => ((slot_Release.f k1 t340 x8_1).bind fun bt350 => (if t341 = 0 then (if bt344.2 = 30 then (if bt348.2 = 0 then (if bt348.1 = (wrap64 (3 * x8_1)) then (if bt350.2 = 0 then ((slot_Check.f k1 bt350.1).bind fun t354 => (if t354 = true then (sakialaw09_SlotLaps.l0 k1 a1 t336 (wrap64 (1 + (wrap64 (Int.tmod a0 64)))) bt350.1 (wrap64 (x8_1 + 1))) else (some false))) else (some false)) else (some false)) else (some false)) else (some false)) else (some false))))) = some r := H
    have A8 := Aside0.mk A80
    clear A80
    replace H := Option.bind_eq_some_iff.mp H
    obtain ⟨⟨t344, t345⟩, A90, H⟩ := H
    replace H : ((slot_Read.f k1 t340 x8_1).bind fun bt348 => ((slot_Release.f k1 t340 x8_1).bind fun bt350 => (if t341 = 0 then (if t345 = 30 then (if bt348.2 = 0 then (if bt348.1 = (wrap64 (3 * x8_1)) then (if bt350.2 = 0 then ((slot_Check.f k1 bt350.1).bind fun t354 => (if t354 = true then (sakialaw09_SlotLaps.l0 k1 a1 t336 (wrap64 (1 + (wrap64 (Int.tmod a0 64)))) bt350.1 (wrap64 (x8_1 + 1))) else (some false))) else (some false)) else (some false)) else (some false)) else (some false)) else (some false)))) = some r := H
    have A9 := Aside0.mk A90
    clear A90
    replace H := Option.bind_eq_some_iff.mp H
    obtain ⟨⟨t348, t349⟩, A100, H⟩ := H
    replace H : ((slot_Release.f k1 t340 x8_1).bind fun bt350 => (if t341 = 0 then (if t345 = 30 then (if t349 = 0 then (if t348 = (wrap64 (3 * x8_1)) then (if bt350.2 = 0 then ((slot_Check.f k1 bt350.1).bind fun t354 => (if t354 = true then (sakialaw09_SlotLaps.l0 k1 a1 t336 (wrap64 (1 + (wrap64 (Int.tmod a0 64)))) bt350.1 (wrap64 (x8_1 + 1))) else (some false))) else (some false)) else (some false)) else (some false)) else (some false)) else (some false))) = some r := H
    have A10 := Aside0.mk A100
    clear A100
    replace H := Option.bind_eq_some_iff.mp H
    obtain ⟨⟨t350, t351⟩, A110, H⟩ := H
    replace H : (if t341 = 0 then (if t345 = 30 then (if t349 = 0 then (if t348 = (wrap64 (3 * x8_1)) then (if t351 = 0 then ((slot_Check.f k1 t350).bind fun t354 => (if t354 = true then (sakialaw09_SlotLaps.l0 k1 a1 t336 (wrap64 (1 + (wrap64 (Int.tmod a0 64)))) t350 (wrap64 (x8_1 + 1))) else (some false))) else (some false)) else (some false)) else (some false)) else (some false)) else (some false)) = some r := H
    have A11 := Aside0.mk A110
    clear A110
    by_cases c12 : t341 = 0
    ·rw [if_pos c12] at H
     have c12b0 : (t341 == 0) = true := beq_iff_eq.mpr c12
     have c12b1 : (t341 != 0) = false := bne_eq_false_iff_eq.mpr c12
     clear c12
     by_cases c13 : t345 = 30
     ·rw [if_pos c13] at H
      have c13b0 : (t345 == 30) = true := beq_iff_eq.mpr c13
      have c13b1 : (t345 != 30) = false := bne_eq_false_iff_eq.mpr c13
      clear c13
      by_cases c14 : t349 = 0
      ·rw [if_pos c14] at H
       have c14b0 : (t349 == 0) = true := beq_iff_eq.mpr c14
       have c14b1 : (t349 != 0) = false := bne_eq_false_iff_eq.mpr c14
       clear c14
       by_cases c15 : t348 = (wrap64 (3 * x8_1))
       ·rw [if_pos c15] at H
        have c15b0 : (t348 == (wrap64 (3 * x8_1))) = true := beq_iff_eq.mpr c15
        have c15b1 : (t348 != (wrap64 (3 * x8_1))) = false := bne_eq_false_iff_eq.mpr c15
        clear c15
        by_cases c16 : t351 = 0
        ·rw [if_pos c16] at H
         have c16b0 : (t351 == 0) = true := beq_iff_eq.mpr c16
         have c16b1 : (t351 != 0) = false := bne_eq_false_iff_eq.mpr c16
         clear c16
         replace H := Option.bind_eq_some_iff.mp H
         obtain ⟨t354, A170, H⟩ := H
         replace H : (if t354 = true then (sakialaw09_SlotLaps.l0 k1 a1 t336 (wrap64 (1 + (wrap64 (Int.tmod a0 64)))) t350 (wrap64 (x8_1 + 1))) else (some false)) = some r := H
         have A17 := Aside0.mk A170
         clear A170
         by_cases c18 : t354 = true
         ·subst c18
          have H1 : (sakialaw09_SlotLaps.l0 k1 a1 t336 (wrap64 (1 + (wrap64 (Int.tmod a0 64)))) t350 (wrap64 (x8_1 + 1))) = some r := by rw [if_pos rfl] at H; exact H
          clear H
          have H := H1
          clear H1
          have H' := Aside0.mk H
          clear H
          obtain ⟨Ao19, co19, eo19⟩ := Kd.R_slice HO_7.out
          subst eo19
          go_wp2_with (first | ((with_reducible refine gate_callee (f := 27) rfl ?_); refine goesL_ (some 35) rfl rfl Try.func27 (by kernel_rfl) rfl #[.slice Ao19 x7_1.length co19, .int .i64 x8_1, .int .i64 (wrap64 (3 * x8_1))] rfl (by (try simp only [List.map_toArray, List.map_cons, List.map_nil]); first | done | rfl | (simp only [List.length_drop, List.length_take]; rfl)) ?_; (with_reducible refine (slot_Write.calls k1 _ _ x7_1 x8_1 (wrap64 (3 * x8_1)) t340 t341 _ ?side1 ?side2 A8.out).mono ?_); (case side1 => repeat (first | exact (Kd.R_reads' HO_7.out).2.2 | (with_reducible refine Kd.C_alloc ?_ _) | (with_reducible refine Kd.C_drewN ?_ _) | (with_reducible refine Kd.C_drew ?_))); (case side2 => exact (Kd.R_reads' HO_7.out).2.1); rintro e w20 ⟨v342, rfl, ho0, hb⟩; refine ⟨_, rfl, ?_⟩; have n0_ := Aside0.mk (Kd.R_elder' (by (with_reducible repeat (first | apply Kd.R_alloc | apply Kd.R_drewN | apply Kd.R_drew)); exact HO_7.out) (Kd.R_base ho0) hb); have n1_ := Aside0.mk (Kd.R_lower (Kd.R_new' ho0 (Kd.R_lt (by (with_reducible repeat (first | apply Kd.R_alloc | apply Kd.R_drewN | apply Kd.R_drew)); exact HO_7.out))) (below_size (by repeat (first | (with_reducible first | exact HB.out | apply bA | apply bN | apply bD) | exact HB.out)))); have n2_ := Aside0.mk (below_step (by repeat (first | (with_reducible first | exact HB.out | apply bA | apply bN | apply bD) | exact HB.out)) hb); clear HO_7; clear HB; have HO_7 := n0_; have HO343 := n1_; have HB := n2_; clear n0_ n1_ n2_; (try clear hb); (try clear hb2); (try clear hk); (try clear hi); (try clear ho0); obtain ⟨Ao21, co21, eo21⟩ := Kd.R_slice HO343.out; subst eo21) | ((with_reducible refine gate_callee (f := 27) rfl ?_); refine goesL_ (some 43) rfl rfl Try.func27 (by kernel_rfl) rfl #[.slice Ao21 t340.length co21, .int .i64 (wrap64 (x8_1 + (wrap64 (1 + (wrap64 (Int.tmod a0 64)))))), .int .i64 5] rfl (by (try simp only [List.map_toArray, List.map_cons, List.map_nil]); first | done | rfl | (simp only [List.length_drop, List.length_take]; rfl)) ?_; (with_reducible refine (slot_Write.calls k1 _ _ t340 (wrap64 (x8_1 + (wrap64 (1 + (wrap64 (Int.tmod a0 64)))))) 5 t344 t345 _ ?side1 ?side2 A9.out).mono ?_); (case side1 => repeat (first | exact (Kd.R_reads' HO343.out).2.2 | (with_reducible refine Kd.C_alloc ?_ _) | (with_reducible refine Kd.C_drewN ?_ _) | (with_reducible refine Kd.C_drew ?_))); (case side2 => exact (Kd.R_reads' HO343.out).2.1); rintro e w22 ⟨v346, rfl, ho0, hb⟩; refine ⟨_, rfl, ?_⟩; have n0_ := Aside0.mk (Kd.R_elder' (by (with_reducible repeat (first | apply Kd.R_alloc | apply Kd.R_drewN | apply Kd.R_drew)); exact HO_7.out) (Kd.R_base ho0) hb); have n1_ := Aside0.mk (Kd.R_elder' (by (with_reducible repeat (first | apply Kd.R_alloc | apply Kd.R_drewN | apply Kd.R_drew)); exact HO343.out) (Kd.R_base ho0) hb); have n2_ := Aside0.mk (Kd.R_lower (Kd.R_new' (Kd.R_new' ho0 (Kd.R_lt (by (with_reducible repeat (first | apply Kd.R_alloc | apply Kd.R_drewN | apply Kd.R_drew)); exact HO_7.out))) (Kd.R_lt (by (with_reducible repeat (first | apply Kd.R_alloc | apply Kd.R_drewN | apply Kd.R_drew)); exact HO343.out))) (below_size (by repeat (first | (with_reducible first | exact HB.out | apply bA | apply bN | apply bD) | exact HB.out)))); have n3_ := Aside0.mk (below_step (by repeat (first | (with_reducible first | exact HB.out | apply bA | apply bN | apply bD) | exact HB.out)) hb); clear HO_7; clear HO343; clear HB; have HO_7 := n0_; have HO343 := n1_; have HO347 := n2_; have HB := n3_; clear n0_ n1_ n2_ n3_; (try clear hb); (try clear hb2); (try clear hk); (try clear hi); (try clear ho0)) | ((with_reducible refine gate_callee (f := 29) rfl ?_); refine goesL_ (some 49) rfl rfl Try.func29 (by kernel_rfl) rfl #[.slice Ao21 t340.length co21, .int .i64 x8_1] rfl (by (try simp only [List.map_toArray, List.map_cons, List.map_nil]); first | done | rfl | (simp only [List.length_drop, List.length_take]; rfl)) ?_; (with_reducible refine (slot_Read.calls k1 _ _ t340 x8_1 t348 t349 _ ?side1 ?side2 A10.out).mono ?_); (case side1 => repeat (first | exact (Kd.R_reads' HO343.out).2.2 | (with_reducible refine Kd.C_alloc ?_ _) | (with_reducible refine Kd.C_drewN ?_ _) | (with_reducible refine Kd.C_drew ?_))); (case side2 => exact (Kd.R_reads' HO343.out).2.1); rintro e w23 ⟨rfl, hb⟩; refine ⟨_, rfl, ?_⟩; have n0_ := Aside0.mk (Kd.R_below (by (with_reducible repeat (first | apply Kd.R_alloc | apply Kd.R_drewN | apply Kd.R_drew)); exact HO_7.out) hb); have n1_ := Aside0.mk (Kd.R_below (by (with_reducible repeat (first | apply Kd.R_alloc | apply Kd.R_drewN | apply Kd.R_drew)); exact HO343.out) hb); have n2_ := Aside0.mk (Kd.R_below (by (with_reducible repeat (first | apply Kd.R_alloc | apply Kd.R_drewN | apply Kd.R_drew)); exact HO347.out) hb); have n3_ := Aside0.mk (below_step (by repeat (first | (with_reducible first | exact HB.out | apply bA | apply bN | apply bD) | exact HB.out)) hb); clear HO_7; clear HO343; clear HO347; clear HB; have HO_7 := n0_; have HO343 := n1_; have HO347 := n2_; have HB := n3_; clear n0_ n1_ n2_ n3_; (try clear hb); (try clear hb2); (try clear hk); (try clear hi)) | ((with_reducible refine gate_callee (f := 31) rfl ?_); refine goesL_ (some 55) rfl rfl Try.func31 (by kernel_rfl) rfl #[.slice Ao21 t340.length co21, .int .i64 x8_1] rfl (by (try simp only [List.map_toArray, List.map_cons, List.map_nil]); first | done | rfl | (simp only [List.length_drop, List.length_take]; rfl)) ?_; (with_reducible refine (slot_Release.calls k1 _ _ t340 x8_1 t350 t351 _ ?side1 ?side2 A11.out).mono ?_); (case side1 => repeat (first | exact (Kd.R_reads' HO343.out).2.2 | (with_reducible refine Kd.C_alloc ?_ _) | (with_reducible refine Kd.C_drewN ?_ _) | (with_reducible refine Kd.C_drew ?_))); (case side2 => exact (Kd.R_reads' HO343.out).2.1); rintro e w24 ⟨v352, rfl, ho0, hb⟩; refine ⟨_, rfl, ?_⟩; have n0_ := Aside0.mk (Kd.R_elder' (by (with_reducible repeat (first | apply Kd.R_alloc | apply Kd.R_drewN | apply Kd.R_drew)); exact HO_7.out) (Kd.R_base ho0) hb); have n1_ := Aside0.mk (Kd.R_elder' (by (with_reducible repeat (first | apply Kd.R_alloc | apply Kd.R_drewN | apply Kd.R_drew)); exact HO343.out) (Kd.R_base ho0) hb); have n2_ := Aside0.mk (Kd.R_elder' (by (with_reducible repeat (first | apply Kd.R_alloc | apply Kd.R_drewN | apply Kd.R_drew)); exact HO347.out) (Kd.R_base ho0) hb); have n3_ := Aside0.mk (Kd.R_lower (Kd.R_new' (Kd.R_new' (Kd.R_new' ho0 (Kd.R_lt (by (with_reducible repeat (first | apply Kd.R_alloc | apply Kd.R_drewN | apply Kd.R_drew)); exact HO_7.out))) (Kd.R_lt (by (with_reducible repeat (first | apply Kd.R_alloc | apply Kd.R_drewN | apply Kd.R_drew)); exact HO343.out))) (Kd.R_lt (by (with_reducible repeat (first | apply Kd.R_alloc | apply Kd.R_drewN | apply Kd.R_drew)); exact HO347.out))) (below_size (by repeat (first | (with_reducible first | exact HB.out | apply bA | apply bN | apply bD) | exact HB.out)))); have n4_ := Aside0.mk (below_step (by repeat (first | (with_reducible first | exact HB.out | apply bA | apply bN | apply bD) | exact HB.out)) hb); clear HO_7; clear HO343; clear HO347; clear HB; have HO_7 := n0_; have HO343 := n1_; have HO347 := n2_; have HO353 := n3_; have HB := n4_; clear n0_ n1_ n2_ n3_ n4_; (try clear hb); (try clear hb2); (try clear hk); (try clear hi); (try clear ho0); obtain ⟨Ao25, co25, eo25⟩ := Kd.R_slice HO353.out; subst eo25) | (go_at_call 36; (with_reducible refine (slot_Check.calls k1 _ _ t350 true _ ?side1 ?side2 A17.out).mono ?_); (case side1 => repeat (first | exact (Kd.R_reads' HO353.out).2.2 | (with_reducible refine Kd.C_alloc ?_ _) | (with_reducible refine Kd.C_drewN ?_ _) | (with_reducible refine Kd.C_drew ?_))); (case side2 => exact (Kd.R_reads' HO353.out).2.1); rintro e w26 ⟨rfl, hb⟩; have n0_ := Aside0.mk (Kd.R_below (by (with_reducible repeat (first | apply Kd.R_alloc | apply Kd.R_drewN | apply Kd.R_drew)); exact HO_7.out) hb); have n1_ := Aside0.mk (Kd.R_below (by (with_reducible repeat (first | apply Kd.R_alloc | apply Kd.R_drewN | apply Kd.R_drew)); exact HO343.out) hb); have n2_ := Aside0.mk (Kd.R_below (by (with_reducible repeat (first | apply Kd.R_alloc | apply Kd.R_drewN | apply Kd.R_drew)); exact HO347.out) hb); have n3_ := Aside0.mk (Kd.R_below (by (with_reducible repeat (first | apply Kd.R_alloc | apply Kd.R_drewN | apply Kd.R_drew)); exact HO353.out) hb); have n4_ := Aside0.mk (below_step (by repeat (first | (with_reducible first | exact HB.out | apply bA | apply bN | apply bD) | exact HB.out)) hb); clear HO_7; clear HO343; clear HO347; clear HO353; clear HB; have HO_7 := n0_; have HO343 := n1_; have HO347 := n2_; have HO353 := n3_; have HB := n4_; clear n0_ n1_ n2_ n3_ n4_; (try clear hb); (try clear hb2); (try clear hk); (try clear hi)))
          go_roundg k1
          case measure => have := HK1.out; omega
          case rel => exact ⟨(t350), (wrap64 (x8_1 + 1)), (by first | rfl | (simp; done) | (simp [*]; done)), H', ⟨by have := HK1.out; omega⟩, ⟨by (with_reducible repeat (first | apply Kd.R_alloc | apply Kd.R_drewN | apply Kd.R_drew)); exact Kd.R_mono HO353.out (fun _ hk => trivial)⟩, ⟨by repeat (first | (with_reducible first | exact HB.out | apply bA | apply bN | apply bD) | exact HB.out)⟩⟩
         ·replace c18 := Bool.eq_false_iff.mpr c18
          subst c18
          have H1 : (some false) = some r := by rw [if_neg (show ¬ (false = true) by decide)] at H; exact H
          clear H
          have H := H1
          clear H1
          exact absurd ((Option.some.inj H).trans HR_.out) (by decide)
        ·rw [if_neg c16] at H
         have c16b0 : (t351 == 0) = false := beq_eq_false_iff_ne.mpr c16
         have c16b1 : (t351 != 0) = true := bne_iff_ne.mpr c16
         exact absurd ((Option.some.inj H).trans HR_.out) (by decide)
       ·rw [if_neg c15] at H
        have c15b0 : (t348 == (wrap64 (3 * x8_1))) = false := beq_eq_false_iff_ne.mpr c15
        have c15b1 : (t348 != (wrap64 (3 * x8_1))) = true := bne_iff_ne.mpr c15
        exact absurd ((Option.some.inj H).trans HR_.out) (by decide)
      ·rw [if_neg c14] at H
       have c14b0 : (t349 == 0) = false := beq_eq_false_iff_ne.mpr c14
       have c14b1 : (t349 != 0) = true := bne_iff_ne.mpr c14
       exact absurd ((Option.some.inj H).trans HR_.out) (by decide)
     ·rw [if_neg c13] at H
      have c13b0 : (t345 == 30) = false := beq_eq_false_iff_ne.mpr c13
      have c13b1 : (t345 != 30) = true := bne_iff_ne.mpr c13
      exact absurd ((Option.some.inj H).trans HR_.out) (by decide)
    ·rw [if_neg c12] at H
     have c12b0 : (t341 == 0) = false := beq_eq_false_iff_ne.mpr c12
     have c12b1 : (t341 != 0) = true := bne_iff_ne.mpr c12
     exact absurd ((Option.some.inj H).trans HR_.out) (by decide)
   ·rw [if_neg c7] at H
    have c7b0 : decide (x8_1 < (wrap64 (a1))) = false := decide_eq_false c7
    clear c7
    by_cases c27 : t336 = true
    ·subst c27
     have H1 : (some ((x7_1.length : Int) == (wrap64 (1 + (wrap64 (Int.tmod a0 64)))))) = some r := by rw [if_pos rfl] at H; exact H
     clear H
     have H := H1
     clear H1
     obtain rfl := Option.some.inj H
     obtain ⟨Ao28, co28, eo28⟩ := Kd.R_slice HO_7.out
     subst eo28
     go_wp2
     go_ret
     exact ⟨by first | rfl | (simp [errW_none, errW_some] <;> rfl) | (simp [*, errW_none, errW_some] <;> rfl), by repeat (first | (with_reducible first | exact HB.out | apply bA | apply bN | apply bD) | exact HB.out)⟩
    ·replace c27 := Bool.eq_false_iff.mpr c27
     subst c27
     have H1 : (some false) = some r := by rw [if_neg (show ¬ (false = true) by decide)] at H; exact H
     clear H
     have H := H1
     clear H1
     exact absurd ((Option.some.inj H).trans HR_.out) (by decide)

/-- THE ONE PURE STATEMENT of sakialaw09_SlotLaps. -/
def sakialaw09_SlotLaps.Pure : Prop := ∀ (a0 : Int) (a1 : Int), (Lit.int .u8 a0).wf = true → (Lit.int .u8 a1).wf = true → ∃ k, sakialaw09_SlotLaps.f k a0 a1 = some true

end Go.Proofs.Ytlpeklhejjidfaa.PL
