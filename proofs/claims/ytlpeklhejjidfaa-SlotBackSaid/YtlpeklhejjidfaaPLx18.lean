-- written by this repo's pp.py (the kit's print, turned by wip/patches.py)
import Derived.Test.YtlpeklhejjidfaaPLx0
import Derived.Test.YtlpeklhejjidfaaPLx10
import Derived.Test.YtlpeklhejjidfaaPLx11
import Derived.Test.YtlpeklhejjidfaaPLx12
import Derived.Test.YtlpeklhejjidfaaPLx13
namespace Go.Proofs.Ytlpeklhejjidfaa.PL
open Go.RowKit Go.Proofs.YtlpeklhejjidfaaW.PrintWords Go.Proofs.YtlpeklhejjidfaaW.PrintLast Go.Proofs.YtlpeklhejjidfaaW.PrintMore
attribute [local go_sem] max2_int min2_int max_two min_two max_three min_three max_four min_four   -- for this text's walks alone
set_option linter.unusedVariables false
set_option linter.unusedSimpArgs false

/-! ### sakialaw09_SlotBack: function 10 -/
def sakialaw09_SlotBack.j0 : Nat → List (S49) → Int → Bool → List (S49) → Bool → Option (Bool)
 | 0, _, _, _, _, _ => none
 | k + 1, x0, x1, x9, x10, x91 => if x91 = true then (some false) else ((slot_Release.f k x10 x1).bind fun bt324 => (if x9 = true then (if bt324.2 = 0 then ((slot_Ready.f k bt324.1 x1).bind fun t328 => (if t328 = true then (some false) else ((slot_Ready.f k bt324.1 (wrap64 (x1 + (x0.length : Int)))).bind fun t329 => (some t329)))) else (if x1 > 1099511627776 then (some true) else (some false))) else (some false)))
def sakialaw09_SlotBack.f (k : Nat) (l0 : List (S49)) (a1 : Int) (a2 : Int) (a3 : Int) : Option (Bool) := (sakialaw09_awake.f k).bind fun t311 => (if (l0.length : Int) > 100 then (some t311) else ((slot_Write.f k l0 a1 a2).bind fun bt312 => (if bt312.2 = 0 then ((slot_Read.f k bt312.1 a1).bind fun bt318 => ((slot_Read.f k l0 a3).bind fun bt320 => ((slot_Read.f k bt312.1 a3).bind fun bt322 => (if bt318.2 = 0 then (if bt318.1 = a2 then (if bt320.2 = bt322.2 then (if a3 = a1 then (sakialaw09_SlotBack.j0 k l0 a1 t311 bt312.1 false) else (sakialaw09_SlotBack.j0 k l0 a1 t311 bt312.1 (bt320.1 != bt322.1))) else (sakialaw09_SlotBack.j0 k l0 a1 t311 bt312.1 true)) else (sakialaw09_SlotBack.j0 k l0 a1 t311 bt312.1 true)) else (sakialaw09_SlotBack.j0 k l0 a1 t311 bt312.1 true))))) else (if t311 = true then ((sakiaref09_Same.f k bt312.1 l0).bind fun t316 => (if t316 = true then (if a1 < 0 then (some ((bt312.2 == 40) == true)) else ((slot_Check.f k l0).bind fun t317 => (some ((bt312.2 == 40) == (!t317))))) else (some false))) else (some false)))))
theorem sakialaw09_SlotBack.mono_l : ∀ k, (∀ y0 y1 y2 y3 y4, LeO (sakialaw09_SlotBack.j0 k y0 y1 y2 y3 y4) (sakialaw09_SlotBack.j0 (k + 1) y0 y1 y2 y3 y4))
 | 0 => fun _ _ _ _ _ r h => by simp [sakialaw09_SlotBack.j0] at h
 | k + 1 => by
  have ih0 := sakialaw09_SlotBack.mono_l k
  ·intro y0 y1 y2 y3 y4
   unfold sakialaw09_SlotBack.j0
   repeat' first
   | (with_reducible exact ih0 _ _ _ _ _)
   | (with_reducible exact sakialaw09_awake.mono _)
   | (with_reducible exact sakiaref09_Same.mono _ _ _)
   | (with_reducible exact slot_Check.mono _ _)
   | (with_reducible exact slot_Read.mono _ _ _)
   | (with_reducible exact slot_Ready.mono _ _ _)
   | (with_reducible exact slot_Release.mono _ _ _)
   | (with_reducible exact slot_Write.mono _ _ _ _)
   | (with_reducible exact LeO.refl _)
   | (with_reducible exact LeO.none _)
   | (with_reducible refine LeO.ite ?_ ?_)
   | (with_reducible refine LeO.bind ?_ (fun _ => ?_))
   | exact ih0 _ _ _ _ _
   | exact sakialaw09_awake.mono _
   | exact sakiaref09_Same.mono _ _ _
   | exact slot_Check.mono _ _
   | exact slot_Read.mono _ _ _
   | exact slot_Ready.mono _ _ _
   | exact slot_Release.mono _ _ _
   | exact slot_Write.mono _ _ _ _
   | exact LeO.none _
   | refine LeO.ite ?_ ?_
   | refine LeO.bind ?_ (fun _ => ?_)
theorem sakialaw09_SlotBack.mono : ∀ a0 a1 a2 a3 k, LeO (sakialaw09_SlotBack.f k a0 a1 a2 a3) (sakialaw09_SlotBack.f (k + 1) a0 a1 a2 a3) := by
 intro a0 a1 a2 a3 k
 have ih0 := sakialaw09_SlotBack.mono_l k
 unfold sakialaw09_SlotBack.f
 repeat' first
   | (with_reducible exact ih0 _ _ _ _ _)
   | (with_reducible exact sakialaw09_awake.mono _)
   | (with_reducible exact sakiaref09_Same.mono _ _ _)
   | (with_reducible exact slot_Check.mono _ _)
   | (with_reducible exact slot_Read.mono _ _ _)
   | (with_reducible exact slot_Ready.mono _ _ _)
   | (with_reducible exact slot_Release.mono _ _ _)
   | (with_reducible exact slot_Write.mono _ _ _ _)
   | (with_reducible exact LeO.refl _)
   | (with_reducible exact LeO.none _)
   | (with_reducible refine LeO.ite ?_ ?_)
   | (with_reducible refine LeO.bind ?_ (fun _ => ?_))
   | exact ih0 _ _ _ _ _
   | exact sakialaw09_awake.mono _
   | exact sakiaref09_Same.mono _ _ _
   | exact slot_Check.mono _ _
   | exact slot_Read.mono _ _ _
   | exact slot_Ready.mono _ _ _
   | exact slot_Release.mono _ _ _
   | exact slot_Write.mono _ _ _ _
   | exact LeO.none _
   | refine LeO.ite ?_ ?_
   | refine LeO.bind ?_ (fun _ => ?_)
set_option maxHeartbeats 8000000 in
set_option maxRecDepth 100000 in
theorem sakialaw09_SlotBack.calls (k : Nat) (A0 : Option Addr) (c0 : Nat) (l0 : List (S49)) (a1 : Int) (a2 : Int) (a3 : Int) (r : Bool) (w : World) (hr0 : Kd.C k49 w A0 l0.length l0) (hc0 : l0.length ≤ c0) (hr_ : r = true) (h : sakialaw09_SlotBack.f k l0 a1 a2 a3 = some r) :
  Calls Try.prog 10 #[.slice A0 l0.length c0, .int .i64 a1, .int .i64 a2, .int .i64 a3] w fun e w' => e = .returned (.bool r) ∧ Below w.heap.size w w' := by
 have HR0 := Aside0.mk hr0
 have HC0 := Aside0.mk hc0
 clear hr0 hc0
 have HB := Aside0.mk (Below.refl w.heap.size w)
 have HR_ := Aside0.mk hr_
 clear hr_
 have H : ((sakialaw09_awake.f k).bind fun t311 => (if (l0.length : Int) > 100 then (some t311) else ((slot_Write.f k l0 a1 a2).bind fun bt312 => (if bt312.2 = 0 then ((slot_Read.f k bt312.1 a1).bind fun bt318 => ((slot_Read.f k l0 a3).bind fun bt320 => ((slot_Read.f k bt312.1 a3).bind fun bt322 => (if bt318.2 = 0 then (if bt318.1 = a2 then (if bt320.2 = bt322.2 then (if a3 = a1 then (sakialaw09_SlotBack.j0 k l0 a1 t311 bt312.1 false) else (sakialaw09_SlotBack.j0 k l0 a1 t311 bt312.1 (bt320.1 != bt322.1))) else (sakialaw09_SlotBack.j0 k l0 a1 t311 bt312.1 true)) else (sakialaw09_SlotBack.j0 k l0 a1 t311 bt312.1 true)) else (sakialaw09_SlotBack.j0 k l0 a1 t311 bt312.1 true))))) else (if t311 = true then ((sakiaref09_Same.f k bt312.1 l0).bind fun t316 => (if t316 = true then (if a1 < 0 then (some ((bt312.2 == 40) == true)) else ((slot_Check.f k l0).bind fun t317 => (some ((bt312.2 == 40) == (!t317))))) else (some false))) else (some false)))))) = some r := h
 clear h
 replace H := Option.bind_eq_some_iff.mp H
 obtain ⟨t311, A50, H⟩ := H
 replace H : (if (l0.length : Int) > 100 then (some t311) else ((slot_Write.f k l0 a1 a2).bind fun bt312 => (if bt312.2 = 0 then ((slot_Read.f k bt312.1 a1).bind fun bt318 => ((slot_Read.f k l0 a3).bind fun bt320 => ((slot_Read.f k bt312.1 a3).bind fun bt322 => (if bt318.2 = 0 then (if bt318.1 = a2 then (if bt320.2 = bt322.2 then (if a3 = a1 then (sakialaw09_SlotBack.j0 k l0 a1 t311 bt312.1 false) else (sakialaw09_SlotBack.j0 k l0 a1 t311 bt312.1 (bt320.1 != bt322.1))) else (sakialaw09_SlotBack.j0 k l0 a1 t311 bt312.1 true)) else (sakialaw09_SlotBack.j0 k l0 a1 t311 bt312.1 true)) else (sakialaw09_SlotBack.j0 k l0 a1 t311 bt312.1 true))))) else (if t311 = true then ((sakiaref09_Same.f k bt312.1 l0).bind fun t316 => (if t316 = true then (if a1 < 0 then (some ((bt312.2 == 40) == true)) else ((slot_Check.f k l0).bind fun t317 => (some ((bt312.2 == 40) == (!t317))))) else (some false))) else (some false))))) = some r := H
 have A5 := Aside0.mk A50
 clear A50
 by_cases c6 : (l0.length : Int) > 100
 ·rw [if_pos c6] at H
  have c6b0 : decide (100 < (l0.length : Int)) = true := decide_eq_true c6
  have c6b1 : decide (100 < l0.length) = true := decide_eq_true (by omega)
  clear c6
  obtain rfl := Option.some.inj H
  go_enter Try.func10, Try.ntmps10
  go_wp2_with (first | ((with_reducible refine gate_callee (f := 26) rfl ?_); refine goesL_ (some 20) rfl rfl Try.func26 (by kernel_rfl) rfl #[] rfl (by (try simp only [List.map_toArray, List.map_cons, List.map_nil]); first | done | rfl | (simp only [List.length_drop, List.length_take]; rfl)) ?_; (with_reducible refine (sakialaw09_awake.calls k  t311 _ A5.out).mono ?_); rintro e w7 ⟨rfl, hb⟩; refine ⟨_, rfl, ?_⟩; have n0_ := Aside0.mk (below_step (by repeat (first | (with_reducible first | exact HB.out | apply bA | apply bN | apply bD) | exact HB.out)) hb); clear HB; have HB := n0_; clear n0_; (try clear hb); (try clear hb2); (try clear hk); (try clear hi)))
  go_ret
  exact ⟨by first | rfl | (simp [errW_none, errW_some] <;> rfl) | (simp [*, errW_none, errW_some] <;> rfl), by repeat (first | (with_reducible first | exact HB.out | apply bA | apply bN | apply bD) | exact HB.out)⟩
 ·rw [if_neg c6] at H
  have c6b0 : decide (100 < (l0.length : Int)) = false := decide_eq_false c6
  have c6b1 : decide (100 < l0.length) = false := decide_eq_false (by omega)
  clear c6
  replace H := Option.bind_eq_some_iff.mp H
  obtain ⟨⟨t312, t313⟩, A80, H⟩ := H
  replace H : (if t313 = 0 then ((slot_Read.f k t312 a1).bind fun bt318 => ((slot_Read.f k l0 a3).bind fun bt320 => ((slot_Read.f k t312 a3).bind fun bt322 => (if bt318.2 = 0 then (if bt318.1 = a2 then (if bt320.2 = bt322.2 then (if a3 = a1 then (sakialaw09_SlotBack.j0 k l0 a1 t311 t312 false) else (sakialaw09_SlotBack.j0 k l0 a1 t311 t312 (bt320.1 != bt322.1))) else (sakialaw09_SlotBack.j0 k l0 a1 t311 t312 true)) else (sakialaw09_SlotBack.j0 k l0 a1 t311 t312 true)) else (sakialaw09_SlotBack.j0 k l0 a1 t311 t312 true))))) else (if t311 = true then ((sakiaref09_Same.f k t312 l0).bind fun t316 => (if t316 = true then (if a1 < 0 then (some ((t313 == 40) == true)) else ((slot_Check.f k l0).bind fun t317 => (some ((t313 == 40) == (!t317))))) else (some false))) else (some false))) = some r := H
  have A8 := Aside0.mk A80
  clear A80
  by_cases c9 : t313 = 0
  ·rw [if_pos c9] at H
   have c9b0 : (t313 == 0) = true := beq_iff_eq.mpr c9
   have c9b1 : (t313 != 0) = false := bne_eq_false_iff_eq.mpr c9
   clear c9
   replace H := Option.bind_eq_some_iff.mp H
   obtain ⟨⟨t318, t319⟩, A100, H⟩ := H
   replace H : ((slot_Read.f k l0 a3).bind fun bt320 => ((slot_Read.f k t312 a3).bind fun bt322 => (if t319 = 0 then (if t318 = a2 then (if bt320.2 = bt322.2 then (if a3 = a1 then (sakialaw09_SlotBack.j0 k l0 a1 t311 t312 false) else (sakialaw09_SlotBack.j0 k l0 a1 t311 t312 (bt320.1 != bt322.1))) else (sakialaw09_SlotBack.j0 k l0 a1 t311 t312 true)) else (sakialaw09_SlotBack.j0 k l0 a1 t311 t312 true)) else (sakialaw09_SlotBack.j0 k l0 a1 t311 t312 true)))) = some r := H
   have A10 := Aside0.mk A100
   clear A100
   replace H := Option.bind_eq_some_iff.mp H
   obtain ⟨⟨t320, t321⟩, A110, H⟩ := H
   replace H : ((slot_Read.f k t312 a3).bind fun bt322 => (if t319 = 0 then (if t318 = a2 then (if t321 = bt322.2 then (if a3 = a1 then (sakialaw09_SlotBack.j0 k l0 a1 t311 t312 false) else (sakialaw09_SlotBack.j0 k l0 a1 t311 t312 (t320 != bt322.1))) else (sakialaw09_SlotBack.j0 k l0 a1 t311 t312 true)) else (sakialaw09_SlotBack.j0 k l0 a1 t311 t312 true)) else (sakialaw09_SlotBack.j0 k l0 a1 t311 t312 true))) = some r := H
   have A11 := Aside0.mk A110
   clear A110
   replace H := Option.bind_eq_some_iff.mp H
   obtain ⟨⟨t322, t323⟩, A120, H⟩ := H
   replace H : (if t319 = 0 then (if t318 = a2 then (if t321 = t323 then (if a3 = a1 then (sakialaw09_SlotBack.j0 k l0 a1 t311 t312 false) else (sakialaw09_SlotBack.j0 k l0 a1 t311 t312 (t320 != t322))) else (sakialaw09_SlotBack.j0 k l0 a1 t311 t312 true)) else (sakialaw09_SlotBack.j0 k l0 a1 t311 t312 true)) else (sakialaw09_SlotBack.j0 k l0 a1 t311 t312 true)) = some r := H
   have A12 := Aside0.mk A120
   clear A120
   have HC13 := Aside0.mk H
   clear H
   go_enter Try.func10, Try.ntmps10
   go_upto_region 10 with (first | ((with_reducible refine gate_callee (f := 26) rfl ?_); refine goesL_ (some 20) rfl rfl Try.func26 (by kernel_rfl) rfl #[] rfl (by (try simp only [List.map_toArray, List.map_cons, List.map_nil]); first | done | rfl | (simp only [List.length_drop, List.length_take]; rfl)) ?_; (with_reducible refine (sakialaw09_awake.calls k  t311 _ A5.out).mono ?_); rintro e w14 ⟨rfl, hb⟩; refine ⟨_, rfl, ?_⟩; have n0_ := Aside0.mk (below_step (by repeat (first | (with_reducible first | exact HB.out | apply bA | apply bN | apply bD) | exact HB.out)) hb); clear HB; have HB := n0_; clear n0_; (try clear hb); (try clear hb2); (try clear hk); (try clear hi)) | ((with_reducible refine gate_callee (f := 27) rfl ?_); refine goesL_ (some 29) rfl rfl Try.func27 (by kernel_rfl) rfl #[.slice A0 l0.length c0, .int .i64 a1, .int .i64 a2] rfl (by (try simp only [List.map_toArray, List.map_cons, List.map_nil]); first | done | rfl | (simp only [List.length_drop, List.length_take]; rfl)) ?_; (with_reducible refine (slot_Write.calls k _ _ l0 a1 a2 t312 t313 _ ?side1 ?side2 A8.out).mono ?_); (case side1 => repeat (first | exact (Kd.C_below HR0.out HB.out) | (with_reducible refine Kd.C_alloc ?_ _) | (with_reducible refine Kd.C_drewN ?_ _) | (with_reducible refine Kd.C_drew ?_))); (case side2 => exact HC0.out); rintro e w15 ⟨v314, rfl, ho0, hb⟩; refine ⟨_, rfl, ?_⟩; have n0_ := Aside0.mk (Kd.R_lower ho0 (below_size (by repeat (first | (with_reducible first | exact HB.out | apply bA | apply bN | apply bD) | exact HB.out)))); have n1_ := Aside0.mk (below_step (by repeat (first | (with_reducible first | exact HB.out | apply bA | apply bN | apply bD) | exact HB.out)) hb); clear HB; have HO315 := n0_; have HB := n1_; clear n0_ n1_; (try clear hb); (try clear hb2); (try clear hk); (try clear hi); (try clear ho0); obtain ⟨Ao16, co16, eo16⟩ := Kd.R_slice HO315.out; subst eo16) | ((with_reducible refine gate_callee (f := 29) rfl ?_); refine goesL_ (some 55) rfl rfl Try.func29 (by kernel_rfl) rfl #[.slice Ao16 t312.length co16, .int .i64 a1] rfl (by (try simp only [List.map_toArray, List.map_cons, List.map_nil]); first | done | rfl | (simp only [List.length_drop, List.length_take]; rfl)) ?_; (with_reducible refine (slot_Read.calls k _ _ t312 a1 t318 t319 _ ?side1 ?side2 A10.out).mono ?_); (case side1 => repeat (first | exact (Kd.R_reads' HO315.out).2.2 | (with_reducible refine Kd.C_alloc ?_ _) | (with_reducible refine Kd.C_drewN ?_ _) | (with_reducible refine Kd.C_drew ?_))); (case side2 => exact (Kd.R_reads' HO315.out).2.1); rintro e w17 ⟨rfl, hb⟩; refine ⟨_, rfl, ?_⟩; have n0_ := Aside0.mk (Kd.R_below (by (with_reducible repeat (first | apply Kd.R_alloc | apply Kd.R_drewN | apply Kd.R_drew)); exact HO315.out) hb); have n1_ := Aside0.mk (below_step (by repeat (first | (with_reducible first | exact HB.out | apply bA | apply bN | apply bD) | exact HB.out)) hb); clear HO315; clear HB; have HO315 := n0_; have HB := n1_; clear n0_ n1_; (try clear hb); (try clear hb2); (try clear hk); (try clear hi)) | ((with_reducible refine gate_callee (f := 29) rfl ?_); refine goesL_ (some 61) rfl rfl Try.func29 (by kernel_rfl) rfl #[.slice A0 l0.length c0, .int .i64 a3] rfl (by (try simp only [List.map_toArray, List.map_cons, List.map_nil]); first | done | rfl | (simp only [List.length_drop, List.length_take]; rfl)) ?_; (with_reducible refine (slot_Read.calls k _ _ l0 a3 t320 t321 _ ?side1 ?side2 A11.out).mono ?_); (case side1 => repeat (first | exact (Kd.C_below HR0.out HB.out) | (with_reducible refine Kd.C_alloc ?_ _) | (with_reducible refine Kd.C_drewN ?_ _) | (with_reducible refine Kd.C_drew ?_))); (case side2 => exact HC0.out); rintro e w18 ⟨rfl, hb⟩; refine ⟨_, rfl, ?_⟩; have n0_ := Aside0.mk (Kd.R_below (by (with_reducible repeat (first | apply Kd.R_alloc | apply Kd.R_drewN | apply Kd.R_drew)); exact HO315.out) hb); have n1_ := Aside0.mk (below_step (by repeat (first | (with_reducible first | exact HB.out | apply bA | apply bN | apply bD) | exact HB.out)) hb); clear HO315; clear HB; have HO315 := n0_; have HB := n1_; clear n0_ n1_; (try clear hb); (try clear hb2); (try clear hk); (try clear hi)) | ((with_reducible refine gate_callee (f := 29) rfl ?_); refine goesL_ (some 67) rfl rfl Try.func29 (by kernel_rfl) rfl #[.slice Ao16 t312.length co16, .int .i64 a3] rfl (by (try simp only [List.map_toArray, List.map_cons, List.map_nil]); first | done | rfl | (simp only [List.length_drop, List.length_take]; rfl)) ?_; (with_reducible refine (slot_Read.calls k _ _ t312 a3 t322 t323 _ ?side1 ?side2 A12.out).mono ?_); (case side1 => repeat (first | exact (Kd.R_reads' HO315.out).2.2 | (with_reducible refine Kd.C_alloc ?_ _) | (with_reducible refine Kd.C_drewN ?_ _) | (with_reducible refine Kd.C_drew ?_))); (case side2 => exact (Kd.R_reads' HO315.out).2.1); rintro e w19 ⟨rfl, hb⟩; refine ⟨_, rfl, ?_⟩; have n0_ := Aside0.mk (Kd.R_below (by (with_reducible repeat (first | apply Kd.R_alloc | apply Kd.R_drewN | apply Kd.R_drew)); exact HO315.out) hb); have n1_ := Aside0.mk (below_step (by repeat (first | (with_reducible first | exact HB.out | apply bA | apply bN | apply bD) | exact HB.out)) hb); clear HO315; clear HB; have HO315 := n0_; have HB := n1_; clear n0_ n1_; (try clear hb); (try clear hb2); (try clear hk); (try clear hi)))
   (try simp only [Act.put, List.setIfInBounds_toArray, List.set_cons_zero, List.set_cons_succ])
   go_cut [91] (fun v91 wc => ∃ (kq : Nat) (x91_12 : Bool), v91 = .bool x91_12 ∧ Aside0 (sakialaw09_SlotBack.j0 kq l0 a1 t311 t312 x91_12 = some r) ∧ Aside0 (kq ≤ k) ∧ Aside0 (Kd.R k49 49 wc w.heap.size (fun _ => True) (.slice Ao16 t312.length co16) t312) ∧ Aside0 (Below w.heap.size w wc))
   case first =>
    have H := HC13.out
    clear HC13
    by_cases c20 : t319 = 0
    ·rw [if_pos c20] at H
     have c20b0 : (t319 == 0) = true := beq_iff_eq.mpr c20
     have c20b1 : (t319 != 0) = false := bne_eq_false_iff_eq.mpr c20
     clear c20
     (first | rw [c20b0] | (simp only [i64_w, i32_w]; rw [c20b0]) | skip)
     by_cases c21 : t318 = a2
     ·rw [if_pos c21] at H
      have c21b0 : (t318 == a2) = true := beq_iff_eq.mpr c21
      have c21b1 : (t318 != a2) = false := bne_eq_false_iff_eq.mpr c21
      clear c21
      by_cases c22 : t321 = t323
      ·rw [if_pos c22] at H
       have c22b0 : (t321 == t323) = true := beq_iff_eq.mpr c22
       have c22b1 : (t321 != t323) = false := bne_eq_false_iff_eq.mpr c22
       clear c22
       by_cases c23 : a3 = a1
       ·rw [if_pos c23] at H
        have c23b0 : (a3 == a1) = true := beq_iff_eq.mpr c23
        have c23b1 : (a3 != a1) = false := bne_eq_false_iff_eq.mpr c23
        clear c23
        have H' := Aside0.mk H
        clear H
        go_wp2
        go_meet
        case rel => exact ⟨_, (false), (by first | rfl | (simp; done) | (simp [*]; done)), H', ⟨by first | omega | exact Nat.le_refl _⟩, ⟨by (with_reducible repeat (first | apply Kd.R_alloc | apply Kd.R_drewN | apply Kd.R_drew)); exact HO315.out⟩, ⟨by repeat (first | (with_reducible first | exact HB.out | apply bA | apply bN | apply bD) | exact HB.out)⟩⟩
       ·rw [if_neg c23] at H
        have c23b0 : (a3 == a1) = false := beq_eq_false_iff_ne.mpr c23
        have c23b1 : (a3 != a1) = true := bne_iff_ne.mpr c23
        have H' := Aside0.mk H
        clear H
        go_wp2
        go_meet
        case rel => exact ⟨_, ((t320 != t322)), (by first | rfl | (simp; done) | (simp [*]; done)), H', ⟨by first | omega | exact Nat.le_refl _⟩, ⟨by (with_reducible repeat (first | apply Kd.R_alloc | apply Kd.R_drewN | apply Kd.R_drew)); exact HO315.out⟩, ⟨by repeat (first | (with_reducible first | exact HB.out | apply bA | apply bN | apply bD) | exact HB.out)⟩⟩
      ·rw [if_neg c22] at H
       have c22b0 : (t321 == t323) = false := beq_eq_false_iff_ne.mpr c22
       have c22b1 : (t321 != t323) = true := bne_iff_ne.mpr c22
       have H' := Aside0.mk H
       clear H
       go_wp2
       go_meet
       case rel => exact ⟨_, (true), (by first | rfl | (simp; done) | (simp [*]; done)), H', ⟨by first | omega | exact Nat.le_refl _⟩, ⟨by (with_reducible repeat (first | apply Kd.R_alloc | apply Kd.R_drewN | apply Kd.R_drew)); exact HO315.out⟩, ⟨by repeat (first | (with_reducible first | exact HB.out | apply bA | apply bN | apply bD) | exact HB.out)⟩⟩
     ·rw [if_neg c21] at H
      have c21b0 : (t318 == a2) = false := beq_eq_false_iff_ne.mpr c21
      have c21b1 : (t318 != a2) = true := bne_iff_ne.mpr c21
      have H' := Aside0.mk H
      clear H
      go_wp2
      go_meet
      case rel => exact ⟨_, (true), (by first | rfl | (simp; done) | (simp [*]; done)), H', ⟨by first | omega | exact Nat.le_refl _⟩, ⟨by (with_reducible repeat (first | apply Kd.R_alloc | apply Kd.R_drewN | apply Kd.R_drew)); exact HO315.out⟩, ⟨by repeat (first | (with_reducible first | exact HB.out | apply bA | apply bN | apply bD) | exact HB.out)⟩⟩
    ·rw [if_neg c20] at H
     have c20b0 : (t319 == 0) = false := beq_eq_false_iff_ne.mpr c20
     have c20b1 : (t319 != 0) = true := bne_iff_ne.mpr c20
     (first | rw [c20b0] | (simp only [i64_w, i32_w]; rw [c20b0]) | skip)
     have H' := Aside0.mk H
     clear H
     go_wp2
     go_meet
     case rel => exact ⟨_, (true), (by first | rfl | (simp; done) | (simp [*]; done)), H', ⟨by first | omega | exact Nat.le_refl _⟩, ⟨by (with_reducible repeat (first | apply Kd.R_alloc | apply Kd.R_drewN | apply Kd.R_drew)); exact HO315.out⟩, ⟨by repeat (first | (with_reducible first | exact HB.out | apply bA | apply bN | apply bD) | exact HB.out)⟩⟩
   case rest =>
    clear HC13
    try clear c1
    try clear c2
    try clear p2
    try clear c6
    try clear c6b0
    try clear c6b1
    try clear c9
    try clear c9b0
    try clear c9b1
    try clear c10
    try clear c20
    try clear c20b0
    try clear c20b1
    try clear c21
    try clear c21b0
    try clear c21b1
    try clear c22
    try clear c22b0
    try clear c22b1
    try clear c23
    try clear c23b0
    try clear c23b1
    obtain ⟨kq, x91_12, rfl, HA, HJ12, HO_10, HB⟩ := hcut
    cases kq with
    | zero => exact absurd HA.out (by simp [sakialaw09_SlotBack.j0])
    | succ kj12 =>
     have H := HA.out
     clear HA
     simp only [sakialaw09_SlotBack.j0] at H
     by_cases c24 : x91_12 = true
     ·subst c24
      have H1 : (some false) = some r := by rw [if_pos rfl] at H; exact H
      clear H
      have H := H1
      clear H1
      exact absurd ((Option.some.inj H).trans HR_.out) (by decide)
     ·replace c24 := Bool.eq_false_iff.mpr c24
      subst c24
      have H1 : ((slot_Release.f kj12 t312 a1).bind fun bt324 => (if t311 = true then (if bt324.2 = 0 then ((slot_Ready.f kj12 bt324.1 a1).bind fun t328 => (if t328 = true then (some false) else ((slot_Ready.f kj12 bt324.1 (wrap64 (a1 + (l0.length : Int)))).bind fun t329 => (some t329)))) else (if a1 > 1099511627776 then (some true) else (some false))) else (some false))) = some r := by rw [if_neg (show ¬ (false = true) by decide)] at H; exact H
      clear H
      have H := H1
      clear H1
      replace H := Option.bind_eq_some_iff.mp H
      obtain ⟨⟨t324, t325⟩, A250, H⟩ := H
      replace H : (if t311 = true then (if t325 = 0 then ((slot_Ready.f kj12 t324 a1).bind fun t328 => (if t328 = true then (some false) else ((slot_Ready.f kj12 t324 (wrap64 (a1 + (l0.length : Int)))).bind fun t329 => (some t329)))) else (if a1 > 1099511627776 then (some true) else (some false))) else (some false)) = some r := H
      have A25 := Aside0.mk A250
      clear A250
      by_cases c26 : t311 = true
      ·subst c26
       have H1 : (if t325 = 0 then ((slot_Ready.f kj12 t324 a1).bind fun t328 => (if t328 = true then (some false) else ((slot_Ready.f kj12 t324 (wrap64 (a1 + (l0.length : Int)))).bind fun t329 => (some t329)))) else (if a1 > 1099511627776 then (some true) else (some false))) = some r := by rw [if_pos rfl] at H; exact H
       clear H
       have H := H1
       clear H1
       by_cases c27 : t325 = 0
       ·rw [if_pos c27] at H
        have c27b0 : (t325 == 0) = true := beq_iff_eq.mpr c27
        have c27b1 : (t325 != 0) = false := bne_eq_false_iff_eq.mpr c27
        clear c27
        replace H := Option.bind_eq_some_iff.mp H
        obtain ⟨t328, A280, H⟩ := H
        replace H : (if t328 = true then (some false) else ((slot_Ready.f kj12 t324 (wrap64 (a1 + (l0.length : Int)))).bind fun t329 => (some t329))) = some r := H
        have A28 := Aside0.mk A280
        clear A280
        by_cases c29 : t328 = true
        ·subst c29
         have H1 : (some false) = some r := by rw [if_pos rfl] at H; exact H
         clear H
         have H := H1
         clear H1
         exact absurd ((Option.some.inj H).trans HR_.out) (by decide)
        ·replace c29 := Bool.eq_false_iff.mpr c29
         subst c29
         have H1 : ((slot_Ready.f kj12 t324 (wrap64 (a1 + (l0.length : Int)))).bind fun t329 => (some t329)) = some r := by rw [if_neg (show ¬ (false = true) by decide)] at H; exact H
         clear H
         have H := H1
         clear H1
         replace H := Option.bind_eq_some_iff.mp H
         obtain ⟨t329, A300, H⟩ := H
         replace H : (some t329) = some r := H
         have A30 := Aside0.mk A300
         clear A300
         obtain rfl := Option.some.inj H
         go_wp2_with (first | ((with_reducible refine gate_callee (f := 31) rfl ?_); refine goesL_ (some 95) rfl rfl Try.func31 (by kernel_rfl) rfl #[.slice Ao16 t312.length co16, .int .i64 a1] rfl (by (try simp only [List.map_toArray, List.map_cons, List.map_nil]); first | done | rfl | (simp only [List.length_drop, List.length_take]; rfl)) ?_; (with_reducible refine (slot_Release.calls kj12 _ _ t312 a1 t324 t325 _ ?side1 ?side2 A25.out).mono ?_); (case side1 => repeat (first | exact (Kd.R_reads' HO_10.out).2.2 | (with_reducible refine Kd.C_alloc ?_ _) | (with_reducible refine Kd.C_drewN ?_ _) | (with_reducible refine Kd.C_drew ?_))); (case side2 => exact (Kd.R_reads' HO_10.out).2.1); rintro e w31 ⟨v326, rfl, ho0, hb⟩; refine ⟨_, rfl, ?_⟩; have n0_ := Aside0.mk (Kd.R_elder' (by (with_reducible repeat (first | apply Kd.R_alloc | apply Kd.R_drewN | apply Kd.R_drew)); exact HO_10.out) (Kd.R_base ho0) hb); have n1_ := Aside0.mk (Kd.R_lower (Kd.R_new' ho0 (Kd.R_lt (by (with_reducible repeat (first | apply Kd.R_alloc | apply Kd.R_drewN | apply Kd.R_drew)); exact HO_10.out))) (below_size (by repeat (first | (with_reducible first | exact HB.out | apply bA | apply bN | apply bD) | exact HB.out)))); have n2_ := Aside0.mk (below_step (by repeat (first | (with_reducible first | exact HB.out | apply bA | apply bN | apply bD) | exact HB.out)) hb); clear HO_10; clear HB; have HO_10 := n0_; have HO327 := n1_; have HB := n2_; clear n0_ n1_ n2_; (try clear hb); (try clear hb2); (try clear hk); (try clear hi); (try clear ho0); obtain ⟨Ao32, co32, eo32⟩ := Kd.R_slice HO327.out; subst eo32) | (go_at_call 38; (with_reducible refine (slot_Ready.calls kj12 _ _ t324 a1 false _ ?side1 ?side2 A28.out).mono ?_); (case side1 => repeat (first | exact (Kd.R_reads' HO327.out).2.2 | (with_reducible refine Kd.C_alloc ?_ _) | (with_reducible refine Kd.C_drewN ?_ _) | (with_reducible refine Kd.C_drew ?_))); (case side2 => exact (Kd.R_reads' HO327.out).2.1); rintro e w33 ⟨rfl, hb⟩; have n0_ := Aside0.mk (Kd.R_below (by (with_reducible repeat (first | apply Kd.R_alloc | apply Kd.R_drewN | apply Kd.R_drew)); exact HO_10.out) hb); have n1_ := Aside0.mk (Kd.R_below (by (with_reducible repeat (first | apply Kd.R_alloc | apply Kd.R_drewN | apply Kd.R_drew)); exact HO327.out) hb); have n2_ := Aside0.mk (below_step (by repeat (first | (with_reducible first | exact HB.out | apply bA | apply bN | apply bD) | exact HB.out)) hb); clear HO_10; clear HO327; clear HB; have HO_10 := n0_; have HO327 := n1_; have HB := n2_; clear n0_ n1_ n2_; (try clear hb); (try clear hb2); (try clear hk); (try clear hi)) | (go_at_call 38; (with_reducible refine (slot_Ready.calls kj12 _ _ t324 (wrap64 (a1 + (l0.length : Int))) t329 _ ?side1 ?side2 A30.out).mono ?_); (case side1 => repeat (first | exact (Kd.R_reads' HO327.out).2.2 | (with_reducible refine Kd.C_alloc ?_ _) | (with_reducible refine Kd.C_drewN ?_ _) | (with_reducible refine Kd.C_drew ?_))); (case side2 => exact (Kd.R_reads' HO327.out).2.1); rintro e w34 ⟨rfl, hb⟩; have n0_ := Aside0.mk (Kd.R_below (by (with_reducible repeat (first | apply Kd.R_alloc | apply Kd.R_drewN | apply Kd.R_drew)); exact HO_10.out) hb); have n1_ := Aside0.mk (Kd.R_below (by (with_reducible repeat (first | apply Kd.R_alloc | apply Kd.R_drewN | apply Kd.R_drew)); exact HO327.out) hb); have n2_ := Aside0.mk (below_step (by repeat (first | (with_reducible first | exact HB.out | apply bA | apply bN | apply bD) | exact HB.out)) hb); clear HO_10; clear HO327; clear HB; have HO_10 := n0_; have HO327 := n1_; have HB := n2_; clear n0_ n1_ n2_; (try clear hb); (try clear hb2); (try clear hk); (try clear hi)))
         go_ret
         exact ⟨by first | rfl | (simp [errW_none, errW_some] <;> rfl) | (simp [*, errW_none, errW_some] <;> rfl), by repeat (first | (with_reducible first | exact HB.out | apply bA | apply bN | apply bD) | exact HB.out)⟩
       ·rw [if_neg c27] at H
        have c27b0 : (t325 == 0) = false := beq_eq_false_iff_ne.mpr c27
        have c27b1 : (t325 != 0) = true := bne_iff_ne.mpr c27
        by_cases c35 : a1 > 1099511627776
        ·rw [if_pos c35] at H
         have c35b0 : decide (1099511627776 < a1) = true := decide_eq_true c35
         clear c35
         obtain rfl := Option.some.inj H
         go_wp2_with (first | ((with_reducible refine gate_callee (f := 31) rfl ?_); refine goesL_ (some 95) rfl rfl Try.func31 (by kernel_rfl) rfl #[.slice Ao16 t312.length co16, .int .i64 a1] rfl (by (try simp only [List.map_toArray, List.map_cons, List.map_nil]); first | done | rfl | (simp only [List.length_drop, List.length_take]; rfl)) ?_; (with_reducible refine (slot_Release.calls kj12 _ _ t312 a1 t324 t325 _ ?side1 ?side2 A25.out).mono ?_); (case side1 => repeat (first | exact (Kd.R_reads' HO_10.out).2.2 | (with_reducible refine Kd.C_alloc ?_ _) | (with_reducible refine Kd.C_drewN ?_ _) | (with_reducible refine Kd.C_drew ?_))); (case side2 => exact (Kd.R_reads' HO_10.out).2.1); rintro e w36 ⟨v326, rfl, ho0, hb⟩; refine ⟨_, rfl, ?_⟩; have n0_ := Aside0.mk (Kd.R_elder' (by (with_reducible repeat (first | apply Kd.R_alloc | apply Kd.R_drewN | apply Kd.R_drew)); exact HO_10.out) (Kd.R_base ho0) hb); have n1_ := Aside0.mk (Kd.R_lower (Kd.R_new' ho0 (Kd.R_lt (by (with_reducible repeat (first | apply Kd.R_alloc | apply Kd.R_drewN | apply Kd.R_drew)); exact HO_10.out))) (below_size (by repeat (first | (with_reducible first | exact HB.out | apply bA | apply bN | apply bD) | exact HB.out)))); have n2_ := Aside0.mk (below_step (by repeat (first | (with_reducible first | exact HB.out | apply bA | apply bN | apply bD) | exact HB.out)) hb); clear HO_10; clear HB; have HO_10 := n0_; have HO327 := n1_; have HB := n2_; clear n0_ n1_ n2_; (try clear hb); (try clear hb2); (try clear hk); (try clear hi); (try clear ho0)))
         go_ret
         exact ⟨by first | rfl | (simp [errW_none, errW_some] <;> rfl) | (simp [*, errW_none, errW_some] <;> rfl), by repeat (first | (with_reducible first | exact HB.out | apply bA | apply bN | apply bD) | exact HB.out)⟩
        ·rw [if_neg c35] at H
         have c35b0 : decide (1099511627776 < a1) = false := decide_eq_false c35
         clear c35
         exact absurd ((Option.some.inj H).trans HR_.out) (by decide)
      ·replace c26 := Bool.eq_false_iff.mpr c26
       subst c26
       have H1 : (some false) = some r := by rw [if_neg (show ¬ (false = true) by decide)] at H; exact H
       clear H
       have H := H1
       clear H1
       exact absurd ((Option.some.inj H).trans HR_.out) (by decide)
  ·rw [if_neg c9] at H
   have c9b0 : (t313 == 0) = false := beq_eq_false_iff_ne.mpr c9
   have c9b1 : (t313 != 0) = true := bne_iff_ne.mpr c9
   by_cases c37 : t311 = true
   ·subst c37
    have H1 : ((sakiaref09_Same.f k t312 l0).bind fun t316 => (if t316 = true then (if a1 < 0 then (some ((t313 == 40) == true)) else ((slot_Check.f k l0).bind fun t317 => (some ((t313 == 40) == (!t317))))) else (some false))) = some r := by rw [if_pos rfl] at H; exact H
    clear H
    have H := H1
    clear H1
    replace H := Option.bind_eq_some_iff.mp H
    obtain ⟨t316, A380, H⟩ := H
    replace H : (if t316 = true then (if a1 < 0 then (some ((t313 == 40) == true)) else ((slot_Check.f k l0).bind fun t317 => (some ((t313 == 40) == (!t317))))) else (some false)) = some r := H
    have A38 := Aside0.mk A380
    clear A380
    by_cases c39 : t316 = true
    ·subst c39
     have H1 : (if a1 < 0 then (some ((t313 == 40) == true)) else ((slot_Check.f k l0).bind fun t317 => (some ((t313 == 40) == (!t317))))) = some r := by rw [if_pos rfl] at H; exact H
     clear H
     have H := H1
     clear H1
     by_cases c40 : a1 < 0
     ·rw [if_pos c40] at H
      have c40b0 : decide (a1 < 0) = true := decide_eq_true c40
      clear c40
      obtain rfl := Option.some.inj H
      go_enter Try.func10, Try.ntmps10
      go_wp2_with (first | ((with_reducible refine gate_callee (f := 26) rfl ?_); refine goesL_ (some 20) rfl rfl Try.func26 (by kernel_rfl) rfl #[] rfl (by (try simp only [List.map_toArray, List.map_cons, List.map_nil]); first | done | rfl | (simp only [List.length_drop, List.length_take]; rfl)) ?_; (with_reducible refine (sakialaw09_awake.calls k  true _ A5.out).mono ?_); rintro e w41 ⟨rfl, hb⟩; refine ⟨_, rfl, ?_⟩; have n0_ := Aside0.mk (below_step (by repeat (first | (with_reducible first | exact HB.out | apply bA | apply bN | apply bD) | exact HB.out)) hb); clear HB; have HB := n0_; clear n0_; (try clear hb); (try clear hb2); (try clear hk); (try clear hi)) | ((with_reducible refine gate_callee (f := 27) rfl ?_); refine goesL_ (some 29) rfl rfl Try.func27 (by kernel_rfl) rfl #[.slice A0 l0.length c0, .int .i64 a1, .int .i64 a2] rfl (by (try simp only [List.map_toArray, List.map_cons, List.map_nil]); first | done | rfl | (simp only [List.length_drop, List.length_take]; rfl)) ?_; (with_reducible refine (slot_Write.calls k _ _ l0 a1 a2 t312 t313 _ ?side1 ?side2 A8.out).mono ?_); (case side1 => repeat (first | exact (Kd.C_below HR0.out HB.out) | (with_reducible refine Kd.C_alloc ?_ _) | (with_reducible refine Kd.C_drewN ?_ _) | (with_reducible refine Kd.C_drew ?_))); (case side2 => exact HC0.out); rintro e w42 ⟨v314, rfl, ho0, hb⟩; refine ⟨_, rfl, ?_⟩; have n0_ := Aside0.mk (Kd.R_lower ho0 (below_size (by repeat (first | (with_reducible first | exact HB.out | apply bA | apply bN | apply bD) | exact HB.out)))); have n1_ := Aside0.mk (below_step (by repeat (first | (with_reducible first | exact HB.out | apply bA | apply bN | apply bD) | exact HB.out)) hb); clear HB; have HO315 := n0_; have HB := n1_; clear n0_ n1_; (try clear hb); (try clear hb2); (try clear hk); (try clear hi); (try clear ho0); obtain ⟨Ao43, co43, eo43⟩ := Kd.R_slice HO315.out; subst eo43) | (go_at_call 33; (with_reducible refine (sakiaref09_Same.calls k _ _ t312 _ _ l0 true _ ?side1 ?side2 ?side3 ?side4 A38.out).mono ?_); (case side1 => repeat (first | exact (Kd.R_reads' HO315.out).2.2 | (with_reducible refine Kd.C_alloc ?_ _) | (with_reducible refine Kd.C_drewN ?_ _) | (with_reducible refine Kd.C_drew ?_))); (case side2 => exact (Kd.R_reads' HO315.out).2.1); (case side3 => repeat (first | exact (Kd.C_below HR0.out HB.out) | (with_reducible refine Kd.C_alloc ?_ _) | (with_reducible refine Kd.C_drewN ?_ _) | (with_reducible refine Kd.C_drew ?_))); (case side4 => exact HC0.out); rintro e w' ⟨rfl, ⟨nd, rfl⟩⟩))
      go_ret
      exact ⟨by first | rfl | (simp [errW_none, errW_some] <;> rfl) | (simp [*, errW_none, errW_some] <;> rfl), by repeat (first | (with_reducible first | exact HB.out | apply bA | apply bN | apply bD) | exact HB.out)⟩
     ·rw [if_neg c40] at H
      have c40b0 : decide (a1 < 0) = false := decide_eq_false c40
      clear c40
      replace H := Option.bind_eq_some_iff.mp H
      obtain ⟨t317, A440, H⟩ := H
      replace H : (some ((t313 == 40) == (!t317))) = some r := H
      have A44 := Aside0.mk A440
      clear A440
      obtain rfl := Option.some.inj H
      go_enter Try.func10, Try.ntmps10
      go_wp2_with (first | ((with_reducible refine gate_callee (f := 26) rfl ?_); refine goesL_ (some 20) rfl rfl Try.func26 (by kernel_rfl) rfl #[] rfl (by (try simp only [List.map_toArray, List.map_cons, List.map_nil]); first | done | rfl | (simp only [List.length_drop, List.length_take]; rfl)) ?_; (with_reducible refine (sakialaw09_awake.calls k  true _ A5.out).mono ?_); rintro e w45 ⟨rfl, hb⟩; refine ⟨_, rfl, ?_⟩; have n0_ := Aside0.mk (below_step (by repeat (first | (with_reducible first | exact HB.out | apply bA | apply bN | apply bD) | exact HB.out)) hb); clear HB; have HB := n0_; clear n0_; (try clear hb); (try clear hb2); (try clear hk); (try clear hi)) | ((with_reducible refine gate_callee (f := 27) rfl ?_); refine goesL_ (some 29) rfl rfl Try.func27 (by kernel_rfl) rfl #[.slice A0 l0.length c0, .int .i64 a1, .int .i64 a2] rfl (by (try simp only [List.map_toArray, List.map_cons, List.map_nil]); first | done | rfl | (simp only [List.length_drop, List.length_take]; rfl)) ?_; (with_reducible refine (slot_Write.calls k _ _ l0 a1 a2 t312 t313 _ ?side1 ?side2 A8.out).mono ?_); (case side1 => repeat (first | exact (Kd.C_below HR0.out HB.out) | (with_reducible refine Kd.C_alloc ?_ _) | (with_reducible refine Kd.C_drewN ?_ _) | (with_reducible refine Kd.C_drew ?_))); (case side2 => exact HC0.out); rintro e w46 ⟨v314, rfl, ho0, hb⟩; refine ⟨_, rfl, ?_⟩; have n0_ := Aside0.mk (Kd.R_lower ho0 (below_size (by repeat (first | (with_reducible first | exact HB.out | apply bA | apply bN | apply bD) | exact HB.out)))); have n1_ := Aside0.mk (below_step (by repeat (first | (with_reducible first | exact HB.out | apply bA | apply bN | apply bD) | exact HB.out)) hb); clear HB; have HO315 := n0_; have HB := n1_; clear n0_ n1_; (try clear hb); (try clear hb2); (try clear hk); (try clear hi); (try clear ho0); obtain ⟨Ao47, co47, eo47⟩ := Kd.R_slice HO315.out; subst eo47) | (go_at_call 33; (with_reducible refine (sakiaref09_Same.calls k _ _ t312 _ _ l0 true _ ?side1 ?side2 ?side3 ?side4 A38.out).mono ?_); (case side1 => repeat (first | exact (Kd.R_reads' HO315.out).2.2 | (with_reducible refine Kd.C_alloc ?_ _) | (with_reducible refine Kd.C_drewN ?_ _) | (with_reducible refine Kd.C_drew ?_))); (case side2 => exact (Kd.R_reads' HO315.out).2.1); (case side3 => repeat (first | exact (Kd.C_below HR0.out HB.out) | (with_reducible refine Kd.C_alloc ?_ _) | (with_reducible refine Kd.C_drewN ?_ _) | (with_reducible refine Kd.C_drew ?_))); (case side4 => exact HC0.out); rintro e w' ⟨rfl, ⟨nd, rfl⟩⟩) | (go_at_call 36; (with_reducible refine (slot_Check.calls k _ _ l0 t317 _ ?side1 ?side2 A44.out).mono ?_); (case side1 => repeat (first | exact (Kd.C_below HR0.out (by repeat (first | (with_reducible first | exact HB.out | apply bA | apply bN | apply bD) | exact HB.out))) | (with_reducible refine Kd.C_alloc ?_ _) | (with_reducible refine Kd.C_drewN ?_ _) | (with_reducible refine Kd.C_drew ?_))); (case side2 => exact HC0.out); rintro e w48 ⟨rfl, hb⟩; have n0_ := Aside0.mk (Kd.R_below (by (with_reducible repeat (first | apply Kd.R_alloc | apply Kd.R_drewN | apply Kd.R_drew)); exact HO315.out) hb); have n1_ := Aside0.mk (below_step (by repeat (first | (with_reducible first | exact HB.out | apply bA | apply bN | apply bD) | exact HB.out)) hb); clear HO315; clear HB; have HO315 := n0_; have HB := n1_; clear n0_ n1_; (try clear hb); (try clear hb2); (try clear hk); (try clear hi)))
      go_ret
      exact ⟨by first | rfl | (simp [errW_none, errW_some] <;> rfl) | (simp [*, errW_none, errW_some] <;> rfl), by repeat (first | (with_reducible first | exact HB.out | apply bA | apply bN | apply bD) | exact HB.out)⟩
    ·replace c39 := Bool.eq_false_iff.mpr c39
     subst c39
     have H1 : (some false) = some r := by rw [if_neg (show ¬ (false = true) by decide)] at H; exact H
     clear H
     have H := H1
     clear H1
     exact absurd ((Option.some.inj H).trans HR_.out) (by decide)
   ·replace c37 := Bool.eq_false_iff.mpr c37
    subst c37
    have H1 : (some false) = some r := by rw [if_neg (show ¬ (false = true) by decide)] at H; exact H
    clear H
    have H := H1
    clear H1
    exact absurd ((Option.some.inj H).trans HR_.out) (by decide)

/-- THE ONE PURE STATEMENT of sakialaw09_SlotBack. -/
def sakialaw09_SlotBack.Pure : Prop := ∀ (l0 : List (S49)) (a1 : Int) (a2 : Int) (a3 : Int), l0.length ≤ maxLen → (∀ y ∈ l0, good49 y) → (Lit.int .i64 a1).wf = true → (Lit.int .i64 a2).wf = true → (Lit.int .i64 a3).wf = true → ∃ k, sakialaw09_SlotBack.f k l0 a1 a2 a3 = some true

end Go.Proofs.Ytlpeklhejjidfaa.PL
