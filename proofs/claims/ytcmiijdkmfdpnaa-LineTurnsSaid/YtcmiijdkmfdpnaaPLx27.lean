-- written by this repo's pp.py (the kit's print, turned by wip/patches.py)
import Derived.Test.YtcmiijdkmfdpnaaPLx0
import Derived.Test.YtcmiijdkmfdpnaaPLx16
import Derived.Test.YtcmiijdkmfdpnaaPLx17
import Derived.Test.YtcmiijdkmfdpnaaPLx20
namespace Go.Proofs.Ytcmiijdkmfdpnaa.PL
open Go.RowKit Go.Proofs.YtcmiijdkmfdpnaaW.PrintWords Go.Proofs.YtcmiijdkmfdpnaaW.PrintLast Go.Proofs.YtcmiijdkmfdpnaaW.PrintMore
attribute [local go_sem] max2_int min2_int max_two min_two max_three min_three max_four min_four   -- for this text's walks alone
set_option linter.unusedVariables false
set_option linter.unusedSimpArgs false

/-! ### sakialaw05_LineTurns: function 13 -/
def sakialaw05_LineTurns.j0 : Nat → Int → Int → Bool → List Int → Bool → Option (Bool)
 | 0, _, _, _, _, _ => none
 | k + 1, x1, x2, x9, x13, x53 => if x53 = true then (some x9) else (if x9 = true then ((line_Place.f k x13 x1).bind fun t664 => (if t664 ≥ 0 then ((line_Place.f k x13 x2).bind fun t665 => ((line_Place.f k x13 x1).bind fun t666 => (some (t665 == (wrap64 (t666 + 1)))))) else (some false))) else (some false))
def sakialaw05_LineTurns.f (k : Nat) (l0 : List Int) (a1 : Int) (a2 : Int) (a3 : Int) : Option (Bool) := (sakialaw05_awake.f k).bind fun t651 => (if (l0.length : Int) > 100 then (some t651) else ((line_Enter.f k l0 a1).bind fun bt652 => ((line_Enter.f k bt652.1 a2).bind fun bt656 => ((line_Leave.f k bt656.1 a3).bind fun bt660 => (if bt652.2 = 0 then (if bt656.2 = 0 then (if a3 = a1 then (sakialaw05_LineTurns.j0 k a1 a2 t651 bt660.1 true) else (sakialaw05_LineTurns.j0 k a1 a2 t651 bt660.1 (a3 == a2))) else (sakialaw05_LineTurns.j0 k a1 a2 t651 bt660.1 true)) else (sakialaw05_LineTurns.j0 k a1 a2 t651 bt660.1 true))))))
theorem sakialaw05_LineTurns.mono_l : ∀ k, (∀ y0 y1 y2 y3 y4, LeO (sakialaw05_LineTurns.j0 k y0 y1 y2 y3 y4) (sakialaw05_LineTurns.j0 (k + 1) y0 y1 y2 y3 y4))
 | 0 => fun _ _ _ _ _ r h => by simp [sakialaw05_LineTurns.j0] at h
 | k + 1 => by
  have ih0 := sakialaw05_LineTurns.mono_l k
  ·intro y0 y1 y2 y3 y4
   unfold sakialaw05_LineTurns.j0
   repeat' first
   | (with_reducible exact ih0 _ _ _ _ _)
   | (with_reducible exact line_Enter.mono _ _ _)
   | (with_reducible exact line_Leave.mono _ _ _)
   | (with_reducible exact line_Place.mono _ _ _)
   | (with_reducible exact sakialaw05_awake.mono _)
   | (with_reducible exact LeO.refl _)
   | (with_reducible exact LeO.none _)
   | (with_reducible refine LeO.ite ?_ ?_)
   | (with_reducible refine LeO.bind ?_ (fun _ => ?_))
   | exact ih0 _ _ _ _ _
   | exact line_Enter.mono _ _ _
   | exact line_Leave.mono _ _ _
   | exact line_Place.mono _ _ _
   | exact sakialaw05_awake.mono _
   | exact LeO.none _
   | refine LeO.ite ?_ ?_
   | refine LeO.bind ?_ (fun _ => ?_)
theorem sakialaw05_LineTurns.mono : ∀ a0 a1 a2 a3 k, LeO (sakialaw05_LineTurns.f k a0 a1 a2 a3) (sakialaw05_LineTurns.f (k + 1) a0 a1 a2 a3) := by
 intro a0 a1 a2 a3 k
 have ih0 := sakialaw05_LineTurns.mono_l k
 unfold sakialaw05_LineTurns.f
 repeat' first
   | (with_reducible exact ih0 _ _ _ _ _)
   | (with_reducible exact line_Enter.mono _ _ _)
   | (with_reducible exact line_Leave.mono _ _ _)
   | (with_reducible exact line_Place.mono _ _ _)
   | (with_reducible exact sakialaw05_awake.mono _)
   | (with_reducible exact LeO.refl _)
   | (with_reducible exact LeO.none _)
   | (with_reducible refine LeO.ite ?_ ?_)
   | (with_reducible refine LeO.bind ?_ (fun _ => ?_))
   | exact ih0 _ _ _ _ _
   | exact line_Enter.mono _ _ _
   | exact line_Leave.mono _ _ _
   | exact line_Place.mono _ _ _
   | exact sakialaw05_awake.mono _
   | exact LeO.none _
   | refine LeO.ite ?_ ?_
   | refine LeO.bind ?_ (fun _ => ?_)
set_option maxHeartbeats 8000000 in
set_option maxRecDepth 100000 in
theorem sakialaw05_LineTurns.calls (k : Nat) (A0 : Option Addr) (c0 : Nat) (l0 : List Int) (a1 : Int) (a2 : Int) (a3 : Int) (r : Bool) (w : World) (hr0 : Kd.C (Kd.int .i64) w A0 l0.length l0) (hc0 : l0.length ≤ c0) (hr_ : r = true) (h : sakialaw05_LineTurns.f k l0 a1 a2 a3 = some r) :
  Calls Try.prog 13 #[.slice A0 l0.length c0, .int .i64 a1, .int .i64 a2, .int .i64 a3] w fun e w' => e = .returned (.bool r) ∧ Below w.heap.size w w' := by
 have HR0 := Aside0.mk hr0
 have HC0 := Aside0.mk hc0
 clear hr0 hc0
 have HB := Aside0.mk (Below.refl w.heap.size w)
 have HR_ := Aside0.mk hr_
 clear hr_
 have H : ((sakialaw05_awake.f k).bind fun t651 => (if (l0.length : Int) > 100 then (some t651) else ((line_Enter.f k l0 a1).bind fun bt652 => ((line_Enter.f k bt652.1 a2).bind fun bt656 => ((line_Leave.f k bt656.1 a3).bind fun bt660 => (if bt652.2 = 0 then (if bt656.2 = 0 then (if a3 = a1 then (sakialaw05_LineTurns.j0 k a1 a2 t651 bt660.1 true) else (sakialaw05_LineTurns.j0 k a1 a2 t651 bt660.1 (a3 == a2))) else (sakialaw05_LineTurns.j0 k a1 a2 t651 bt660.1 true)) else (sakialaw05_LineTurns.j0 k a1 a2 t651 bt660.1 true))))))) = some r := h
 clear h
 replace H := Option.bind_eq_some_iff.mp H
 obtain ⟨t651, A50, H⟩ := H
 replace H : (if (l0.length : Int) > 100 then (some t651) else ((line_Enter.f k l0 a1).bind fun bt652 => ((line_Enter.f k bt652.1 a2).bind fun bt656 => ((line_Leave.f k bt656.1 a3).bind fun bt660 => (if bt652.2 = 0 then (if bt656.2 = 0 then (if a3 = a1 then (sakialaw05_LineTurns.j0 k a1 a2 t651 bt660.1 true) else (sakialaw05_LineTurns.j0 k a1 a2 t651 bt660.1 (a3 == a2))) else (sakialaw05_LineTurns.j0 k a1 a2 t651 bt660.1 true)) else (sakialaw05_LineTurns.j0 k a1 a2 t651 bt660.1 true)))))) = some r := H
 have A5 := Aside0.mk A50
 clear A50
 by_cases c6 : (l0.length : Int) > 100
 ·rw [if_pos c6] at H
  have c6b0 : decide (100 < (l0.length : Int)) = true := decide_eq_true c6
  have c6b1 : decide (100 < l0.length) = true := decide_eq_true (by omega)
  clear c6
  obtain rfl := Option.some.inj H
  go_enter Try.func13, Try.ntmps13
  go_wp2_with (first | ((with_reducible refine gate_callee (f := 27) rfl ?_); refine goesL_ (some 15) rfl rfl Try.func27 (by kernel_rfl) rfl #[] rfl (by (try simp only [List.map_toArray, List.map_cons, List.map_nil]); first | done | rfl | (simp only [List.length_drop, List.length_take]; rfl)) ?_; (with_reducible refine (sakialaw05_awake.calls k  t651 _ A5.out).mono ?_); rintro e w7 ⟨rfl, hb⟩; refine ⟨_, rfl, ?_⟩; have n0_ := Aside0.mk (below_step (by repeat (first | (with_reducible first | exact HB.out | apply bA | apply bN | apply bD) | exact HB.out)) hb); clear HB; have HB := n0_; clear n0_; (try clear hb); (try clear hb2); (try clear hk); (try clear hi)))
  go_ret
  exact ⟨by first | rfl | (simp [errW_none, errW_some] <;> rfl) | (rw [eA26_.out]; rfl) | (rw [← eA26_.out]; rfl) | (simp [*, errW_none, errW_some] <;> rfl), by repeat (first | (with_reducible first | exact HB.out | apply bA | apply bN | apply bD) | exact HB.out)⟩
 ·rw [if_neg c6] at H
  have c6b0 : decide (100 < (l0.length : Int)) = false := decide_eq_false c6
  have c6b1 : decide (100 < l0.length) = false := decide_eq_false (by omega)
  clear c6
  replace H := Option.bind_eq_some_iff.mp H
  obtain ⟨⟨t652, t653⟩, A80, H⟩ := H
  replace H : ((line_Enter.f k t652 a2).bind fun bt656 => ((line_Leave.f k bt656.1 a3).bind fun bt660 => (if t653 = 0 then (if bt656.2 = 0 then (if a3 = a1 then (sakialaw05_LineTurns.j0 k a1 a2 t651 bt660.1 true) else (sakialaw05_LineTurns.j0 k a1 a2 t651 bt660.1 (a3 == a2))) else (sakialaw05_LineTurns.j0 k a1 a2 t651 bt660.1 true)) else (sakialaw05_LineTurns.j0 k a1 a2 t651 bt660.1 true)))) = some r := H
  have A8 := Aside0.mk A80
  clear A80
  replace H := Option.bind_eq_some_iff.mp H
  obtain ⟨⟨t656, t657⟩, A90, H⟩ := H
  replace H : ((line_Leave.f k t656 a3).bind fun bt660 => (if t653 = 0 then (if t657 = 0 then (if a3 = a1 then (sakialaw05_LineTurns.j0 k a1 a2 t651 bt660.1 true) else (sakialaw05_LineTurns.j0 k a1 a2 t651 bt660.1 (a3 == a2))) else (sakialaw05_LineTurns.j0 k a1 a2 t651 bt660.1 true)) else (sakialaw05_LineTurns.j0 k a1 a2 t651 bt660.1 true))) = some r := H
  have A9 := Aside0.mk A90
  clear A90
  replace H := Option.bind_eq_some_iff.mp H
  obtain ⟨⟨t660, t661⟩, A100, H⟩ := H
  replace H : (if t653 = 0 then (if t657 = 0 then (if a3 = a1 then (sakialaw05_LineTurns.j0 k a1 a2 t651 t660 true) else (sakialaw05_LineTurns.j0 k a1 a2 t651 t660 (a3 == a2))) else (sakialaw05_LineTurns.j0 k a1 a2 t651 t660 true)) else (sakialaw05_LineTurns.j0 k a1 a2 t651 t660 true)) = some r := H
  have A10 := Aside0.mk A100
  clear A100
  have HC11 := Aside0.mk H
  clear H
  go_enter Try.func13, Try.ntmps13
  go_upto_region 7 with (first | ((with_reducible refine gate_callee (f := 27) rfl ?_); refine goesL_ (some 15) rfl rfl Try.func27 (by kernel_rfl) rfl #[] rfl (by (try simp only [List.map_toArray, List.map_cons, List.map_nil]); first | done | rfl | (simp only [List.length_drop, List.length_take]; rfl)) ?_; (with_reducible refine (sakialaw05_awake.calls k  t651 _ A5.out).mono ?_); rintro e w12 ⟨rfl, hb⟩; refine ⟨_, rfl, ?_⟩; have n0_ := Aside0.mk (below_step (by repeat (first | (with_reducible first | exact HB.out | apply bA | apply bN | apply bD) | exact HB.out)) hb); clear HB; have HB := n0_; clear n0_; (try clear hb); (try clear hb2); (try clear hk); (try clear hi)) | ((with_reducible refine gate_callee (f := 28) rfl ?_); refine goesL_ (some 23) rfl rfl Try.func28 (by kernel_rfl) rfl #[.slice A0 l0.length c0, .int .i64 a1] rfl (by (try simp only [List.map_toArray, List.map_cons, List.map_nil]); first | done | rfl | (simp only [List.length_drop, List.length_take]; rfl)) ?_; (with_reducible refine (line_Enter.calls k _ _ l0 a1 t652 t653 _ ?side1 ?side2 A8.out).mono ?_); (case side1 => repeat (first | exact (Kd.C_below HR0.out HB.out) | (with_reducible refine Kd.C_alloc ?_ _) | (with_reducible refine Kd.C_drewN ?_ _) | (with_reducible refine Kd.C_drew ?_))); (case side2 => exact HC0.out); rintro e w13 ⟨v654, rfl, ho0, hb⟩; refine ⟨_, rfl, ?_⟩; have n0_ := Aside0.mk (Kd.R_lower ho0 (below_size (by repeat (first | (with_reducible first | exact HB.out | apply bA | apply bN | apply bD) | exact HB.out)))); have n1_ := Aside0.mk (below_step (by repeat (first | (with_reducible first | exact HB.out | apply bA | apply bN | apply bD) | exact HB.out)) hb); clear HB; have HO655 := n0_; have HB := n1_; clear n0_ n1_; (try clear hb); (try clear hb2); (try clear hk); (try clear hi); (try clear ho0); obtain ⟨Ao14, co14, eo14⟩ := Kd.R_slice HO655.out; subst eo14) | ((with_reducible refine gate_callee (f := 28) rfl ?_); refine goesL_ (some 29) rfl rfl Try.func28 (by kernel_rfl) rfl #[.slice Ao14 t652.length co14, .int .i64 a2] rfl (by (try simp only [List.map_toArray, List.map_cons, List.map_nil]); first | done | rfl | (simp only [List.length_drop, List.length_take]; rfl)) ?_; (with_reducible refine (line_Enter.calls k _ _ t652 a2 t656 t657 _ ?side1 ?side2 A9.out).mono ?_); (case side1 => repeat (first | exact (Kd.R_reads' HO655.out).2.2 | (with_reducible refine Kd.C_alloc ?_ _) | (with_reducible refine Kd.C_drewN ?_ _) | (with_reducible refine Kd.C_drew ?_))); (case side2 => exact (Kd.R_reads' HO655.out).2.1); rintro e w15 ⟨v658, rfl, ho0, hb⟩; refine ⟨_, rfl, ?_⟩; have n0_ := Aside0.mk (Kd.R_elder' (by (with_reducible repeat (first | apply Kd.R_alloc | apply Kd.R_drewN | apply Kd.R_drew)); exact HO655.out) (Kd.R_base ho0) hb); have n1_ := Aside0.mk (Kd.R_lower (Kd.R_new' ho0 (Kd.R_lt (by (with_reducible repeat (first | apply Kd.R_alloc | apply Kd.R_drewN | apply Kd.R_drew)); exact HO655.out))) (below_size (by repeat (first | (with_reducible first | exact HB.out | apply bA | apply bN | apply bD) | exact HB.out)))); have n2_ := Aside0.mk (below_step (by repeat (first | (with_reducible first | exact HB.out | apply bA | apply bN | apply bD) | exact HB.out)) hb); clear HO655; clear HB; have HO655 := n0_; have HO659 := n1_; have HB := n2_; clear n0_ n1_ n2_; (try clear hb); (try clear hb2); (try clear hk); (try clear hi); (try clear ho0); obtain ⟨Ao16, co16, eo16⟩ := Kd.R_slice HO659.out; subst eo16) | ((with_reducible refine gate_callee (f := 30) rfl ?_); refine goesL_ (some 35) rfl rfl Try.func30 (by kernel_rfl) rfl #[.slice Ao16 t656.length co16, .int .i64 a3] rfl (by (try simp only [List.map_toArray, List.map_cons, List.map_nil]); first | done | rfl | (simp only [List.length_drop, List.length_take]; rfl)) ?_; (with_reducible refine (line_Leave.calls k _ _ t656 a3 t660 t661 _ ?side1 ?side2 A10.out).mono ?_); (case side1 => repeat (first | exact (Kd.R_reads' HO659.out).2.2 | (with_reducible refine Kd.C_alloc ?_ _) | (with_reducible refine Kd.C_drewN ?_ _) | (with_reducible refine Kd.C_drew ?_))); (case side2 => exact (Kd.R_reads' HO659.out).2.1); rintro e w17 ⟨v662, rfl, ho0, hb⟩; refine ⟨_, rfl, ?_⟩; have n0_ := Aside0.mk (Kd.R_elder' (by (with_reducible repeat (first | apply Kd.R_alloc | apply Kd.R_drewN | apply Kd.R_drew)); exact HO655.out) (Kd.R_base ho0) hb); have n1_ := Aside0.mk (Kd.R_elder' (by (with_reducible repeat (first | apply Kd.R_alloc | apply Kd.R_drewN | apply Kd.R_drew)); exact HO659.out) (Kd.R_base ho0) hb); have n2_ := Aside0.mk (Kd.R_lower (Kd.R_new' (Kd.R_new' ho0 (Kd.R_lt (by (with_reducible repeat (first | apply Kd.R_alloc | apply Kd.R_drewN | apply Kd.R_drew)); exact HO655.out))) (Kd.R_lt (by (with_reducible repeat (first | apply Kd.R_alloc | apply Kd.R_drewN | apply Kd.R_drew)); exact HO659.out))) (below_size (by repeat (first | (with_reducible first | exact HB.out | apply bA | apply bN | apply bD) | exact HB.out)))); have n3_ := Aside0.mk (below_step (by repeat (first | (with_reducible first | exact HB.out | apply bA | apply bN | apply bD) | exact HB.out)) hb); clear HO655; clear HO659; clear HB; have HO655 := n0_; have HO659 := n1_; have HO663 := n2_; have HB := n3_; clear n0_ n1_ n2_ n3_; (try clear hb); (try clear hb2); (try clear hk); (try clear hi); (try clear ho0)))
  (try simp only [Act.put, List.setIfInBounds_toArray, List.set_cons_zero, List.set_cons_succ])
  go_cut [53] (fun v53 wc => ∃ (kq : Nat) (x53_10 : Bool), v53 = .bool x53_10 ∧ Aside0 (sakialaw05_LineTurns.j0 kq a1 a2 t651 t660 x53_10 = some r) ∧ Aside0 (kq ≤ k) ∧ Aside0 (Kd.R (Kd.int .i64) 3 wc w.heap.size (fun _ => True) v662 t660) ∧ Aside0 (Below w.heap.size w wc))
  case first =>
   have H := HC11.out
   clear HC11
   by_cases c18 : t653 = 0
   ·rw [if_pos c18] at H
    have c18b0 : (t653 == 0) = true := beq_iff_eq.mpr c18
    have c18b1 : (t653 != 0) = false := bne_eq_false_iff_eq.mpr c18
    clear c18
    (first | rw [c18b0] | (simp only [i64_w, i32_w]; rw [c18b0]) | skip)
    by_cases c19 : t657 = 0
    ·rw [if_pos c19] at H
     have c19b0 : (t657 == 0) = true := beq_iff_eq.mpr c19
     have c19b1 : (t657 != 0) = false := bne_eq_false_iff_eq.mpr c19
     clear c19
     by_cases c20 : a3 = a1
     ·rw [if_pos c20] at H
      have c20b0 : (a3 == a1) = true := beq_iff_eq.mpr c20
      have c20b1 : (a3 != a1) = false := bne_eq_false_iff_eq.mpr c20
      clear c20
      have H' := Aside0.mk H
      clear H
      go_wp2
      go_meet
      case rel => exact ⟨_, (true), (by first | rfl | (simp; done) | (simp [*]; done)), H', ⟨by first | omega | exact Nat.le_refl _⟩, ⟨by (with_reducible repeat (first | apply Kd.R_alloc | apply Kd.R_drewN | apply Kd.R_drew)); exact Kd.R_mono HO663.out (fun _ hk => trivial)⟩, ⟨by repeat (first | (with_reducible first | exact HB.out | apply bA | apply bN | apply bD) | exact HB.out)⟩⟩
     ·rw [if_neg c20] at H
      have c20b0 : (a3 == a1) = false := beq_eq_false_iff_ne.mpr c20
      have c20b1 : (a3 != a1) = true := bne_iff_ne.mpr c20
      have H' := Aside0.mk H
      clear H
      go_wp2
      go_meet
      case rel => exact ⟨_, ((a3 == a2)), (by first | rfl | (simp; done) | (simp [*]; done)), H', ⟨by first | omega | exact Nat.le_refl _⟩, ⟨by (with_reducible repeat (first | apply Kd.R_alloc | apply Kd.R_drewN | apply Kd.R_drew)); exact Kd.R_mono HO663.out (fun _ hk => trivial)⟩, ⟨by repeat (first | (with_reducible first | exact HB.out | apply bA | apply bN | apply bD) | exact HB.out)⟩⟩
    ·rw [if_neg c19] at H
     have c19b0 : (t657 == 0) = false := beq_eq_false_iff_ne.mpr c19
     have c19b1 : (t657 != 0) = true := bne_iff_ne.mpr c19
     have H' := Aside0.mk H
     clear H
     go_wp2
     go_meet
     case rel => exact ⟨_, (true), (by first | rfl | (simp; done) | (simp [*]; done)), H', ⟨by first | omega | exact Nat.le_refl _⟩, ⟨by (with_reducible repeat (first | apply Kd.R_alloc | apply Kd.R_drewN | apply Kd.R_drew)); exact Kd.R_mono HO663.out (fun _ hk => trivial)⟩, ⟨by repeat (first | (with_reducible first | exact HB.out | apply bA | apply bN | apply bD) | exact HB.out)⟩⟩
   ·rw [if_neg c18] at H
    have c18b0 : (t653 == 0) = false := beq_eq_false_iff_ne.mpr c18
    have c18b1 : (t653 != 0) = true := bne_iff_ne.mpr c18
    (first | rw [c18b0] | (simp only [i64_w, i32_w]; rw [c18b0]) | skip)
    have H' := Aside0.mk H
    clear H
    go_wp2
    go_meet
    case rel => exact ⟨_, (true), (by first | rfl | (simp; done) | (simp [*]; done)), H', ⟨by first | omega | exact Nat.le_refl _⟩, ⟨by (with_reducible repeat (first | apply Kd.R_alloc | apply Kd.R_drewN | apply Kd.R_drew)); exact Kd.R_mono HO663.out (fun _ hk => trivial)⟩, ⟨by repeat (first | (with_reducible first | exact HB.out | apply bA | apply bN | apply bD) | exact HB.out)⟩⟩
  case rest =>
   clear HC11
   try clear c1
   try clear c2
   try clear p2
   try clear c3
   try clear c6
   try clear c6b0
   try clear c6b1
   try clear c13
   try clear c18
   try clear c18b0
   try clear c18b1
   try clear c19
   try clear c19b0
   try clear c19b1
   try clear c20
   try clear c20b0
   try clear c20b1
   obtain ⟨kq, x53_10, rfl, HA, HJ10, HO_13, HB⟩ := hcut
   cases kq with
   | zero => exact absurd HA.out (by simp [sakialaw05_LineTurns.j0])
   | succ kj10 =>
    have H := HA.out
    clear HA
    simp only [sakialaw05_LineTurns.j0] at H
    by_cases c21 : x53_10 = true
    ·subst c21
     have H1 : (some t651) = some r := by rw [if_pos rfl] at H; exact H
     clear H
     have H := H1
     clear H1
     obtain rfl := Option.some.inj H
     go_wp2
     go_ret
     exact ⟨by first | rfl | (simp [errW_none, errW_some] <;> rfl) | (rw [eA26_.out]; rfl) | (rw [← eA26_.out]; rfl) | (simp [*, errW_none, errW_some] <;> rfl), by repeat (first | (with_reducible first | exact HB.out | apply bA | apply bN | apply bD) | exact HB.out)⟩
    ·replace c21 := Bool.eq_false_iff.mpr c21
     subst c21
     have H1 : (if t651 = true then ((line_Place.f kj10 t660 a1).bind fun t664 => (if t664 ≥ 0 then ((line_Place.f kj10 t660 a2).bind fun t665 => ((line_Place.f kj10 t660 a1).bind fun t666 => (some (t665 == (wrap64 (t666 + 1)))))) else (some false))) else (some false)) = some r := by rw [if_neg (show ¬ (false = true) by decide)] at H; exact H
     clear H
     have H := H1
     clear H1
     by_cases c22 : t651 = true
     ·subst c22
      have H1 : ((line_Place.f kj10 t660 a1).bind fun t664 => (if t664 ≥ 0 then ((line_Place.f kj10 t660 a2).bind fun t665 => ((line_Place.f kj10 t660 a1).bind fun t666 => (some (t665 == (wrap64 (t666 + 1)))))) else (some false))) = some r := by rw [if_pos rfl] at H; exact H
      clear H
      have H := H1
      clear H1
      replace H := Option.bind_eq_some_iff.mp H
      obtain ⟨t664, A230, H⟩ := H
      replace H : (if t664 ≥ 0 then ((line_Place.f kj10 t660 a2).bind fun t665 => ((line_Place.f kj10 t660 a1).bind fun t666 => (some (t665 == (wrap64 (t666 + 1)))))) else (some false)) = some r := H
      have A23 := Aside0.mk A230
      clear A230
      by_cases c24 : t664 ≥ 0
      ·rw [if_pos c24] at H
       have c24b0 : decide (0 ≤ t664) = true := decide_eq_true c24
       clear c24
       replace H := Option.bind_eq_some_iff.mp H
       obtain ⟨t665, A250, H⟩ := H
       replace H : ((line_Place.f kj10 t660 a1).bind fun t666 => (some (t665 == (wrap64 (t666 + 1))))) = some r := H
       have A25 := Aside0.mk A250
       clear A250
       replace H := Option.bind_eq_some_iff.mp H
       obtain ⟨t666, A260, H⟩ := H
       replace H : (some (t665 == (wrap64 (t666 + 1)))) = some r := H
       have A26 := Aside0.mk A260
       clear A260
       (try (have eA26_ := Aside0.mk (Option.some.inj (A23.out.symm.trans A26.out))))
       obtain rfl := Option.some.inj H
       obtain ⟨Ao27, co27, eo27⟩ := Kd.R_slice HO_13.out
       subst eo27
       go_wp2_with (first | (go_at_call 37; (with_reducible refine (line_Place.calls kj10 _ _ t660 a1 t664 _ ?side1 ?side2 A23.out).mono ?_); (case side1 => repeat (first | exact (Kd.R_reads' HO_13.out).2.2 | (with_reducible refine Kd.C_alloc ?_ _) | (with_reducible refine Kd.C_drewN ?_ _) | (with_reducible refine Kd.C_drew ?_))); (case side2 => exact (Kd.R_reads' HO_13.out).2.1); rintro e w28 ⟨rfl, hb⟩; have n0_ := Aside0.mk (Kd.R_below (by (with_reducible repeat (first | apply Kd.R_alloc | apply Kd.R_drewN | apply Kd.R_drew)); exact HO_13.out) hb); have n1_ := Aside0.mk (below_step (by repeat (first | (with_reducible first | exact HB.out | apply bA | apply bN | apply bD) | exact HB.out)) hb); clear HO_13; clear HB; have HO_13 := n0_; have HB := n1_; clear n0_ n1_; (try clear hb); (try clear hb2); (try clear hk); (try clear hi)) | (go_at_call 37; (with_reducible refine (line_Place.calls kj10 _ _ t660 a2 t665 _ ?side1 ?side2 A25.out).mono ?_); (case side1 => repeat (first | exact (Kd.R_reads' HO_13.out).2.2 | (with_reducible refine Kd.C_alloc ?_ _) | (with_reducible refine Kd.C_drewN ?_ _) | (with_reducible refine Kd.C_drew ?_))); (case side2 => exact (Kd.R_reads' HO_13.out).2.1); rintro e w29 ⟨rfl, hb⟩; have n0_ := Aside0.mk (Kd.R_below (by (with_reducible repeat (first | apply Kd.R_alloc | apply Kd.R_drewN | apply Kd.R_drew)); exact HO_13.out) hb); have n1_ := Aside0.mk (below_step (by repeat (first | (with_reducible first | exact HB.out | apply bA | apply bN | apply bD) | exact HB.out)) hb); clear HO_13; clear HB; have HO_13 := n0_; have HB := n1_; clear n0_ n1_; (try clear hb); (try clear hb2); (try clear hk); (try clear hi)) | (go_at_call 37; (with_reducible refine (line_Place.calls kj10 _ _ t660 a1 t666 _ ?side1 ?side2 A26.out).mono ?_); (case side1 => repeat (first | exact (Kd.R_reads' HO_13.out).2.2 | (with_reducible refine Kd.C_alloc ?_ _) | (with_reducible refine Kd.C_drewN ?_ _) | (with_reducible refine Kd.C_drew ?_))); (case side2 => exact (Kd.R_reads' HO_13.out).2.1); rintro e w30 ⟨rfl, hb⟩; have n0_ := Aside0.mk (Kd.R_below (by (with_reducible repeat (first | apply Kd.R_alloc | apply Kd.R_drewN | apply Kd.R_drew)); exact HO_13.out) hb); have n1_ := Aside0.mk (below_step (by repeat (first | (with_reducible first | exact HB.out | apply bA | apply bN | apply bD) | exact HB.out)) hb); clear HO_13; clear HB; have HO_13 := n0_; have HB := n1_; clear n0_ n1_; (try clear hb); (try clear hb2); (try clear hk); (try clear hi)))
       go_ret
       exact ⟨by first | rfl | (simp [errW_none, errW_some] <;> rfl) | (rw [eA26_.out]; rfl) | (rw [← eA26_.out]; rfl) | (simp [*, errW_none, errW_some] <;> rfl), by repeat (first | (with_reducible first | exact HB.out | apply bA | apply bN | apply bD) | exact HB.out)⟩
      ·rw [if_neg c24] at H
       have c24b0 : decide (0 ≤ t664) = false := decide_eq_false c24
       clear c24
       exact absurd ((Option.some.inj H).trans HR_.out) (by decide)
     ·replace c22 := Bool.eq_false_iff.mpr c22
      subst c22
      have H1 : (some false) = some r := by rw [if_neg (show ¬ (false = true) by decide)] at H; exact H
      clear H
      have H := H1
      clear H1
      exact absurd ((Option.some.inj H).trans HR_.out) (by decide)

/-- THE ONE PURE STATEMENT of sakialaw05_LineTurns. -/
def sakialaw05_LineTurns.Pure : Prop := ∀ (l0 : List Int) (a1 : Int) (a2 : Int) (a3 : Int), l0.length ≤ maxLen → l0.length * 8 ≤ 140737488351232 → (∀ y ∈ l0, (Lit.int .i64 y).wf = true) → (Lit.int .i64 a1).wf = true → (Lit.int .i64 a2).wf = true → (Lit.int .i64 a3).wf = true → ∃ k, sakialaw05_LineTurns.f k l0 a1 a2 a3 = some true

end Go.Proofs.Ytcmiijdkmfdpnaa.PL
