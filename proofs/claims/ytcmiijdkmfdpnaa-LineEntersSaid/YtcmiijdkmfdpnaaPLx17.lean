-- written by this repo's pp.py (the kit's print, turned by wip/patches.py)
import Derived.Lib.SliceRun
import Derived.Deep.RegionLaw
import Derived.Test.YtcmiijdkmfdpnaaPLx0
import Derived.Test.YtcmiijdkmfdpnaaPLx16
namespace Go.Proofs.Ytcmiijdkmfdpnaa.PL
open Go.RowKit Go.Proofs.YtcmiijdkmfdpnaaW.PrintWords Go.Proofs.YtcmiijdkmfdpnaaW.PrintLast Go.Proofs.YtcmiijdkmfdpnaaW.PrintMore
attribute [local go_sem] max2_int min2_int max_two min_two max_three min_three max_four min_four   -- for this text's walks alone
set_option linter.unusedVariables false
set_option linter.unusedSimpArgs false

/-! ### line_Enter: function 28 -/
def line_Enter.j0 : Nat → List Int → Int → List Int → Bool → Option (List Int × Int)
 | 0, _, _, _, _ => none
 | k + 1, x0, x1, x6, x9 => if x9 = true then (some (x6, 40)) else ((line_Place.f k x0 x1).bind fun t469 => (if t469 ≥ 0 then (some (x6, 60)) else (if x6.length < 17592186044416 then (some ((x6 ++ [x1]), 0)) else (none))))
def line_Enter.f (k : Nat) (l0 : List Int) (a1 : Int) : Option (List Int × Int) := (slices_Clone_int_int.f l0).bind fun t461 => ((line_Check.f k l0).bind fun t464 => (if t464 = true then ((line_Check.f k (([a1] : List Int))).bind fun t468 => (line_Enter.j0 k l0 a1 t461 (!t468))) else (line_Enter.j0 k l0 a1 t461 (!t464))))
theorem line_Enter.mono_l : ∀ k, (∀ y0 y1 y2 y3, LeO (line_Enter.j0 k y0 y1 y2 y3) (line_Enter.j0 (k + 1) y0 y1 y2 y3))
 | 0 => fun _ _ _ _ r h => by simp [line_Enter.j0] at h
 | k + 1 => by
  have ih0 := line_Enter.mono_l k
  ·intro y0 y1 y2 y3
   unfold line_Enter.j0
   repeat' first
   | (with_reducible exact ih0 _ _ _ _)
   | (with_reducible exact line_Check.mono _ _)
   | (with_reducible exact line_Place.mono _ _ _)
   | (with_reducible exact LeO.refl _)
   | (with_reducible exact LeO.none _)
   | (with_reducible refine LeO.ite ?_ ?_)
   | (with_reducible refine LeO.bind ?_ (fun _ => ?_))
   | exact ih0 _ _ _ _
   | exact line_Check.mono _ _
   | exact line_Place.mono _ _ _
   | exact LeO.none _
   | refine LeO.ite ?_ ?_
   | refine LeO.bind ?_ (fun _ => ?_)
theorem line_Enter.mono : ∀ a0 a1 k, LeO (line_Enter.f k a0 a1) (line_Enter.f (k + 1) a0 a1) := by
 intro a0 a1 k
 have ih0 := line_Enter.mono_l k
 unfold line_Enter.f
 repeat' first
   | (with_reducible exact ih0 _ _ _ _)
   | (with_reducible exact line_Check.mono _ _)
   | (with_reducible exact line_Place.mono _ _ _)
   | (with_reducible exact LeO.refl _)
   | (with_reducible exact LeO.none _)
   | (with_reducible refine LeO.ite ?_ ?_)
   | (with_reducible refine LeO.bind ?_ (fun _ => ?_))
   | exact ih0 _ _ _ _
   | exact line_Check.mono _ _
   | exact line_Place.mono _ _ _
   | exact LeO.none _
   | refine LeO.ite ?_ ?_
   | refine LeO.bind ?_ (fun _ => ?_)
set_option maxHeartbeats 8000000 in
set_option maxRecDepth 100000 in
theorem line_Enter.calls (k : Nat) (A0 : Option Addr) (c0 : Nat) (l0 : List Int) (a1 : Int) (r1 : List Int) (r2 : Int) (w : World) (hr0 : Kd.C (Kd.int .i64) w A0 l0.length l0) (hc0 : l0.length ≤ c0) (h : line_Enter.f k l0 a1 = some (r1, r2)) :
  Calls Try.prog 28 #[.slice A0 l0.length c0, .int .i64 a1] w fun e w' => ∃ v0_ : Value, e = .returned (.tuple #[v0_, .int .i64 r2]) ∧ Kd.R (Kd.int .i64) 3 w' w.heap.size (fun _ => True) v0_ r1 ∧ Below w.heap.size w w' := by
 have HR0 := Aside0.mk hr0
 have HC0 := Aside0.mk hc0
 clear hr0 hc0
 have HB := Aside0.mk (Below.refl w.heap.size w)
 have H : ((slices_Clone_int_int.f l0).bind fun t461 => ((line_Check.f k l0).bind fun t464 => (if t464 = true then ((line_Check.f k (([a1] : List Int))).bind fun t468 => (line_Enter.j0 k l0 a1 t461 (!t468))) else (line_Enter.j0 k l0 a1 t461 (!t464))))) = some (r1, r2) := h
 clear h
 replace H := Option.bind_eq_some_iff.mp H
 obtain ⟨t461, A30, H⟩ := H
 replace H : ((line_Check.f k l0).bind fun t464 => (if t464 = true then ((line_Check.f k (([a1] : List Int))).bind fun t468 => (line_Enter.j0 k l0 a1 t461 (!t468))) else (line_Enter.j0 k l0 a1 t461 (!t464)))) = some (r1, r2) := H
 have A3 := Aside0.mk A30
 clear A30
 replace H := Option.bind_eq_some_iff.mp H
 obtain ⟨t464, A40, H⟩ := H
 replace H : (if t464 = true then ((line_Check.f k (([a1] : List Int))).bind fun t468 => (line_Enter.j0 k l0 a1 t461 (!t468))) else (line_Enter.j0 k l0 a1 t461 (!t464))) = some (r1, r2) := H
 have A4 := Aside0.mk A40
 clear A40
 have HC5 := Aside0.mk H
 clear H
 go_enter Try.func28, Try.ntmps28
 go_upto_if 9 with (first | ((with_reducible refine gate_callee (f := 46) rfl ?_); refine goesL_ (some 8) rfl rfl Try.func46 (by kernel_rfl) rfl #[.slice A0 l0.length c0] rfl (by (try simp only [List.map_toArray, List.map_cons, List.map_nil]); first | done | rfl | (simp only [List.length_drop, List.length_take]; rfl)) ?_; (with_reducible refine (slices_Clone_int_int.calls _ _ l0 t461 _ ?side1 ?side2 A3.out).mono ?_); (case side1 => repeat (first | exact HR0.out | (with_reducible refine Kd.C_alloc ?_ _) | (with_reducible refine Kd.C_drewN ?_ _) | (with_reducible refine Kd.C_drew ?_))); (case side2 => exact HC0.out); rintro e w6 ⟨v462, rfl, ho0, hb⟩; refine ⟨_, rfl, ?_⟩; have n0_ := Aside0.mk (Kd.R_lower ho0 (below_size (by repeat (first | (with_reducible first | exact HB.out | apply bA | apply bN | apply bD) | exact HB.out)))); have n1_ := Aside0.mk (below_step (by repeat (first | (with_reducible first | exact HB.out | apply bA | apply bN | apply bD) | exact HB.out)) hb); clear HB; have HO463 := n0_; have HB := n1_; clear n0_ n1_; (try clear hb); (try clear hb2); (try clear hk); (try clear hi); (try clear ho0)) | ((with_reducible refine gate_callee (f := 35) rfl ?_); refine goesL_ (some 11) rfl rfl Try.func35 (by kernel_rfl) rfl #[.slice A0 l0.length c0] rfl (by (try simp only [List.map_toArray, List.map_cons, List.map_nil]); first | done | rfl | (simp only [List.length_drop, List.length_take]; rfl)) ?_; (with_reducible refine (line_Check.calls k _ _ l0 t464 _ ?side1 ?side2 A4.out).mono ?_); (case side1 => repeat (first | exact (Kd.C_below HR0.out HB.out) | (with_reducible refine Kd.C_alloc ?_ _) | (with_reducible refine Kd.C_drewN ?_ _) | (with_reducible refine Kd.C_drew ?_))); (case side2 => exact HC0.out); rintro e w7 ⟨rfl, hb⟩; refine ⟨_, rfl, ?_⟩; have n0_ := Aside0.mk (Kd.R_below (by (with_reducible repeat (first | apply Kd.R_alloc | apply Kd.R_drewN | apply Kd.R_drew)); exact HO463.out) hb); have n1_ := Aside0.mk (below_step (by repeat (first | (with_reducible first | exact HB.out | apply bA | apply bN | apply bD) | exact HB.out)) hb); clear HO463; clear HB; have HO463 := n0_; have HB := n1_; clear n0_ n1_; (try clear hb); (try clear hb2); (try clear hk); (try clear hi)))
 (try simp only [Act.put, List.setIfInBounds_toArray, List.set_cons_zero, List.set_cons_succ])
 go_cut [9] (fun v9 wc => ∃ (kq : Nat) (x9_4 : Bool), v9 = .bool x9_4 ∧ Aside0 (line_Enter.j0 kq l0 a1 t461 x9_4 = some (r1, r2)) ∧ Aside0 (kq ≤ k) ∧ Aside0 (Kd.R (Kd.int .i64) 3 wc w.heap.size (fun _ => True) v462 t461) ∧ Aside0 (Below w.heap.size w wc))
 case first =>
  have H := HC5.out
  clear HC5
  by_cases c8 : t464 = true
  ·subst c8
   have H1 : ((line_Check.f k (([a1] : List Int))).bind fun t468 => (line_Enter.j0 k l0 a1 t461 (!t468))) = some (r1, r2) := by rw [if_pos rfl] at H; exact H
   clear H
   have H := H1
   clear H1
   obtain ⟨y465, hy465⟩ : ∃ y_ : List Int, y_ = (([a1] : List Int)) := ⟨_, rfl⟩
   replace H : ((line_Check.f k y465).bind fun t468 => (line_Enter.j0 k l0 a1 t461 (!t468))) = some (r1, r2) := by first | (rw [hy465]; with_reducible exact H) | (have H2_ := (Option.bind_some _ _).symm.trans H; rw [hy465]; with_reducible exact H2_) | (have H2_ := (Option.bind_some _ _).symm.trans H; with_reducible exact H2_) | with_reducible exact H | (rw [hy465]; exact H) | exact H
   have Ny465 := Aside0.mk hy465
   clear hy465
   replace H := Option.bind_eq_some_iff.mp H
   obtain ⟨t468, A90, H⟩ := H
   replace H : (line_Enter.j0 k l0 a1 t461 (!t468)) = some (r1, r2) := H
   have A9 := Aside0.mk A90
   clear A90
   have H' := Aside0.mk H
   clear H
   go_wp2_with (first | ((with_reducible refine gate_dst (N := 14) rfl ?_); refine Kd.R_lit (Kd.int .i64) _ 3 ?hg (N := 14) ?hd (xs := ([a1] : List Int)) (inner := [.int .i64 a1]) (ok := fun _ => True) (okp := fun _ => True) ?hr ?hp (fun _ hk => hk) trivial (Below.refl _ _) (Nat.le_refl _) (by simp) ?_; (case hd => rfl); (case hg => rfl); (case hr => first | (go_simp; done) | (go_simp; rfl)); (case hp => exact (Reps.one (show Kd.M (Kd.int .i64) _ _ _ a1 [.int .i64 a1] from rfl) (Reps.none _ _))); intro v466 w10 ho11 hb hg_ hnew_; clear hg_ hnew_; (first | rw [← Ny465.out] at ho11 | (simp only [Int.reduceToNat] at ho11; rw [← Ny465.out] at ho11)); have n0_ := Aside0.mk (Kd.R_elder' (by (with_reducible repeat (first | apply Kd.R_alloc | apply Kd.R_drewN | apply Kd.R_drew)); exact HO463.out) (Kd.R_base ho11) hb); have n1_ := Aside0.mk (Kd.R_lower (Kd.R_new' ho11 (Kd.R_lt (by (with_reducible repeat (first | apply Kd.R_alloc | apply Kd.R_drewN | apply Kd.R_drew)); exact HO463.out))) (below_size (by repeat (first | (with_reducible first | exact HB.out | apply bA | apply bN | apply bD) | exact HB.out)))); have n2_ := Aside0.mk (below_step (by repeat (first | (with_reducible first | exact HB.out | apply bA | apply bN | apply bD) | exact HB.out)) hb); clear HO463; clear HB; have HO463 := n0_; have HO467 := n1_; have HB := n2_; clear n0_ n1_ n2_; clear hb ho11; obtain ⟨Ao12, co12, eo12⟩ := Kd.R_slice HO467.out; subst eo12) | ((with_reducible refine gate_callee (f := 35) rfl ?_); refine goesL_ (some 15) rfl rfl Try.func35 (by kernel_rfl) rfl #[.slice Ao12 y465.length co12] rfl (by (try simp only [List.map_toArray, List.map_cons, List.map_nil]); first | done | rfl | (simp only [List.length_drop, List.length_take]; rfl)) ?_; (with_reducible refine (line_Check.calls k _ _ y465 t468 _ ?side1 ?side2 A9.out).mono ?_); (case side1 => repeat (first | exact (Kd.R_reads' HO467.out).2.2 | (with_reducible refine Kd.C_alloc ?_ _) | (with_reducible refine Kd.C_drewN ?_ _) | (with_reducible refine Kd.C_drew ?_))); (case side2 => exact (Kd.R_reads' HO467.out).2.1); rintro e w13 ⟨rfl, hb⟩; refine ⟨_, rfl, ?_⟩; have n0_ := Aside0.mk (Kd.R_below (by (with_reducible repeat (first | apply Kd.R_alloc | apply Kd.R_drewN | apply Kd.R_drew)); exact HO463.out) hb); have n1_ := Aside0.mk (Kd.R_below (by (with_reducible repeat (first | apply Kd.R_alloc | apply Kd.R_drewN | apply Kd.R_drew)); exact HO467.out) hb); have n2_ := Aside0.mk (below_step (by repeat (first | (with_reducible first | exact HB.out | apply bA | apply bN | apply bD) | exact HB.out)) hb); clear HO463; clear HO467; clear HB; have HO463 := n0_; have HO467 := n1_; have HB := n2_; clear n0_ n1_ n2_; (try clear hb); (try clear hb2); (try clear hk); (try clear hi)))
   go_meet
   case rel => exact ⟨_, (!t468), (by first | rfl | (simp; done) | (simp [*]; done)), H', ⟨by first | omega | exact Nat.le_refl _⟩, ⟨by (with_reducible repeat (first | apply Kd.R_alloc | apply Kd.R_drewN | apply Kd.R_drew)); exact Kd.R_mono HO463.out (fun _ hk => trivial)⟩, ⟨by repeat (first | (with_reducible first | exact HB.out | apply bA | apply bN | apply bD) | exact HB.out)⟩⟩
  ·replace c8 := Bool.eq_false_iff.mpr c8
   subst c8
   have H1 : (line_Enter.j0 k l0 a1 t461 (!false)) = some (r1, r2) := by rw [if_neg (show ¬ (false = true) by decide)] at H; exact H
   clear H
   have H := H1
   clear H1
   have H' := Aside0.mk H
   clear H
   go_wp2
   go_meet
   case rel => exact ⟨_, (!false), (by first | rfl | (simp; done) | (simp [*]; done)), H', ⟨by first | omega | exact Nat.le_refl _⟩, ⟨by (with_reducible repeat (first | apply Kd.R_alloc | apply Kd.R_drewN | apply Kd.R_drew)); exact HO463.out⟩, ⟨by repeat (first | (with_reducible first | exact HB.out | apply bA | apply bN | apply bD) | exact HB.out)⟩⟩
 case rest =>
  clear HC5
  try clear c2
  try clear p2
  try clear c3
  try clear c4
  try clear c8
  obtain ⟨kq, x9_4, rfl, HA, HJ4, HO_6, HB⟩ := hcut
  cases kq with
  | zero => exact absurd HA.out (by simp [line_Enter.j0])
  | succ kj4 =>
   have H := HA.out
   clear HA
   simp only [line_Enter.j0] at H
   by_cases c14 : x9_4 = true
   ·subst c14
    have H1 : (some (t461, 40)) = some (r1, r2) := by rw [if_pos rfl] at H; exact H
    clear H
    have H := H1
    clear H1
    simp only [Option.some.injEq, Prod.mk.injEq] at H
    obtain ⟨rfl, rfl⟩ := H
    go_wp2
    go_ret2
    exact ⟨_, by first | rfl | (simp [errW_none, errW_some] <;> rfl) | (simp [*, errW_none, errW_some] <;> rfl), by (with_reducible repeat (first | apply Kd.R_alloc | apply Kd.R_drewN | apply Kd.R_drew)); exact HO_6.out, by repeat (first | (with_reducible first | exact HB.out | apply bA | apply bN | apply bD) | exact HB.out)⟩
   ·replace c14 := Bool.eq_false_iff.mpr c14
    subst c14
    have H1 : ((line_Place.f kj4 l0 a1).bind fun t469 => (if t469 ≥ 0 then (some (t461, 60)) else (if t461.length < 17592186044416 then (some ((t461 ++ [a1]), 0)) else (none)))) = some (r1, r2) := by rw [if_neg (show ¬ (false = true) by decide)] at H; exact H
    clear H
    have H := H1
    clear H1
    replace H := Option.bind_eq_some_iff.mp H
    obtain ⟨t469, A150, H⟩ := H
    replace H : (if t469 ≥ 0 then (some (t461, 60)) else (if t461.length < 17592186044416 then (some ((t461 ++ [a1]), 0)) else (none))) = some (r1, r2) := H
    have A15 := Aside0.mk A150
    clear A150
    by_cases c16 : t469 ≥ 0
    ·rw [if_pos c16] at H
     have c16b0 : decide (0 ≤ t469) = true := decide_eq_true c16
     clear c16
     simp only [Option.some.injEq, Prod.mk.injEq] at H
     obtain ⟨rfl, rfl⟩ := H
     go_wp2_with (first | ((with_reducible refine gate_callee (f := 37) rfl ?_); refine goesL_ (some 21) rfl rfl Try.func37 (by kernel_rfl) rfl #[.slice A0 l0.length c0, .int .i64 a1] rfl (by (try simp only [List.map_toArray, List.map_cons, List.map_nil]); first | done | rfl | (simp only [List.length_drop, List.length_take]; rfl)) ?_; (with_reducible refine (line_Place.calls kj4 _ _ l0 a1 t469 _ ?side1 ?side2 A15.out).mono ?_); (case side1 => repeat (first | exact (Kd.C_below HR0.out HB.out) | (with_reducible refine Kd.C_alloc ?_ _) | (with_reducible refine Kd.C_drewN ?_ _) | (with_reducible refine Kd.C_drew ?_))); (case side2 => exact HC0.out); rintro e w17 ⟨rfl, hb⟩; refine ⟨_, rfl, ?_⟩; have n0_ := Aside0.mk (Kd.R_below (by (with_reducible repeat (first | apply Kd.R_alloc | apply Kd.R_drewN | apply Kd.R_drew)); exact HO_6.out) hb); have n1_ := Aside0.mk (below_step (by repeat (first | (with_reducible first | exact HB.out | apply bA | apply bN | apply bD) | exact HB.out)) hb); clear HO_6; clear HB; have HO_6 := n0_; have HB := n1_; clear n0_ n1_; (try clear hb); (try clear hb2); (try clear hk); (try clear hi)))
     go_ret2
     exact ⟨_, by first | rfl | (simp [errW_none, errW_some] <;> rfl) | (simp [*, errW_none, errW_some] <;> rfl), by (with_reducible repeat (first | apply Kd.R_alloc | apply Kd.R_drewN | apply Kd.R_drew)); exact HO_6.out, by repeat (first | (with_reducible first | exact HB.out | apply bA | apply bN | apply bD) | exact HB.out)⟩
    ·rw [if_neg c16] at H
     have c16b0 : decide (0 ≤ t469) = false := decide_eq_false c16
     clear c16
     by_cases c18 : t461.length < 17592186044416
     ·rw [if_pos c18] at H
      have LMc18 := Aside0.mk c18
      clear c18
      obtain ⟨y470, hy470⟩ : ∃ y_ : List Int, y_ = (t461 ++ [a1]) := ⟨_, rfl⟩
      replace H : (some (y470, 0)) = some (r1, r2) := by first | (rw [hy470]; with_reducible exact H) | (have H2_ := (Option.bind_some _ _).symm.trans H; rw [hy470]; with_reducible exact H2_) | (have H2_ := (Option.bind_some _ _).symm.trans H; with_reducible exact H2_) | with_reducible exact H | (rw [hy470]; exact H) | exact H
      have Ny470 := Aside0.mk hy470
      clear hy470
      simp only [Option.some.injEq, Prod.mk.injEq] at H
      obtain ⟨rfl, rfl⟩ := H
      go_wp2_with (first | ((with_reducible refine gate_callee (f := 37) rfl ?_); refine goesL_ (some 21) rfl rfl Try.func37 (by kernel_rfl) rfl #[.slice A0 l0.length c0, .int .i64 a1] rfl (by (try simp only [List.map_toArray, List.map_cons, List.map_nil]); first | done | rfl | (simp only [List.length_drop, List.length_take]; rfl)) ?_; (with_reducible refine (line_Place.calls kj4 _ _ l0 a1 t469 _ ?side1 ?side2 A15.out).mono ?_); (case side1 => repeat (first | exact (Kd.C_below HR0.out HB.out) | (with_reducible refine Kd.C_alloc ?_ _) | (with_reducible refine Kd.C_drewN ?_ _) | (with_reducible refine Kd.C_drew ?_))); (case side2 => exact HC0.out); rintro e w19 ⟨rfl, hb⟩; refine ⟨_, rfl, ?_⟩; have n0_ := Aside0.mk (Kd.R_below (by (with_reducible repeat (first | apply Kd.R_alloc | apply Kd.R_drewN | apply Kd.R_drew)); exact HO_6.out) hb); have n1_ := Aside0.mk (below_step (by repeat (first | (with_reducible first | exact HB.out | apply bA | apply bN | apply bD) | exact HB.out)) hb); clear HO_6; clear HB; have HO_6 := n0_; have HB := n1_; clear n0_ n1_; (try clear hb); (try clear hb2); (try clear hk); (try clear hi)) | ((with_reducible refine gate_builtin (b := .append) (xs := #[.tmp 24, .tmp 26]) rfl ?_); at_builtin; refine Kd.R_append (Kd.int .i64) (w0 := w) w.heap.size rfl (.tmp 24) (.tmp 26) 41 3 (.int .i64 0) 8 rfl Try.underlying41 info3 rfl (by decide) (by omega) v462 t461 a1 [.int .i64 a1] (fun _ => True) (fun _ => False) rfl rfl ?aP (fun _ hk => hk.elim) ?aF ?aO ?aB ?aS ?aL ?_; (case aP => exact rfl); (case aB => exact (by repeat (first | (with_reducible first | exact HB.out | apply bA | apply bN | apply bD) | exact HB.out))); (case aF => exact (fun _ _ => trivial)); (case aO => exact (by (with_reducible repeat (first | apply Kd.R_alloc | apply Kd.R_drewN | apply Kd.R_drew)); exact HO_6.out)); (case aS => exact (below_size (by repeat (first | (with_reducible first | exact HB.out | apply bA | apply bN | apply bD) | exact HB.out)))); (case aL => have := LMc18.out; omega); intro v471 w20 ho hb hg hat; rw [← Ny470.out] at ho; have n0_ := Aside0.mk (hb); have n1_ := Aside0.mk (ho); clear HB; clear HO_6; have HB := n0_; have HO472 := n1_; clear n0_ n1_; clear ho hb hg hat))
      go_ret2
      exact ⟨_, by first | rfl | (simp [errW_none, errW_some] <;> rfl) | (simp [*, errW_none, errW_some] <;> rfl), by (with_reducible repeat (first | apply Kd.R_alloc | apply Kd.R_drewN | apply Kd.R_drew)); exact HO472.out, by repeat (first | (with_reducible first | exact HB.out | apply bA | apply bN | apply bD) | exact HB.out)⟩
     ·rw [if_neg c18] at H
      exact absurd H (by simp)

-- NOT PRINTED: function 48 (slices_Delete_int_int)

/-! ### line_Leave: function 30 -/
theorem R_tail {α : Type} {d : Kd α} {e : Nat} {W : World} {base g m c p : Nat} {ok : Nat → Prop} {xs : List α} (h : d.R e W base ok (.slice (some ⟨g, 0, none⟩) m c) xs) (hp : m * d.sz ≤ p) (u : Value) :
    d.R e (W.setCell ⟨g, p, none⟩ u) base ok (.slice (some ⟨g, 0, none⟩) m c) xs := by
  have hm := (Kd.R_reads' h).1
  obtain ⟨hok, inner, ⟨ho1, ho2⟩, hr⟩ := h
  rcases ho2 with ⟨hv, _⟩ | ⟨g', cap', cur, hv, hb, hh, hn, hcm, hcs, ht⟩
  · cases hv
  injection hv with ha _ hc
  injection ha with ha
  injection ha with hg
  subst hg; subst hc
  refine ⟨hok, inner, ⟨ho1, .inr ⟨g, c, cur.setIfInBounds p u, by rw [hm], hb, blk_set hh p u, hn, hcm, by simpa using hcs, ?_⟩⟩, hr.imp_ (fun _ _ hM => Kd.M_far (p := ⟨g, p, none⟩) hM (fun k hk he => hk.2 (by rw [he]; rfl)) u)⟩
  rw [← ht]
  apply List.ext_getElem?
  intro j
  rw [List.getElem?_take, List.getElem?_take]
  split
  · rename_i hj
    rw [hm] at hp
    simp only [Array.toList_setIfInBounds]
    rw [List.getElem?_set_ne (by omega)]
  · rfl
theorem R_room {α : Type} {d : Kd α} {e : Nat} {W : World} {base g m c : Nat} {ok : Nat → Prop} {xs : List α} (h : d.R e W base ok (.slice (some ⟨g, 0, none⟩) m c) xs) (p : Nat) (hp : p < c * d.sz) :
    (W.cell? ⟨g, p, none⟩).isSome = true ∧ W.frozen? ⟨g, p, none⟩ = false := by
  obtain ⟨hok, inner, ⟨ho1, ho2⟩, hr⟩ := h
  rcases ho2 with ⟨hv, _⟩ | ⟨g', cap', cur, hv, hb, hh, hn, hcm, hcs, ht⟩
  · cases hv
  injection hv with ha _ hc
  injection ha with ha
  injection ha with hg
  subst hg; subst hc
  refine ⟨?_, blk_frozen hh p⟩
  rw [blk_cell hh p, Array.getElem?_eq_getElem (by omega)]
  rfl
theorem delA (g c i : Nat) : (if c = i + 1 then some (⟨g, 0, none⟩ : Addr) else some ⟨g, i + 1, none⟩) = if c = i + 1 then some ⟨g, 0, none⟩ else (some (⟨g, 0, none⟩ : Addr)).map (·.add ((i + 1) * (Kd.int .i64).sz)) := by
  split
  · rfl
  · have e : (Kd.int .i64).sz = 1 := rfl
    rw [e, Nat.mul_one]
    simp [Addr.add]
theorem zeroInt (w : World) : (zeroValue 3).run Try.prog w = .ok (.int .i64 0) w := by kernel_rfl
set_option maxHeartbeats 8000000 in
set_option maxRecDepth 100000 in
theorem slices_Delete.one (g c : Nat) (xs : List Int) (i : Nat) (w : World) {base : Nat} {ok : Nat → Prop} (h : Kd.R (Kd.int .i64) 3 w base ok (.slice (some ⟨g, 0, none⟩) xs.length c) xs) (hi : i < xs.length) :
  Calls Try.prog 48 #[.slice (some ⟨g, 0, none⟩) xs.length c, .int .i64 (i : Int), .int .i64 ((i + 1 : Nat) : Int)] w fun e w' => e = .returned (.slice (some ⟨g, 0, none⟩) (xs.length - 1) c) ∧ Kd.R (Kd.int .i64) 3 w' base ok (.slice (some ⟨g, 0, none⟩) (xs.length - 1) c) (xs.eraseIdx i) ∧ (∀ B, B ≤ g → B ≤ w.heap.size → Below B w w') := by
  obtain ⟨hn, hnc, hC⟩ := Kd.R_reads' h
  have hmx := Kd.C_max hC
  have hcm : c ≤ 9223372036854775807 := by
    obtain ⟨_, inner, ⟨ho1, ho2⟩, _⟩ := h
    rcases ho2 with ⟨hv, _⟩ | ⟨g', cap', cur, hv, hb, hh, hn, hcm, hcs, ht⟩
    · cases hv
    injection hv with ha _ hc
    subst hc
    simpa [maxLen] using hcm
  obtain ⟨n, hne⟩ : ∃ n, n = xs.length := ⟨_, rfl⟩
  have hg0 : g < w.heap.size := Kd.R_lt h g (by simp [Value.ownBlock])
  have hbs : base ≤ w.heap.size := by
    have h1 := Kd.R_base h g (by simp [Value.ownBlock])
    omega
  have HR := Aside0.mk h
  rw [← hne] at HR hnc hi hmx ⊢
  have HNE := Aside0.mk hne
  clear h hC hn
  have e1 : ((i : Int) == ((i + 1 : Nat) : Int)) = false := beq_eq_false_iff_ne.2 (by omega)
  have d1 : decide ((0 : Int) ≤ (i : Int)) = true := decide_eq_true (by omega)
  have d2 : decide ((i : Int) ≤ ((i + 1 : Nat) : Int)) = true := decide_eq_true (by omega)
  obtain ⟨A1, hA1⟩ : ∃ A1, A1 = (if c = i + 1 then (some (⟨g, 0, none⟩ : Addr)) else (some (⟨g, i + 1, none⟩ : Addr))) := ⟨_, rfl⟩
  have HA := Aside0.mk hA1
  have hic : i ≤ c := by omega
  have hic1 : i + 1 ≤ c := by omega
  have hcn : ¬ c = n - 1 := by omega
  have p1 : (0 : Int) ≤ (i : Int) + 1 := by omega
  have p2 : (i : Int) + 1 ≤ (n : Int) := by omega
  clear hA1 hne
  go_enter Try.func48, Try.ntmps48
  go_wp2_with fail
  go_region_law (refine Kd.R_delete_step (Kd.int .i64) (w0 := w) base (by rfl) (.tmp 22) (.tmp 25) 41 3 rfl Try.underlying41 (by kernel_rfl) (g := g) (n := n) (c := c) (k := i) (m := n - (i + 1)) (c2 := c - (i + 1)) (A := if c = i + 1 then some ⟨g, 0, none⟩ else some ⟨g, i + 1, none⟩) (by simp [Act.eval, Act.put]) (by simp [Act.eval, Act.put]) (delA g c i) rfl (Kd.R_drew HR.out) hi (below_drew1 (Below.refl _ _)) hbs ?_; intro w1 hR hb hg)
  have hcl : ∀ ty, (Builtin.clear_ #[41] ty #[.slice (some ⟨g, n - 1, none⟩) (n - (n - 1)) (c - (n - 1))]).run Try.prog w1 = .ok (.tuple #[]) (w1.setCells g (n - 1) (List.replicate (n - (n - 1)) (.int .i64 0))) :=
    fun ty => Lib.run_clear_slice w1 _ _ ty _ Try.underlying41 zeroInt rfl rfl g (n - 1) (n - (n - 1)) (c - (n - 1)) (by omega) (fun j hj => (R_room hR (n - 1 + j) (by show n - 1 + j < c * 1; omega)).1) (fun j hj => (R_room hR (n - 1 + j) (by show n - 1 + j < c * 1; omega)).2)
  have p3 : ((n - 1 : Nat) : Int) ≤ (n : Int) := by omega
  have p4 : (n : Int) ≤ (c : Int) := by omega
  have p5 : (0 : Int) ≤ ((n - 1 : Nat) : Int) := by omega
  have hR2 := Aside0.mk hR
  have hb2 := Aside0.mk hb
  have hg2 := Aside0.mk hg
  clear hR hb hg
  go_wp2
  all_goals (try (obtain rfl := h))
  all_goals go_ret
  all_goals refine ⟨rfl, ?_, fun B hB hBw => ?_⟩
  all_goals rw [show n - (n - 1) = 1 by omega]
  · exact R_tail hR2.out (by show (n - 1) * 1 ≤ n - 1; omega) _
  · exact ((below_drew1 (Below.refl B w)).grown hg2.out hBw (fun k hk => by cases hk; exact hB)).setCell hB _
  · exact R_tail hR2.out (by show (n - 1) * 1 ≤ n - 1; omega) _
  · exact ((below_drew1 (Below.refl B w)).grown hg2.out hBw (fun k hk => by cases hk; exact hB)).setCell hB _
def line_Leave.f (k : Nat) (l0 : List Int) (a1 : Int) : Option (List Int × Int) := (slices_Clone_int_int.f l0).bind fun c => (line_Place.f k l0 a1).bind fun p => if p < 0 then some (c, 40) else if p < (c.length : Int) then some (c.eraseIdx p.toNat, 0) else none
theorem line_Leave.mono : ∀ (l0 : List Int) (a1 : Int) (k : Nat), LeO (line_Leave.f k l0 a1) (line_Leave.f (k + 1) l0 a1) := fun l0 a1 k => LeO.bind (LeO.refl _) (fun _ => LeO.bind (line_Place.mono l0 a1 k) (fun _ => LeO.refl _))
set_option maxHeartbeats 8000000 in
set_option maxRecDepth 100000 in
theorem line_Leave.calls (k : Nat) (A0 : Option Addr) (c0 : Nat) (l0 : List Int) (a1 : Int) (r1 : List Int) (r2 : Int) (w : World) (hr0 : Kd.C (Kd.int .i64) w A0 l0.length l0) (hc0 : l0.length ≤ c0) (h : line_Leave.f k l0 a1 = some (r1, r2)) :
  Calls Try.prog 30 #[.slice A0 l0.length c0, .int .i64 a1] w fun e w' => ∃ v0_ : Value, e = .returned (.tuple #[v0_, .int .i64 r2]) ∧ Kd.R (Kd.int .i64) 3 w' w.heap.size (fun _ => True) v0_ r1 ∧ Below w.heap.size w w' := by
 obtain ⟨c, hc, h⟩ := Option.bind_eq_some_iff.1 h
 obtain ⟨p, hp, h⟩ := Option.bind_eq_some_iff.1 h
 have HR0 := Aside0.mk hr0
 have HC0 := Aside0.mk hc0
 have HCL := Aside0.mk hc
 have HPL := Aside0.mk hp
 have HB := Aside0.mk (Below.refl w.heap.size w)
 clear hr0 hc0 hc hp
 by_cases h0 : p < 0
 · have h := (if_pos h0).symm.trans h
   injection h with h
   injection h with e1 e2
   subst e1; subst e2
   have hb0 : decide (p < 0) = true := decide_eq_true h0
   clear h0
   go_enter Try.func30, Try.ntmps30
   go_wp2_with (first | (go_at_call 46; (with_reducible refine (slices_Clone_int_int.calls A0 c0 l0 c _ (Kd.C_below HR0.out (by repeat (first | (with_reducible first | exact HB.out | apply bA | apply bN | apply bD) | exact HB.out))) HC0.out HCL.out).mono ?_); rintro e w9 ⟨v0, rfl, hR, hb⟩; have n0_ := Aside0.mk (below_step (by repeat (first | (with_reducible first | exact HB.out | apply bA | apply bN | apply bD) | exact HB.out)) hb); have HO := Aside0.mk (Kd.R_lower hR (below_size (by repeat (first | (with_reducible first | exact HB.out | apply bA | apply bN | apply bD) | exact HB.out)))); clear HB hR hb; have HB := n0_; clear n0_) | (go_at_call 37; (with_reducible refine (line_Place.calls k A0 c0 l0 a1 p _ (Kd.C_below HR0.out (by repeat (first | (with_reducible first | exact HB.out | apply bA | apply bN | apply bD) | exact HB.out))) HC0.out HPL.out).mono ?_); rintro e w10 ⟨rfl, hb⟩; have n0_ := Aside0.mk (below_step (by repeat (first | (with_reducible first | exact HB.out | apply bA | apply bN | apply bD) | exact HB.out)) hb); have n1_ := Aside0.mk (Kd.R_below (by (with_reducible repeat (first | apply Kd.R_alloc | apply Kd.R_drewN | apply Kd.R_drew)); exact HO.out) hb); clear HB HO hb; have HB := n0_; have HO := n1_; clear n0_ n1_))
   go_ret2
   exact ⟨_, rfl, (by (with_reducible repeat (first | apply Kd.R_alloc | apply Kd.R_drewN | apply Kd.R_drew)); exact HO.out), (by repeat (first | (with_reducible first | exact HB.out | apply bA | apply bN | apply bD) | exact HB.out))⟩
 · have h := (if_neg h0).symm.trans h
   split at h
   rotate_left
   · cases h
   rename_i h1
   injection h with h
   injection h with e1 e2
   subst e1; subst e2
   obtain ⟨i, rfl⟩ := Int.eq_ofNat_of_zero_le (by omega : 0 ≤ p)
   have hb0 : decide ((i : Int) < 0) = false := decide_eq_false h0
   have hi : i < c.length := by omega
   have HI := Aside0.mk hi
   have hcl : c.length ≤ 17592186044416 := by
     have h2 := HCL.out
     unfold slices_Clone_int_int.f at h2
     split at h2
     · injection h2 with h2; rw [← h2]; omega
     · cases h2
   have hw : wrap64 ((i : Int) + 1) = ((i + 1 : Nat) : Int) := by unfold wrap64; omega
   have HW := Aside0.mk hw
   clear h0 h1 hcl hw
   rw [Int.toNat_natCast]
   go_enter Try.func30, Try.ntmps30
   go_wp2_with (first | (go_at_call 46; (with_reducible refine (slices_Clone_int_int.calls A0 c0 l0 c _ (Kd.C_below HR0.out (by repeat (first | (with_reducible first | exact HB.out | apply bA | apply bN | apply bD) | exact HB.out))) HC0.out HCL.out).mono ?_); rintro e w9 ⟨v0, rfl, hR, hb⟩; have n0_ := Aside0.mk (below_step (by repeat (first | (with_reducible first | exact HB.out | apply bA | apply bN | apply bD) | exact HB.out)) hb); have HO := Aside0.mk (Kd.R_lower hR (below_size (by repeat (first | (with_reducible first | exact HB.out | apply bA | apply bN | apply bD) | exact HB.out)))); clear HB hR hb; have HB := n0_; clear n0_) | (go_at_call 37; (with_reducible refine (line_Place.calls k A0 c0 l0 a1 (i : Int) _ (Kd.C_below HR0.out (by repeat (first | (with_reducible first | exact HB.out | apply bA | apply bN | apply bD) | exact HB.out))) HC0.out HPL.out).mono ?_); rintro e w10 ⟨rfl, hb⟩; have n0_ := Aside0.mk (below_step (by repeat (first | (with_reducible first | exact HB.out | apply bA | apply bN | apply bD) | exact HB.out)) hb); have n1_ := Aside0.mk (Kd.R_below (by (with_reducible repeat (first | apply Kd.R_alloc | apply Kd.R_drewN | apply Kd.R_drew)); exact HO.out) hb); clear HB HO hb; have HB := n0_; have HO := n1_; clear n0_ n1_; obtain ⟨g9, c9, ev9, hg9, hl9, _⟩ := Kd.R_form HO.out (by have := HI.out; omega); subst ev9; have HG9 := Aside0.mk hg9; clear hg9 hl9) | (rw [HW.out]; go_at_call 48; refine (slices_Delete.one g9 c9 c i _ (by (with_reducible repeat (first | apply Kd.R_alloc | apply Kd.R_drewN | apply Kd.R_drew)); exact HO.out) HI.out).mono ?_; rintro e w11 ⟨rfl, hR, hb⟩; have n0_ := Aside0.mk (Below.trans (by repeat (first | (with_reducible first | exact HB.out | apply bA | apply bN | apply bD) | exact HB.out)) (hb w.heap.size HG9.out (below_size (by repeat (first | (with_reducible first | exact HB.out | apply bA | apply bN | apply bD) | exact HB.out))))); have n1_ := Aside0.mk hR; clear HB HO hb hR; have HB := n0_; have HO := n1_; clear n0_ n1_))
   go_ret2
   exact ⟨_, rfl, (by (with_reducible repeat (first | apply Kd.R_alloc | apply Kd.R_drewN | apply Kd.R_drew)); exact HO.out), (by repeat (first | (with_reducible first | exact HB.out | apply bA | apply bN | apply bD) | exact HB.out))⟩

end Go.Proofs.Ytcmiijdkmfdpnaa.PL
