-- written by this repo's pp.py (the kit's print, turned by wip/patches.py)
import Derived.Deep.RegionHeld3
import Derived.Deep.AppendLies
import Derived.Test.YtcmiijdkmfdpnaaPLx0
import Derived.Test.YtcmiijdkmfdpnaaPLx16
import Derived.Test.YtcmiijdkmfdpnaaPLx17
import Derived.Test.YtcmiijdkmfdpnaaPLx18
import Derived.Test.YtcmiijdkmfdpnaaPLx19
import Derived.Test.YtcmiijdkmfdpnaaPLx20
import Derived.Test.YtcmiijdkmfdpnaaPLx21
import Derived.Test.YtcmiijdkmfdpnaaPLx22
import Derived.Test.YtcmiijdkmfdpnaaPLx23
namespace Go.Proofs.Ytcmiijdkmfdpnaa.PL
open Go.RowKit Go.Proofs.YtcmiijdkmfdpnaaW.PrintWords Go.Proofs.YtcmiijdkmfdpnaaW.PrintLast Go.Proofs.YtcmiijdkmfdpnaaW.PrintMore
attribute [local go_sem] max2_int min2_int max_two min_two max_three min_three max_four min_four   -- for this text's walks alone
set_option linter.unusedVariables false
set_option linter.unusedSimpArgs false

/-! ### sakiaref05_Next: function 33 -/
def sakiaref05_Next.f (k : Nat) (l0 : List Int) : Option (Int × List Int × Bool) := (sakiaref05_Check.f k l0).bind fun t => if t = false then some (0, l0, false) else if l0.length = 0 then some (0, l0, false) else if l0.length < 17592186044416 then some (rd l0 0, l0.drop 1, true) else none
theorem sakiaref05_Next.mono : ∀ (l0 : List Int) (k : Nat), LeO (sakiaref05_Next.f k l0) (sakiaref05_Next.f (k + 1) l0) := fun l0 k => LeO.bind (sakiaref05_Check.mono l0 k) (fun _ => LeO.refl _)
theorem ref05_lit (W : World) (base : Nat) (hb : base ≤ W.heap.size) : Kd.R (Kd.int .i64) 3 (W.alloc (.cells #[] 3 (0, 0))) base (fun _ => True) (.slice (some ⟨W.heap.size, 0, none⟩) 0 0) [] :=
  ⟨fun _ _ => trivial, [], World.ownsRow_lit (base := base) (e := 3) (size := 1) W #[] 0 hb (by decide) rfl, Reps.none _ _⟩
set_option maxHeartbeats 8000000 in
set_option maxRecDepth 100000 in
theorem sakiaref05_Next.calls (k : Nat) (P0_ : Nat → Prop) (A0 : Option Addr) (c0 : Nat) (l0 : List Int) (r1 : Int) (r2 : List Int) (r3 : Bool) (w : World) (hs0 : Kd.V (Kd.int .i64) 3 w w.heap.size (fun k_ => P0_ k_) (.slice A0 l0.length c0) l0) (h : sakiaref05_Next.f k l0 = some (r1, r2, r3)) :
  Calls Try.prog 33 #[.slice A0 l0.length c0] w fun e w' => ∃ v1_ : Value, e = .returned (.tuple #[.int .i64 r1, v1_, .bool r3]) ∧ Kd.V (Kd.int .i64) 3 w' w.heap.size (fun k_ => (P0_ k_ ∨ w.heap.size ≤ k_)) v1_ r2 ∧ Below w.heap.size w w' := by
 obtain ⟨t, ht, h⟩ := Option.bind_eq_some_iff.1 h
 have hrd := (Kd.V_reads' hs0).2.2
 have hcc := (Kd.V_reads' hs0).2.1
 have HT := Aside0.mk ht
 have HS := Aside0.mk (Kd.V_mono hs0 (ok' := fun k_ => (P0_ k_ ∨ w.heap.size ≤ k_)) (fun _ h => .inl h))
 have HRD := Aside0.mk hrd
 have HCC := Aside0.mk hcc
 have HB := Aside0.mk (Below.refl w.heap.size w)
 clear ht hs0
 cases t with
 | false =>
   have h := (if_pos rfl).symm.trans h
   injection h with h
   injection h with e1 h
   injection h with e2 e3
   subst e1; subst e2; subst e3
   clear hrd hcc
   go_enter Try.func33, Try.ntmps33
   go_wp2_with (first | ((with_reducible refine gate_callee (f := 36) rfl ?_); refine goesL_ (some 7) rfl rfl Try.func36 (by kernel_rfl) rfl #[.slice A0 l0.length c0] rfl (by (try simp only [List.map_toArray, List.map_cons, List.map_nil]); first | done | rfl) ?_; (with_reducible refine (sakiaref05_Check.calls k A0 c0 l0 false _ (Kd.C_below HRD.out (by repeat (first | (with_reducible first | exact HB.out | apply bA | apply bN | apply bD) | exact HB.out))) HCC.out HT.out).mono ?_); rintro e w' ⟨rfl, ⟨nd, rfl⟩⟩; refine ⟨_, rfl, ?_⟩))
   go_ret3
   exact ⟨_, rfl, Kd.V_drewN HS.out _, (by repeat (first | (with_reducible first | exact HB.out | apply bA | apply bN | apply bD) | exact HB.out))⟩
 | true =>
   have h := (if_neg (by simp)).symm.trans h
   by_cases h0 : l0.length = 0
   · have h := (if_pos h0).symm.trans h
     injection h with h
     injection h with e1 h
     injection h with e2 e3
     subst e1; subst e2; subst e3
     have hb0 : (l0.length == 0) = true := beq_iff_eq.mpr h0
     have hb1 : ((l0.length : Int) == 0) = true := beq_iff_eq.mpr (by omega)
     clear hrd hcc h0
     go_enter Try.func33, Try.ntmps33
     go_wp2_with (first | ((with_reducible refine gate_callee (f := 36) rfl ?_); refine goesL_ (some 7) rfl rfl Try.func36 (by kernel_rfl) rfl #[.slice A0 l0.length c0] rfl (by (try simp only [List.map_toArray, List.map_cons, List.map_nil]); first | done | rfl) ?_; (with_reducible refine (sakiaref05_Check.calls k A0 c0 l0 true _ (Kd.C_below HRD.out (by repeat (first | (with_reducible first | exact HB.out | apply bA | apply bN | apply bD) | exact HB.out))) HCC.out HT.out).mono ?_); rintro e w' ⟨rfl, ⟨nd, rfl⟩⟩; refine ⟨_, rfl, ?_⟩))
     go_ret3
     exact ⟨_, rfl, Kd.V_drewN HS.out _, (by repeat (first | (with_reducible first | exact HB.out | apply bA | apply bN | apply bD) | exact HB.out))⟩
   · have h := (if_neg h0).symm.trans h
     split at h
     rotate_left
     · cases h
     rename_i hlim
     injection h with h
     injection h with e1 h
     injection h with e2 e3
     subst e1; subst e2; subst e3
     have hb0 : (l0.length == 0) = false := beq_eq_false_iff_ne.mpr h0
     have hb1 : ((l0.length : Int) == 0) = false := beq_eq_false_iff_ne.mpr (by omega)
     have HLM := Aside0.mk hlim
     have HN0 := Aside0.mk h0
     clear hrd hcc h0 hlim
     go_enter Try.func33, Try.ntmps33
     go_upto_region 4 with (first | ((with_reducible refine gate_callee (f := 36) rfl ?_); refine goesL_ (some 7) rfl rfl Try.func36 (by kernel_rfl) rfl #[.slice A0 l0.length c0] rfl (by (try simp only [List.map_toArray, List.map_cons, List.map_nil]); first | done | rfl) ?_; (with_reducible refine (sakiaref05_Check.calls k A0 c0 l0 true _ (Kd.C_below HRD.out (by repeat (first | (with_reducible first | exact HB.out | apply bA | apply bN | apply bD) | exact HB.out))) HCC.out HT.out).mono ?_); rintro e w' ⟨rfl, ⟨nd, rfl⟩⟩; refine ⟨_, rfl, ?_⟩))
     have HB1 := Aside0.mk (bN HB.out nd)
     have HR1 := Aside0.mk (Kd.C_drewN HRD.out nd)
     clear HRD HB HS
     generalize w.drewN nd = w1 at HB1 HR1 ⊢
     have hlen : 0 < l0.length := Nat.pos_of_ne_zero HN0.out
     obtain ⟨ad, rfl, hx0⟩ := Kd.at_int HR1.out 0 (Int.le_refl 0) (by omega)
     have hx1 : w1.cell? (ad.add 0) = some (.int .i64 (rd l0 0)) := hx0
     have hx2 : w1.cell? ad = some (.int .i64 (rd l0 0)) := by have e : ad.add 0 = ad := (by unfold Addr.add; split <;> simp_all); rw [e] at hx1; exact hx1
     have hlt := Go.World.block_lt_of_cell? w1 _ hx2
     obtain ⟨i0, hi0, _, hsz, _⟩ := info_parts info3
     obtain ⟨A1, hA1⟩ : ∃ A1, A1 = (if c0 = 1 then (some ad) else (some ad : Option Addr).map (·.add (1 * 1))) := ⟨_, rfl⟩
     have hcut : ∀ W : World, (Instr.slice 41 (.slice (some ad) l0.length c0) (some (.int .i64 1)) none none).run Try.prog W = .ok (.slice A1 (l0.length - 1) (c0 - 1)) W := by rw [hA1]; exact cut_from (P := Try.prog) 41 3 .i64 Try.underlying41 hi0 1 hsz (some ad) l0.length c0 1 (by omega) (by omega)
     have hcd : (Kd.int .i64).C w1 A1 (l0.drop 1).length (l0.drop 1) := by rw [hA1]; exact Kd.C_drop (m := 1) HR1.out (by omega) HCC.out
     have hdl : (l0.drop 1).length = l0.length - 1 := List.length_drop
     rw [hdl] at hcd
     have HCD := Aside0.mk hcd
     have hp0 : decide ((0 : Int) < (l0.length : Int)) = true := decide_eq_true (by omega)
     clear hcd hA1
     go_region_held3 (fun w' => w'.cell? ad = some (.int .i64 (rd l0 0))) (first | exact hx2 | go_keep | (rw [hg_.cell_far _ (by simp; omega) (by simp [Value.ownBlock]; omega)]; first | exact hx2 | go_keep)) ((refine Kd.R_append_rows_step (Kd.int .i64) (w0 := w) w.heap.size (by rfl) (.tmp 19) (.tmp 21) 41 3 (.int .i64 0) 8 rfl Try.underlying41 info3 rfl (by decide) (by omega) (.slice (some ⟨w1.heap.size, 0, none⟩) 0 0) [] (l0.drop 1) A1 (l0.length - 1) (c0 - 1) (fun _ => True) (fun _ => False) (by rfl) (by rfl) (by (with_reducible repeat (first | apply Kd.R_drewN | apply Kd.R_drew)); exact ref05_lit w1.drew w.heap.size (Nat.le_trans HB1.out.size (Nat.le_refl _))) (show (Kd.int .i64).C _ A1 (l0.length - 1) (l0.drop 1) from (by (with_reducible repeat (first | apply Kd.C_drewN | apply Kd.C_drew | apply Kd.C_alloc)); exact HCD.out)) (fun _ _ h => h) (fun _ h => h.elim) (fun _ _ => trivial) (by repeat (first | exact HB1.out | apply bA | apply bN | apply bD)) (by have := HB1.out.size; simp; omega) (by have := HLM.out; rw [List.length_nil, Nat.zero_add]; omega) ?_; intro v11 w11 ho hb hg_ hat_))
     all_goals (go_wp2; go_ret3; exact ⟨_, rfl, Kd.V_mono (Kd.R_V (Kd.R_bound ho)) (fun _ hk => .inr hk.2.1), hb⟩)

/-! ### sakialaw05_LineTells: function 9 -/
def sakialaw05_LineTells.f (k : Nat) (l0 : List Int) (a1 : Int) : Option (Bool) := (sakialaw05_awake.f k).bind fun t574 => (if (l0.length : Int) > 100 then (some t574) else ((line_Enter.f k l0 a1).bind fun bt575 => ((sakiaref05_Enter.f k l0 a1).bind fun bt579 => ((line_Leave.f k l0 a1).bind fun bt583 => ((sakiaref05_Leave.f k l0 a1).bind fun bt587 => ((line_Next.f k l0).bind fun bt591 => ((sakiaref05_Next.f k l0).bind fun bt596 => (if t574 = true then ((sakiaref03_Ints.f k bt575.1 bt579.1).bind fun t601 => (if t601 = true then (if bt575.2 = bt579.2 then ((sakiaref03_Ints.f k bt583.1 bt587.1).bind fun t602 => (if t602 = true then (if bt583.2 = bt587.2 then (if bt591.1 = bt596.1 then ((sakiaref03_Ints.f k bt591.2.1 bt596.2.1).bind fun t603 => (if t603 = true then (if (bt591.2.2 == bt596.2.2) = true then ((line_Check.f k l0).bind fun t604 => ((sakiaref05_Check.f k l0).bind fun t605 => (if (t604 == t605) = true then ((line_Place.f k l0 a1).bind fun t606 => ((sakiaref05_Place.f k l0 a1).bind fun t607 => (if t606 = t607 then ((line_First.f k l0 a1).bind fun t608 => ((sakiaref05_Place.f k l0 a1).bind fun t609 => (some (t608 == (t609 == 0))))) else (some false)))) else (some false)))) else (some false)) else (some false))) else (some false)) else (some false)) else (some false))) else (some false)) else (some false))) else (some false)))))))))
theorem sakialaw05_LineTells.mono : ∀ a0 a1 k, LeO (sakialaw05_LineTells.f k a0 a1) (sakialaw05_LineTells.f (k + 1) a0 a1) := by
 intro a0 a1 k
 unfold sakialaw05_LineTells.f
 repeat' first
   | (with_reducible exact line_Check.mono _ _)
   | (with_reducible exact line_Enter.mono _ _ _)
   | (with_reducible exact line_First.mono _ _ _)
   | (with_reducible exact line_Leave.mono _ _ _)
   | (with_reducible exact line_Next.mono _ _)
   | (with_reducible exact line_Place.mono _ _ _)
   | (with_reducible exact sakialaw05_awake.mono _)
   | (with_reducible exact sakiaref03_Ints.mono _ _ _)
   | (with_reducible exact sakiaref05_Check.mono _ _)
   | (with_reducible exact sakiaref05_Enter.mono _ _ _)
   | (with_reducible exact sakiaref05_Leave.mono _ _ _)
   | (with_reducible exact sakiaref05_Next.mono _ _)
   | (with_reducible exact sakiaref05_Place.mono _ _ _)
   | (with_reducible exact LeO.refl _)
   | (with_reducible exact LeO.none _)
   | (with_reducible refine LeO.ite ?_ ?_)
   | (with_reducible refine LeO.bind ?_ (fun _ => ?_))
   | exact line_Check.mono _ _
   | exact line_Enter.mono _ _ _
   | exact line_First.mono _ _ _
   | exact line_Leave.mono _ _ _
   | exact line_Next.mono _ _
   | exact line_Place.mono _ _ _
   | exact sakialaw05_awake.mono _
   | exact sakiaref03_Ints.mono _ _ _
   | exact sakiaref05_Check.mono _ _
   | exact sakiaref05_Enter.mono _ _ _
   | exact sakiaref05_Leave.mono _ _ _
   | exact sakiaref05_Next.mono _ _
   | exact sakiaref05_Place.mono _ _ _
   | exact LeO.none _
   | refine LeO.ite ?_ ?_
   | refine LeO.bind ?_ (fun _ => ?_)
set_option maxHeartbeats 8000000 in
set_option maxRecDepth 100000 in
theorem sakialaw05_LineTells.calls (k : Nat) (A0 : Option Addr) (c0 : Nat) (l0 : List Int) (a1 : Int) (r : Bool) (w : World) (hr0 : Kd.C (Kd.int .i64) w A0 l0.length l0) (hc0 : l0.length ≤ c0) (hr_ : r = true) (h : sakialaw05_LineTells.f k l0 a1 = some r) :
  Calls Try.prog 9 #[.slice A0 l0.length c0, .int .i64 a1] w fun e w' => e = .returned (.bool r) ∧ Below w.heap.size w w' := by
 have HR0 := Aside0.mk hr0
 have HC0 := Aside0.mk hc0
 clear hr0 hc0
 have HB := Aside0.mk (Below.refl w.heap.size w)
 have HR_ := Aside0.mk hr_
 clear hr_
 have H : ((sakialaw05_awake.f k).bind fun t574 => (if (l0.length : Int) > 100 then (some t574) else ((line_Enter.f k l0 a1).bind fun bt575 => ((sakiaref05_Enter.f k l0 a1).bind fun bt579 => ((line_Leave.f k l0 a1).bind fun bt583 => ((sakiaref05_Leave.f k l0 a1).bind fun bt587 => ((line_Next.f k l0).bind fun bt591 => ((sakiaref05_Next.f k l0).bind fun bt596 => (if t574 = true then ((sakiaref03_Ints.f k bt575.1 bt579.1).bind fun t601 => (if t601 = true then (if bt575.2 = bt579.2 then ((sakiaref03_Ints.f k bt583.1 bt587.1).bind fun t602 => (if t602 = true then (if bt583.2 = bt587.2 then (if bt591.1 = bt596.1 then ((sakiaref03_Ints.f k bt591.2.1 bt596.2.1).bind fun t603 => (if t603 = true then (if (bt591.2.2 == bt596.2.2) = true then ((line_Check.f k l0).bind fun t604 => ((sakiaref05_Check.f k l0).bind fun t605 => (if (t604 == t605) = true then ((line_Place.f k l0 a1).bind fun t606 => ((sakiaref05_Place.f k l0 a1).bind fun t607 => (if t606 = t607 then ((line_First.f k l0 a1).bind fun t608 => ((sakiaref05_Place.f k l0 a1).bind fun t609 => (some (t608 == (t609 == 0))))) else (some false)))) else (some false)))) else (some false)) else (some false))) else (some false)) else (some false)) else (some false))) else (some false)) else (some false))) else (some false)))))))))) = some r := h
 clear h
 replace H := Option.bind_eq_some_iff.mp H
 obtain ⟨t574, A30, H⟩ := H
 replace H : (if (l0.length : Int) > 100 then (some t574) else ((line_Enter.f k l0 a1).bind fun bt575 => ((sakiaref05_Enter.f k l0 a1).bind fun bt579 => ((line_Leave.f k l0 a1).bind fun bt583 => ((sakiaref05_Leave.f k l0 a1).bind fun bt587 => ((line_Next.f k l0).bind fun bt591 => ((sakiaref05_Next.f k l0).bind fun bt596 => (if t574 = true then ((sakiaref03_Ints.f k bt575.1 bt579.1).bind fun t601 => (if t601 = true then (if bt575.2 = bt579.2 then ((sakiaref03_Ints.f k bt583.1 bt587.1).bind fun t602 => (if t602 = true then (if bt583.2 = bt587.2 then (if bt591.1 = bt596.1 then ((sakiaref03_Ints.f k bt591.2.1 bt596.2.1).bind fun t603 => (if t603 = true then (if (bt591.2.2 == bt596.2.2) = true then ((line_Check.f k l0).bind fun t604 => ((sakiaref05_Check.f k l0).bind fun t605 => (if (t604 == t605) = true then ((line_Place.f k l0 a1).bind fun t606 => ((sakiaref05_Place.f k l0 a1).bind fun t607 => (if t606 = t607 then ((line_First.f k l0 a1).bind fun t608 => ((sakiaref05_Place.f k l0 a1).bind fun t609 => (some (t608 == (t609 == 0))))) else (some false)))) else (some false)))) else (some false)) else (some false))) else (some false)) else (some false)) else (some false))) else (some false)) else (some false))) else (some false))))))))) = some r := H
 have A3 := Aside0.mk A30
 clear A30
 by_cases c4 : (l0.length : Int) > 100
 ·rw [if_pos c4] at H
  have c4b0 : decide (100 < (l0.length : Int)) = true := decide_eq_true c4
  have c4b1 : decide (100 < l0.length) = true := decide_eq_true (by omega)
  clear c4
  obtain rfl := Option.some.inj H
  go_enter Try.func9, Try.ntmps9
  go_wp2_with (first | ((with_reducible refine gate_callee (f := 27) rfl ?_); refine goesL_ (some 20) rfl rfl Try.func27 (by kernel_rfl) rfl #[] rfl (by (try simp only [List.map_toArray, List.map_cons, List.map_nil]); first | done | rfl | (simp only [List.length_drop, List.length_take]; rfl)) ?_; (with_reducible refine (sakialaw05_awake.calls k  t574 _ A3.out).mono ?_); rintro e w5 ⟨rfl, hb⟩; refine ⟨_, rfl, ?_⟩; have n0_ := Aside0.mk (below_step (by repeat (first | (with_reducible first | exact HB.out | apply bA | apply bN | apply bD) | exact HB.out)) hb); clear HB; have HB := n0_; clear n0_; (try clear hb); (try clear hb2); (try clear hk); (try clear hi)))
  go_ret
  exact ⟨by first | rfl | (simp [errW_none, errW_some] <;> rfl) | (rw [eA30_.out]; rfl) | (rw [← eA30_.out]; rfl) | (simp [*, errW_none, errW_some] <;> rfl), by repeat (first | (with_reducible first | exact HB.out | apply bA | apply bN | apply bD) | exact HB.out)⟩
 ·rw [if_neg c4] at H
  have c4b0 : decide (100 < (l0.length : Int)) = false := decide_eq_false c4
  have c4b1 : decide (100 < l0.length) = false := decide_eq_false (by omega)
  clear c4
  replace H := Option.bind_eq_some_iff.mp H
  obtain ⟨⟨t575, t576⟩, A60, H⟩ := H
  replace H : ((sakiaref05_Enter.f k l0 a1).bind fun bt579 => ((line_Leave.f k l0 a1).bind fun bt583 => ((sakiaref05_Leave.f k l0 a1).bind fun bt587 => ((line_Next.f k l0).bind fun bt591 => ((sakiaref05_Next.f k l0).bind fun bt596 => (if t574 = true then ((sakiaref03_Ints.f k t575 bt579.1).bind fun t601 => (if t601 = true then (if t576 = bt579.2 then ((sakiaref03_Ints.f k bt583.1 bt587.1).bind fun t602 => (if t602 = true then (if bt583.2 = bt587.2 then (if bt591.1 = bt596.1 then ((sakiaref03_Ints.f k bt591.2.1 bt596.2.1).bind fun t603 => (if t603 = true then (if (bt591.2.2 == bt596.2.2) = true then ((line_Check.f k l0).bind fun t604 => ((sakiaref05_Check.f k l0).bind fun t605 => (if (t604 == t605) = true then ((line_Place.f k l0 a1).bind fun t606 => ((sakiaref05_Place.f k l0 a1).bind fun t607 => (if t606 = t607 then ((line_First.f k l0 a1).bind fun t608 => ((sakiaref05_Place.f k l0 a1).bind fun t609 => (some (t608 == (t609 == 0))))) else (some false)))) else (some false)))) else (some false)) else (some false))) else (some false)) else (some false)) else (some false))) else (some false)) else (some false))) else (some false))))))) = some r := H
  have A6 := Aside0.mk A60
  clear A60
  replace H := Option.bind_eq_some_iff.mp H
  obtain ⟨⟨t579, t582⟩, A70, H⟩ := H
  replace H : ((line_Leave.f k l0 a1).bind fun bt583 => ((sakiaref05_Leave.f k l0 a1).bind fun bt587 => ((line_Next.f k l0).bind fun bt591 => ((sakiaref05_Next.f k l0).bind fun bt596 => (if t574 = true then ((sakiaref03_Ints.f k t575 t579).bind fun t601 => (if t601 = true then (if t576 = t582 then ((sakiaref03_Ints.f k bt583.1 bt587.1).bind fun t602 => (if t602 = true then (if bt583.2 = bt587.2 then (if bt591.1 = bt596.1 then ((sakiaref03_Ints.f k bt591.2.1 bt596.2.1).bind fun t603 => (if t603 = true then (if (bt591.2.2 == bt596.2.2) = true then ((line_Check.f k l0).bind fun t604 => ((sakiaref05_Check.f k l0).bind fun t605 => (if (t604 == t605) = true then ((line_Place.f k l0 a1).bind fun t606 => ((sakiaref05_Place.f k l0 a1).bind fun t607 => (if t606 = t607 then ((line_First.f k l0 a1).bind fun t608 => ((sakiaref05_Place.f k l0 a1).bind fun t609 => (some (t608 == (t609 == 0))))) else (some false)))) else (some false)))) else (some false)) else (some false))) else (some false)) else (some false)) else (some false))) else (some false)) else (some false))) else (some false)))))) = some r := H
  have A7 := Aside0.mk A70
  clear A70
  replace H := Option.bind_eq_some_iff.mp H
  obtain ⟨⟨t583, t584⟩, A80, H⟩ := H
  replace H : ((sakiaref05_Leave.f k l0 a1).bind fun bt587 => ((line_Next.f k l0).bind fun bt591 => ((sakiaref05_Next.f k l0).bind fun bt596 => (if t574 = true then ((sakiaref03_Ints.f k t575 t579).bind fun t601 => (if t601 = true then (if t576 = t582 then ((sakiaref03_Ints.f k t583 bt587.1).bind fun t602 => (if t602 = true then (if t584 = bt587.2 then (if bt591.1 = bt596.1 then ((sakiaref03_Ints.f k bt591.2.1 bt596.2.1).bind fun t603 => (if t603 = true then (if (bt591.2.2 == bt596.2.2) = true then ((line_Check.f k l0).bind fun t604 => ((sakiaref05_Check.f k l0).bind fun t605 => (if (t604 == t605) = true then ((line_Place.f k l0 a1).bind fun t606 => ((sakiaref05_Place.f k l0 a1).bind fun t607 => (if t606 = t607 then ((line_First.f k l0 a1).bind fun t608 => ((sakiaref05_Place.f k l0 a1).bind fun t609 => (some (t608 == (t609 == 0))))) else (some false)))) else (some false)))) else (some false)) else (some false))) else (some false)) else (some false)) else (some false))) else (some false)) else (some false))) else (some false))))) = some r := H
  have A8 := Aside0.mk A80
  clear A80
  replace H := Option.bind_eq_some_iff.mp H
  obtain ⟨⟨t587, t590⟩, A90, H⟩ := H
  replace H : ((line_Next.f k l0).bind fun bt591 => ((sakiaref05_Next.f k l0).bind fun bt596 => (if t574 = true then ((sakiaref03_Ints.f k t575 t579).bind fun t601 => (if t601 = true then (if t576 = t582 then ((sakiaref03_Ints.f k t583 t587).bind fun t602 => (if t602 = true then (if t584 = t590 then (if bt591.1 = bt596.1 then ((sakiaref03_Ints.f k bt591.2.1 bt596.2.1).bind fun t603 => (if t603 = true then (if (bt591.2.2 == bt596.2.2) = true then ((line_Check.f k l0).bind fun t604 => ((sakiaref05_Check.f k l0).bind fun t605 => (if (t604 == t605) = true then ((line_Place.f k l0 a1).bind fun t606 => ((sakiaref05_Place.f k l0 a1).bind fun t607 => (if t606 = t607 then ((line_First.f k l0 a1).bind fun t608 => ((sakiaref05_Place.f k l0 a1).bind fun t609 => (some (t608 == (t609 == 0))))) else (some false)))) else (some false)))) else (some false)) else (some false))) else (some false)) else (some false)) else (some false))) else (some false)) else (some false))) else (some false)))) = some r := H
  have A9 := Aside0.mk A90
  clear A90
  replace H := Option.bind_eq_some_iff.mp H
  obtain ⟨⟨t591, t592, t593⟩, A100, H⟩ := H
  replace H : ((sakiaref05_Next.f k l0).bind fun bt596 => (if t574 = true then ((sakiaref03_Ints.f k t575 t579).bind fun t601 => (if t601 = true then (if t576 = t582 then ((sakiaref03_Ints.f k t583 t587).bind fun t602 => (if t602 = true then (if t584 = t590 then (if t591 = bt596.1 then ((sakiaref03_Ints.f k t592 bt596.2.1).bind fun t603 => (if t603 = true then (if (t593 == bt596.2.2) = true then ((line_Check.f k l0).bind fun t604 => ((sakiaref05_Check.f k l0).bind fun t605 => (if (t604 == t605) = true then ((line_Place.f k l0 a1).bind fun t606 => ((sakiaref05_Place.f k l0 a1).bind fun t607 => (if t606 = t607 then ((line_First.f k l0 a1).bind fun t608 => ((sakiaref05_Place.f k l0 a1).bind fun t609 => (some (t608 == (t609 == 0))))) else (some false)))) else (some false)))) else (some false)) else (some false))) else (some false)) else (some false)) else (some false))) else (some false)) else (some false))) else (some false))) = some r := H
  have A10 := Aside0.mk A100
  clear A100
  replace H := Option.bind_eq_some_iff.mp H
  obtain ⟨⟨t596, t597, t600⟩, A110, H⟩ := H
  replace H : (if t574 = true then ((sakiaref03_Ints.f k t575 t579).bind fun t601 => (if t601 = true then (if t576 = t582 then ((sakiaref03_Ints.f k t583 t587).bind fun t602 => (if t602 = true then (if t584 = t590 then (if t591 = t596 then ((sakiaref03_Ints.f k t592 t597).bind fun t603 => (if t603 = true then (if (t593 == t600) = true then ((line_Check.f k l0).bind fun t604 => ((sakiaref05_Check.f k l0).bind fun t605 => (if (t604 == t605) = true then ((line_Place.f k l0 a1).bind fun t606 => ((sakiaref05_Place.f k l0 a1).bind fun t607 => (if t606 = t607 then ((line_First.f k l0 a1).bind fun t608 => ((sakiaref05_Place.f k l0 a1).bind fun t609 => (some (t608 == (t609 == 0))))) else (some false)))) else (some false)))) else (some false)) else (some false))) else (some false)) else (some false)) else (some false))) else (some false)) else (some false))) else (some false)) = some r := H
  have A11 := Aside0.mk A110
  clear A110
  by_cases c12 : t574 = true
  ·subst c12
   have H1 : ((sakiaref03_Ints.f k t575 t579).bind fun t601 => (if t601 = true then (if t576 = t582 then ((sakiaref03_Ints.f k t583 t587).bind fun t602 => (if t602 = true then (if t584 = t590 then (if t591 = t596 then ((sakiaref03_Ints.f k t592 t597).bind fun t603 => (if t603 = true then (if (t593 == t600) = true then ((line_Check.f k l0).bind fun t604 => ((sakiaref05_Check.f k l0).bind fun t605 => (if (t604 == t605) = true then ((line_Place.f k l0 a1).bind fun t606 => ((sakiaref05_Place.f k l0 a1).bind fun t607 => (if t606 = t607 then ((line_First.f k l0 a1).bind fun t608 => ((sakiaref05_Place.f k l0 a1).bind fun t609 => (some (t608 == (t609 == 0))))) else (some false)))) else (some false)))) else (some false)) else (some false))) else (some false)) else (some false)) else (some false))) else (some false)) else (some false))) = some r := by rw [if_pos rfl] at H; exact H
   clear H
   have H := H1
   clear H1
   replace H := Option.bind_eq_some_iff.mp H
   obtain ⟨t601, A130, H⟩ := H
   replace H : (if t601 = true then (if t576 = t582 then ((sakiaref03_Ints.f k t583 t587).bind fun t602 => (if t602 = true then (if t584 = t590 then (if t591 = t596 then ((sakiaref03_Ints.f k t592 t597).bind fun t603 => (if t603 = true then (if (t593 == t600) = true then ((line_Check.f k l0).bind fun t604 => ((sakiaref05_Check.f k l0).bind fun t605 => (if (t604 == t605) = true then ((line_Place.f k l0 a1).bind fun t606 => ((sakiaref05_Place.f k l0 a1).bind fun t607 => (if t606 = t607 then ((line_First.f k l0 a1).bind fun t608 => ((sakiaref05_Place.f k l0 a1).bind fun t609 => (some (t608 == (t609 == 0))))) else (some false)))) else (some false)))) else (some false)) else (some false))) else (some false)) else (some false)) else (some false))) else (some false)) else (some false)) = some r := H
   have A13 := Aside0.mk A130
   clear A130
   by_cases c14 : t601 = true
   ·subst c14
    have H1 : (if t576 = t582 then ((sakiaref03_Ints.f k t583 t587).bind fun t602 => (if t602 = true then (if t584 = t590 then (if t591 = t596 then ((sakiaref03_Ints.f k t592 t597).bind fun t603 => (if t603 = true then (if (t593 == t600) = true then ((line_Check.f k l0).bind fun t604 => ((sakiaref05_Check.f k l0).bind fun t605 => (if (t604 == t605) = true then ((line_Place.f k l0 a1).bind fun t606 => ((sakiaref05_Place.f k l0 a1).bind fun t607 => (if t606 = t607 then ((line_First.f k l0 a1).bind fun t608 => ((sakiaref05_Place.f k l0 a1).bind fun t609 => (some (t608 == (t609 == 0))))) else (some false)))) else (some false)))) else (some false)) else (some false))) else (some false)) else (some false)) else (some false))) else (some false)) = some r := by rw [if_pos rfl] at H; exact H
    clear H
    have H := H1
    clear H1
    by_cases c15 : t576 = t582
    ·rw [if_pos c15] at H
     have c15b0 : (t576 == t582) = true := beq_iff_eq.mpr c15
     have c15b1 : (t576 != t582) = false := bne_eq_false_iff_eq.mpr c15
     clear c15
     replace H := Option.bind_eq_some_iff.mp H
     obtain ⟨t602, A160, H⟩ := H
     replace H : (if t602 = true then (if t584 = t590 then (if t591 = t596 then ((sakiaref03_Ints.f k t592 t597).bind fun t603 => (if t603 = true then (if (t593 == t600) = true then ((line_Check.f k l0).bind fun t604 => ((sakiaref05_Check.f k l0).bind fun t605 => (if (t604 == t605) = true then ((line_Place.f k l0 a1).bind fun t606 => ((sakiaref05_Place.f k l0 a1).bind fun t607 => (if t606 = t607 then ((line_First.f k l0 a1).bind fun t608 => ((sakiaref05_Place.f k l0 a1).bind fun t609 => (some (t608 == (t609 == 0))))) else (some false)))) else (some false)))) else (some false)) else (some false))) else (some false)) else (some false)) else (some false)) = some r := H
     have A16 := Aside0.mk A160
     clear A160
     by_cases c17 : t602 = true
     ·subst c17
      have H1 : (if t584 = t590 then (if t591 = t596 then ((sakiaref03_Ints.f k t592 t597).bind fun t603 => (if t603 = true then (if (t593 == t600) = true then ((line_Check.f k l0).bind fun t604 => ((sakiaref05_Check.f k l0).bind fun t605 => (if (t604 == t605) = true then ((line_Place.f k l0 a1).bind fun t606 => ((sakiaref05_Place.f k l0 a1).bind fun t607 => (if t606 = t607 then ((line_First.f k l0 a1).bind fun t608 => ((sakiaref05_Place.f k l0 a1).bind fun t609 => (some (t608 == (t609 == 0))))) else (some false)))) else (some false)))) else (some false)) else (some false))) else (some false)) else (some false)) = some r := by rw [if_pos rfl] at H; exact H
      clear H
      have H := H1
      clear H1
      by_cases c18 : t584 = t590
      ·rw [if_pos c18] at H
       have c18b0 : (t584 == t590) = true := beq_iff_eq.mpr c18
       have c18b1 : (t584 != t590) = false := bne_eq_false_iff_eq.mpr c18
       clear c18
       by_cases c19 : t591 = t596
       ·rw [if_pos c19] at H
        have c19b0 : (t591 == t596) = true := beq_iff_eq.mpr c19
        have c19b1 : (t591 != t596) = false := bne_eq_false_iff_eq.mpr c19
        clear c19
        replace H := Option.bind_eq_some_iff.mp H
        obtain ⟨t603, A200, H⟩ := H
        replace H : (if t603 = true then (if (t593 == t600) = true then ((line_Check.f k l0).bind fun t604 => ((sakiaref05_Check.f k l0).bind fun t605 => (if (t604 == t605) = true then ((line_Place.f k l0 a1).bind fun t606 => ((sakiaref05_Place.f k l0 a1).bind fun t607 => (if t606 = t607 then ((line_First.f k l0 a1).bind fun t608 => ((sakiaref05_Place.f k l0 a1).bind fun t609 => (some (t608 == (t609 == 0))))) else (some false)))) else (some false)))) else (some false)) else (some false)) = some r := H
        have A20 := Aside0.mk A200
        clear A200
        by_cases c21 : t603 = true
        ·subst c21
         have H1 : (if (t593 == t600) = true then ((line_Check.f k l0).bind fun t604 => ((sakiaref05_Check.f k l0).bind fun t605 => (if (t604 == t605) = true then ((line_Place.f k l0 a1).bind fun t606 => ((sakiaref05_Place.f k l0 a1).bind fun t607 => (if t606 = t607 then ((line_First.f k l0 a1).bind fun t608 => ((sakiaref05_Place.f k l0 a1).bind fun t609 => (some (t608 == (t609 == 0))))) else (some false)))) else (some false)))) else (some false)) = some r := by rw [if_pos rfl] at H; exact H
         clear H
         have H := H1
         clear H1
         by_cases c22 : (t593 == t600) = true
         ·rw [if_pos c22] at H
          have c22b0 : (t593 == t600) = true := c22
          (try (have c22b1 : decide (t593 = t600) = true := by simpa using c22))
          (try (have c22b2 : (t593 == t600) = true := by simpa using c22))
          clear c22
          replace H := Option.bind_eq_some_iff.mp H
          obtain ⟨t604, A230, H⟩ := H
          replace H : ((sakiaref05_Check.f k l0).bind fun t605 => (if (t604 == t605) = true then ((line_Place.f k l0 a1).bind fun t606 => ((sakiaref05_Place.f k l0 a1).bind fun t607 => (if t606 = t607 then ((line_First.f k l0 a1).bind fun t608 => ((sakiaref05_Place.f k l0 a1).bind fun t609 => (some (t608 == (t609 == 0))))) else (some false)))) else (some false))) = some r := H
          have A23 := Aside0.mk A230
          clear A230
          replace H := Option.bind_eq_some_iff.mp H
          obtain ⟨t605, A240, H⟩ := H
          replace H : (if (t604 == t605) = true then ((line_Place.f k l0 a1).bind fun t606 => ((sakiaref05_Place.f k l0 a1).bind fun t607 => (if t606 = t607 then ((line_First.f k l0 a1).bind fun t608 => ((sakiaref05_Place.f k l0 a1).bind fun t609 => (some (t608 == (t609 == 0))))) else (some false)))) else (some false)) = some r := H
          have A24 := Aside0.mk A240
          clear A240
          by_cases c25 : (t604 == t605) = true
          ·rw [if_pos c25] at H
           have c25b0 : (t604 == t605) = true := c25
           (try (have c25b1 : decide (t604 = t605) = true := by simpa using c25))
           (try (have c25b2 : (t604 == t605) = true := by simpa using c25))
           clear c25
           replace H := Option.bind_eq_some_iff.mp H
           obtain ⟨t606, A260, H⟩ := H
           replace H : ((sakiaref05_Place.f k l0 a1).bind fun t607 => (if t606 = t607 then ((line_First.f k l0 a1).bind fun t608 => ((sakiaref05_Place.f k l0 a1).bind fun t609 => (some (t608 == (t609 == 0))))) else (some false))) = some r := H
           have A26 := Aside0.mk A260
           clear A260
           replace H := Option.bind_eq_some_iff.mp H
           obtain ⟨t607, A270, H⟩ := H
           replace H : (if t606 = t607 then ((line_First.f k l0 a1).bind fun t608 => ((sakiaref05_Place.f k l0 a1).bind fun t609 => (some (t608 == (t609 == 0))))) else (some false)) = some r := H
           have A27 := Aside0.mk A270
           clear A270
           by_cases c28 : t606 = t607
           ·rw [if_pos c28] at H
            have c28b0 : (t606 == t607) = true := beq_iff_eq.mpr c28
            have c28b1 : (t606 != t607) = false := bne_eq_false_iff_eq.mpr c28
            clear c28
            replace H := Option.bind_eq_some_iff.mp H
            obtain ⟨t608, A290, H⟩ := H
            replace H : ((sakiaref05_Place.f k l0 a1).bind fun t609 => (some (t608 == (t609 == 0)))) = some r := H
            have A29 := Aside0.mk A290
            clear A290
            replace H := Option.bind_eq_some_iff.mp H
            obtain ⟨t609, A300, H⟩ := H
            replace H : (some (t608 == (t609 == 0))) = some r := H
            have A30 := Aside0.mk A300
            clear A300
            (try (have eA30_ := Aside0.mk (Option.some.inj (A27.out.symm.trans A30.out))))
            obtain rfl := Option.some.inj H
            go_enter Try.func9, Try.ntmps9
            go_wp2_with (first | ((with_reducible refine gate_callee (f := 27) rfl ?_); refine goesL_ (some 20) rfl rfl Try.func27 (by kernel_rfl) rfl #[] rfl (by (try simp only [List.map_toArray, List.map_cons, List.map_nil]); first | done | rfl | (simp only [List.length_drop, List.length_take]; rfl)) ?_; (with_reducible refine (sakialaw05_awake.calls k  true _ A3.out).mono ?_); rintro e w31 ⟨rfl, hb⟩; refine ⟨_, rfl, ?_⟩; have n0_ := Aside0.mk (below_step (by repeat (first | (with_reducible first | exact HB.out | apply bA | apply bN | apply bD) | exact HB.out)) hb); clear HB; have HB := n0_; clear n0_; (try clear hb); (try clear hb2); (try clear hk); (try clear hi)) | ((with_reducible refine gate_callee (f := 28) rfl ?_); refine goesL_ (some 28) rfl rfl Try.func28 (by kernel_rfl) rfl #[.slice A0 l0.length c0, .int .i64 a1] rfl (by (try simp only [List.map_toArray, List.map_cons, List.map_nil]); first | done | rfl | (simp only [List.length_drop, List.length_take]; rfl)) ?_; (with_reducible refine (line_Enter.calls k _ _ l0 a1 t575 t576 _ ?side1 ?side2 A6.out).mono ?_); (case side1 => repeat (first | exact (Kd.C_below HR0.out HB.out) | (with_reducible refine Kd.C_alloc ?_ _) | (with_reducible refine Kd.C_drewN ?_ _) | (with_reducible refine Kd.C_drew ?_))); (case side2 => exact HC0.out); rintro e w32 ⟨v577, rfl, ho0, hb⟩; refine ⟨_, rfl, ?_⟩; have n0_ := Aside0.mk (Kd.R_lower ho0 (below_size (by repeat (first | (with_reducible first | exact HB.out | apply bA | apply bN | apply bD) | exact HB.out)))); have n1_ := Aside0.mk (below_step (by repeat (first | (with_reducible first | exact HB.out | apply bA | apply bN | apply bD) | exact HB.out)) hb); clear HB; have HO578 := n0_; have HB := n1_; clear n0_ n1_; (try clear hb); (try clear hb2); (try clear hk); (try clear hi); (try clear ho0)) | ((with_reducible refine gate_callee (f := 29) rfl ?_); refine goesL_ (some 34) rfl rfl Try.func29 (by kernel_rfl) rfl #[.slice A0 l0.length c0, .int .i64 a1] rfl (by (try simp only [List.map_toArray, List.map_cons, List.map_nil]); first | done | rfl | (simp only [List.length_drop, List.length_take]; rfl)) ?_; (with_reducible refine (sakiaref05_Enter.calls k (fun k_ => k_ < w.heap.size) _ _ l0 a1 t579 t582 _ ?side1 A7.out).mono ?_); (case side1 => exact Kd.V_mk HC0.out (Kd.F_below (Kd.C_F (Kd.heap_int .i64) HR0.out) (by repeat (first | (with_reducible first | exact HB.out | apply bA | apply bN | apply bD) | exact HB.out)))); rintro e w33 ⟨v580, rfl, ho0, hb⟩; refine ⟨_, rfl, ?_⟩; have n0_ := Aside0.mk (Kd.R_below (by (with_reducible repeat (first | apply Kd.R_alloc | apply Kd.R_drewN | apply Kd.R_drew)); exact HO578.out) hb); have n1_ := Aside0.mk (Kd.V_lower (Kd.V_mono (ok' := fun k_ => some k_ ≠ (v577 : Value).ownBlock) ho0 (fun k_ hk_ => Or.elim hk_ (fun hs_ => fun e_ => Nat.not_le.2 hs_ (Kd.R_base HO578.out k_ e_.symm)) (fun hn_ => (Kd.fresh' (Kd.R_lt (by (with_reducible repeat (first | apply Kd.R_alloc | apply Kd.R_drewN | apply Kd.R_drew)); exact HO578.out)) k_ hn_)))) (below_size (by repeat (first | (with_reducible first | exact HB.out | apply bA | apply bN | apply bD) | exact HB.out)))); have n2_ := Aside0.mk (below_step (by repeat (first | (with_reducible first | exact HB.out | apply bA | apply bN | apply bD) | exact HB.out)) hb); clear HO578; clear HB; have HO578 := n0_; have HO581 := n1_; have HB := n2_; clear n0_ n1_ n2_; (try clear hb); (try clear hb2); (try clear hk); (try clear hi); (try clear ho0)) | ((with_reducible refine gate_callee (f := 30) rfl ?_); refine goesL_ (some 40) rfl rfl Try.func30 (by kernel_rfl) rfl #[.slice A0 l0.length c0, .int .i64 a1] rfl (by (try simp only [List.map_toArray, List.map_cons, List.map_nil]); first | done | rfl | (simp only [List.length_drop, List.length_take]; rfl)) ?_; (with_reducible refine (line_Leave.calls k _ _ l0 a1 t583 t584 _ ?side1 ?side2 A8.out).mono ?_); (case side1 => repeat (first | exact (Kd.C_below HR0.out HB.out) | (with_reducible refine Kd.C_alloc ?_ _) | (with_reducible refine Kd.C_drewN ?_ _) | (with_reducible refine Kd.C_drew ?_))); (case side2 => exact HC0.out); rintro e w34 ⟨v585, rfl, ho0, hb⟩; refine ⟨_, rfl, ?_⟩; have n0_ := Aside0.mk (Kd.R_elder' (by (with_reducible repeat (first | apply Kd.R_alloc | apply Kd.R_drewN | apply Kd.R_drew)); exact HO578.out) (Kd.R_base ho0) hb); have n1_ := Aside0.mk (Kd.V_elder' (by (with_reducible repeat (first | apply Kd.V_alloc | apply Kd.V_drewN | apply Kd.V_drew)); exact HO581.out) (Kd.R_base ho0) hb); have n2_ := Aside0.mk (Kd.R_lower (Kd.R_new' ho0 (Kd.R_lt (by (with_reducible repeat (first | apply Kd.R_alloc | apply Kd.R_drewN | apply Kd.R_drew)); exact HO578.out))) (below_size (by repeat (first | (with_reducible first | exact HB.out | apply bA | apply bN | apply bD) | exact HB.out)))); have n3_ := Aside0.mk (below_step (by repeat (first | (with_reducible first | exact HB.out | apply bA | apply bN | apply bD) | exact HB.out)) hb); clear HO578; clear HO581; clear HB; have HO578 := n0_; have HO581 := n1_; have HO586 := n2_; have HB := n3_; clear n0_ n1_ n2_ n3_; (try clear hb); (try clear hb2); (try clear hk); (try clear hi); (try clear ho0)) | ((with_reducible refine gate_callee (f := 31) rfl ?_); refine goesL_ (some 46) rfl rfl Try.func31 (by kernel_rfl) rfl #[.slice A0 l0.length c0, .int .i64 a1] rfl (by (try simp only [List.map_toArray, List.map_cons, List.map_nil]); first | done | rfl | (simp only [List.length_drop, List.length_take]; rfl)) ?_; (with_reducible refine (sakiaref05_Leave.calls k (fun k_ => k_ < w.heap.size) _ _ l0 a1 t587 t590 _ ?side1 A9.out).mono ?_); (case side1 => exact Kd.V_mk HC0.out (Kd.F_below (Kd.C_F (Kd.heap_int .i64) HR0.out) (by repeat (first | (with_reducible first | exact HB.out | apply bA | apply bN | apply bD) | exact HB.out)))); rintro e w35 ⟨v588, rfl, ho0, hb⟩; refine ⟨_, rfl, ?_⟩; have n0_ := Aside0.mk (Kd.R_below (by (with_reducible repeat (first | apply Kd.R_alloc | apply Kd.R_drewN | apply Kd.R_drew)); exact HO578.out) hb); have n1_ := Aside0.mk (Kd.V_below (by (with_reducible repeat (first | apply Kd.V_alloc | apply Kd.V_drewN | apply Kd.V_drew)); exact HO581.out) hb); have n2_ := Aside0.mk (Kd.R_below (by (with_reducible repeat (first | apply Kd.R_alloc | apply Kd.R_drewN | apply Kd.R_drew)); exact HO586.out) hb); have n3_ := Aside0.mk (Kd.V_lower (Kd.V_mono (ok' := fun k_ => some k_ ≠ (v577 : Value).ownBlock ∧ some k_ ≠ (v585 : Value).ownBlock) ho0 (fun k_ hk_ => ⟨Or.elim hk_ (fun hs_ => fun e_ => Nat.not_le.2 hs_ (Kd.R_base HO578.out k_ e_.symm)) (fun hn_ => (Kd.fresh' (Kd.R_lt (by (with_reducible repeat (first | apply Kd.R_alloc | apply Kd.R_drewN | apply Kd.R_drew)); exact HO578.out)) k_ hn_)), Or.elim hk_ (fun hs_ => fun e_ => Nat.not_le.2 hs_ (Kd.R_base HO586.out k_ e_.symm)) (fun hn_ => (Kd.fresh' (Kd.R_lt (by (with_reducible repeat (first | apply Kd.R_alloc | apply Kd.R_drewN | apply Kd.R_drew)); exact HO586.out)) k_ hn_))⟩)) (below_size (by repeat (first | (with_reducible first | exact HB.out | apply bA | apply bN | apply bD) | exact HB.out)))); have n4_ := Aside0.mk (below_step (by repeat (first | (with_reducible first | exact HB.out | apply bA | apply bN | apply bD) | exact HB.out)) hb); clear HO578; clear HO581; clear HO586; clear HB; have HO578 := n0_; have HO581 := n1_; have HO586 := n2_; have HO589 := n3_; have HB := n4_; clear n0_ n1_ n2_ n3_ n4_; (try clear hb); (try clear hb2); (try clear hk); (try clear hi); (try clear ho0)) | ((with_reducible refine gate_callee (f := 32) rfl ?_); refine goesL_ (some 51) rfl rfl Try.func32 (by kernel_rfl) rfl #[.slice A0 l0.length c0] rfl (by (try simp only [List.map_toArray, List.map_cons, List.map_nil]); first | done | rfl | (simp only [List.length_drop, List.length_take]; rfl)) ?_; (with_reducible refine (line_Next.calls k _ _ l0 t591 t592 t593 _ ?side1 ?side2 A10.out).mono ?_); (case side1 => repeat (first | exact (Kd.C_below HR0.out HB.out) | (with_reducible refine Kd.C_alloc ?_ _) | (with_reducible refine Kd.C_drewN ?_ _) | (with_reducible refine Kd.C_drew ?_))); (case side2 => exact HC0.out); rintro e w36 ⟨v594, rfl, ho0, hb⟩; refine ⟨_, rfl, ?_⟩; have n0_ := Aside0.mk (Kd.R_elder' (by (with_reducible repeat (first | apply Kd.R_alloc | apply Kd.R_drewN | apply Kd.R_drew)); exact HO578.out) (Kd.R_base ho0) hb); have n1_ := Aside0.mk (Kd.V_elder' (by (with_reducible repeat (first | apply Kd.V_alloc | apply Kd.V_drewN | apply Kd.V_drew)); exact HO581.out) (Kd.R_base ho0) hb); have n2_ := Aside0.mk (Kd.R_elder' (by (with_reducible repeat (first | apply Kd.R_alloc | apply Kd.R_drewN | apply Kd.R_drew)); exact HO586.out) (Kd.R_base ho0) hb); have n3_ := Aside0.mk (Kd.V_elder' (by (with_reducible repeat (first | apply Kd.V_alloc | apply Kd.V_drewN | apply Kd.V_drew)); exact HO589.out) (Kd.R_base ho0) hb); have n4_ := Aside0.mk (Kd.R_lower (Kd.R_new' (Kd.R_new' ho0 (Kd.R_lt (by (with_reducible repeat (first | apply Kd.R_alloc | apply Kd.R_drewN | apply Kd.R_drew)); exact HO578.out))) (Kd.R_lt (by (with_reducible repeat (first | apply Kd.R_alloc | apply Kd.R_drewN | apply Kd.R_drew)); exact HO586.out))) (below_size (by repeat (first | (with_reducible first | exact HB.out | apply bA | apply bN | apply bD) | exact HB.out)))); have n5_ := Aside0.mk (below_step (by repeat (first | (with_reducible first | exact HB.out | apply bA | apply bN | apply bD) | exact HB.out)) hb); clear HO578; clear HO581; clear HO586; clear HO589; clear HB; have HO578 := n0_; have HO581 := n1_; have HO586 := n2_; have HO589 := n3_; have HO595 := n4_; have HB := n5_; clear n0_ n1_ n2_ n3_ n4_ n5_; (try clear hb); (try clear hb2); (try clear hk); (try clear hi); (try clear ho0)) | ((with_reducible refine gate_callee (f := 33) rfl ?_); refine goesL_ (some 57) rfl rfl Try.func33 (by kernel_rfl) rfl #[.slice A0 l0.length c0] rfl (by (try simp only [List.map_toArray, List.map_cons, List.map_nil]); first | done | rfl | (simp only [List.length_drop, List.length_take]; rfl)) ?_; (with_reducible refine (sakiaref05_Next.calls k (fun k_ => k_ < w.heap.size) _ _ l0 t596 t597 t600 _ ?side1 A11.out).mono ?_); (case side1 => exact Kd.V_mk HC0.out (Kd.F_below (Kd.C_F (Kd.heap_int .i64) HR0.out) (by repeat (first | (with_reducible first | exact HB.out | apply bA | apply bN | apply bD) | exact HB.out)))); rintro e w37 ⟨v598, rfl, ho0, hb⟩; refine ⟨_, rfl, ?_⟩; have n0_ := Aside0.mk (Kd.R_below (by (with_reducible repeat (first | apply Kd.R_alloc | apply Kd.R_drewN | apply Kd.R_drew)); exact HO578.out) hb); have n1_ := Aside0.mk (Kd.V_below (by (with_reducible repeat (first | apply Kd.V_alloc | apply Kd.V_drewN | apply Kd.V_drew)); exact HO581.out) hb); have n2_ := Aside0.mk (Kd.R_below (by (with_reducible repeat (first | apply Kd.R_alloc | apply Kd.R_drewN | apply Kd.R_drew)); exact HO586.out) hb); have n3_ := Aside0.mk (Kd.V_below (by (with_reducible repeat (first | apply Kd.V_alloc | apply Kd.V_drewN | apply Kd.V_drew)); exact HO589.out) hb); have n4_ := Aside0.mk (Kd.R_below (by (with_reducible repeat (first | apply Kd.R_alloc | apply Kd.R_drewN | apply Kd.R_drew)); exact HO595.out) hb); have n5_ := Aside0.mk (Kd.V_lower (Kd.V_mono (ok' := fun k_ => some k_ ≠ (v577 : Value).ownBlock ∧ some k_ ≠ (v585 : Value).ownBlock ∧ some k_ ≠ (v594 : Value).ownBlock) ho0 (fun k_ hk_ => ⟨Or.elim hk_ (fun hs_ => fun e_ => Nat.not_le.2 hs_ (Kd.R_base HO578.out k_ e_.symm)) (fun hn_ => (Kd.fresh' (Kd.R_lt (by (with_reducible repeat (first | apply Kd.R_alloc | apply Kd.R_drewN | apply Kd.R_drew)); exact HO578.out)) k_ hn_)), Or.elim hk_ (fun hs_ => fun e_ => Nat.not_le.2 hs_ (Kd.R_base HO586.out k_ e_.symm)) (fun hn_ => (Kd.fresh' (Kd.R_lt (by (with_reducible repeat (first | apply Kd.R_alloc | apply Kd.R_drewN | apply Kd.R_drew)); exact HO586.out)) k_ hn_)), Or.elim hk_ (fun hs_ => fun e_ => Nat.not_le.2 hs_ (Kd.R_base HO595.out k_ e_.symm)) (fun hn_ => (Kd.fresh' (Kd.R_lt (by (with_reducible repeat (first | apply Kd.R_alloc | apply Kd.R_drewN | apply Kd.R_drew)); exact HO595.out)) k_ hn_))⟩)) (below_size (by repeat (first | (with_reducible first | exact HB.out | apply bA | apply bN | apply bD) | exact HB.out)))); have n6_ := Aside0.mk (below_step (by repeat (first | (with_reducible first | exact HB.out | apply bA | apply bN | apply bD) | exact HB.out)) hb); clear HO578; clear HO581; clear HO586; clear HO589; clear HO595; clear HB; have HO578 := n0_; have HO581 := n1_; have HO586 := n2_; have HO589 := n3_; have HO595 := n4_; have HO599 := n5_; have HB := n6_; clear n0_ n1_ n2_ n3_ n4_ n5_ n6_; (try clear hb); (try clear hb2); (try clear hk); (try clear hi); (try clear ho0); obtain ⟨Ao38, co38, eo38⟩ := Kd.R_slice HO578.out; subst eo38; obtain ⟨Ao39, co39, eo39⟩ := Kd.V_slice HO581.out; subst eo39) | (go_at_call 34; (with_reducible refine (sakiaref03_Ints.calls k _ _ t575 _ _ t579 true _ ?side1 ?side2 ?side3 ?side4 A13.out).mono ?_); (case side1 => repeat (first | exact (Kd.R_reads' HO578.out).2.2 | (with_reducible refine Kd.C_alloc ?_ _) | (with_reducible refine Kd.C_drewN ?_ _) | (with_reducible refine Kd.C_drew ?_))); (case side2 => exact (Kd.R_reads' HO578.out).2.1); (case side3 => repeat (first | exact (Kd.V_reads' HO581.out).2.2 | (with_reducible refine Kd.C_alloc ?_ _) | (with_reducible refine Kd.C_drewN ?_ _) | (with_reducible refine Kd.C_drew ?_))); (case side4 => exact (Kd.V_reads' HO581.out).2.1); rintro e w' ⟨rfl, ⟨nd, rfl⟩⟩; obtain ⟨Ao40, co40, eo40⟩ := Kd.R_slice HO586.out; subst eo40; obtain ⟨Ao41, co41, eo41⟩ := Kd.V_slice HO589.out; subst eo41) | (go_at_call 34; (with_reducible refine (sakiaref03_Ints.calls k _ _ t583 _ _ t587 true _ ?side1 ?side2 ?side3 ?side4 A16.out).mono ?_); (case side1 => repeat (first | exact (Kd.R_reads' HO586.out).2.2 | (with_reducible refine Kd.C_alloc ?_ _) | (with_reducible refine Kd.C_drewN ?_ _) | (with_reducible refine Kd.C_drew ?_))); (case side2 => exact (Kd.R_reads' HO586.out).2.1); (case side3 => repeat (first | exact (Kd.V_reads' HO589.out).2.2 | (with_reducible refine Kd.C_alloc ?_ _) | (with_reducible refine Kd.C_drewN ?_ _) | (with_reducible refine Kd.C_drew ?_))); (case side4 => exact (Kd.V_reads' HO589.out).2.1); rintro e w' ⟨rfl, ⟨nd, rfl⟩⟩; obtain ⟨Ao42, co42, eo42⟩ := Kd.R_slice HO595.out; subst eo42; obtain ⟨Ao43, co43, eo43⟩ := Kd.V_slice HO599.out; subst eo43) | (go_at_call 34; (with_reducible refine (sakiaref03_Ints.calls k _ _ t592 _ _ t597 true _ ?side1 ?side2 ?side3 ?side4 A20.out).mono ?_); (case side1 => repeat (first | exact (Kd.R_reads' HO595.out).2.2 | (with_reducible refine Kd.C_alloc ?_ _) | (with_reducible refine Kd.C_drewN ?_ _) | (with_reducible refine Kd.C_drew ?_))); (case side2 => exact (Kd.R_reads' HO595.out).2.1); (case side3 => repeat (first | exact (Kd.V_reads' HO599.out).2.2 | (with_reducible refine Kd.C_alloc ?_ _) | (with_reducible refine Kd.C_drewN ?_ _) | (with_reducible refine Kd.C_drew ?_))); (case side4 => exact (Kd.V_reads' HO599.out).2.1); rintro e w' ⟨rfl, ⟨nd, rfl⟩⟩) | (go_at_call 35; (with_reducible refine (line_Check.calls k _ _ l0 t604 _ ?side1 ?side2 A23.out).mono ?_); (case side1 => repeat (first | exact (Kd.C_below HR0.out (by repeat (first | (with_reducible first | exact HB.out | apply bA | apply bN | apply bD) | exact HB.out))) | (with_reducible refine Kd.C_alloc ?_ _) | (with_reducible refine Kd.C_drewN ?_ _) | (with_reducible refine Kd.C_drew ?_))); (case side2 => exact HC0.out); rintro e w44 ⟨rfl, hb⟩; have n0_ := Aside0.mk (Kd.R_below (by (with_reducible repeat (first | apply Kd.R_alloc | apply Kd.R_drewN | apply Kd.R_drew)); exact HO578.out) hb); have n1_ := Aside0.mk (Kd.V_below (by (with_reducible repeat (first | apply Kd.V_alloc | apply Kd.V_drewN | apply Kd.V_drew)); exact HO581.out) hb); have n2_ := Aside0.mk (Kd.R_below (by (with_reducible repeat (first | apply Kd.R_alloc | apply Kd.R_drewN | apply Kd.R_drew)); exact HO586.out) hb); have n3_ := Aside0.mk (Kd.V_below (by (with_reducible repeat (first | apply Kd.V_alloc | apply Kd.V_drewN | apply Kd.V_drew)); exact HO589.out) hb); have n4_ := Aside0.mk (Kd.R_below (by (with_reducible repeat (first | apply Kd.R_alloc | apply Kd.R_drewN | apply Kd.R_drew)); exact HO595.out) hb); have n5_ := Aside0.mk (Kd.V_below (by (with_reducible repeat (first | apply Kd.V_alloc | apply Kd.V_drewN | apply Kd.V_drew)); exact HO599.out) hb); have n6_ := Aside0.mk (below_step (by repeat (first | (with_reducible first | exact HB.out | apply bA | apply bN | apply bD) | exact HB.out)) hb); clear HO578; clear HO581; clear HO586; clear HO589; clear HO595; clear HO599; clear HB; have HO578 := n0_; have HO581 := n1_; have HO586 := n2_; have HO589 := n3_; have HO595 := n4_; have HO599 := n5_; have HB := n6_; clear n0_ n1_ n2_ n3_ n4_ n5_ n6_; (try clear hb); (try clear hb2); (try clear hk); (try clear hi)) | (go_at_call 36; (with_reducible refine (sakiaref05_Check.calls k _ _ l0 t605 _ ?side1 ?side2 A24.out).mono ?_); (case side1 => repeat (first | exact (Kd.C_below HR0.out HB.out) | (with_reducible refine Kd.C_alloc ?_ _) | (with_reducible refine Kd.C_drewN ?_ _) | (with_reducible refine Kd.C_drew ?_))); (case side2 => exact HC0.out); rintro e w' ⟨rfl, ⟨nd, rfl⟩⟩) | (go_at_call 37; (with_reducible refine (line_Place.calls k _ _ l0 a1 t606 _ ?side1 ?side2 A26.out).mono ?_); (case side1 => repeat (first | exact (Kd.C_below HR0.out (by repeat (first | (with_reducible first | exact HB.out | apply bA | apply bN | apply bD) | exact HB.out))) | (with_reducible refine Kd.C_alloc ?_ _) | (with_reducible refine Kd.C_drewN ?_ _) | (with_reducible refine Kd.C_drew ?_))); (case side2 => exact HC0.out); rintro e w45 ⟨rfl, hb⟩; have n0_ := Aside0.mk (Kd.R_below (by (with_reducible repeat (first | apply Kd.R_alloc | apply Kd.R_drewN | apply Kd.R_drew)); exact HO578.out) hb); have n1_ := Aside0.mk (Kd.V_below (by (with_reducible repeat (first | apply Kd.V_alloc | apply Kd.V_drewN | apply Kd.V_drew)); exact HO581.out) hb); have n2_ := Aside0.mk (Kd.R_below (by (with_reducible repeat (first | apply Kd.R_alloc | apply Kd.R_drewN | apply Kd.R_drew)); exact HO586.out) hb); have n3_ := Aside0.mk (Kd.V_below (by (with_reducible repeat (first | apply Kd.V_alloc | apply Kd.V_drewN | apply Kd.V_drew)); exact HO589.out) hb); have n4_ := Aside0.mk (Kd.R_below (by (with_reducible repeat (first | apply Kd.R_alloc | apply Kd.R_drewN | apply Kd.R_drew)); exact HO595.out) hb); have n5_ := Aside0.mk (Kd.V_below (by (with_reducible repeat (first | apply Kd.V_alloc | apply Kd.V_drewN | apply Kd.V_drew)); exact HO599.out) hb); have n6_ := Aside0.mk (below_step (by repeat (first | (with_reducible first | exact HB.out | apply bA | apply bN | apply bD) | exact HB.out)) hb); clear HO578; clear HO581; clear HO586; clear HO589; clear HO595; clear HO599; clear HB; have HO578 := n0_; have HO581 := n1_; have HO586 := n2_; have HO589 := n3_; have HO595 := n4_; have HO599 := n5_; have HB := n6_; clear n0_ n1_ n2_ n3_ n4_ n5_ n6_; (try clear hb); (try clear hb2); (try clear hk); (try clear hi)) | (go_at_call 38; (with_reducible refine (sakiaref05_Place.calls k _ _ l0 a1 t607 _ ?side1 ?side2 A27.out).mono ?_); (case side1 => repeat (first | exact (Kd.C_below HR0.out HB.out) | (with_reducible refine Kd.C_alloc ?_ _) | (with_reducible refine Kd.C_drewN ?_ _) | (with_reducible refine Kd.C_drew ?_))); (case side2 => exact HC0.out); rintro e w' ⟨rfl, ⟨nd, rfl⟩⟩) | (go_at_call 39; (with_reducible refine (line_First.calls k _ _ l0 a1 t608 _ ?side1 ?side2 A29.out).mono ?_); (case side1 => repeat (first | exact (Kd.C_below HR0.out (by repeat (first | (with_reducible first | exact HB.out | apply bA | apply bN | apply bD) | exact HB.out))) | (with_reducible refine Kd.C_alloc ?_ _) | (with_reducible refine Kd.C_drewN ?_ _) | (with_reducible refine Kd.C_drew ?_))); (case side2 => exact HC0.out); rintro e w46 ⟨rfl, hb⟩; have n0_ := Aside0.mk (Kd.R_below (by (with_reducible repeat (first | apply Kd.R_alloc | apply Kd.R_drewN | apply Kd.R_drew)); exact HO578.out) hb); have n1_ := Aside0.mk (Kd.V_below (by (with_reducible repeat (first | apply Kd.V_alloc | apply Kd.V_drewN | apply Kd.V_drew)); exact HO581.out) hb); have n2_ := Aside0.mk (Kd.R_below (by (with_reducible repeat (first | apply Kd.R_alloc | apply Kd.R_drewN | apply Kd.R_drew)); exact HO586.out) hb); have n3_ := Aside0.mk (Kd.V_below (by (with_reducible repeat (first | apply Kd.V_alloc | apply Kd.V_drewN | apply Kd.V_drew)); exact HO589.out) hb); have n4_ := Aside0.mk (Kd.R_below (by (with_reducible repeat (first | apply Kd.R_alloc | apply Kd.R_drewN | apply Kd.R_drew)); exact HO595.out) hb); have n5_ := Aside0.mk (Kd.V_below (by (with_reducible repeat (first | apply Kd.V_alloc | apply Kd.V_drewN | apply Kd.V_drew)); exact HO599.out) hb); have n6_ := Aside0.mk (below_step (by repeat (first | (with_reducible first | exact HB.out | apply bA | apply bN | apply bD) | exact HB.out)) hb); clear HO578; clear HO581; clear HO586; clear HO589; clear HO595; clear HO599; clear HB; have HO578 := n0_; have HO581 := n1_; have HO586 := n2_; have HO589 := n3_; have HO595 := n4_; have HO599 := n5_; have HB := n6_; clear n0_ n1_ n2_ n3_ n4_ n5_ n6_; (try clear hb); (try clear hb2); (try clear hk); (try clear hi)) | (go_at_call 38; (with_reducible refine (sakiaref05_Place.calls k _ _ l0 a1 t609 _ ?side1 ?side2 A30.out).mono ?_); (case side1 => repeat (first | exact (Kd.C_below HR0.out HB.out) | (with_reducible refine Kd.C_alloc ?_ _) | (with_reducible refine Kd.C_drewN ?_ _) | (with_reducible refine Kd.C_drew ?_))); (case side2 => exact HC0.out); rintro e w' ⟨rfl, ⟨nd, rfl⟩⟩))
            go_ret
            exact ⟨by first | rfl | (simp [errW_none, errW_some] <;> rfl) | (rw [eA30_.out]; rfl) | (rw [← eA30_.out]; rfl) | (simp [*, errW_none, errW_some] <;> rfl), by repeat (first | (with_reducible first | exact HB.out | apply bA | apply bN | apply bD) | exact HB.out)⟩
           ·rw [if_neg c28] at H
            have c28b0 : (t606 == t607) = false := beq_eq_false_iff_ne.mpr c28
            have c28b1 : (t606 != t607) = true := bne_iff_ne.mpr c28
            exact absurd ((Option.some.inj H).trans HR_.out) (by decide)
          ·rw [if_neg c25] at H
           have c25b0 : (t604 == t605) = false := by simpa using c25
           (try (have c25b1 : decide (t604 = t605) = false := by simpa using c25))
           (try (have c25b2 : (t604 == t605) = false := by simpa using c25))
           (try (have c25b3 : ¬ (t604 = t605) := by simpa using c25))
           clear c25
           exact absurd ((Option.some.inj H).trans HR_.out) (by decide)
         ·rw [if_neg c22] at H
          have c22b0 : (t593 == t600) = false := by simpa using c22
          (try (have c22b1 : decide (t593 = t600) = false := by simpa using c22))
          (try (have c22b2 : (t593 == t600) = false := by simpa using c22))
          (try (have c22b3 : ¬ (t593 = t600) := by simpa using c22))
          clear c22
          exact absurd ((Option.some.inj H).trans HR_.out) (by decide)
        ·replace c21 := Bool.eq_false_iff.mpr c21
         subst c21
         have H1 : (some false) = some r := by rw [if_neg (show ¬ (false = true) by decide)] at H; exact H
         clear H
         have H := H1
         clear H1
         exact absurd ((Option.some.inj H).trans HR_.out) (by decide)
       ·rw [if_neg c19] at H
        have c19b0 : (t591 == t596) = false := beq_eq_false_iff_ne.mpr c19
        have c19b1 : (t591 != t596) = true := bne_iff_ne.mpr c19
        exact absurd ((Option.some.inj H).trans HR_.out) (by decide)
      ·rw [if_neg c18] at H
       have c18b0 : (t584 == t590) = false := beq_eq_false_iff_ne.mpr c18
       have c18b1 : (t584 != t590) = true := bne_iff_ne.mpr c18
       exact absurd ((Option.some.inj H).trans HR_.out) (by decide)
     ·replace c17 := Bool.eq_false_iff.mpr c17
      subst c17
      have H1 : (some false) = some r := by rw [if_neg (show ¬ (false = true) by decide)] at H; exact H
      clear H
      have H := H1
      clear H1
      exact absurd ((Option.some.inj H).trans HR_.out) (by decide)
    ·rw [if_neg c15] at H
     have c15b0 : (t576 == t582) = false := beq_eq_false_iff_ne.mpr c15
     have c15b1 : (t576 != t582) = true := bne_iff_ne.mpr c15
     exact absurd ((Option.some.inj H).trans HR_.out) (by decide)
   ·replace c14 := Bool.eq_false_iff.mpr c14
    subst c14
    have H1 : (some false) = some r := by rw [if_neg (show ¬ (false = true) by decide)] at H; exact H
    clear H
    have H := H1
    clear H1
    exact absurd ((Option.some.inj H).trans HR_.out) (by decide)
  ·replace c12 := Bool.eq_false_iff.mpr c12
   subst c12
   have H1 : (some false) = some r := by rw [if_neg (show ¬ (false = true) by decide)] at H; exact H
   clear H
   have H := H1
   clear H1
   exact absurd ((Option.some.inj H).trans HR_.out) (by decide)

/-- THE ONE PURE STATEMENT of sakialaw05_LineTells. -/
def sakialaw05_LineTells.Pure : Prop := ∀ (l0 : List Int) (a1 : Int), l0.length ≤ maxLen → l0.length * 8 ≤ 140737488351232 → (∀ y ∈ l0, (Lit.int .i64 y).wf = true) → (Lit.int .i64 a1).wf = true → ∃ k, sakialaw05_LineTells.f k l0 a1 = some true

end Go.Proofs.Ytcmiijdkmfdpnaa.PL
