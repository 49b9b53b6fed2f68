-- written by this repo's pp.py (the kit's print, turned by wip/patches.py)
import Derived.Test.YtlpeklhejjidfaaPLx0
import Derived.Test.YtlpeklhejjidfaaPLx3
import Derived.Test.YtlpeklhejjidfaaPLx4
namespace Go.Proofs.Ytlpeklhejjidfaa.PL
open Go.RowKit Go.Proofs.YtlpeklhejjidfaaW.PrintWords Go.Proofs.YtlpeklhejjidfaaW.PrintLast Go.Proofs.YtlpeklhejjidfaaW.PrintMore
attribute [local go_sem] max2_int min2_int max_two min_two max_three min_three max_four min_four   -- for this text's walks alone
set_option linter.unusedVariables false
set_option linter.unusedSimpArgs false

/-! ### sakialaw01_PosLaps: function 8 -/
def sakialaw01_PosLaps.f (k : Nat) (a0 : Int) (a1 : Int) (a2 : Int) : Option (Bool) := (sakialaw01_awake.f k).bind fun t182 => (if t182 = true then ((pos_Place.f (wrap64 ((wrap64 (a0)) + (wrap64 ((wrap64 (a2)) * (wrap64 (1 + (wrap64 (a1)))))))) (wrap64 (1 + (wrap64 (a1))))).bind fun t183 => ((pos_Place.f (wrap64 (a0)) (wrap64 (1 + (wrap64 (a1))))).bind fun t184 => (if t183 = t184 then ((pos_Lap.f (wrap64 ((wrap64 (a0)) + (wrap64 ((wrap64 (a2)) * (wrap64 (1 + (wrap64 (a1)))))))) (wrap64 (1 + (wrap64 (a1))))).bind fun t185 => ((pos_Lap.f (wrap64 (a0)) (wrap64 (1 + (wrap64 (a1))))).bind fun t186 => (if t185 = (wrap64 (t186 + (wrap64 (a2)))) then ((pos_Ahead.f (wrap64 (a0)) (wrap64 ((wrap64 (a0)) + (wrap64 ((wrap64 (a2)) * (wrap64 (1 + (wrap64 (a1)))))))) (wrap64 (1 + (wrap64 (a1))))).bind fun t187 => (some (t187 == (decide (a2 > 0))))) else (some false)))) else (some false)))) else (some false))
theorem sakialaw01_PosLaps.mono : ∀ a0 a1 a2 k, LeO (sakialaw01_PosLaps.f k a0 a1 a2) (sakialaw01_PosLaps.f (k + 1) a0 a1 a2) := by
 intro a0 a1 a2 k
 unfold sakialaw01_PosLaps.f
 repeat' first
   | (with_reducible exact sakialaw01_awake.mono _)
   | (with_reducible exact LeO.refl _)
   | (with_reducible exact LeO.none _)
   | (with_reducible refine LeO.ite ?_ ?_)
   | (with_reducible refine LeO.bind ?_ (fun _ => ?_))
   | exact sakialaw01_awake.mono _
   | exact LeO.none _
   | refine LeO.ite ?_ ?_
   | refine LeO.bind ?_ (fun _ => ?_)
set_option maxHeartbeats 8000000 in
set_option maxRecDepth 100000 in
theorem sakialaw01_PosLaps.calls (k : Nat) (a0 : Int) (a1 : Int) (a2 : Int) (r : Bool) (w : World) (hr_ : r = true) (h : sakialaw01_PosLaps.f k a0 a1 a2 = some r) :
  Calls Try.prog 8 #[.int .u32 a0, .int .u16 a1, .int .u16 a2] w fun e w' => e = .returned (.bool r) ∧ Below w.heap.size w w' := by
 have HB := Aside0.mk (Below.refl w.heap.size w)
 have HR_ := Aside0.mk hr_
 clear hr_
 have H : ((sakialaw01_awake.f k).bind fun t182 => (if t182 = true then ((pos_Place.f (wrap64 ((wrap64 (a0)) + (wrap64 ((wrap64 (a2)) * (wrap64 (1 + (wrap64 (a1)))))))) (wrap64 (1 + (wrap64 (a1))))).bind fun t183 => ((pos_Place.f (wrap64 (a0)) (wrap64 (1 + (wrap64 (a1))))).bind fun t184 => (if t183 = t184 then ((pos_Lap.f (wrap64 ((wrap64 (a0)) + (wrap64 ((wrap64 (a2)) * (wrap64 (1 + (wrap64 (a1)))))))) (wrap64 (1 + (wrap64 (a1))))).bind fun t185 => ((pos_Lap.f (wrap64 (a0)) (wrap64 (1 + (wrap64 (a1))))).bind fun t186 => (if t185 = (wrap64 (t186 + (wrap64 (a2)))) then ((pos_Ahead.f (wrap64 (a0)) (wrap64 ((wrap64 (a0)) + (wrap64 ((wrap64 (a2)) * (wrap64 (1 + (wrap64 (a1)))))))) (wrap64 (1 + (wrap64 (a1))))).bind fun t187 => (some (t187 == (decide (a2 > 0))))) else (some false)))) else (some false)))) else (some false))) = some r := h
 clear h
 replace H := Option.bind_eq_some_iff.mp H
 obtain ⟨t182, A40, H⟩ := H
 replace H : (if t182 = true then ((pos_Place.f (wrap64 ((wrap64 (a0)) + (wrap64 ((wrap64 (a2)) * (wrap64 (1 + (wrap64 (a1)))))))) (wrap64 (1 + (wrap64 (a1))))).bind fun t183 => ((pos_Place.f (wrap64 (a0)) (wrap64 (1 + (wrap64 (a1))))).bind fun t184 => (if t183 = t184 then ((pos_Lap.f (wrap64 ((wrap64 (a0)) + (wrap64 ((wrap64 (a2)) * (wrap64 (1 + (wrap64 (a1)))))))) (wrap64 (1 + (wrap64 (a1))))).bind fun t185 => ((pos_Lap.f (wrap64 (a0)) (wrap64 (1 + (wrap64 (a1))))).bind fun t186 => (if t185 = (wrap64 (t186 + (wrap64 (a2)))) then ((pos_Ahead.f (wrap64 (a0)) (wrap64 ((wrap64 (a0)) + (wrap64 ((wrap64 (a2)) * (wrap64 (1 + (wrap64 (a1)))))))) (wrap64 (1 + (wrap64 (a1))))).bind fun t187 => (some (t187 == (decide (a2 > 0))))) else (some false)))) else (some false)))) else (some false)) = some r := H
 have A4 := Aside0.mk A40
 clear A40
 by_cases c5 : t182 = true
 ·subst c5
  have H1 : ((pos_Place.f (wrap64 ((wrap64 (a0)) + (wrap64 ((wrap64 (a2)) * (wrap64 (1 + (wrap64 (a1)))))))) (wrap64 (1 + (wrap64 (a1))))).bind fun t183 => ((pos_Place.f (wrap64 (a0)) (wrap64 (1 + (wrap64 (a1))))).bind fun t184 => (if t183 = t184 then ((pos_Lap.f (wrap64 ((wrap64 (a0)) + (wrap64 ((wrap64 (a2)) * (wrap64 (1 + (wrap64 (a1)))))))) (wrap64 (1 + (wrap64 (a1))))).bind fun t185 => ((pos_Lap.f (wrap64 (a0)) (wrap64 (1 + (wrap64 (a1))))).bind fun t186 => (if t185 = (wrap64 (t186 + (wrap64 (a2)))) then ((pos_Ahead.f (wrap64 (a0)) (wrap64 ((wrap64 (a0)) + (wrap64 ((wrap64 (a2)) * (wrap64 (1 + (wrap64 (a1)))))))) (wrap64 (1 + (wrap64 (a1))))).bind fun t187 => (some (t187 == (decide (a2 > 0))))) else (some false)))) else (some false)))) = some r := by rw [if_pos rfl] at H; exact H
  clear H
  have H := H1
  clear H1
  replace H := Option.bind_eq_some_iff.mp H
  obtain ⟨t183, A60, H⟩ := H
  replace H : ((pos_Place.f (wrap64 (a0)) (wrap64 (1 + (wrap64 (a1))))).bind fun t184 => (if t183 = t184 then ((pos_Lap.f (wrap64 ((wrap64 (a0)) + (wrap64 ((wrap64 (a2)) * (wrap64 (1 + (wrap64 (a1)))))))) (wrap64 (1 + (wrap64 (a1))))).bind fun t185 => ((pos_Lap.f (wrap64 (a0)) (wrap64 (1 + (wrap64 (a1))))).bind fun t186 => (if t185 = (wrap64 (t186 + (wrap64 (a2)))) then ((pos_Ahead.f (wrap64 (a0)) (wrap64 ((wrap64 (a0)) + (wrap64 ((wrap64 (a2)) * (wrap64 (1 + (wrap64 (a1)))))))) (wrap64 (1 + (wrap64 (a1))))).bind fun t187 => (some (t187 == (decide (a2 > 0))))) else (some false)))) else (some false))) = some r := H
  have A6 := Aside0.mk A60
  clear A60
  replace H := Option.bind_eq_some_iff.mp H
  obtain ⟨t184, A70, H⟩ := H
  replace H : (if t183 = t184 then ((pos_Lap.f (wrap64 ((wrap64 (a0)) + (wrap64 ((wrap64 (a2)) * (wrap64 (1 + (wrap64 (a1)))))))) (wrap64 (1 + (wrap64 (a1))))).bind fun t185 => ((pos_Lap.f (wrap64 (a0)) (wrap64 (1 + (wrap64 (a1))))).bind fun t186 => (if t185 = (wrap64 (t186 + (wrap64 (a2)))) then ((pos_Ahead.f (wrap64 (a0)) (wrap64 ((wrap64 (a0)) + (wrap64 ((wrap64 (a2)) * (wrap64 (1 + (wrap64 (a1)))))))) (wrap64 (1 + (wrap64 (a1))))).bind fun t187 => (some (t187 == (decide (a2 > 0))))) else (some false)))) else (some false)) = some r := H
  have A7 := Aside0.mk A70
  clear A70
  by_cases c8 : t183 = t184
  ·rw [if_pos c8] at H
   have c8b0 : (t183 == t184) = true := beq_iff_eq.mpr c8
   have c8b1 : (t183 != t184) = false := bne_eq_false_iff_eq.mpr c8
   clear c8
   replace H := Option.bind_eq_some_iff.mp H
   obtain ⟨t185, A90, H⟩ := H
   replace H : ((pos_Lap.f (wrap64 (a0)) (wrap64 (1 + (wrap64 (a1))))).bind fun t186 => (if t185 = (wrap64 (t186 + (wrap64 (a2)))) then ((pos_Ahead.f (wrap64 (a0)) (wrap64 ((wrap64 (a0)) + (wrap64 ((wrap64 (a2)) * (wrap64 (1 + (wrap64 (a1)))))))) (wrap64 (1 + (wrap64 (a1))))).bind fun t187 => (some (t187 == (decide (a2 > 0))))) else (some false))) = some r := H
   have A9 := Aside0.mk A90
   clear A90
   replace H := Option.bind_eq_some_iff.mp H
   obtain ⟨t186, A100, H⟩ := H
   replace H : (if t185 = (wrap64 (t186 + (wrap64 (a2)))) then ((pos_Ahead.f (wrap64 (a0)) (wrap64 ((wrap64 (a0)) + (wrap64 ((wrap64 (a2)) * (wrap64 (1 + (wrap64 (a1)))))))) (wrap64 (1 + (wrap64 (a1))))).bind fun t187 => (some (t187 == (decide (a2 > 0))))) else (some false)) = some r := H
   have A10 := Aside0.mk A100
   clear A100
   by_cases c11 : t185 = (wrap64 (t186 + (wrap64 (a2))))
   ·rw [if_pos c11] at H
    have c11b0 : (t185 == (wrap64 (t186 + (wrap64 (a2))))) = true := beq_iff_eq.mpr c11
    have c11b1 : (t185 != (wrap64 (t186 + (wrap64 (a2))))) = false := bne_eq_false_iff_eq.mpr c11
    clear c11
    replace H := Option.bind_eq_some_iff.mp H
    obtain ⟨t187, A120, H⟩ := H
    replace H : (some (t187 == (decide (a2 > 0)))) = some r := H
    have A12 := Aside0.mk A120
    clear A120
    obtain rfl := Option.some.inj H
    go_enter Try.func8, Try.ntmps8
    go_wp2_with (first | ((with_reducible refine gate_callee (f := 14) rfl ?_); refine goesL_ (some 10) rfl rfl Try.func14 (by kernel_rfl) rfl #[] rfl (by (try simp only [List.map_toArray, List.map_cons, List.map_nil]); first | done | rfl | (simp only [List.length_drop, List.length_take]; rfl)) ?_; (with_reducible refine (sakialaw01_awake.calls k  true _ A4.out).mono ?_); rintro e w13 ⟨rfl, hb⟩; refine ⟨_, rfl, ?_⟩; have n0_ := Aside0.mk (below_step (by repeat (first | (with_reducible first | exact HB.out | apply bA | apply bN | apply bD) | exact HB.out)) hb); clear HB; have HB := n0_; clear n0_; (try clear hb); (try clear hb2); (try clear hk); (try clear hi)) | (go_at_call 20; (with_reducible refine (pos_Place.calls (wrap64 ((wrap64 (a0)) + (wrap64 ((wrap64 (a2)) * (wrap64 (1 + (wrap64 (a1)))))))) (wrap64 (1 + (wrap64 (a1)))) t183 _ A6.out).mono ?_); rintro e w' ⟨rfl, ⟨nd, rfl⟩⟩) | (go_at_call 20; (with_reducible refine (pos_Place.calls (wrap64 (a0)) (wrap64 (1 + (wrap64 (a1)))) t184 _ A7.out).mono ?_); rintro e w' ⟨rfl, ⟨nd, rfl⟩⟩) | (go_at_call 22; (with_reducible refine (pos_Lap.calls (wrap64 ((wrap64 (a0)) + (wrap64 ((wrap64 (a2)) * (wrap64 (1 + (wrap64 (a1)))))))) (wrap64 (1 + (wrap64 (a1)))) t185 _ A9.out).mono ?_); rintro e w' ⟨rfl, ⟨nd, rfl⟩⟩) | (go_at_call 22; (with_reducible refine (pos_Lap.calls (wrap64 (a0)) (wrap64 (1 + (wrap64 (a1)))) t186 _ A10.out).mono ?_); rintro e w' ⟨rfl, ⟨nd, rfl⟩⟩) | (go_at_call 24; (with_reducible refine (pos_Ahead.calls (wrap64 (a0)) (wrap64 ((wrap64 (a0)) + (wrap64 ((wrap64 (a2)) * (wrap64 (1 + (wrap64 (a1)))))))) (wrap64 (1 + (wrap64 (a1)))) t187 _ A12.out).mono ?_); rintro e w' ⟨rfl, ⟨nd, rfl⟩⟩))
    go_ret
    exact ⟨by first | rfl | (simp [errW_none, errW_some] <;> rfl) | (simp [*, errW_none, errW_some] <;> rfl), by repeat (first | (with_reducible first | exact HB.out | apply bA | apply bN | apply bD) | exact HB.out)⟩
   ·rw [if_neg c11] at H
    have c11b0 : (t185 == (wrap64 (t186 + (wrap64 (a2))))) = false := beq_eq_false_iff_ne.mpr c11
    have c11b1 : (t185 != (wrap64 (t186 + (wrap64 (a2))))) = true := bne_iff_ne.mpr c11
    exact absurd ((Option.some.inj H).trans HR_.out) (by decide)
  ·rw [if_neg c8] at H
   have c8b0 : (t183 == t184) = false := beq_eq_false_iff_ne.mpr c8
   have c8b1 : (t183 != t184) = true := bne_iff_ne.mpr c8
   exact absurd ((Option.some.inj H).trans HR_.out) (by decide)
 ·replace c5 := Bool.eq_false_iff.mpr c5
  subst c5
  have H1 : (some false) = some r := by rw [if_neg (show ¬ (false = true) by decide)] at H; exact H
  clear H
  have H := H1
  clear H1
  exact absurd ((Option.some.inj H).trans HR_.out) (by decide)

/-- THE ONE PURE STATEMENT of sakialaw01_PosLaps. -/
def sakialaw01_PosLaps.Pure : Prop := ∀ (a0 : Int) (a1 : Int) (a2 : Int), (Lit.int .u32 a0).wf = true → (Lit.int .u16 a1).wf = true → (Lit.int .u16 a2).wf = true → ∃ k, sakialaw01_PosLaps.f k a0 a1 a2 = some true

/-! ### slot_Check: function 36 -/
def slot_Check.l0 : Nat → List (S49) → List (S49) → Int → Int → Option (Bool)
 | 0, _, _, _, _ => none
 | k + 1, x0, x5, x6, x7 => if x7 < x6 then (if 0 ≤ x7 then (if x7 < (x5.length : Int) then (if ((rd_T49 x5 x7).f0) < 0 then (some false) else (if ((rd_T49 x5 x7).f0) > 2199023255552 then (some false) else ((pos_Place.f ((rd_T49 x5 x7).f0) (x0.length : Int)).bind fun t190 => (if t190 = x7 then (slot_Check.l0 k x0 x5 x6 (wrap64 (x7 + 1))) else (some false))))) else (none)) else (none)) else (if (x0.length : Int) ≥ 1 then (some (decide ((x0.length : Int) ≤ 64))) else (some false))
def slot_Check.f (k : Nat) (l0 : List (S49)) : Option (Bool) := slot_Check.l0 k l0 l0 (l0.length : Int) 0
theorem slot_Check.mono_l : ∀ k, (∀ y0 y1 y2 y3, LeO (slot_Check.l0 k y0 y1 y2 y3) (slot_Check.l0 (k + 1) y0 y1 y2 y3))
 | 0 => fun _ _ _ _ r h => by simp [slot_Check.l0] at h
 | k + 1 => by
  have ih0 := slot_Check.mono_l k
  ·intro y0 y1 y2 y3
   unfold slot_Check.l0
   repeat' first
   | (with_reducible exact ih0 _ _ _ _)
   | (with_reducible exact LeO.refl _)
   | (with_reducible exact LeO.none _)
   | (with_reducible refine LeO.ite ?_ ?_)
   | (with_reducible refine LeO.bind ?_ (fun _ => ?_))
   | exact ih0 _ _ _ _
   | exact LeO.none _
   | refine LeO.ite ?_ ?_
   | refine LeO.bind ?_ (fun _ => ?_)
theorem slot_Check.mono : ∀ a0 k, LeO (slot_Check.f k a0) (slot_Check.f (k + 1) a0) := by
 intro a0 k
 have ih0 := slot_Check.mono_l k
 unfold slot_Check.f
 repeat' first
   | (with_reducible exact ih0 _ _ _ _)
   | (with_reducible exact LeO.refl _)
   | (with_reducible exact LeO.none _)
   | (with_reducible refine LeO.ite ?_ ?_)
   | (with_reducible refine LeO.bind ?_ (fun _ => ?_))
   | exact ih0 _ _ _ _
   | exact LeO.none _
   | refine LeO.ite ?_ ?_
   | refine LeO.bind ?_ (fun _ => ?_)
set_option maxHeartbeats 8000000 in
set_option maxRecDepth 100000 in
theorem slot_Check.calls (k : Nat) (A0 : Option Addr) (c0 : Nat) (l0 : List (S49)) (r : Bool) (w : World) (hr0 : Kd.C k49 w A0 l0.length l0) (hc0 : l0.length ≤ c0) (h : slot_Check.f k l0 = some r) :
  Calls Try.prog 36 #[.slice A0 l0.length c0] w fun e w' => e = .returned (.bool r) ∧ Below w.heap.size w w' := by
 have hu49 := Try.underlying49
 have HR0 := Aside0.mk hr0
 have HC0 := Aside0.mk hc0
 clear hr0 hc0
 have HB := Aside0.mk (Below.refl w.heap.size w)
 have H : (slot_Check.l0 k l0 l0 (l0.length : Int) 0) = some r := h
 clear h
 have H' := Aside0.mk H
 clear H
 go_enter Try.func36, Try.ntmps36
 go_wp2
 go_loopg [7] k (fun kq v7 w' => ∃ (x7_1 : Int), v7 = .int .i64 x7_1 ∧ Aside0 (slot_Check.l0 kq l0 l0 (l0.length : Int) x7_1 = some r) ∧ Aside0 (kq ≤ k) ∧ Aside0 (Below w.heap.size w w'))
 case atStart => exact ⟨(0), (by first | rfl | (simp; done) | (simp [*]; done)), H', ⟨Nat.le_refl _⟩, ⟨by repeat (first | (with_reducible first | exact HB.out | apply bA | apply bN | apply bD) | exact HB.out)⟩⟩
 case round =>
  clear H'
  obtain ⟨x7_1, rfl, HA, HK1, HB⟩ := hrel
  cases gk with
  | zero => exact absurd HA.out (by simp [slot_Check.l0])
  | succ k1 =>
   have H := HA.out
   clear HA
   simp only [slot_Check.l0] at H
   by_cases c2 : x7_1 < (l0.length : Int)
   ·rw [if_pos c2] at H
    have c2b0 : decide (x7_1 < (l0.length : Int)) = true := decide_eq_true c2
    clear c2
    by_cases c3 : 0 ≤ x7_1
    ·rw [if_pos c3] at H
     have c3b0 : decide (0 ≤ x7_1) = true := decide_eq_true c3
     clear c3
     by_cases c4 : x7_1 < (l0.length : Int)
     ·rw [if_pos c4] at H
      have c4b0 : decide (x7_1 < (l0.length : Int)) = true := decide_eq_true c4
      clear c4
      by_cases c5 : ((rd_T49 l0 x7_1).f0) < 0
      ·rw [if_pos c5] at H
       have c5b0 : decide (((rd_T49 l0 x7_1).f0) < 0) = true := decide_eq_true c5
       clear c5
       obtain rfl := Option.some.inj H
       have p188 : 0 ≤ (x7_1 : Int) := of_decide_eq_true (by first | (with_reducible assumption) | assumption)
       have q188 : x7_1 < (l0.length : Int) := of_decide_eq_true (by first | (with_reducible assumption) | assumption)
       obtain ⟨ad188, e188, hx188_0, hx188_1⟩ := at_T49 HR0.out x7_1 p188 q188
       cases e188
       replace hx188_0 := (HB.out.cell (World.block_lt_of_cell? w _ hx188_0)).trans hx188_0
       replace hx188_1 := (HB.out.cell (World.block_lt_of_cell? w _ hx188_1)).trans hx188_1
       replace p188 := eq_true p188
       replace q188 := eq_true q188
       go_wp2_with (first | ((with_reducible refine gate_dst (N := 4) rfl ?_); (try (refine gate_guard (by rfl) ?_; dsimp only)); refine box_event ?hg (N := 4) ?hd (cs := #[.int .i64 0, .int .i64 0]) (t := 49) ?hr ?_; (case hd => rfl); (case hg => rfl); (case hr => first | (go_simp; done) | (go_simp; rfl)); intro gb189 hg w6 hbox hb; have n0_ := Aside0.mk (below_step (by repeat (first | (with_reducible first | exact HB.out | apply bA | apply bN | apply bD) | exact HB.out)) hb); have n1_ := Aside0.mk (hbox); have n2_ := Aside0.mk ((by rw [hg]; exact (below_size (by repeat (first | (with_reducible first | exact HB.out | apply bA | apply bN | apply bD) | exact HB.out))) : w.heap.size ≤ gb189)); have n3_ := Aside0.mk ((by rw [hg]; exact (below_size (by repeat (first | (with_reducible first | exact HB.out | apply bA | apply bN | apply bD) | exact HB.out))) : w.heap.size ≤ gb189)); clear HB; have HB := n0_; have BK189 := n1_; have GW189 := n2_; have GE189 := n3_; clear n0_ n1_ n2_ n3_; clear hb hbox hg; have hcz7_0 : w6.cell? ⟨gb189, 0, none⟩ = some (.int .i64 0) := (blk_cell BK189.out 0).trans rfl; have hcz7_1 : w6.cell? ⟨gb189, 1, none⟩ = some (.int .i64 0) := (blk_cell BK189.out 1).trans rfl; have hfz7_0 := blk_frozen BK189.out 0; have hfz7_1 := blk_frozen BK189.out 1))
       go_ret
       exact ⟨by first | rfl | (simp [errW_none, errW_some] <;> rfl) | (simp [*, errW_none, errW_some] <;> rfl), by repeat (first | (with_reducible first | exact HB.out | apply bA | apply bN | apply bD | refine below_set ?_ GE189.out) | exact HB.out)⟩
      ·rw [if_neg c5] at H
       have c5b0 : decide (((rd_T49 l0 x7_1).f0) < 0) = false := decide_eq_false c5
       clear c5
       by_cases c8 : ((rd_T49 l0 x7_1).f0) > 2199023255552
       ·rw [if_pos c8] at H
        have c8b0 : decide (2199023255552 < ((rd_T49 l0 x7_1).f0)) = true := decide_eq_true c8
        clear c8
        obtain rfl := Option.some.inj H
        have p188 : 0 ≤ (x7_1 : Int) := of_decide_eq_true (by first | (with_reducible assumption) | assumption)
        have q188 : x7_1 < (l0.length : Int) := of_decide_eq_true (by first | (with_reducible assumption) | assumption)
        obtain ⟨ad188, e188, hx188_0, hx188_1⟩ := at_T49 HR0.out x7_1 p188 q188
        cases e188
        replace hx188_0 := (HB.out.cell (World.block_lt_of_cell? w _ hx188_0)).trans hx188_0
        replace hx188_1 := (HB.out.cell (World.block_lt_of_cell? w _ hx188_1)).trans hx188_1
        replace p188 := eq_true p188
        replace q188 := eq_true q188
        go_wp2_with (first | ((with_reducible refine gate_dst (N := 4) rfl ?_); (try (refine gate_guard (by rfl) ?_; dsimp only)); refine box_event ?hg (N := 4) ?hd (cs := #[.int .i64 0, .int .i64 0]) (t := 49) ?hr ?_; (case hd => rfl); (case hg => rfl); (case hr => first | (go_simp; done) | (go_simp; rfl)); intro gb189 hg w9 hbox hb; have n0_ := Aside0.mk (below_step (by repeat (first | (with_reducible first | exact HB.out | apply bA | apply bN | apply bD) | exact HB.out)) hb); have n1_ := Aside0.mk (hbox); have n2_ := Aside0.mk ((by rw [hg]; exact (below_size (by repeat (first | (with_reducible first | exact HB.out | apply bA | apply bN | apply bD) | exact HB.out))) : w.heap.size ≤ gb189)); have n3_ := Aside0.mk ((by rw [hg]; exact (below_size (by repeat (first | (with_reducible first | exact HB.out | apply bA | apply bN | apply bD) | exact HB.out))) : w.heap.size ≤ gb189)); clear HB; have HB := n0_; have BK189 := n1_; have GW189 := n2_; have GE189 := n3_; clear n0_ n1_ n2_ n3_; clear hb hbox hg; have hcz10_0 : w9.cell? ⟨gb189, 0, none⟩ = some (.int .i64 0) := (blk_cell BK189.out 0).trans rfl; have hcz10_1 : w9.cell? ⟨gb189, 1, none⟩ = some (.int .i64 0) := (blk_cell BK189.out 1).trans rfl; have hfz10_0 := blk_frozen BK189.out 0; have hfz10_1 := blk_frozen BK189.out 1))
        go_ret
        exact ⟨by first | rfl | (simp [errW_none, errW_some] <;> rfl) | (simp [*, errW_none, errW_some] <;> rfl), by repeat (first | (with_reducible first | exact HB.out | apply bA | apply bN | apply bD | refine below_set ?_ GE189.out) | exact HB.out)⟩
       ·rw [if_neg c8] at H
        have c8b0 : decide (2199023255552 < ((rd_T49 l0 x7_1).f0)) = false := decide_eq_false c8
        clear c8
        replace H := Option.bind_eq_some_iff.mp H
        obtain ⟨t190, A110, H⟩ := H
        replace H : (if t190 = x7_1 then (slot_Check.l0 k1 l0 l0 (l0.length : Int) (wrap64 (x7_1 + 1))) else (some false)) = some r := H
        have A11 := Aside0.mk A110
        clear A110
        by_cases c12 : t190 = x7_1
        ·rw [if_pos c12] at H
         have c12b0 : (t190 == x7_1) = true := beq_iff_eq.mpr c12
         have c12b1 : (t190 != x7_1) = false := bne_eq_false_iff_eq.mpr c12
         clear c12
         have H' := Aside0.mk H
         clear H
         have p188 : 0 ≤ (x7_1 : Int) := of_decide_eq_true (by first | (with_reducible assumption) | assumption)
         have q188 : x7_1 < (l0.length : Int) := of_decide_eq_true (by first | (with_reducible assumption) | assumption)
         obtain ⟨ad188, e188, hx188_0, hx188_1⟩ := at_T49 HR0.out x7_1 p188 q188
         cases e188
         replace hx188_0 := (HB.out.cell (World.block_lt_of_cell? w _ hx188_0)).trans hx188_0
         replace hx188_1 := (HB.out.cell (World.block_lt_of_cell? w _ hx188_1)).trans hx188_1
         replace p188 := eq_true p188
         replace q188 := eq_true q188
         go_wp2_with (first | ((with_reducible refine gate_dst (N := 4) rfl ?_); (try (refine gate_guard (by rfl) ?_; dsimp only)); refine box_event ?hg (N := 4) ?hd (cs := #[.int .i64 0, .int .i64 0]) (t := 49) ?hr ?_; (case hd => rfl); (case hg => rfl); (case hr => first | (go_simp; done) | (go_simp; rfl)); intro gb189 hg w13 hbox hb; have n0_ := Aside0.mk (below_step (by repeat (first | (with_reducible first | exact HB.out | apply bA | apply bN | apply bD) | exact HB.out)) hb); have n1_ := Aside0.mk (hbox); have n2_ := Aside0.mk ((by rw [hg]; exact (below_size (by repeat (first | (with_reducible first | exact HB.out | apply bA | apply bN | apply bD) | exact HB.out))) : w.heap.size ≤ gb189)); have n3_ := Aside0.mk ((by rw [hg]; exact (below_size (by repeat (first | (with_reducible first | exact HB.out | apply bA | apply bN | apply bD) | exact HB.out))) : w.heap.size ≤ gb189)); clear HB; have HB := n0_; have BK189 := n1_; have GW189 := n2_; have GE189 := n3_; clear n0_ n1_ n2_ n3_; clear hb hbox hg; have hcz14_0 : w13.cell? ⟨gb189, 0, none⟩ = some (.int .i64 0) := (blk_cell BK189.out 0).trans rfl; have hcz14_1 : w13.cell? ⟨gb189, 1, none⟩ = some (.int .i64 0) := (blk_cell BK189.out 1).trans rfl; have hfz14_0 := blk_frozen BK189.out 0; have hfz14_1 := blk_frozen BK189.out 1) | (go_at_call 20; (with_reducible refine (pos_Place.calls ((rd_T49 l0 x7_1).f0) (l0.length : Int) t190 _ A11.out).mono ?_); rintro e w' ⟨rfl, ⟨nd, rfl⟩⟩))
         go_roundg k1
         case measure => have := HK1.out; omega
         case rel => exact ⟨(wrap64 (x7_1 + 1)), (by first | rfl | (simp; done) | (simp [*]; done)), H', ⟨by have := HK1.out; omega⟩, ⟨by repeat (first | (with_reducible first | exact HB.out | apply bA | apply bN | apply bD | refine below_set ?_ GE189.out) | exact HB.out)⟩⟩
        ·rw [if_neg c12] at H
         have c12b0 : (t190 == x7_1) = false := beq_eq_false_iff_ne.mpr c12
         have c12b1 : (t190 != x7_1) = true := bne_iff_ne.mpr c12
         obtain rfl := Option.some.inj H
         have p188 : 0 ≤ (x7_1 : Int) := of_decide_eq_true (by first | (with_reducible assumption) | assumption)
         have q188 : x7_1 < (l0.length : Int) := of_decide_eq_true (by first | (with_reducible assumption) | assumption)
         obtain ⟨ad188, e188, hx188_0, hx188_1⟩ := at_T49 HR0.out x7_1 p188 q188
         cases e188
         replace hx188_0 := (HB.out.cell (World.block_lt_of_cell? w _ hx188_0)).trans hx188_0
         replace hx188_1 := (HB.out.cell (World.block_lt_of_cell? w _ hx188_1)).trans hx188_1
         replace p188 := eq_true p188
         replace q188 := eq_true q188
         go_wp2_with (first | ((with_reducible refine gate_dst (N := 4) rfl ?_); (try (refine gate_guard (by rfl) ?_; dsimp only)); refine box_event ?hg (N := 4) ?hd (cs := #[.int .i64 0, .int .i64 0]) (t := 49) ?hr ?_; (case hd => rfl); (case hg => rfl); (case hr => first | (go_simp; done) | (go_simp; rfl)); intro gb189 hg w15 hbox hb; have n0_ := Aside0.mk (below_step (by repeat (first | (with_reducible first | exact HB.out | apply bA | apply bN | apply bD) | exact HB.out)) hb); have n1_ := Aside0.mk (hbox); have n2_ := Aside0.mk ((by rw [hg]; exact (below_size (by repeat (first | (with_reducible first | exact HB.out | apply bA | apply bN | apply bD) | exact HB.out))) : w.heap.size ≤ gb189)); have n3_ := Aside0.mk ((by rw [hg]; exact (below_size (by repeat (first | (with_reducible first | exact HB.out | apply bA | apply bN | apply bD) | exact HB.out))) : w.heap.size ≤ gb189)); clear HB; have HB := n0_; have BK189 := n1_; have GW189 := n2_; have GE189 := n3_; clear n0_ n1_ n2_ n3_; clear hb hbox hg; have hcz16_0 : w15.cell? ⟨gb189, 0, none⟩ = some (.int .i64 0) := (blk_cell BK189.out 0).trans rfl; have hcz16_1 : w15.cell? ⟨gb189, 1, none⟩ = some (.int .i64 0) := (blk_cell BK189.out 1).trans rfl; have hfz16_0 := blk_frozen BK189.out 0; have hfz16_1 := blk_frozen BK189.out 1) | (go_at_call 20; (with_reducible refine (pos_Place.calls ((rd_T49 l0 x7_1).f0) (l0.length : Int) t190 _ A11.out).mono ?_); rintro e w' ⟨rfl, ⟨nd, rfl⟩⟩))
         go_ret
         exact ⟨by first | rfl | (simp [errW_none, errW_some] <;> rfl) | (simp [*, errW_none, errW_some] <;> rfl), by repeat (first | (with_reducible first | exact HB.out | apply bA | apply bN | apply bD | refine below_set ?_ GE189.out) | exact HB.out)⟩
     ·rw [if_neg c4] at H
      exact absurd H (by simp)
    ·rw [if_neg c3] at H
     exact absurd H (by simp)
   ·rw [if_neg c2] at H
    have c2b0 : decide (x7_1 < (l0.length : Int)) = false := decide_eq_false c2
    clear c2
    by_cases c17 : (l0.length : Int) ≥ 1
    ·rw [if_pos c17] at H
     have c17b0 : decide (1 ≤ (l0.length : Int)) = true := decide_eq_true c17
     have c17b1 : decide (1 ≤ l0.length) = true := decide_eq_true (by omega)
     clear c17
     obtain rfl := Option.some.inj H
     go_wp2
     go_ret
     exact ⟨by first | rfl | (simp [errW_none, errW_some] <;> rfl) | (simp [*, errW_none, errW_some] <;> rfl), by repeat (first | (with_reducible first | exact HB.out | apply bA | apply bN | apply bD) | exact HB.out)⟩
    ·rw [if_neg c17] at H
     have c17b0 : decide (1 ≤ (l0.length : Int)) = false := decide_eq_false c17
     have c17b1 : decide (1 ≤ l0.length) = false := decide_eq_false (by omega)
     clear c17
     obtain rfl := Option.some.inj H
     go_wp2
     go_ret
     exact ⟨by first | rfl | (simp [errW_none, errW_some] <;> rfl) | (simp [*, errW_none, errW_some] <;> rfl), by repeat (first | (with_reducible first | exact HB.out | apply bA | apply bN | apply bD) | exact HB.out)⟩

/-! ### slot_Ready: function 38 -/
def slot_Ready.f (k : Nat) (l0 : List (S49)) (a1 : Int) : Option (Bool) := if a1 ≥ 0 then ((slot_Check.f k l0).bind fun t191 => (if t191 = true then ((pos_Place.f a1 (l0.length : Int)).bind fun t192 => (if 0 ≤ t192 then (if t192 < (l0.length : Int) then (some (((rd_T49 l0 t192).f0) == a1)) else (none)) else (none))) else (some false))) else (some false)
theorem slot_Ready.mono : ∀ a0 a1 k, LeO (slot_Ready.f k a0 a1) (slot_Ready.f (k + 1) a0 a1) := by
 intro a0 a1 k
 unfold slot_Ready.f
 repeat' first
   | (with_reducible exact slot_Check.mono _ _)
   | (with_reducible exact LeO.refl _)
   | (with_reducible exact LeO.none _)
   | (with_reducible refine LeO.ite ?_ ?_)
   | (with_reducible refine LeO.bind ?_ (fun _ => ?_))
   | exact slot_Check.mono _ _
   | exact LeO.none _
   | refine LeO.ite ?_ ?_
   | refine LeO.bind ?_ (fun _ => ?_)
set_option maxHeartbeats 8000000 in
set_option maxRecDepth 100000 in
theorem slot_Ready.calls (k : Nat) (A0 : Option Addr) (c0 : Nat) (l0 : List (S49)) (a1 : Int) (r : Bool) (w : World) (hr0 : Kd.C k49 w A0 l0.length l0) (hc0 : l0.length ≤ c0) (h : slot_Ready.f k l0 a1 = some r) :
  Calls Try.prog 38 #[.slice A0 l0.length c0, .int .i64 a1] w fun e w' => e = .returned (.bool r) ∧ Below w.heap.size w w' := by
 have HR0 := Aside0.mk hr0
 have HC0 := Aside0.mk hc0
 clear hr0 hc0
 have HB := Aside0.mk (Below.refl w.heap.size w)
 have H : (if a1 ≥ 0 then ((slot_Check.f k l0).bind fun t191 => (if t191 = true then ((pos_Place.f a1 (l0.length : Int)).bind fun t192 => (if 0 ≤ t192 then (if t192 < (l0.length : Int) then (some (((rd_T49 l0 t192).f0) == a1)) else (none)) else (none))) else (some false))) else (some false)) = some r := h
 clear h
 by_cases c3 : a1 ≥ 0
 ·rw [if_pos c3] at H
  have c3b0 : decide (0 ≤ a1) = true := decide_eq_true c3
  clear c3
  replace H := Option.bind_eq_some_iff.mp H
  obtain ⟨t191, A40, H⟩ := H
  replace H : (if t191 = true then ((pos_Place.f a1 (l0.length : Int)).bind fun t192 => (if 0 ≤ t192 then (if t192 < (l0.length : Int) then (some (((rd_T49 l0 t192).f0) == a1)) else (none)) else (none))) else (some false)) = some r := H
  have A4 := Aside0.mk A40
  clear A40
  by_cases c5 : t191 = true
  ·subst c5
   have H1 : ((pos_Place.f a1 (l0.length : Int)).bind fun t192 => (if 0 ≤ t192 then (if t192 < (l0.length : Int) then (some (((rd_T49 l0 t192).f0) == a1)) else (none)) else (none))) = some r := by rw [if_pos rfl] at H; exact H
   clear H
   have H := H1
   clear H1
   replace H := Option.bind_eq_some_iff.mp H
   obtain ⟨t192, A60, H⟩ := H
   replace H : (if 0 ≤ t192 then (if t192 < (l0.length : Int) then (some (((rd_T49 l0 t192).f0) == a1)) else (none)) else (none)) = some r := H
   have A6 := Aside0.mk A60
   clear A60
   by_cases c7 : 0 ≤ t192
   ·rw [if_pos c7] at H
    have c7b0 : decide (0 ≤ t192) = true := decide_eq_true c7
    clear c7
    by_cases c8 : t192 < (l0.length : Int)
    ·rw [if_pos c8] at H
     have c8b0 : decide (t192 < (l0.length : Int)) = true := decide_eq_true c8
     clear c8
     obtain rfl := Option.some.inj H
     go_enter Try.func38, Try.ntmps38
     go_wp2_with (first | (go_at_call 36; (with_reducible refine (slot_Check.calls k _ _ l0 true _ ?side1 ?side2 A4.out).mono ?_); (case side1 => repeat (first | exact HR0.out | (with_reducible refine Kd.C_alloc ?_ _) | (with_reducible refine Kd.C_drewN ?_ _) | (with_reducible refine Kd.C_drew ?_))); (case side2 => exact HC0.out); rintro e w9 ⟨rfl, hb⟩; have n0_ := Aside0.mk (below_step (by repeat (first | (with_reducible first | exact HB.out | apply bA | apply bN | apply bD) | exact HB.out)) hb); clear HB; have HB := n0_; clear n0_; (try clear hb); (try clear hb2); (try clear hk); (try clear hi)) | (go_at_call 20; (with_reducible refine (pos_Place.calls a1 (l0.length : Int) t192 _ A6.out).mono ?_); rintro e w' ⟨rfl, ⟨nd, rfl⟩⟩; have p193 : 0 ≤ (t192 : Int) := of_decide_eq_true (by first | (with_reducible assumption) | assumption); have q193 : t192 < (l0.length : Int) := of_decide_eq_true (by first | (with_reducible assumption) | assumption); obtain ⟨ad193, e193, hx193_0, hx193_1⟩ := at_T49 HR0.out t192 p193 q193; cases e193; replace hx193_0 := (HB.out.cell (World.block_lt_of_cell? w _ hx193_0)).trans hx193_0; replace hx193_1 := (HB.out.cell (World.block_lt_of_cell? w _ hx193_1)).trans hx193_1; replace p193 := eq_true p193; replace q193 := eq_true q193))
     go_ret
     exact ⟨by first | rfl | (simp [errW_none, errW_some] <;> rfl) | (simp [*, errW_none, errW_some] <;> rfl), by repeat (first | (with_reducible first | exact HB.out | apply bA | apply bN | apply bD) | exact HB.out)⟩
    ·rw [if_neg c8] at H
     exact absurd H (by simp)
   ·rw [if_neg c7] at H
    exact absurd H (by simp)
  ·replace c5 := Bool.eq_false_iff.mpr c5
   subst c5
   have H1 : (some false) = some r := by rw [if_neg (show ¬ (false = true) by decide)] at H; exact H
   clear H
   have H := H1
   clear H1
   obtain rfl := Option.some.inj H
   go_enter Try.func38, Try.ntmps38
   go_wp2_with (first | (go_at_call 36; (with_reducible refine (slot_Check.calls k _ _ l0 false _ ?side1 ?side2 A4.out).mono ?_); (case side1 => repeat (first | exact HR0.out | (with_reducible refine Kd.C_alloc ?_ _) | (with_reducible refine Kd.C_drewN ?_ _) | (with_reducible refine Kd.C_drew ?_))); (case side2 => exact HC0.out); rintro e w10 ⟨rfl, hb⟩; have n0_ := Aside0.mk (below_step (by repeat (first | (with_reducible first | exact HB.out | apply bA | apply bN | apply bD) | exact HB.out)) hb); clear HB; have HB := n0_; clear n0_; (try clear hb); (try clear hb2); (try clear hk); (try clear hi)))
   go_ret
   exact ⟨by first | rfl | (simp [errW_none, errW_some] <;> rfl) | (simp [*, errW_none, errW_some] <;> rfl), by repeat (first | (with_reducible first | exact HB.out | apply bA | apply bN | apply bD) | exact HB.out)⟩
 ·rw [if_neg c3] at H
  have c3b0 : decide (0 ≤ a1) = false := decide_eq_false c3
  clear c3
  obtain rfl := Option.some.inj H
  go_enter Try.func38, Try.ntmps38
  go_wp2
  go_ret
  exact ⟨by first | rfl | (simp [errW_none, errW_some] <;> rfl) | (simp [*, errW_none, errW_some] <;> rfl), by repeat (first | (with_reducible first | exact HB.out | apply bA | apply bN | apply bD) | exact HB.out)⟩

end Go.Proofs.Ytlpeklhejjidfaa.PL
