-- written by this repo's pp.py (the kit's print, turned by wip/patches.py)
import Derived.Test.YtmilniofdpgbnaaPLx0
import Derived.Test.YtmilniofdpgbnaaPLx9
import Derived.Test.YtmilniofdpgbnaaPLx10
import Derived.Test.YtmilniofdpgbnaaPLx11
import Derived.Test.YtmilniofdpgbnaaPLx16
namespace Go.Proofs.Ytmilniofdpgbnaa.PL
open Go.RowKit Go.Proofs.YtmilniofdpgbnaaW.PrintWords Go.Proofs.YtmilniofdpgbnaaW.PrintLast Go.Proofs.YtmilniofdpgbnaaW.PrintMore
attribute [local go_sem] max2_int min2_int max_two min_two max_three min_three max_four min_four   -- for this text's walks alone
set_option linter.unusedVariables false
set_option linter.unusedSimpArgs false

/-! ### sakialaw03_FifoEnds: function 8 -/
def sakialaw03_FifoEnds.j0 : Nat → List (S30) → Bool → Bool → List Int → Int → Int → Int → Option (Bool)
 | 0, _, _, _, _, _, _, _ => none
 | k + 1, x1, x5, x21, x523000, x523001, x523002, x523003 => if x21 = true then (some x5) else ((fifo_All.f k x523000 x523001 x523002 2 x1).bind fun bt526 => ((fifo_All.f k x523000 x523001 x523002 1 x1).bind fun bt534 => (if x5 = true then ((sakiaref03_Same.f k bt526.1 bt526.2.1 bt526.2.2.1 bt526.2.2.2.1 x523000 x523001 x523002 2).bind fun t542 => (if t542 = true then (if (bt534.1.length : Int) ≤ (x523000.length : Int) then (if bt534.2.2.2.1 ≥ 1 then (if 0 ≤ (wrap64 ((x523000.length : Int) - (bt534.1.length : Int))) then (if (wrap64 ((x523000.length : Int) - (bt534.1.length : Int))) ≤ (x523000.length : Int) then ((sakiaref03_Ints.f k bt534.1 (x523000.drop ((wrap64 ((x523000.length : Int) - (bt534.1.length : Int))) : Int).toNat)).bind fun t544 => (some t544)) else (none)) else (none)) else (some false)) else (some false)) else (some false))) else (some false))))
def sakialaw03_FifoEnds.f (k : Nat) (l0_0 : List Int) (a0_1 : Int) (a0_2 : Int) (a0_3 : Int) (l1 : List (S30)) : Option (Bool) := (sakialaw03_awake.f k).bind fun t523 => (if (l0_0.length : Int) > 100 then (sakialaw03_FifoEnds.j0 k l1 t523 true l0_0 a0_1 a0_2 a0_3) else (sakialaw03_FifoEnds.j0 k l1 t523 (decide ((l1.length : Int) > 100)) l0_0 a0_1 a0_2 a0_3))
theorem sakialaw03_FifoEnds.mono_l : ∀ k, (∀ y0 y1 y2 y3 y4 y5 y6, LeO (sakialaw03_FifoEnds.j0 k y0 y1 y2 y3 y4 y5 y6) (sakialaw03_FifoEnds.j0 (k + 1) y0 y1 y2 y3 y4 y5 y6))
 | 0 => fun _ _ _ _ _ _ _ r h => by simp [sakialaw03_FifoEnds.j0] at h
 | k + 1 => by
  have ih0 := sakialaw03_FifoEnds.mono_l k
  ·intro y0 y1 y2 y3 y4 y5 y6
   unfold sakialaw03_FifoEnds.j0
   repeat' first
   | (with_reducible exact ih0 _ _ _ _ _ _ _)
   | (with_reducible exact fifo_All.mono _ _ _ _ _ _)
   | (with_reducible exact sakialaw03_awake.mono _)
   | (with_reducible exact sakiaref03_Ints.mono _ _ _)
   | (with_reducible exact sakiaref03_Same.mono _ _ _ _ _ _ _ _ _)
   | (with_reducible exact LeO.refl _)
   | (with_reducible exact LeO.none _)
   | (with_reducible refine LeO.ite ?_ ?_)
   | (with_reducible refine LeO.bind ?_ (fun _ => ?_))
   | exact ih0 _ _ _ _ _ _ _
   | exact fifo_All.mono _ _ _ _ _ _
   | exact sakialaw03_awake.mono _
   | exact sakiaref03_Ints.mono _ _ _
   | exact sakiaref03_Same.mono _ _ _ _ _ _ _ _ _
   | exact LeO.none _
   | refine LeO.ite ?_ ?_
   | refine LeO.bind ?_ (fun _ => ?_)
theorem sakialaw03_FifoEnds.mono : ∀ a0 a1 a2 a3 a4 k, LeO (sakialaw03_FifoEnds.f k a0 a1 a2 a3 a4) (sakialaw03_FifoEnds.f (k + 1) a0 a1 a2 a3 a4) := by
 intro a0 a1 a2 a3 a4 k
 have ih0 := sakialaw03_FifoEnds.mono_l k
 unfold sakialaw03_FifoEnds.f
 repeat' first
   | (with_reducible exact ih0 _ _ _ _ _ _ _)
   | (with_reducible exact fifo_All.mono _ _ _ _ _ _)
   | (with_reducible exact sakialaw03_awake.mono _)
   | (with_reducible exact sakiaref03_Ints.mono _ _ _)
   | (with_reducible exact sakiaref03_Same.mono _ _ _ _ _ _ _ _ _)
   | (with_reducible exact LeO.refl _)
   | (with_reducible exact LeO.none _)
   | (with_reducible refine LeO.ite ?_ ?_)
   | (with_reducible refine LeO.bind ?_ (fun _ => ?_))
   | exact ih0 _ _ _ _ _ _ _
   | exact fifo_All.mono _ _ _ _ _ _
   | exact sakialaw03_awake.mono _
   | exact sakiaref03_Ints.mono _ _ _
   | exact sakiaref03_Same.mono _ _ _ _ _ _ _ _ _
   | exact LeO.none _
   | refine LeO.ite ?_ ?_
   | refine LeO.bind ?_ (fun _ => ?_)
def sakialaw03_FifoEnds.T10 : Bool × List (List Nat × List Nat) := (true, [([], []), ([0], [0]), ([1], [1]), ([1], [1]), ([2, 3, 1, 1], [1, 2, 3]), ([1, 4], [1, 4]), ([5, 4], [5]), ([6], [6]), ([7, 6], [6, 7]), ([8, 6], [6, 8]), ([6], [6]), ([10, 6], [6, 10]), ([11, 6], [6, 11]), ([9, 12, 6], [6, 9, 12]), ([6, 13], [6, 13]), ([14, 6], [14]), ([15], [15]), ([16, 15], [15, 16]), ([17, 15], [15, 17]), ([15, 18], [15, 18]), ([19, 15], [19]), ([20], [20]), ([21, 20], [20, 21]), ([20], [20]), ([23, 20], [20, 23]), ([20], [20]), ([25, 20], [20, 25]), ([26, 20], [20, 26]), ([20], [20]), ([28, 20], [20, 28]), ([29, 20], [20, 29]), ([27, 30, 20], [20, 27, 30]), ([24, 31, 20], [20, 24, 31]), ([22, 32, 20, 20], [20, 22, 32]), ([20, 33], [20, 33]), ([34, 33, 0, 1, 2, 3, 4, 5, 6, 7, 8, 9, 10, 11, 12, 13, 14, 15, 16, 17, 18, 19, 20, 21, 22, 23, 24, 25, 26, 27, 28, 29, 30, 31, 32, 33, 34], [34])])
def sakialaw03_FifoEnds.B10 : List Nat := [0, 1, 3, 3, 15, 31, 63, 127, 255, 511, 127, 1151, 3199, 8191, 16383, 32767, 65535, 131071, 262143, 524287, 1048575, 2097151, 4194303, 2097151, 10485759, 2097151, 35651583, 102760447, 2097151, 270532607, 807403519, 2116026367, 4288675839, 8589934591, 17179869183, 34359738367]
theorem sakialaw03_FifoEnds.tab10 : rtab .any (opsOf Try.f8 10) = sakialaw03_FifoEnds.T10 := by kernel_rfl
theorem sakialaw03_FifoEnds.bits10 : waitsOk sakialaw03_FifoEnds.T10.2 sakialaw03_FifoEnds.B10 = true := by kernel_rfl
set_option maxHeartbeats 8000000 in
set_option maxRecDepth 100000 in
theorem sakialaw03_FifoEnds.calls (k : Nat) (A0_0 : Option Addr) (c0_0 : Nat) (l0_0 : List Int) (a0_1 : Int) (a0_2 : Int) (a0_3 : Int) (A1 : Option Addr) (c1 : Nat) (l1 : List (S30)) (r : Bool) (w : World) (hr0_0 : Kd.C (Kd.int .i64) w A0_0 l0_0.length l0_0) (hc0_0 : l0_0.length ≤ c0_0) (hr1 : Kd.C k30 w A1 l1.length l1) (hc1 : l1.length ≤ c1) (hr_ : r = true) (h : sakialaw03_FifoEnds.f k l0_0 a0_1 a0_2 a0_3 l1 = some r) :
  Calls Try.prog 8 #[.agg #[.slice A0_0 l0_0.length c0_0, .int .i64 a0_1, .int .i64 a0_2, .int .i64 a0_3], .slice A1 l1.length c1] w fun e w' => e = .returned (.bool r) ∧ Below w.heap.size w w' := by
 have hu24 := Try.underlying24
 have HR0_0 := Aside0.mk hr0_0
 have HC0_0 := Aside0.mk hc0_0
 clear hr0_0 hc0_0
 have HR1 := Aside0.mk hr1
 have HC1 := Aside0.mk hc1
 clear hr1 hc1
 have HB := Aside0.mk (Below.refl w.heap.size w)
 have HR_ := Aside0.mk hr_
 clear hr_
 have H : ((sakialaw03_awake.f k).bind fun t523 => (if (l0_0.length : Int) > 100 then (sakialaw03_FifoEnds.j0 k l1 t523 true l0_0 a0_1 a0_2 a0_3) else (sakialaw03_FifoEnds.j0 k l1 t523 (decide ((l1.length : Int) > 100)) l0_0 a0_1 a0_2 a0_3))) = some r := h
 clear h
 replace H := Option.bind_eq_some_iff.mp H
 obtain ⟨t523, A30, H⟩ := H
 replace H : (if (l0_0.length : Int) > 100 then (sakialaw03_FifoEnds.j0 k l1 t523 true l0_0 a0_1 a0_2 a0_3) else (sakialaw03_FifoEnds.j0 k l1 t523 (decide ((l1.length : Int) > 100)) l0_0 a0_1 a0_2 a0_3)) = some r := H
 have A3 := Aside0.mk A30
 clear A30
 have HC4 := Aside0.mk H
 clear H
 go_enter Try.func8, Try.ntmps8
 go_upto_region 2 with (first | ((with_reducible refine gate_dst (N := 2) rfl ?_); (try (refine gate_guard (by rfl) ?_; dsimp only)); refine box_event ?hg (N := 2) ?hd (cs := #[.slice A0_0 l0_0.length c0_0, .int .i64 a0_1, .int .i64 a0_2, .int .i64 a0_3]) (t := 24) ?hr ?_; (case hd => rfl); (case hg => rfl); (case hr => first | (go_simp; done) | (go_simp; rfl)); intro gb522 hg w5 hbox hb; have n0_ := Aside0.mk (below_step (by repeat (first | (with_reducible first | exact HB.out | apply bA | apply bN | apply bD) | exact HB.out)) hb); have n1_ := Aside0.mk (hbox); have n2_ := Aside0.mk ((by rw [hg]; exact (below_size (by repeat (first | (with_reducible first | exact HB.out | apply bA | apply bN | apply bD) | exact HB.out))) : w.heap.size ≤ gb522)); have n3_ := Aside0.mk ((by rw [hg]; exact (below_size (by repeat (first | (with_reducible first | exact HB.out | apply bA | apply bN | apply bD) | exact HB.out))) : w.heap.size ≤ gb522)); clear HB; have HB := n0_; have BK522 := n1_; have GW522 := n2_; have GE522 := n3_; clear n0_ n1_ n2_ n3_; clear hb hbox hg) | ((with_reducible refine gate_callee (f := 15) rfl ?_); refine goesL_ (some 12) rfl rfl Try.func15 (by kernel_rfl) rfl #[] rfl (by (try simp only [List.map_toArray, List.map_cons, List.map_nil]); first | done | rfl | (simp only [List.length_drop, List.length_take]; rfl)) ?_; (with_reducible refine (sakialaw03_awake.calls k  t523 _ A3.out).mono ?_); rintro e w6 ⟨rfl, hb⟩; refine ⟨_, rfl, ?_⟩; have n0_ := Aside0.mk (blk_below BK522.out hb); have n1_ := Aside0.mk (below_step (by repeat (first | (with_reducible first | exact HB.out | apply bA | apply bN | apply bD | refine below_set ?_ GE522.out) | exact HB.out)) hb); clear BK522; clear HB; have BK522 := n0_; have HB := n1_; clear n0_ n1_; (try clear hb); (try clear hb2); (try clear hk); (try clear hi)))
 (try simp only [Act.put, List.setIfInBounds_toArray, List.set_cons_zero, List.set_cons_succ])
 go_cut [21] (fun v21 wc => ∃ (kq : Nat) (x21_3 : Bool), v21 = .bool x21_3 ∧ Aside0 (sakialaw03_FifoEnds.j0 kq l1 t523 x21_3 l0_0 a0_1 a0_2 a0_3 = some r) ∧ Aside0 (kq ≤ k) ∧ Aside0 (wc.heap[gb522]? = some (.cells #[(.slice A0_0 l0_0.length c0_0), .int .i64 a0_1, .int .i64 a0_2, .int .i64 a0_3] 24 (0, 0))) ∧ Aside0 (Below w.heap.size w wc))
 case first =>
  have H := HC4.out
  clear HC4
  by_cases c7 : (l0_0.length : Int) > 100
  ·rw [if_pos c7] at H
   have c7b0 : decide (100 < (l0_0.length : Int)) = true := decide_eq_true c7
   have c7b1 : decide (100 < l0_0.length) = true := decide_eq_true (by omega)
   clear c7
   (first | rw [c7b0] | (simp only [i64_w, i32_w]; rw [c7b0]) | skip)
   have H' := Aside0.mk H
   clear H
   obtain ⟨hcz8_0, hcz8_1, hcz8_2, hcz8_3, hfz8_0, hfz8_1, hfz8_2, hfz8_3⟩ := cells4 (w := w6) (g := gb522) BK522.out
   go_wp2
   go_meet
   case rel => exact ⟨_, (true), (by first | rfl | (simp; done) | (simp [*]; done)), H', ⟨by first | omega | exact Nat.le_refl _⟩, ⟨by (with_reducible repeat (first | apply kN | apply kD | apply kA)); exact BK522.out⟩, ⟨by repeat (first | (with_reducible first | exact HB.out | apply bA | apply bN | apply bD | refine below_set ?_ GE522.out) | exact HB.out)⟩⟩
  ·rw [if_neg c7] at H
   have c7b0 : decide (100 < (l0_0.length : Int)) = false := decide_eq_false c7
   have c7b1 : decide (100 < l0_0.length) = false := decide_eq_false (by omega)
   clear c7
   (first | rw [c7b0] | (simp only [i64_w, i32_w]; rw [c7b0]) | skip)
   have H' := Aside0.mk H
   clear H
   obtain ⟨hcz9_0, hcz9_1, hcz9_2, hcz9_3, hfz9_0, hfz9_1, hfz9_2, hfz9_3⟩ := cells4 (w := w6) (g := gb522) BK522.out
   go_wp2
   go_meet
   case rel => exact ⟨_, (decide ((l1.length : Int) > 100)), (by first | rfl | (simp; done) | (simp [*]; done)), H', ⟨by first | omega | exact Nat.le_refl _⟩, ⟨by (with_reducible repeat (first | apply kN | apply kD | apply kA)); exact BK522.out⟩, ⟨by repeat (first | (with_reducible first | exact HB.out | apply bA | apply bN | apply bD | refine below_set ?_ GE522.out) | exact HB.out)⟩⟩
 case rest =>
  clear HC4
  try clear c1
  try clear p2
  try clear c7
  try clear c7b0
  try clear c7b1
  try clear c8
  try clear hcz8_0
  try clear hcz8_1
  try clear hcz8_2
  try clear hcz8_3
  try clear hcz9_0
  try clear hcz9_1
  try clear hcz9_2
  try clear hcz9_3
  try clear hfz8_0
  try clear hfz8_1
  try clear hfz8_2
  try clear hfz8_3
  try clear hfz9_0
  try clear hfz9_1
  try clear hfz9_2
  try clear hfz9_3
  obtain ⟨kq, x21_3, rfl, HA, HJ3, BK522, HB⟩ := hcut
  cases kq with
  | zero => exact absurd HA.out (by simp [sakialaw03_FifoEnds.j0])
  | succ kj3 =>
   have H := HA.out
   clear HA
   simp only [sakialaw03_FifoEnds.j0] at H
   by_cases c10 : x21_3 = true
   ·subst c10
    have H1 : (some t523) = some r := by rw [if_pos rfl] at H; exact H
    clear H
    have H := H1
    clear H1
    obtain rfl := Option.some.inj H
    go_wp2
    go_ret
    exact ⟨by first | rfl | (simp [errW_none, errW_some] <;> rfl) | (simp [*, errW_none, errW_some] <;> rfl), by repeat (first | (with_reducible first | exact HB.out | apply bA | apply bN | apply bD | refine below_set ?_ GE522.out) | exact HB.out)⟩
   ·replace c10 := Bool.eq_false_iff.mpr c10
    subst c10
    have H1 : ((fifo_All.f kj3 l0_0 a0_1 a0_2 2 l1).bind fun bt526 => ((fifo_All.f kj3 l0_0 a0_1 a0_2 1 l1).bind fun bt534 => (if t523 = true then ((sakiaref03_Same.f kj3 bt526.1 bt526.2.1 bt526.2.2.1 bt526.2.2.2.1 l0_0 a0_1 a0_2 2).bind fun t542 => (if t542 = true then (if (bt534.1.length : Int) ≤ (l0_0.length : Int) then (if bt534.2.2.2.1 ≥ 1 then (if 0 ≤ (wrap64 ((l0_0.length : Int) - (bt534.1.length : Int))) then (if (wrap64 ((l0_0.length : Int) - (bt534.1.length : Int))) ≤ (l0_0.length : Int) then ((sakiaref03_Ints.f kj3 bt534.1 (l0_0.drop ((wrap64 ((l0_0.length : Int) - (bt534.1.length : Int))) : Int).toNat)).bind fun t544 => (some t544)) else (none)) else (none)) else (some false)) else (some false)) else (some false))) else (some false)))) = some r := by rw [if_neg (show ¬ (false = true) by decide)] at H; exact H
    clear H
    have H := H1
    clear H1
    replace H := Option.bind_eq_some_iff.mp H
    obtain ⟨⟨t526, t529, t530, t531, t532⟩, A110, H⟩ := H
    replace H : ((fifo_All.f kj3 l0_0 a0_1 a0_2 1 l1).bind fun bt534 => (if t523 = true then ((sakiaref03_Same.f kj3 t526 t529 t530 t531 l0_0 a0_1 a0_2 2).bind fun t542 => (if t542 = true then (if (bt534.1.length : Int) ≤ (l0_0.length : Int) then (if bt534.2.2.2.1 ≥ 1 then (if 0 ≤ (wrap64 ((l0_0.length : Int) - (bt534.1.length : Int))) then (if (wrap64 ((l0_0.length : Int) - (bt534.1.length : Int))) ≤ (l0_0.length : Int) then ((sakiaref03_Ints.f kj3 bt534.1 (l0_0.drop ((wrap64 ((l0_0.length : Int) - (bt534.1.length : Int))) : Int).toNat)).bind fun t544 => (some t544)) else (none)) else (none)) else (some false)) else (some false)) else (some false))) else (some false))) = some r := H
    have A11 := Aside0.mk A110
    clear A110
    replace H := Option.bind_eq_some_iff.mp H
    obtain ⟨⟨t534, t537, t538, t539, t540⟩, A120, H⟩ := H
    replace H : (if t523 = true then ((sakiaref03_Same.f kj3 t526 t529 t530 t531 l0_0 a0_1 a0_2 2).bind fun t542 => (if t542 = true then (if (t534.length : Int) ≤ (l0_0.length : Int) then (if t539 ≥ 1 then (if 0 ≤ (wrap64 ((l0_0.length : Int) - (t534.length : Int))) then (if (wrap64 ((l0_0.length : Int) - (t534.length : Int))) ≤ (l0_0.length : Int) then ((sakiaref03_Ints.f kj3 t534 (l0_0.drop ((wrap64 ((l0_0.length : Int) - (t534.length : Int))) : Int).toNat)).bind fun t544 => (some t544)) else (none)) else (none)) else (some false)) else (some false)) else (some false))) else (some false)) = some r := H
    have A12 := Aside0.mk A120
    clear A120
    by_cases c13 : t523 = true
    ·subst c13
     have H1 : ((sakiaref03_Same.f kj3 t526 t529 t530 t531 l0_0 a0_1 a0_2 2).bind fun t542 => (if t542 = true then (if (t534.length : Int) ≤ (l0_0.length : Int) then (if t539 ≥ 1 then (if 0 ≤ (wrap64 ((l0_0.length : Int) - (t534.length : Int))) then (if (wrap64 ((l0_0.length : Int) - (t534.length : Int))) ≤ (l0_0.length : Int) then ((sakiaref03_Ints.f kj3 t534 (l0_0.drop ((wrap64 ((l0_0.length : Int) - (t534.length : Int))) : Int).toNat)).bind fun t544 => (some t544)) else (none)) else (none)) else (some false)) else (some false)) else (some false))) = some r := by rw [if_pos rfl] at H; exact H
     clear H
     have H := H1
     clear H1
     replace H := Option.bind_eq_some_iff.mp H
     obtain ⟨t542, A140, H⟩ := H
     replace H : (if t542 = true then (if (t534.length : Int) ≤ (l0_0.length : Int) then (if t539 ≥ 1 then (if 0 ≤ (wrap64 ((l0_0.length : Int) - (t534.length : Int))) then (if (wrap64 ((l0_0.length : Int) - (t534.length : Int))) ≤ (l0_0.length : Int) then ((sakiaref03_Ints.f kj3 t534 (l0_0.drop ((wrap64 ((l0_0.length : Int) - (t534.length : Int))) : Int).toNat)).bind fun t544 => (some t544)) else (none)) else (none)) else (some false)) else (some false)) else (some false)) = some r := H
     have A14 := Aside0.mk A140
     clear A140
     by_cases c15 : t542 = true
     ·subst c15
      have H1 : (if (t534.length : Int) ≤ (l0_0.length : Int) then (if t539 ≥ 1 then (if 0 ≤ (wrap64 ((l0_0.length : Int) - (t534.length : Int))) then (if (wrap64 ((l0_0.length : Int) - (t534.length : Int))) ≤ (l0_0.length : Int) then ((sakiaref03_Ints.f kj3 t534 (l0_0.drop ((wrap64 ((l0_0.length : Int) - (t534.length : Int))) : Int).toNat)).bind fun t544 => (some t544)) else (none)) else (none)) else (some false)) else (some false)) = some r := by rw [if_pos rfl] at H; exact H
      clear H
      have H := H1
      clear H1
      by_cases c16 : (t534.length : Int) ≤ (l0_0.length : Int)
      ·rw [if_pos c16] at H
       have c16b0 : decide ((t534.length : Int) ≤ (l0_0.length : Int)) = true := decide_eq_true c16
       have c16b1 : decide (t534.length ≤ l0_0.length) = true := decide_eq_true (Int.ofNat_le.mp c16)
       clear c16
       by_cases c17 : t539 ≥ 1
       ·rw [if_pos c17] at H
        have c17b0 : decide (1 ≤ t539) = true := decide_eq_true c17
        clear c17
        obtain ⟨ji18, hji18⟩ : ∃ j_ : Int, (wrap64 ((l0_0.length : Int) - (t534.length : Int))) = j_ := ⟨_, rfl⟩
        replace H : (if 0 ≤ (ji18) then (if (ji18) ≤ (l0_0.length : Int) then ((sakiaref03_Ints.f kj3 t534 (l0_0.drop ((ji18) : Int).toNat)).bind fun t544 => (some t544)) else (none)) else (none)) = some r := by first | (rw [hji18] at H; exact H) | (simp only [hji18] at H ⊢; exact H)
        (try rw [hji18] at A11)
        (try rw [hji18] at A12)
        (try rw [hji18] at A14)
        have hji18w : (IntKind.i64.wrap ((l0_0.length : Int) - (t534.length : Int))) = ji18 := (i64_w _).trans hji18
        by_cases c19 : 0 ≤ (ji18)
        ·rw [if_pos c19] at H
         have c19b0 := eq_true c19
         have c19b1 : decide (0 ≤ (ji18)) = true := decide_eq_true c19
         clear c19
         by_cases c20 : (ji18) ≤ (l0_0.length : Int)
         ·rw [if_pos c20] at H
          have c20b0 := eq_true c20
          have c20b1 : decide ((ji18) ≤ (l0_0.length : Int)) = true := decide_eq_true c20
          clear c20
          replace H := Option.bind_eq_some_iff.mp H
          obtain ⟨t544, A210, H⟩ := H
          replace H : (some t544) = some r := H
          have A21 := Aside0.mk A210
          clear A210
          obtain rfl := Option.some.inj H
          obtain ⟨hcz22_0, hcz22_1, hcz22_2, hcz22_3, hfz22_0, hfz22_1, hfz22_2, hfz22_3⟩ := cells4 (w := wc) (g := gb522) BK522.out
          try go_wp2_with (first | ((with_reducible refine gate_dst (N := 6) rfl ?_); (try (refine gate_guard (by rfl) ?_; dsimp only)); refine box_event ?hg (N := 6) ?hd (cs := #[.slice none 0 0, .int .i64 0, .int .i64 0, .int .i64 0]) (t := 24) ?hr ?_; (case hd => rfl); (case hg => rfl); (case hr => first | (go_simp; done) | (go_simp; rfl)); intro gb524 hg w23 hbox hb; have n0_ := Aside0.mk (blk_below BK522.out hb); have n1_ := Aside0.mk (below_step (by repeat (first | (with_reducible first | exact HB.out | apply bA | apply bN | apply bD | refine below_set ?_ GE522.out) | exact HB.out)) hb); have n2_ := Aside0.mk (hbox); have n3_ := Aside0.mk ((by rw [hg]; exact (below_size (by repeat (first | (with_reducible first | exact HB.out | apply bA | apply bN | apply bD | refine below_set ?_ GE522.out) | exact HB.out))) : w.heap.size ≤ gb524)); have n4_ := Aside0.mk ((by rw [hg]; exact (below_size (by repeat (first | (with_reducible first | exact HB.out | apply bA | apply bN | apply bD | refine below_set ?_ GE522.out) | exact HB.out))) : w.heap.size ≤ gb524)); have n5_ := Aside0.mk ((by rw [hg]; exact Nat.ne_of_lt (blk_lt BK522.out) : gb522 ≠ gb524)); have n6_ := Aside0.mk ((by rw [hg]; exact Nat.ne_of_gt (blk_lt BK522.out) : gb524 ≠ gb522)); clear BK522; clear HB; have BK522 := n0_; have HB := n1_; have BK524 := n2_; have GW524 := n3_; have GE524 := n4_; have NB522_524 := n5_; have NB524_522 := n6_; clear n0_ n1_ n2_ n3_ n4_ n5_ n6_; clear hb hbox hg; have hnb24 := NB524_522.out; have hnc24 := NB522_524.out; obtain ⟨hcz25_0, hcz25_1, hcz25_2, hcz25_3, hfz25_0, hfz25_1, hfz25_2, hfz25_3⟩ := cells4 (w := w23) (g := gb524) BK524.out; obtain ⟨hcz26_0, hcz26_1, hcz26_2, hcz26_3, hfz26_0, hfz26_1, hfz26_2, hfz26_3⟩ := cells4 (w := w23) (g := gb522) BK522.out) | ((with_reducible refine gate_dst (N := 7) rfl ?_); (try (refine gate_guard (by rfl) ?_; dsimp only)); refine box_event ?hg (N := 7) ?hd (cs := #[.slice none 0 0, .int .i64 0, .int .i64 0, .int .i64 0]) (t := 24) ?hr ?_; (case hd => rfl); (case hg => rfl); (case hr => first | (go_simp; done) | (go_simp; rfl)); intro gb525 hg w27 hbox hb; have n0_ := Aside0.mk (blk_below (g := gb522) (o := .cells #[.slice A0_0 l0_0.length c0_0, .int .i64 a0_1, .int .i64 a0_2, .int .i64 a0_3] 24 (0, 0)) (by (with_reducible repeat (first | apply kN | apply kD | apply kA)); refine blk_far ?_ NB522_524.out _; (with_reducible repeat (first | apply kN | apply kD | apply kA)); refine blk_far ?_ NB522_524.out _; (with_reducible repeat (first | apply kN | apply kD | apply kA)); refine blk_far ?_ NB522_524.out _; (with_reducible repeat (first | apply kN | apply kD | apply kA)); refine blk_far ?_ NB522_524.out _; (with_reducible repeat (first | apply kN | apply kD | apply kA)); refine blk_far ?_ NB522_524.out _; (with_reducible repeat (first | apply kN | apply kD | apply kA)); exact BK522.out) hb); have n1_ := Aside0.mk (blk_below (g := gb524) (o := .cells #[.slice A0_0 l0_0.length c0_0, .int .i64 a0_1, .int .i64 a0_2, .int .i64 2] 24 (0, 0)) (by (with_reducible repeat (first | apply kN | apply kD | apply kA)); refine blk_put (cs := #[.slice A0_0 l0_0.length c0_0, .int .i64 a0_1, .int .i64 a0_2, .int .i64 a0_3]) ?_ 3 _ rfl; (with_reducible repeat (first | apply kN | apply kD | apply kA)); refine blk_put (cs := #[.slice A0_0 l0_0.length c0_0, .int .i64 a0_1, .int .i64 a0_2, .int .i64 0]) ?_ 3 _ rfl; (with_reducible repeat (first | apply kN | apply kD | apply kA)); refine blk_put (cs := #[.slice A0_0 l0_0.length c0_0, .int .i64 a0_1, .int .i64 0, .int .i64 0]) ?_ 2 _ rfl; (with_reducible repeat (first | apply kN | apply kD | apply kA)); refine blk_put (cs := #[.slice A0_0 l0_0.length c0_0, .int .i64 0, .int .i64 0, .int .i64 0]) ?_ 1 _ rfl; (with_reducible repeat (first | apply kN | apply kD | apply kA)); refine blk_put (cs := #[.slice none 0 0, .int .i64 0, .int .i64 0, .int .i64 0]) ?_ 0 _ rfl; (with_reducible repeat (first | apply kN | apply kD | apply kA)); exact BK524.out) hb); have n2_ := Aside0.mk (below_step (by repeat (first | (with_reducible first | exact HB.out | apply bA | apply bN | apply bD | refine below_set ?_ GE522.out | refine below_set ?_ GE524.out) | exact HB.out)) hb); have n3_ := Aside0.mk (hbox); have n4_ := Aside0.mk ((by rw [hg]; exact (below_size (by repeat (first | (with_reducible first | exact HB.out | apply bA | apply bN | apply bD | refine below_set ?_ GE522.out | refine below_set ?_ GE524.out) | exact HB.out))) : w.heap.size ≤ gb525)); have n5_ := Aside0.mk ((by rw [hg]; exact (below_size (by repeat (first | (with_reducible first | exact HB.out | apply bA | apply bN | apply bD | refine below_set ?_ GE522.out | refine below_set ?_ GE524.out) | exact HB.out))) : w.heap.size ≤ gb525)); have n6_ := Aside0.mk ((by rw [hg]; exact Nat.ne_of_lt (blk_lt (g := gb522) (o := .cells #[.slice A0_0 l0_0.length c0_0, .int .i64 a0_1, .int .i64 a0_2, .int .i64 a0_3] 24 (0, 0)) (by (with_reducible repeat (first | apply kN | apply kD | apply kA)); refine blk_far ?_ NB522_524.out _; (with_reducible repeat (first | apply kN | apply kD | apply kA)); refine blk_far ?_ NB522_524.out _; (with_reducible repeat (first | apply kN | apply kD | apply kA)); refine blk_far ?_ NB522_524.out _; (with_reducible repeat (first | apply kN | apply kD | apply kA)); refine blk_far ?_ NB522_524.out _; (with_reducible repeat (first | apply kN | apply kD | apply kA)); refine blk_far ?_ NB522_524.out _; (with_reducible repeat (first | apply kN | apply kD | apply kA)); exact BK522.out)) : gb522 ≠ gb525)); have n7_ := Aside0.mk ((by rw [hg]; exact Nat.ne_of_gt (blk_lt (g := gb522) (o := .cells #[.slice A0_0 l0_0.length c0_0, .int .i64 a0_1, .int .i64 a0_2, .int .i64 a0_3] 24 (0, 0)) (by (with_reducible repeat (first | apply kN | apply kD | apply kA)); refine blk_far ?_ NB522_524.out _; (with_reducible repeat (first | apply kN | apply kD | apply kA)); refine blk_far ?_ NB522_524.out _; (with_reducible repeat (first | apply kN | apply kD | apply kA)); refine blk_far ?_ NB522_524.out _; (with_reducible repeat (first | apply kN | apply kD | apply kA)); refine blk_far ?_ NB522_524.out _; (with_reducible repeat (first | apply kN | apply kD | apply kA)); refine blk_far ?_ NB522_524.out _; (with_reducible repeat (first | apply kN | apply kD | apply kA)); exact BK522.out)) : gb525 ≠ gb522)); have n8_ := Aside0.mk ((by rw [hg]; exact Nat.ne_of_lt (blk_lt (g := gb524) (o := .cells #[.slice A0_0 l0_0.length c0_0, .int .i64 a0_1, .int .i64 a0_2, .int .i64 2] 24 (0, 0)) (by (with_reducible repeat (first | apply kN | apply kD | apply kA)); refine blk_put (cs := #[.slice A0_0 l0_0.length c0_0, .int .i64 a0_1, .int .i64 a0_2, .int .i64 a0_3]) ?_ 3 _ rfl; (with_reducible repeat (first | apply kN | apply kD | apply kA)); refine blk_put (cs := #[.slice A0_0 l0_0.length c0_0, .int .i64 a0_1, .int .i64 a0_2, .int .i64 0]) ?_ 3 _ rfl; (with_reducible repeat (first | apply kN | apply kD | apply kA)); refine blk_put (cs := #[.slice A0_0 l0_0.length c0_0, .int .i64 a0_1, .int .i64 0, .int .i64 0]) ?_ 2 _ rfl; (with_reducible repeat (first | apply kN | apply kD | apply kA)); refine blk_put (cs := #[.slice A0_0 l0_0.length c0_0, .int .i64 0, .int .i64 0, .int .i64 0]) ?_ 1 _ rfl; (with_reducible repeat (first | apply kN | apply kD | apply kA)); refine blk_put (cs := #[.slice none 0 0, .int .i64 0, .int .i64 0, .int .i64 0]) ?_ 0 _ rfl; (with_reducible repeat (first | apply kN | apply kD | apply kA)); exact BK524.out)) : gb524 ≠ gb525)); have n9_ := Aside0.mk ((by rw [hg]; exact Nat.ne_of_gt (blk_lt (g := gb524) (o := .cells #[.slice A0_0 l0_0.length c0_0, .int .i64 a0_1, .int .i64 a0_2, .int .i64 2] 24 (0, 0)) (by (with_reducible repeat (first | apply kN | apply kD | apply kA)); refine blk_put (cs := #[.slice A0_0 l0_0.length c0_0, .int .i64 a0_1, .int .i64 a0_2, .int .i64 a0_3]) ?_ 3 _ rfl; (with_reducible repeat (first | apply kN | apply kD | apply kA)); refine blk_put (cs := #[.slice A0_0 l0_0.length c0_0, .int .i64 a0_1, .int .i64 a0_2, .int .i64 0]) ?_ 3 _ rfl; (with_reducible repeat (first | apply kN | apply kD | apply kA)); refine blk_put (cs := #[.slice A0_0 l0_0.length c0_0, .int .i64 a0_1, .int .i64 0, .int .i64 0]) ?_ 2 _ rfl; (with_reducible repeat (first | apply kN | apply kD | apply kA)); refine blk_put (cs := #[.slice A0_0 l0_0.length c0_0, .int .i64 0, .int .i64 0, .int .i64 0]) ?_ 1 _ rfl; (with_reducible repeat (first | apply kN | apply kD | apply kA)); refine blk_put (cs := #[.slice none 0 0, .int .i64 0, .int .i64 0, .int .i64 0]) ?_ 0 _ rfl; (with_reducible repeat (first | apply kN | apply kD | apply kA)); exact BK524.out)) : gb525 ≠ gb524)); clear BK522; clear BK524; clear HB; have BK522 := n0_; have BK524 := n1_; have HB := n2_; have BK525 := n3_; have GW525 := n4_; have GE525 := n5_; have NB522_525 := n6_; have NB525_522 := n7_; have NB524_525 := n8_; have NB525_524 := n9_; clear n0_ n1_ n2_ n3_ n4_ n5_ n6_ n7_ n8_ n9_; clear hb hbox hg; have hnb28 := NB525_522.out; have hnc28 := NB522_525.out; have hnb29 := NB525_524.out; have hnc29 := NB524_525.out; obtain ⟨hcz30_0, hcz30_1, hcz30_2, hcz30_3, hfz30_0, hfz30_1, hfz30_2, hfz30_3⟩ := cells4 (w := w27) (g := gb525) BK525.out; obtain ⟨hcz31_0, hcz31_1, hcz31_2, hcz31_3, hfz31_0, hfz31_1, hfz31_2, hfz31_3⟩ := cells4 (w := w27) (g := gb524) BK524.out) | ((with_reducible refine gate_callee (f := 19) rfl ?_); refine goesL_ (some 30) rfl rfl Try.func19 (by kernel_rfl) rfl #[.agg #[.slice A0_0 l0_0.length c0_0, .int .i64 a0_1, .int .i64 a0_2, .int .i64 2], .slice A1 l1.length c1] rfl (by (try simp only [List.map_toArray, List.map_cons, List.map_nil]); first | done | rfl | (simp only [List.length_drop, List.length_take]; rfl)) ?_; (with_reducible refine (fifo_All.calls kj3 _ _ l0_0 a0_1 a0_2 2 _ _ l1 t526 t529 t530 t531 t532 _ ?side1 ?side2 ?side3 ?side4 A11.out).mono ?_); (case side1 => exact Kd.C_below HR0_0.out (by repeat (first | (with_reducible first | exact HB.out | apply bA | apply bN | apply bD | refine below_set ?_ GE522.out | refine below_set ?_ GE524.out | refine below_set ?_ GE525.out) | exact HB.out))); (case side2 => exact HC0_0.out); (case side3 => exact Kd.C_below HR1.out (by repeat (first | (with_reducible first | exact HB.out | apply bA | apply bN | apply bD | refine below_set ?_ GE522.out | refine below_set ?_ GE524.out | refine below_set ?_ GE525.out) | exact HB.out))); (case side4 => exact HC1.out); rintro e w32 ⟨v527, rfl, ho0, hb⟩; refine ⟨_, rfl, ?_⟩; have n0_ := Aside0.mk (Kd.R_lower ho0 (below_size (by repeat (first | (with_reducible first | exact HB.out | apply bA | apply bN | apply bD | refine below_set ?_ GE522.out | refine below_set ?_ GE524.out | refine below_set ?_ GE525.out) | exact HB.out)))); have n1_ := Aside0.mk (blk_below (g := gb522) (o := .cells #[.slice A0_0 l0_0.length c0_0, .int .i64 a0_1, .int .i64 a0_2, .int .i64 a0_3] 24 (0, 0)) (by (with_reducible repeat (first | apply kN | apply kD | apply kA)); refine blk_far ?_ NB522_525.out _; (with_reducible repeat (first | apply kN | apply kD | apply kA)); refine blk_far ?_ NB522_525.out _; (with_reducible repeat (first | apply kN | apply kD | apply kA)); refine blk_far ?_ NB522_525.out _; (with_reducible repeat (first | apply kN | apply kD | apply kA)); refine blk_far ?_ NB522_525.out _; (with_reducible repeat (first | apply kN | apply kD | apply kA)); refine blk_far ?_ NB522_525.out _; (with_reducible repeat (first | apply kN | apply kD | apply kA)); exact BK522.out) hb); have n2_ := Aside0.mk (blk_below (g := gb524) (o := .cells #[.slice A0_0 l0_0.length c0_0, .int .i64 a0_1, .int .i64 a0_2, .int .i64 2] 24 (0, 0)) (by (with_reducible repeat (first | apply kN | apply kD | apply kA)); refine blk_far ?_ NB524_525.out _; (with_reducible repeat (first | apply kN | apply kD | apply kA)); refine blk_far ?_ NB524_525.out _; (with_reducible repeat (first | apply kN | apply kD | apply kA)); refine blk_far ?_ NB524_525.out _; (with_reducible repeat (first | apply kN | apply kD | apply kA)); refine blk_far ?_ NB524_525.out _; (with_reducible repeat (first | apply kN | apply kD | apply kA)); refine blk_far ?_ NB524_525.out _; (with_reducible repeat (first | apply kN | apply kD | apply kA)); exact BK524.out) hb); have n3_ := Aside0.mk (blk_below (g := gb525) (o := .cells #[.slice A0_0 l0_0.length c0_0, .int .i64 a0_1, .int .i64 a0_2, .int .i64 1] 24 (0, 0)) (by (with_reducible repeat (first | apply kN | apply kD | apply kA)); refine blk_put (cs := #[.slice A0_0 l0_0.length c0_0, .int .i64 a0_1, .int .i64 a0_2, .int .i64 a0_3]) ?_ 3 _ rfl; (with_reducible repeat (first | apply kN | apply kD | apply kA)); refine blk_put (cs := #[.slice A0_0 l0_0.length c0_0, .int .i64 a0_1, .int .i64 a0_2, .int .i64 0]) ?_ 3 _ rfl; (with_reducible repeat (first | apply kN | apply kD | apply kA)); refine blk_put (cs := #[.slice A0_0 l0_0.length c0_0, .int .i64 a0_1, .int .i64 0, .int .i64 0]) ?_ 2 _ rfl; (with_reducible repeat (first | apply kN | apply kD | apply kA)); refine blk_put (cs := #[.slice A0_0 l0_0.length c0_0, .int .i64 0, .int .i64 0, .int .i64 0]) ?_ 1 _ rfl; (with_reducible repeat (first | apply kN | apply kD | apply kA)); refine blk_put (cs := #[.slice none 0 0, .int .i64 0, .int .i64 0, .int .i64 0]) ?_ 0 _ rfl; (with_reducible repeat (first | apply kN | apply kD | apply kA)); exact BK525.out) hb); have n4_ := Aside0.mk (below_step (by repeat (first | (with_reducible first | exact HB.out | apply bA | apply bN | apply bD | refine below_set ?_ GE522.out | refine below_set ?_ GE524.out | refine below_set ?_ GE525.out) | exact HB.out)) hb); clear BK522; clear BK524; clear BK525; clear HB; have HO528 := n0_; have BK522 := n1_; have BK524 := n2_; have BK525 := n3_; have HB := n4_; clear n0_ n1_ n2_ n3_ n4_; (try clear hb); (try clear hb2); (try clear hk); (try clear hi); (try clear ho0)) | ((with_reducible refine gate_dst (N := 8) rfl ?_); (try (refine gate_guard (by rfl) ?_; dsimp only)); refine box_event ?hg (N := 8) ?hd (cs := #[.slice none 0 0, .int .i64 0, .int .i64 0, .int .i64 0]) (t := 24) ?hr ?_; (case hd => rfl); (case hg => rfl); (case hr => first | (go_simp; done) | (go_simp; rfl)); intro gb533 hg w33 hbox hb; have n0_ := Aside0.mk (Kd.R_below (by (with_reducible repeat (first | apply Kd.R_alloc | apply Kd.R_drewN | apply Kd.R_drew)); exact HO528.out) hb); have n1_ := Aside0.mk (blk_below BK522.out hb); have n2_ := Aside0.mk (blk_below BK524.out hb); have n3_ := Aside0.mk (blk_below BK525.out hb); have n4_ := Aside0.mk (below_step (by repeat (first | (with_reducible first | exact HB.out | apply bA | apply bN | apply bD | refine below_set ?_ GE522.out | refine below_set ?_ GE524.out | refine below_set ?_ GE525.out) | exact HB.out)) hb); have n5_ := Aside0.mk (hbox); have n6_ := Aside0.mk ((by rw [hg]; exact (below_size (by repeat (first | (with_reducible first | exact HB.out | apply bA | apply bN | apply bD | refine below_set ?_ GE522.out | refine below_set ?_ GE524.out | refine below_set ?_ GE525.out) | exact HB.out))) : w.heap.size ≤ gb533)); have n7_ := Aside0.mk ((by rw [hg]; exact (below_size (by repeat (first | (with_reducible first | exact HB.out | apply bA | apply bN | apply bD | refine below_set ?_ GE522.out | refine below_set ?_ GE524.out | refine below_set ?_ GE525.out) | exact HB.out))) : w.heap.size ≤ gb533)); have n8_ := Aside0.mk ((by rw [hg]; exact Nat.ne_of_lt (blk_lt BK522.out) : gb522 ≠ gb533)); have n9_ := Aside0.mk ((by rw [hg]; exact Nat.ne_of_gt (blk_lt BK522.out) : gb533 ≠ gb522)); have n10_ := Aside0.mk ((by rw [hg]; exact Nat.ne_of_lt (blk_lt BK524.out) : gb524 ≠ gb533)); have n11_ := Aside0.mk ((by rw [hg]; exact Nat.ne_of_gt (blk_lt BK524.out) : gb533 ≠ gb524)); have n12_ := Aside0.mk ((by rw [hg]; exact Nat.ne_of_lt (blk_lt BK525.out) : gb525 ≠ gb533)); have n13_ := Aside0.mk ((by rw [hg]; exact Nat.ne_of_gt (blk_lt BK525.out) : gb533 ≠ gb525)); clear HO528; clear BK522; clear BK524; clear BK525; clear HB; have HO528 := n0_; have BK522 := n1_; have BK524 := n2_; have BK525 := n3_; have HB := n4_; have BK533 := n5_; have GW533 := n6_; have GE533 := n7_; have NB522_533 := n8_; have NB533_522 := n9_; have NB524_533 := n10_; have NB533_524 := n11_; have NB525_533 := n12_; have NB533_525 := n13_; clear n0_ n1_ n2_ n3_ n4_ n5_ n6_ n7_ n8_ n9_ n10_ n11_ n12_ n13_; clear hb hbox hg; obtain ⟨Ao34, co34, eo34⟩ := Kd.R_slice HO528.out; subst eo34; have hnb35 := NB533_522.out; have hnc35 := NB522_533.out; have hnb36 := NB533_524.out; have hnc36 := NB524_533.out; have hnb37 := NB533_525.out; have hnc37 := NB525_533.out; obtain ⟨hcz38_0, hcz38_1, hcz38_2, hcz38_3, hfz38_0, hfz38_1, hfz38_2, hfz38_3⟩ := cells4 (w := w33) (g := gb533) BK533.out; obtain ⟨hcz39_0, hcz39_1, hcz39_2, hcz39_3, hfz39_0, hfz39_1, hfz39_2, hfz39_3⟩ := cells4 (w := w33) (g := gb525) BK525.out) | ((with_reducible refine gate_callee (f := 19) rfl ?_); refine goesL_ (some 36) rfl rfl Try.func19 (by kernel_rfl) rfl #[.agg #[.slice A0_0 l0_0.length c0_0, .int .i64 a0_1, .int .i64 a0_2, .int .i64 1], .slice A1 l1.length c1] rfl (by (try simp only [List.map_toArray, List.map_cons, List.map_nil]); first | done | rfl | (simp only [List.length_drop, List.length_take]; rfl)) ?_; (with_reducible refine (fifo_All.calls kj3 _ _ l0_0 a0_1 a0_2 1 _ _ l1 t534 t537 t538 t539 t540 _ ?side1 ?side2 ?side3 ?side4 A12.out).mono ?_); (case side1 => exact Kd.C_below HR0_0.out (by repeat (first | (with_reducible first | exact HB.out | apply bA | apply bN | apply bD | refine below_set ?_ GE522.out | refine below_set ?_ GE524.out | refine below_set ?_ GE525.out | refine below_set ?_ GE533.out) | exact HB.out))); (case side2 => exact HC0_0.out); (case side3 => exact Kd.C_below HR1.out (by repeat (first | (with_reducible first | exact HB.out | apply bA | apply bN | apply bD | refine below_set ?_ GE522.out | refine below_set ?_ GE524.out | refine below_set ?_ GE525.out | refine below_set ?_ GE533.out) | exact HB.out))); (case side4 => exact HC1.out); rintro e w40 ⟨v535, rfl, ho0, hb⟩; refine ⟨_, rfl, ?_⟩; have n0_ := Aside0.mk (Kd.R_elder' (by (with_reducible repeat (first | apply Kd.R_alloc | apply Kd.R_drewN | apply Kd.R_drew)); exact (Kd.R_mono (Kd.R_far (p := ⟨gb533, 3, none⟩) (Kd.R_far (p := ⟨gb533, 2, none⟩) (Kd.R_far (p := ⟨gb533, 1, none⟩) (Kd.R_far (p := ⟨gb533, 0, none⟩) (Kd.R_types HO528.out BK533.out (by decide)) (fun _ hk => hk.2) (.slice Ao34 t526.length co34)) (fun _ hk => hk.2) (.int .i64 t529)) (fun _ hk => hk.2) (.int .i64 t530)) (fun _ hk => hk.2) (.int .i64 t531)) (fun _ h_ => h_.1))) (Kd.R_base ho0) hb); have n1_ := Aside0.mk (Kd.R_lower (Kd.R_new' ho0 (Kd.R_lt (by (with_reducible repeat (first | apply Kd.R_alloc | apply Kd.R_drewN | apply Kd.R_drew)); exact (Kd.R_mono (Kd.R_far (p := ⟨gb533, 3, none⟩) (Kd.R_far (p := ⟨gb533, 2, none⟩) (Kd.R_far (p := ⟨gb533, 1, none⟩) (Kd.R_far (p := ⟨gb533, 0, none⟩) (Kd.R_types HO528.out BK533.out (by decide)) (fun _ hk => hk.2) (.slice Ao34 t526.length co34)) (fun _ hk => hk.2) (.int .i64 t529)) (fun _ hk => hk.2) (.int .i64 t530)) (fun _ hk => hk.2) (.int .i64 t531)) (fun _ h_ => h_.1))))) (below_size (by repeat (first | (with_reducible first | exact HB.out | apply bA | apply bN | apply bD | refine below_set ?_ GE522.out | refine below_set ?_ GE524.out | refine below_set ?_ GE525.out | refine below_set ?_ GE533.out) | exact HB.out)))); have n2_ := Aside0.mk (blk_below (g := gb522) (o := .cells #[.slice A0_0 l0_0.length c0_0, .int .i64 a0_1, .int .i64 a0_2, .int .i64 a0_3] 24 (0, 0)) (by (with_reducible repeat (first | apply kN | apply kD | apply kA)); refine blk_far ?_ NB522_533.out _; (with_reducible repeat (first | apply kN | apply kD | apply kA)); refine blk_far ?_ NB522_533.out _; (with_reducible repeat (first | apply kN | apply kD | apply kA)); refine blk_far ?_ NB522_533.out _; (with_reducible repeat (first | apply kN | apply kD | apply kA)); refine blk_far ?_ NB522_533.out _; (with_reducible repeat (first | apply kN | apply kD | apply kA)); exact BK522.out) hb); have n3_ := Aside0.mk (blk_below (g := gb524) (o := .cells #[.slice A0_0 l0_0.length c0_0, .int .i64 a0_1, .int .i64 a0_2, .int .i64 2] 24 (0, 0)) (by (with_reducible repeat (first | apply kN | apply kD | apply kA)); refine blk_far ?_ NB524_533.out _; (with_reducible repeat (first | apply kN | apply kD | apply kA)); refine blk_far ?_ NB524_533.out _; (with_reducible repeat (first | apply kN | apply kD | apply kA)); refine blk_far ?_ NB524_533.out _; (with_reducible repeat (first | apply kN | apply kD | apply kA)); refine blk_far ?_ NB524_533.out _; (with_reducible repeat (first | apply kN | apply kD | apply kA)); exact BK524.out) hb); have n4_ := Aside0.mk (blk_below (g := gb525) (o := .cells #[.slice A0_0 l0_0.length c0_0, .int .i64 a0_1, .int .i64 a0_2, .int .i64 1] 24 (0, 0)) (by (with_reducible repeat (first | apply kN | apply kD | apply kA)); refine blk_far ?_ NB525_533.out _; (with_reducible repeat (first | apply kN | apply kD | apply kA)); refine blk_far ?_ NB525_533.out _; (with_reducible repeat (first | apply kN | apply kD | apply kA)); refine blk_far ?_ NB525_533.out _; (with_reducible repeat (first | apply kN | apply kD | apply kA)); refine blk_far ?_ NB525_533.out _; (with_reducible repeat (first | apply kN | apply kD | apply kA)); exact BK525.out) hb); have n5_ := Aside0.mk (blk_below (g := gb533) (o := .cells #[.slice Ao34 t526.length co34, .int .i64 t529, .int .i64 t530, .int .i64 t531] 24 (0, 0)) (by (with_reducible repeat (first | apply kN | apply kD | apply kA)); refine blk_put (cs := #[.slice Ao34 t526.length co34, .int .i64 t529, .int .i64 t530, .int .i64 0]) ?_ 3 _ rfl; (with_reducible repeat (first | apply kN | apply kD | apply kA)); refine blk_put (cs := #[.slice Ao34 t526.length co34, .int .i64 t529, .int .i64 0, .int .i64 0]) ?_ 2 _ rfl; (with_reducible repeat (first | apply kN | apply kD | apply kA)); refine blk_put (cs := #[.slice Ao34 t526.length co34, .int .i64 0, .int .i64 0, .int .i64 0]) ?_ 1 _ rfl; (with_reducible repeat (first | apply kN | apply kD | apply kA)); refine blk_put (cs := #[.slice none 0 0, .int .i64 0, .int .i64 0, .int .i64 0]) ?_ 0 _ rfl; (with_reducible repeat (first | apply kN | apply kD | apply kA)); exact BK533.out) hb); have n6_ := Aside0.mk (below_step (by repeat (first | (with_reducible first | exact HB.out | apply bA | apply bN | apply bD | refine below_set ?_ GE522.out | refine below_set ?_ GE524.out | refine below_set ?_ GE525.out | refine below_set ?_ GE533.out) | exact HB.out)) hb); clear HO528; clear BK522; clear BK524; clear BK525; clear BK533; clear HB; have HO528 := n0_; have HO536 := n1_; have BK522 := n2_; have BK524 := n3_; have BK525 := n4_; have BK533 := n5_; have HB := n6_; clear n0_ n1_ n2_ n3_ n4_ n5_ n6_; (try clear hb); (try clear hb2); (try clear hk); (try clear hi); (try clear ho0)) | ((with_reducible refine gate_dst (N := 10) rfl ?_); (try (refine gate_guard (by rfl) ?_; dsimp only)); refine box_event ?hg (N := 10) ?hd (cs := #[.slice none 0 0, .int .i64 0, .int .i64 0, .int .i64 0]) (t := 24) ?hr ?_; (case hd => rfl); (case hg => rfl); (case hr => first | (go_simp; done) | (go_simp; rfl)); intro gb541 hg w41 hbox hb; have n0_ := Aside0.mk (Kd.R_below (by (with_reducible repeat (first | apply Kd.R_alloc | apply Kd.R_drewN | apply Kd.R_drew)); exact HO528.out) hb); have n1_ := Aside0.mk (Kd.R_below (by (with_reducible repeat (first | apply Kd.R_alloc | apply Kd.R_drewN | apply Kd.R_drew)); exact HO536.out) hb); have n2_ := Aside0.mk (blk_below BK522.out hb); have n3_ := Aside0.mk (blk_below BK524.out hb); have n4_ := Aside0.mk (blk_below BK525.out hb); have n5_ := Aside0.mk (blk_below BK533.out hb); have n6_ := Aside0.mk (below_step (by repeat (first | (with_reducible first | exact HB.out | apply bA | apply bN | apply bD | refine below_set ?_ GE522.out | refine below_set ?_ GE524.out | refine below_set ?_ GE525.out | refine below_set ?_ GE533.out) | exact HB.out)) hb); have n7_ := Aside0.mk (hbox); have n8_ := Aside0.mk ((by rw [hg]; exact (below_size (by repeat (first | (with_reducible first | exact HB.out | apply bA | apply bN | apply bD | refine below_set ?_ GE522.out | refine below_set ?_ GE524.out | refine below_set ?_ GE525.out | refine below_set ?_ GE533.out) | exact HB.out))) : w.heap.size ≤ gb541)); have n9_ := Aside0.mk ((by rw [hg]; exact (below_size (by repeat (first | (with_reducible first | exact HB.out | apply bA | apply bN | apply bD | refine below_set ?_ GE522.out | refine below_set ?_ GE524.out | refine below_set ?_ GE525.out | refine below_set ?_ GE533.out) | exact HB.out))) : w.heap.size ≤ gb541)); have n10_ := Aside0.mk ((by rw [hg]; exact Nat.ne_of_lt (blk_lt BK522.out) : gb522 ≠ gb541)); have n11_ := Aside0.mk ((by rw [hg]; exact Nat.ne_of_gt (blk_lt BK522.out) : gb541 ≠ gb522)); have n12_ := Aside0.mk ((by rw [hg]; exact Nat.ne_of_lt (blk_lt BK524.out) : gb524 ≠ gb541)); have n13_ := Aside0.mk ((by rw [hg]; exact Nat.ne_of_gt (blk_lt BK524.out) : gb541 ≠ gb524)); have n14_ := Aside0.mk ((by rw [hg]; exact Nat.ne_of_lt (blk_lt BK525.out) : gb525 ≠ gb541)); have n15_ := Aside0.mk ((by rw [hg]; exact Nat.ne_of_gt (blk_lt BK525.out) : gb541 ≠ gb525)); have n16_ := Aside0.mk ((by rw [hg]; exact Nat.ne_of_lt (blk_lt BK533.out) : gb533 ≠ gb541)); have n17_ := Aside0.mk ((by rw [hg]; exact Nat.ne_of_gt (blk_lt BK533.out) : gb541 ≠ gb533)); clear HO528; clear HO536; clear BK522; clear BK524; clear BK525; clear BK533; clear HB; have HO528 := n0_; have HO536 := n1_; have BK522 := n2_; have BK524 := n3_; have BK525 := n4_; have BK533 := n5_; have HB := n6_; have BK541 := n7_; have GW541 := n8_; have GE541 := n9_; have NB522_541 := n10_; have NB541_522 := n11_; have NB524_541 := n12_; have NB541_524 := n13_; have NB525_541 := n14_; have NB541_525 := n15_; have NB533_541 := n16_; have NB541_533 := n17_; clear n0_ n1_ n2_ n3_ n4_ n5_ n6_ n7_ n8_ n9_ n10_ n11_ n12_ n13_ n14_ n15_ n16_ n17_; clear hb hbox hg; obtain ⟨Ao42, co42, eo42⟩ := Kd.R_slice HO536.out; subst eo42; have hnb43 := NB541_522.out; have hnc43 := NB522_541.out; have hnb44 := NB541_524.out; have hnc44 := NB524_541.out; have hnb45 := NB541_525.out; have hnc45 := NB525_541.out; have hnb46 := NB541_533.out; have hnc46 := NB533_541.out; obtain ⟨hcz47_0, hcz47_1, hcz47_2, hcz47_3, hfz47_0, hfz47_1, hfz47_2, hfz47_3⟩ := cells4 (w := w41) (g := gb541) BK541.out))
          have n0_ : Aside0 (Kd.R (Kd.int .i64) 3 ((((w41.setCell ⟨gb541, 0, none⟩ (.slice Ao42 t534.length co42)).setCell ⟨gb541, 1, none⟩ (.int .i64 t537)).setCell ⟨gb541, 2, none⟩ (.int .i64 t538)).setCell ⟨gb541, 3, none⟩ (.int .i64 t539)) w.heap.size (fun k_ => some k_ ≠ (.slice Ao42 t534.length co42 : Value).ownBlock) (.slice Ao34 t526.length co34) t526) := ⟨by (with_reducible repeat (first | apply Kd.R_alloc | apply Kd.R_drewN | apply Kd.R_drew)); exact Kd.R_mono (Kd.R_far (p := ⟨gb541, 3, none⟩) (Kd.R_far (p := ⟨gb541, 2, none⟩) (Kd.R_far (p := ⟨gb541, 1, none⟩) (Kd.R_far (p := ⟨gb541, 0, none⟩) (Kd.R_types HO528.out BK541.out (by decide)) (fun _ hk => hk.2) (.slice Ao42 t534.length co42)) (fun _ hk => hk.2) (.int .i64 t537)) (fun _ hk => hk.2) (.int .i64 t538)) (fun _ hk => hk.2) (.int .i64 t539)) (fun _ hk => hk.1.2)⟩
          have n1_ : Aside0 (Kd.R (Kd.int .i64) 3 ((((w41.setCell ⟨gb541, 0, none⟩ (.slice Ao42 t534.length co42)).setCell ⟨gb541, 1, none⟩ (.int .i64 t537)).setCell ⟨gb541, 2, none⟩ (.int .i64 t538)).setCell ⟨gb541, 3, none⟩ (.int .i64 t539)) w.heap.size (fun k_ => some k_ ≠ (.slice Ao34 t526.length co34 : Value).ownBlock) (.slice Ao42 t534.length co42) t534) := ⟨by (with_reducible repeat (first | apply Kd.R_alloc | apply Kd.R_drewN | apply Kd.R_drew)); exact Kd.R_mono (Kd.R_far (p := ⟨gb541, 3, none⟩) (Kd.R_far (p := ⟨gb541, 2, none⟩) (Kd.R_far (p := ⟨gb541, 1, none⟩) (Kd.R_far (p := ⟨gb541, 0, none⟩) (Kd.R_types HO536.out BK541.out (by decide)) (fun _ hk => hk.2) (.slice Ao42 t534.length co42)) (fun _ hk => hk.2) (.int .i64 t537)) (fun _ hk => hk.2) (.int .i64 t538)) (fun _ hk => hk.2) (.int .i64 t539)) (fun _ hk => hk.1.2)⟩
          have n2_ : Aside0 (((((w41.setCell ⟨gb541, 0, none⟩ (.slice Ao42 t534.length co42)).setCell ⟨gb541, 1, none⟩ (.int .i64 t537)).setCell ⟨gb541, 2, none⟩ (.int .i64 t538)).setCell ⟨gb541, 3, none⟩ (.int .i64 t539)).heap[gb522]? = some (.cells #[.slice A0_0 l0_0.length c0_0, .int .i64 a0_1, .int .i64 a0_2, .int .i64 a0_3] 24 (0, 0))) := ⟨by (with_reducible repeat (first | apply kN | apply kD | apply kA)); refine blk_far ?_ NB522_541.out _; (with_reducible repeat (first | apply kN | apply kD | apply kA)); refine blk_far ?_ NB522_541.out _; (with_reducible repeat (first | apply kN | apply kD | apply kA)); refine blk_far ?_ NB522_541.out _; (with_reducible repeat (first | apply kN | apply kD | apply kA)); refine blk_far ?_ NB522_541.out _; (with_reducible repeat (first | apply kN | apply kD | apply kA)); exact BK522.out⟩
          have n3_ : Aside0 (((((w41.setCell ⟨gb541, 0, none⟩ (.slice Ao42 t534.length co42)).setCell ⟨gb541, 1, none⟩ (.int .i64 t537)).setCell ⟨gb541, 2, none⟩ (.int .i64 t538)).setCell ⟨gb541, 3, none⟩ (.int .i64 t539)).heap[gb524]? = some (.cells #[.slice A0_0 l0_0.length c0_0, .int .i64 a0_1, .int .i64 a0_2, .int .i64 2] 24 (0, 0))) := ⟨by (with_reducible repeat (first | apply kN | apply kD | apply kA)); refine blk_far ?_ NB524_541.out _; (with_reducible repeat (first | apply kN | apply kD | apply kA)); refine blk_far ?_ NB524_541.out _; (with_reducible repeat (first | apply kN | apply kD | apply kA)); refine blk_far ?_ NB524_541.out _; (with_reducible repeat (first | apply kN | apply kD | apply kA)); refine blk_far ?_ NB524_541.out _; (with_reducible repeat (first | apply kN | apply kD | apply kA)); exact BK524.out⟩
          have n4_ : Aside0 (((((w41.setCell ⟨gb541, 0, none⟩ (.slice Ao42 t534.length co42)).setCell ⟨gb541, 1, none⟩ (.int .i64 t537)).setCell ⟨gb541, 2, none⟩ (.int .i64 t538)).setCell ⟨gb541, 3, none⟩ (.int .i64 t539)).heap[gb525]? = some (.cells #[.slice A0_0 l0_0.length c0_0, .int .i64 a0_1, .int .i64 a0_2, .int .i64 1] 24 (0, 0))) := ⟨by (with_reducible repeat (first | apply kN | apply kD | apply kA)); refine blk_far ?_ NB525_541.out _; (with_reducible repeat (first | apply kN | apply kD | apply kA)); refine blk_far ?_ NB525_541.out _; (with_reducible repeat (first | apply kN | apply kD | apply kA)); refine blk_far ?_ NB525_541.out _; (with_reducible repeat (first | apply kN | apply kD | apply kA)); refine blk_far ?_ NB525_541.out _; (with_reducible repeat (first | apply kN | apply kD | apply kA)); exact BK525.out⟩
          have n5_ : Aside0 (((((w41.setCell ⟨gb541, 0, none⟩ (.slice Ao42 t534.length co42)).setCell ⟨gb541, 1, none⟩ (.int .i64 t537)).setCell ⟨gb541, 2, none⟩ (.int .i64 t538)).setCell ⟨gb541, 3, none⟩ (.int .i64 t539)).heap[gb533]? = some (.cells #[.slice Ao34 t526.length co34, .int .i64 t529, .int .i64 t530, .int .i64 t531] 24 (0, 0))) := ⟨by (with_reducible repeat (first | apply kN | apply kD | apply kA)); refine blk_far ?_ NB533_541.out _; (with_reducible repeat (first | apply kN | apply kD | apply kA)); refine blk_far ?_ NB533_541.out _; (with_reducible repeat (first | apply kN | apply kD | apply kA)); refine blk_far ?_ NB533_541.out _; (with_reducible repeat (first | apply kN | apply kD | apply kA)); refine blk_far ?_ NB533_541.out _; (with_reducible repeat (first | apply kN | apply kD | apply kA)); exact BK533.out⟩
          have n6_ : Aside0 (((((w41.setCell ⟨gb541, 0, none⟩ (.slice Ao42 t534.length co42)).setCell ⟨gb541, 1, none⟩ (.int .i64 t537)).setCell ⟨gb541, 2, none⟩ (.int .i64 t538)).setCell ⟨gb541, 3, none⟩ (.int .i64 t539)).heap[gb541]? = some (.cells #[.slice Ao42 t534.length co42, .int .i64 t537, .int .i64 t538, .int .i64 t539] 24 (0, 0))) := ⟨by (with_reducible repeat (first | apply kN | apply kD | apply kA)); refine blk_put (cs := #[.slice Ao42 t534.length co42, .int .i64 t537, .int .i64 t538, .int .i64 0]) ?_ 3 _ rfl; (with_reducible repeat (first | apply kN | apply kD | apply kA)); refine blk_put (cs := #[.slice Ao42 t534.length co42, .int .i64 t537, .int .i64 0, .int .i64 0]) ?_ 2 _ rfl; (with_reducible repeat (first | apply kN | apply kD | apply kA)); refine blk_put (cs := #[.slice Ao42 t534.length co42, .int .i64 0, .int .i64 0, .int .i64 0]) ?_ 1 _ rfl; (with_reducible repeat (first | apply kN | apply kD | apply kA)); refine blk_put (cs := #[.slice none 0 0, .int .i64 0, .int .i64 0, .int .i64 0]) ?_ 0 _ rfl; (with_reducible repeat (first | apply kN | apply kD | apply kA)); exact BK541.out⟩
          have n7_ : Aside0 (Below w.heap.size w ((((w41.setCell ⟨gb541, 0, none⟩ (.slice Ao42 t534.length co42)).setCell ⟨gb541, 1, none⟩ (.int .i64 t537)).setCell ⟨gb541, 2, none⟩ (.int .i64 t538)).setCell ⟨gb541, 3, none⟩ (.int .i64 t539))) := ⟨by repeat (first | (with_reducible first | exact HB.out | apply bA | apply bN | apply bD | refine below_set ?_ GE522.out | refine below_set ?_ GE524.out | refine below_set ?_ GE525.out | refine below_set ?_ GE533.out | refine below_set ?_ GE541.out) | exact HB.out)⟩
          (try clear HO528)
          (try clear HO536)
          (try clear BK522)
          (try clear BK524)
          (try clear BK525)
          (try clear BK533)
          (try clear BK541)
          (try clear HB)
          generalize ((((w41.setCell ⟨gb541, 0, none⟩ (.slice Ao42 t534.length co42)).setCell ⟨gb541, 1, none⟩ (.int .i64 t537)).setCell ⟨gb541, 2, none⟩ (.int .i64 t538)).setCell ⟨gb541, 3, none⟩ (.int .i64 t539)) = w48 at n0_ n1_ n2_ n3_ n4_ n5_ n6_ n7_ ⊢
          have HO528 := n0_
          have HO536 := n1_
          have BK522 := n2_
          have BK524 := n3_
          have BK525 := n4_
          have BK533 := n5_
          have BK541 := n6_
          have HB := n7_
          clear n0_ n1_ n2_ n3_ n4_ n5_ n6_ n7_
          have n0_ := Aside0.mk (Kd.R_drew HO528.out)
          have n1_ := Aside0.mk (Kd.R_drew HO536.out)
          have n2_ := Aside0.mk (blk_drew BK522.out)
          have n3_ := Aside0.mk (blk_drew BK524.out)
          have n4_ := Aside0.mk (blk_drew BK525.out)
          have n5_ := Aside0.mk (blk_drew BK533.out)
          have n6_ := Aside0.mk (blk_drew BK541.out)
          have n7_ := Aside0.mk (below_drew1 HB.out)
          clear HO528
          clear HO536
          clear BK522
          clear BK524
          clear BK525
          clear BK533
          clear BK541
          clear HB
          have HO528 := n0_
          have HO536 := n1_
          have BK522 := n2_
          have BK524 := n3_
          have BK525 := n4_
          have BK533 := n5_
          have BK541 := n6_
          have HB := n7_
          clear n0_ n1_ n2_ n3_ n4_ n5_ n6_ n7_
          refine start_ (n := 36) (S := fun w' => w'.cell? ⟨gb533, 0, none⟩ = some (.slice Ao34 t526.length co34) ∧ w'.cell? ⟨gb533, 1, none⟩ = some (.int .i64 t529) ∧ w'.cell? ⟨gb533, 2, none⟩ = some (.int .i64 t530) ∧ w'.cell? ⟨gb533, 3, none⟩ = some (.int .i64 t531) ∧ w'.cell? ⟨gb524, 0, none⟩ = some (.slice A0_0 l0_0.length c0_0) ∧ w'.cell? ⟨gb524, 1, none⟩ = some (.int .i64 a0_1) ∧ w'.cell? ⟨gb524, 2, none⟩ = some (.int .i64 a0_2) ∧ w'.cell? ⟨gb524, 3, none⟩ = some (.int .i64 2) ∧ w'.cell? ⟨gb541, 0, none⟩ = some (.slice Ao42 t534.length co42) ∧ w'.cell? ⟨gb541, 1, none⟩ = some (.int .i64 t537) ∧ w'.cell? ⟨gb541, 2, none⟩ = some (.int .i64 t538) ∧ w'.cell? ⟨gb541, 3, none⟩ = some (.int .i64 t539) ∧ w'.cell? ⟨gb522, 0, none⟩ = some (.slice A0_0 l0_0.length c0_0) ∧ w'.cell? ⟨gb522, 1, none⟩ = some (.int .i64 a0_1) ∧ w'.cell? ⟨gb522, 2, none⟩ = some (.int .i64 a0_2) ∧ w'.cell? ⟨gb522, 3, none⟩ = some (.int .i64 a0_3)) (ds := []) #[false, false, false, false, false, false, false, false, false, false, false, false, false, false, false, false, false, false, false, false, false, false, false, false, false, false, false, false, false, false, false, false, false, false, false, false] (by kernel_rfl) rfl rfl ⟨(blk_cell BK533.out 0).trans rfl, (blk_cell BK533.out 1).trans rfl, (blk_cell BK533.out 2).trans rfl, (blk_cell BK533.out 3).trans rfl, (blk_cell BK524.out 0).trans rfl, (blk_cell BK524.out 1).trans rfl, (blk_cell BK524.out 2).trans rfl, (blk_cell BK524.out 3).trans rfl, (blk_cell BK541.out 0).trans rfl, (blk_cell BK541.out 1).trans rfl, (blk_cell BK541.out 2).trans rfl, (blk_cell BK541.out 3).trans rfl, (blk_cell BK522.out 0).trans rfl, (blk_cell BK522.out 1).trans rfl, (blk_cell BK522.out 2).trans rfl, (blk_cell BK522.out 3).trans rfl⟩ (fun hHeld => ?_); refine with_tabW sakialaw03_FifoEnds.tab10 sakialaw03_FifoEnds.bits10 (fun HT_ HW_ => ?_)
          generalize w48.drew = w49 at HO528 HO536 BK522 BK524 BK525 BK533 BK541 HB hHeld ⊢
          refine pure_ (i := 0) (N := some 39) (v := ?_) (a' := ?_) #[true, false, false, false, false, false, false, false, false, false, false, false, false, false, false, false, false, false, false, false, false, false, false, false, false, false, false, false, false, false, false, false, false, false, false, false] rfl rfl (any_of HT_.out (by kernel_rfl)) (fun _ _ _ h => h) (Or.inl ⟨by rfl, ?_⟩) ?_ ?_
          rotate_left
          ·intro w'
           go_simp
           with_reducible rfl
          rotate_left
          ·simp only [Act.put, List.setIfInBounds_toArray, List.set_cons_zero, List.set_cons_succ, i64_w, i32_w]
           rfl
          refine pure_ (i := 1) (N := some 40) (v := ?_) (a' := ?_) #[true, true, false, false, false, false, false, false, false, false, false, false, false, false, false, false, false, false, false, false, false, false, false, false, false, false, false, false, false, false, false, false, false, false, false, false] rfl rfl (any_of HT_.out (by kernel_rfl)) (fun _ _ _ h => h) (Or.inl ⟨by rfl, ?_⟩) ?_ ?_
          rotate_left
          ·intro w'
           go_simp
           with_reducible rfl
          rotate_left
          ·simp only [Act.put, List.setIfInBounds_toArray, List.set_cons_zero, List.set_cons_succ, i64_w, i32_w]
           rfl
          refine take_ (i := 2) (N := some 41) (v := ?_) (a' := ?_) #[true, true, true, false, false, false, false, false, false, false, false, false, false, false, false, false, false, false, false, false, false, false, false, false, false, false, false, false, false, false, false, false, false, false, false, false] rfl rfl (take_ofW HT_.out HW_.out (by kernel_rfl)) (fun _ _ _ h => h) (Or.inl ⟨by rfl, ?_⟩) hHeld ?_ ?_
          rotate_left
          ·rintro w' ⟨s0, s1, s2, s3, s4, s5, s6, s7, s8, s9, s10, s11, s12, s13, s14, s15⟩
           go_simp
           with_reducible rfl
          rotate_left
          ·simp only [Act.put, List.setIfInBounds_toArray, List.set_cons_zero, List.set_cons_succ, i64_w, i32_w]
           rfl
          refine take_ (i := 3) (N := some 42) (v := ?_) (a' := ?_) #[true, true, true, true, false, false, false, false, false, false, false, false, false, false, false, false, false, false, false, false, false, false, false, false, false, false, false, false, false, false, false, false, false, false, false, false] rfl rfl (take_ofW HT_.out HW_.out (by kernel_rfl)) (fun _ _ _ h => h) (Or.inl ⟨by rfl, ?_⟩) hHeld ?_ ?_
          rotate_left
          ·rintro w' ⟨s0, s1, s2, s3, s4, s5, s6, s7, s8, s9, s10, s11, s12, s13, s14, s15⟩
           go_simp
           with_reducible rfl
          rotate_left
          ·simp only [Act.put, List.setIfInBounds_toArray, List.set_cons_zero, List.set_cons_succ, i64_w, i32_w]
           rfl
          refine one_ (i := 4) (N := some 43) #[true, true, true, true, true, false, false, false, false, false, false, false, false, false, false, false, false, false, false, false, false, false, false, false, false, false, false, false, false, false, false, false, false, false, false, false] rfl rfl (one_of HT_.out (by kernel_rfl)) (by decide) (fun K hK => ?_)
          refine goes_ Try.func18 (by kernel_rfl) rfl #[.agg #[.slice Ao34 t526.length co34, .int .i64 t529, .int .i64 t530, .int .i64 t531], .agg #[.slice A0_0 l0_0.length c0_0, .int .i64 a0_1, .int .i64 a0_2, .int .i64 2]] (by rfl) rfl rfl (by (try simp only [List.map_toArray, List.map_cons, List.map_nil]); first | done | rfl | (simp only [List.length_drop, List.length_take]; rfl)) ?_
          with_reducible refine (sakiaref03_Same.calls kj3 _ _ t526 t529 t530 t531 _ _ l0_0 a0_1 a0_2 2 true _ ?side1 ?side2 ?side3 ?side4 A14.out).mono ?_
          (case side1 => repeat (first | exact (Kd.R_reads' HO528.out).2.2 | (with_reducible refine Kd.C_alloc ?_ _) | (with_reducible refine Kd.C_drewN ?_ _) | (with_reducible refine Kd.C_drew ?_)))
          (case side2 => exact (Kd.R_reads' HO528.out).2.1)
          (case side3 => repeat (first | exact (Kd.C_below HR0_0.out HB.out) | (with_reducible refine Kd.C_alloc ?_ _) | (with_reducible refine Kd.C_drewN ?_ _) | (with_reducible refine Kd.C_drew ?_)))
          (case side4 => exact HC0_0.out)
          rintro e w50 ⟨rfl, hb⟩
          refine ⟨_, rfl, ?_⟩
          have n0_ := Aside0.mk (Kd.R_below (by (with_reducible repeat (first | apply Kd.R_alloc | apply Kd.R_drewN | apply Kd.R_drew)); exact HO528.out) hb)
          have n1_ := Aside0.mk (Kd.R_below (by (with_reducible repeat (first | apply Kd.R_alloc | apply Kd.R_drewN | apply Kd.R_drew)); exact HO536.out) hb)
          have n2_ := Aside0.mk (blk_below BK522.out hb)
          have n3_ := Aside0.mk (blk_below BK524.out hb)
          have n4_ := Aside0.mk (blk_below BK525.out hb)
          have n5_ := Aside0.mk (blk_below BK533.out hb)
          have n6_ := Aside0.mk (blk_below BK541.out hb)
          have n7_ := Aside0.mk (below_step (by repeat (first | (with_reducible first | exact HB.out | apply bA | apply bN | apply bD | refine below_set ?_ GE522.out | refine below_set ?_ GE524.out | refine below_set ?_ GE525.out | refine below_set ?_ GE533.out | refine below_set ?_ GE541.out) | exact HB.out)) hb)
          clear HO528
          clear HO536
          clear BK522
          clear BK524
          clear BK525
          clear BK533
          clear BK541
          clear HB
          have HO528 := n0_
          have HO536 := n1_
          have BK522 := n2_
          have BK524 := n3_
          have BK525 := n4_
          have BK533 := n5_
          have BK541 := n6_
          have HB := n7_
          clear n0_ n1_ n2_ n3_ n4_ n5_ n6_ n7_
          (try clear hb)
          (try clear hb2)
          (try clear hk)
          (try clear hi)
          obtain ⟨i051, hi051, _, hsz51, _⟩ := info_parts info3
          obtain ⟨A51, hcut51, hA51, hC51⟩ := print_drop_of (P := Try.prog) (Value.int .i64) 0 22 3 .i64 Try.underlying22 hi051 hsz51 A0_0 c0_0 l0_0 (ji18) (of_decide_eq_true (by first | (with_reducible assumption) | assumption)) (of_decide_eq_true (by first | (with_reducible assumption) | assumption)) HC0_0.out
          have HR543 := Aside0.mk (Kd.C_of_reads (h1 := fun _ => rfl) (hA51 _ (Kd.reads_of_C HR0_0.out)))
          have HC543 := Aside0.mk hC51
          clear hA51 hC51 hi051 hsz51
          refine hK.out _ _ ⟨(blk_cell BK533.out 0).trans rfl, (blk_cell BK533.out 1).trans rfl, (blk_cell BK533.out 2).trans rfl, (blk_cell BK533.out 3).trans rfl, (blk_cell BK524.out 0).trans rfl, (blk_cell BK524.out 1).trans rfl, (blk_cell BK524.out 2).trans rfl, (blk_cell BK524.out 3).trans rfl, (blk_cell BK541.out 0).trans rfl, (blk_cell BK541.out 1).trans rfl, (blk_cell BK541.out 2).trans rfl, (blk_cell BK541.out 3).trans rfl, (blk_cell BK522.out 0).trans rfl, (blk_cell BK522.out 1).trans rfl, (blk_cell BK522.out 2).trans rfl, (blk_cell BK522.out 3).trans rfl⟩ (fun hHeld => ?_)
          clear hK K
          refine norm_ (a' := ?_) ?_ ?_
          rotate_left
          ·show Act.put _ (some 43) _ = _
           simp only [Act.put, List.setIfInBounds_toArray, List.set_cons_zero, List.set_cons_succ, i64_w, i32_w]
           rfl
          refine pure_ (i := 5) (N := some 44) (v := ?_) (a' := ?_) #[true, true, true, true, true, true, false, false, false, false, false, false, false, false, false, false, false, false, false, false, false, false, false, false, false, false, false, false, false, false, false, false, false, false, false, false] rfl rfl (any_of HT_.out (by kernel_rfl)) (fun _ _ _ h => h) (Or.inl ⟨by rfl, ?_⟩) ?_ ?_
          rotate_left
          ·intro w'
           go_simp
           with_reducible rfl
          rotate_left
          ·simp only [Act.put, List.setIfInBounds_toArray, List.set_cons_zero, List.set_cons_succ, i64_w, i32_w]
           rfl
          refine pure_ (i := 6) (N := some 45) (v := ?_) (a' := ?_) #[true, true, true, true, true, true, true, false, false, false, false, false, false, false, false, false, false, false, false, false, false, false, false, false, false, false, false, false, false, false, false, false, false, false, false, false] rfl rfl (any_of HT_.out (by kernel_rfl)) (fun _ _ _ h => h) (Or.inl ⟨by rfl, ?_⟩) ?_ ?_
          rotate_left
          ·intro w'
           go_simp
           with_reducible rfl
          rotate_left
          ·simp only [Act.put, List.setIfInBounds_toArray, List.set_cons_zero, List.set_cons_succ, i64_w, i32_w]
           rfl
          refine pure_ (i := 7) (N := some 46) (v := ?_) (a' := ?_) #[true, true, true, true, true, true, true, true, false, false, false, false, false, false, false, false, false, false, false, false, false, false, false, false, false, false, false, false, false, false, false, false, false, false, false, false] rfl rfl (any_of HT_.out (by kernel_rfl)) (fun _ _ _ h => h) (Or.inl ⟨by rfl, ?_⟩) ?_ ?_
          rotate_left
          ·intro w'
           go_simp
           with_reducible rfl
          rotate_left
          ·simp only [Act.put, List.setIfInBounds_toArray, List.set_cons_zero, List.set_cons_succ, i64_w, i32_w]
           rfl
          refine pure_ (i := 10) (N := some 49) (v := ?_) (a' := ?_) #[true, true, true, true, true, true, true, true, false, false, true, false, false, false, false, false, false, false, false, false, false, false, false, false, false, false, false, false, false, false, false, false, false, false, false, false] rfl rfl (any_of HT_.out (by kernel_rfl)) (fun _ _ _ h => h) (Or.inl ⟨by rfl, ?_⟩) ?_ ?_
          rotate_left
          ·intro w'
           go_simp
           with_reducible rfl
          rotate_left
          ·simp only [Act.put, List.setIfInBounds_toArray, List.set_cons_zero, List.set_cons_succ, i64_w, i32_w]
           rfl
          refine take_ (i := 8) (N := some 47) (v := ?_) (a' := ?_) #[true, true, true, true, true, true, true, true, true, false, true, false, false, false, false, false, false, false, false, false, false, false, false, false, false, false, false, false, false, false, false, false, false, false, false, false] rfl rfl (take_ofW HT_.out HW_.out (by kernel_rfl)) (fun _ _ _ h => h) (Or.inl ⟨by rfl, ?_⟩) hHeld ?_ ?_
          rotate_left
          ·rintro w' ⟨s0, s1, s2, s3, s4, s5, s6, s7, s8, s9, s10, s11, s12, s13, s14, s15⟩
           go_simp
           with_reducible rfl
          rotate_left
          ·simp only [Act.put, List.setIfInBounds_toArray, List.set_cons_zero, List.set_cons_succ, i64_w, i32_w]
           rfl
          refine pure_ (i := 9) (N := some 48) (v := ?_) (a' := ?_) #[true, true, true, true, true, true, true, true, true, true, true, false, false, false, false, false, false, false, false, false, false, false, false, false, false, false, false, false, false, false, false, false, false, false, false, false] rfl rfl (any_of HT_.out (by kernel_rfl)) (fun _ _ _ h => h) (Or.inl ⟨by rfl, ?_⟩) ?_ ?_
          rotate_left
          ·intro w'
           go_simp
           with_reducible rfl
          rotate_left
          ·simp only [Act.put, List.setIfInBounds_toArray, List.set_cons_zero, List.set_cons_succ, i64_w, i32_w]
           rfl
          refine take_ (i := 11) (N := some 50) (v := ?_) (a' := ?_) #[true, true, true, true, true, true, true, true, true, true, true, true, false, false, false, false, false, false, false, false, false, false, false, false, false, false, false, false, false, false, false, false, false, false, false, false] rfl rfl (take_ofW HT_.out HW_.out (by kernel_rfl)) (fun _ _ _ h => h) (Or.inl ⟨by rfl, ?_⟩) hHeld ?_ ?_
          rotate_left
          ·rintro w' ⟨s0, s1, s2, s3, s4, s5, s6, s7, s8, s9, s10, s11, s12, s13, s14, s15⟩
           go_simp
           with_reducible rfl
          rotate_left
          ·simp only [Act.put, List.setIfInBounds_toArray, List.set_cons_zero, List.set_cons_succ, i64_w, i32_w]
           rfl
          refine pure_ (i := 12) (N := some 51) (v := ?_) (a' := ?_) #[true, true, true, true, true, true, true, true, true, true, true, true, true, false, false, false, false, false, false, false, false, false, false, false, false, false, false, false, false, false, false, false, false, false, false, false] rfl rfl (any_of HT_.out (by kernel_rfl)) (fun _ _ _ h => h) (Or.inl ⟨by rfl, ?_⟩) ?_ ?_
          rotate_left
          ·intro w'
           go_simp
           with_reducible rfl
          rotate_left
          ·simp only [Act.put, List.setIfInBounds_toArray, List.set_cons_zero, List.set_cons_succ, i64_w, i32_w]
           rfl
          refine pure_ (i := 13) (N := some 52) (v := ?_) (a' := ?_) #[true, true, true, true, true, true, true, true, true, true, true, true, true, true, false, false, false, false, false, false, false, false, false, false, false, false, false, false, false, false, false, false, false, false, false, false] rfl rfl (any_of HT_.out (by kernel_rfl)) (fun _ _ _ h => h) (Or.inl ⟨by rfl, ?_⟩) ?_ ?_
          rotate_left
          ·intro w'
           go_simp
           with_reducible rfl
          rotate_left
          ·simp only [Act.put, List.setIfInBounds_toArray, List.set_cons_zero, List.set_cons_succ, i64_w, i32_w]
           rfl
          refine pure_ (i := 14) (N := some 53) (v := ?_) (a' := ?_) #[true, true, true, true, true, true, true, true, true, true, true, true, true, true, true, false, false, false, false, false, false, false, false, false, false, false, false, false, false, false, false, false, false, false, false, false] rfl rfl (any_of HT_.out (by kernel_rfl)) (fun _ _ _ h => h) (Or.inl ⟨by rfl, ?_⟩) ?_ ?_
          rotate_left
          ·intro w'
           go_simp
           with_reducible rfl
          rotate_left
          ·simp only [Act.put, List.setIfInBounds_toArray, List.set_cons_zero, List.set_cons_succ, i64_w, i32_w]
           rfl
          refine pure_ (i := 15) (N := some 54) (v := ?_) (a' := ?_) #[true, true, true, true, true, true, true, true, true, true, true, true, true, true, true, true, false, false, false, false, false, false, false, false, false, false, false, false, false, false, false, false, false, false, false, false] rfl rfl (any_of HT_.out (by kernel_rfl)) (fun _ _ _ h => h) (Or.inl ⟨by rfl, ?_⟩) ?_ ?_
          rotate_left
          ·intro w'
           go_simp
           with_reducible rfl
          rotate_left
          ·simp only [Act.put, List.setIfInBounds_toArray, List.set_cons_zero, List.set_cons_succ, i64_w, i32_w]
           rfl
          refine pure_ (i := 16) (N := some 55) (v := ?_) (a' := ?_) #[true, true, true, true, true, true, true, true, true, true, true, true, true, true, true, true, true, false, false, false, false, false, false, false, false, false, false, false, false, false, false, false, false, false, false, false] rfl rfl (any_of HT_.out (by kernel_rfl)) (fun _ _ _ h => h) (Or.inl ⟨by rfl, ?_⟩) ?_ ?_
          rotate_left
          ·intro w'
           go_simp
           with_reducible rfl
          rotate_left
          ·simp only [Act.put, List.setIfInBounds_toArray, List.set_cons_zero, List.set_cons_succ, i64_w, i32_w]
           rfl
          refine take_ (i := 17) (N := some 56) (v := ?_) (a' := ?_) #[true, true, true, true, true, true, true, true, true, true, true, true, true, true, true, true, true, true, false, false, false, false, false, false, false, false, false, false, false, false, false, false, false, false, false, false] rfl rfl (take_ofW HT_.out HW_.out (by kernel_rfl)) (fun _ _ _ h => h) (Or.inl ⟨by rfl, ?_⟩) hHeld ?_ ?_
          rotate_left
          ·rintro w' ⟨s0, s1, s2, s3, s4, s5, s6, s7, s8, s9, s10, s11, s12, s13, s14, s15⟩
           go_simp
           with_reducible rfl
          rotate_left
          ·simp only [Act.put, List.setIfInBounds_toArray, List.set_cons_zero, List.set_cons_succ, i64_w, i32_w]
           rfl
          refine pure_ (i := 18) (N := some 57) (v := ?_) (a' := ?_) #[true, true, true, true, true, true, true, true, true, true, true, true, true, true, true, true, true, true, true, false, false, false, false, false, false, false, false, false, false, false, false, false, false, false, false, false] rfl rfl (any_of HT_.out (by kernel_rfl)) (fun _ _ _ h => h) (Or.inl ⟨by rfl, ?_⟩) ?_ ?_
          rotate_left
          ·intro w'
           go_simp
           with_reducible rfl
          rotate_left
          ·simp only [Act.put, List.setIfInBounds_toArray, List.set_cons_zero, List.set_cons_succ, i64_w, i32_w]
           rfl
          refine pure_ (i := 19) (N := some 58) (v := ?_) (a' := ?_) #[true, true, true, true, true, true, true, true, true, true, true, true, true, true, true, true, true, true, true, true, false, false, false, false, false, false, false, false, false, false, false, false, false, false, false, false] rfl rfl (any_of HT_.out (by kernel_rfl)) (fun _ _ _ h => h) (Or.inl ⟨by rfl, ?_⟩) ?_ ?_
          rotate_left
          ·intro w'
           go_simp
           with_reducible rfl
          rotate_left
          ·simp only [Act.put, List.setIfInBounds_toArray, List.set_cons_zero, List.set_cons_succ, i64_w, i32_w]
           rfl
          refine pure_ (i := 20) (N := some 59) (v := ?_) (a' := ?_) #[true, true, true, true, true, true, true, true, true, true, true, true, true, true, true, true, true, true, true, true, true, false, false, false, false, false, false, false, false, false, false, false, false, false, false, false] rfl rfl (any_of HT_.out (by kernel_rfl)) (fun _ _ _ h => h) (Or.inl ⟨by rfl, ?_⟩) ?_ ?_
          rotate_left
          ·intro w'
           go_simp
           with_reducible rfl
          rotate_left
          ·simp only [Act.put, List.setIfInBounds_toArray, List.set_cons_zero, List.set_cons_succ, i64_w, i32_w]
           rfl
          refine pure_ (i := 21) (N := some 60) (v := ?_) (a' := ?_) #[true, true, true, true, true, true, true, true, true, true, true, true, true, true, true, true, true, true, true, true, true, true, false, false, false, false, false, false, false, false, false, false, false, false, false, false] rfl rfl (any_of HT_.out (by kernel_rfl)) (fun _ _ _ h => h) (Or.inl ⟨by rfl, ?_⟩) ?_ ?_
          rotate_left
          ·intro w'
           go_simp
           with_reducible rfl
          rotate_left
          ·simp only [Act.put, List.setIfInBounds_toArray, List.set_cons_zero, List.set_cons_succ, i64_w, i32_w]
           rfl
          refine pure_ (i := 23) (N := some 62) (v := ?_) (a' := ?_) #[true, true, true, true, true, true, true, true, true, true, true, true, true, true, true, true, true, true, true, true, true, true, false, true, false, false, false, false, false, false, false, false, false, false, false, false] rfl rfl (any_of HT_.out (by kernel_rfl)) (fun _ _ _ h => h) (Or.inl ⟨by rfl, ?_⟩) ?_ ?_
          rotate_left
          ·intro w'
           go_simp
           with_reducible rfl
          rotate_left
          ·simp only [Act.put, List.setIfInBounds_toArray, List.set_cons_zero, List.set_cons_succ, i64_w, i32_w]
           rfl
          refine pure_ (i := 25) (N := some 64) (v := ?_) (a' := ?_) #[true, true, true, true, true, true, true, true, true, true, true, true, true, true, true, true, true, true, true, true, true, true, false, true, false, true, false, false, false, false, false, false, false, false, false, false] rfl rfl (any_of HT_.out (by kernel_rfl)) (fun _ _ _ h => h) (Or.inl ⟨by rfl, ?_⟩) ?_ ?_
          rotate_left
          ·intro w'
           go_simp
           with_reducible rfl
          rotate_left
          ·simp only [Act.put, List.setIfInBounds_toArray, List.set_cons_zero, List.set_cons_succ, i64_w, i32_w]
           rfl
          refine pure_ (i := 28) (N := some 67) (v := ?_) (a' := ?_) #[true, true, true, true, true, true, true, true, true, true, true, true, true, true, true, true, true, true, true, true, true, true, false, true, false, true, false, false, true, false, false, false, false, false, false, false] rfl rfl (any_of HT_.out (by kernel_rfl)) (fun _ _ _ h => h) (Or.inl ⟨by rfl, ?_⟩) ?_ ?_
          rotate_left
          ·intro w'
           go_simp
           with_reducible rfl
          rotate_left
          ·simp only [Act.put, List.setIfInBounds_toArray, List.set_cons_zero, List.set_cons_succ, i64_w, i32_w]
           rfl
          refine take_ (i := 22) (N := some 61) (v := ?_) (a' := ?_) #[true, true, true, true, true, true, true, true, true, true, true, true, true, true, true, true, true, true, true, true, true, true, true, true, false, true, false, false, true, false, false, false, false, false, false, false] rfl rfl (take_ofW HT_.out HW_.out (by kernel_rfl)) (fun _ _ _ h => h) (Or.inl ⟨by rfl, ?_⟩) hHeld ?_ ?_
          rotate_left
          ·rintro w' ⟨s0, s1, s2, s3, s4, s5, s6, s7, s8, s9, s10, s11, s12, s13, s14, s15⟩
           go_simp
           with_reducible rfl
          rotate_left
          ·simp only [Act.put, List.setIfInBounds_toArray, List.set_cons_zero, List.set_cons_succ, i64_w, i32_w]
           rfl
          refine take_ (i := 24) (N := some 63) (v := ?_) (a' := ?_) #[true, true, true, true, true, true, true, true, true, true, true, true, true, true, true, true, true, true, true, true, true, true, true, true, true, true, false, false, true, false, false, false, false, false, false, false] rfl rfl (take_ofW HT_.out HW_.out (by kernel_rfl)) (fun _ _ _ h => h) (Or.inl ⟨by rfl, ?_⟩) hHeld ?_ ?_
          rotate_left
          ·rintro w' ⟨s0, s1, s2, s3, s4, s5, s6, s7, s8, s9, s10, s11, s12, s13, s14, s15⟩
           go_simp
           with_reducible rfl
          rotate_left
          ·simp only [Act.put, List.setIfInBounds_toArray, List.set_cons_zero, List.set_cons_succ, i64_w, i32_w]
           rfl
          refine take_ (i := 26) (N := some 65) (v := ?_) (a' := ?_) #[true, true, true, true, true, true, true, true, true, true, true, true, true, true, true, true, true, true, true, true, true, true, true, true, true, true, true, false, true, false, false, false, false, false, false, false] rfl rfl (take_ofW HT_.out HW_.out (by kernel_rfl)) (fun _ _ _ h => h) (Or.inl ⟨by rfl, ?_⟩) hHeld ?_ ?_
          rotate_left
          ·rintro w' ⟨s0, s1, s2, s3, s4, s5, s6, s7, s8, s9, s10, s11, s12, s13, s14, s15⟩
           go_simp
           with_reducible rfl
          rotate_left
          ·simp only [Act.put, List.setIfInBounds_toArray, List.set_cons_zero, List.set_cons_succ, i64_w, i32_w]
           rfl
          refine pure_ (i := 27) (N := some 66) (v := ?_) (a' := ?_) #[true, true, true, true, true, true, true, true, true, true, true, true, true, true, true, true, true, true, true, true, true, true, true, true, true, true, true, true, true, false, false, false, false, false, false, false] rfl rfl (any_of HT_.out (by kernel_rfl)) (fun _ _ _ h => h) (Or.inl ⟨by rfl, ?_⟩) ?_ ?_
          rotate_left
          ·intro w'
           go_simp
           with_reducible rfl
          rotate_left
          ·simp only [Act.put, List.setIfInBounds_toArray, List.set_cons_zero, List.set_cons_succ, i64_w, i32_w]
           rfl
          refine take_ (i := 29) (N := some 68) (v := ?_) (a' := ?_) #[true, true, true, true, true, true, true, true, true, true, true, true, true, true, true, true, true, true, true, true, true, true, true, true, true, true, true, true, true, true, false, false, false, false, false, false] rfl rfl (take_ofW HT_.out HW_.out (by kernel_rfl)) (fun _ _ _ h => h) (Or.inl ⟨by rfl, ?_⟩) hHeld ?_ ?_
          rotate_left
          ·rintro w' ⟨s0, s1, s2, s3, s4, s5, s6, s7, s8, s9, s10, s11, s12, s13, s14, s15⟩
           go_simp
           with_reducible rfl
          rotate_left
          ·simp only [Act.put, List.setIfInBounds_toArray, List.set_cons_zero, List.set_cons_succ, i64_w, i32_w]
           rfl
          refine pure_ (i := 30) (N := some 69) (v := ?_) (a' := ?_) #[true, true, true, true, true, true, true, true, true, true, true, true, true, true, true, true, true, true, true, true, true, true, true, true, true, true, true, true, true, true, true, false, false, false, false, false] rfl rfl (any_of HT_.out (by kernel_rfl)) (fun _ _ _ h => h) (Or.inl ⟨by rfl, ?_⟩) ?_ ?_
          rotate_left
          ·intro w'
           go_simp
           with_reducible rfl
          rotate_left
          ·simp only [Act.put, List.setIfInBounds_toArray, List.set_cons_zero, List.set_cons_succ, i64_w, i32_w]
           rfl
          refine pure_ (i := 31) (N := some 70) (v := ?_) (a' := ?_) #[true, true, true, true, true, true, true, true, true, true, true, true, true, true, true, true, true, true, true, true, true, true, true, true, true, true, true, true, true, true, true, true, false, false, false, false] rfl rfl (any_of HT_.out (by kernel_rfl)) (fun _ _ _ h => h) (Or.inl ⟨by rfl, ?_⟩) ?_ ?_
          rotate_left
          ·intro w'
           go_simp
           with_reducible rfl
          rotate_left
          ·simp only [Act.put, List.setIfInBounds_toArray, List.set_cons_zero, List.set_cons_succ, i64_w, i32_w]
           rfl
          refine pure_ (i := 32) (N := some 71) (v := ?_) (a' := ?_) #[true, true, true, true, true, true, true, true, true, true, true, true, true, true, true, true, true, true, true, true, true, true, true, true, true, true, true, true, true, true, true, true, true, false, false, false] rfl rfl (any_of HT_.out (by kernel_rfl)) (fun _ _ _ h => h) (Or.inl ⟨by rfl, ?_⟩) ?_ ?_
          rotate_left
          ·intro w'
           go_simp
           with_reducible rfl
          rotate_left
          ·simp only [Act.put, List.setIfInBounds_toArray, List.set_cons_zero, List.set_cons_succ, i64_w, i32_w]
           rfl
          refine one_ (i := 33) (N := some 72) #[true, true, true, true, true, true, true, true, true, true, true, true, true, true, true, true, true, true, true, true, true, true, true, true, true, true, true, true, true, true, true, true, true, true, false, false] rfl rfl (one_of HT_.out (by kernel_rfl)) (by decide) (fun K hK => ?_)
          refine goes_ Try.func25 (by kernel_rfl) rfl #[.slice Ao42 t534.length co42, .slice A51 (l0_0.drop ((ji18) : Int).toNat).length (c0_0 - (ji18).toNat)] (by rfl) rfl rfl (by (try simp only [List.map_toArray, List.map_cons, List.map_nil]); first | done | (rw [show (l0_0.drop ((ji18) : Int).toNat).length = (l0_0.length - (ji18).toNat) from List.length_drop] <;> rfl) | (simp only [hji18]; rfl) | rfl | (simp only [List.length_drop, List.length_take]; rfl)) ?_
          with_reducible refine (sakiaref03_Ints.calls kj3 _ _ t534 _ _ (l0_0.drop ((ji18) : Int).toNat) t544 _ ?side1 ?side2 ?side3 ?side4 A21.out).mono ?_
          (case side1 => repeat (first | exact (Kd.R_reads' HO536.out).2.2 | (with_reducible refine Kd.C_alloc ?_ _) | (with_reducible refine Kd.C_drewN ?_ _) | (with_reducible refine Kd.C_drew ?_)))
          (case side2 => exact (Kd.R_reads' HO536.out).2.1)
          (case side3 => repeat (first | exact (Kd.C_below HR543.out HB.out) | (with_reducible refine Kd.C_alloc ?_ _) | (with_reducible refine Kd.C_drewN ?_ _) | (with_reducible refine Kd.C_drew ?_)))
          (case side4 => exact HC543.out)
          rintro e w' ⟨rfl, ⟨nd, rfl⟩⟩
          refine ⟨_, rfl, ?_⟩
          refine hK.out _ _ ⟨(blk_cell BK533.out 0).trans rfl, (blk_cell BK533.out 1).trans rfl, (blk_cell BK533.out 2).trans rfl, (blk_cell BK533.out 3).trans rfl, (blk_cell BK524.out 0).trans rfl, (blk_cell BK524.out 1).trans rfl, (blk_cell BK524.out 2).trans rfl, (blk_cell BK524.out 3).trans rfl, (blk_cell BK541.out 0).trans rfl, (blk_cell BK541.out 1).trans rfl, (blk_cell BK541.out 2).trans rfl, (blk_cell BK541.out 3).trans rfl, (blk_cell BK522.out 0).trans rfl, (blk_cell BK522.out 1).trans rfl, (blk_cell BK522.out 2).trans rfl, (blk_cell BK522.out 3).trans rfl⟩ (fun hHeld => ?_)
          clear hK K
          refine norm_ (a' := ?_) ?_ ?_
          rotate_left
          ·show Act.put _ (some 72) _ = _
           simp only [Act.put, List.setIfInBounds_toArray, List.set_cons_zero, List.set_cons_succ, i64_w, i32_w]
           rfl
          refine pure_ (i := 34) (N := some 73) (v := ?_) (a' := ?_) #[true, true, true, true, true, true, true, true, true, true, true, true, true, true, true, true, true, true, true, true, true, true, true, true, true, true, true, true, true, true, true, true, true, true, true, false] rfl rfl (any_of HT_.out (by kernel_rfl)) (fun _ _ _ h => h) (Or.inl ⟨by rfl, ?_⟩) ?_ ?_
          rotate_left
          ·intro w'
           go_simp
           with_reducible rfl
          rotate_left
          ·simp only [Act.put, List.setIfInBounds_toArray, List.set_cons_zero, List.set_cons_succ, i64_w, i32_w]
           rfl
          refine pure_ (i := 35) (N := some 4) (v := ?_) (a' := ?_) #[true, true, true, true, true, true, true, true, true, true, true, true, true, true, true, true, true, true, true, true, true, true, true, true, true, true, true, true, true, true, true, true, true, true, true, true] rfl rfl (any_of HT_.out (by kernel_rfl)) (fun _ _ _ h => h) (Or.inl ⟨by rfl, ?_⟩) ?_ ?_
          rotate_left
          ·intro w'
           go_simp
           with_reducible rfl
          rotate_left
          ·simp only [Act.put, List.setIfInBounds_toArray, List.set_cons_zero, List.set_cons_succ, i64_w, i32_w]
           rfl
          refine done_ (done_of HT_.out (by kernel_rfl)) ?_
          try go_wp2
          go_ret
          exact ⟨by first | rfl | (simp [errW_none, errW_some] <;> rfl) | (simp only [← hji18]; first | rfl | (simp [errW_none, errW_some] <;> rfl)) | (simp [*, errW_none, errW_some] <;> rfl), by repeat (first | (with_reducible first | exact HB.out | apply bA | apply bN | apply bD | refine below_set ?_ GE522.out | refine below_set ?_ GE524.out | refine below_set ?_ GE525.out | refine below_set ?_ GE533.out | refine below_set ?_ GE541.out) | exact HB.out)⟩
         ·rw [if_neg c20] at H
          exact absurd H (by simp)
        ·rw [if_neg c19] at H
         exact absurd H (by simp)
       ·rw [if_neg c17] at H
        have c17b0 : decide (1 ≤ t539) = false := decide_eq_false c17
        clear c17
        exact absurd ((Option.some.inj H).trans HR_.out) (by decide)
      ·rw [if_neg c16] at H
       have c16b0 : decide ((t534.length : Int) ≤ (l0_0.length : Int)) = false := decide_eq_false c16
       have c16b1 : decide (t534.length ≤ l0_0.length) = false := decide_eq_false (fun h => c16 (Int.ofNat_le.mpr h))
       clear c16
       exact absurd ((Option.some.inj H).trans HR_.out) (by decide)
     ·replace c15 := Bool.eq_false_iff.mpr c15
      subst c15
      have H1 : (some false) = some r := by rw [if_neg (show ¬ (false = true) by decide)] at H; exact H
      clear H
      have H := H1
      clear H1
      exact absurd ((Option.some.inj H).trans HR_.out) (by decide)
    ·replace c13 := Bool.eq_false_iff.mpr c13
     subst c13
     have H1 : (some false) = some r := by rw [if_neg (show ¬ (false = true) by decide)] at H; exact H
     clear H
     have H := H1
     clear H1
     exact absurd ((Option.some.inj H).trans HR_.out) (by decide)

/-- THE ONE PURE STATEMENT of sakialaw03_FifoEnds. -/
def sakialaw03_FifoEnds.Pure : Prop := ∀ (l0_0 : List Int) (a0_1 : Int) (a0_2 : Int) (a0_3 : Int) (l1 : List (S30)), good24 (⟨l0_0, a0_1, a0_2, a0_3⟩ : S24) → l1.length ≤ maxLen → (∀ y ∈ l1, good30 y) → ∃ k, sakialaw03_FifoEnds.f k l0_0 a0_1 a0_2 a0_3 l1 = some true

end Go.Proofs.Ytmilniofdpgbnaa.PL
