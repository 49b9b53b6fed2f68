-- written by this repo's pp.py (the kit's print, turned by wip/patches.py)
import Derived.Test.YtlhaghkepnfajaaPLx0
import Derived.Test.YtlhaghkepnfajaaPLx1
import Derived.Test.YtlhaghkepnfajaaPLx6
import Derived.Test.YtlhaghkepnfajaaPLx7
import Derived.Test.YtlhaghkepnfajaaPLx9
namespace Go.Proofs.Ytlhaghkepnfajaa.PL
open Go.RowKit Go.Proofs.YtlhaghkepnfajaaW.PrintWords Go.Proofs.YtlhaghkepnfajaaW.PrintLast Go.Proofs.YtlhaghkepnfajaaW.PrintMore
attribute [local go_sem] max2_int min2_int max_two min_two max_three min_three max_four min_four   -- for this text's walks alone
set_option linter.unusedVariables false
set_option linter.unusedSimpArgs false

attribute [local go_sem high] eqA32
/-! ### sakialaw12_ThreadEnds: function 11 -/
def sakialaw12_ThreadEnds.j0 : Nat → Int → Bool → Int → Bool → Int → Int → Int → Int → Int → Int → Int → Int → Bool → Int → Int → Int → Int → Int → Int → Int → Int → Int → Int → Bool → Int → Int → Option (Bool)
  | 0, _, _, _, _, _, _, _, _, _, _, _, _, _, _, _, _, _, _, _, _, _, _, _, _, _, _ => none
  | k + 1, x1, x7, x9, x11, x572000, x572001, x572002, x572003, x572004, x572005, x572006, x572007, x572008, x572009, x572010, x586000, x586001, x586002, x586003, x586004, x586005, x586006, x586007, x586008, x586009, x586010 => if x9 = 0 then ((thread_Invoke.f k x586000 x586001 x586002 x586003 x586004 x586005 x586006 x586007 x586008 x586009 x586010 4 0 0).bind fun bt588 => (if x7 = true then (if x586000 = 0 then (if x586009 = x572009 then (if x586010 = x572010 then (if x586001 = x572001 then (if bt588.2.2.2.2.2.2.2.2.2.2.2 = 0 then ((thread_Late.f x586000 x586001 x586002 x586003 x586004 x586005 x586006 x586007 x586008 x586009 x586010 x1).bind fun t601 => (if t601 = true then (some false) else (some x11))) else (some false)) else (some false)) else (some false)) else (some false)) else (some false)) else (some false))) else (if x7 = true then (if (x586000 == x572000 && (x586001 == x572001 && (x586002 == x572002 && (x586003 == x572003 && (x586004 == x572004 && (x586005 == x572005 && (x586006 == x572006 && (x586007 == x572007 && (x586008 == x572008 && (x586009 == x572009 && (x586010 == x572010))))))))))) = true then (some x11) else (some false)) else (some false))
def sakialaw12_ThreadEnds.f (k : Nat) (a0_0 : Int) (a0_1 : Int) (a0_2 : Int) (a0_3 : Int) (a0_4 : Int) (a0_5 : Int) (a0_6 : Int) (a0_7 : Int) (a0_8 : Bool) (a0_9 : Int) (a0_10 : Int) (a1 : Int) (a2 : Int) : Option (Bool) := (sakialaw12_awake.f k).bind fun t572 => ((thread_Done.f a0_0 a0_1 a0_2 a0_3 a0_4 a0_5 a0_6 a0_7 a0_8 a0_9 a0_10).bind fun bt573 => ((thread_Late.f a0_0 a0_1 a0_2 a0_3 a0_4 a0_5 a0_6 a0_7 a0_8 a0_9 a0_10 (mn a1 4611686018427387904)).bind fun t586 => (if t586 = true then ((thread_Late.f a0_0 a0_1 a0_2 a0_3 a0_4 a0_5 a0_6 a0_7 a0_8 a0_9 a0_10 (wrap64 ((mn a1 4611686018427387904) + (wrap64 (a2))))).bind fun t587 => (sakialaw12_ThreadEnds.j0 k a1 t572 bt573.2.2.2.2.2.2.2.2.2.2.2 t587 a0_0 a0_1 a0_2 a0_3 a0_4 a0_5 a0_6 a0_7 a0_8 a0_9 a0_10 bt573.1 bt573.2.1 bt573.2.2.1 bt573.2.2.2.1 bt573.2.2.2.2.1 bt573.2.2.2.2.2.1 bt573.2.2.2.2.2.2.1 bt573.2.2.2.2.2.2.2.1 bt573.2.2.2.2.2.2.2.2.1 bt573.2.2.2.2.2.2.2.2.2.1 bt573.2.2.2.2.2.2.2.2.2.2.1)) else (sakialaw12_ThreadEnds.j0 k a1 t572 bt573.2.2.2.2.2.2.2.2.2.2.2 true a0_0 a0_1 a0_2 a0_3 a0_4 a0_5 a0_6 a0_7 a0_8 a0_9 a0_10 bt573.1 bt573.2.1 bt573.2.2.1 bt573.2.2.2.1 bt573.2.2.2.2.1 bt573.2.2.2.2.2.1 bt573.2.2.2.2.2.2.1 bt573.2.2.2.2.2.2.2.1 bt573.2.2.2.2.2.2.2.2.1 bt573.2.2.2.2.2.2.2.2.2.1 bt573.2.2.2.2.2.2.2.2.2.2.1))))
theorem sakialaw12_ThreadEnds.mono_l : ∀ k, (∀ y0 y1 y2 y3 y4 y5 y6 y7 y8 y9 y10 y11 y12 y13 y14 y15 y16 y17 y18 y19 y20 y21 y22 y23 y24 y25, LeO (sakialaw12_ThreadEnds.j0 k y0 y1 y2 y3 y4 y5 y6 y7 y8 y9 y10 y11 y12 y13 y14 y15 y16 y17 y18 y19 y20 y21 y22 y23 y24 y25) (sakialaw12_ThreadEnds.j0 (k + 1) y0 y1 y2 y3 y4 y5 y6 y7 y8 y9 y10 y11 y12 y13 y14 y15 y16 y17 y18 y19 y20 y21 y22 y23 y24 y25))
  | 0 => fun _ _ _ _ _ _ _ _ _ _ _ _ _ _ _ _ _ _ _ _ _ _ _ _ _ _ r h => by simp [sakialaw12_ThreadEnds.j0] at h
  | k + 1 => by
    have ih0 := sakialaw12_ThreadEnds.mono_l k
    · intro y0 y1 y2 y3 y4 y5 y6 y7 y8 y9 y10 y11 y12 y13 y14 y15 y16 y17 y18 y19 y20 y21 y22 y23 y24 y25
      unfold sakialaw12_ThreadEnds.j0
      repeat' first
      | (with_reducible exact ih0 _ _ _ _ _ _ _ _ _ _ _ _ _ _ _ _ _ _ _ _ _ _ _ _ _ _)
      | (with_reducible exact sakialaw12_awake.mono _)
      | (with_reducible exact thread_Invoke.mono _ _ _ _ _ _ _ _ _ _ _ _ _ _ _)
      | (with_reducible exact LeO.refl _)
      | (with_reducible exact LeO.none _)
      | (with_reducible refine LeO.ite ?_ ?_)
      | (with_reducible refine LeO.bind ?_ (fun _ => ?_))
      | exact ih0 _ _ _ _ _ _ _ _ _ _ _ _ _ _ _ _ _ _ _ _ _ _ _ _ _ _
      | exact sakialaw12_awake.mono _
      | exact thread_Invoke.mono _ _ _ _ _ _ _ _ _ _ _ _ _ _ _
      | exact LeO.none _
      | refine LeO.ite ?_ ?_
      | refine LeO.bind ?_ (fun _ => ?_)
theorem sakialaw12_ThreadEnds.mono : ∀ a0 a1 a2 a3 a4 a5 a6 a7 a8 a9 a10 a11 a12 k, LeO (sakialaw12_ThreadEnds.f k a0 a1 a2 a3 a4 a5 a6 a7 a8 a9 a10 a11 a12) (sakialaw12_ThreadEnds.f (k + 1) a0 a1 a2 a3 a4 a5 a6 a7 a8 a9 a10 a11 a12) := by
  intro a0 a1 a2 a3 a4 a5 a6 a7 a8 a9 a10 a11 a12 k
  have ih0 := sakialaw12_ThreadEnds.mono_l k
  unfold sakialaw12_ThreadEnds.f
  repeat' first
      | (with_reducible exact ih0 _ _ _ _ _ _ _ _ _ _ _ _ _ _ _ _ _ _ _ _ _ _ _ _ _ _)
      | (with_reducible exact sakialaw12_awake.mono _)
      | (with_reducible exact thread_Invoke.mono _ _ _ _ _ _ _ _ _ _ _ _ _ _ _)
      | (with_reducible exact LeO.refl _)
      | (with_reducible exact LeO.none _)
      | (with_reducible refine LeO.ite ?_ ?_)
      | (with_reducible refine LeO.bind ?_ (fun _ => ?_))
      | exact ih0 _ _ _ _ _ _ _ _ _ _ _ _ _ _ _ _ _ _ _ _ _ _ _ _ _ _
      | exact sakialaw12_awake.mono _
      | exact thread_Invoke.mono _ _ _ _ _ _ _ _ _ _ _ _ _ _ _
      | exact LeO.none _
      | refine LeO.ite ?_ ?_
      | refine LeO.bind ?_ (fun _ => ?_)
set_option maxHeartbeats 8000000 in
set_option maxRecDepth 100000 in
theorem sakialaw12_ThreadEnds.calls (k : Nat) (a0_0 : Int) (a0_1 : Int) (a0_2 : Int) (a0_3 : Int) (a0_4 : Int) (a0_5 : Int) (a0_6 : Int) (a0_7 : Int) (a0_8 : Bool) (a0_9 : Int) (a0_10 : Int) (a1 : Int) (a2 : Int) (r : Bool) (w : World) (hr_ : r = true) (h : sakialaw12_ThreadEnds.f k a0_0 a0_1 a0_2 a0_3 a0_4 a0_5 a0_6 a0_7 a0_8 a0_9 a0_10 a1 a2 = some r) :
    Calls Try.prog 11 #[.agg #[.int .i64 a0_0, .int .i64 a0_1, .int .i64 a0_2, .int .i64 a0_3, .int .i64 a0_4, .int .i64 a0_5, .int .i64 a0_6, .int .i64 a0_7, .bool a0_8, .int .i64 a0_9, .int .i64 a0_10], .int .i64 a1, .int .u32 a2] w fun e w' => e = .returned (.bool r) ∧ Below w.heap.size w w' := by
  have hu32 := Try.underlying32
  have HB := Aside0.mk (Below.refl w.heap.size w)
  have HR_ := Aside0.mk hr_
  clear hr_
  have H : ((sakialaw12_awake.f k).bind fun t572 => ((thread_Done.f a0_0 a0_1 a0_2 a0_3 a0_4 a0_5 a0_6 a0_7 a0_8 a0_9 a0_10).bind fun bt573 => ((thread_Late.f a0_0 a0_1 a0_2 a0_3 a0_4 a0_5 a0_6 a0_7 a0_8 a0_9 a0_10 (mn a1 4611686018427387904)).bind fun t586 => (if t586 = true then ((thread_Late.f a0_0 a0_1 a0_2 a0_3 a0_4 a0_5 a0_6 a0_7 a0_8 a0_9 a0_10 (wrap64 ((mn a1 4611686018427387904) + (wrap64 (a2))))).bind fun t587 => (sakialaw12_ThreadEnds.j0 k a1 t572 bt573.2.2.2.2.2.2.2.2.2.2.2 t587 a0_0 a0_1 a0_2 a0_3 a0_4 a0_5 a0_6 a0_7 a0_8 a0_9 a0_10 bt573.1 bt573.2.1 bt573.2.2.1 bt573.2.2.2.1 bt573.2.2.2.2.1 bt573.2.2.2.2.2.1 bt573.2.2.2.2.2.2.1 bt573.2.2.2.2.2.2.2.1 bt573.2.2.2.2.2.2.2.2.1 bt573.2.2.2.2.2.2.2.2.2.1 bt573.2.2.2.2.2.2.2.2.2.2.1)) else (sakialaw12_ThreadEnds.j0 k a1 t572 bt573.2.2.2.2.2.2.2.2.2.2.2 true a0_0 a0_1 a0_2 a0_3 a0_4 a0_5 a0_6 a0_7 a0_8 a0_9 a0_10 bt573.1 bt573.2.1 bt573.2.2.1 bt573.2.2.2.1 bt573.2.2.2.2.1 bt573.2.2.2.2.2.1 bt573.2.2.2.2.2.2.1 bt573.2.2.2.2.2.2.2.1 bt573.2.2.2.2.2.2.2.2.1 bt573.2.2.2.2.2.2.2.2.2.1 bt573.2.2.2.2.2.2.2.2.2.2.1))))) = some r := h
  clear h
  replace H := Option.bind_eq_some_iff.mp H
  obtain ⟨t572, A40, H⟩ := H
  replace H : ((thread_Done.f a0_0 a0_1 a0_2 a0_3 a0_4 a0_5 a0_6 a0_7 a0_8 a0_9 a0_10).bind fun bt573 => ((thread_Late.f a0_0 a0_1 a0_2 a0_3 a0_4 a0_5 a0_6 a0_7 a0_8 a0_9 a0_10 (mn a1 4611686018427387904)).bind fun t586 => (if t586 = true then ((thread_Late.f a0_0 a0_1 a0_2 a0_3 a0_4 a0_5 a0_6 a0_7 a0_8 a0_9 a0_10 (wrap64 ((mn a1 4611686018427387904) + (wrap64 (a2))))).bind fun t587 => (sakialaw12_ThreadEnds.j0 k a1 t572 bt573.2.2.2.2.2.2.2.2.2.2.2 t587 a0_0 a0_1 a0_2 a0_3 a0_4 a0_5 a0_6 a0_7 a0_8 a0_9 a0_10 bt573.1 bt573.2.1 bt573.2.2.1 bt573.2.2.2.1 bt573.2.2.2.2.1 bt573.2.2.2.2.2.1 bt573.2.2.2.2.2.2.1 bt573.2.2.2.2.2.2.2.1 bt573.2.2.2.2.2.2.2.2.1 bt573.2.2.2.2.2.2.2.2.2.1 bt573.2.2.2.2.2.2.2.2.2.2.1)) else (sakialaw12_ThreadEnds.j0 k a1 t572 bt573.2.2.2.2.2.2.2.2.2.2.2 true a0_0 a0_1 a0_2 a0_3 a0_4 a0_5 a0_6 a0_7 a0_8 a0_9 a0_10 bt573.1 bt573.2.1 bt573.2.2.1 bt573.2.2.2.1 bt573.2.2.2.2.1 bt573.2.2.2.2.2.1 bt573.2.2.2.2.2.2.1 bt573.2.2.2.2.2.2.2.1 bt573.2.2.2.2.2.2.2.2.1 bt573.2.2.2.2.2.2.2.2.2.1 bt573.2.2.2.2.2.2.2.2.2.2.1)))) = some r := H
  have A4 := Aside0.mk A40
  clear A40
  replace H := Option.bind_eq_some_iff.mp H
  obtain ⟨⟨t573, t574, t575, t576, t577, t578, t579, t580, t581, t582, t583, t584⟩, A50, H⟩ := H
  replace H : ((thread_Late.f a0_0 a0_1 a0_2 a0_3 a0_4 a0_5 a0_6 a0_7 a0_8 a0_9 a0_10 (mn a1 4611686018427387904)).bind fun t586 => (if t586 = true then ((thread_Late.f a0_0 a0_1 a0_2 a0_3 a0_4 a0_5 a0_6 a0_7 a0_8 a0_9 a0_10 (wrap64 ((mn a1 4611686018427387904) + (wrap64 (a2))))).bind fun t587 => (sakialaw12_ThreadEnds.j0 k a1 t572 t584 t587 a0_0 a0_1 a0_2 a0_3 a0_4 a0_5 a0_6 a0_7 a0_8 a0_9 a0_10 t573 t574 t575 t576 t577 t578 t579 t580 t581 t582 t583)) else (sakialaw12_ThreadEnds.j0 k a1 t572 t584 true a0_0 a0_1 a0_2 a0_3 a0_4 a0_5 a0_6 a0_7 a0_8 a0_9 a0_10 t573 t574 t575 t576 t577 t578 t579 t580 t581 t582 t583))) = some r := H
  have A5 := Aside0.mk A50
  clear A50
  obtain ⟨ji6, hji6⟩ : ∃ j_ : Int, (mn a1 4611686018427387904) = j_ := ⟨_, rfl⟩
  replace H : ((thread_Late.f a0_0 a0_1 a0_2 a0_3 a0_4 a0_5 a0_6 a0_7 a0_8 a0_9 a0_10 (ji6)).bind fun t586 => (if t586 = true then ((thread_Late.f a0_0 a0_1 a0_2 a0_3 a0_4 a0_5 a0_6 a0_7 a0_8 a0_9 a0_10 (wrap64 ((ji6) + (wrap64 (a2))))).bind fun t587 => (sakialaw12_ThreadEnds.j0 k a1 t572 t584 t587 a0_0 a0_1 a0_2 a0_3 a0_4 a0_5 a0_6 a0_7 a0_8 a0_9 a0_10 t573 t574 t575 t576 t577 t578 t579 t580 t581 t582 t583)) else (sakialaw12_ThreadEnds.j0 k a1 t572 t584 true a0_0 a0_1 a0_2 a0_3 a0_4 a0_5 a0_6 a0_7 a0_8 a0_9 a0_10 t573 t574 t575 t576 t577 t578 t579 t580 t581 t582 t583))) = some r := by first | (rw [hji6] at H; exact H) | (simp only [hji6] at H ⊢; exact H)
  (try rw [hji6] at A4)
  (try rw [hji6] at A5)
  (try (have hji6h : ji6 ≤ 4611686018427387904 := by (rw [← hji6]; unfold mn; (repeat' split) <;> omega)))
  (try (have hji6g : ji6 ≤ 64 := by omega))
  have hji6_ : (if 4611686018427387904 < a1 then 4611686018427387904 else a1) = ji6 := hji6
  have HC7 := Aside0.mk H
  clear H
  go_enter Try.func11, Try.ntmps11
  go_upto_region 4 with (first | ((with_reducible refine gate_dst (N := 3) rfl ?_); refine box_event ?hg (N := 3) ?hd (cs := #[.int .i64 a0_0, .int .i64 a0_1, .int .i64 a0_2, .int .i64 a0_3, .int .i64 a0_4, .int .i64 a0_5, .int .i64 a0_6, .int .i64 a0_7, .bool a0_8, .int .i64 a0_9, .int .i64 a0_10]) (t := 32) ?hr ?_; (case hd => rfl); (case hg => rfl); (case hr => first | (go_simp; done) | (go_simp; rfl)); intro gb571 hg w8 hbox hb; have n0_ := Aside0.mk (below_step (by repeat (first | (with_reducible first | exact HB.out | apply below_alloc | apply pw_below_drewN | apply below_drew1) | exact HB.out)) hb); have n1_ := Aside0.mk (hbox); have n2_ := Aside0.mk ((by rw [hg]; exact (below_size (by repeat (first | (with_reducible first | exact HB.out | apply below_alloc | apply pw_below_drewN | apply below_drew1) | exact HB.out))) : w.heap.size ≤ gb571)); have n3_ := Aside0.mk ((by rw [hg]; exact (below_size (by repeat (first | (with_reducible first | exact HB.out | apply below_alloc | apply pw_below_drewN | apply below_drew1) | exact HB.out))) : w.heap.size ≤ gb571)); clear HB; have HB := n0_; have BK571 := n1_; have GW571 := n2_; have GE571 := n3_; clear n0_ n1_ n2_ n3_; clear hb hbox hg) | ((with_reducible refine gate_callee (f := 29) rfl ?_); refine goesL_ (some 14) rfl rfl Try.func29 (by kernel_rfl) rfl #[] rfl (by (try simp only [List.map_toArray, List.map_cons, List.map_nil]); first | done | rfl | (simp only [List.length_drop, List.length_take]; rfl)) ?_; (with_reducible refine (sakialaw12_awake.calls k  t572 _ A4.out).mono ?_); rintro e w9 ⟨rfl, hb⟩; refine ⟨_, rfl, ?_⟩; have n0_ := Aside0.mk (blk_below (g := gb571) (o := .cells #[.int .i64 a0_0, .int .i64 a0_1, .int .i64 a0_2, .int .i64 a0_3, .int .i64 a0_4, .int .i64 a0_5, .int .i64 a0_6, .int .i64 a0_7, .bool a0_8, .int .i64 a0_9, .int .i64 a0_10] 32 (0, 0)) (by (with_reducible repeat (first | refine blk_drewN ?_ _ | refine blk_drew ?_ | refine blk_alloc ?_ _)); exact BK571.out) hb); have n1_ := Aside0.mk (below_step (by repeat (first | (with_reducible first | exact HB.out | apply below_alloc | apply pw_below_drewN | apply below_drew1 | refine below_set ?_ GE571.out) | exact HB.out)) hb); clear BK571; clear HB; have BK571 := n0_; have HB := n1_; clear n0_ n1_; (try clear hb); (try clear hb2); (try clear hk); (try clear hi); have hcz10_0 : w9.cell? ⟨gb571, 0, none⟩ = some (.int .i64 a0_0) := (blk_cell BK571.out 0).trans rfl; have hcz10_1 : w9.cell? ⟨gb571, 1, none⟩ = some (.int .i64 a0_1) := (blk_cell BK571.out 1).trans rfl; have hcz10_2 : w9.cell? ⟨gb571, 2, none⟩ = some (.int .i64 a0_2) := (blk_cell BK571.out 2).trans rfl; have hcz10_3 : w9.cell? ⟨gb571, 3, none⟩ = some (.int .i64 a0_3) := (blk_cell BK571.out 3).trans rfl; have hcz10_4 : w9.cell? ⟨gb571, 4, none⟩ = some (.int .i64 a0_4) := (blk_cell BK571.out 4).trans rfl; have hcz10_5 : w9.cell? ⟨gb571, 5, none⟩ = some (.int .i64 a0_5) := (blk_cell BK571.out 5).trans rfl; have hcz10_6 : w9.cell? ⟨gb571, 6, none⟩ = some (.int .i64 a0_6) := (blk_cell BK571.out 6).trans rfl; have hcz10_7 : w9.cell? ⟨gb571, 7, none⟩ = some (.int .i64 a0_7) := (blk_cell BK571.out 7).trans rfl; have hcz10_8 : w9.cell? ⟨gb571, 8, none⟩ = some (.bool a0_8) := (blk_cell BK571.out 8).trans rfl; have hcz10_9 : w9.cell? ⟨gb571, 9, none⟩ = some (.int .i64 a0_9) := (blk_cell BK571.out 9).trans rfl; have hcz10_10 : w9.cell? ⟨gb571, 10, none⟩ = some (.int .i64 a0_10) := (blk_cell BK571.out 10).trans rfl; have hfz10_0 := blk_frozen BK571.out 0; have hfz10_1 := blk_frozen BK571.out 1; have hfz10_2 := blk_frozen BK571.out 2; have hfz10_3 := blk_frozen BK571.out 3; have hfz10_4 := blk_frozen BK571.out 4; have hfz10_5 := blk_frozen BK571.out 5; have hfz10_6 := blk_frozen BK571.out 6; have hfz10_7 := blk_frozen BK571.out 7; have hfz10_8 := blk_frozen BK571.out 8; have hfz10_9 := blk_frozen BK571.out 9; have hfz10_10 := blk_frozen BK571.out 10) | ((with_reducible refine gate_callee (f := 34) rfl ?_); refine goesL_ (some 17) rfl rfl Try.func34 (by kernel_rfl) rfl #[.agg #[.int .i64 a0_0, .int .i64 a0_1, .int .i64 a0_2, .int .i64 a0_3, .int .i64 a0_4, .int .i64 a0_5, .int .i64 a0_6, .int .i64 a0_7, .bool a0_8, .int .i64 a0_9, .int .i64 a0_10]] rfl (by (try simp only [List.map_toArray, List.map_cons, List.map_nil]); first | done | rfl | (simp only [List.length_drop, List.length_take]; rfl)) ?_; (with_reducible refine (thread_Done.calls a0_0 a0_1 a0_2 a0_3 a0_4 a0_5 a0_6 a0_7 a0_8 a0_9 a0_10 t573 t574 t575 t576 t577 t578 t579 t580 t581 t582 t583 t584 _ A5.out).mono ?_); rintro e w11 ⟨rfl, hb⟩; refine ⟨_, rfl, ?_⟩; have n0_ := Aside0.mk (blk_below (g := gb571) (o := .cells #[.int .i64 a0_0, .int .i64 a0_1, .int .i64 a0_2, .int .i64 a0_3, .int .i64 a0_4, .int .i64 a0_5, .int .i64 a0_6, .int .i64 a0_7, .bool a0_8, .int .i64 a0_9, .int .i64 a0_10] 32 (0, 0)) (by (with_reducible repeat (first | refine blk_drewN ?_ _ | refine blk_drew ?_ | refine blk_alloc ?_ _)); exact BK571.out) hb); have n1_ := Aside0.mk (below_step (by repeat (first | (with_reducible first | exact HB.out | apply below_alloc | apply pw_below_drewN | apply below_drew1 | refine below_set ?_ GE571.out) | exact HB.out)) hb); clear BK571; clear HB; have BK571 := n0_; have HB := n1_; clear n0_ n1_; (try clear hb); (try clear hb2); (try clear hk); (try clear hi)) | ((with_reducible refine gate_dst (N := 8) rfl ?_); refine box_event ?hg (N := 8) ?hd (cs := #[.int .i64 0, .int .i64 0, .int .i64 0, .int .i64 0, .int .i64 0, .int .i64 0, .int .i64 0, .int .i64 0, .bool false, .int .i64 0, .int .i64 0]) (t := 32) ?hr ?_; (case hd => rfl); (case hg => rfl); (case hr => first | (go_simp; done) | (go_simp; rfl)); intro gb585 hg w12 hbox hb; have n0_ := Aside0.mk (blk_below (g := gb571) (o := .cells #[.int .i64 a0_0, .int .i64 a0_1, .int .i64 a0_2, .int .i64 a0_3, .int .i64 a0_4, .int .i64 a0_5, .int .i64 a0_6, .int .i64 a0_7, .bool a0_8, .int .i64 a0_9, .int .i64 a0_10] 32 (0, 0)) (by (with_reducible repeat (first | refine blk_drewN ?_ _ | refine blk_drew ?_ | refine blk_alloc ?_ _)); exact BK571.out) hb); have n1_ := Aside0.mk (below_step (by repeat (first | (with_reducible first | exact HB.out | apply below_alloc | apply pw_below_drewN | apply below_drew1 | refine below_set ?_ GE571.out) | exact HB.out)) hb); have n2_ := Aside0.mk (hbox); have n3_ := Aside0.mk ((by rw [hg]; exact (below_size (by repeat (first | (with_reducible first | exact HB.out | apply below_alloc | apply pw_below_drewN | apply below_drew1 | refine below_set ?_ GE571.out) | exact HB.out))) : w.heap.size ≤ gb585)); have n4_ := Aside0.mk ((by rw [hg]; exact (below_size (by repeat (first | (with_reducible first | exact HB.out | apply below_alloc | apply pw_below_drewN | apply below_drew1 | refine below_set ?_ GE571.out) | exact HB.out))) : w.heap.size ≤ gb585)); have n5_ := Aside0.mk ((by rw [hg]; exact Nat.ne_of_lt (blk_lt (g := gb571) (o := .cells #[.int .i64 a0_0, .int .i64 a0_1, .int .i64 a0_2, .int .i64 a0_3, .int .i64 a0_4, .int .i64 a0_5, .int .i64 a0_6, .int .i64 a0_7, .bool a0_8, .int .i64 a0_9, .int .i64 a0_10] 32 (0, 0)) (by (with_reducible repeat (first | refine blk_drewN ?_ _ | refine blk_drew ?_ | refine blk_alloc ?_ _)); exact BK571.out)) : gb571 ≠ gb585)); have n6_ := Aside0.mk ((by rw [hg]; exact Nat.ne_of_gt (blk_lt (g := gb571) (o := .cells #[.int .i64 a0_0, .int .i64 a0_1, .int .i64 a0_2, .int .i64 a0_3, .int .i64 a0_4, .int .i64 a0_5, .int .i64 a0_6, .int .i64 a0_7, .bool a0_8, .int .i64 a0_9, .int .i64 a0_10] 32 (0, 0)) (by (with_reducible repeat (first | refine blk_drewN ?_ _ | refine blk_drew ?_ | refine blk_alloc ?_ _)); exact BK571.out)) : gb585 ≠ gb571)); clear BK571; clear HB; have BK571 := n0_; have HB := n1_; have BK585 := n2_; have GW585 := n3_; have GE585 := n4_; have NB571_585 := n5_; have NB585_571 := n6_; clear n0_ n1_ n2_ n3_ n4_ n5_ n6_; clear hb hbox hg; have hnb13 := NB585_571.out; have hnc13 := NB571_585.out; have hcz14_0 : w12.cell? ⟨gb585, 0, none⟩ = some (.int .i64 0) := (blk_cell BK585.out 0).trans rfl; have hcz14_1 : w12.cell? ⟨gb585, 1, none⟩ = some (.int .i64 0) := (blk_cell BK585.out 1).trans rfl; have hcz14_2 : w12.cell? ⟨gb585, 2, none⟩ = some (.int .i64 0) := (blk_cell BK585.out 2).trans rfl; have hcz14_3 : w12.cell? ⟨gb585, 3, none⟩ = some (.int .i64 0) := (blk_cell BK585.out 3).trans rfl; have hcz14_4 : w12.cell? ⟨gb585, 4, none⟩ = some (.int .i64 0) := (blk_cell BK585.out 4).trans rfl; have hcz14_5 : w12.cell? ⟨gb585, 5, none⟩ = some (.int .i64 0) := (blk_cell BK585.out 5).trans rfl; have hcz14_6 : w12.cell? ⟨gb585, 6, none⟩ = some (.int .i64 0) := (blk_cell BK585.out 6).trans rfl; have hcz14_7 : w12.cell? ⟨gb585, 7, none⟩ = some (.int .i64 0) := (blk_cell BK585.out 7).trans rfl; have hcz14_8 : w12.cell? ⟨gb585, 8, none⟩ = some (.bool false) := (blk_cell BK585.out 8).trans rfl; have hcz14_9 : w12.cell? ⟨gb585, 9, none⟩ = some (.int .i64 0) := (blk_cell BK585.out 9).trans rfl; have hcz14_10 : w12.cell? ⟨gb585, 10, none⟩ = some (.int .i64 0) := (blk_cell BK585.out 10).trans rfl; have hfz14_0 := blk_frozen BK585.out 0; have hfz14_1 := blk_frozen BK585.out 1; have hfz14_2 := blk_frozen BK585.out 2; have hfz14_3 := blk_frozen BK585.out 3; have hfz14_4 := blk_frozen BK585.out 4; have hfz14_5 := blk_frozen BK585.out 5; have hfz14_6 := blk_frozen BK585.out 6; have hfz14_7 := blk_frozen BK585.out 7; have hfz14_8 := blk_frozen BK585.out 8; have hfz14_9 := blk_frozen BK585.out 9; have hfz14_10 := blk_frozen BK585.out 10))
  (try simp only [Act.put, List.setIfInBounds_toArray, List.set_cons_zero, List.set_cons_succ])
  go_cut [11] (fun v11 wc => ∃ (kq : Nat) (x11_6 : Bool), v11 = .bool x11_6 ∧ Aside0 (sakialaw12_ThreadEnds.j0 kq a1 t572 t584 x11_6 a0_0 a0_1 a0_2 a0_3 a0_4 a0_5 a0_6 a0_7 a0_8 a0_9 a0_10 t573 t574 t575 t576 t577 t578 t579 t580 t581 t582 t583 = some r) ∧ Aside0 (kq ≤ k) ∧ Aside0 (wc.heap[gb571]? = some (.cells #[.int .i64 a0_0, .int .i64 a0_1, .int .i64 a0_2, .int .i64 a0_3, .int .i64 a0_4, .int .i64 a0_5, .int .i64 a0_6, .int .i64 a0_7, .bool a0_8, .int .i64 a0_9, .int .i64 a0_10] 32 (0, 0))) ∧ Aside0 (wc.heap[gb585]? = some (.cells #[.int .i64 t573, .int .i64 t574, .int .i64 t575, .int .i64 t576, .int .i64 t577, .int .i64 t578, .int .i64 t579, .int .i64 t580, .bool t581, .int .i64 t582, .int .i64 t583] 32 (0, 0))) ∧ Aside0 (Below w.heap.size w wc))
  case first =>
    have H := HC7.out
    clear HC7
    replace H := Option.bind_eq_some_iff.mp H
    obtain ⟨t586, A150, H⟩ := H
    replace H : (if t586 = true then ((thread_Late.f a0_0 a0_1 a0_2 a0_3 a0_4 a0_5 a0_6 a0_7 a0_8 a0_9 a0_10 (wrap64 ((ji6) + (wrap64 (a2))))).bind fun t587 => (sakialaw12_ThreadEnds.j0 k a1 t572 t584 t587 a0_0 a0_1 a0_2 a0_3 a0_4 a0_5 a0_6 a0_7 a0_8 a0_9 a0_10 t573 t574 t575 t576 t577 t578 t579 t580 t581 t582 t583)) else (sakialaw12_ThreadEnds.j0 k a1 t572 t584 true a0_0 a0_1 a0_2 a0_3 a0_4 a0_5 a0_6 a0_7 a0_8 a0_9 a0_10 t573 t574 t575 t576 t577 t578 t579 t580 t581 t582 t583)) = some r := H
    have A15 := Aside0.mk A150
    clear A150
    by_cases c16 : t586 = true
    · subst c16
      have H1 : ((thread_Late.f a0_0 a0_1 a0_2 a0_3 a0_4 a0_5 a0_6 a0_7 a0_8 a0_9 a0_10 (wrap64 ((ji6) + (wrap64 (a2))))).bind fun t587 => (sakialaw12_ThreadEnds.j0 k a1 t572 t584 t587 a0_0 a0_1 a0_2 a0_3 a0_4 a0_5 a0_6 a0_7 a0_8 a0_9 a0_10 t573 t574 t575 t576 t577 t578 t579 t580 t581 t582 t583)) = some r := by rw [if_pos rfl] at H; exact H
      clear H
      have H := H1
      clear H1
      replace H := Option.bind_eq_some_iff.mp H
      obtain ⟨t587, A170, H⟩ := H
      replace H : (sakialaw12_ThreadEnds.j0 k a1 t572 t584 t587 a0_0 a0_1 a0_2 a0_3 a0_4 a0_5 a0_6 a0_7 a0_8 a0_9 a0_10 t573 t574 t575 t576 t577 t578 t579 t580 t581 t582 t583) = some r := H
      have A17 := Aside0.mk A170
      clear A170
      have H' := Aside0.mk H
      clear H
      have hnb18 := NB571_585.out
      have hnc18 := NB585_571.out
      have hcz19_0 : w12.cell? ⟨gb571, 0, none⟩ = some (.int .i64 a0_0) := (blk_cell BK571.out 0).trans rfl
      have hcz19_1 : w12.cell? ⟨gb571, 1, none⟩ = some (.int .i64 a0_1) := (blk_cell BK571.out 1).trans rfl
      have hcz19_2 : w12.cell? ⟨gb571, 2, none⟩ = some (.int .i64 a0_2) := (blk_cell BK571.out 2).trans rfl
      have hcz19_3 : w12.cell? ⟨gb571, 3, none⟩ = some (.int .i64 a0_3) := (blk_cell BK571.out 3).trans rfl
      have hcz19_4 : w12.cell? ⟨gb571, 4, none⟩ = some (.int .i64 a0_4) := (blk_cell BK571.out 4).trans rfl
      have hcz19_5 : w12.cell? ⟨gb571, 5, none⟩ = some (.int .i64 a0_5) := (blk_cell BK571.out 5).trans rfl
      have hcz19_6 : w12.cell? ⟨gb571, 6, none⟩ = some (.int .i64 a0_6) := (blk_cell BK571.out 6).trans rfl
      have hcz19_7 : w12.cell? ⟨gb571, 7, none⟩ = some (.int .i64 a0_7) := (blk_cell BK571.out 7).trans rfl
      have hcz19_8 : w12.cell? ⟨gb571, 8, none⟩ = some (.bool a0_8) := (blk_cell BK571.out 8).trans rfl
      have hcz19_9 : w12.cell? ⟨gb571, 9, none⟩ = some (.int .i64 a0_9) := (blk_cell BK571.out 9).trans rfl
      have hcz19_10 : w12.cell? ⟨gb571, 10, none⟩ = some (.int .i64 a0_10) := (blk_cell BK571.out 10).trans rfl
      have hfz19_0 := blk_frozen BK571.out 0
      have hfz19_1 := blk_frozen BK571.out 1
      have hfz19_2 := blk_frozen BK571.out 2
      have hfz19_3 := blk_frozen BK571.out 3
      have hfz19_4 := blk_frozen BK571.out 4
      have hfz19_5 := blk_frozen BK571.out 5
      have hfz19_6 := blk_frozen BK571.out 6
      have hfz19_7 := blk_frozen BK571.out 7
      have hfz19_8 := blk_frozen BK571.out 8
      have hfz19_9 := blk_frozen BK571.out 9
      have hfz19_10 := blk_frozen BK571.out 10
      go_wp2_with (first | ((with_reducible refine gate_callee (f := 40) rfl ?_); refine goesL_ (some 24) rfl rfl Try.func40 (by kernel_rfl) rfl #[.agg #[.int .i64 a0_0, .int .i64 a0_1, .int .i64 a0_2, .int .i64 a0_3, .int .i64 a0_4, .int .i64 a0_5, .int .i64 a0_6, .int .i64 a0_7, .bool a0_8, .int .i64 a0_9, .int .i64 a0_10], .int .i64 ji6] rfl (by (try simp only [List.map_toArray, List.map_cons, List.map_nil]); first | done | (simp only [hji6]; rfl) | rfl | (simp only [List.length_drop, List.length_take]; rfl)) ?_; (with_reducible refine (thread_Late.calls a0_0 a0_1 a0_2 a0_3 a0_4 a0_5 a0_6 a0_7 a0_8 a0_9 a0_10 ji6 true _ A15.out).mono ?_); rintro e w20 ⟨rfl, hb⟩; refine ⟨_, rfl, ?_⟩; have n0_ := Aside0.mk (blk_below (g := gb571) (o := .cells #[.int .i64 a0_0, .int .i64 a0_1, .int .i64 a0_2, .int .i64 a0_3, .int .i64 a0_4, .int .i64 a0_5, .int .i64 a0_6, .int .i64 a0_7, .bool a0_8, .int .i64 a0_9, .int .i64 a0_10] 32 (0, 0)) (by (with_reducible repeat (first | refine blk_drewN ?_ _ | refine blk_drew ?_ | refine blk_alloc ?_ _)); refine blk_far ?_ NB571_585.out _; (with_reducible repeat (first | refine blk_drewN ?_ _ | refine blk_drew ?_ | refine blk_alloc ?_ _)); refine blk_far ?_ NB571_585.out _; (with_reducible repeat (first | refine blk_drewN ?_ _ | refine blk_drew ?_ | refine blk_alloc ?_ _)); refine blk_far ?_ NB571_585.out _; (with_reducible repeat (first | refine blk_drewN ?_ _ | refine blk_drew ?_ | refine blk_alloc ?_ _)); refine blk_far ?_ NB571_585.out _; (with_reducible repeat (first | refine blk_drewN ?_ _ | refine blk_drew ?_ | refine blk_alloc ?_ _)); refine blk_far ?_ NB571_585.out _; (with_reducible repeat (first | refine blk_drewN ?_ _ | refine blk_drew ?_ | refine blk_alloc ?_ _)); refine blk_far ?_ NB571_585.out _; (with_reducible repeat (first | refine blk_drewN ?_ _ | refine blk_drew ?_ | refine blk_alloc ?_ _)); refine blk_far ?_ NB571_585.out _; (with_reducible repeat (first | refine blk_drewN ?_ _ | refine blk_drew ?_ | refine blk_alloc ?_ _)); refine blk_far ?_ NB571_585.out _; (with_reducible repeat (first | refine blk_drewN ?_ _ | refine blk_drew ?_ | refine blk_alloc ?_ _)); refine blk_far ?_ NB571_585.out _; (with_reducible repeat (first | refine blk_drewN ?_ _ | refine blk_drew ?_ | refine blk_alloc ?_ _)); refine blk_far ?_ NB571_585.out _; (with_reducible repeat (first | refine blk_drewN ?_ _ | refine blk_drew ?_ | refine blk_alloc ?_ _)); refine blk_far ?_ NB571_585.out _; (with_reducible repeat (first | refine blk_drewN ?_ _ | refine blk_drew ?_ | refine blk_alloc ?_ _)); exact BK571.out) hb); have n1_ := Aside0.mk (blk_below (g := gb585) (o := .cells #[.int .i64 t573, .int .i64 t574, .int .i64 t575, .int .i64 t576, .int .i64 t577, .int .i64 t578, .int .i64 t579, .int .i64 t580, .bool t581, .int .i64 t582, .int .i64 t583] 32 (0, 0)) (by (with_reducible repeat (first | refine blk_drewN ?_ _ | refine blk_drew ?_ | refine blk_alloc ?_ _)); refine blk_put (cs := #[.int .i64 t573, .int .i64 t574, .int .i64 t575, .int .i64 t576, .int .i64 t577, .int .i64 t578, .int .i64 t579, .int .i64 t580, .bool t581, .int .i64 t582, .int .i64 0]) ?_ 10 _ rfl; (with_reducible repeat (first | refine blk_drewN ?_ _ | refine blk_drew ?_ | refine blk_alloc ?_ _)); refine blk_put (cs := #[.int .i64 t573, .int .i64 t574, .int .i64 t575, .int .i64 t576, .int .i64 t577, .int .i64 t578, .int .i64 t579, .int .i64 t580, .bool t581, .int .i64 0, .int .i64 0]) ?_ 9 _ rfl; (with_reducible repeat (first | refine blk_drewN ?_ _ | refine blk_drew ?_ | refine blk_alloc ?_ _)); refine blk_put (cs := #[.int .i64 t573, .int .i64 t574, .int .i64 t575, .int .i64 t576, .int .i64 t577, .int .i64 t578, .int .i64 t579, .int .i64 t580, .bool false, .int .i64 0, .int .i64 0]) ?_ 8 _ rfl; (with_reducible repeat (first | refine blk_drewN ?_ _ | refine blk_drew ?_ | refine blk_alloc ?_ _)); refine blk_put (cs := #[.int .i64 t573, .int .i64 t574, .int .i64 t575, .int .i64 t576, .int .i64 t577, .int .i64 t578, .int .i64 t579, .int .i64 0, .bool false, .int .i64 0, .int .i64 0]) ?_ 7 _ rfl; (with_reducible repeat (first | refine blk_drewN ?_ _ | refine blk_drew ?_ | refine blk_alloc ?_ _)); refine blk_put (cs := #[.int .i64 t573, .int .i64 t574, .int .i64 t575, .int .i64 t576, .int .i64 t577, .int .i64 t578, .int .i64 0, .int .i64 0, .bool false, .int .i64 0, .int .i64 0]) ?_ 6 _ rfl; (with_reducible repeat (first | refine blk_drewN ?_ _ | refine blk_drew ?_ | refine blk_alloc ?_ _)); refine blk_put (cs := #[.int .i64 t573, .int .i64 t574, .int .i64 t575, .int .i64 t576, .int .i64 t577, .int .i64 0, .int .i64 0, .int .i64 0, .bool false, .int .i64 0, .int .i64 0]) ?_ 5 _ rfl; (with_reducible repeat (first | refine blk_drewN ?_ _ | refine blk_drew ?_ | refine blk_alloc ?_ _)); refine blk_put (cs := #[.int .i64 t573, .int .i64 t574, .int .i64 t575, .int .i64 t576, .int .i64 0, .int .i64 0, .int .i64 0, .int .i64 0, .bool false, .int .i64 0, .int .i64 0]) ?_ 4 _ rfl; (with_reducible repeat (first | refine blk_drewN ?_ _ | refine blk_drew ?_ | refine blk_alloc ?_ _)); refine blk_put (cs := #[.int .i64 t573, .int .i64 t574, .int .i64 t575, .int .i64 0, .int .i64 0, .int .i64 0, .int .i64 0, .int .i64 0, .bool false, .int .i64 0, .int .i64 0]) ?_ 3 _ rfl; (with_reducible repeat (first | refine blk_drewN ?_ _ | refine blk_drew ?_ | refine blk_alloc ?_ _)); refine blk_put (cs := #[.int .i64 t573, .int .i64 t574, .int .i64 0, .int .i64 0, .int .i64 0, .int .i64 0, .int .i64 0, .int .i64 0, .bool false, .int .i64 0, .int .i64 0]) ?_ 2 _ rfl; (with_reducible repeat (first | refine blk_drewN ?_ _ | refine blk_drew ?_ | refine blk_alloc ?_ _)); refine blk_put (cs := #[.int .i64 t573, .int .i64 0, .int .i64 0, .int .i64 0, .int .i64 0, .int .i64 0, .int .i64 0, .int .i64 0, .bool false, .int .i64 0, .int .i64 0]) ?_ 1 _ rfl; (with_reducible repeat (first | refine blk_drewN ?_ _ | refine blk_drew ?_ | refine blk_alloc ?_ _)); refine blk_put (cs := #[.int .i64 0, .int .i64 0, .int .i64 0, .int .i64 0, .int .i64 0, .int .i64 0, .int .i64 0, .int .i64 0, .bool false, .int .i64 0, .int .i64 0]) ?_ 0 _ rfl; (with_reducible repeat (first | refine blk_drewN ?_ _ | refine blk_drew ?_ | refine blk_alloc ?_ _)); exact BK585.out) hb); have n2_ := Aside0.mk (below_step (by repeat (first | (with_reducible first | exact HB.out | apply below_alloc | apply pw_below_drewN | apply below_drew1 | refine below_set ?_ GE571.out | refine below_set ?_ GE585.out) | exact HB.out)) hb); clear BK571; clear BK585; clear HB; have BK571 := n0_; have BK585 := n1_; have HB := n2_; clear n0_ n1_ n2_; (try clear hb); (try clear hb2); (try clear hk); (try clear hi); have hcz21_0 : w20.cell? ⟨gb571, 0, none⟩ = some (.int .i64 a0_0) := (blk_cell BK571.out 0).trans rfl; have hcz21_1 : w20.cell? ⟨gb571, 1, none⟩ = some (.int .i64 a0_1) := (blk_cell BK571.out 1).trans rfl; have hcz21_2 : w20.cell? ⟨gb571, 2, none⟩ = some (.int .i64 a0_2) := (blk_cell BK571.out 2).trans rfl; have hcz21_3 : w20.cell? ⟨gb571, 3, none⟩ = some (.int .i64 a0_3) := (blk_cell BK571.out 3).trans rfl; have hcz21_4 : w20.cell? ⟨gb571, 4, none⟩ = some (.int .i64 a0_4) := (blk_cell BK571.out 4).trans rfl; have hcz21_5 : w20.cell? ⟨gb571, 5, none⟩ = some (.int .i64 a0_5) := (blk_cell BK571.out 5).trans rfl; have hcz21_6 : w20.cell? ⟨gb571, 6, none⟩ = some (.int .i64 a0_6) := (blk_cell BK571.out 6).trans rfl; have hcz21_7 : w20.cell? ⟨gb571, 7, none⟩ = some (.int .i64 a0_7) := (blk_cell BK571.out 7).trans rfl; have hcz21_8 : w20.cell? ⟨gb571, 8, none⟩ = some (.bool a0_8) := (blk_cell BK571.out 8).trans rfl; have hcz21_9 : w20.cell? ⟨gb571, 9, none⟩ = some (.int .i64 a0_9) := (blk_cell BK571.out 9).trans rfl; have hcz21_10 : w20.cell? ⟨gb571, 10, none⟩ = some (.int .i64 a0_10) := (blk_cell BK571.out 10).trans rfl; have hfz21_0 := blk_frozen BK571.out 0; have hfz21_1 := blk_frozen BK571.out 1; have hfz21_2 := blk_frozen BK571.out 2; have hfz21_3 := blk_frozen BK571.out 3; have hfz21_4 := blk_frozen BK571.out 4; have hfz21_5 := blk_frozen BK571.out 5; have hfz21_6 := blk_frozen BK571.out 6; have hfz21_7 := blk_frozen BK571.out 7; have hfz21_8 := blk_frozen BK571.out 8; have hfz21_9 := blk_frozen BK571.out 9; have hfz21_10 := blk_frozen BK571.out 10) | (go_at_call 40; (with_reducible refine (thread_Late.calls a0_0 a0_1 a0_2 a0_3 a0_4 a0_5 a0_6 a0_7 a0_8 a0_9 a0_10 (wrap64 ((ji6) + (wrap64 (a2)))) t587 _ A17.out).mono ?_); rintro e w22 ⟨rfl, hb⟩; have n0_ := Aside0.mk (blk_below (g := gb571) (o := .cells #[.int .i64 a0_0, .int .i64 a0_1, .int .i64 a0_2, .int .i64 a0_3, .int .i64 a0_4, .int .i64 a0_5, .int .i64 a0_6, .int .i64 a0_7, .bool a0_8, .int .i64 a0_9, .int .i64 a0_10] 32 (0, 0)) (by (with_reducible repeat (first | refine blk_drewN ?_ _ | refine blk_drew ?_ | refine blk_alloc ?_ _)); exact BK571.out) hb); have n1_ := Aside0.mk (blk_below (g := gb585) (o := .cells #[.int .i64 t573, .int .i64 t574, .int .i64 t575, .int .i64 t576, .int .i64 t577, .int .i64 t578, .int .i64 t579, .int .i64 t580, .bool t581, .int .i64 t582, .int .i64 t583] 32 (0, 0)) (by (with_reducible repeat (first | refine blk_drewN ?_ _ | refine blk_drew ?_ | refine blk_alloc ?_ _)); exact BK585.out) hb); have n2_ := Aside0.mk (below_step (by repeat (first | (with_reducible first | exact HB.out | apply below_alloc | apply pw_below_drewN | apply below_drew1 | refine below_set ?_ GE571.out | refine below_set ?_ GE585.out) | exact HB.out)) hb); clear BK571; clear BK585; clear HB; have BK571 := n0_; have BK585 := n1_; have HB := n2_; clear n0_ n1_ n2_; (try clear hb); (try clear hb2); (try clear hk); (try clear hi)))
      go_meet
      case rel => exact ⟨_, (t587), (by first | rfl | (simp; done) | (simp [*]; done)), H', ⟨by first | omega | exact Nat.le_refl _⟩, ⟨by (with_reducible repeat (first | refine blk_drewN ?_ _ | refine blk_drew ?_ | refine blk_alloc ?_ _)); exact BK571.out⟩, ⟨by (with_reducible repeat (first | refine blk_drewN ?_ _ | refine blk_drew ?_ | refine blk_alloc ?_ _)); exact BK585.out⟩, ⟨by repeat (first | (with_reducible first | exact HB.out | apply below_alloc | apply pw_below_drewN | apply below_drew1 | refine below_set ?_ GE571.out | refine below_set ?_ GE585.out) | exact HB.out)⟩⟩
    · replace c16 := Bool.eq_false_iff.mpr c16
      subst c16
      have H1 : (sakialaw12_ThreadEnds.j0 k a1 t572 t584 true a0_0 a0_1 a0_2 a0_3 a0_4 a0_5 a0_6 a0_7 a0_8 a0_9 a0_10 t573 t574 t575 t576 t577 t578 t579 t580 t581 t582 t583) = some r := by rw [if_neg (show ¬ (false = true) by decide)] at H; exact H
      clear H
      have H := H1
      clear H1
      have H' := Aside0.mk H
      clear H
      have hnb23 := NB571_585.out
      have hnc23 := NB585_571.out
      have hcz24_0 : w12.cell? ⟨gb571, 0, none⟩ = some (.int .i64 a0_0) := (blk_cell BK571.out 0).trans rfl
      have hcz24_1 : w12.cell? ⟨gb571, 1, none⟩ = some (.int .i64 a0_1) := (blk_cell BK571.out 1).trans rfl
      have hcz24_2 : w12.cell? ⟨gb571, 2, none⟩ = some (.int .i64 a0_2) := (blk_cell BK571.out 2).trans rfl
      have hcz24_3 : w12.cell? ⟨gb571, 3, none⟩ = some (.int .i64 a0_3) := (blk_cell BK571.out 3).trans rfl
      have hcz24_4 : w12.cell? ⟨gb571, 4, none⟩ = some (.int .i64 a0_4) := (blk_cell BK571.out 4).trans rfl
      have hcz24_5 : w12.cell? ⟨gb571, 5, none⟩ = some (.int .i64 a0_5) := (blk_cell BK571.out 5).trans rfl
      have hcz24_6 : w12.cell? ⟨gb571, 6, none⟩ = some (.int .i64 a0_6) := (blk_cell BK571.out 6).trans rfl
      have hcz24_7 : w12.cell? ⟨gb571, 7, none⟩ = some (.int .i64 a0_7) := (blk_cell BK571.out 7).trans rfl
      have hcz24_8 : w12.cell? ⟨gb571, 8, none⟩ = some (.bool a0_8) := (blk_cell BK571.out 8).trans rfl
      have hcz24_9 : w12.cell? ⟨gb571, 9, none⟩ = some (.int .i64 a0_9) := (blk_cell BK571.out 9).trans rfl
      have hcz24_10 : w12.cell? ⟨gb571, 10, none⟩ = some (.int .i64 a0_10) := (blk_cell BK571.out 10).trans rfl
      have hfz24_0 := blk_frozen BK571.out 0
      have hfz24_1 := blk_frozen BK571.out 1
      have hfz24_2 := blk_frozen BK571.out 2
      have hfz24_3 := blk_frozen BK571.out 3
      have hfz24_4 := blk_frozen BK571.out 4
      have hfz24_5 := blk_frozen BK571.out 5
      have hfz24_6 := blk_frozen BK571.out 6
      have hfz24_7 := blk_frozen BK571.out 7
      have hfz24_8 := blk_frozen BK571.out 8
      have hfz24_9 := blk_frozen BK571.out 9
      have hfz24_10 := blk_frozen BK571.out 10
      go_wp2_with (first | ((with_reducible refine gate_callee (f := 40) rfl ?_); refine goesL_ (some 24) rfl rfl Try.func40 (by kernel_rfl) rfl #[.agg #[.int .i64 a0_0, .int .i64 a0_1, .int .i64 a0_2, .int .i64 a0_3, .int .i64 a0_4, .int .i64 a0_5, .int .i64 a0_6, .int .i64 a0_7, .bool a0_8, .int .i64 a0_9, .int .i64 a0_10], .int .i64 ji6] rfl (by (try simp only [List.map_toArray, List.map_cons, List.map_nil]); first | done | (simp only [hji6]; rfl) | rfl | (simp only [List.length_drop, List.length_take]; rfl)) ?_; (with_reducible refine (thread_Late.calls a0_0 a0_1 a0_2 a0_3 a0_4 a0_5 a0_6 a0_7 a0_8 a0_9 a0_10 ji6 false _ A15.out).mono ?_); rintro e w25 ⟨rfl, hb⟩; refine ⟨_, rfl, ?_⟩; have n0_ := Aside0.mk (blk_below (g := gb571) (o := .cells #[.int .i64 a0_0, .int .i64 a0_1, .int .i64 a0_2, .int .i64 a0_3, .int .i64 a0_4, .int .i64 a0_5, .int .i64 a0_6, .int .i64 a0_7, .bool a0_8, .int .i64 a0_9, .int .i64 a0_10] 32 (0, 0)) (by (with_reducible repeat (first | refine blk_drewN ?_ _ | refine blk_drew ?_ | refine blk_alloc ?_ _)); refine blk_far ?_ NB571_585.out _; (with_reducible repeat (first | refine blk_drewN ?_ _ | refine blk_drew ?_ | refine blk_alloc ?_ _)); refine blk_far ?_ NB571_585.out _; (with_reducible repeat (first | refine blk_drewN ?_ _ | refine blk_drew ?_ | refine blk_alloc ?_ _)); refine blk_far ?_ NB571_585.out _; (with_reducible repeat (first | refine blk_drewN ?_ _ | refine blk_drew ?_ | refine blk_alloc ?_ _)); refine blk_far ?_ NB571_585.out _; (with_reducible repeat (first | refine blk_drewN ?_ _ | refine blk_drew ?_ | refine blk_alloc ?_ _)); refine blk_far ?_ NB571_585.out _; (with_reducible repeat (first | refine blk_drewN ?_ _ | refine blk_drew ?_ | refine blk_alloc ?_ _)); refine blk_far ?_ NB571_585.out _; (with_reducible repeat (first | refine blk_drewN ?_ _ | refine blk_drew ?_ | refine blk_alloc ?_ _)); refine blk_far ?_ NB571_585.out _; (with_reducible repeat (first | refine blk_drewN ?_ _ | refine blk_drew ?_ | refine blk_alloc ?_ _)); refine blk_far ?_ NB571_585.out _; (with_reducible repeat (first | refine blk_drewN ?_ _ | refine blk_drew ?_ | refine blk_alloc ?_ _)); refine blk_far ?_ NB571_585.out _; (with_reducible repeat (first | refine blk_drewN ?_ _ | refine blk_drew ?_ | refine blk_alloc ?_ _)); refine blk_far ?_ NB571_585.out _; (with_reducible repeat (first | refine blk_drewN ?_ _ | refine blk_drew ?_ | refine blk_alloc ?_ _)); refine blk_far ?_ NB571_585.out _; (with_reducible repeat (first | refine blk_drewN ?_ _ | refine blk_drew ?_ | refine blk_alloc ?_ _)); exact BK571.out) hb); have n1_ := Aside0.mk (blk_below (g := gb585) (o := .cells #[.int .i64 t573, .int .i64 t574, .int .i64 t575, .int .i64 t576, .int .i64 t577, .int .i64 t578, .int .i64 t579, .int .i64 t580, .bool t581, .int .i64 t582, .int .i64 t583] 32 (0, 0)) (by (with_reducible repeat (first | refine blk_drewN ?_ _ | refine blk_drew ?_ | refine blk_alloc ?_ _)); refine blk_put (cs := #[.int .i64 t573, .int .i64 t574, .int .i64 t575, .int .i64 t576, .int .i64 t577, .int .i64 t578, .int .i64 t579, .int .i64 t580, .bool t581, .int .i64 t582, .int .i64 0]) ?_ 10 _ rfl; (with_reducible repeat (first | refine blk_drewN ?_ _ | refine blk_drew ?_ | refine blk_alloc ?_ _)); refine blk_put (cs := #[.int .i64 t573, .int .i64 t574, .int .i64 t575, .int .i64 t576, .int .i64 t577, .int .i64 t578, .int .i64 t579, .int .i64 t580, .bool t581, .int .i64 0, .int .i64 0]) ?_ 9 _ rfl; (with_reducible repeat (first | refine blk_drewN ?_ _ | refine blk_drew ?_ | refine blk_alloc ?_ _)); refine blk_put (cs := #[.int .i64 t573, .int .i64 t574, .int .i64 t575, .int .i64 t576, .int .i64 t577, .int .i64 t578, .int .i64 t579, .int .i64 t580, .bool false, .int .i64 0, .int .i64 0]) ?_ 8 _ rfl; (with_reducible repeat (first | refine blk_drewN ?_ _ | refine blk_drew ?_ | refine blk_alloc ?_ _)); refine blk_put (cs := #[.int .i64 t573, .int .i64 t574, .int .i64 t575, .int .i64 t576, .int .i64 t577, .int .i64 t578, .int .i64 t579, .int .i64 0, .bool false, .int .i64 0, .int .i64 0]) ?_ 7 _ rfl; (with_reducible repeat (first | refine blk_drewN ?_ _ | refine blk_drew ?_ | refine blk_alloc ?_ _)); refine blk_put (cs := #[.int .i64 t573, .int .i64 t574, .int .i64 t575, .int .i64 t576, .int .i64 t577, .int .i64 t578, .int .i64 0, .int .i64 0, .bool false, .int .i64 0, .int .i64 0]) ?_ 6 _ rfl; (with_reducible repeat (first | refine blk_drewN ?_ _ | refine blk_drew ?_ | refine blk_alloc ?_ _)); refine blk_put (cs := #[.int .i64 t573, .int .i64 t574, .int .i64 t575, .int .i64 t576, .int .i64 t577, .int .i64 0, .int .i64 0, .int .i64 0, .bool false, .int .i64 0, .int .i64 0]) ?_ 5 _ rfl; (with_reducible repeat (first | refine blk_drewN ?_ _ | refine blk_drew ?_ | refine blk_alloc ?_ _)); refine blk_put (cs := #[.int .i64 t573, .int .i64 t574, .int .i64 t575, .int .i64 t576, .int .i64 0, .int .i64 0, .int .i64 0, .int .i64 0, .bool false, .int .i64 0, .int .i64 0]) ?_ 4 _ rfl; (with_reducible repeat (first | refine blk_drewN ?_ _ | refine blk_drew ?_ | refine blk_alloc ?_ _)); refine blk_put (cs := #[.int .i64 t573, .int .i64 t574, .int .i64 t575, .int .i64 0, .int .i64 0, .int .i64 0, .int .i64 0, .int .i64 0, .bool false, .int .i64 0, .int .i64 0]) ?_ 3 _ rfl; (with_reducible repeat (first | refine blk_drewN ?_ _ | refine blk_drew ?_ | refine blk_alloc ?_ _)); refine blk_put (cs := #[.int .i64 t573, .int .i64 t574, .int .i64 0, .int .i64 0, .int .i64 0, .int .i64 0, .int .i64 0, .int .i64 0, .bool false, .int .i64 0, .int .i64 0]) ?_ 2 _ rfl; (with_reducible repeat (first | refine blk_drewN ?_ _ | refine blk_drew ?_ | refine blk_alloc ?_ _)); refine blk_put (cs := #[.int .i64 t573, .int .i64 0, .int .i64 0, .int .i64 0, .int .i64 0, .int .i64 0, .int .i64 0, .int .i64 0, .bool false, .int .i64 0, .int .i64 0]) ?_ 1 _ rfl; (with_reducible repeat (first | refine blk_drewN ?_ _ | refine blk_drew ?_ | refine blk_alloc ?_ _)); refine blk_put (cs := #[.int .i64 0, .int .i64 0, .int .i64 0, .int .i64 0, .int .i64 0, .int .i64 0, .int .i64 0, .int .i64 0, .bool false, .int .i64 0, .int .i64 0]) ?_ 0 _ rfl; (with_reducible repeat (first | refine blk_drewN ?_ _ | refine blk_drew ?_ | refine blk_alloc ?_ _)); exact BK585.out) hb); have n2_ := Aside0.mk (below_step (by repeat (first | (with_reducible first | exact HB.out | apply below_alloc | apply pw_below_drewN | apply below_drew1 | refine below_set ?_ GE571.out | refine below_set ?_ GE585.out) | exact HB.out)) hb); clear BK571; clear BK585; clear HB; have BK571 := n0_; have BK585 := n1_; have HB := n2_; clear n0_ n1_ n2_; (try clear hb); (try clear hb2); (try clear hk); (try clear hi)))
      go_meet
      case rel => exact ⟨_, (true), (by first | rfl | (simp; done) | (simp [*]; done)), H', ⟨by first | omega | exact Nat.le_refl _⟩, ⟨by (with_reducible repeat (first | refine blk_drewN ?_ _ | refine blk_drew ?_ | refine blk_alloc ?_ _)); exact BK571.out⟩, ⟨by (with_reducible repeat (first | refine blk_drewN ?_ _ | refine blk_drew ?_ | refine blk_alloc ?_ _)); exact BK585.out⟩, ⟨by repeat (first | (with_reducible first | exact HB.out | apply below_alloc | apply pw_below_drewN | apply below_drew1 | refine below_set ?_ GE571.out | refine below_set ?_ GE585.out) | exact HB.out)⟩⟩
  case rest =>
    clear HC7
    try clear c1
    try clear c2
    try clear p2
    try clear c3
    try clear c4
    try clear p6
    try clear c11
    try clear c13
    try clear c16
    try clear c18
    try clear c23
    try clear hcz10_0
    try clear hcz10_1
    try clear hcz10_10
    try clear hcz10_2
    try clear hcz10_3
    try clear hcz10_4
    try clear hcz10_5
    try clear hcz10_6
    try clear hcz10_7
    try clear hcz10_8
    try clear hcz10_9
    try clear hcz14_0
    try clear hcz14_1
    try clear hcz14_10
    try clear hcz14_2
    try clear hcz14_3
    try clear hcz14_4
    try clear hcz14_5
    try clear hcz14_6
    try clear hcz14_7
    try clear hcz14_8
    try clear hcz14_9
    try clear hcz19_0
    try clear hcz19_1
    try clear hcz19_10
    try clear hcz19_2
    try clear hcz19_3
    try clear hcz19_4
    try clear hcz19_5
    try clear hcz19_6
    try clear hcz19_7
    try clear hcz19_8
    try clear hcz19_9
    try clear hcz21_0
    try clear hcz21_1
    try clear hcz21_10
    try clear hcz21_2
    try clear hcz21_3
    try clear hcz21_4
    try clear hcz21_5
    try clear hcz21_6
    try clear hcz21_7
    try clear hcz21_8
    try clear hcz21_9
    try clear hcz24_0
    try clear hcz24_1
    try clear hcz24_10
    try clear hcz24_2
    try clear hcz24_3
    try clear hcz24_4
    try clear hcz24_5
    try clear hcz24_6
    try clear hcz24_7
    try clear hcz24_8
    try clear hcz24_9
    try clear hfz10_0
    try clear hfz10_1
    try clear hfz10_10
    try clear hfz10_2
    try clear hfz10_3
    try clear hfz10_4
    try clear hfz10_5
    try clear hfz10_6
    try clear hfz10_7
    try clear hfz10_8
    try clear hfz10_9
    try clear hfz14_0
    try clear hfz14_1
    try clear hfz14_10
    try clear hfz14_2
    try clear hfz14_3
    try clear hfz14_4
    try clear hfz14_5
    try clear hfz14_6
    try clear hfz14_7
    try clear hfz14_8
    try clear hfz14_9
    try clear hfz19_0
    try clear hfz19_1
    try clear hfz19_10
    try clear hfz19_2
    try clear hfz19_3
    try clear hfz19_4
    try clear hfz19_5
    try clear hfz19_6
    try clear hfz19_7
    try clear hfz19_8
    try clear hfz19_9
    try clear hfz21_0
    try clear hfz21_1
    try clear hfz21_10
    try clear hfz21_2
    try clear hfz21_3
    try clear hfz21_4
    try clear hfz21_5
    try clear hfz21_6
    try clear hfz21_7
    try clear hfz21_8
    try clear hfz21_9
    try clear hfz24_0
    try clear hfz24_1
    try clear hfz24_10
    try clear hfz24_2
    try clear hfz24_3
    try clear hfz24_4
    try clear hfz24_5
    try clear hfz24_6
    try clear hfz24_7
    try clear hfz24_8
    try clear hfz24_9
    obtain ⟨kq, x11_6, rfl, HA, HJ6, BK571, BK585, HB⟩ := hcut
    cases kq with
    | zero => exact absurd HA.out (by simp [sakialaw12_ThreadEnds.j0])
    | succ kj6 =>
      have H := HA.out
      clear HA
      simp only [sakialaw12_ThreadEnds.j0] at H
      by_cases c26 : t584 = 0
      · rw [if_pos c26] at H
        have c26b0 : (t584 == 0) = true := beq_iff_eq.mpr c26
        have c26b1 : (t584 != 0) = false := bne_eq_false_iff_eq.mpr c26
        clear c26
        replace H := Option.bind_eq_some_iff.mp H
        obtain ⟨⟨t588, t589, t590, t591, t592, t593, t594, t595, t596, t597, t598, t599⟩, A270, H⟩ := H
        replace H : (if t572 = true then (if t573 = 0 then (if t582 = a0_9 then (if t583 = a0_10 then (if t574 = a0_1 then (if t599 = 0 then ((thread_Late.f t573 t574 t575 t576 t577 t578 t579 t580 t581 t582 t583 a1).bind fun t601 => (if t601 = true then (some false) else (some x11_6))) else (some false)) else (some false)) else (some false)) else (some false)) else (some false)) else (some false)) = some r := H
        have A27 := Aside0.mk A270
        clear A270
        by_cases c28 : t572 = true
        · subst c28
          have H1 : (if t573 = 0 then (if t582 = a0_9 then (if t583 = a0_10 then (if t574 = a0_1 then (if t599 = 0 then ((thread_Late.f t573 t574 t575 t576 t577 t578 t579 t580 t581 t582 t583 a1).bind fun t601 => (if t601 = true then (some false) else (some x11_6))) else (some false)) else (some false)) else (some false)) else (some false)) else (some false)) = some r := by rw [if_pos rfl] at H; exact H
          clear H
          have H := H1
          clear H1
          by_cases c29 : t573 = 0
          · rw [if_pos c29] at H
            have c29b0 : (t573 == 0) = true := beq_iff_eq.mpr c29
            have c29b1 : (t573 != 0) = false := bne_eq_false_iff_eq.mpr c29
            clear c29
            by_cases c30 : t582 = a0_9
            · rw [if_pos c30] at H
              have c30b0 : (t582 == a0_9) = true := beq_iff_eq.mpr c30
              have c30b1 : (t582 != a0_9) = false := bne_eq_false_iff_eq.mpr c30
              clear c30
              by_cases c31 : t583 = a0_10
              · rw [if_pos c31] at H
                have c31b0 : (t583 == a0_10) = true := beq_iff_eq.mpr c31
                have c31b1 : (t583 != a0_10) = false := bne_eq_false_iff_eq.mpr c31
                clear c31
                by_cases c32 : t574 = a0_1
                · rw [if_pos c32] at H
                  have c32b0 : (t574 == a0_1) = true := beq_iff_eq.mpr c32
                  have c32b1 : (t574 != a0_1) = false := bne_eq_false_iff_eq.mpr c32
                  clear c32
                  by_cases c33 : t599 = 0
                  · rw [if_pos c33] at H
                    have c33b0 : (t599 == 0) = true := beq_iff_eq.mpr c33
                    have c33b1 : (t599 != 0) = false := bne_eq_false_iff_eq.mpr c33
                    clear c33
                    replace H := Option.bind_eq_some_iff.mp H
                    obtain ⟨t601, A340, H⟩ := H
                    replace H : (if t601 = true then (some false) else (some x11_6)) = some r := H
                    have A34 := Aside0.mk A340
                    clear A340
                    by_cases c35 : t601 = true
                    · subst c35
                      have H1 : (some false) = some r := by rw [if_pos rfl] at H; exact H
                      clear H
                      have H := H1
                      clear H1
                      exact absurd ((Option.some.inj H).trans HR_.out) (by decide)
                    · replace c35 := Bool.eq_false_iff.mpr c35
                      subst c35
                      have H1 : (some x11_6) = some r := by rw [if_neg (show ¬ (false = true) by decide)] at H; exact H
                      clear H
                      have H := H1
                      clear H1
                      obtain rfl := Option.some.inj H
                      have hnb36 := NB585_571.out
                      have hnc36 := NB571_585.out
                      have hcz37_0 : wc.cell? ⟨gb585, 0, none⟩ = some (.int .i64 t573) := (blk_cell BK585.out 0).trans rfl
                      have hcz37_1 : wc.cell? ⟨gb585, 1, none⟩ = some (.int .i64 t574) := (blk_cell BK585.out 1).trans rfl
                      have hcz37_2 : wc.cell? ⟨gb585, 2, none⟩ = some (.int .i64 t575) := (blk_cell BK585.out 2).trans rfl
                      have hcz37_3 : wc.cell? ⟨gb585, 3, none⟩ = some (.int .i64 t576) := (blk_cell BK585.out 3).trans rfl
                      have hcz37_4 : wc.cell? ⟨gb585, 4, none⟩ = some (.int .i64 t577) := (blk_cell BK585.out 4).trans rfl
                      have hcz37_5 : wc.cell? ⟨gb585, 5, none⟩ = some (.int .i64 t578) := (blk_cell BK585.out 5).trans rfl
                      have hcz37_6 : wc.cell? ⟨gb585, 6, none⟩ = some (.int .i64 t579) := (blk_cell BK585.out 6).trans rfl
                      have hcz37_7 : wc.cell? ⟨gb585, 7, none⟩ = some (.int .i64 t580) := (blk_cell BK585.out 7).trans rfl
                      have hcz37_8 : wc.cell? ⟨gb585, 8, none⟩ = some (.bool t581) := (blk_cell BK585.out 8).trans rfl
                      have hcz37_9 : wc.cell? ⟨gb585, 9, none⟩ = some (.int .i64 t582) := (blk_cell BK585.out 9).trans rfl
                      have hcz37_10 : wc.cell? ⟨gb585, 10, none⟩ = some (.int .i64 t583) := (blk_cell BK585.out 10).trans rfl
                      have hfz37_0 := blk_frozen BK585.out 0
                      have hfz37_1 := blk_frozen BK585.out 1
                      have hfz37_2 := blk_frozen BK585.out 2
                      have hfz37_3 := blk_frozen BK585.out 3
                      have hfz37_4 := blk_frozen BK585.out 4
                      have hfz37_5 := blk_frozen BK585.out 5
                      have hfz37_6 := blk_frozen BK585.out 6
                      have hfz37_7 := blk_frozen BK585.out 7
                      have hfz37_8 := blk_frozen BK585.out 8
                      have hfz37_9 := blk_frozen BK585.out 9
                      have hfz37_10 := blk_frozen BK585.out 10
                      go_wp2_with (first | ((with_reducible refine gate_callee (f := 30) rfl ?_); refine goesL_ (some 47) rfl rfl Try.func30 (by kernel_rfl) rfl #[.agg #[.int .i64 t573, .int .i64 t574, .int .i64 t575, .int .i64 t576, .int .i64 t577, .int .i64 t578, .int .i64 t579, .int .i64 t580, .bool t581, .int .i64 t582, .int .i64 t583], .int .i64 4, .int .i64 0, .int .i64 0] rfl (by (try simp only [List.map_toArray, List.map_cons, List.map_nil]); first | done | rfl | (simp only [List.length_drop, List.length_take]; rfl)) ?_; (with_reducible refine (thread_Invoke.calls kj6 t573 t574 t575 t576 t577 t578 t579 t580 t581 t582 t583 4 0 0 t588 t589 t590 t591 t592 t593 t594 t595 t596 t597 t598 t599 _ A27.out).mono ?_); rintro e w38 ⟨rfl, hb⟩; refine ⟨_, rfl, ?_⟩; have n0_ := Aside0.mk (blk_below (g := gb571) (o := .cells #[.int .i64 a0_0, .int .i64 a0_1, .int .i64 a0_2, .int .i64 a0_3, .int .i64 a0_4, .int .i64 a0_5, .int .i64 a0_6, .int .i64 a0_7, .bool a0_8, .int .i64 a0_9, .int .i64 a0_10] 32 (0, 0)) (by (with_reducible repeat (first | refine blk_drewN ?_ _ | refine blk_drew ?_ | refine blk_alloc ?_ _)); exact BK571.out) hb); have n1_ := Aside0.mk (blk_below (g := gb585) (o := .cells #[.int .i64 t573, .int .i64 t574, .int .i64 t575, .int .i64 t576, .int .i64 t577, .int .i64 t578, .int .i64 t579, .int .i64 t580, .bool t581, .int .i64 t582, .int .i64 t583] 32 (0, 0)) (by (with_reducible repeat (first | refine blk_drewN ?_ _ | refine blk_drew ?_ | refine blk_alloc ?_ _)); exact BK585.out) hb); have n2_ := Aside0.mk (below_step (by repeat (first | (with_reducible first | exact HB.out | apply below_alloc | apply pw_below_drewN | apply below_drew1 | refine below_set ?_ GE571.out | refine below_set ?_ GE585.out) | exact HB.out)) hb); clear BK571; clear BK585; clear HB; have BK571 := n0_; have BK585 := n1_; have HB := n2_; clear n0_ n1_ n2_; (try clear hb); (try clear hb2); (try clear hk); (try clear hi)) | ((with_reducible refine gate_dst (N := 12) rfl ?_); refine box_event ?hg (N := 12) ?hd (cs := #[.int .i64 0, .int .i64 0, .int .i64 0, .int .i64 0, .int .i64 0, .int .i64 0, .int .i64 0, .int .i64 0, .bool false, .int .i64 0, .int .i64 0]) (t := 32) ?hr ?_; (case hd => rfl); (case hg => rfl); (case hr => first | (go_simp; done) | (go_simp; rfl)); intro gb600 hg w39 hbox hb; have n0_ := Aside0.mk (blk_below (g := gb571) (o := .cells #[.int .i64 a0_0, .int .i64 a0_1, .int .i64 a0_2, .int .i64 a0_3, .int .i64 a0_4, .int .i64 a0_5, .int .i64 a0_6, .int .i64 a0_7, .bool a0_8, .int .i64 a0_9, .int .i64 a0_10] 32 (0, 0)) (by (with_reducible repeat (first | refine blk_drewN ?_ _ | refine blk_drew ?_ | refine blk_alloc ?_ _)); exact BK571.out) hb); have n1_ := Aside0.mk (blk_below (g := gb585) (o := .cells #[.int .i64 t573, .int .i64 t574, .int .i64 t575, .int .i64 t576, .int .i64 t577, .int .i64 t578, .int .i64 t579, .int .i64 t580, .bool t581, .int .i64 t582, .int .i64 t583] 32 (0, 0)) (by (with_reducible repeat (first | refine blk_drewN ?_ _ | refine blk_drew ?_ | refine blk_alloc ?_ _)); exact BK585.out) hb); have n2_ := Aside0.mk (below_step (by repeat (first | (with_reducible first | exact HB.out | apply below_alloc | apply pw_below_drewN | apply below_drew1 | refine below_set ?_ GE571.out | refine below_set ?_ GE585.out) | exact HB.out)) hb); have n3_ := Aside0.mk (hbox); have n4_ := Aside0.mk ((by rw [hg]; exact (below_size (by repeat (first | (with_reducible first | exact HB.out | apply below_alloc | apply pw_below_drewN | apply below_drew1 | refine below_set ?_ GE571.out | refine below_set ?_ GE585.out) | exact HB.out))) : w.heap.size ≤ gb600)); have n5_ := Aside0.mk ((by rw [hg]; exact (below_size (by repeat (first | (with_reducible first | exact HB.out | apply below_alloc | apply pw_below_drewN | apply below_drew1 | refine below_set ?_ GE571.out | refine below_set ?_ GE585.out) | exact HB.out))) : w.heap.size ≤ gb600)); have n6_ := Aside0.mk ((by rw [hg]; exact Nat.ne_of_lt (blk_lt (g := gb571) (o := .cells #[.int .i64 a0_0, .int .i64 a0_1, .int .i64 a0_2, .int .i64 a0_3, .int .i64 a0_4, .int .i64 a0_5, .int .i64 a0_6, .int .i64 a0_7, .bool a0_8, .int .i64 a0_9, .int .i64 a0_10] 32 (0, 0)) (by (with_reducible repeat (first | refine blk_drewN ?_ _ | refine blk_drew ?_ | refine blk_alloc ?_ _)); exact BK571.out)) : gb571 ≠ gb600)); have n7_ := Aside0.mk ((by rw [hg]; exact Nat.ne_of_gt (blk_lt (g := gb571) (o := .cells #[.int .i64 a0_0, .int .i64 a0_1, .int .i64 a0_2, .int .i64 a0_3, .int .i64 a0_4, .int .i64 a0_5, .int .i64 a0_6, .int .i64 a0_7, .bool a0_8, .int .i64 a0_9, .int .i64 a0_10] 32 (0, 0)) (by (with_reducible repeat (first | refine blk_drewN ?_ _ | refine blk_drew ?_ | refine blk_alloc ?_ _)); exact BK571.out)) : gb600 ≠ gb571)); have n8_ := Aside0.mk ((by rw [hg]; exact Nat.ne_of_lt (blk_lt (g := gb585) (o := .cells #[.int .i64 t573, .int .i64 t574, .int .i64 t575, .int .i64 t576, .int .i64 t577, .int .i64 t578, .int .i64 t579, .int .i64 t580, .bool t581, .int .i64 t582, .int .i64 t583] 32 (0, 0)) (by (with_reducible repeat (first | refine blk_drewN ?_ _ | refine blk_drew ?_ | refine blk_alloc ?_ _)); exact BK585.out)) : gb585 ≠ gb600)); have n9_ := Aside0.mk ((by rw [hg]; exact Nat.ne_of_gt (blk_lt (g := gb585) (o := .cells #[.int .i64 t573, .int .i64 t574, .int .i64 t575, .int .i64 t576, .int .i64 t577, .int .i64 t578, .int .i64 t579, .int .i64 t580, .bool t581, .int .i64 t582, .int .i64 t583] 32 (0, 0)) (by (with_reducible repeat (first | refine blk_drewN ?_ _ | refine blk_drew ?_ | refine blk_alloc ?_ _)); exact BK585.out)) : gb600 ≠ gb585)); clear BK571; clear BK585; clear HB; have BK571 := n0_; have BK585 := n1_; have HB := n2_; have BK600 := n3_; have GW600 := n4_; have GE600 := n5_; have NB571_600 := n6_; have NB600_571 := n7_; have NB585_600 := n8_; have NB600_585 := n9_; clear n0_ n1_ n2_ n3_ n4_ n5_ n6_ n7_ n8_ n9_; clear hb hbox hg; have hnb40 := NB600_571.out; have hnc40 := NB571_600.out; have hnb41 := NB600_585.out; have hnc41 := NB585_600.out; have hcz42_0 : w39.cell? ⟨gb600, 0, none⟩ = some (.int .i64 0) := (blk_cell BK600.out 0).trans rfl; have hcz42_1 : w39.cell? ⟨gb600, 1, none⟩ = some (.int .i64 0) := (blk_cell BK600.out 1).trans rfl; have hcz42_2 : w39.cell? ⟨gb600, 2, none⟩ = some (.int .i64 0) := (blk_cell BK600.out 2).trans rfl; have hcz42_3 : w39.cell? ⟨gb600, 3, none⟩ = some (.int .i64 0) := (blk_cell BK600.out 3).trans rfl; have hcz42_4 : w39.cell? ⟨gb600, 4, none⟩ = some (.int .i64 0) := (blk_cell BK600.out 4).trans rfl; have hcz42_5 : w39.cell? ⟨gb600, 5, none⟩ = some (.int .i64 0) := (blk_cell BK600.out 5).trans rfl; have hcz42_6 : w39.cell? ⟨gb600, 6, none⟩ = some (.int .i64 0) := (blk_cell BK600.out 6).trans rfl; have hcz42_7 : w39.cell? ⟨gb600, 7, none⟩ = some (.int .i64 0) := (blk_cell BK600.out 7).trans rfl; have hcz42_8 : w39.cell? ⟨gb600, 8, none⟩ = some (.bool false) := (blk_cell BK600.out 8).trans rfl; have hcz42_9 : w39.cell? ⟨gb600, 9, none⟩ = some (.int .i64 0) := (blk_cell BK600.out 9).trans rfl; have hcz42_10 : w39.cell? ⟨gb600, 10, none⟩ = some (.int .i64 0) := (blk_cell BK600.out 10).trans rfl; have hfz42_0 := blk_frozen BK600.out 0; have hfz42_1 := blk_frozen BK600.out 1; have hfz42_2 := blk_frozen BK600.out 2; have hfz42_3 := blk_frozen BK600.out 3; have hfz42_4 := blk_frozen BK600.out 4; have hfz42_5 := blk_frozen BK600.out 5; have hfz42_6 := blk_frozen BK600.out 6; have hfz42_7 := blk_frozen BK600.out 7; have hfz42_8 := blk_frozen BK600.out 8; have hfz42_9 := blk_frozen BK600.out 9; have hfz42_10 := blk_frozen BK600.out 10; have hcz43_0 : w39.cell? ⟨gb585, 0, none⟩ = some (.int .i64 t573) := (blk_cell BK585.out 0).trans rfl; have hcz43_1 : w39.cell? ⟨gb585, 1, none⟩ = some (.int .i64 t574) := (blk_cell BK585.out 1).trans rfl; have hcz43_2 : w39.cell? ⟨gb585, 2, none⟩ = some (.int .i64 t575) := (blk_cell BK585.out 2).trans rfl; have hcz43_3 : w39.cell? ⟨gb585, 3, none⟩ = some (.int .i64 t576) := (blk_cell BK585.out 3).trans rfl; have hcz43_4 : w39.cell? ⟨gb585, 4, none⟩ = some (.int .i64 t577) := (blk_cell BK585.out 4).trans rfl; have hcz43_5 : w39.cell? ⟨gb585, 5, none⟩ = some (.int .i64 t578) := (blk_cell BK585.out 5).trans rfl; have hcz43_6 : w39.cell? ⟨gb585, 6, none⟩ = some (.int .i64 t579) := (blk_cell BK585.out 6).trans rfl; have hcz43_7 : w39.cell? ⟨gb585, 7, none⟩ = some (.int .i64 t580) := (blk_cell BK585.out 7).trans rfl; have hcz43_8 : w39.cell? ⟨gb585, 8, none⟩ = some (.bool t581) := (blk_cell BK585.out 8).trans rfl; have hcz43_9 : w39.cell? ⟨gb585, 9, none⟩ = some (.int .i64 t582) := (blk_cell BK585.out 9).trans rfl; have hcz43_10 : w39.cell? ⟨gb585, 10, none⟩ = some (.int .i64 t583) := (blk_cell BK585.out 10).trans rfl; have hfz43_0 := blk_frozen BK585.out 0; have hfz43_1 := blk_frozen BK585.out 1; have hfz43_2 := blk_frozen BK585.out 2; have hfz43_3 := blk_frozen BK585.out 3; have hfz43_4 := blk_frozen BK585.out 4; have hfz43_5 := blk_frozen BK585.out 5; have hfz43_6 := blk_frozen BK585.out 6; have hfz43_7 := blk_frozen BK585.out 7; have hfz43_8 := blk_frozen BK585.out 8; have hfz43_9 := blk_frozen BK585.out 9; have hfz43_10 := blk_frozen BK585.out 10; have hcz44_0 : w39.cell? ⟨gb571, 0, none⟩ = some (.int .i64 a0_0) := (blk_cell BK571.out 0).trans rfl; have hcz44_1 : w39.cell? ⟨gb571, 1, none⟩ = some (.int .i64 a0_1) := (blk_cell BK571.out 1).trans rfl; have hcz44_2 : w39.cell? ⟨gb571, 2, none⟩ = some (.int .i64 a0_2) := (blk_cell BK571.out 2).trans rfl; have hcz44_3 : w39.cell? ⟨gb571, 3, none⟩ = some (.int .i64 a0_3) := (blk_cell BK571.out 3).trans rfl; have hcz44_4 : w39.cell? ⟨gb571, 4, none⟩ = some (.int .i64 a0_4) := (blk_cell BK571.out 4).trans rfl; have hcz44_5 : w39.cell? ⟨gb571, 5, none⟩ = some (.int .i64 a0_5) := (blk_cell BK571.out 5).trans rfl; have hcz44_6 : w39.cell? ⟨gb571, 6, none⟩ = some (.int .i64 a0_6) := (blk_cell BK571.out 6).trans rfl; have hcz44_7 : w39.cell? ⟨gb571, 7, none⟩ = some (.int .i64 a0_7) := (blk_cell BK571.out 7).trans rfl; have hcz44_8 : w39.cell? ⟨gb571, 8, none⟩ = some (.bool a0_8) := (blk_cell BK571.out 8).trans rfl; have hcz44_9 : w39.cell? ⟨gb571, 9, none⟩ = some (.int .i64 a0_9) := (blk_cell BK571.out 9).trans rfl; have hcz44_10 : w39.cell? ⟨gb571, 10, none⟩ = some (.int .i64 a0_10) := (blk_cell BK571.out 10).trans rfl; have hfz44_0 := blk_frozen BK571.out 0; have hfz44_1 := blk_frozen BK571.out 1; have hfz44_2 := blk_frozen BK571.out 2; have hfz44_3 := blk_frozen BK571.out 3; have hfz44_4 := blk_frozen BK571.out 4; have hfz44_5 := blk_frozen BK571.out 5; have hfz44_6 := blk_frozen BK571.out 6; have hfz44_7 := blk_frozen BK571.out 7; have hfz44_8 := blk_frozen BK571.out 8; have hfz44_9 := blk_frozen BK571.out 9; have hfz44_10 := blk_frozen BK571.out 10) | (go_at_call 40; (with_reducible refine (thread_Late.calls t573 t574 t575 t576 t577 t578 t579 t580 t581 t582 t583 a1 false _ A34.out).mono ?_); rintro e w45 ⟨rfl, hb⟩; have n0_ := Aside0.mk (blk_below (g := gb571) (o := .cells #[.int .i64 a0_0, .int .i64 a0_1, .int .i64 a0_2, .int .i64 a0_3, .int .i64 a0_4, .int .i64 a0_5, .int .i64 a0_6, .int .i64 a0_7, .bool a0_8, .int .i64 a0_9, .int .i64 a0_10] 32 (0, 0)) (by (with_reducible repeat (first | refine blk_drewN ?_ _ | refine blk_drew ?_ | refine blk_alloc ?_ _)); refine blk_far ?_ NB571_600.out _; (with_reducible repeat (first | refine blk_drewN ?_ _ | refine blk_drew ?_ | refine blk_alloc ?_ _)); refine blk_far ?_ NB571_600.out _; (with_reducible repeat (first | refine blk_drewN ?_ _ | refine blk_drew ?_ | refine blk_alloc ?_ _)); refine blk_far ?_ NB571_600.out _; (with_reducible repeat (first | refine blk_drewN ?_ _ | refine blk_drew ?_ | refine blk_alloc ?_ _)); refine blk_far ?_ NB571_600.out _; (with_reducible repeat (first | refine blk_drewN ?_ _ | refine blk_drew ?_ | refine blk_alloc ?_ _)); refine blk_far ?_ NB571_600.out _; (with_reducible repeat (first | refine blk_drewN ?_ _ | refine blk_drew ?_ | refine blk_alloc ?_ _)); refine blk_far ?_ NB571_600.out _; (with_reducible repeat (first | refine blk_drewN ?_ _ | refine blk_drew ?_ | refine blk_alloc ?_ _)); refine blk_far ?_ NB571_600.out _; (with_reducible repeat (first | refine blk_drewN ?_ _ | refine blk_drew ?_ | refine blk_alloc ?_ _)); refine blk_far ?_ NB571_600.out _; (with_reducible repeat (first | refine blk_drewN ?_ _ | refine blk_drew ?_ | refine blk_alloc ?_ _)); refine blk_far ?_ NB571_600.out _; (with_reducible repeat (first | refine blk_drewN ?_ _ | refine blk_drew ?_ | refine blk_alloc ?_ _)); refine blk_far ?_ NB571_600.out _; (with_reducible repeat (first | refine blk_drewN ?_ _ | refine blk_drew ?_ | refine blk_alloc ?_ _)); refine blk_far ?_ NB571_600.out _; (with_reducible repeat (first | refine blk_drewN ?_ _ | refine blk_drew ?_ | refine blk_alloc ?_ _)); exact BK571.out) hb); have n1_ := Aside0.mk (blk_below (g := gb585) (o := .cells #[.int .i64 t573, .int .i64 t574, .int .i64 t575, .int .i64 t576, .int .i64 t577, .int .i64 t578, .int .i64 t579, .int .i64 t580, .bool t581, .int .i64 t582, .int .i64 t583] 32 (0, 0)) (by (with_reducible repeat (first | refine blk_drewN ?_ _ | refine blk_drew ?_ | refine blk_alloc ?_ _)); refine blk_far ?_ NB585_600.out _; (with_reducible repeat (first | refine blk_drewN ?_ _ | refine blk_drew ?_ | refine blk_alloc ?_ _)); refine blk_far ?_ NB585_600.out _; (with_reducible repeat (first | refine blk_drewN ?_ _ | refine blk_drew ?_ | refine blk_alloc ?_ _)); refine blk_far ?_ NB585_600.out _; (with_reducible repeat (first | refine blk_drewN ?_ _ | refine blk_drew ?_ | refine blk_alloc ?_ _)); refine blk_far ?_ NB585_600.out _; (with_reducible repeat (first | refine blk_drewN ?_ _ | refine blk_drew ?_ | refine blk_alloc ?_ _)); refine blk_far ?_ NB585_600.out _; (with_reducible repeat (first | refine blk_drewN ?_ _ | refine blk_drew ?_ | refine blk_alloc ?_ _)); refine blk_far ?_ NB585_600.out _; (with_reducible repeat (first | refine blk_drewN ?_ _ | refine blk_drew ?_ | refine blk_alloc ?_ _)); refine blk_far ?_ NB585_600.out _; (with_reducible repeat (first | refine blk_drewN ?_ _ | refine blk_drew ?_ | refine blk_alloc ?_ _)); refine blk_far ?_ NB585_600.out _; (with_reducible repeat (first | refine blk_drewN ?_ _ | refine blk_drew ?_ | refine blk_alloc ?_ _)); refine blk_far ?_ NB585_600.out _; (with_reducible repeat (first | refine blk_drewN ?_ _ | refine blk_drew ?_ | refine blk_alloc ?_ _)); refine blk_far ?_ NB585_600.out _; (with_reducible repeat (first | refine blk_drewN ?_ _ | refine blk_drew ?_ | refine blk_alloc ?_ _)); refine blk_far ?_ NB585_600.out _; (with_reducible repeat (first | refine blk_drewN ?_ _ | refine blk_drew ?_ | refine blk_alloc ?_ _)); exact BK585.out) hb); have n2_ := Aside0.mk (blk_below (g := gb600) (o := .cells #[.int .i64 t588, .int .i64 t589, .int .i64 t590, .int .i64 t591, .int .i64 t592, .int .i64 t593, .int .i64 t594, .int .i64 t595, .bool t596, .int .i64 t597, .int .i64 t598] 32 (0, 0)) (by (with_reducible repeat (first | refine blk_drewN ?_ _ | refine blk_drew ?_ | refine blk_alloc ?_ _)); refine blk_put (cs := #[.int .i64 t588, .int .i64 t589, .int .i64 t590, .int .i64 t591, .int .i64 t592, .int .i64 t593, .int .i64 t594, .int .i64 t595, .bool t596, .int .i64 t597, .int .i64 0]) ?_ 10 _ rfl; (with_reducible repeat (first | refine blk_drewN ?_ _ | refine blk_drew ?_ | refine blk_alloc ?_ _)); refine blk_put (cs := #[.int .i64 t588, .int .i64 t589, .int .i64 t590, .int .i64 t591, .int .i64 t592, .int .i64 t593, .int .i64 t594, .int .i64 t595, .bool t596, .int .i64 0, .int .i64 0]) ?_ 9 _ rfl; (with_reducible repeat (first | refine blk_drewN ?_ _ | refine blk_drew ?_ | refine blk_alloc ?_ _)); refine blk_put (cs := #[.int .i64 t588, .int .i64 t589, .int .i64 t590, .int .i64 t591, .int .i64 t592, .int .i64 t593, .int .i64 t594, .int .i64 t595, .bool false, .int .i64 0, .int .i64 0]) ?_ 8 _ rfl; (with_reducible repeat (first | refine blk_drewN ?_ _ | refine blk_drew ?_ | refine blk_alloc ?_ _)); refine blk_put (cs := #[.int .i64 t588, .int .i64 t589, .int .i64 t590, .int .i64 t591, .int .i64 t592, .int .i64 t593, .int .i64 t594, .int .i64 0, .bool false, .int .i64 0, .int .i64 0]) ?_ 7 _ rfl; (with_reducible repeat (first | refine blk_drewN ?_ _ | refine blk_drew ?_ | refine blk_alloc ?_ _)); refine blk_put (cs := #[.int .i64 t588, .int .i64 t589, .int .i64 t590, .int .i64 t591, .int .i64 t592, .int .i64 t593, .int .i64 0, .int .i64 0, .bool false, .int .i64 0, .int .i64 0]) ?_ 6 _ rfl; (with_reducible repeat (first | refine blk_drewN ?_ _ | refine blk_drew ?_ | refine blk_alloc ?_ _)); refine blk_put (cs := #[.int .i64 t588, .int .i64 t589, .int .i64 t590, .int .i64 t591, .int .i64 t592, .int .i64 0, .int .i64 0, .int .i64 0, .bool false, .int .i64 0, .int .i64 0]) ?_ 5 _ rfl; (with_reducible repeat (first | refine blk_drewN ?_ _ | refine blk_drew ?_ | refine blk_alloc ?_ _)); refine blk_put (cs := #[.int .i64 t588, .int .i64 t589, .int .i64 t590, .int .i64 t591, .int .i64 0, .int .i64 0, .int .i64 0, .int .i64 0, .bool false, .int .i64 0, .int .i64 0]) ?_ 4 _ rfl; (with_reducible repeat (first | refine blk_drewN ?_ _ | refine blk_drew ?_ | refine blk_alloc ?_ _)); refine blk_put (cs := #[.int .i64 t588, .int .i64 t589, .int .i64 t590, .int .i64 0, .int .i64 0, .int .i64 0, .int .i64 0, .int .i64 0, .bool false, .int .i64 0, .int .i64 0]) ?_ 3 _ rfl; (with_reducible repeat (first | refine blk_drewN ?_ _ | refine blk_drew ?_ | refine blk_alloc ?_ _)); refine blk_put (cs := #[.int .i64 t588, .int .i64 t589, .int .i64 0, .int .i64 0, .int .i64 0, .int .i64 0, .int .i64 0, .int .i64 0, .bool false, .int .i64 0, .int .i64 0]) ?_ 2 _ rfl; (with_reducible repeat (first | refine blk_drewN ?_ _ | refine blk_drew ?_ | refine blk_alloc ?_ _)); refine blk_put (cs := #[.int .i64 t588, .int .i64 0, .int .i64 0, .int .i64 0, .int .i64 0, .int .i64 0, .int .i64 0, .int .i64 0, .bool false, .int .i64 0, .int .i64 0]) ?_ 1 _ rfl; (with_reducible repeat (first | refine blk_drewN ?_ _ | refine blk_drew ?_ | refine blk_alloc ?_ _)); refine blk_put (cs := #[.int .i64 0, .int .i64 0, .int .i64 0, .int .i64 0, .int .i64 0, .int .i64 0, .int .i64 0, .int .i64 0, .bool false, .int .i64 0, .int .i64 0]) ?_ 0 _ rfl; (with_reducible repeat (first | refine blk_drewN ?_ _ | refine blk_drew ?_ | refine blk_alloc ?_ _)); exact BK600.out) hb); have n3_ := Aside0.mk (below_step (by repeat (first | (with_reducible first | exact HB.out | apply below_alloc | apply pw_below_drewN | apply below_drew1 | refine below_set ?_ GE571.out | refine below_set ?_ GE585.out | refine below_set ?_ GE600.out) | exact HB.out)) hb); clear BK571; clear BK585; clear BK600; clear HB; have BK571 := n0_; have BK585 := n1_; have BK600 := n2_; have HB := n3_; clear n0_ n1_ n2_ n3_; (try clear hb); (try clear hb2); (try clear hk); (try clear hi)))
                      go_ret
                      exact ⟨by first | rfl | (simp [errW_none, errW_some] <;> rfl) | (simp only [← hji6]; first | rfl | (simp [errW_none, errW_some] <;> rfl)) | (simp [*, errW_none, errW_some] <;> rfl), by repeat (first | (with_reducible first | exact HB.out | apply below_alloc | apply pw_below_drewN | apply below_drew1 | refine below_set ?_ GE571.out | refine below_set ?_ GE585.out | refine below_set ?_ GE600.out) | exact HB.out)⟩
                  · rw [if_neg c33] at H
                    have c33b0 : (t599 == 0) = false := beq_eq_false_iff_ne.mpr c33
                    have c33b1 : (t599 != 0) = true := bne_iff_ne.mpr c33
                    exact absurd ((Option.some.inj H).trans HR_.out) (by decide)
                · rw [if_neg c32] at H
                  have c32b0 : (t574 == a0_1) = false := beq_eq_false_iff_ne.mpr c32
                  have c32b1 : (t574 != a0_1) = true := bne_iff_ne.mpr c32
                  exact absurd ((Option.some.inj H).trans HR_.out) (by decide)
              · rw [if_neg c31] at H
                have c31b0 : (t583 == a0_10) = false := beq_eq_false_iff_ne.mpr c31
                have c31b1 : (t583 != a0_10) = true := bne_iff_ne.mpr c31
                exact absurd ((Option.some.inj H).trans HR_.out) (by decide)
            · rw [if_neg c30] at H
              have c30b0 : (t582 == a0_9) = false := beq_eq_false_iff_ne.mpr c30
              have c30b1 : (t582 != a0_9) = true := bne_iff_ne.mpr c30
              exact absurd ((Option.some.inj H).trans HR_.out) (by decide)
          · rw [if_neg c29] at H
            have c29b0 : (t573 == 0) = false := beq_eq_false_iff_ne.mpr c29
            have c29b1 : (t573 != 0) = true := bne_iff_ne.mpr c29
            exact absurd ((Option.some.inj H).trans HR_.out) (by decide)
        · replace c28 := Bool.eq_false_iff.mpr c28
          subst c28
          have H1 : (some false) = some r := by rw [if_neg (show ¬ (false = true) by decide)] at H; exact H
          clear H
          have H := H1
          clear H1
          exact absurd ((Option.some.inj H).trans HR_.out) (by decide)
      · rw [if_neg c26] at H
        have c26b0 : (t584 == 0) = false := beq_eq_false_iff_ne.mpr c26
        have c26b1 : (t584 != 0) = true := bne_iff_ne.mpr c26
        by_cases c46 : t572 = true
        · subst c46
          have H1 : (if (t573 == a0_0 && (t574 == a0_1 && (t575 == a0_2 && (t576 == a0_3 && (t577 == a0_4 && (t578 == a0_5 && (t579 == a0_6 && (t580 == a0_7 && (t581 == a0_8 && (t582 == a0_9 && (t583 == a0_10))))))))))) = true then (some x11_6) else (some false)) = some r := by rw [if_pos rfl] at H; exact H
          clear H
          have H := H1
          clear H1
          by_cases c47 : (t573 == a0_0 && (t574 == a0_1 && (t575 == a0_2 && (t576 == a0_3 && (t577 == a0_4 && (t578 == a0_5 && (t579 == a0_6 && (t580 == a0_7 && (t581 == a0_8 && (t582 == a0_9 && (t583 == a0_10))))))))))) = true
          · rw [if_pos c47] at H
            have c47b0 : (t573 == a0_0 && (t574 == a0_1 && (t575 == a0_2 && (t576 == a0_3 && (t577 == a0_4 && (t578 == a0_5 && (t579 == a0_6 && (t580 == a0_7 && (t581 == a0_8 && (t582 == a0_9 && (t583 == a0_10))))))))))) = true := c47
            (try (have c47b1 : decide (t573 = a0_0 && (t574 == a0_1 && (t575 == a0_2 && (t576 == a0_3 && (t577 == a0_4 && (t578 == a0_5 && (t579 == a0_6 && (t580 == a0_7 && (t581 == a0_8 && (t582 == a0_9 && (t583 == a0_10))))))))))) = true := by simpa using c47))
            (try (have c47b2 : (t573 == a0_0 && (t574 == a0_1 && (t575 == a0_2 && (t576 == a0_3 && (t577 == a0_4 && (t578 == a0_5 && (t579 == a0_6 && (t580 == a0_7 && (t581 == a0_8 && (t582 == a0_9 && (t583 == a0_10))))))))))) = true := by simpa using c47))
            clear c47
            obtain rfl := Option.some.inj H
            have hnb48 := NB585_571.out
            have hnc48 := NB571_585.out
            have hcz49_0 : wc.cell? ⟨gb585, 0, none⟩ = some (.int .i64 t573) := (blk_cell BK585.out 0).trans rfl
            have hcz49_1 : wc.cell? ⟨gb585, 1, none⟩ = some (.int .i64 t574) := (blk_cell BK585.out 1).trans rfl
            have hcz49_2 : wc.cell? ⟨gb585, 2, none⟩ = some (.int .i64 t575) := (blk_cell BK585.out 2).trans rfl
            have hcz49_3 : wc.cell? ⟨gb585, 3, none⟩ = some (.int .i64 t576) := (blk_cell BK585.out 3).trans rfl
            have hcz49_4 : wc.cell? ⟨gb585, 4, none⟩ = some (.int .i64 t577) := (blk_cell BK585.out 4).trans rfl
            have hcz49_5 : wc.cell? ⟨gb585, 5, none⟩ = some (.int .i64 t578) := (blk_cell BK585.out 5).trans rfl
            have hcz49_6 : wc.cell? ⟨gb585, 6, none⟩ = some (.int .i64 t579) := (blk_cell BK585.out 6).trans rfl
            have hcz49_7 : wc.cell? ⟨gb585, 7, none⟩ = some (.int .i64 t580) := (blk_cell BK585.out 7).trans rfl
            have hcz49_8 : wc.cell? ⟨gb585, 8, none⟩ = some (.bool t581) := (blk_cell BK585.out 8).trans rfl
            have hcz49_9 : wc.cell? ⟨gb585, 9, none⟩ = some (.int .i64 t582) := (blk_cell BK585.out 9).trans rfl
            have hcz49_10 : wc.cell? ⟨gb585, 10, none⟩ = some (.int .i64 t583) := (blk_cell BK585.out 10).trans rfl
            have hfz49_0 := blk_frozen BK585.out 0
            have hfz49_1 := blk_frozen BK585.out 1
            have hfz49_2 := blk_frozen BK585.out 2
            have hfz49_3 := blk_frozen BK585.out 3
            have hfz49_4 := blk_frozen BK585.out 4
            have hfz49_5 := blk_frozen BK585.out 5
            have hfz49_6 := blk_frozen BK585.out 6
            have hfz49_7 := blk_frozen BK585.out 7
            have hfz49_8 := blk_frozen BK585.out 8
            have hfz49_9 := blk_frozen BK585.out 9
            have hfz49_10 := blk_frozen BK585.out 10
            have hcz50_0 : wc.cell? ⟨gb571, 0, none⟩ = some (.int .i64 a0_0) := (blk_cell BK571.out 0).trans rfl
            have hcz50_1 : wc.cell? ⟨gb571, 1, none⟩ = some (.int .i64 a0_1) := (blk_cell BK571.out 1).trans rfl
            have hcz50_2 : wc.cell? ⟨gb571, 2, none⟩ = some (.int .i64 a0_2) := (blk_cell BK571.out 2).trans rfl
            have hcz50_3 : wc.cell? ⟨gb571, 3, none⟩ = some (.int .i64 a0_3) := (blk_cell BK571.out 3).trans rfl
            have hcz50_4 : wc.cell? ⟨gb571, 4, none⟩ = some (.int .i64 a0_4) := (blk_cell BK571.out 4).trans rfl
            have hcz50_5 : wc.cell? ⟨gb571, 5, none⟩ = some (.int .i64 a0_5) := (blk_cell BK571.out 5).trans rfl
            have hcz50_6 : wc.cell? ⟨gb571, 6, none⟩ = some (.int .i64 a0_6) := (blk_cell BK571.out 6).trans rfl
            have hcz50_7 : wc.cell? ⟨gb571, 7, none⟩ = some (.int .i64 a0_7) := (blk_cell BK571.out 7).trans rfl
            have hcz50_8 : wc.cell? ⟨gb571, 8, none⟩ = some (.bool a0_8) := (blk_cell BK571.out 8).trans rfl
            have hcz50_9 : wc.cell? ⟨gb571, 9, none⟩ = some (.int .i64 a0_9) := (blk_cell BK571.out 9).trans rfl
            have hcz50_10 : wc.cell? ⟨gb571, 10, none⟩ = some (.int .i64 a0_10) := (blk_cell BK571.out 10).trans rfl
            have hfz50_0 := blk_frozen BK571.out 0
            have hfz50_1 := blk_frozen BK571.out 1
            have hfz50_2 := blk_frozen BK571.out 2
            have hfz50_3 := blk_frozen BK571.out 3
            have hfz50_4 := blk_frozen BK571.out 4
            have hfz50_5 := blk_frozen BK571.out 5
            have hfz50_6 := blk_frozen BK571.out 6
            have hfz50_7 := blk_frozen BK571.out 7
            have hfz50_8 := blk_frozen BK571.out 8
            have hfz50_9 := blk_frozen BK571.out 9
            have hfz50_10 := blk_frozen BK571.out 10
            go_wp2
            go_ret
            exact ⟨by first | rfl | (simp [errW_none, errW_some] <;> rfl) | (simp only [← hji6]; first | rfl | (simp [errW_none, errW_some] <;> rfl)) | (simp [*, errW_none, errW_some] <;> rfl), by repeat (first | (with_reducible first | exact HB.out | apply below_alloc | apply pw_below_drewN | apply below_drew1 | refine below_set ?_ GE571.out | refine below_set ?_ GE585.out) | exact HB.out)⟩
          · rw [if_neg c47] at H
            have c47b0 : (t573 == a0_0 && (t574 == a0_1 && (t575 == a0_2 && (t576 == a0_3 && (t577 == a0_4 && (t578 == a0_5 && (t579 == a0_6 && (t580 == a0_7 && (t581 == a0_8 && (t582 == a0_9 && (t583 == a0_10))))))))))) = false := by simpa using c47
            (try (have c47b1 : decide (t573 = a0_0 && (t574 == a0_1 && (t575 == a0_2 && (t576 == a0_3 && (t577 == a0_4 && (t578 == a0_5 && (t579 == a0_6 && (t580 == a0_7 && (t581 == a0_8 && (t582 == a0_9 && (t583 == a0_10))))))))))) = false := by simpa using c47))
            (try (have c47b2 : (t573 == a0_0 && (t574 == a0_1 && (t575 == a0_2 && (t576 == a0_3 && (t577 == a0_4 && (t578 == a0_5 && (t579 == a0_6 && (t580 == a0_7 && (t581 == a0_8 && (t582 == a0_9 && (t583 == a0_10))))))))))) = false := by simpa using c47))
            (try (have c47b3 : ¬ (t573 = a0_0 && (t574 == a0_1 && (t575 == a0_2 && (t576 == a0_3 && (t577 == a0_4 && (t578 == a0_5 && (t579 == a0_6 && (t580 == a0_7 && (t581 == a0_8 && (t582 == a0_9 && (t583 == a0_10))))))))))) := by simpa using c47))
            clear c47
            exact absurd ((Option.some.inj H).trans HR_.out) (by decide)
        · replace c46 := Bool.eq_false_iff.mpr c46
          subst c46
          have H1 : (some false) = some r := by rw [if_neg (show ¬ (false = true) by decide)] at H; exact H
          clear H
          have H := H1
          clear H1
          exact absurd ((Option.some.inj H).trans HR_.out) (by decide)

/-- THE ONE PURE STATEMENT of sakialaw12_ThreadEnds. -/
def sakialaw12_ThreadEnds.Pure : Prop := ∀ (a0_0 : Int) (a0_1 : Int) (a0_2 : Int) (a0_3 : Int) (a0_4 : Int) (a0_5 : Int) (a0_6 : Int) (a0_7 : Int) (a0_8 : Bool) (a0_9 : Int) (a0_10 : Int) (a1 : Int) (a2 : Int), good32 (⟨a0_0, a0_1, a0_2, a0_3, a0_4, a0_5, a0_6, a0_7, a0_8, a0_9, a0_10⟩ : S32) → (Lit.int .i64 a1).wf = true → (Lit.int .u32 a2).wf = true → ∃ k, sakialaw12_ThreadEnds.f k a0_0 a0_1 a0_2 a0_3 a0_4 a0_5 a0_6 a0_7 a0_8 a0_9 a0_10 a1 a2 = some true

end Go.Proofs.Ytlhaghkepnfajaa.PL
