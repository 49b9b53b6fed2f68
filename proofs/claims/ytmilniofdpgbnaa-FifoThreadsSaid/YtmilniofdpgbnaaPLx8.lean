-- written by this repo's pp.py (the kit's print, turned by wip/patches.py)
import Derived.Maps.OwnSet
import Derived.Maps.Own
import Derived.Test.YtmilniofdpgbnaaCopyLib
import Derived.Test.YtmilniofdpgbnaaMapLib
import Derived.Test.YtmilniofdpgbnaaPLx0
import Derived.Test.YtmilniofdpgbnaaPLx3
import Derived.Test.YtmilniofdpgbnaaPLx4
import Derived.Test.YtmilniofdpgbnaaPLx6
import Derived.Test.YtmilniofdpgbnaaPLx7
namespace Go.Proofs.Ytmilniofdpgbnaa.PL
open Go.RowKit Go.Proofs.YtmilniofdpgbnaaW.PrintWords Go.Proofs.YtmilniofdpgbnaaW.PrintLast Go.Proofs.YtmilniofdpgbnaaW.PrintMore
attribute [local go_sem] max2_int min2_int max_two min_two max_three min_three max_four min_four   -- for this text's walks alone
set_option linter.unusedVariables false
set_option linter.unusedSimpArgs false

/-! ### fifo_own: function 38 -/
def fifo_own.f (l0_0 : List Int) (a0_1 : Int) (a0_2 : Int) (a0_3 : Int) : Option (List Int × Int × Int × Int) := if 0 ≤ (l0_0.length : Int) then (if ((l0_0.length : Int) : Int).toNat ≤ 35184372088832 then ((some (List.replicate ((l0_0.length : Int) : Int).toNat 0 : List Int)).bind fun y171 => (if l0_0.length ≤ y171.length then (some ((l0_0 ++ y171.drop l0_0.length), a0_1, a0_2, a0_3)) else (none))) else (none)) else (none)
set_option maxHeartbeats 8000000 in
set_option maxRecDepth 100000 in
theorem fifo_own.calls (A0_0 : Option Addr) (c0_0 : Nat) (l0_0 : List Int) (a0_1 : Int) (a0_2 : Int) (a0_3 : Int) (r1 : List Int) (r2 : Int) (r3 : Int) (r4 : Int) (w : World) (hr0_0 : Kd.C (Kd.int .i64) w A0_0 l0_0.length l0_0) (hc0_0 : l0_0.length ≤ c0_0) (h : fifo_own.f l0_0 a0_1 a0_2 a0_3 = some (r1, r2, r3, r4)) :
  Calls Try.prog 38 #[.agg #[.slice A0_0 l0_0.length c0_0, .int .i64 a0_1, .int .i64 a0_2, .int .i64 a0_3]] w fun e w' => ∃ v0_ : Value, e = .returned (.agg #[v0_, .int .i64 r2, .int .i64 r3, .int .i64 r4]) ∧ Kd.R (Kd.int .i64) 3 w' w.heap.size (fun _ => True) v0_ r1 ∧ Below w.heap.size w w' := by
 have hu24 := Try.underlying24
 have HR0_0 := Aside0.mk hr0_0
 have HC0_0 := Aside0.mk hc0_0
 clear hr0_0 hc0_0
 have HB := Aside0.mk (Below.refl w.heap.size w)
 have H : (if 0 ≤ (l0_0.length : Int) then (if ((l0_0.length : Int) : Int).toNat ≤ 35184372088832 then ((some (List.replicate ((l0_0.length : Int) : Int).toNat 0 : List Int)).bind fun y171 => (if l0_0.length ≤ y171.length then (some ((l0_0 ++ y171.drop l0_0.length), a0_1, a0_2, a0_3)) else (none))) else (none)) else (none)) = some (r1, r2, r3, r4) := h
 clear h
 by_cases c2 : 0 ≤ (l0_0.length : Int)
 ·rw [if_pos c2] at H
  have c2b0 := eq_true c2
  have c2b1 : decide (0 ≤ (l0_0.length : Int)) = true := decide_eq_true c2
  clear c2
  by_cases c3 : ((l0_0.length : Int) : Int).toNat ≤ 35184372088832
  ·rw [if_pos c3] at H
   have c3b0 := eq_true c3
   have c3b1 : decide (((l0_0.length : Int) : Int).toNat ≤ 35184372088832) = true := decide_eq_true c3
   clear c3
   obtain ⟨y171, hy171⟩ : ∃ y_ : List Int, y_ = (List.replicate ((l0_0.length : Int) : Int).toNat 0) := ⟨_, rfl⟩
   replace H : (if l0_0.length ≤ y171.length then (some ((l0_0 ++ y171.drop l0_0.length), a0_1, a0_2, a0_3)) else (none)) = some (r1, r2, r3, r4) := by first | (rw [hy171]; with_reducible exact H) | (have H2_ := (Option.bind_some _ _).symm.trans H; rw [hy171]; with_reducible exact H2_) | (have H2_ := (Option.bind_some _ _).symm.trans H; with_reducible exact H2_) | with_reducible exact H | (rw [hy171]; exact H) | exact H
   have Ny171 := Aside0.mk hy171
   clear hy171
   by_cases c4 : l0_0.length ≤ y171.length
   ·rw [if_pos c4] at H
    have LMc4 := Aside0.mk c4
    clear c4
    obtain ⟨y174, hy174⟩ : ∃ y_ : List Int, y_ = (l0_0 ++ y171.drop l0_0.length) := ⟨_, rfl⟩
    replace H : (some (y174, a0_1, a0_2, a0_3)) = some (r1, r2, r3, r4) := by first | (rw [hy174]; with_reducible exact H) | (have H2_ := (Option.bind_some _ _).symm.trans H; rw [hy174]; with_reducible exact H2_) | (have H2_ := (Option.bind_some _ _).symm.trans H; with_reducible exact H2_) | with_reducible exact H | (rw [hy174]; exact H) | exact H
    have Ny174 := Aside0.mk hy174
    clear hy174
    simp only [Option.some.injEq, Prod.mk.injEq] at H
    obtain ⟨rfl, rfl, rfl, rfl⟩ := H
    go_enter Try.func38, Try.ntmps38
    go_wp2_with (first | ((with_reducible refine gate_dst (N := 1) rfl ?_); refine box_event ?hg (N := 1) ?hd (cs := #[.slice A0_0 l0_0.length c0_0, .int .i64 a0_1, .int .i64 a0_2, .int .i64 a0_3]) (t := 24) ?hr ?_; (case hd => rfl); (case hg => rfl); (case hr => first | (go_simp; done) | (go_simp; rfl)); intro gb169 hg w5 hbox hb; have n0_ := Aside0.mk (below_step HB.out hb); have n1_ := Aside0.mk (hbox); have n2_ := Aside0.mk ((by rw [hg]; exact (below_size HB.out) : w.heap.size ≤ gb169)); have n3_ := Aside0.mk ((by rw [hg]; exact (below_size HB.out) : w.heap.size ≤ gb169)); clear HB; have HB := n0_; have BK169 := n1_; have GW169 := n2_; have GE169 := n3_; clear n0_ n1_ n2_ n3_; clear hb hbox hg) | ((with_reducible refine gate_dst (N := 2) rfl ?_); refine box_event ?hg (N := 2) ?hd (cs := #[.slice none 0 0, .int .i64 0, .int .i64 0, .int .i64 0]) (t := 24) ?hr ?_; (case hd => rfl); (case hg => rfl); (case hr => first | (go_simp; done) | (go_simp; rfl)); intro gb170 hg w6 hbox hb; have n0_ := Aside0.mk (blk_below BK169.out hb); have n1_ := Aside0.mk (below_step HB.out hb); have n2_ := Aside0.mk (hbox); have n3_ := Aside0.mk ((by rw [hg]; exact (below_size HB.out) : w.heap.size ≤ gb170)); have n4_ := Aside0.mk ((by rw [hg]; exact (below_size HB.out) : w.heap.size ≤ gb170)); have n5_ := Aside0.mk ((by rw [hg]; exact Nat.ne_of_lt (blk_lt BK169.out) : gb169 ≠ gb170)); have n6_ := Aside0.mk ((by rw [hg]; exact Nat.ne_of_gt (blk_lt BK169.out) : gb170 ≠ gb169)); clear BK169; clear HB; have BK169 := n0_; have HB := n1_; have BK170 := n2_; have GW170 := n3_; have GE170 := n4_; have NB169_170 := n5_; have NB170_169 := n6_; clear n0_ n1_ n2_ n3_ n4_ n5_ n6_; clear hb hbox hg; have hnb7 := NB169_170.out; have hnc7 := NB170_169.out; obtain ⟨hcz8_0, hcz8_1, hcz8_2, hcz8_3, hfz8_0, hfz8_1, hfz8_2, hfz8_3⟩ := cells4 (w := w6) (g := gb169) BK169.out) | ((with_reducible refine gate_dst (N := 7) rfl ?_); refine Kd.R_make (Kd.int .i64) _ 3 rfl (N := 7) rfl 22 _ _ rfl (l0_0.length : Int) rfl rfl Try.underlying22 (.int .i64 0) 8 info3 rfl (by decide) (by omega) 0 (ok := fun _ => True) (okp := fun _ => True) rfl (fun _ hk => hk) trivial (of_decide_eq_true (by first | (with_reducible assumption) | assumption)) (Nat.le_trans (Nat.mul_le_mul_right _ (of_decide_eq_true (by first | (with_reducible assumption) | assumption) : (l0_0.length : Int).toNat ≤ 35184372088832)) (by omega)) (Below.refl _ _) (Nat.le_refl _) ?_; intro v172 w9 ho10 hb hg_ hnew_; clear hg_ hnew_; (first | rw [← Ny171.out] at ho10 | (simp only [Int.reduceToNat] at ho10; rw [← Ny171.out] at ho10)); have n0_ := Aside0.mk (Kd.R_lower ho10 (below_size HB.out)); have n1_ := Aside0.mk (blk_below BK169.out hb); have n2_ := Aside0.mk (blk_below BK170.out hb); have n3_ := Aside0.mk (below_step HB.out hb); clear BK169; clear BK170; clear HB; have HO173 := n0_; have BK169 := n1_; have BK170 := n2_; have HB := n3_; clear n0_ n1_ n2_ n3_; clear hb ho10; obtain ⟨hcz11_0, hcz11_1, hcz11_2, hcz11_3, hfz11_0, hfz11_1, hfz11_2, hfz11_3⟩ := cells4 (w := w9) (g := gb169) BK169.out) | ((with_reducible refine gate_dst (N := 11) rfl ?_); refine R_copy (Kd.int .i64) rfl (.tmp 8) (.tmp 10) 22 3 rfl Try.underlying22 (by kernel_rfl) (fun h _ _ _ => h) (v := v172) (xs := y171) (l := l0_0) rfl rfl (by (with_reducible repeat (first | apply Kd.R_alloc | apply Kd.R_drewN | apply Kd.R_drew)); exact HO173.out) ?aR LMc4.out ?_; (case aR => repeat (first | exact (Kd.C_below HR0_0.out HB.out) | (with_reducible refine Kd.C_alloc ?_ _) | (with_reducible refine Kd.C_drewN ?_ _) | (with_reducible refine Kd.C_drew ?_))); intro w12 ho hg; rw [← Ny174.out] at ho; have n0_ := Aside0.mk (blk_grown BK169.out hg (Kd.R_ne HO173.out BK169.out (by decide))); have n1_ := Aside0.mk (blk_grown BK170.out hg (Kd.R_ne HO173.out BK170.out (by decide))); have n2_ := Aside0.mk (ho); have n3_ := Aside0.mk (Below.grown HB.out hg (below_size HB.out) (Kd.R_base (HO173.out))); clear BK169; clear BK170; clear HO173; clear HB; have BK169 := n0_; have BK170 := n1_; have HO173 := n2_; have HB := n3_; clear n0_ n1_ n2_ n3_; clear ho hg; obtain ⟨Ao14, co14, eo14⟩ := Kd.R_slice HO173.out; subst eo14; obtain ⟨hcz15_0, hcz15_1, hcz15_2, hcz15_3, hfz15_0, hfz15_1, hfz15_2, hfz15_3⟩ := cells4 (w := w12) (g := gb169) BK169.out; obtain ⟨hcz16_0, hcz16_1, hcz16_2, hcz16_3, hfz16_0, hfz16_1, hfz16_2, hfz16_3⟩ := cells4 (w := w12) (g := gb170) BK170.out))
    refine bodyPost_ret (results_cell_row rfl _ _ gb170 24 #[.slice Ao14 y174.length co14, .int .i64 a0_1, .int .i64 a0_2, .int .i64 a0_3] (0, 0) _ rfl (by (with_reducible repeat (first | apply kN | apply kD | apply kA)); refine blk_put (cs := #[.slice Ao14 y174.length co14, .int .i64 a0_1, .int .i64 a0_2, .int .i64 0]) ?_ 3 _ rfl; (with_reducible repeat (first | apply kN | apply kD | apply kA)); refine blk_put (cs := #[.slice Ao14 y174.length co14, .int .i64 a0_1, .int .i64 0, .int .i64 0]) ?_ 2 _ rfl; (with_reducible repeat (first | apply kN | apply kD | apply kA)); refine blk_put (cs := #[.slice Ao14 y174.length co14, .int .i64 0, .int .i64 0, .int .i64 0]) ?_ 1 _ rfl; (with_reducible repeat (first | apply kN | apply kD | apply kA)); refine blk_put (cs := #[.slice none 0 0, .int .i64 0, .int .i64 0, .int .i64 0]) ?_ 0 _ rfl; (with_reducible repeat (first | apply kN | apply kD | apply kA)); refine blk_far ?_ NB170_169.out _; (with_reducible repeat (first | apply kN | apply kD | apply kA)); exact BK170.out) Try.underlying24 rfl (by kernel_rfl)) rfl ?_
    exact ⟨_, by first | rfl | (simp [errW_none, errW_some] <;> rfl) | (simp [*, errW_none, errW_some] <;> rfl), by (with_reducible repeat (first | apply Kd.R_alloc | apply Kd.R_drewN | apply Kd.R_drew)); exact Kd.R_mono (Kd.R_far (p := ⟨gb170, 3, none⟩) (Kd.R_far (p := ⟨gb170, 2, none⟩) (Kd.R_far (p := ⟨gb170, 1, none⟩) (Kd.R_far (p := ⟨gb170, 0, none⟩) (Kd.R_far (p := ⟨gb169, 0, none⟩) (Kd.R_types (Kd.R_types HO173.out BK169.out (by decide)) BK170.out (by decide)) (fun _ hk => hk.1.2) (.slice Ao14 y174.length co14)) (fun _ hk => hk.2) (.slice Ao14 y174.length co14)) (fun _ hk => hk.2) (.int .i64 a0_1)) (fun _ hk => hk.2) (.int .i64 a0_2)) (fun _ hk => hk.2) (.int .i64 a0_3)) (fun _ hk => trivial), by repeat (first | (with_reducible first | exact HB.out | apply bA | apply bN | apply bD | refine below_set ?_ GE169.out | refine below_set ?_ GE170.out) | exact HB.out)⟩
   ·rw [if_neg c4] at H
    exact absurd H (by simp)
  ·rw [if_neg c3] at H
   exact absurd H (by simp)
 ·rw [if_neg c2] at H
  exact absurd H (by simp)

/-! ### fifo_Do: function 16 -/
/-- What one of a queue's methods does. -/
def RowC (F : Nat) (f : List Int → Int → Int → Int → Int → Int → Int → Int → Int → Option (List Int × Int × Int × Int × Bool)) : Prop :=
  ∀ (P0_ : Nat → Prop) (A : Option Addr) (c : Nat) (l : List Int) (a1 a2 a3 b0 b1 b2 b3 b4 : Int) (r1 : List Int) (r2 r3 r4 : Int) (r5 : Bool) (w : World), Kd.V (Kd.int .i64) 3 w w.heap.size (fun k_ => P0_ k_) (.slice A l.length c) l → f l a1 a2 a3 b0 b1 b2 b3 b4 = some (r1, r2, r3, r4, r5) →
    Calls Try.prog F #[.agg #[.slice A l.length c, .int .i64 a1, .int .i64 a2, .int .i64 a3], .agg #[.int .i64 b0, .int .i64 b1, .int .i64 b2, .int .i64 b3, .int .i64 b4]] w fun e w' => ∃ v0_ : Value, e = .returned (.tuple #[.agg #[v0_, .int .i64 r2, .int .i64 r3, .int .i64 r4], .bool r5]) ∧ Kd.V (Kd.int .i64) 3 w' w.heap.size (fun k_ => (P0_ k_ ∨ w.heap.size ≤ k_)) v0_ r1 ∧ Below w.heap.size w w'
theorem rowC_evict : RowC 33 fifo_row_evict.f := fun P0 A c l a1 a2 a3 b0 b1 b2 b3 b4 r1 r2 r3 r4 r5 w hs h => fifo_row_evict.calls P0 A c l a1 a2 a3 b0 b1 b2 b3 b4 r1 r2 r3 r4 r5 w hs h
theorem rowC_drain : RowC 34 fifo_row_drain.f := fun P0 A c l a1 a2 a3 b0 b1 b2 b3 b4 r1 r2 r3 r4 r5 w hs h => fifo_row_drain.calls P0 A c l a1 a2 a3 b0 b1 b2 b3 b4 r1 r2 r3 r4 r5 w hs h
theorem rowC_halt : RowC 35 fifo_row_halt.f := fun P0 A c l a1 a2 a3 b0 b1 b2 b3 b4 r1 r2 r3 r4 r5 w hs h => fifo_row_halt.calls P0 A c l a1 a2 a3 b0 b1 b2 b3 b4 r1 r2 r3 r4 r5 w hs h
theorem rowC_send : RowC 36 fifo_row_send.f := fun P0 A c l a1 a2 a3 b0 b1 b2 b3 b4 r1 r2 r3 r4 r5 w hs h => fifo_row_send.calls P0 A c l a1 a2 a3 b0 b1 b2 b3 b4 r1 r2 r3 r4 r5 w hs h
theorem rowC_recv : RowC 37 fifo_row_recv.f := fun P0 A c l a1 a2 a3 b0 b1 b2 b3 b4 r1 r2 r3 r4 r5 w hs h => fifo_row_recv.calls P0 A c l a1 a2 a3 b0 b1 b2 b3 b4 r1 r2 r3 r4 r5 w hs h
def fifo_Do.fn (b1 : Int) : Nat := if b1 = 9 then 33 else if b1 = 7 then 34 else if b1 = 8 then 35 else if b1 ≤ 3 then 36 else 37
def fifo_Do.row (l : List Int) (a1 a2 a3 b0 b1 b2 b3 b4 : Int) : Option (List Int × Int × Int × Int × Bool) := if b1 = 9 then fifo_row_evict.f l a1 a2 a3 b0 b1 b2 b3 b4 else if b1 = 7 then fifo_row_drain.f l a1 a2 a3 b0 b1 b2 b3 b4 else if b1 = 8 then fifo_row_halt.f l a1 a2 a3 b0 b1 b2 b3 b4 else if b1 ≤ 3 then fifo_row_send.f l a1 a2 a3 b0 b1 b2 b3 b4 else fifo_row_recv.f l a1 a2 a3 b0 b1 b2 b3 b4
def fifo_Do.f (l : List Int) (a1 a2 a3 b0 b1 b2 b3 b4 : Int) : Option (List Int × Int × Int × Int × Bool) :=
  if 1 ≤ b1 ∧ b1 ≤ 9 then (fifo_Do.row l a1 a2 a3 b0 b1 b2 b3 b4).bind fun r => if r.2.2.2.2 = false then (fifo_own.f l a1 a2 a3).bind fun q => some (q.1, q.2.1, q.2.2.1, q.2.2.2, false) else (fifo_own.f r.1 r.2.1 r.2.2.1 r.2.2.2.1).bind fun q => some (q.1, q.2.1, q.2.2.1, q.2.2.2, true)
  else (fifo_own.f l a1 a2 a3).bind fun q => some (q.1, q.2.1, q.2.2.1, q.2.2.2, false)
theorem fifo_Do.rowC (b1 : Int) : RowC (fifo_Do.fn b1) (fun l a1 a2 a3 b0 b1' b2 b3 b4 => if b1 = 9 then fifo_row_evict.f l a1 a2 a3 b0 b1' b2 b3 b4 else if b1 = 7 then fifo_row_drain.f l a1 a2 a3 b0 b1' b2 b3 b4 else if b1 = 8 then fifo_row_halt.f l a1 a2 a3 b0 b1' b2 b3 b4 else if b1 ≤ 3 then fifo_row_send.f l a1 a2 a3 b0 b1' b2 b3 b4 else fifo_row_recv.f l a1 a2 a3 b0 b1' b2 b3 b4) := by
  unfold fifo_Do.fn
  by_cases h1 : b1 = 9
  · simp only [if_pos h1]; exact rowC_evict
  simp only [if_neg h1]
  by_cases h2 : b1 = 7
  · simp only [if_pos h2]; exact rowC_drain
  simp only [if_neg h2]
  by_cases h3 : b1 = 8
  · simp only [if_pos h3]; exact rowC_halt
  simp only [if_neg h3]
  by_cases h4 : b1 ≤ 3
  · simp only [if_pos h4]; exact rowC_send
  · simp only [if_neg h4]; exact rowC_recv
theorem fifo_Do.func (b1 : Int) : ∃ g, Try.prog.funcs[fifo_Do.fn b1]? = some g ∧ (g.name == "runtime.NumGoroutine") = false ∧ g.body.isSome = true := by
  unfold fifo_Do.fn
  by_cases h1 : b1 = 9
  · simp only [if_pos h1]; exact ⟨_, Try.func33, by kernel_rfl, rfl⟩
  simp only [if_neg h1]
  by_cases h2 : b1 = 7
  · simp only [if_pos h2]; exact ⟨_, Try.func34, by kernel_rfl, rfl⟩
  simp only [if_neg h2]
  by_cases h3 : b1 = 8
  · simp only [if_pos h3]; exact ⟨_, Try.func35, by kernel_rfl, rfl⟩
  simp only [if_neg h3]
  by_cases h4 : b1 ≤ 3
  · simp only [if_pos h4]; exact ⟨_, Try.func36, by kernel_rfl, rfl⟩
  · simp only [if_neg h4]; exact ⟨_, Try.func37, by kernel_rfl, rfl⟩
def fifo_Do.D0 : DataW Value := (((DataW.map []).put (.int .i64 9) (.held (.func (.func 33) #[] #[]))).put (.int .i64 7) (.held (.func (.func 34) #[] #[]))).put (.int .i64 8) (.held (.func (.func 35) #[] #[]))
def fifo_Do.D1 : Nat → DataW Value
  | 0 => fifo_Do.D0
  | i + 1 => (fifo_Do.D1 i).put (.int .i64 ((i : Int) + 1)) (.held (.func (.func 36) #[] #[]))
def fifo_Do.D2 : Nat → DataW Value
  | 0 => fifo_Do.D1 3
  | i + 1 => (fifo_Do.D2 i).put (.int .i64 ((i : Int) + 4)) (.held (.func (.func 37) #[] #[]))
theorem fifo_Do.zero (w : World) : (zeroValue 59).run Try.prog w = .ok .nilFunc w := by kernel_rfl
theorem fifo_Do.look {w : World} {b : Nat} (h : w.ownsMap Try.prog 3 heldE b 9 (fifo_Do.D2 3)) (b1 : Int) (hb : 1 ≤ b1 ∧ b1 ≤ 9) :
    (Instr.lookup 62 (.map (some b)) (.int .i64 b1) true).run Try.prog w = .ok (.tuple #[.func (.func (fifo_Do.fn b1)) #[] #[], .bool true]) w := by
  have key : ∀ (n : Int) (f : Value) (hn : (fifo_Do.D2 3).atKey (.int .i64 n) (.held .nilFunc) = .held f) (hh : Maps.has (fifo_Do.D2 3) (.int .i64 n) = true) (hw : (Lit.int IntKind.i64 n).wf = true), (Instr.lookup 62 (.map (some b)) (.int .i64 n) true).run Try.prog w = .ok (.tuple #[f, .bool true]) w := by
    intro n f hn hh hw
    obtain ⟨v, ps, hrun, hv⟩ := h.look_ok (Go.Maps.int_keyed Try.underlying3) Try.underlying62 (fifo_Do.zero w) (zd := .held .nilFunc) (zp := []) rfl (key := .int .i64 n) (kl := .int .i64 n) (Go.Maps.keyOf_int_mk Try.underlying3 hw)
    rw [hh, hn] at *
    have h1 := congrArg Prod.fst (Option.some.inj hv)
    have h2 : (DataW.held v : DataW Value) = .held f := h1
    rw [hrun, DataW.held.inj h2]
  obtain rfl | rfl | rfl | rfl | rfl | rfl | rfl | rfl | rfl : b1 = 1 ∨ b1 = 2 ∨ b1 = 3 ∨ b1 = 4 ∨ b1 = 5 ∨ b1 = 6 ∨ b1 = 7 ∨ b1 = 8 ∨ b1 = 9 := by omega
  all_goals exact key _ _ rfl rfl rfl
theorem fifo_Do.list : ∃ l : List (Lit × DataW Value), fifo_Do.D2 3 = .map l ∧ ∀ p ∈ l, ∃ n : Int, p.1 = .int .i64 n ∧ 1 ≤ n ∧ n ≤ 9 := by
  refine ⟨_, rfl, ?_⟩
  intro p hp
  have hp2 : p ∈ [((.int .i64 1 : Lit), (.held (.func (.func 36) #[] #[]) : DataW Value)), (.int .i64 2, .held (.func (.func 36) #[] #[])), (.int .i64 3, .held (.func (.func 36) #[] #[])), (.int .i64 4, .held (.func (.func 37) #[] #[])), (.int .i64 5, .held (.func (.func 37) #[] #[])), (.int .i64 6, .held (.func (.func 37) #[] #[])), (.int .i64 7, .held (.func (.func 34) #[] #[])), (.int .i64 8, .held (.func (.func 35) #[] #[])), (.int .i64 9, .held (.func (.func 33) #[] #[]))] := hp
  simp only [List.mem_cons, List.not_mem_nil, or_false] at hp2
  rcases hp2 with rfl | rfl | rfl | rfl | rfl | rfl | rfl | rfl | rfl
  all_goals exact ⟨_, rfl, by decide, by decide⟩
theorem fifo_Do.look_no {w : World} {b : Nat} (h : w.ownsMap Try.prog 3 heldE b 9 (fifo_Do.D2 3)) (b1 : Int) (hb : ¬ (1 ≤ b1 ∧ b1 ≤ 9)) :
    (Instr.lookup 62 (.map (some b)) (.int .i64 b1) true).run Try.prog w = .ok (.tuple #[.nilFunc, .bool false]) w := by
  obtain ⟨l, hl, hp⟩ := fifo_Do.list
  rw [hl] at h
  refine run_lookup_none Try.underlying3 Try.underlying62 (fifo_Do.zero w) h b1 (fun p hm e => ?_)
  obtain ⟨n, hn, h1, h2⟩ := hp p hm
  rw [hn] at e
  injection e with _ e
  exact hb (by omega)
structure DoF (w W : World) (gq ge gz : Nat) (qs es : Array Value) : Prop where
  bq : W.heap[gq]? = some (.cells qs 24 (0, 0))
  be : W.heap[ge]? = some (.cells es 30 (0, 0))
  bz : W.heap[gz]? = some (.cells #[.slice none 0 0, .int .i64 0, .int .i64 0, .int .i64 0] 24 (0, 0))
  hb : Below w.heap.size w W
  lz : w.heap.size ≤ gz
theorem DoF.below {w W W1 : World} {gq ge gz : Nat} {qs es : Array Value} (h : DoF w W gq ge gz qs es) (hb : Below W.heap.size W W1) : DoF w W1 gq ge gz qs es := ⟨blk_below h.bq hb, blk_below h.be hb, blk_below h.bz hb, below_step h.hb hb, h.lz⟩
theorem DoF.grown {w W W1 : World} {gq ge gz b : Nat} {qs es : Array Value} (h : DoF w W gq ge gz qs es) (hg : W.grownBy W1 (some b)) (n1 : gq < b ∧ ge < b ∧ gz < b) (hb : w.heap.size ≤ b) : DoF w W1 gq ge gz qs es :=
  ⟨ml_grown hg h.bq (by omega), ml_grown hg h.be (by omega), ml_grown hg h.bz (by omega), ml_into h.hb hg hb, h.lz⟩
set_option maxHeartbeats 8000000 in
set_option maxRecDepth 100000 in
theorem fifo_Do.calls (A : Option Addr) (c : Nat) (l : List Int) (a1 a2 a3 b0 b1 b2 b3 b4 : Int) (r1 : List Int) (r2 r3 r4 : Int) (r5 : Bool) (w : World) (hr0 : Kd.C (Kd.int .i64) w A l.length l) (hc0 : l.length ≤ c) (h : fifo_Do.f l a1 a2 a3 b0 b1 b2 b3 b4 = some (r1, r2, r3, r4, r5)) :
  Calls Try.prog 16 #[.agg #[.slice A l.length c, .int .i64 a1, .int .i64 a2, .int .i64 a3], .agg #[.int .i64 b0, .int .i64 b1, .int .i64 b2, .int .i64 b3, .int .i64 b4]] w fun e w' => ∃ v0_ : Value, e = .returned (.tuple #[.agg #[v0_, .int .i64 r2, .int .i64 r3, .int .i64 r4], .bool r5]) ∧ Kd.R (Kd.int .i64) 3 w' w.heap.size (fun _ => True) v0_ r1 ∧ Below w.heap.size w w' := by
 have hu3 := Try.underlying3
 have hu24 := Try.underlying24
 have hu30 := Try.underlying30
 have hu61 := Try.underlying61
 have HR0 := Aside0.mk hr0
 have HC0 := Aside0.mk hc0
 have H := Aside0.mk h
 have HB := Aside0.mk (Below.refl w.heap.size w)
 clear hr0 hc0 h
 go_enter Try.func16, Try.ntmps16
 go_wp2_with (first | ((with_reducible refine gate_dst (N := 2) rfl ?_); refine box_event ?hg (N := 2) ?hd (cs := #[.slice A l.length c, .int .i64 a1, .int .i64 a2, .int .i64 a3]) (t := 24) ?hr ?_; (case hd => rfl); (case hg => rfl); (case hr => first | (go_simp; done) | (go_simp; rfl)); intro gq hg wq hbox hb; have n0_ := Aside0.mk (below_step HB.out hb);  have BKq := Aside0.mk hbox; have GEq := Aside0.mk (Nat.le_trans (below_size (by repeat (first | (with_reducible first | exact HB.out | apply bA | apply bN | apply bD) | exact HB.out))) (Nat.le_of_eq hg.symm) : w.heap.size ≤ gq); clear HB; have HB := n0_; clear n0_ hb hbox hg) | ((with_reducible refine gate_dst (N := 3) rfl ?_); refine box_event ?hg (N := 3) ?hd (cs := #[.int .i64 b0, .int .i64 b1, .int .i64 b2, .int .i64 b3, .int .i64 b4]) (t := 30) ?hr ?_; (case hd => rfl); (case hg => rfl); (case hr => first | (go_simp; done) | (go_simp; rfl)); intro ge hg we hbox hb; have n0_ := Aside0.mk (below_step HB.out hb); have m0_ := Aside0.mk (blk_below BKq.out hb); clear BKq; have BKq := m0_; clear m0_; have BKe := Aside0.mk hbox; have GEe := Aside0.mk (Nat.le_trans (below_size (by repeat (first | (with_reducible first | exact HB.out | apply bA | apply bN | apply bD) | exact HB.out))) (Nat.le_of_eq hg.symm) : w.heap.size ≤ ge); clear HB; have HB := n0_; clear n0_ hb hbox hg) | ((with_reducible refine gate_dst (N := 4) rfl ?_); refine box_event ?hg (N := 4) ?hd (cs := #[.slice none 0 0, .int .i64 0, .int .i64 0, .int .i64 0]) (t := 24) ?hr ?_; (case hd => rfl); (case hg => rfl); (case hr => first | (go_simp; done) | (go_simp; rfl)); intro gz hg wz hbox hb; have n0_ := Aside0.mk (below_step HB.out hb); have m0_ := Aside0.mk (blk_below BKq.out hb); clear BKq; have BKq := m0_; clear m0_; have m0_ := Aside0.mk (blk_below BKe.out hb); clear BKe; have BKe := m0_; clear m0_; have BKz := Aside0.mk hbox; have GEz := Aside0.mk (Nat.le_trans (below_size (by repeat (first | (with_reducible first | exact HB.out | apply bA | apply bN | apply bD) | exact HB.out))) (Nat.le_of_eq hg.symm) : w.heap.size ≤ gz); clear HB; have HB := n0_; clear n0_ hb hbox hg) | ((with_reducible refine gate_dst (N := 15) rfl ?_); refine made_own rfl 62 rfl 3 ?_; intro b hb w6 hmb hbel; have DF := Aside0.mk (DoF.below (⟨BKq.out, BKe.out, BKz.out, HB.out, GEz.out⟩ : DoF w _ gq ge gz #[.slice A l.length c, .int .i64 a1, .int .i64 a2, .int .i64 a3] #[.int .i64 b0, .int .i64 b1, .int .i64 b2, .int .i64 b3, .int .i64 b4]) hbel); have MB := Aside0.mk hmb; have GB := Aside0.mk (by rw [hb]; exact ⟨ml_lt BKq.out, ml_lt BKe.out, ml_lt BKz.out⟩ : gq < b ∧ ge < b ∧ gz < b); have GW := Aside0.mk ((by rw [hb]; exact HB.out.size) : w.heap.size ≤ b); clear BKq BKe BKz HB GEq GEe GEz; clear hb hmb hbel) | (refine insert_own rfl _ _ _ 62 rfl 3 59 (Go.Maps.int_keyed Try.underlying3) Try.underlying62 b 0 _ rfl MB.out (by unfold maxLen; omega) (.int .i64 9) (Value.func (.func 33) #[] #[]) (.int .i64 9) rfl rfl (Go.Maps.keyOf_int_mk Try.underlying3 rfl) ?_; intro w8 hmb hgr; have n0_ := Aside0.mk (DF.out.grown hgr GB.out GW.out); clear DF MB; have DF := n0_; have MB := Aside0.mk hmb; clear n0_ hmb hgr) | (refine insert_own rfl _ _ _ 62 rfl 3 59 (Go.Maps.int_keyed Try.underlying3) Try.underlying62 b 1 _ rfl MB.out (by unfold maxLen; omega) (.int .i64 7) (Value.func (.func 34) #[] #[]) (.int .i64 7) rfl rfl (Go.Maps.keyOf_int_mk Try.underlying3 rfl) ?_; intro w8 hmb hgr; have n0_ := Aside0.mk (DF.out.grown hgr GB.out GW.out); clear DF MB; have DF := n0_; have MB := Aside0.mk hmb; clear n0_ hmb hgr) | (refine insert_own rfl _ _ _ 62 rfl 3 59 (Go.Maps.int_keyed Try.underlying3) Try.underlying62 b 2 _ rfl MB.out (by unfold maxLen; omega) (.int .i64 8) (Value.func (.func 35) #[] #[]) (.int .i64 8) rfl rfl (Go.Maps.keyOf_int_mk Try.underlying3 rfl) ?_; intro w9 hmb hgr; have n0_ := Aside0.mk (DF.out.grown hgr GB.out GW.out); clear DF MB; have DF := n0_; have MB := Aside0.mk hmb; clear n0_ hmb hgr))
 have DF1 := Aside0.mk (DF.out.below (below_alloc (Below.refl _ _) (.cells #[.int .i64 1, .int .i64 2, .int .i64 3] 3 (0, 0))))
 have BL := Aside0.mk (blk_new w9 (.cells #[.int .i64 1, .int .i64 2, .int .i64 3] 3 (0, 0)))
 have MB1 := Aside0.mk (MB.out.alloc (.cells #[.int .i64 1, .int .i64 2, .int .i64 3] 3 (0, 0)))
 have GL := Aside0.mk MB.out.lt
 clear DF MB
 generalize w9.alloc (.cells #[.int .i64 1, .int .i64 2, .int .i64 3] 3 (0, 0)) = wa at DF1 BL MB1 ⊢
 generalize w9.heap.size = gl at BL GL ⊢
 go_loopg [19] 3 (fun kq v19 w' => ∃ i : Int, v19 = .int .i64 i ∧ Aside0 (i + (kq : Int) = 3 ∧ 0 ≤ i) ∧ Aside0 (DoF w w' gq ge gz #[.slice A l.length c, .int .i64 a1, .int .i64 a2, .int .i64 a3] #[.int .i64 b0, .int .i64 b1, .int .i64 b2, .int .i64 b3, .int .i64 b4]) ∧ Aside0 (w'.heap[gl]? = some (.cells #[.int .i64 1, .int .i64 2, .int .i64 3] 3 (0, 0))) ∧ Aside0 (w'.ownsMap Try.prog 3 heldE b (3 + i.toNat) (fifo_Do.D1 i.toNat)))
 case atStart => exact ⟨0, rfl, ⟨by omega, by omega⟩, DF1, BL, MB1⟩
 case round =>
  clear DF1 BL MB1
  obtain ⟨i, rfl, HI, DF, BL, MB⟩ := hrel
  cases gk with
  | succ k2 =>
   obtain rfl | rfl | rfl : i = 0 ∨ i = 1 ∨ i = 2 := by have := HI.out; omega
   · have hc : wr.cell? ⟨gl, 0, none⟩ = some (.int .i64 1) := (blk_cell BL.out 0).trans rfl
     go_wp2_with (first | (at_mapUpdate; refine wpList_mapUpdate_own _ rfl _ _ _ 62 rfl 3 59 (Go.Maps.int_keyed Try.underlying3) Try.underlying62 heldE b 3 _ rfl MB.out (by unfold maxLen; omega) (.int .i64 1) (Value.func (.func 36) #[] #[]) (.int .i64 1) rfl rfl (Go.Maps.keyOf_int_mk Try.underlying3 rfl) (.held (Value.func (.func 36) #[] #[])) [] rfl ?_; intro w10 hmb hgr; have n0_ := Aside0.mk (DF.out.grown hgr GB.out GW.out); have n1_ := Aside0.mk (ml_grown hgr BL.out (Nat.ne_of_gt GL.out)); clear DF MB BL; have DF := n0_; have BL := n1_; have MB := Aside0.mk hmb; clear n0_ n1_ hmb hgr))
     go_roundg k2
     case measure => omega
     case rel => exact ⟨1, rfl, ⟨by have := HI.out; omega, by omega⟩, DF, BL, MB⟩
   · have hc : wr.cell? ⟨gl, 1, none⟩ = some (.int .i64 2) := (blk_cell BL.out 1).trans rfl
     go_wp2_with (first | (at_mapUpdate; refine wpList_mapUpdate_own _ rfl _ _ _ 62 rfl 3 59 (Go.Maps.int_keyed Try.underlying3) Try.underlying62 heldE b 4 _ rfl MB.out (by unfold maxLen; omega) (.int .i64 2) (Value.func (.func 36) #[] #[]) (.int .i64 2) rfl rfl (Go.Maps.keyOf_int_mk Try.underlying3 rfl) (.held (Value.func (.func 36) #[] #[])) [] rfl ?_; intro w10 hmb hgr; have n0_ := Aside0.mk (DF.out.grown hgr GB.out GW.out); have n1_ := Aside0.mk (ml_grown hgr BL.out (Nat.ne_of_gt GL.out)); clear DF MB BL; have DF := n0_; have BL := n1_; have MB := Aside0.mk hmb; clear n0_ n1_ hmb hgr))
     go_roundg k2
     case measure => omega
     case rel => exact ⟨2, rfl, ⟨by have := HI.out; omega, by omega⟩, DF, BL, MB⟩
   · have hc : wr.cell? ⟨gl, 2, none⟩ = some (.int .i64 3) := (blk_cell BL.out 2).trans rfl
     go_wp2_with (first | (at_mapUpdate; refine wpList_mapUpdate_own _ rfl _ _ _ 62 rfl 3 59 (Go.Maps.int_keyed Try.underlying3) Try.underlying62 heldE b 5 _ rfl MB.out (by unfold maxLen; omega) (.int .i64 3) (Value.func (.func 36) #[] #[]) (.int .i64 3) rfl rfl (Go.Maps.keyOf_int_mk Try.underlying3 rfl) (.held (Value.func (.func 36) #[] #[])) [] rfl ?_; intro w10 hmb hgr; have n0_ := Aside0.mk (DF.out.grown hgr GB.out GW.out); have n1_ := Aside0.mk (ml_grown hgr BL.out (Nat.ne_of_gt GL.out)); clear DF MB BL; have DF := n0_; have BL := n1_; have MB := Aside0.mk hmb; clear n0_ n1_ hmb hgr))
     go_roundg k2
     case measure => omega
     case rel => exact ⟨3, rfl, ⟨by have := HI.out; omega, by omega⟩, DF, BL, MB⟩
  | zero =>
   obtain rfl : i = 3 := by have := HI.out; omega
   clear BL GL
   go_wp2
   have DF1 := Aside0.mk (DF.out.below (below_alloc (Below.refl _ _) (.cells #[.int .i64 4, .int .i64 5, .int .i64 6] 3 (0, 0))))
   have BL := Aside0.mk (blk_new wr (.cells #[.int .i64 4, .int .i64 5, .int .i64 6] 3 (0, 0)))
   have MB1 := Aside0.mk (MB.out.alloc (.cells #[.int .i64 4, .int .i64 5, .int .i64 6] 3 (0, 0)))
   have GL := Aside0.mk MB.out.lt
   clear DF MB
   generalize wr.alloc (.cells #[.int .i64 4, .int .i64 5, .int .i64 6] 3 (0, 0)) = wa2 at DF1 BL MB1 ⊢
   generalize wr.heap.size = gl at BL GL ⊢
   go_loopg [28] 3 (fun kq v28 w' => ∃ i : Int, v28 = .int .i64 i ∧ Aside0 (i + (kq : Int) = 3 ∧ 0 ≤ i) ∧ Aside0 (DoF w w' gq ge gz #[.slice A l.length c, .int .i64 a1, .int .i64 a2, .int .i64 a3] #[.int .i64 b0, .int .i64 b1, .int .i64 b2, .int .i64 b3, .int .i64 b4]) ∧ Aside0 (w'.heap[gl]? = some (.cells #[.int .i64 4, .int .i64 5, .int .i64 6] 3 (0, 0))) ∧ Aside0 (w'.ownsMap Try.prog 3 heldE b (6 + i.toNat) (fifo_Do.D2 i.toNat)))
   case atStart => exact ⟨0, rfl, ⟨by omega, by omega⟩, DF1, BL, MB1⟩
   case round =>
    clear DF1 BL MB1
    obtain ⟨i, rfl, HI, DF, BL, MB⟩ := hrel
    cases gk with
    | succ k2 =>
     obtain rfl | rfl | rfl : i = 0 ∨ i = 1 ∨ i = 2 := by have := HI.out; omega
     · have hc : wr.cell? ⟨gl, 0, none⟩ = some (.int .i64 4) := (blk_cell BL.out 0).trans rfl
       go_wp2_with (first | (at_mapUpdate; refine wpList_mapUpdate_own _ rfl _ _ _ 62 rfl 3 59 (Go.Maps.int_keyed Try.underlying3) Try.underlying62 heldE b 6 _ rfl MB.out (by unfold maxLen; omega) (.int .i64 4) (Value.func (.func 37) #[] #[]) (.int .i64 4) rfl rfl (Go.Maps.keyOf_int_mk Try.underlying3 rfl) (.held (Value.func (.func 37) #[] #[])) [] rfl ?_; intro w10 hmb hgr; have n0_ := Aside0.mk (DF.out.grown hgr GB.out GW.out); have n1_ := Aside0.mk (ml_grown hgr BL.out (Nat.ne_of_gt GL.out)); clear DF MB BL; have DF := n0_; have BL := n1_; have MB := Aside0.mk hmb; clear n0_ n1_ hmb hgr))
       go_roundg k2
       case measure => omega
       case rel => exact ⟨1, rfl, ⟨by have := HI.out; omega, by omega⟩, DF, BL, MB⟩
     · have hc : wr.cell? ⟨gl, 1, none⟩ = some (.int .i64 5) := (blk_cell BL.out 1).trans rfl
       go_wp2_with (first | (at_mapUpdate; refine wpList_mapUpdate_own _ rfl _ _ _ 62 rfl 3 59 (Go.Maps.int_keyed Try.underlying3) Try.underlying62 heldE b 7 _ rfl MB.out (by unfold maxLen; omega) (.int .i64 5) (Value.func (.func 37) #[] #[]) (.int .i64 5) rfl rfl (Go.Maps.keyOf_int_mk Try.underlying3 rfl) (.held (Value.func (.func 37) #[] #[])) [] rfl ?_; intro w10 hmb hgr; have n0_ := Aside0.mk (DF.out.grown hgr GB.out GW.out); have n1_ := Aside0.mk (ml_grown hgr BL.out (Nat.ne_of_gt GL.out)); clear DF MB BL; have DF := n0_; have BL := n1_; have MB := Aside0.mk hmb; clear n0_ n1_ hmb hgr))
       go_roundg k2
       case measure => omega
       case rel => exact ⟨2, rfl, ⟨by have := HI.out; omega, by omega⟩, DF, BL, MB⟩
     · have hc : wr.cell? ⟨gl, 2, none⟩ = some (.int .i64 6) := (blk_cell BL.out 2).trans rfl
       go_wp2_with (first | (at_mapUpdate; refine wpList_mapUpdate_own _ rfl _ _ _ 62 rfl 3 59 (Go.Maps.int_keyed Try.underlying3) Try.underlying62 heldE b 8 _ rfl MB.out (by unfold maxLen; omega) (.int .i64 6) (Value.func (.func 37) #[] #[]) (.int .i64 6) rfl rfl (Go.Maps.keyOf_int_mk Try.underlying3 rfl) (.held (Value.func (.func 37) #[] #[])) [] rfl ?_; intro w10 hmb hgr; have n0_ := Aside0.mk (DF.out.grown hgr GB.out GW.out); have n1_ := Aside0.mk (ml_grown hgr BL.out (Nat.ne_of_gt GL.out)); clear DF MB BL; have DF := n0_; have BL := n1_; have MB := Aside0.mk hmb; clear n0_ n1_ hmb hgr))
       go_roundg k2
       case measure => omega
       case rel => exact ⟨3, rfl, ⟨by have := HI.out; omega, by omega⟩, DF, BL, MB⟩
    | zero =>
     obtain rfl : i = 3 := by have := HI.out; omega
     clear BL GL
     have h := H.out
     clear H
     unfold fifo_Do.f at h
     obtain ⟨hk0, hk1, hk2, hk3, hk4, hl0, hl1, hl2, hl3, hl4⟩ := cells5 (w := wr) (g := ge) DF.out.be
     obtain ⟨hm0, hm1, hm2, hm3, hn0, hn1, hn2, hn3⟩ := cells4 (w := wr) (g := gq) DF.out.bq
     by_cases hbb : 1 ≤ b1 ∧ b1 ≤ 9
     · rw [if_pos hbb] at h
       have HL := fifo_Do.look MB.out b1 hbb
       obtain ⟨⟨q1, q2, q3, q4, q5⟩, hrow, h2⟩ := Option.bind_eq_some_iff.mp h
       obtain ⟨fnn, hf1, hf2, hf3⟩ := fifo_Do.func b1
       have RC := fifo_Do.rowC b1 (fun k => k < w.heap.size) A c l a1 a2 a3 b0 b1 b2 b3 b4 q1 q2 q3 q4 q5 wr (Kd.V_mk HC0.out (Kd.F_below (Kd.C_F (Kd.heap_int .i64) HR0.out) DF.out.hb)) hrow
       clear h hrow
       cases q5 with
       | false =>
         replace h2 := (if_pos rfl).symm.trans h2
         obtain ⟨⟨o1, o2, o3, o4⟩, ho, h3⟩ := Option.bind_eq_some_iff.mp h2
         simp only [Option.some.injEq, Prod.mk.injEq] at h3
         obtain ⟨rfl, rfl, rfl, rfl, rfl⟩ := h3
         clear h2
         go_wp2_with (first | (refine lookup_run rfl _ _ 62 true rfl _ _ _ rfl rfl HL ?_) | ((with_reducible refine gate_callee (f := 38) rfl ?_); refine goesL_ (some 56) rfl rfl Try.func38 (by kernel_rfl) rfl #[.agg #[.slice A l.length c, .int .i64 a1, .int .i64 a2, .int .i64 a3]] rfl (by (try simp only [List.map_toArray, List.map_cons, List.map_nil]); first | done | rfl) ?_; (with_reducible refine (fifo_own.calls _ _ l a1 a2 a3 o1 o2 o3 o4 _ ?side1 ?side2 ho).mono ?_); (case side1 => exact Kd.C_below HR0.out (DF.out.below (by repeat (first | (with_reducible first | exact HX7.out | apply bA | apply bN | apply bD | refine below_set ?_ GX7.out) | exact HX7.out))).hb); (case side2 => exact HC0.out); rintro e w8 ⟨v8, rfl, ho8, hb8⟩; refine ⟨_, rfl, ?_⟩; have HO8 := Aside0.mk (Kd.R_lower ho8 (below_size (DF.out.below (by repeat (first | (with_reducible first | exact HX7.out | apply bA | apply bN | apply bD | refine below_set ?_ GX7.out) | exact HX7.out))).hb)); have DF8 := Aside0.mk (DoF.below (DF.out.below (by repeat (first | (with_reducible first | exact HX7.out | apply bA | apply bN | apply bD | refine below_set ?_ GX7.out) | exact HX7.out))) hb8); obtain ⟨A8, c8, eo8⟩ := Kd.R_slice ho8; subst eo8; obtain ⟨hz0, hz1, hz2, hz3, hi0, hi1, hi2, hi3⟩ := cells4 (w := w8) (g := gz) DF8.out.bz; clear ho8 hb8) | (refine goesV_ (some 50) rfl rfl rfl #[] #[] rfl hf1 hf2 hf3 #[.agg #[.slice A l.length c, .int .i64 a1, .int .i64 a2, .int .i64 a3], .agg #[.int .i64 b0, .int .i64 b1, .int .i64 b2, .int .i64 b3, .int .i64 b4]] (by (try simp only [List.map_toArray, List.map_cons, List.map_nil]); first | done | rfl) ?_; refine RC.mono ?_; rintro e w7 ⟨v7, rfl, hv7, hb7⟩; refine ⟨_, rfl, ?_⟩; obtain ⟨A7, c7, rfl, hl7, hf7⟩ := hv7; have CF7 := Aside0.mk hf7; have CL7 := Aside0.mk hl7; have n0_ := Aside0.mk (DF.out.below hb7); clear DF; have DF := n0_; clear n0_ hb7 hf7 hl7) | ((with_reducible refine gate_dst (N := 13) rfl ?_); refine box_event ?hg (N := 13) ?hd (cs := #[.slice none 0 0, .int .i64 0, .int .i64 0, .int .i64 0]) (t := 61) ?hr ?_; (case hd => rfl); (case hg => rfl); (case hr => first | (go_simp; done) | (go_simp; rfl)); intro gx hg w13 hbox hb; have HX7 := Aside0.mk hb; have GX7 := Aside0.mk (Nat.le_of_eq hg.symm); have hxq : gq ≠ gx := (by rw [hg]; exact Nat.ne_of_lt (ml_lt DF.out.bq)); have hxq2 : gx ≠ gq := hxq.symm; have hxz : gz ≠ gx := (by rw [hg]; exact Nat.ne_of_lt (ml_lt DF.out.bz)); have hxz2 : gx ≠ gz := hxz.symm; obtain ⟨hx0, hx1, hx2, hx3, hy0, hy1, hy2, hy3⟩ := cells4 (w := w13) (g := gx) hbox; obtain ⟨hq0, hq1, hq2, hq3, hr0, hr1, hr2, hr3⟩ := cells4 (w := w13) (g := gq) (DF.out.below hb).bq; clear hg hbox hb))
         refine bodyPost_ret (results_ct rfl _ _ gz 24 #[.slice A8 o1.length c8, .int .i64 o2, .int .i64 o3, .int .i64 o4] (0, 0) _ rfl (by (with_reducible repeat (first | apply kN | apply kD | apply kA)); refine blk_put (cs := #[.slice A8 o1.length c8, .int .i64 o2, .int .i64 o3, .int .i64 0]) ?_ 3 _ rfl; (with_reducible repeat (first | apply kN | apply kD | apply kA)); refine blk_put (cs := #[.slice A8 o1.length c8, .int .i64 o2, .int .i64 0, .int .i64 0]) ?_ 2 _ rfl; (with_reducible repeat (first | apply kN | apply kD | apply kA)); refine blk_put (cs := #[.slice A8 o1.length c8, .int .i64 0, .int .i64 0, .int .i64 0]) ?_ 1 _ rfl; (with_reducible repeat (first | apply kN | apply kD | apply kA)); refine blk_put (cs := #[.slice none 0 0, .int .i64 0, .int .i64 0, .int .i64 0]) ?_ 0 _ rfl; (with_reducible repeat (first | apply kN | apply kD | apply kA)); exact DF8.out.bz) Try.underlying24 rfl (by kernel_rfl)) rfl ?_
         exact ⟨_, rfl, by (with_reducible repeat (first | apply Kd.R_alloc | apply Kd.R_drewN | apply Kd.R_drew)); exact Kd.R_mono (Kd.R_far (p := ⟨gz, 3, none⟩) (Kd.R_far (p := ⟨gz, 2, none⟩) (Kd.R_far (p := ⟨gz, 1, none⟩) (Kd.R_far (p := ⟨gz, 0, none⟩) (Kd.R_types HO8.out DF8.out.bz (by decide)) (fun _ hk => hk.2) (.slice A8 o1.length c8)) (fun _ hk => hk.2) (.int .i64 o2)) (fun _ hk => hk.2) (.int .i64 o3)) (fun _ hk => hk.2) (.int .i64 o4)) (fun _ _ => trivial), by repeat (first | (with_reducible first | exact DF8.out.hb | apply bA | apply bN | apply bD | refine below_set ?_ DF8.out.lz) | exact DF8.out.hb)⟩
       | true =>
         replace h2 := (if_neg (by simp)).symm.trans h2
         obtain ⟨⟨o1, o2, o3, o4⟩, ho, h3⟩ := Option.bind_eq_some_iff.mp h2
         simp only [Option.some.injEq, Prod.mk.injEq] at h3
         obtain ⟨rfl, rfl, rfl, rfl, rfl⟩ := h3
         clear h2
         go_wp2_with (first | (refine lookup_run rfl _ _ 62 true rfl _ _ _ rfl rfl HL ?_) | ((with_reducible refine gate_callee (f := 38) rfl ?_); refine goesL_ (some 58) rfl rfl Try.func38 (by kernel_rfl) rfl #[.agg #[.slice A7 q1.length c7, .int .i64 q2, .int .i64 q3, .int .i64 q4]] rfl (by (try simp only [List.map_toArray, List.map_cons, List.map_nil]); first | done | rfl) ?_; (with_reducible refine (fifo_own.calls _ _ q1 q2 q3 q4 o1 o2 o3 o4 _ ?side1 ?side2 ho).mono ?_); (case side1 => exact Kd.F_now (Kd.F_below CF7.out (by repeat (first | (with_reducible first | exact HX7.out | apply bA | apply bN | apply bD | refine below_set ?_ GX7.out) | exact HX7.out)))); (case side2 => exact CL7.out); rintro e w8 ⟨v8, rfl, ho8, hb8⟩; refine ⟨_, rfl, ?_⟩; have HO8 := Aside0.mk (Kd.R_lower ho8 (below_size (DF.out.below (by repeat (first | (with_reducible first | exact HX7.out | apply bA | apply bN | apply bD | refine below_set ?_ GX7.out) | exact HX7.out))).hb)); have DF8 := Aside0.mk (DoF.below (DF.out.below (by repeat (first | (with_reducible first | exact HX7.out | apply bA | apply bN | apply bD | refine below_set ?_ GX7.out) | exact HX7.out))) hb8); obtain ⟨A8, c8, eo8⟩ := Kd.R_slice ho8; subst eo8; obtain ⟨hz0, hz1, hz2, hz3, hi0, hi1, hi2, hi3⟩ := cells4 (w := w8) (g := gz) DF8.out.bz; clear ho8 hb8) | (refine goesV_ (some 50) rfl rfl rfl #[] #[] rfl hf1 hf2 hf3 #[.agg #[.slice A l.length c, .int .i64 a1, .int .i64 a2, .int .i64 a3], .agg #[.int .i64 b0, .int .i64 b1, .int .i64 b2, .int .i64 b3, .int .i64 b4]] (by (try simp only [List.map_toArray, List.map_cons, List.map_nil]); first | done | rfl) ?_; refine RC.mono ?_; rintro e w7 ⟨v7, rfl, hv7, hb7⟩; refine ⟨_, rfl, ?_⟩; obtain ⟨A7, c7, rfl, hl7, hf7⟩ := hv7; have CF7 := Aside0.mk hf7; have CL7 := Aside0.mk hl7; have n0_ := Aside0.mk (DF.out.below hb7); clear DF; have DF := n0_; clear n0_ hb7 hf7 hl7) | ((with_reducible refine gate_dst (N := 13) rfl ?_); refine box_event ?hg (N := 13) ?hd (cs := #[.slice none 0 0, .int .i64 0, .int .i64 0, .int .i64 0]) (t := 61) ?hr ?_; (case hd => rfl); (case hg => rfl); (case hr => first | (go_simp; done) | (go_simp; rfl)); intro gx hg w13 hbox hb; have HX7 := Aside0.mk hb; have GX7 := Aside0.mk (Nat.le_of_eq hg.symm); have hxq : gq ≠ gx := (by rw [hg]; exact Nat.ne_of_lt (ml_lt DF.out.bq)); have hxq2 : gx ≠ gq := hxq.symm; have hxz : gz ≠ gx := (by rw [hg]; exact Nat.ne_of_lt (ml_lt DF.out.bz)); have hxz2 : gx ≠ gz := hxz.symm; obtain ⟨hx0, hx1, hx2, hx3, hy0, hy1, hy2, hy3⟩ := cells4 (w := w13) (g := gx) hbox; obtain ⟨hq0, hq1, hq2, hq3, hr0, hr1, hr2, hr3⟩ := cells4 (w := w13) (g := gq) (DF.out.below hb).bq; clear hg hbox hb))
         refine bodyPost_ret (results_ct rfl _ _ gz 24 #[.slice A8 o1.length c8, .int .i64 o2, .int .i64 o3, .int .i64 o4] (0, 0) _ rfl (by (with_reducible repeat (first | apply kN | apply kD | apply kA)); refine blk_put (cs := #[.slice A8 o1.length c8, .int .i64 o2, .int .i64 o3, .int .i64 0]) ?_ 3 _ rfl; (with_reducible repeat (first | apply kN | apply kD | apply kA)); refine blk_put (cs := #[.slice A8 o1.length c8, .int .i64 o2, .int .i64 0, .int .i64 0]) ?_ 2 _ rfl; (with_reducible repeat (first | apply kN | apply kD | apply kA)); refine blk_put (cs := #[.slice A8 o1.length c8, .int .i64 0, .int .i64 0, .int .i64 0]) ?_ 1 _ rfl; (with_reducible repeat (first | apply kN | apply kD | apply kA)); refine blk_put (cs := #[.slice none 0 0, .int .i64 0, .int .i64 0, .int .i64 0]) ?_ 0 _ rfl; (with_reducible repeat (first | apply kN | apply kD | apply kA)); exact DF8.out.bz) Try.underlying24 rfl (by kernel_rfl)) rfl ?_
         exact ⟨_, rfl, by (with_reducible repeat (first | apply Kd.R_alloc | apply Kd.R_drewN | apply Kd.R_drew)); exact Kd.R_mono (Kd.R_far (p := ⟨gz, 3, none⟩) (Kd.R_far (p := ⟨gz, 2, none⟩) (Kd.R_far (p := ⟨gz, 1, none⟩) (Kd.R_far (p := ⟨gz, 0, none⟩) (Kd.R_types HO8.out DF8.out.bz (by decide)) (fun _ hk => hk.2) (.slice A8 o1.length c8)) (fun _ hk => hk.2) (.int .i64 o2)) (fun _ hk => hk.2) (.int .i64 o3)) (fun _ hk => hk.2) (.int .i64 o4)) (fun _ _ => trivial), by repeat (first | (with_reducible first | exact DF8.out.hb | apply bA | apply bN | apply bD | refine below_set ?_ DF8.out.lz) | exact DF8.out.hb)⟩
     · rw [if_neg hbb] at h
       have HL := fifo_Do.look_no MB.out b1 hbb
       obtain ⟨⟨o1, o2, o3, o4⟩, ho, h3⟩ := Option.bind_eq_some_iff.mp h
       simp only [Option.some.injEq, Prod.mk.injEq] at h3
       obtain ⟨rfl, rfl, rfl, rfl, rfl⟩ := h3
       clear h
       go_wp2_with (first | (refine lookup_run rfl _ _ 62 true rfl _ _ _ rfl rfl HL ?_) | ((with_reducible refine gate_callee (f := 38) rfl ?_); refine goesL_ (some 45) rfl rfl Try.func38 (by kernel_rfl) rfl #[.agg #[.slice A l.length c, .int .i64 a1, .int .i64 a2, .int .i64 a3]] rfl (by (try simp only [List.map_toArray, List.map_cons, List.map_nil]); first | done | rfl) ?_; (with_reducible refine (fifo_own.calls _ _ l a1 a2 a3 o1 o2 o3 o4 _ ?side1 ?side2 ho).mono ?_); (case side1 => exact Kd.C_below HR0.out DF.out.hb); (case side2 => exact HC0.out); rintro e w8 ⟨v8, rfl, ho8, hb8⟩; refine ⟨_, rfl, ?_⟩; have HO8 := Aside0.mk (Kd.R_lower ho8 (below_size (DF.out).hb)); have DF8 := Aside0.mk (DoF.below (DF.out) hb8); obtain ⟨A8, c8, eo8⟩ := Kd.R_slice ho8; subst eo8; obtain ⟨hz0, hz1, hz2, hz3, hi0, hi1, hi2, hi3⟩ := cells4 (w := w8) (g := gz) DF8.out.bz; clear ho8 hb8))
       refine bodyPost_ret (results_ct rfl _ _ gz 24 #[.slice A8 o1.length c8, .int .i64 o2, .int .i64 o3, .int .i64 o4] (0, 0) _ rfl (by (with_reducible repeat (first | apply kN | apply kD | apply kA)); refine blk_put (cs := #[.slice A8 o1.length c8, .int .i64 o2, .int .i64 o3, .int .i64 0]) ?_ 3 _ rfl; (with_reducible repeat (first | apply kN | apply kD | apply kA)); refine blk_put (cs := #[.slice A8 o1.length c8, .int .i64 o2, .int .i64 0, .int .i64 0]) ?_ 2 _ rfl; (with_reducible repeat (first | apply kN | apply kD | apply kA)); refine blk_put (cs := #[.slice A8 o1.length c8, .int .i64 0, .int .i64 0, .int .i64 0]) ?_ 1 _ rfl; (with_reducible repeat (first | apply kN | apply kD | apply kA)); refine blk_put (cs := #[.slice none 0 0, .int .i64 0, .int .i64 0, .int .i64 0]) ?_ 0 _ rfl; (with_reducible repeat (first | apply kN | apply kD | apply kA)); exact DF8.out.bz) Try.underlying24 rfl (by kernel_rfl)) rfl ?_
       exact ⟨_, rfl, by (with_reducible repeat (first | apply Kd.R_alloc | apply Kd.R_drewN | apply Kd.R_drew)); exact Kd.R_mono (Kd.R_far (p := ⟨gz, 3, none⟩) (Kd.R_far (p := ⟨gz, 2, none⟩) (Kd.R_far (p := ⟨gz, 1, none⟩) (Kd.R_far (p := ⟨gz, 0, none⟩) (Kd.R_types HO8.out DF8.out.bz (by decide)) (fun _ hk => hk.2) (.slice A8 o1.length c8)) (fun _ hk => hk.2) (.int .i64 o2)) (fun _ hk => hk.2) (.int .i64 o3)) (fun _ hk => hk.2) (.int .i64 o4)) (fun _ _ => trivial), by repeat (first | (with_reducible first | exact DF8.out.hb | apply bA | apply bN | apply bD | refine below_set ?_ DF8.out.lz) | exact DF8.out.hb)⟩

end Go.Proofs.Ytmilniofdpgbnaa.PL
