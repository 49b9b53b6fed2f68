-- written by this repo's pp.py (the kit's print, turned by wip/patches.py)
import Derived.Test.YtcmiijdkmfdpnaaPLx0
import Derived.Test.YtcmiijdkmfdpnaaPLx2
import Derived.Test.YtcmiijdkmfdpnaaPLx3
import Derived.Test.YtcmiijdkmfdpnaaPLx4
import Derived.Test.YtcmiijdkmfdpnaaPLx5
namespace Go.Proofs.Ytcmiijdkmfdpnaa.PL
open Go.RowKit Go.Proofs.YtcmiijdkmfdpnaaW.PrintWords Go.Proofs.YtcmiijdkmfdpnaaW.PrintLast Go.Proofs.YtcmiijdkmfdpnaaW.PrintMore
attribute [local go_sem] max2_int min2_int max_two min_two max_three min_three max_four min_four   -- for this text's walks alone
set_option linter.unusedVariables false
set_option linter.unusedSimpArgs false

/-! ### sakialaw08_WordOrder: function 5 -/
mutual
def sakialaw08_WordOrder.l0 : Nat → List (S36) → Bool → Int → Int → Int → Int → Int → Int → Int → Option (Bool)
 | 0, _, _, _, _, _, _, _, _, _ => none
 | k + 1, x1, x5, x6, x8, x9, x10, x324000, x324001, x324002 => if x10 < (x1.length : Int) then (if 0 ≤ x10 then (if ((rd_T36 x1 x10).f0) = 0 then ((word_Accept.f k x324000 x324001 x324002 x6).bind fun bt325 => (if bt325.2.2.2.2 = 1 then (if bt325.2.2.2.1 = x8 then (if bt325.2.2.2.2 = 2 then (if (wrap64 (x8 - x9)) < x6 then (sakialaw08_WordOrder.j1 k x1 x5 x6 x8 x9 x10 bt325.2.2.2.2 true bt325.1 bt325.2.1 bt325.2.2.1) else (sakialaw08_WordOrder.j1 k x1 x5 x6 x8 x9 x10 bt325.2.2.2.2 ((bt325.2.2.2.2 == 6) != (x324002 == 1)) bt325.1 bt325.2.1 bt325.2.2.1)) else (sakialaw08_WordOrder.j1 k x1 x5 x6 x8 x9 x10 bt325.2.2.2.2 ((bt325.2.2.2.2 == 6) != (x324002 == 1)) bt325.1 bt325.2.1 bt325.2.2.1)) else (sakialaw08_WordOrder.j1 k x1 x5 x6 x8 x9 x10 bt325.2.2.2.2 true bt325.1 bt325.2.1 bt325.2.2.1)) else (if bt325.2.2.2.2 = 2 then (if (wrap64 (x8 - x9)) < x6 then (sakialaw08_WordOrder.j1 k x1 x5 x6 x8 x9 x10 bt325.2.2.2.2 true bt325.1 bt325.2.1 bt325.2.2.1) else (sakialaw08_WordOrder.j1 k x1 x5 x6 x8 x9 x10 bt325.2.2.2.2 ((bt325.2.2.2.2 == 6) != (x324002 == 1)) bt325.1 bt325.2.1 bt325.2.2.1)) else (sakialaw08_WordOrder.j1 k x1 x5 x6 x8 x9 x10 bt325.2.2.2.2 ((bt325.2.2.2.2 == 6) != (x324002 == 1)) bt325.1 bt325.2.1 bt325.2.2.1)))) else (if ((rd_T36 x1 x10).f0) = 1 then ((word_Take.f k x324000 x324001 x324002 x6).bind fun bt333 => (if bt333.2.2.2.2 = 1 then (if bt333.2.2.2.1 = x9 then (if bt333.2.2.2.2 = 4 then (if x8 = x9 then (if bt333.2.2.2.2 = 6 then (sakialaw08_WordOrder.j2 k x1 x5 x6 x8 x9 x10 bt333.2.2.2.2 (x8 != x9) bt333.1 bt333.2.1 bt333.2.2.1) else (sakialaw08_WordOrder.j2 k x1 x5 x6 x8 x9 x10 bt333.2.2.2.2 false bt333.1 bt333.2.1 bt333.2.2.1)) else (sakialaw08_WordOrder.j2 k x1 x5 x6 x8 x9 x10 bt333.2.2.2.2 true bt333.1 bt333.2.1 bt333.2.2.1)) else (if bt333.2.2.2.2 = 6 then (sakialaw08_WordOrder.j2 k x1 x5 x6 x8 x9 x10 bt333.2.2.2.2 (x8 != x9) bt333.1 bt333.2.1 bt333.2.2.1) else (sakialaw08_WordOrder.j2 k x1 x5 x6 x8 x9 x10 bt333.2.2.2.2 false bt333.1 bt333.2.1 bt333.2.2.1))) else (sakialaw08_WordOrder.j2 k x1 x5 x6 x8 x9 x10 bt333.2.2.2.2 true bt333.1 bt333.2.1 bt333.2.2.1)) else (if bt333.2.2.2.2 = 4 then (if x8 = x9 then (if bt333.2.2.2.2 = 6 then (sakialaw08_WordOrder.j2 k x1 x5 x6 x8 x9 x10 bt333.2.2.2.2 (x8 != x9) bt333.1 bt333.2.1 bt333.2.2.1) else (sakialaw08_WordOrder.j2 k x1 x5 x6 x8 x9 x10 bt333.2.2.2.2 false bt333.1 bt333.2.1 bt333.2.2.1)) else (sakialaw08_WordOrder.j2 k x1 x5 x6 x8 x9 x10 bt333.2.2.2.2 true bt333.1 bt333.2.1 bt333.2.2.1)) else (if bt333.2.2.2.2 = 6 then (sakialaw08_WordOrder.j2 k x1 x5 x6 x8 x9 x10 bt333.2.2.2.2 (x8 != x9) bt333.1 bt333.2.1 bt333.2.2.1) else (sakialaw08_WordOrder.j2 k x1 x5 x6 x8 x9 x10 bt333.2.2.2.2 false bt333.1 bt333.2.1 bt333.2.2.1))))) else (if ((rd_T36 x1 x10).f0) = 2 then ((word_Evict.f k x324000 x324001 x324002 x6 x9).bind fun bt341 => (if bt341.2.2.2 = true then (if bt341.1 = (wrap64 (x9 + 1)) then (if bt341.2.1 = x8 then ((pos_Len.f k bt341.1 bt341.2.1 bt341.2.2.1).bind fun t346 => (if t346 > x6 then (some false) else (sakialaw08_WordOrder.l0 k x1 x5 x6 x8 (wrap64 (x9 + 1)) (wrap64 (x10 + 1)) bt341.1 bt341.2.1 bt341.2.2.1))) else (some false)) else (some false)) else (if bt341.1 = x9 then (if bt341.2.1 = x8 then ((pos_Len.f k bt341.1 bt341.2.1 bt341.2.2.1).bind fun t347 => (if t347 > x6 then (some false) else (sakialaw08_WordOrder.l0 k x1 x5 x6 x8 x9 (wrap64 (x10 + 1)) bt341.1 bt341.2.1 bt341.2.2.1))) else (some false)) else (some false)))) else ((word_Close.f x324000 x324001 x324002 1).bind fun bt348 => (if bt348.1 = x9 then (if bt348.2.1 = x8 then ((pos_Len.f k bt348.1 bt348.2.1 bt348.2.2).bind fun t351 => (if t351 > x6 then (some false) else (sakialaw08_WordOrder.l0 k x1 x5 x6 x8 x9 (wrap64 (x10 + 1)) bt348.1 bt348.2.1 bt348.2.2))) else (some false)) else (some false)))))) else (none)) else (some x5)
def sakialaw08_WordOrder.j1 : Nat → List (S36) → Bool → Int → Int → Int → Int → Int → Bool → Int → Int → Int → Option (Bool)
 | 0, _, _, _, _, _, _, _, _, _, _, _ => none
 | k + 1, x1, x5, x6, x8, x9, x10, x13, x75, x331000, x331001, x331002 => if x75 = true then (some false) else (if x13 = 1 then (if x331000 = x9 then (if x331001 = (wrap64 (x8 + 1)) then ((pos_Len.f k x331000 x331001 x331002).bind fun t331 => (if t331 > x6 then (some false) else (sakialaw08_WordOrder.l0 k x1 x5 x6 (wrap64 (x8 + 1)) x9 (wrap64 (x10 + 1)) x331000 x331001 x331002))) else (some false)) else (some false)) else (if x331000 = x9 then (if x331001 = x8 then ((pos_Len.f k x331000 x331001 x331002).bind fun t332 => (if t332 > x6 then (some false) else (sakialaw08_WordOrder.l0 k x1 x5 x6 x8 x9 (wrap64 (x10 + 1)) x331000 x331001 x331002))) else (some false)) else (some false)))
def sakialaw08_WordOrder.j2 : Nat → List (S36) → Bool → Int → Int → Int → Int → Int → Bool → Int → Int → Int → Option (Bool)
 | 0, _, _, _, _, _, _, _, _, _, _, _ => none
 | k + 1, x1, x5, x6, x8, x9, x10, x16, x114, x339000, x339001, x339002 => if x114 = true then (some false) else (if x16 = 1 then (if x339000 = (wrap64 (x9 + 1)) then (if x339001 = x8 then ((pos_Len.f k x339000 x339001 x339002).bind fun t339 => (if t339 > x6 then (some false) else (sakialaw08_WordOrder.l0 k x1 x5 x6 x8 (wrap64 (x9 + 1)) (wrap64 (x10 + 1)) x339000 x339001 x339002))) else (some false)) else (some false)) else (if x339000 = x9 then (if x339001 = x8 then ((pos_Len.f k x339000 x339001 x339002).bind fun t340 => (if t340 > x6 then (some false) else (sakialaw08_WordOrder.l0 k x1 x5 x6 x8 x9 (wrap64 (x10 + 1)) x339000 x339001 x339002))) else (some false)) else (some false)))
end
def sakialaw08_WordOrder.f (k : Nat) (a0 : Int) (l1 : List (S36)) : Option (Bool) := (sakialaw08_awake.f k).bind fun t322 => (if (l1.length : Int) > 100 then (some t322) else (sakialaw08_WordOrder.l0 k l1 t322 (wrap64 (1 + (wrap64 (Int.tmod a0 9)))) 0 0 0 0 0 0))
theorem sakialaw08_WordOrder.mono_l : ∀ k, (∀ y0 y1 y2 y3 y4 y5 y6 y7 y8, LeO (sakialaw08_WordOrder.l0 k y0 y1 y2 y3 y4 y5 y6 y7 y8) (sakialaw08_WordOrder.l0 (k + 1) y0 y1 y2 y3 y4 y5 y6 y7 y8)) ∧ (∀ y0 y1 y2 y3 y4 y5 y6 y7 y8 y9 y10, LeO (sakialaw08_WordOrder.j1 k y0 y1 y2 y3 y4 y5 y6 y7 y8 y9 y10) (sakialaw08_WordOrder.j1 (k + 1) y0 y1 y2 y3 y4 y5 y6 y7 y8 y9 y10)) ∧ (∀ y0 y1 y2 y3 y4 y5 y6 y7 y8 y9 y10, LeO (sakialaw08_WordOrder.j2 k y0 y1 y2 y3 y4 y5 y6 y7 y8 y9 y10) (sakialaw08_WordOrder.j2 (k + 1) y0 y1 y2 y3 y4 y5 y6 y7 y8 y9 y10))
 | 0 => ⟨fun _ _ _ _ _ _ _ _ _ r h => by simp [sakialaw08_WordOrder.l0] at h, fun _ _ _ _ _ _ _ _ _ _ _ r h => by simp [sakialaw08_WordOrder.j1] at h, fun _ _ _ _ _ _ _ _ _ _ _ r h => by simp [sakialaw08_WordOrder.j2] at h⟩
 | k + 1 => by
  obtain ⟨ih0, ih1, ih2⟩ := sakialaw08_WordOrder.mono_l k
  refine ⟨?_, ?_, ?_⟩
  ·intro y0 y1 y2 y3 y4 y5 y6 y7 y8
   unfold sakialaw08_WordOrder.l0
   repeat' first
   | (with_reducible exact ih0 _ _ _ _ _ _ _ _ _)
   | (with_reducible exact ih1 _ _ _ _ _ _ _ _ _ _ _)
   | (with_reducible exact ih2 _ _ _ _ _ _ _ _ _ _ _)
   | (with_reducible exact pos_Len.mono _ _ _ _)
   | (with_reducible exact sakialaw08_awake.mono _)
   | (with_reducible exact word_Accept.mono _ _ _ _ _)
   | (with_reducible exact word_Evict.mono _ _ _ _ _ _)
   | (with_reducible exact word_Take.mono _ _ _ _ _)
   | (with_reducible exact LeO.refl _)
   | (with_reducible exact LeO.none _)
   | (with_reducible refine LeO.ite ?_ ?_)
   | (with_reducible refine LeO.bind ?_ (fun _ => ?_))
   | exact ih0 _ _ _ _ _ _ _ _ _
   | exact ih1 _ _ _ _ _ _ _ _ _ _ _
   | exact ih2 _ _ _ _ _ _ _ _ _ _ _
   | exact pos_Len.mono _ _ _ _
   | exact sakialaw08_awake.mono _
   | exact word_Accept.mono _ _ _ _ _
   | exact word_Evict.mono _ _ _ _ _ _
   | exact word_Take.mono _ _ _ _ _
   | exact LeO.none _
   | refine LeO.ite ?_ ?_
   | refine LeO.bind ?_ (fun _ => ?_)
  ·intro y0 y1 y2 y3 y4 y5 y6 y7 y8 y9 y10
   unfold sakialaw08_WordOrder.j1
   repeat' first
   | (with_reducible exact ih0 _ _ _ _ _ _ _ _ _)
   | (with_reducible exact ih1 _ _ _ _ _ _ _ _ _ _ _)
   | (with_reducible exact ih2 _ _ _ _ _ _ _ _ _ _ _)
   | (with_reducible exact pos_Len.mono _ _ _ _)
   | (with_reducible exact sakialaw08_awake.mono _)
   | (with_reducible exact word_Accept.mono _ _ _ _ _)
   | (with_reducible exact word_Evict.mono _ _ _ _ _ _)
   | (with_reducible exact word_Take.mono _ _ _ _ _)
   | (with_reducible exact LeO.refl _)
   | (with_reducible exact LeO.none _)
   | (with_reducible refine LeO.ite ?_ ?_)
   | (with_reducible refine LeO.bind ?_ (fun _ => ?_))
   | exact ih0 _ _ _ _ _ _ _ _ _
   | exact ih1 _ _ _ _ _ _ _ _ _ _ _
   | exact ih2 _ _ _ _ _ _ _ _ _ _ _
   | exact pos_Len.mono _ _ _ _
   | exact sakialaw08_awake.mono _
   | exact word_Accept.mono _ _ _ _ _
   | exact word_Evict.mono _ _ _ _ _ _
   | exact word_Take.mono _ _ _ _ _
   | exact LeO.none _
   | refine LeO.ite ?_ ?_
   | refine LeO.bind ?_ (fun _ => ?_)
  ·intro y0 y1 y2 y3 y4 y5 y6 y7 y8 y9 y10
   unfold sakialaw08_WordOrder.j2
   repeat' first
   | (with_reducible exact ih0 _ _ _ _ _ _ _ _ _)
   | (with_reducible exact ih1 _ _ _ _ _ _ _ _ _ _ _)
   | (with_reducible exact ih2 _ _ _ _ _ _ _ _ _ _ _)
   | (with_reducible exact pos_Len.mono _ _ _ _)
   | (with_reducible exact sakialaw08_awake.mono _)
   | (with_reducible exact word_Accept.mono _ _ _ _ _)
   | (with_reducible exact word_Evict.mono _ _ _ _ _ _)
   | (with_reducible exact word_Take.mono _ _ _ _ _)
   | (with_reducible exact LeO.refl _)
   | (with_reducible exact LeO.none _)
   | (with_reducible refine LeO.ite ?_ ?_)
   | (with_reducible refine LeO.bind ?_ (fun _ => ?_))
   | exact ih0 _ _ _ _ _ _ _ _ _
   | exact ih1 _ _ _ _ _ _ _ _ _ _ _
   | exact ih2 _ _ _ _ _ _ _ _ _ _ _
   | exact pos_Len.mono _ _ _ _
   | exact sakialaw08_awake.mono _
   | exact word_Accept.mono _ _ _ _ _
   | exact word_Evict.mono _ _ _ _ _ _
   | exact word_Take.mono _ _ _ _ _
   | exact LeO.none _
   | refine LeO.ite ?_ ?_
   | refine LeO.bind ?_ (fun _ => ?_)
theorem sakialaw08_WordOrder.mono : ∀ a0 a1 k, LeO (sakialaw08_WordOrder.f k a0 a1) (sakialaw08_WordOrder.f (k + 1) a0 a1) := by
 intro a0 a1 k
 obtain ⟨ih0, ih1, ih2⟩ := sakialaw08_WordOrder.mono_l k
 unfold sakialaw08_WordOrder.f
 repeat' first
   | (with_reducible exact ih0 _ _ _ _ _ _ _ _ _)
   | (with_reducible exact ih1 _ _ _ _ _ _ _ _ _ _ _)
   | (with_reducible exact ih2 _ _ _ _ _ _ _ _ _ _ _)
   | (with_reducible exact pos_Len.mono _ _ _ _)
   | (with_reducible exact sakialaw08_awake.mono _)
   | (with_reducible exact word_Accept.mono _ _ _ _ _)
   | (with_reducible exact word_Evict.mono _ _ _ _ _ _)
   | (with_reducible exact word_Take.mono _ _ _ _ _)
   | (with_reducible exact LeO.refl _)
   | (with_reducible exact LeO.none _)
   | (with_reducible refine LeO.ite ?_ ?_)
   | (with_reducible refine LeO.bind ?_ (fun _ => ?_))
   | exact ih0 _ _ _ _ _ _ _ _ _
   | exact ih1 _ _ _ _ _ _ _ _ _ _ _
   | exact ih2 _ _ _ _ _ _ _ _ _ _ _
   | exact pos_Len.mono _ _ _ _
   | exact sakialaw08_awake.mono _
   | exact word_Accept.mono _ _ _ _ _
   | exact word_Evict.mono _ _ _ _ _ _
   | exact word_Take.mono _ _ _ _ _
   | exact LeO.none _
   | refine LeO.ite ?_ ?_
   | refine LeO.bind ?_ (fun _ => ?_)
set_option maxHeartbeats 8000000 in
set_option maxRecDepth 100000 in
theorem sakialaw08_WordOrder.calls (k : Nat) (a0 : Int) (A1 : Option Addr) (c1 : Nat) (l1 : List (S36)) (r : Bool) (w : World) (hr1 : Kd.C k36 w A1 l1.length l1) (hc1 : l1.length ≤ c1) (hr_ : r = true) (h : sakialaw08_WordOrder.f k a0 l1 = some r) :
  Calls Try.prog 5 #[.int .u8 a0, .slice A1 l1.length c1] w fun e w' => e = .returned (.bool r) ∧ Below w.heap.size w w' := by
 have hu23 := Try.underlying23
 have HR1 := Aside0.mk hr1
 have HC1 := Aside0.mk hc1
 clear hr1 hc1
 have HB := Aside0.mk (Below.refl w.heap.size w)
 have HR_ := Aside0.mk hr_
 clear hr_
 have H : ((sakialaw08_awake.f k).bind fun t322 => (if (l1.length : Int) > 100 then (some t322) else (sakialaw08_WordOrder.l0 k l1 t322 (wrap64 (1 + (wrap64 (Int.tmod a0 9)))) 0 0 0 0 0 0))) = some r := h
 clear h
 replace H := Option.bind_eq_some_iff.mp H
 obtain ⟨t322, A30, H⟩ := H
 replace H : (if (l1.length : Int) > 100 then (some t322) else (sakialaw08_WordOrder.l0 k l1 t322 (wrap64 (1 + (wrap64 (Int.tmod a0 9)))) 0 0 0 0 0 0)) = some r := H
 have A3 := Aside0.mk A30
 clear A30
 by_cases c4 : (l1.length : Int) > 100
 ·rw [if_pos c4] at H
  have c4b0 : decide (100 < (l1.length : Int)) = true := decide_eq_true c4
  have c4b1 : decide (100 < l1.length) = true := decide_eq_true (by omega)
  clear c4
  obtain rfl := Option.some.inj H
  go_enter Try.func5, Try.ntmps5
  go_wp2_with (first | ((with_reducible refine gate_callee (f := 15) rfl ?_); refine goesL_ (some 19) rfl rfl Try.func15 (by kernel_rfl) rfl #[] rfl (by (try simp only [List.map_toArray, List.map_cons, List.map_nil]); first | done | rfl | (simp only [List.length_drop, List.length_take]; rfl)) ?_; (with_reducible refine (sakialaw08_awake.calls k  t322 _ A3.out).mono ?_); rintro e w5 ⟨rfl, hb⟩; refine ⟨_, rfl, ?_⟩; have n0_ := Aside0.mk (below_step (by repeat (first | (with_reducible first | exact HB.out | apply bA | apply bN | apply bD) | exact HB.out)) hb); clear HB; have HB := n0_; clear n0_; (try clear hb); (try clear hb2); (try clear hk); (try clear hi)))
  go_ret
  exact ⟨by first | rfl | (simp [errW_none, errW_some] <;> rfl) | (simp [*, errW_none, errW_some] <;> rfl), by repeat (first | (with_reducible first | exact HB.out | apply bA | apply bN | apply bD) | exact HB.out)⟩
 ·rw [if_neg c4] at H
  have c4b0 : decide (100 < (l1.length : Int)) = false := decide_eq_false c4
  have c4b1 : decide (100 < l1.length) = false := decide_eq_false (by omega)
  clear c4
  have H' := Aside0.mk H
  clear H
  go_enter Try.func5, Try.ntmps5
  go_wp2_with (first | ((with_reducible refine gate_callee (f := 15) rfl ?_); refine goesL_ (some 19) rfl rfl Try.func15 (by kernel_rfl) rfl #[] rfl (by (try simp only [List.map_toArray, List.map_cons, List.map_nil]); first | done | rfl | (simp only [List.length_drop, List.length_take]; rfl)) ?_; (with_reducible refine (sakialaw08_awake.calls k  t322 _ A3.out).mono ?_); rintro e w6 ⟨rfl, hb⟩; refine ⟨_, rfl, ?_⟩; have n0_ := Aside0.mk (below_step (by repeat (first | (with_reducible first | exact HB.out | apply bA | apply bN | apply bD) | exact HB.out)) hb); clear HB; have HB := n0_; clear n0_; (try clear hb); (try clear hb2); (try clear hk); (try clear hi)) | ((with_reducible refine gate_dst (N := 7) rfl ?_); refine box_event ?hg (N := 7) ?hd (cs := #[.int .i64 0, .int .i64 0, .int .i64 0]) (t := 23) ?hr ?_; (case hd => rfl); (case hg => rfl); (case hr => first | (go_simp; done) | (go_simp; rfl)); intro gb323 hg w7 hbox hb; have n0_ := Aside0.mk (below_step (by repeat (first | (with_reducible first | exact HB.out | apply bA | apply bN | apply bD) | exact HB.out)) hb); have n1_ := Aside0.mk (hbox); have n2_ := Aside0.mk ((by rw [hg]; exact (below_size (by repeat (first | (with_reducible first | exact HB.out | apply bA | apply bN | apply bD) | exact HB.out))) : w.heap.size ≤ gb323)); have n3_ := Aside0.mk ((by rw [hg]; exact (below_size (by repeat (first | (with_reducible first | exact HB.out | apply bA | apply bN | apply bD) | exact HB.out))) : w.heap.size ≤ gb323)); clear HB; have HB := n0_; have BK323 := n1_; have GW323 := n2_; have GE323 := n3_; clear n0_ n1_ n2_ n3_; clear hb hbox hg))
  go_loopg [8, 9, 10] k (fun kq v8 v9 v10 w' => ∃ (x8_1 : Int) (x9_1 : Int) (x10_1 : Int) (x324000_1 : Int) (x324001_1 : Int) (x324002_1 : Int), v8 = .int .i64 x8_1 ∧ v9 = .int .i64 x9_1 ∧ v10 = .int .i64 x10_1 ∧ Aside0 (sakialaw08_WordOrder.l0 kq l1 t322 (wrap64 (1 + (wrap64 (Int.tmod a0 9)))) x8_1 x9_1 x10_1 x324000_1 x324001_1 x324002_1 = some r) ∧ Aside0 (kq ≤ k) ∧ Aside0 (w'.heap[gb323]? = some (.cells #[.int .i64 x324000_1, .int .i64 x324001_1, .int .i64 x324002_1] 23 (0, 0))) ∧ Aside0 (Below w.heap.size w w'))
  case atStart => exact ⟨(0), (0), (0), (0), (0), (0), (by first | rfl | (simp; done) | (simp [*]; done)), (by first | rfl | (simp; done) | (simp [*]; done)), (by first | rfl | (simp; done) | (simp [*]; done)), H', ⟨Nat.le_refl _⟩, ⟨by (with_reducible repeat (first | apply kN | apply kD | apply kA)); exact BK323.out⟩, ⟨by repeat (first | (with_reducible first | exact HB.out | apply bA | apply bN | apply bD | refine below_set ?_ GE323.out) | exact HB.out)⟩⟩
  case round =>
   clear H'
   try clear c1
   try clear p2
   try clear c4
   try clear c4b0
   try clear c4b1
   try clear c5
   try clear p6
   obtain ⟨x8_1, x9_1, x10_1, x324000_1, x324001_1, x324002_1, rfl, rfl, rfl, HA, HK1, BK323, HB⟩ := hrel
   cases gk with
   | zero => exact absurd HA.out (by simp [sakialaw08_WordOrder.l0])
   | succ k1 =>
    have H := HA.out
    clear HA
    simp only [sakialaw08_WordOrder.l0] at H
    by_cases c8 : x10_1 < (l1.length : Int)
    ·rw [if_pos c8] at H
     have c8b0 : decide (x10_1 < (l1.length : Int)) = true := decide_eq_true c8
     clear c8
     by_cases c9 : 0 ≤ x10_1
     ·rw [if_pos c9] at H
      have c9b0 : decide (0 ≤ x10_1) = true := decide_eq_true c9
      clear c9
      by_cases c10 : ((rd_T36 l1 x10_1).f0) = 0
      ·rw [if_pos c10] at H
       have c10b0 : (((rd_T36 l1 x10_1).f0) == 0) = true := beq_iff_eq.mpr c10
       have c10b1 : (((rd_T36 l1 x10_1).f0) != 0) = false := bne_eq_false_iff_eq.mpr c10
       clear c10
       replace H := Option.bind_eq_some_iff.mp H
       obtain ⟨⟨t325, t326, t327, t328, t329⟩, A110, H⟩ := H
       replace H : (if t329 = 1 then (if t328 = x8_1 then (if t329 = 2 then (if (wrap64 (x8_1 - x9_1)) < (wrap64 (1 + (wrap64 (Int.tmod a0 9)))) then (sakialaw08_WordOrder.j1 k1 l1 t322 (wrap64 (1 + (wrap64 (Int.tmod a0 9)))) x8_1 x9_1 x10_1 t329 true t325 t326 t327) else (sakialaw08_WordOrder.j1 k1 l1 t322 (wrap64 (1 + (wrap64 (Int.tmod a0 9)))) x8_1 x9_1 x10_1 t329 ((t329 == 6) != (x324002_1 == 1)) t325 t326 t327)) else (sakialaw08_WordOrder.j1 k1 l1 t322 (wrap64 (1 + (wrap64 (Int.tmod a0 9)))) x8_1 x9_1 x10_1 t329 ((t329 == 6) != (x324002_1 == 1)) t325 t326 t327)) else (sakialaw08_WordOrder.j1 k1 l1 t322 (wrap64 (1 + (wrap64 (Int.tmod a0 9)))) x8_1 x9_1 x10_1 t329 true t325 t326 t327)) else (if t329 = 2 then (if (wrap64 (x8_1 - x9_1)) < (wrap64 (1 + (wrap64 (Int.tmod a0 9)))) then (sakialaw08_WordOrder.j1 k1 l1 t322 (wrap64 (1 + (wrap64 (Int.tmod a0 9)))) x8_1 x9_1 x10_1 t329 true t325 t326 t327) else (sakialaw08_WordOrder.j1 k1 l1 t322 (wrap64 (1 + (wrap64 (Int.tmod a0 9)))) x8_1 x9_1 x10_1 t329 ((t329 == 6) != (x324002_1 == 1)) t325 t326 t327)) else (sakialaw08_WordOrder.j1 k1 l1 t322 (wrap64 (1 + (wrap64 (Int.tmod a0 9)))) x8_1 x9_1 x10_1 t329 ((t329 == 6) != (x324002_1 == 1)) t325 t326 t327))) = some r := H
       have A11 := Aside0.mk A110
       clear A110
       have HC12 := Aside0.mk H
       clear H
       have p324 : 0 ≤ (x10_1 : Int) := of_decide_eq_true (by first | (with_reducible assumption) | assumption)
       have q324 : x10_1 < (l1.length : Int) := of_decide_eq_true (by first | (with_reducible assumption) | assumption)
       obtain ⟨ad324, e324, hx324_0⟩ := at_T36 HR1.out x10_1 p324 q324
       cases e324
       replace hx324_0 := (HB.out.cell (World.block_lt_of_cell? w _ hx324_0)).trans hx324_0
       replace p324 := eq_true p324
       replace q324 := eq_true q324
       obtain ⟨hcz13_0, hcz13_1, hcz13_2, hfz13_0, hfz13_1, hfz13_2⟩ := cells3 (w := wr) (g := gb323) BK323.out
       go_upto_region 15 with (first | ((with_reducible refine gate_callee (f := 16) rfl ?_); refine goesL_ (some 46) rfl rfl Try.func16 (by kernel_rfl) rfl #[.agg #[.int .i64 x324000_1, .int .i64 x324001_1, .int .i64 x324002_1], .int .i64 (wrap64 (1 + (wrap64 (Int.tmod a0 9))))] rfl (by (try simp only [List.map_toArray, List.map_cons, List.map_nil]); first | done | rfl | (simp only [List.length_drop, List.length_take]; rfl)) ?_; (with_reducible refine (word_Accept.calls k1 x324000_1 x324001_1 x324002_1 (wrap64 (1 + (wrap64 (Int.tmod a0 9)))) t325 t326 t327 t328 t329 _ A11.out).mono ?_); rintro e w14 ⟨rfl, hb⟩; refine ⟨_, rfl, ?_⟩; have n0_ := Aside0.mk (blk_below (g := gb323) (o := .cells #[.int .i64 x324000_1, .int .i64 x324001_1, .int .i64 x324002_1] 23 (0, 0)) (by (with_reducible repeat (first | apply kN | apply kD | apply kA)); exact BK323.out) hb); have n1_ := Aside0.mk (below_step (by repeat (first | (with_reducible first | exact HB.out | apply bA | apply bN | apply bD | refine below_set ?_ GE323.out) | exact HB.out)) hb); clear BK323; clear HB; have BK323 := n0_; have HB := n1_; clear n0_ n1_; (try clear hb); (try clear hb2); (try clear hk); (try clear hi)) | ((with_reducible refine gate_dst (N := 11) rfl ?_); refine box_event ?hg (N := 11) ?hd (cs := #[.int .i64 0, .int .i64 0, .int .i64 0]) (t := 23) ?hr ?_; (case hd => rfl); (case hg => rfl); (case hr => first | (go_simp; done) | (go_simp; rfl)); intro gb330 hg w15 hbox hb; have n0_ := Aside0.mk (blk_below (g := gb323) (o := .cells #[.int .i64 x324000_1, .int .i64 x324001_1, .int .i64 x324002_1] 23 (0, 0)) (by (with_reducible repeat (first | apply kN | apply kD | apply kA)); exact BK323.out) hb); have n1_ := Aside0.mk (below_step (by repeat (first | (with_reducible first | exact HB.out | apply bA | apply bN | apply bD | refine below_set ?_ GE323.out) | exact HB.out)) hb); have n2_ := Aside0.mk (hbox); have n3_ := Aside0.mk ((by rw [hg]; exact (below_size (by repeat (first | (with_reducible first | exact HB.out | apply bA | apply bN | apply bD | refine below_set ?_ GE323.out) | exact HB.out))) : w.heap.size ≤ gb330)); have n4_ := Aside0.mk ((by rw [hg]; exact (below_size (by repeat (first | (with_reducible first | exact HB.out | apply bA | apply bN | apply bD | refine below_set ?_ GE323.out) | exact HB.out))) : w.heap.size ≤ gb330)); have n5_ := Aside0.mk ((by rw [hg]; exact Nat.ne_of_lt (blk_lt (g := gb323) (o := .cells #[.int .i64 x324000_1, .int .i64 x324001_1, .int .i64 x324002_1] 23 (0, 0)) (by (with_reducible repeat (first | apply kN | apply kD | apply kA)); exact BK323.out)) : gb323 ≠ gb330)); have n6_ := Aside0.mk ((by rw [hg]; exact Nat.ne_of_gt (blk_lt (g := gb323) (o := .cells #[.int .i64 x324000_1, .int .i64 x324001_1, .int .i64 x324002_1] 23 (0, 0)) (by (with_reducible repeat (first | apply kN | apply kD | apply kA)); exact BK323.out)) : gb330 ≠ gb323)); clear BK323; clear HB; have BK323 := n0_; have HB := n1_; have BK330 := n2_; have GW330 := n3_; have GE330 := n4_; have NB323_330 := n5_; have NB330_323 := n6_; clear n0_ n1_ n2_ n3_ n4_ n5_ n6_; clear hb hbox hg; have hnb16 := NB330_323.out; have hnc16 := NB323_330.out; obtain ⟨hcz17_0, hcz17_1, hcz17_2, hfz17_0, hfz17_1, hfz17_2⟩ := cells3 (w := w15) (g := gb330) BK330.out))
       (try simp only [Act.put, List.setIfInBounds_toArray, List.set_cons_zero, List.set_cons_succ])
       go_cut [75] (fun v75 wc => ∃ (kq : Nat) (x75_11 : Bool), v75 = .bool x75_11 ∧ Aside0 (sakialaw08_WordOrder.j1 kq l1 t322 (wrap64 (1 + (wrap64 (Int.tmod a0 9)))) x8_1 x9_1 x10_1 t329 x75_11 t325 t326 t327 = some r) ∧ Aside0 (kq ≤ k1) ∧ Aside0 (wc.heap[gb323]? = some (.cells #[.int .i64 x324000_1, .int .i64 x324001_1, .int .i64 x324002_1] 23 (0, 0))) ∧ Aside0 (wc.heap[gb330]? = some (.cells #[.int .i64 t325, .int .i64 t326, .int .i64 t327] 23 (0, 0))) ∧ Aside0 (Below w.heap.size w wc))
       case first =>
        have H := HC12.out
        clear HC12
        by_cases c18 : t329 = 1
        ·rw [if_pos c18] at H
         have c18b0 : (t329 == 1) = true := beq_iff_eq.mpr c18
         have c18b1 : (t329 != 1) = false := bne_eq_false_iff_eq.mpr c18
         clear c18
         (first | rw [c18b0] | (simp only [i64_w, i32_w]; rw [c18b0]) | skip)
         by_cases c19 : t328 = x8_1
         ·rw [if_pos c19] at H
          have c19b0 : (t328 == x8_1) = true := beq_iff_eq.mpr c19
          have c19b1 : (t328 != x8_1) = false := bne_eq_false_iff_eq.mpr c19
          clear c19
          by_cases c20 : t329 = 2
          ·rw [if_pos c20] at H
           have c20b0 : (t329 == 2) = true := beq_iff_eq.mpr c20
           have c20b1 : (t329 != 2) = false := bne_eq_false_iff_eq.mpr c20
           clear c20
           by_cases c21 : (wrap64 (x8_1 - x9_1)) < (wrap64 (1 + (wrap64 (Int.tmod a0 9))))
           ·rw [if_pos c21] at H
            have c21b0 : decide ((wrap64 (x8_1 - x9_1)) < (wrap64 (1 + (wrap64 (Int.tmod a0 9))))) = true := decide_eq_true c21
            clear c21
            have H' := Aside0.mk H
            clear H
            go_wp2
            go_meet
            case rel => exact ⟨_, (true), (by first | rfl | (simp; done) | (simp [*]; done)), H', ⟨by have := HK1.out; first | omega | exact Nat.le_refl _⟩, ⟨by (with_reducible repeat (first | apply kN | apply kD | apply kA)); refine blk_far ?_ NB323_330.out _; (with_reducible repeat (first | apply kN | apply kD | apply kA)); refine blk_far ?_ NB323_330.out _; (with_reducible repeat (first | apply kN | apply kD | apply kA)); refine blk_far ?_ NB323_330.out _; (with_reducible repeat (first | apply kN | apply kD | apply kA)); exact BK323.out⟩, ⟨by (with_reducible repeat (first | apply kN | apply kD | apply kA)); refine blk_put (cs := #[.int .i64 t325, .int .i64 t326, .int .i64 0]) ?_ 2 _ rfl; (with_reducible repeat (first | apply kN | apply kD | apply kA)); refine blk_put (cs := #[.int .i64 t325, .int .i64 0, .int .i64 0]) ?_ 1 _ rfl; (with_reducible repeat (first | apply kN | apply kD | apply kA)); refine blk_put (cs := #[.int .i64 0, .int .i64 0, .int .i64 0]) ?_ 0 _ rfl; (with_reducible repeat (first | apply kN | apply kD | apply kA)); exact BK330.out⟩, ⟨by repeat (first | (with_reducible first | exact HB.out | apply bA | apply bN | apply bD | refine below_set ?_ GE323.out | refine below_set ?_ GE330.out) | exact HB.out)⟩⟩
           ·rw [if_neg c21] at H
            have c21b0 : decide ((wrap64 (x8_1 - x9_1)) < (wrap64 (1 + (wrap64 (Int.tmod a0 9))))) = false := decide_eq_false c21
            clear c21
            have H' := Aside0.mk H
            clear H
            have hnb22 := NB323_330.out
            have hnc22 := NB330_323.out
            obtain ⟨hcz23_0, hcz23_1, hcz23_2, hfz23_0, hfz23_1, hfz23_2⟩ := cells3 (w := w15) (g := gb323) BK323.out
            go_wp2
            go_meet
            case rel => exact ⟨_, (((t329 == 6) != (x324002_1 == 1))), (by first | rfl | (simp; done) | (simp [*]; done)), H', ⟨by have := HK1.out; first | omega | exact Nat.le_refl _⟩, ⟨by (with_reducible repeat (first | apply kN | apply kD | apply kA)); refine blk_far ?_ NB323_330.out _; (with_reducible repeat (first | apply kN | apply kD | apply kA)); refine blk_far ?_ NB323_330.out _; (with_reducible repeat (first | apply kN | apply kD | apply kA)); refine blk_far ?_ NB323_330.out _; (with_reducible repeat (first | apply kN | apply kD | apply kA)); exact BK323.out⟩, ⟨by (with_reducible repeat (first | apply kN | apply kD | apply kA)); refine blk_put (cs := #[.int .i64 t325, .int .i64 t326, .int .i64 0]) ?_ 2 _ rfl; (with_reducible repeat (first | apply kN | apply kD | apply kA)); refine blk_put (cs := #[.int .i64 t325, .int .i64 0, .int .i64 0]) ?_ 1 _ rfl; (with_reducible repeat (first | apply kN | apply kD | apply kA)); refine blk_put (cs := #[.int .i64 0, .int .i64 0, .int .i64 0]) ?_ 0 _ rfl; (with_reducible repeat (first | apply kN | apply kD | apply kA)); exact BK330.out⟩, ⟨by repeat (first | (with_reducible first | exact HB.out | apply bA | apply bN | apply bD | refine below_set ?_ GE323.out | refine below_set ?_ GE330.out) | exact HB.out)⟩⟩
          ·rw [if_neg c20] at H
           have c20b0 : (t329 == 2) = false := beq_eq_false_iff_ne.mpr c20
           have c20b1 : (t329 != 2) = true := bne_iff_ne.mpr c20
           have H' := Aside0.mk H
           clear H
           have hnb24 := NB323_330.out
           have hnc24 := NB330_323.out
           obtain ⟨hcz25_0, hcz25_1, hcz25_2, hfz25_0, hfz25_1, hfz25_2⟩ := cells3 (w := w15) (g := gb323) BK323.out
           go_wp2
           go_meet
           case rel => exact ⟨_, (((t329 == 6) != (x324002_1 == 1))), (by first | rfl | (simp; done) | (simp [*]; done)), H', ⟨by have := HK1.out; first | omega | exact Nat.le_refl _⟩, ⟨by (with_reducible repeat (first | apply kN | apply kD | apply kA)); refine blk_far ?_ NB323_330.out _; (with_reducible repeat (first | apply kN | apply kD | apply kA)); refine blk_far ?_ NB323_330.out _; (with_reducible repeat (first | apply kN | apply kD | apply kA)); refine blk_far ?_ NB323_330.out _; (with_reducible repeat (first | apply kN | apply kD | apply kA)); exact BK323.out⟩, ⟨by (with_reducible repeat (first | apply kN | apply kD | apply kA)); refine blk_put (cs := #[.int .i64 t325, .int .i64 t326, .int .i64 0]) ?_ 2 _ rfl; (with_reducible repeat (first | apply kN | apply kD | apply kA)); refine blk_put (cs := #[.int .i64 t325, .int .i64 0, .int .i64 0]) ?_ 1 _ rfl; (with_reducible repeat (first | apply kN | apply kD | apply kA)); refine blk_put (cs := #[.int .i64 0, .int .i64 0, .int .i64 0]) ?_ 0 _ rfl; (with_reducible repeat (first | apply kN | apply kD | apply kA)); exact BK330.out⟩, ⟨by repeat (first | (with_reducible first | exact HB.out | apply bA | apply bN | apply bD | refine below_set ?_ GE323.out | refine below_set ?_ GE330.out) | exact HB.out)⟩⟩
         ·rw [if_neg c19] at H
          have c19b0 : (t328 == x8_1) = false := beq_eq_false_iff_ne.mpr c19
          have c19b1 : (t328 != x8_1) = true := bne_iff_ne.mpr c19
          have H' := Aside0.mk H
          clear H
          go_wp2
          go_meet
          case rel => exact ⟨_, (true), (by first | rfl | (simp; done) | (simp [*]; done)), H', ⟨by have := HK1.out; first | omega | exact Nat.le_refl _⟩, ⟨by (with_reducible repeat (first | apply kN | apply kD | apply kA)); refine blk_far ?_ NB323_330.out _; (with_reducible repeat (first | apply kN | apply kD | apply kA)); refine blk_far ?_ NB323_330.out _; (with_reducible repeat (first | apply kN | apply kD | apply kA)); refine blk_far ?_ NB323_330.out _; (with_reducible repeat (first | apply kN | apply kD | apply kA)); exact BK323.out⟩, ⟨by (with_reducible repeat (first | apply kN | apply kD | apply kA)); refine blk_put (cs := #[.int .i64 t325, .int .i64 t326, .int .i64 0]) ?_ 2 _ rfl; (with_reducible repeat (first | apply kN | apply kD | apply kA)); refine blk_put (cs := #[.int .i64 t325, .int .i64 0, .int .i64 0]) ?_ 1 _ rfl; (with_reducible repeat (first | apply kN | apply kD | apply kA)); refine blk_put (cs := #[.int .i64 0, .int .i64 0, .int .i64 0]) ?_ 0 _ rfl; (with_reducible repeat (first | apply kN | apply kD | apply kA)); exact BK330.out⟩, ⟨by repeat (first | (with_reducible first | exact HB.out | apply bA | apply bN | apply bD | refine below_set ?_ GE323.out | refine below_set ?_ GE330.out) | exact HB.out)⟩⟩
        ·rw [if_neg c18] at H
         have c18b0 : (t329 == 1) = false := beq_eq_false_iff_ne.mpr c18
         have c18b1 : (t329 != 1) = true := bne_iff_ne.mpr c18
         (first | rw [c18b0] | (simp only [i64_w, i32_w]; rw [c18b0]) | skip)
         by_cases c26 : t329 = 2
         ·rw [if_pos c26] at H
          have c26b0 : (t329 == 2) = true := beq_iff_eq.mpr c26
          have c26b1 : (t329 != 2) = false := bne_eq_false_iff_eq.mpr c26
          clear c26
          by_cases c27 : (wrap64 (x8_1 - x9_1)) < (wrap64 (1 + (wrap64 (Int.tmod a0 9))))
          ·rw [if_pos c27] at H
           have c27b0 : decide ((wrap64 (x8_1 - x9_1)) < (wrap64 (1 + (wrap64 (Int.tmod a0 9))))) = true := decide_eq_true c27
           clear c27
           have H' := Aside0.mk H
           clear H
           go_wp2
           go_meet
           case rel => exact ⟨_, (true), (by first | rfl | (simp; done) | (simp [*]; done)), H', ⟨by have := HK1.out; first | omega | exact Nat.le_refl _⟩, ⟨by (with_reducible repeat (first | apply kN | apply kD | apply kA)); refine blk_far ?_ NB323_330.out _; (with_reducible repeat (first | apply kN | apply kD | apply kA)); refine blk_far ?_ NB323_330.out _; (with_reducible repeat (first | apply kN | apply kD | apply kA)); refine blk_far ?_ NB323_330.out _; (with_reducible repeat (first | apply kN | apply kD | apply kA)); exact BK323.out⟩, ⟨by (with_reducible repeat (first | apply kN | apply kD | apply kA)); refine blk_put (cs := #[.int .i64 t325, .int .i64 t326, .int .i64 0]) ?_ 2 _ rfl; (with_reducible repeat (first | apply kN | apply kD | apply kA)); refine blk_put (cs := #[.int .i64 t325, .int .i64 0, .int .i64 0]) ?_ 1 _ rfl; (with_reducible repeat (first | apply kN | apply kD | apply kA)); refine blk_put (cs := #[.int .i64 0, .int .i64 0, .int .i64 0]) ?_ 0 _ rfl; (with_reducible repeat (first | apply kN | apply kD | apply kA)); exact BK330.out⟩, ⟨by repeat (first | (with_reducible first | exact HB.out | apply bA | apply bN | apply bD | refine below_set ?_ GE323.out | refine below_set ?_ GE330.out) | exact HB.out)⟩⟩
          ·rw [if_neg c27] at H
           have c27b0 : decide ((wrap64 (x8_1 - x9_1)) < (wrap64 (1 + (wrap64 (Int.tmod a0 9))))) = false := decide_eq_false c27
           clear c27
           have H' := Aside0.mk H
           clear H
           have hnb28 := NB323_330.out
           have hnc28 := NB330_323.out
           obtain ⟨hcz29_0, hcz29_1, hcz29_2, hfz29_0, hfz29_1, hfz29_2⟩ := cells3 (w := w15) (g := gb323) BK323.out
           go_wp2
           go_meet
           case rel => exact ⟨_, (((t329 == 6) != (x324002_1 == 1))), (by first | rfl | (simp; done) | (simp [*]; done)), H', ⟨by have := HK1.out; first | omega | exact Nat.le_refl _⟩, ⟨by (with_reducible repeat (first | apply kN | apply kD | apply kA)); refine blk_far ?_ NB323_330.out _; (with_reducible repeat (first | apply kN | apply kD | apply kA)); refine blk_far ?_ NB323_330.out _; (with_reducible repeat (first | apply kN | apply kD | apply kA)); refine blk_far ?_ NB323_330.out _; (with_reducible repeat (first | apply kN | apply kD | apply kA)); exact BK323.out⟩, ⟨by (with_reducible repeat (first | apply kN | apply kD | apply kA)); refine blk_put (cs := #[.int .i64 t325, .int .i64 t326, .int .i64 0]) ?_ 2 _ rfl; (with_reducible repeat (first | apply kN | apply kD | apply kA)); refine blk_put (cs := #[.int .i64 t325, .int .i64 0, .int .i64 0]) ?_ 1 _ rfl; (with_reducible repeat (first | apply kN | apply kD | apply kA)); refine blk_put (cs := #[.int .i64 0, .int .i64 0, .int .i64 0]) ?_ 0 _ rfl; (with_reducible repeat (first | apply kN | apply kD | apply kA)); exact BK330.out⟩, ⟨by repeat (first | (with_reducible first | exact HB.out | apply bA | apply bN | apply bD | refine below_set ?_ GE323.out | refine below_set ?_ GE330.out) | exact HB.out)⟩⟩
         ·rw [if_neg c26] at H
          have c26b0 : (t329 == 2) = false := beq_eq_false_iff_ne.mpr c26
          have c26b1 : (t329 != 2) = true := bne_iff_ne.mpr c26
          have H' := Aside0.mk H
          clear H
          have hnb30 := NB323_330.out
          have hnc30 := NB330_323.out
          obtain ⟨hcz31_0, hcz31_1, hcz31_2, hfz31_0, hfz31_1, hfz31_2⟩ := cells3 (w := w15) (g := gb323) BK323.out
          go_wp2
          go_meet
          case rel => exact ⟨_, (((t329 == 6) != (x324002_1 == 1))), (by first | rfl | (simp; done) | (simp [*]; done)), H', ⟨by have := HK1.out; first | omega | exact Nat.le_refl _⟩, ⟨by (with_reducible repeat (first | apply kN | apply kD | apply kA)); refine blk_far ?_ NB323_330.out _; (with_reducible repeat (first | apply kN | apply kD | apply kA)); refine blk_far ?_ NB323_330.out _; (with_reducible repeat (first | apply kN | apply kD | apply kA)); refine blk_far ?_ NB323_330.out _; (with_reducible repeat (first | apply kN | apply kD | apply kA)); exact BK323.out⟩, ⟨by (with_reducible repeat (first | apply kN | apply kD | apply kA)); refine blk_put (cs := #[.int .i64 t325, .int .i64 t326, .int .i64 0]) ?_ 2 _ rfl; (with_reducible repeat (first | apply kN | apply kD | apply kA)); refine blk_put (cs := #[.int .i64 t325, .int .i64 0, .int .i64 0]) ?_ 1 _ rfl; (with_reducible repeat (first | apply kN | apply kD | apply kA)); refine blk_put (cs := #[.int .i64 0, .int .i64 0, .int .i64 0]) ?_ 0 _ rfl; (with_reducible repeat (first | apply kN | apply kD | apply kA)); exact BK330.out⟩, ⟨by repeat (first | (with_reducible first | exact HB.out | apply bA | apply bN | apply bD | refine below_set ?_ GE323.out | refine below_set ?_ GE330.out) | exact HB.out)⟩⟩
       case rest =>
        clear HC12
        try clear c1
        try clear c2
        try clear p2
        try clear c3
        try clear p3
        try clear q3
        try clear hx3
        try clear c4
        try clear c4b0
        try clear c4b1
        try clear c5
        try clear p6
        try clear c8
        try clear c8b0
        try clear c9
        try clear c9b0
        try clear c10
        try clear c10b0
        try clear c10b1
        try clear c15
        try clear c16
        try clear c18
        try clear c18b0
        try clear c18b1
        try clear c19
        try clear c19b0
        try clear c19b1
        try clear c20
        try clear c20b0
        try clear c20b1
        try clear c21
        try clear c21b0
        try clear c22
        try clear c24
        try clear c26
        try clear c26b0
        try clear c26b1
        try clear c27
        try clear c27b0
        try clear c28
        try clear c30
        try clear hcz13_0
        try clear hcz13_1
        try clear hcz13_2
        try clear hcz17_0
        try clear hcz17_1
        try clear hcz17_2
        try clear hcz23_0
        try clear hcz23_1
        try clear hcz23_2
        try clear hcz25_0
        try clear hcz25_1
        try clear hcz25_2
        try clear hcz29_0
        try clear hcz29_1
        try clear hcz29_2
        try clear hcz31_0
        try clear hcz31_1
        try clear hcz31_2
        try clear hfz13_0
        try clear hfz13_1
        try clear hfz13_2
        try clear hfz17_0
        try clear hfz17_1
        try clear hfz17_2
        try clear hfz23_0
        try clear hfz23_1
        try clear hfz23_2
        try clear hfz25_0
        try clear hfz25_1
        try clear hfz25_2
        try clear hfz29_0
        try clear hfz29_1
        try clear hfz29_2
        try clear hfz31_0
        try clear hfz31_1
        try clear hfz31_2
        try clear hx324_0
        try clear p2
        try clear p324
        try clear p6
        try clear q324
        obtain ⟨kq, x75_11, rfl, HA, HJ11, BK323, BK330, HB⟩ := hcut
        cases kq with
        | zero => exact absurd HA.out (by simp [sakialaw08_WordOrder.j1])
        | succ kj11 =>
         have H := HA.out
         clear HA
         simp only [sakialaw08_WordOrder.j1] at H
         by_cases c32 : x75_11 = true
         ·subst c32
          have H1 : (some false) = some r := by rw [if_pos rfl] at H; exact H
          clear H
          have H := H1
          clear H1
          exact absurd ((Option.some.inj H).trans HR_.out) (by decide)
         ·replace c32 := Bool.eq_false_iff.mpr c32
          subst c32
          have H1 : (if t329 = 1 then (if t325 = x9_1 then (if t326 = (wrap64 (x8_1 + 1)) then ((pos_Len.f kj11 t325 t326 t327).bind fun t331 => (if t331 > (wrap64 (1 + (wrap64 (Int.tmod a0 9)))) then (some false) else (sakialaw08_WordOrder.l0 kj11 l1 t322 (wrap64 (1 + (wrap64 (Int.tmod a0 9)))) (wrap64 (x8_1 + 1)) x9_1 (wrap64 (x10_1 + 1)) t325 t326 t327))) else (some false)) else (some false)) else (if t325 = x9_1 then (if t326 = x8_1 then ((pos_Len.f kj11 t325 t326 t327).bind fun t332 => (if t332 > (wrap64 (1 + (wrap64 (Int.tmod a0 9)))) then (some false) else (sakialaw08_WordOrder.l0 kj11 l1 t322 (wrap64 (1 + (wrap64 (Int.tmod a0 9)))) x8_1 x9_1 (wrap64 (x10_1 + 1)) t325 t326 t327))) else (some false)) else (some false))) = some r := by rw [if_neg (show ¬ (false = true) by decide)] at H; exact H
          clear H
          have H := H1
          clear H1
          by_cases c33 : t329 = 1
          ·rw [if_pos c33] at H
           have c33b0 : (t329 == 1) = true := beq_iff_eq.mpr c33
           have c33b1 : (t329 != 1) = false := bne_eq_false_iff_eq.mpr c33
           clear c33
           by_cases c34 : t325 = x9_1
           ·rw [if_pos c34] at H
            have c34b0 : (t325 == x9_1) = true := beq_iff_eq.mpr c34
            have c34b1 : (t325 != x9_1) = false := bne_eq_false_iff_eq.mpr c34
            clear c34
            by_cases c35 : t326 = (wrap64 (x8_1 + 1))
            ·rw [if_pos c35] at H
             have c35b0 : (t326 == (wrap64 (x8_1 + 1))) = true := beq_iff_eq.mpr c35
             have c35b1 : (t326 != (wrap64 (x8_1 + 1))) = false := bne_eq_false_iff_eq.mpr c35
             clear c35
             replace H := Option.bind_eq_some_iff.mp H
             obtain ⟨t331, A360, H⟩ := H
             replace H : (if t331 > (wrap64 (1 + (wrap64 (Int.tmod a0 9)))) then (some false) else (sakialaw08_WordOrder.l0 kj11 l1 t322 (wrap64 (1 + (wrap64 (Int.tmod a0 9)))) (wrap64 (x8_1 + 1)) x9_1 (wrap64 (x10_1 + 1)) t325 t326 t327)) = some r := H
             have A36 := Aside0.mk A360
             clear A360
             by_cases c37 : t331 > (wrap64 (1 + (wrap64 (Int.tmod a0 9))))
             ·rw [if_pos c37] at H
              have c37b0 : decide ((wrap64 (1 + (wrap64 (Int.tmod a0 9)))) < t331) = true := decide_eq_true c37
              clear c37
              exact absurd ((Option.some.inj H).trans HR_.out) (by decide)
             ·rw [if_neg c37] at H
              have c37b0 : decide ((wrap64 (1 + (wrap64 (Int.tmod a0 9)))) < t331) = false := decide_eq_false c37
              clear c37
              have H' := Aside0.mk H
              clear H
              have hnb38 := NB330_323.out
              have hnc38 := NB323_330.out
              obtain ⟨hcz39_0, hcz39_1, hcz39_2, hfz39_0, hfz39_1, hfz39_2⟩ := cells3 (w := wc) (g := gb330) BK330.out
              obtain ⟨hcz40_0, hcz40_1, hcz40_2, hfz40_0, hfz40_1, hfz40_2⟩ := cells3 (w := wc) (g := gb323) BK323.out
              go_wp2_with (first | (go_at_call 26; (with_reducible refine (pos_Len.calls kj11 t325 t326 t327 t331 _ A36.out).mono ?_); rintro e w41 ⟨rfl, hb⟩; have n0_ := Aside0.mk (blk_below (g := gb323) (o := .cells #[.int .i64 t325, .int .i64 t326, .int .i64 t327] 23 (0, 0)) (by (with_reducible repeat (first | apply kN | apply kD | apply kA)); refine blk_put (cs := #[.int .i64 t325, .int .i64 t326, .int .i64 x324002_1]) ?_ 2 _ rfl; (with_reducible repeat (first | apply kN | apply kD | apply kA)); refine blk_put (cs := #[.int .i64 t325, .int .i64 x324001_1, .int .i64 x324002_1]) ?_ 1 _ rfl; (with_reducible repeat (first | apply kN | apply kD | apply kA)); refine blk_put (cs := #[.int .i64 x324000_1, .int .i64 x324001_1, .int .i64 x324002_1]) ?_ 0 _ rfl; (with_reducible repeat (first | apply kN | apply kD | apply kA)); exact BK323.out) hb); have n1_ := Aside0.mk (blk_below (g := gb330) (o := .cells #[.int .i64 t325, .int .i64 t326, .int .i64 t327] 23 (0, 0)) (by (with_reducible repeat (first | apply kN | apply kD | apply kA)); refine blk_far ?_ NB330_323.out _; (with_reducible repeat (first | apply kN | apply kD | apply kA)); refine blk_far ?_ NB330_323.out _; (with_reducible repeat (first | apply kN | apply kD | apply kA)); refine blk_far ?_ NB330_323.out _; (with_reducible repeat (first | apply kN | apply kD | apply kA)); exact BK330.out) hb); have n2_ := Aside0.mk (below_step (by repeat (first | (with_reducible first | exact HB.out | apply bA | apply bN | apply bD | refine below_set ?_ GE323.out | refine below_set ?_ GE330.out) | exact HB.out)) hb); clear BK323; clear BK330; clear HB; have BK323 := n0_; have BK330 := n1_; have HB := n2_; clear n0_ n1_ n2_; (try clear hb); (try clear hb2); (try clear hk); (try clear hi)))
              go_roundg kj11
              case measure => have := HK1.out; have := HJ11.out; omega
              case rel => exact ⟨(wrap64 (x8_1 + 1)), (x9_1), (wrap64 (x10_1 + 1)), (t325), (t326), (t327), (by first | rfl | (simp; done) | (simp [*]; done)), (by first | rfl | (simp; done) | (simp [*]; done)), (by first | rfl | (simp; done) | (simp [*]; done)), H', ⟨by have := HK1.out; have := HJ11.out; omega⟩, ⟨by (with_reducible repeat (first | apply kN | apply kD | apply kA)); exact BK323.out⟩, ⟨by repeat (first | (with_reducible first | exact HB.out | apply bA | apply bN | apply bD | refine below_set ?_ GE323.out | refine below_set ?_ GE330.out) | exact HB.out)⟩⟩
            ·rw [if_neg c35] at H
             have c35b0 : (t326 == (wrap64 (x8_1 + 1))) = false := beq_eq_false_iff_ne.mpr c35
             have c35b1 : (t326 != (wrap64 (x8_1 + 1))) = true := bne_iff_ne.mpr c35
             exact absurd ((Option.some.inj H).trans HR_.out) (by decide)
           ·rw [if_neg c34] at H
            have c34b0 : (t325 == x9_1) = false := beq_eq_false_iff_ne.mpr c34
            have c34b1 : (t325 != x9_1) = true := bne_iff_ne.mpr c34
            exact absurd ((Option.some.inj H).trans HR_.out) (by decide)
          ·rw [if_neg c33] at H
           have c33b0 : (t329 == 1) = false := beq_eq_false_iff_ne.mpr c33
           have c33b1 : (t329 != 1) = true := bne_iff_ne.mpr c33
           by_cases c42 : t325 = x9_1
           ·rw [if_pos c42] at H
            have c42b0 : (t325 == x9_1) = true := beq_iff_eq.mpr c42
            have c42b1 : (t325 != x9_1) = false := bne_eq_false_iff_eq.mpr c42
            clear c42
            by_cases c43 : t326 = x8_1
            ·rw [if_pos c43] at H
             have c43b0 : (t326 == x8_1) = true := beq_iff_eq.mpr c43
             have c43b1 : (t326 != x8_1) = false := bne_eq_false_iff_eq.mpr c43
             clear c43
             replace H := Option.bind_eq_some_iff.mp H
             obtain ⟨t332, A440, H⟩ := H
             replace H : (if t332 > (wrap64 (1 + (wrap64 (Int.tmod a0 9)))) then (some false) else (sakialaw08_WordOrder.l0 kj11 l1 t322 (wrap64 (1 + (wrap64 (Int.tmod a0 9)))) x8_1 x9_1 (wrap64 (x10_1 + 1)) t325 t326 t327)) = some r := H
             have A44 := Aside0.mk A440
             clear A440
             by_cases c45 : t332 > (wrap64 (1 + (wrap64 (Int.tmod a0 9))))
             ·rw [if_pos c45] at H
              have c45b0 : decide ((wrap64 (1 + (wrap64 (Int.tmod a0 9)))) < t332) = true := decide_eq_true c45
              clear c45
              exact absurd ((Option.some.inj H).trans HR_.out) (by decide)
             ·rw [if_neg c45] at H
              have c45b0 : decide ((wrap64 (1 + (wrap64 (Int.tmod a0 9)))) < t332) = false := decide_eq_false c45
              clear c45
              have H' := Aside0.mk H
              clear H
              have hnb46 := NB330_323.out
              have hnc46 := NB323_330.out
              obtain ⟨hcz47_0, hcz47_1, hcz47_2, hfz47_0, hfz47_1, hfz47_2⟩ := cells3 (w := wc) (g := gb330) BK330.out
              obtain ⟨hcz48_0, hcz48_1, hcz48_2, hfz48_0, hfz48_1, hfz48_2⟩ := cells3 (w := wc) (g := gb323) BK323.out
              go_wp2_with (first | (go_at_call 26; (with_reducible refine (pos_Len.calls kj11 t325 t326 t327 t332 _ A44.out).mono ?_); rintro e w49 ⟨rfl, hb⟩; have n0_ := Aside0.mk (blk_below (g := gb323) (o := .cells #[.int .i64 t325, .int .i64 t326, .int .i64 t327] 23 (0, 0)) (by (with_reducible repeat (first | apply kN | apply kD | apply kA)); refine blk_put (cs := #[.int .i64 t325, .int .i64 t326, .int .i64 x324002_1]) ?_ 2 _ rfl; (with_reducible repeat (first | apply kN | apply kD | apply kA)); refine blk_put (cs := #[.int .i64 t325, .int .i64 x324001_1, .int .i64 x324002_1]) ?_ 1 _ rfl; (with_reducible repeat (first | apply kN | apply kD | apply kA)); refine blk_put (cs := #[.int .i64 x324000_1, .int .i64 x324001_1, .int .i64 x324002_1]) ?_ 0 _ rfl; (with_reducible repeat (first | apply kN | apply kD | apply kA)); exact BK323.out) hb); have n1_ := Aside0.mk (blk_below (g := gb330) (o := .cells #[.int .i64 t325, .int .i64 t326, .int .i64 t327] 23 (0, 0)) (by (with_reducible repeat (first | apply kN | apply kD | apply kA)); refine blk_far ?_ NB330_323.out _; (with_reducible repeat (first | apply kN | apply kD | apply kA)); refine blk_far ?_ NB330_323.out _; (with_reducible repeat (first | apply kN | apply kD | apply kA)); refine blk_far ?_ NB330_323.out _; (with_reducible repeat (first | apply kN | apply kD | apply kA)); exact BK330.out) hb); have n2_ := Aside0.mk (below_step (by repeat (first | (with_reducible first | exact HB.out | apply bA | apply bN | apply bD | refine below_set ?_ GE323.out | refine below_set ?_ GE330.out) | exact HB.out)) hb); clear BK323; clear BK330; clear HB; have BK323 := n0_; have BK330 := n1_; have HB := n2_; clear n0_ n1_ n2_; (try clear hb); (try clear hb2); (try clear hk); (try clear hi)))
              go_roundg kj11
              case measure => have := HK1.out; have := HJ11.out; omega
              case rel => exact ⟨(x8_1), (x9_1), (wrap64 (x10_1 + 1)), (t325), (t326), (t327), (by first | rfl | (simp; done) | (simp [*]; done)), (by first | rfl | (simp; done) | (simp [*]; done)), (by first | rfl | (simp; done) | (simp [*]; done)), H', ⟨by have := HK1.out; have := HJ11.out; omega⟩, ⟨by (with_reducible repeat (first | apply kN | apply kD | apply kA)); exact BK323.out⟩, ⟨by repeat (first | (with_reducible first | exact HB.out | apply bA | apply bN | apply bD | refine below_set ?_ GE323.out | refine below_set ?_ GE330.out) | exact HB.out)⟩⟩
            ·rw [if_neg c43] at H
             have c43b0 : (t326 == x8_1) = false := beq_eq_false_iff_ne.mpr c43
             have c43b1 : (t326 != x8_1) = true := bne_iff_ne.mpr c43
             exact absurd ((Option.some.inj H).trans HR_.out) (by decide)
           ·rw [if_neg c42] at H
            have c42b0 : (t325 == x9_1) = false := beq_eq_false_iff_ne.mpr c42
            have c42b1 : (t325 != x9_1) = true := bne_iff_ne.mpr c42
            exact absurd ((Option.some.inj H).trans HR_.out) (by decide)
      ·rw [if_neg c10] at H
       have c10b0 : (((rd_T36 l1 x10_1).f0) == 0) = false := beq_eq_false_iff_ne.mpr c10
       have c10b1 : (((rd_T36 l1 x10_1).f0) != 0) = true := bne_iff_ne.mpr c10
       by_cases c50 : ((rd_T36 l1 x10_1).f0) = 1
       ·rw [if_pos c50] at H
        have c50b0 : (((rd_T36 l1 x10_1).f0) == 1) = true := beq_iff_eq.mpr c50
        have c50b1 : (((rd_T36 l1 x10_1).f0) != 1) = false := bne_eq_false_iff_eq.mpr c50
        clear c50
        replace H := Option.bind_eq_some_iff.mp H
        obtain ⟨⟨t333, t334, t335, t336, t337⟩, A510, H⟩ := H
        replace H : (if t337 = 1 then (if t336 = x9_1 then (if t337 = 4 then (if x8_1 = x9_1 then (if t337 = 6 then (sakialaw08_WordOrder.j2 k1 l1 t322 (wrap64 (1 + (wrap64 (Int.tmod a0 9)))) x8_1 x9_1 x10_1 t337 (x8_1 != x9_1) t333 t334 t335) else (sakialaw08_WordOrder.j2 k1 l1 t322 (wrap64 (1 + (wrap64 (Int.tmod a0 9)))) x8_1 x9_1 x10_1 t337 false t333 t334 t335)) else (sakialaw08_WordOrder.j2 k1 l1 t322 (wrap64 (1 + (wrap64 (Int.tmod a0 9)))) x8_1 x9_1 x10_1 t337 true t333 t334 t335)) else (if t337 = 6 then (sakialaw08_WordOrder.j2 k1 l1 t322 (wrap64 (1 + (wrap64 (Int.tmod a0 9)))) x8_1 x9_1 x10_1 t337 (x8_1 != x9_1) t333 t334 t335) else (sakialaw08_WordOrder.j2 k1 l1 t322 (wrap64 (1 + (wrap64 (Int.tmod a0 9)))) x8_1 x9_1 x10_1 t337 false t333 t334 t335))) else (sakialaw08_WordOrder.j2 k1 l1 t322 (wrap64 (1 + (wrap64 (Int.tmod a0 9)))) x8_1 x9_1 x10_1 t337 true t333 t334 t335)) else (if t337 = 4 then (if x8_1 = x9_1 then (if t337 = 6 then (sakialaw08_WordOrder.j2 k1 l1 t322 (wrap64 (1 + (wrap64 (Int.tmod a0 9)))) x8_1 x9_1 x10_1 t337 (x8_1 != x9_1) t333 t334 t335) else (sakialaw08_WordOrder.j2 k1 l1 t322 (wrap64 (1 + (wrap64 (Int.tmod a0 9)))) x8_1 x9_1 x10_1 t337 false t333 t334 t335)) else (sakialaw08_WordOrder.j2 k1 l1 t322 (wrap64 (1 + (wrap64 (Int.tmod a0 9)))) x8_1 x9_1 x10_1 t337 true t333 t334 t335)) else (if t337 = 6 then (sakialaw08_WordOrder.j2 k1 l1 t322 (wrap64 (1 + (wrap64 (Int.tmod a0 9)))) x8_1 x9_1 x10_1 t337 (x8_1 != x9_1) t333 t334 t335) else (sakialaw08_WordOrder.j2 k1 l1 t322 (wrap64 (1 + (wrap64 (Int.tmod a0 9)))) x8_1 x9_1 x10_1 t337 false t333 t334 t335)))) = some r := H
        have A51 := Aside0.mk A510
        clear A510
        have HC52 := Aside0.mk H
        clear H
        have p324 : 0 ≤ (x10_1 : Int) := of_decide_eq_true (by first | (with_reducible assumption) | assumption)
        have q324 : x10_1 < (l1.length : Int) := of_decide_eq_true (by first | (with_reducible assumption) | assumption)
        obtain ⟨ad324, e324, hx324_0⟩ := at_T36 HR1.out x10_1 p324 q324
        cases e324
        replace hx324_0 := (HB.out.cell (World.block_lt_of_cell? w _ hx324_0)).trans hx324_0
        replace p324 := eq_true p324
        replace q324 := eq_true q324
        obtain ⟨hcz53_0, hcz53_1, hcz53_2, hfz53_0, hfz53_1, hfz53_2⟩ := cells3 (w := wr) (g := gb323) BK323.out
        go_upto_region 22 with (first | ((with_reducible refine gate_callee (f := 18) rfl ?_); refine goesL_ (some 86) rfl rfl Try.func18 (by kernel_rfl) rfl #[.agg #[.int .i64 x324000_1, .int .i64 x324001_1, .int .i64 x324002_1], .int .i64 (wrap64 (1 + (wrap64 (Int.tmod a0 9))))] rfl (by (try simp only [List.map_toArray, List.map_cons, List.map_nil]); first | done | rfl | (simp only [List.length_drop, List.length_take]; rfl)) ?_; (with_reducible refine (word_Take.calls k1 x324000_1 x324001_1 x324002_1 (wrap64 (1 + (wrap64 (Int.tmod a0 9)))) t333 t334 t335 t336 t337 _ A51.out).mono ?_); rintro e w54 ⟨rfl, hb⟩; refine ⟨_, rfl, ?_⟩; have n0_ := Aside0.mk (blk_below (g := gb323) (o := .cells #[.int .i64 x324000_1, .int .i64 x324001_1, .int .i64 x324002_1] 23 (0, 0)) (by (with_reducible repeat (first | apply kN | apply kD | apply kA)); exact BK323.out) hb); have n1_ := Aside0.mk (below_step (by repeat (first | (with_reducible first | exact HB.out | apply bA | apply bN | apply bD | refine below_set ?_ GE323.out) | exact HB.out)) hb); clear BK323; clear HB; have BK323 := n0_; have HB := n1_; clear n0_ n1_; (try clear hb); (try clear hb2); (try clear hk); (try clear hi)) | ((with_reducible refine gate_dst (N := 14) rfl ?_); refine box_event ?hg (N := 14) ?hd (cs := #[.int .i64 0, .int .i64 0, .int .i64 0]) (t := 23) ?hr ?_; (case hd => rfl); (case hg => rfl); (case hr => first | (go_simp; done) | (go_simp; rfl)); intro gb338 hg w55 hbox hb; have n0_ := Aside0.mk (blk_below (g := gb323) (o := .cells #[.int .i64 x324000_1, .int .i64 x324001_1, .int .i64 x324002_1] 23 (0, 0)) (by (with_reducible repeat (first | apply kN | apply kD | apply kA)); exact BK323.out) hb); have n1_ := Aside0.mk (below_step (by repeat (first | (with_reducible first | exact HB.out | apply bA | apply bN | apply bD | refine below_set ?_ GE323.out) | exact HB.out)) hb); have n2_ := Aside0.mk (hbox); have n3_ := Aside0.mk ((by rw [hg]; exact (below_size (by repeat (first | (with_reducible first | exact HB.out | apply bA | apply bN | apply bD | refine below_set ?_ GE323.out) | exact HB.out))) : w.heap.size ≤ gb338)); have n4_ := Aside0.mk ((by rw [hg]; exact (below_size (by repeat (first | (with_reducible first | exact HB.out | apply bA | apply bN | apply bD | refine below_set ?_ GE323.out) | exact HB.out))) : w.heap.size ≤ gb338)); have n5_ := Aside0.mk ((by rw [hg]; exact Nat.ne_of_lt (blk_lt (g := gb323) (o := .cells #[.int .i64 x324000_1, .int .i64 x324001_1, .int .i64 x324002_1] 23 (0, 0)) (by (with_reducible repeat (first | apply kN | apply kD | apply kA)); exact BK323.out)) : gb323 ≠ gb338)); have n6_ := Aside0.mk ((by rw [hg]; exact Nat.ne_of_gt (blk_lt (g := gb323) (o := .cells #[.int .i64 x324000_1, .int .i64 x324001_1, .int .i64 x324002_1] 23 (0, 0)) (by (with_reducible repeat (first | apply kN | apply kD | apply kA)); exact BK323.out)) : gb338 ≠ gb323)); clear BK323; clear HB; have BK323 := n0_; have HB := n1_; have BK338 := n2_; have GW338 := n3_; have GE338 := n4_; have NB323_338 := n5_; have NB338_323 := n6_; clear n0_ n1_ n2_ n3_ n4_ n5_ n6_; clear hb hbox hg; have hnb56 := NB338_323.out; have hnc56 := NB323_338.out; obtain ⟨hcz57_0, hcz57_1, hcz57_2, hfz57_0, hfz57_1, hfz57_2⟩ := cells3 (w := w55) (g := gb338) BK338.out))
        (try simp only [Act.put, List.setIfInBounds_toArray, List.set_cons_zero, List.set_cons_succ])
        go_cut [114] (fun v114 wc => ∃ (kq : Nat) (x114_51 : Bool), v114 = .bool x114_51 ∧ Aside0 (sakialaw08_WordOrder.j2 kq l1 t322 (wrap64 (1 + (wrap64 (Int.tmod a0 9)))) x8_1 x9_1 x10_1 t337 x114_51 t333 t334 t335 = some r) ∧ Aside0 (kq ≤ k1) ∧ Aside0 (wc.heap[gb323]? = some (.cells #[.int .i64 x324000_1, .int .i64 x324001_1, .int .i64 x324002_1] 23 (0, 0))) ∧ Aside0 (wc.heap[gb338]? = some (.cells #[.int .i64 t333, .int .i64 t334, .int .i64 t335] 23 (0, 0))) ∧ Aside0 (Below w.heap.size w wc))
        case first =>
         have H := HC52.out
         clear HC52
         by_cases c58 : t337 = 1
         ·rw [if_pos c58] at H
          have c58b0 : (t337 == 1) = true := beq_iff_eq.mpr c58
          have c58b1 : (t337 != 1) = false := bne_eq_false_iff_eq.mpr c58
          clear c58
          (first | rw [c58b0] | (simp only [i64_w, i32_w]; rw [c58b0]) | skip)
          by_cases c59 : t336 = x9_1
          ·rw [if_pos c59] at H
           have c59b0 : (t336 == x9_1) = true := beq_iff_eq.mpr c59
           have c59b1 : (t336 != x9_1) = false := bne_eq_false_iff_eq.mpr c59
           clear c59
           by_cases c60 : t337 = 4
           ·rw [if_pos c60] at H
            have c60b0 : (t337 == 4) = true := beq_iff_eq.mpr c60
            have c60b1 : (t337 != 4) = false := bne_eq_false_iff_eq.mpr c60
            clear c60
            by_cases c61 : x8_1 = x9_1
            ·rw [if_pos c61] at H
             have c61b0 : (x8_1 == x9_1) = true := beq_iff_eq.mpr c61
             have c61b1 : (x8_1 != x9_1) = false := bne_eq_false_iff_eq.mpr c61
             clear c61
             by_cases c62 : t337 = 6
             ·rw [if_pos c62] at H
              have c62b0 : (t337 == 6) = true := beq_iff_eq.mpr c62
              have c62b1 : (t337 != 6) = false := bne_eq_false_iff_eq.mpr c62
              clear c62
              have H' := Aside0.mk H
              clear H
              go_wp2
              go_meet
              case rel => exact ⟨_, ((x8_1 != x9_1)), (by first | rfl | (simp; done) | (simp [*]; done)), H', ⟨by have := HK1.out; first | omega | exact Nat.le_refl _⟩, ⟨by (with_reducible repeat (first | apply kN | apply kD | apply kA)); refine blk_far ?_ NB323_338.out _; (with_reducible repeat (first | apply kN | apply kD | apply kA)); refine blk_far ?_ NB323_338.out _; (with_reducible repeat (first | apply kN | apply kD | apply kA)); refine blk_far ?_ NB323_338.out _; (with_reducible repeat (first | apply kN | apply kD | apply kA)); exact BK323.out⟩, ⟨by (with_reducible repeat (first | apply kN | apply kD | apply kA)); refine blk_put (cs := #[.int .i64 t333, .int .i64 t334, .int .i64 0]) ?_ 2 _ rfl; (with_reducible repeat (first | apply kN | apply kD | apply kA)); refine blk_put (cs := #[.int .i64 t333, .int .i64 0, .int .i64 0]) ?_ 1 _ rfl; (with_reducible repeat (first | apply kN | apply kD | apply kA)); refine blk_put (cs := #[.int .i64 0, .int .i64 0, .int .i64 0]) ?_ 0 _ rfl; (with_reducible repeat (first | apply kN | apply kD | apply kA)); exact BK338.out⟩, ⟨by repeat (first | (with_reducible first | exact HB.out | apply bA | apply bN | apply bD | refine below_set ?_ GE323.out | refine below_set ?_ GE338.out) | exact HB.out)⟩⟩
             ·rw [if_neg c62] at H
              have c62b0 : (t337 == 6) = false := beq_eq_false_iff_ne.mpr c62
              have c62b1 : (t337 != 6) = true := bne_iff_ne.mpr c62
              have H' := Aside0.mk H
              clear H
              go_wp2
              go_meet
              case rel => exact ⟨_, (false), (by first | rfl | (simp; done) | (simp [*]; done)), H', ⟨by have := HK1.out; first | omega | exact Nat.le_refl _⟩, ⟨by (with_reducible repeat (first | apply kN | apply kD | apply kA)); refine blk_far ?_ NB323_338.out _; (with_reducible repeat (first | apply kN | apply kD | apply kA)); refine blk_far ?_ NB323_338.out _; (with_reducible repeat (first | apply kN | apply kD | apply kA)); refine blk_far ?_ NB323_338.out _; (with_reducible repeat (first | apply kN | apply kD | apply kA)); exact BK323.out⟩, ⟨by (with_reducible repeat (first | apply kN | apply kD | apply kA)); refine blk_put (cs := #[.int .i64 t333, .int .i64 t334, .int .i64 0]) ?_ 2 _ rfl; (with_reducible repeat (first | apply kN | apply kD | apply kA)); refine blk_put (cs := #[.int .i64 t333, .int .i64 0, .int .i64 0]) ?_ 1 _ rfl; (with_reducible repeat (first | apply kN | apply kD | apply kA)); refine blk_put (cs := #[.int .i64 0, .int .i64 0, .int .i64 0]) ?_ 0 _ rfl; (with_reducible repeat (first | apply kN | apply kD | apply kA)); exact BK338.out⟩, ⟨by repeat (first | (with_reducible first | exact HB.out | apply bA | apply bN | apply bD | refine below_set ?_ GE323.out | refine below_set ?_ GE338.out) | exact HB.out)⟩⟩
            ·rw [if_neg c61] at H
             have c61b0 : (x8_1 == x9_1) = false := beq_eq_false_iff_ne.mpr c61
             have c61b1 : (x8_1 != x9_1) = true := bne_iff_ne.mpr c61
             have H' := Aside0.mk H
             clear H
             go_wp2
             go_meet
             case rel => exact ⟨_, (true), (by first | rfl | (simp; done) | (simp [*]; done)), H', ⟨by have := HK1.out; first | omega | exact Nat.le_refl _⟩, ⟨by (with_reducible repeat (first | apply kN | apply kD | apply kA)); refine blk_far ?_ NB323_338.out _; (with_reducible repeat (first | apply kN | apply kD | apply kA)); refine blk_far ?_ NB323_338.out _; (with_reducible repeat (first | apply kN | apply kD | apply kA)); refine blk_far ?_ NB323_338.out _; (with_reducible repeat (first | apply kN | apply kD | apply kA)); exact BK323.out⟩, ⟨by (with_reducible repeat (first | apply kN | apply kD | apply kA)); refine blk_put (cs := #[.int .i64 t333, .int .i64 t334, .int .i64 0]) ?_ 2 _ rfl; (with_reducible repeat (first | apply kN | apply kD | apply kA)); refine blk_put (cs := #[.int .i64 t333, .int .i64 0, .int .i64 0]) ?_ 1 _ rfl; (with_reducible repeat (first | apply kN | apply kD | apply kA)); refine blk_put (cs := #[.int .i64 0, .int .i64 0, .int .i64 0]) ?_ 0 _ rfl; (with_reducible repeat (first | apply kN | apply kD | apply kA)); exact BK338.out⟩, ⟨by repeat (first | (with_reducible first | exact HB.out | apply bA | apply bN | apply bD | refine below_set ?_ GE323.out | refine below_set ?_ GE338.out) | exact HB.out)⟩⟩
           ·rw [if_neg c60] at H
            have c60b0 : (t337 == 4) = false := beq_eq_false_iff_ne.mpr c60
            have c60b1 : (t337 != 4) = true := bne_iff_ne.mpr c60
            by_cases c63 : t337 = 6
            ·rw [if_pos c63] at H
             have c63b0 : (t337 == 6) = true := beq_iff_eq.mpr c63
             have c63b1 : (t337 != 6) = false := bne_eq_false_iff_eq.mpr c63
             clear c63
             have H' := Aside0.mk H
             clear H
             go_wp2
             go_meet
             case rel => exact ⟨_, ((x8_1 != x9_1)), (by first | rfl | (simp; done) | (simp [*]; done)), H', ⟨by have := HK1.out; first | omega | exact Nat.le_refl _⟩, ⟨by (with_reducible repeat (first | apply kN | apply kD | apply kA)); refine blk_far ?_ NB323_338.out _; (with_reducible repeat (first | apply kN | apply kD | apply kA)); refine blk_far ?_ NB323_338.out _; (with_reducible repeat (first | apply kN | apply kD | apply kA)); refine blk_far ?_ NB323_338.out _; (with_reducible repeat (first | apply kN | apply kD | apply kA)); exact BK323.out⟩, ⟨by (with_reducible repeat (first | apply kN | apply kD | apply kA)); refine blk_put (cs := #[.int .i64 t333, .int .i64 t334, .int .i64 0]) ?_ 2 _ rfl; (with_reducible repeat (first | apply kN | apply kD | apply kA)); refine blk_put (cs := #[.int .i64 t333, .int .i64 0, .int .i64 0]) ?_ 1 _ rfl; (with_reducible repeat (first | apply kN | apply kD | apply kA)); refine blk_put (cs := #[.int .i64 0, .int .i64 0, .int .i64 0]) ?_ 0 _ rfl; (with_reducible repeat (first | apply kN | apply kD | apply kA)); exact BK338.out⟩, ⟨by repeat (first | (with_reducible first | exact HB.out | apply bA | apply bN | apply bD | refine below_set ?_ GE323.out | refine below_set ?_ GE338.out) | exact HB.out)⟩⟩
            ·rw [if_neg c63] at H
             have c63b0 : (t337 == 6) = false := beq_eq_false_iff_ne.mpr c63
             have c63b1 : (t337 != 6) = true := bne_iff_ne.mpr c63
             have H' := Aside0.mk H
             clear H
             go_wp2
             go_meet
             case rel => exact ⟨_, (false), (by first | rfl | (simp; done) | (simp [*]; done)), H', ⟨by have := HK1.out; first | omega | exact Nat.le_refl _⟩, ⟨by (with_reducible repeat (first | apply kN | apply kD | apply kA)); refine blk_far ?_ NB323_338.out _; (with_reducible repeat (first | apply kN | apply kD | apply kA)); refine blk_far ?_ NB323_338.out _; (with_reducible repeat (first | apply kN | apply kD | apply kA)); refine blk_far ?_ NB323_338.out _; (with_reducible repeat (first | apply kN | apply kD | apply kA)); exact BK323.out⟩, ⟨by (with_reducible repeat (first | apply kN | apply kD | apply kA)); refine blk_put (cs := #[.int .i64 t333, .int .i64 t334, .int .i64 0]) ?_ 2 _ rfl; (with_reducible repeat (first | apply kN | apply kD | apply kA)); refine blk_put (cs := #[.int .i64 t333, .int .i64 0, .int .i64 0]) ?_ 1 _ rfl; (with_reducible repeat (first | apply kN | apply kD | apply kA)); refine blk_put (cs := #[.int .i64 0, .int .i64 0, .int .i64 0]) ?_ 0 _ rfl; (with_reducible repeat (first | apply kN | apply kD | apply kA)); exact BK338.out⟩, ⟨by repeat (first | (with_reducible first | exact HB.out | apply bA | apply bN | apply bD | refine below_set ?_ GE323.out | refine below_set ?_ GE338.out) | exact HB.out)⟩⟩
          ·rw [if_neg c59] at H
           have c59b0 : (t336 == x9_1) = false := beq_eq_false_iff_ne.mpr c59
           have c59b1 : (t336 != x9_1) = true := bne_iff_ne.mpr c59
           have H' := Aside0.mk H
           clear H
           go_wp2
           go_meet
           case rel => exact ⟨_, (true), (by first | rfl | (simp; done) | (simp [*]; done)), H', ⟨by have := HK1.out; first | omega | exact Nat.le_refl _⟩, ⟨by (with_reducible repeat (first | apply kN | apply kD | apply kA)); refine blk_far ?_ NB323_338.out _; (with_reducible repeat (first | apply kN | apply kD | apply kA)); refine blk_far ?_ NB323_338.out _; (with_reducible repeat (first | apply kN | apply kD | apply kA)); refine blk_far ?_ NB323_338.out _; (with_reducible repeat (first | apply kN | apply kD | apply kA)); exact BK323.out⟩, ⟨by (with_reducible repeat (first | apply kN | apply kD | apply kA)); refine blk_put (cs := #[.int .i64 t333, .int .i64 t334, .int .i64 0]) ?_ 2 _ rfl; (with_reducible repeat (first | apply kN | apply kD | apply kA)); refine blk_put (cs := #[.int .i64 t333, .int .i64 0, .int .i64 0]) ?_ 1 _ rfl; (with_reducible repeat (first | apply kN | apply kD | apply kA)); refine blk_put (cs := #[.int .i64 0, .int .i64 0, .int .i64 0]) ?_ 0 _ rfl; (with_reducible repeat (first | apply kN | apply kD | apply kA)); exact BK338.out⟩, ⟨by repeat (first | (with_reducible first | exact HB.out | apply bA | apply bN | apply bD | refine below_set ?_ GE323.out | refine below_set ?_ GE338.out) | exact HB.out)⟩⟩
         ·rw [if_neg c58] at H
          have c58b0 : (t337 == 1) = false := beq_eq_false_iff_ne.mpr c58
          have c58b1 : (t337 != 1) = true := bne_iff_ne.mpr c58
          (first | rw [c58b0] | (simp only [i64_w, i32_w]; rw [c58b0]) | skip)
          by_cases c64 : t337 = 4
          ·rw [if_pos c64] at H
           have c64b0 : (t337 == 4) = true := beq_iff_eq.mpr c64
           have c64b1 : (t337 != 4) = false := bne_eq_false_iff_eq.mpr c64
           clear c64
           by_cases c65 : x8_1 = x9_1
           ·rw [if_pos c65] at H
            have c65b0 : (x8_1 == x9_1) = true := beq_iff_eq.mpr c65
            have c65b1 : (x8_1 != x9_1) = false := bne_eq_false_iff_eq.mpr c65
            clear c65
            by_cases c66 : t337 = 6
            ·rw [if_pos c66] at H
             have c66b0 : (t337 == 6) = true := beq_iff_eq.mpr c66
             have c66b1 : (t337 != 6) = false := bne_eq_false_iff_eq.mpr c66
             clear c66
             have H' := Aside0.mk H
             clear H
             go_wp2
             go_meet
             case rel => exact ⟨_, ((x8_1 != x9_1)), (by first | rfl | (simp; done) | (simp [*]; done)), H', ⟨by have := HK1.out; first | omega | exact Nat.le_refl _⟩, ⟨by (with_reducible repeat (first | apply kN | apply kD | apply kA)); refine blk_far ?_ NB323_338.out _; (with_reducible repeat (first | apply kN | apply kD | apply kA)); refine blk_far ?_ NB323_338.out _; (with_reducible repeat (first | apply kN | apply kD | apply kA)); refine blk_far ?_ NB323_338.out _; (with_reducible repeat (first | apply kN | apply kD | apply kA)); exact BK323.out⟩, ⟨by (with_reducible repeat (first | apply kN | apply kD | apply kA)); refine blk_put (cs := #[.int .i64 t333, .int .i64 t334, .int .i64 0]) ?_ 2 _ rfl; (with_reducible repeat (first | apply kN | apply kD | apply kA)); refine blk_put (cs := #[.int .i64 t333, .int .i64 0, .int .i64 0]) ?_ 1 _ rfl; (with_reducible repeat (first | apply kN | apply kD | apply kA)); refine blk_put (cs := #[.int .i64 0, .int .i64 0, .int .i64 0]) ?_ 0 _ rfl; (with_reducible repeat (first | apply kN | apply kD | apply kA)); exact BK338.out⟩, ⟨by repeat (first | (with_reducible first | exact HB.out | apply bA | apply bN | apply bD | refine below_set ?_ GE323.out | refine below_set ?_ GE338.out) | exact HB.out)⟩⟩
            ·rw [if_neg c66] at H
             have c66b0 : (t337 == 6) = false := beq_eq_false_iff_ne.mpr c66
             have c66b1 : (t337 != 6) = true := bne_iff_ne.mpr c66
             have H' := Aside0.mk H
             clear H
             go_wp2
             go_meet
             case rel => exact ⟨_, (false), (by first | rfl | (simp; done) | (simp [*]; done)), H', ⟨by have := HK1.out; first | omega | exact Nat.le_refl _⟩, ⟨by (with_reducible repeat (first | apply kN | apply kD | apply kA)); refine blk_far ?_ NB323_338.out _; (with_reducible repeat (first | apply kN | apply kD | apply kA)); refine blk_far ?_ NB323_338.out _; (with_reducible repeat (first | apply kN | apply kD | apply kA)); refine blk_far ?_ NB323_338.out _; (with_reducible repeat (first | apply kN | apply kD | apply kA)); exact BK323.out⟩, ⟨by (with_reducible repeat (first | apply kN | apply kD | apply kA)); refine blk_put (cs := #[.int .i64 t333, .int .i64 t334, .int .i64 0]) ?_ 2 _ rfl; (with_reducible repeat (first | apply kN | apply kD | apply kA)); refine blk_put (cs := #[.int .i64 t333, .int .i64 0, .int .i64 0]) ?_ 1 _ rfl; (with_reducible repeat (first | apply kN | apply kD | apply kA)); refine blk_put (cs := #[.int .i64 0, .int .i64 0, .int .i64 0]) ?_ 0 _ rfl; (with_reducible repeat (first | apply kN | apply kD | apply kA)); exact BK338.out⟩, ⟨by repeat (first | (with_reducible first | exact HB.out | apply bA | apply bN | apply bD | refine below_set ?_ GE323.out | refine below_set ?_ GE338.out) | exact HB.out)⟩⟩
           ·rw [if_neg c65] at H
            have c65b0 : (x8_1 == x9_1) = false := beq_eq_false_iff_ne.mpr c65
            have c65b1 : (x8_1 != x9_1) = true := bne_iff_ne.mpr c65
            have H' := Aside0.mk H
            clear H
            go_wp2
            go_meet
            case rel => exact ⟨_, (true), (by first | rfl | (simp; done) | (simp [*]; done)), H', ⟨by have := HK1.out; first | omega | exact Nat.le_refl _⟩, ⟨by (with_reducible repeat (first | apply kN | apply kD | apply kA)); refine blk_far ?_ NB323_338.out _; (with_reducible repeat (first | apply kN | apply kD | apply kA)); refine blk_far ?_ NB323_338.out _; (with_reducible repeat (first | apply kN | apply kD | apply kA)); refine blk_far ?_ NB323_338.out _; (with_reducible repeat (first | apply kN | apply kD | apply kA)); exact BK323.out⟩, ⟨by (with_reducible repeat (first | apply kN | apply kD | apply kA)); refine blk_put (cs := #[.int .i64 t333, .int .i64 t334, .int .i64 0]) ?_ 2 _ rfl; (with_reducible repeat (first | apply kN | apply kD | apply kA)); refine blk_put (cs := #[.int .i64 t333, .int .i64 0, .int .i64 0]) ?_ 1 _ rfl; (with_reducible repeat (first | apply kN | apply kD | apply kA)); refine blk_put (cs := #[.int .i64 0, .int .i64 0, .int .i64 0]) ?_ 0 _ rfl; (with_reducible repeat (first | apply kN | apply kD | apply kA)); exact BK338.out⟩, ⟨by repeat (first | (with_reducible first | exact HB.out | apply bA | apply bN | apply bD | refine below_set ?_ GE323.out | refine below_set ?_ GE338.out) | exact HB.out)⟩⟩
          ·rw [if_neg c64] at H
           have c64b0 : (t337 == 4) = false := beq_eq_false_iff_ne.mpr c64
           have c64b1 : (t337 != 4) = true := bne_iff_ne.mpr c64
           by_cases c67 : t337 = 6
           ·rw [if_pos c67] at H
            have c67b0 : (t337 == 6) = true := beq_iff_eq.mpr c67
            have c67b1 : (t337 != 6) = false := bne_eq_false_iff_eq.mpr c67
            clear c67
            have H' := Aside0.mk H
            clear H
            go_wp2
            go_meet
            case rel => exact ⟨_, ((x8_1 != x9_1)), (by first | rfl | (simp; done) | (simp [*]; done)), H', ⟨by have := HK1.out; first | omega | exact Nat.le_refl _⟩, ⟨by (with_reducible repeat (first | apply kN | apply kD | apply kA)); refine blk_far ?_ NB323_338.out _; (with_reducible repeat (first | apply kN | apply kD | apply kA)); refine blk_far ?_ NB323_338.out _; (with_reducible repeat (first | apply kN | apply kD | apply kA)); refine blk_far ?_ NB323_338.out _; (with_reducible repeat (first | apply kN | apply kD | apply kA)); exact BK323.out⟩, ⟨by (with_reducible repeat (first | apply kN | apply kD | apply kA)); refine blk_put (cs := #[.int .i64 t333, .int .i64 t334, .int .i64 0]) ?_ 2 _ rfl; (with_reducible repeat (first | apply kN | apply kD | apply kA)); refine blk_put (cs := #[.int .i64 t333, .int .i64 0, .int .i64 0]) ?_ 1 _ rfl; (with_reducible repeat (first | apply kN | apply kD | apply kA)); refine blk_put (cs := #[.int .i64 0, .int .i64 0, .int .i64 0]) ?_ 0 _ rfl; (with_reducible repeat (first | apply kN | apply kD | apply kA)); exact BK338.out⟩, ⟨by repeat (first | (with_reducible first | exact HB.out | apply bA | apply bN | apply bD | refine below_set ?_ GE323.out | refine below_set ?_ GE338.out) | exact HB.out)⟩⟩
           ·rw [if_neg c67] at H
            have c67b0 : (t337 == 6) = false := beq_eq_false_iff_ne.mpr c67
            have c67b1 : (t337 != 6) = true := bne_iff_ne.mpr c67
            have H' := Aside0.mk H
            clear H
            go_wp2
            go_meet
            case rel => exact ⟨_, (false), (by first | rfl | (simp; done) | (simp [*]; done)), H', ⟨by have := HK1.out; first | omega | exact Nat.le_refl _⟩, ⟨by (with_reducible repeat (first | apply kN | apply kD | apply kA)); refine blk_far ?_ NB323_338.out _; (with_reducible repeat (first | apply kN | apply kD | apply kA)); refine blk_far ?_ NB323_338.out _; (with_reducible repeat (first | apply kN | apply kD | apply kA)); refine blk_far ?_ NB323_338.out _; (with_reducible repeat (first | apply kN | apply kD | apply kA)); exact BK323.out⟩, ⟨by (with_reducible repeat (first | apply kN | apply kD | apply kA)); refine blk_put (cs := #[.int .i64 t333, .int .i64 t334, .int .i64 0]) ?_ 2 _ rfl; (with_reducible repeat (first | apply kN | apply kD | apply kA)); refine blk_put (cs := #[.int .i64 t333, .int .i64 0, .int .i64 0]) ?_ 1 _ rfl; (with_reducible repeat (first | apply kN | apply kD | apply kA)); refine blk_put (cs := #[.int .i64 0, .int .i64 0, .int .i64 0]) ?_ 0 _ rfl; (with_reducible repeat (first | apply kN | apply kD | apply kA)); exact BK338.out⟩, ⟨by repeat (first | (with_reducible first | exact HB.out | apply bA | apply bN | apply bD | refine below_set ?_ GE323.out | refine below_set ?_ GE338.out) | exact HB.out)⟩⟩
        case rest =>
         clear HC52
         try clear c1
         try clear c2
         try clear p2
         try clear c3
         try clear p3
         try clear q3
         try clear hx3
         try clear c4
         try clear c4b0
         try clear c4b1
         try clear c5
         try clear c6
         try clear p6
         try clear c8
         try clear c8b0
         try clear c9
         try clear c9b0
         try clear c10
         try clear c10b0
         try clear c10b1
         try clear c15
         try clear c16
         try clear c18
         try clear c18b0
         try clear c18b1
         try clear c19
         try clear c19b0
         try clear c19b1
         try clear c20
         try clear c20b0
         try clear c20b1
         try clear c21
         try clear c21b0
         try clear c22
         try clear c24
         try clear c26
         try clear c26b0
         try clear c26b1
         try clear c27
         try clear c27b0
         try clear c28
         try clear c30
         try clear c32
         try clear p32
         try clear q32
         try clear hx32
         try clear c33
         try clear c33b0
         try clear c33b1
         try clear c34
         try clear c34b0
         try clear c34b1
         try clear c35
         try clear c35b0
         try clear c35b1
         try clear c37
         try clear c37b0
         try clear c38
         try clear c42
         try clear c42b0
         try clear c42b1
         try clear c43
         try clear c43b0
         try clear c43b1
         try clear c45
         try clear c45b0
         try clear c46
         try clear c50
         try clear c50b0
         try clear c50b1
         try clear c56
         try clear c58
         try clear c58b0
         try clear c58b1
         try clear c59
         try clear c59b0
         try clear c59b1
         try clear c60
         try clear c60b0
         try clear c60b1
         try clear c61
         try clear c61b0
         try clear c61b1
         try clear c62
         try clear c62b0
         try clear c62b1
         try clear c63
         try clear c63b0
         try clear c63b1
         try clear c64
         try clear c64b0
         try clear c64b1
         try clear p64
         try clear c65
         try clear c65b0
         try clear c65b1
         try clear c66
         try clear c66b0
         try clear c66b1
         try clear c67
         try clear c67b0
         try clear c67b1
         try clear hcz13_0
         try clear hcz13_1
         try clear hcz13_2
         try clear hcz17_0
         try clear hcz17_1
         try clear hcz17_2
         try clear hcz23_0
         try clear hcz23_1
         try clear hcz23_2
         try clear hcz25_0
         try clear hcz25_1
         try clear hcz25_2
         try clear hcz29_0
         try clear hcz29_1
         try clear hcz29_2
         try clear hcz31_0
         try clear hcz31_1
         try clear hcz31_2
         try clear hcz39_0
         try clear hcz39_1
         try clear hcz39_2
         try clear hcz40_0
         try clear hcz40_1
         try clear hcz40_2
         try clear hcz47_0
         try clear hcz47_1
         try clear hcz47_2
         try clear hcz48_0
         try clear hcz48_1
         try clear hcz48_2
         try clear hcz53_0
         try clear hcz53_1
         try clear hcz53_2
         try clear hcz57_0
         try clear hcz57_1
         try clear hcz57_2
         try clear hfz13_0
         try clear hfz13_1
         try clear hfz13_2
         try clear hfz17_0
         try clear hfz17_1
         try clear hfz17_2
         try clear hfz23_0
         try clear hfz23_1
         try clear hfz23_2
         try clear hfz25_0
         try clear hfz25_1
         try clear hfz25_2
         try clear hfz29_0
         try clear hfz29_1
         try clear hfz29_2
         try clear hfz31_0
         try clear hfz31_1
         try clear hfz31_2
         try clear hfz39_0
         try clear hfz39_1
         try clear hfz39_2
         try clear hfz40_0
         try clear hfz40_1
         try clear hfz40_2
         try clear hfz47_0
         try clear hfz47_1
         try clear hfz47_2
         try clear hfz48_0
         try clear hfz48_1
         try clear hfz48_2
         try clear hfz53_0
         try clear hfz53_1
         try clear hfz53_2
         try clear hfz57_0
         try clear hfz57_1
         try clear hfz57_2
         try clear hx324_0
         try clear p2
         try clear p3
         try clear p324
         try clear p6
         try clear q3
         try clear q324
         obtain ⟨kq, x114_51, rfl, HA, HJ51, BK323, BK338, HB⟩ := hcut
         cases kq with
         | zero => exact absurd HA.out (by simp [sakialaw08_WordOrder.j2])
         | succ kj51 =>
          have H := HA.out
          clear HA
          simp only [sakialaw08_WordOrder.j2] at H
          by_cases c68 : x114_51 = true
          ·subst c68
           have H1 : (some false) = some r := by rw [if_pos rfl] at H; exact H
           clear H
           have H := H1
           clear H1
           exact absurd ((Option.some.inj H).trans HR_.out) (by decide)
          ·replace c68 := Bool.eq_false_iff.mpr c68
           subst c68
           have H1 : (if t337 = 1 then (if t333 = (wrap64 (x9_1 + 1)) then (if t334 = x8_1 then ((pos_Len.f kj51 t333 t334 t335).bind fun t339 => (if t339 > (wrap64 (1 + (wrap64 (Int.tmod a0 9)))) then (some false) else (sakialaw08_WordOrder.l0 kj51 l1 t322 (wrap64 (1 + (wrap64 (Int.tmod a0 9)))) x8_1 (wrap64 (x9_1 + 1)) (wrap64 (x10_1 + 1)) t333 t334 t335))) else (some false)) else (some false)) else (if t333 = x9_1 then (if t334 = x8_1 then ((pos_Len.f kj51 t333 t334 t335).bind fun t340 => (if t340 > (wrap64 (1 + (wrap64 (Int.tmod a0 9)))) then (some false) else (sakialaw08_WordOrder.l0 kj51 l1 t322 (wrap64 (1 + (wrap64 (Int.tmod a0 9)))) x8_1 x9_1 (wrap64 (x10_1 + 1)) t333 t334 t335))) else (some false)) else (some false))) = some r := by rw [if_neg (show ¬ (false = true) by decide)] at H; exact H
           clear H
           have H := H1
           clear H1
           by_cases c69 : t337 = 1
           ·rw [if_pos c69] at H
            have c69b0 : (t337 == 1) = true := beq_iff_eq.mpr c69
            have c69b1 : (t337 != 1) = false := bne_eq_false_iff_eq.mpr c69
            clear c69
            by_cases c70 : t333 = (wrap64 (x9_1 + 1))
            ·rw [if_pos c70] at H
             have c70b0 : (t333 == (wrap64 (x9_1 + 1))) = true := beq_iff_eq.mpr c70
             have c70b1 : (t333 != (wrap64 (x9_1 + 1))) = false := bne_eq_false_iff_eq.mpr c70
             clear c70
             by_cases c71 : t334 = x8_1
             ·rw [if_pos c71] at H
              have c71b0 : (t334 == x8_1) = true := beq_iff_eq.mpr c71
              have c71b1 : (t334 != x8_1) = false := bne_eq_false_iff_eq.mpr c71
              clear c71
              replace H := Option.bind_eq_some_iff.mp H
              obtain ⟨t339, A720, H⟩ := H
              replace H : (if t339 > (wrap64 (1 + (wrap64 (Int.tmod a0 9)))) then (some false) else (sakialaw08_WordOrder.l0 kj51 l1 t322 (wrap64 (1 + (wrap64 (Int.tmod a0 9)))) x8_1 (wrap64 (x9_1 + 1)) (wrap64 (x10_1 + 1)) t333 t334 t335)) = some r := H
              have A72 := Aside0.mk A720
              clear A720
              by_cases c73 : t339 > (wrap64 (1 + (wrap64 (Int.tmod a0 9))))
              ·rw [if_pos c73] at H
               have c73b0 : decide ((wrap64 (1 + (wrap64 (Int.tmod a0 9)))) < t339) = true := decide_eq_true c73
               clear c73
               exact absurd ((Option.some.inj H).trans HR_.out) (by decide)
              ·rw [if_neg c73] at H
               have c73b0 : decide ((wrap64 (1 + (wrap64 (Int.tmod a0 9)))) < t339) = false := decide_eq_false c73
               clear c73
               have H' := Aside0.mk H
               clear H
               have hnb74 := NB338_323.out
               have hnc74 := NB323_338.out
               obtain ⟨hcz75_0, hcz75_1, hcz75_2, hfz75_0, hfz75_1, hfz75_2⟩ := cells3 (w := wc) (g := gb338) BK338.out
               obtain ⟨hcz76_0, hcz76_1, hcz76_2, hfz76_0, hfz76_1, hfz76_2⟩ := cells3 (w := wc) (g := gb323) BK323.out
               go_wp2_with (first | (go_at_call 26; (with_reducible refine (pos_Len.calls kj51 t333 t334 t335 t339 _ A72.out).mono ?_); rintro e w77 ⟨rfl, hb⟩; have n0_ := Aside0.mk (blk_below (g := gb323) (o := .cells #[.int .i64 t333, .int .i64 t334, .int .i64 t335] 23 (0, 0)) (by (with_reducible repeat (first | apply kN | apply kD | apply kA)); refine blk_put (cs := #[.int .i64 t333, .int .i64 t334, .int .i64 x324002_1]) ?_ 2 _ rfl; (with_reducible repeat (first | apply kN | apply kD | apply kA)); refine blk_put (cs := #[.int .i64 t333, .int .i64 x324001_1, .int .i64 x324002_1]) ?_ 1 _ rfl; (with_reducible repeat (first | apply kN | apply kD | apply kA)); refine blk_put (cs := #[.int .i64 x324000_1, .int .i64 x324001_1, .int .i64 x324002_1]) ?_ 0 _ rfl; (with_reducible repeat (first | apply kN | apply kD | apply kA)); exact BK323.out) hb); have n1_ := Aside0.mk (blk_below (g := gb338) (o := .cells #[.int .i64 t333, .int .i64 t334, .int .i64 t335] 23 (0, 0)) (by (with_reducible repeat (first | apply kN | apply kD | apply kA)); refine blk_far ?_ NB338_323.out _; (with_reducible repeat (first | apply kN | apply kD | apply kA)); refine blk_far ?_ NB338_323.out _; (with_reducible repeat (first | apply kN | apply kD | apply kA)); refine blk_far ?_ NB338_323.out _; (with_reducible repeat (first | apply kN | apply kD | apply kA)); exact BK338.out) hb); have n2_ := Aside0.mk (below_step (by repeat (first | (with_reducible first | exact HB.out | apply bA | apply bN | apply bD | refine below_set ?_ GE323.out | refine below_set ?_ GE338.out) | exact HB.out)) hb); clear BK323; clear BK338; clear HB; have BK323 := n0_; have BK338 := n1_; have HB := n2_; clear n0_ n1_ n2_; (try clear hb); (try clear hb2); (try clear hk); (try clear hi)))
               go_roundg kj51
               case measure => have := HK1.out; have := HJ51.out; omega
               case rel => exact ⟨(x8_1), (wrap64 (x9_1 + 1)), (wrap64 (x10_1 + 1)), (t333), (t334), (t335), (by first | rfl | (simp; done) | (simp [*]; done)), (by first | rfl | (simp; done) | (simp [*]; done)), (by first | rfl | (simp; done) | (simp [*]; done)), H', ⟨by have := HK1.out; have := HJ51.out; omega⟩, ⟨by (with_reducible repeat (first | apply kN | apply kD | apply kA)); exact BK323.out⟩, ⟨by repeat (first | (with_reducible first | exact HB.out | apply bA | apply bN | apply bD | refine below_set ?_ GE323.out | refine below_set ?_ GE338.out) | exact HB.out)⟩⟩
             ·rw [if_neg c71] at H
              have c71b0 : (t334 == x8_1) = false := beq_eq_false_iff_ne.mpr c71
              have c71b1 : (t334 != x8_1) = true := bne_iff_ne.mpr c71
              exact absurd ((Option.some.inj H).trans HR_.out) (by decide)
            ·rw [if_neg c70] at H
             have c70b0 : (t333 == (wrap64 (x9_1 + 1))) = false := beq_eq_false_iff_ne.mpr c70
             have c70b1 : (t333 != (wrap64 (x9_1 + 1))) = true := bne_iff_ne.mpr c70
             exact absurd ((Option.some.inj H).trans HR_.out) (by decide)
           ·rw [if_neg c69] at H
            have c69b0 : (t337 == 1) = false := beq_eq_false_iff_ne.mpr c69
            have c69b1 : (t337 != 1) = true := bne_iff_ne.mpr c69
            by_cases c78 : t333 = x9_1
            ·rw [if_pos c78] at H
             have c78b0 : (t333 == x9_1) = true := beq_iff_eq.mpr c78
             have c78b1 : (t333 != x9_1) = false := bne_eq_false_iff_eq.mpr c78
             clear c78
             by_cases c79 : t334 = x8_1
             ·rw [if_pos c79] at H
              have c79b0 : (t334 == x8_1) = true := beq_iff_eq.mpr c79
              have c79b1 : (t334 != x8_1) = false := bne_eq_false_iff_eq.mpr c79
              clear c79
              replace H := Option.bind_eq_some_iff.mp H
              obtain ⟨t340, A800, H⟩ := H
              replace H : (if t340 > (wrap64 (1 + (wrap64 (Int.tmod a0 9)))) then (some false) else (sakialaw08_WordOrder.l0 kj51 l1 t322 (wrap64 (1 + (wrap64 (Int.tmod a0 9)))) x8_1 x9_1 (wrap64 (x10_1 + 1)) t333 t334 t335)) = some r := H
              have A80 := Aside0.mk A800
              clear A800
              by_cases c81 : t340 > (wrap64 (1 + (wrap64 (Int.tmod a0 9))))
              ·rw [if_pos c81] at H
               have c81b0 : decide ((wrap64 (1 + (wrap64 (Int.tmod a0 9)))) < t340) = true := decide_eq_true c81
               clear c81
               exact absurd ((Option.some.inj H).trans HR_.out) (by decide)
              ·rw [if_neg c81] at H
               have c81b0 : decide ((wrap64 (1 + (wrap64 (Int.tmod a0 9)))) < t340) = false := decide_eq_false c81
               clear c81
               have H' := Aside0.mk H
               clear H
               have hnb82 := NB338_323.out
               have hnc82 := NB323_338.out
               obtain ⟨hcz83_0, hcz83_1, hcz83_2, hfz83_0, hfz83_1, hfz83_2⟩ := cells3 (w := wc) (g := gb338) BK338.out
               obtain ⟨hcz84_0, hcz84_1, hcz84_2, hfz84_0, hfz84_1, hfz84_2⟩ := cells3 (w := wc) (g := gb323) BK323.out
               go_wp2_with (first | (go_at_call 26; (with_reducible refine (pos_Len.calls kj51 t333 t334 t335 t340 _ A80.out).mono ?_); rintro e w85 ⟨rfl, hb⟩; have n0_ := Aside0.mk (blk_below (g := gb323) (o := .cells #[.int .i64 t333, .int .i64 t334, .int .i64 t335] 23 (0, 0)) (by (with_reducible repeat (first | apply kN | apply kD | apply kA)); refine blk_put (cs := #[.int .i64 t333, .int .i64 t334, .int .i64 x324002_1]) ?_ 2 _ rfl; (with_reducible repeat (first | apply kN | apply kD | apply kA)); refine blk_put (cs := #[.int .i64 t333, .int .i64 x324001_1, .int .i64 x324002_1]) ?_ 1 _ rfl; (with_reducible repeat (first | apply kN | apply kD | apply kA)); refine blk_put (cs := #[.int .i64 x324000_1, .int .i64 x324001_1, .int .i64 x324002_1]) ?_ 0 _ rfl; (with_reducible repeat (first | apply kN | apply kD | apply kA)); exact BK323.out) hb); have n1_ := Aside0.mk (blk_below (g := gb338) (o := .cells #[.int .i64 t333, .int .i64 t334, .int .i64 t335] 23 (0, 0)) (by (with_reducible repeat (first | apply kN | apply kD | apply kA)); refine blk_far ?_ NB338_323.out _; (with_reducible repeat (first | apply kN | apply kD | apply kA)); refine blk_far ?_ NB338_323.out _; (with_reducible repeat (first | apply kN | apply kD | apply kA)); refine blk_far ?_ NB338_323.out _; (with_reducible repeat (first | apply kN | apply kD | apply kA)); exact BK338.out) hb); have n2_ := Aside0.mk (below_step (by repeat (first | (with_reducible first | exact HB.out | apply bA | apply bN | apply bD | refine below_set ?_ GE323.out | refine below_set ?_ GE338.out) | exact HB.out)) hb); clear BK323; clear BK338; clear HB; have BK323 := n0_; have BK338 := n1_; have HB := n2_; clear n0_ n1_ n2_; (try clear hb); (try clear hb2); (try clear hk); (try clear hi)))
               go_roundg kj51
               case measure => have := HK1.out; have := HJ51.out; omega
               case rel => exact ⟨(x8_1), (x9_1), (wrap64 (x10_1 + 1)), (t333), (t334), (t335), (by first | rfl | (simp; done) | (simp [*]; done)), (by first | rfl | (simp; done) | (simp [*]; done)), (by first | rfl | (simp; done) | (simp [*]; done)), H', ⟨by have := HK1.out; have := HJ51.out; omega⟩, ⟨by (with_reducible repeat (first | apply kN | apply kD | apply kA)); exact BK323.out⟩, ⟨by repeat (first | (with_reducible first | exact HB.out | apply bA | apply bN | apply bD | refine below_set ?_ GE323.out | refine below_set ?_ GE338.out) | exact HB.out)⟩⟩
             ·rw [if_neg c79] at H
              have c79b0 : (t334 == x8_1) = false := beq_eq_false_iff_ne.mpr c79
              have c79b1 : (t334 != x8_1) = true := bne_iff_ne.mpr c79
              exact absurd ((Option.some.inj H).trans HR_.out) (by decide)
            ·rw [if_neg c78] at H
             have c78b0 : (t333 == x9_1) = false := beq_eq_false_iff_ne.mpr c78
             have c78b1 : (t333 != x9_1) = true := bne_iff_ne.mpr c78
             exact absurd ((Option.some.inj H).trans HR_.out) (by decide)
       ·rw [if_neg c50] at H
        have c50b0 : (((rd_T36 l1 x10_1).f0) == 1) = false := beq_eq_false_iff_ne.mpr c50
        have c50b1 : (((rd_T36 l1 x10_1).f0) != 1) = true := bne_iff_ne.mpr c50
        by_cases c86 : ((rd_T36 l1 x10_1).f0) = 2
        ·rw [if_pos c86] at H
         have c86b0 : (((rd_T36 l1 x10_1).f0) == 2) = true := beq_iff_eq.mpr c86
         have c86b1 : (((rd_T36 l1 x10_1).f0) != 2) = false := bne_eq_false_iff_eq.mpr c86
         clear c86
         replace H := Option.bind_eq_some_iff.mp H
         obtain ⟨⟨t341, t342, t343, t344⟩, A870, H⟩ := H
         replace H : (if t344 = true then (if t341 = (wrap64 (x9_1 + 1)) then (if t342 = x8_1 then ((pos_Len.f k1 t341 t342 t343).bind fun t346 => (if t346 > (wrap64 (1 + (wrap64 (Int.tmod a0 9)))) then (some false) else (sakialaw08_WordOrder.l0 k1 l1 t322 (wrap64 (1 + (wrap64 (Int.tmod a0 9)))) x8_1 (wrap64 (x9_1 + 1)) (wrap64 (x10_1 + 1)) t341 t342 t343))) else (some false)) else (some false)) else (if t341 = x9_1 then (if t342 = x8_1 then ((pos_Len.f k1 t341 t342 t343).bind fun t347 => (if t347 > (wrap64 (1 + (wrap64 (Int.tmod a0 9)))) then (some false) else (sakialaw08_WordOrder.l0 k1 l1 t322 (wrap64 (1 + (wrap64 (Int.tmod a0 9)))) x8_1 x9_1 (wrap64 (x10_1 + 1)) t341 t342 t343))) else (some false)) else (some false))) = some r := H
         have A87 := Aside0.mk A870
         clear A870
         by_cases c88 : t344 = true
         ·subst c88
          have H1 : (if t341 = (wrap64 (x9_1 + 1)) then (if t342 = x8_1 then ((pos_Len.f k1 t341 t342 t343).bind fun t346 => (if t346 > (wrap64 (1 + (wrap64 (Int.tmod a0 9)))) then (some false) else (sakialaw08_WordOrder.l0 k1 l1 t322 (wrap64 (1 + (wrap64 (Int.tmod a0 9)))) x8_1 (wrap64 (x9_1 + 1)) (wrap64 (x10_1 + 1)) t341 t342 t343))) else (some false)) else (some false)) = some r := by rw [if_pos rfl] at H; exact H
          clear H
          have H := H1
          clear H1
          by_cases c89 : t341 = (wrap64 (x9_1 + 1))
          ·rw [if_pos c89] at H
           have c89b0 : (t341 == (wrap64 (x9_1 + 1))) = true := beq_iff_eq.mpr c89
           have c89b1 : (t341 != (wrap64 (x9_1 + 1))) = false := bne_eq_false_iff_eq.mpr c89
           clear c89
           by_cases c90 : t342 = x8_1
           ·rw [if_pos c90] at H
            have c90b0 : (t342 == x8_1) = true := beq_iff_eq.mpr c90
            have c90b1 : (t342 != x8_1) = false := bne_eq_false_iff_eq.mpr c90
            clear c90
            replace H := Option.bind_eq_some_iff.mp H
            obtain ⟨t346, A910, H⟩ := H
            replace H : (if t346 > (wrap64 (1 + (wrap64 (Int.tmod a0 9)))) then (some false) else (sakialaw08_WordOrder.l0 k1 l1 t322 (wrap64 (1 + (wrap64 (Int.tmod a0 9)))) x8_1 (wrap64 (x9_1 + 1)) (wrap64 (x10_1 + 1)) t341 t342 t343)) = some r := H
            have A91 := Aside0.mk A910
            clear A910
            by_cases c92 : t346 > (wrap64 (1 + (wrap64 (Int.tmod a0 9))))
            ·rw [if_pos c92] at H
             have c92b0 : decide ((wrap64 (1 + (wrap64 (Int.tmod a0 9)))) < t346) = true := decide_eq_true c92
             clear c92
             exact absurd ((Option.some.inj H).trans HR_.out) (by decide)
            ·rw [if_neg c92] at H
             have c92b0 : decide ((wrap64 (1 + (wrap64 (Int.tmod a0 9)))) < t346) = false := decide_eq_false c92
             clear c92
             have H' := Aside0.mk H
             clear H
             have p324 : 0 ≤ (x10_1 : Int) := of_decide_eq_true (by first | (with_reducible assumption) | assumption)
             have q324 : x10_1 < (l1.length : Int) := of_decide_eq_true (by first | (with_reducible assumption) | assumption)
             obtain ⟨ad324, e324, hx324_0⟩ := at_T36 HR1.out x10_1 p324 q324
             cases e324
             replace hx324_0 := (HB.out.cell (World.block_lt_of_cell? w _ hx324_0)).trans hx324_0
             replace p324 := eq_true p324
             replace q324 := eq_true q324
             obtain ⟨hcz93_0, hcz93_1, hcz93_2, hfz93_0, hfz93_1, hfz93_2⟩ := cells3 (w := wr) (g := gb323) BK323.out
             go_wp2_with (first | ((with_reducible refine gate_callee (f := 20) rfl ?_); refine goesL_ (some 126) rfl rfl Try.func20 (by kernel_rfl) rfl #[.agg #[.int .i64 x324000_1, .int .i64 x324001_1, .int .i64 x324002_1], .int .i64 (wrap64 (1 + (wrap64 (Int.tmod a0 9)))), .int .i64 x9_1] rfl (by (try simp only [List.map_toArray, List.map_cons, List.map_nil]); first | done | rfl | (simp only [List.length_drop, List.length_take]; rfl)) ?_; (with_reducible refine (word_Evict.calls k1 x324000_1 x324001_1 x324002_1 (wrap64 (1 + (wrap64 (Int.tmod a0 9)))) x9_1 t341 t342 t343 true _ A87.out).mono ?_); rintro e w94 ⟨rfl, hb⟩; refine ⟨_, rfl, ?_⟩; have n0_ := Aside0.mk (blk_below (g := gb323) (o := .cells #[.int .i64 x324000_1, .int .i64 x324001_1, .int .i64 x324002_1] 23 (0, 0)) (by (with_reducible repeat (first | apply kN | apply kD | apply kA)); exact BK323.out) hb); have n1_ := Aside0.mk (below_step (by repeat (first | (with_reducible first | exact HB.out | apply bA | apply bN | apply bD | refine below_set ?_ GE323.out) | exact HB.out)) hb); clear BK323; clear HB; have BK323 := n0_; have HB := n1_; clear n0_ n1_; (try clear hb); (try clear hb2); (try clear hk); (try clear hi)) | ((with_reducible refine gate_dst (N := 17) rfl ?_); refine box_event ?hg (N := 17) ?hd (cs := #[.int .i64 0, .int .i64 0, .int .i64 0]) (t := 23) ?hr ?_; (case hd => rfl); (case hg => rfl); (case hr => first | (go_simp; done) | (go_simp; rfl)); intro gb345 hg w95 hbox hb; have n0_ := Aside0.mk (blk_below (g := gb323) (o := .cells #[.int .i64 x324000_1, .int .i64 x324001_1, .int .i64 x324002_1] 23 (0, 0)) (by (with_reducible repeat (first | apply kN | apply kD | apply kA)); exact BK323.out) hb); have n1_ := Aside0.mk (below_step (by repeat (first | (with_reducible first | exact HB.out | apply bA | apply bN | apply bD | refine below_set ?_ GE323.out) | exact HB.out)) hb); have n2_ := Aside0.mk (hbox); have n3_ := Aside0.mk ((by rw [hg]; exact (below_size (by repeat (first | (with_reducible first | exact HB.out | apply bA | apply bN | apply bD | refine below_set ?_ GE323.out) | exact HB.out))) : w.heap.size ≤ gb345)); have n4_ := Aside0.mk ((by rw [hg]; exact (below_size (by repeat (first | (with_reducible first | exact HB.out | apply bA | apply bN | apply bD | refine below_set ?_ GE323.out) | exact HB.out))) : w.heap.size ≤ gb345)); have n5_ := Aside0.mk ((by rw [hg]; exact Nat.ne_of_lt (blk_lt (g := gb323) (o := .cells #[.int .i64 x324000_1, .int .i64 x324001_1, .int .i64 x324002_1] 23 (0, 0)) (by (with_reducible repeat (first | apply kN | apply kD | apply kA)); exact BK323.out)) : gb323 ≠ gb345)); have n6_ := Aside0.mk ((by rw [hg]; exact Nat.ne_of_gt (blk_lt (g := gb323) (o := .cells #[.int .i64 x324000_1, .int .i64 x324001_1, .int .i64 x324002_1] 23 (0, 0)) (by (with_reducible repeat (first | apply kN | apply kD | apply kA)); exact BK323.out)) : gb345 ≠ gb323)); clear BK323; clear HB; have BK323 := n0_; have HB := n1_; have BK345 := n2_; have GW345 := n3_; have GE345 := n4_; have NB323_345 := n5_; have NB345_323 := n6_; clear n0_ n1_ n2_ n3_ n4_ n5_ n6_; clear hb hbox hg; have hnb96 := NB345_323.out; have hnc96 := NB323_345.out; obtain ⟨hcz97_0, hcz97_1, hcz97_2, hfz97_0, hfz97_1, hfz97_2⟩ := cells3 (w := w95) (g := gb345) BK345.out; obtain ⟨hcz98_0, hcz98_1, hcz98_2, hfz98_0, hfz98_1, hfz98_2⟩ := cells3 (w := w95) (g := gb323) BK323.out) | (go_at_call 26; (with_reducible refine (pos_Len.calls k1 t341 t342 t343 t346 _ A91.out).mono ?_); rintro e w99 ⟨rfl, hb⟩; have n0_ := Aside0.mk (blk_below (g := gb323) (o := .cells #[.int .i64 t341, .int .i64 t342, .int .i64 t343] 23 (0, 0)) (by (with_reducible repeat (first | apply kN | apply kD | apply kA)); refine blk_put (cs := #[.int .i64 t341, .int .i64 t342, .int .i64 x324002_1]) ?_ 2 _ rfl; (with_reducible repeat (first | apply kN | apply kD | apply kA)); refine blk_put (cs := #[.int .i64 t341, .int .i64 x324001_1, .int .i64 x324002_1]) ?_ 1 _ rfl; (with_reducible repeat (first | apply kN | apply kD | apply kA)); refine blk_put (cs := #[.int .i64 x324000_1, .int .i64 x324001_1, .int .i64 x324002_1]) ?_ 0 _ rfl; (with_reducible repeat (first | apply kN | apply kD | apply kA)); refine blk_far ?_ NB323_345.out _; (with_reducible repeat (first | apply kN | apply kD | apply kA)); refine blk_far ?_ NB323_345.out _; (with_reducible repeat (first | apply kN | apply kD | apply kA)); refine blk_far ?_ NB323_345.out _; (with_reducible repeat (first | apply kN | apply kD | apply kA)); exact BK323.out) hb); have n1_ := Aside0.mk (blk_below (g := gb345) (o := .cells #[.int .i64 t341, .int .i64 t342, .int .i64 t343] 23 (0, 0)) (by (with_reducible repeat (first | apply kN | apply kD | apply kA)); refine blk_far ?_ NB345_323.out _; (with_reducible repeat (first | apply kN | apply kD | apply kA)); refine blk_far ?_ NB345_323.out _; (with_reducible repeat (first | apply kN | apply kD | apply kA)); refine blk_far ?_ NB345_323.out _; (with_reducible repeat (first | apply kN | apply kD | apply kA)); refine blk_put (cs := #[.int .i64 t341, .int .i64 t342, .int .i64 0]) ?_ 2 _ rfl; (with_reducible repeat (first | apply kN | apply kD | apply kA)); refine blk_put (cs := #[.int .i64 t341, .int .i64 0, .int .i64 0]) ?_ 1 _ rfl; (with_reducible repeat (first | apply kN | apply kD | apply kA)); refine blk_put (cs := #[.int .i64 0, .int .i64 0, .int .i64 0]) ?_ 0 _ rfl; (with_reducible repeat (first | apply kN | apply kD | apply kA)); exact BK345.out) hb); have n2_ := Aside0.mk (below_step (by repeat (first | (with_reducible first | exact HB.out | apply bA | apply bN | apply bD | refine below_set ?_ GE323.out | refine below_set ?_ GE345.out) | exact HB.out)) hb); clear BK323; clear BK345; clear HB; have BK323 := n0_; have BK345 := n1_; have HB := n2_; clear n0_ n1_ n2_; (try clear hb); (try clear hb2); (try clear hk); (try clear hi)))
             go_roundg k1
             case measure => have := HK1.out; omega
             case rel => exact ⟨(x8_1), (wrap64 (x9_1 + 1)), (wrap64 (x10_1 + 1)), (t341), (t342), (t343), (by first | rfl | (simp; done) | (simp [*]; done)), (by first | rfl | (simp; done) | (simp [*]; done)), (by first | rfl | (simp; done) | (simp [*]; done)), H', ⟨by have := HK1.out; omega⟩, ⟨by (with_reducible repeat (first | apply kN | apply kD | apply kA)); exact BK323.out⟩, ⟨by repeat (first | (with_reducible first | exact HB.out | apply bA | apply bN | apply bD | refine below_set ?_ GE323.out | refine below_set ?_ GE345.out) | exact HB.out)⟩⟩
           ·rw [if_neg c90] at H
            have c90b0 : (t342 == x8_1) = false := beq_eq_false_iff_ne.mpr c90
            have c90b1 : (t342 != x8_1) = true := bne_iff_ne.mpr c90
            exact absurd ((Option.some.inj H).trans HR_.out) (by decide)
          ·rw [if_neg c89] at H
           have c89b0 : (t341 == (wrap64 (x9_1 + 1))) = false := beq_eq_false_iff_ne.mpr c89
           have c89b1 : (t341 != (wrap64 (x9_1 + 1))) = true := bne_iff_ne.mpr c89
           exact absurd ((Option.some.inj H).trans HR_.out) (by decide)
         ·replace c88 := Bool.eq_false_iff.mpr c88
          subst c88
          have H1 : (if t341 = x9_1 then (if t342 = x8_1 then ((pos_Len.f k1 t341 t342 t343).bind fun t347 => (if t347 > (wrap64 (1 + (wrap64 (Int.tmod a0 9)))) then (some false) else (sakialaw08_WordOrder.l0 k1 l1 t322 (wrap64 (1 + (wrap64 (Int.tmod a0 9)))) x8_1 x9_1 (wrap64 (x10_1 + 1)) t341 t342 t343))) else (some false)) else (some false)) = some r := by rw [if_neg (show ¬ (false = true) by decide)] at H; exact H
          clear H
          have H := H1
          clear H1
          by_cases c100 : t341 = x9_1
          ·rw [if_pos c100] at H
           have c100b0 : (t341 == x9_1) = true := beq_iff_eq.mpr c100
           have c100b1 : (t341 != x9_1) = false := bne_eq_false_iff_eq.mpr c100
           clear c100
           by_cases c101 : t342 = x8_1
           ·rw [if_pos c101] at H
            have c101b0 : (t342 == x8_1) = true := beq_iff_eq.mpr c101
            have c101b1 : (t342 != x8_1) = false := bne_eq_false_iff_eq.mpr c101
            clear c101
            replace H := Option.bind_eq_some_iff.mp H
            obtain ⟨t347, A1020, H⟩ := H
            replace H : (if t347 > (wrap64 (1 + (wrap64 (Int.tmod a0 9)))) then (some false) else (sakialaw08_WordOrder.l0 k1 l1 t322 (wrap64 (1 + (wrap64 (Int.tmod a0 9)))) x8_1 x9_1 (wrap64 (x10_1 + 1)) t341 t342 t343)) = some r := H
            have A102 := Aside0.mk A1020
            clear A1020
            by_cases c103 : t347 > (wrap64 (1 + (wrap64 (Int.tmod a0 9))))
            ·rw [if_pos c103] at H
             have c103b0 : decide ((wrap64 (1 + (wrap64 (Int.tmod a0 9)))) < t347) = true := decide_eq_true c103
             clear c103
             exact absurd ((Option.some.inj H).trans HR_.out) (by decide)
            ·rw [if_neg c103] at H
             have c103b0 : decide ((wrap64 (1 + (wrap64 (Int.tmod a0 9)))) < t347) = false := decide_eq_false c103
             clear c103
             have H' := Aside0.mk H
             clear H
             have p324 : 0 ≤ (x10_1 : Int) := of_decide_eq_true (by first | (with_reducible assumption) | assumption)
             have q324 : x10_1 < (l1.length : Int) := of_decide_eq_true (by first | (with_reducible assumption) | assumption)
             obtain ⟨ad324, e324, hx324_0⟩ := at_T36 HR1.out x10_1 p324 q324
             cases e324
             replace hx324_0 := (HB.out.cell (World.block_lt_of_cell? w _ hx324_0)).trans hx324_0
             replace p324 := eq_true p324
             replace q324 := eq_true q324
             obtain ⟨hcz104_0, hcz104_1, hcz104_2, hfz104_0, hfz104_1, hfz104_2⟩ := cells3 (w := wr) (g := gb323) BK323.out
             go_wp2_with (first | ((with_reducible refine gate_callee (f := 20) rfl ?_); refine goesL_ (some 126) rfl rfl Try.func20 (by kernel_rfl) rfl #[.agg #[.int .i64 x324000_1, .int .i64 x324001_1, .int .i64 x324002_1], .int .i64 (wrap64 (1 + (wrap64 (Int.tmod a0 9)))), .int .i64 x9_1] rfl (by (try simp only [List.map_toArray, List.map_cons, List.map_nil]); first | done | rfl | (simp only [List.length_drop, List.length_take]; rfl)) ?_; (with_reducible refine (word_Evict.calls k1 x324000_1 x324001_1 x324002_1 (wrap64 (1 + (wrap64 (Int.tmod a0 9)))) x9_1 t341 t342 t343 false _ A87.out).mono ?_); rintro e w105 ⟨rfl, hb⟩; refine ⟨_, rfl, ?_⟩; have n0_ := Aside0.mk (blk_below (g := gb323) (o := .cells #[.int .i64 x324000_1, .int .i64 x324001_1, .int .i64 x324002_1] 23 (0, 0)) (by (with_reducible repeat (first | apply kN | apply kD | apply kA)); exact BK323.out) hb); have n1_ := Aside0.mk (below_step (by repeat (first | (with_reducible first | exact HB.out | apply bA | apply bN | apply bD | refine below_set ?_ GE323.out) | exact HB.out)) hb); clear BK323; clear HB; have BK323 := n0_; have HB := n1_; clear n0_ n1_; (try clear hb); (try clear hb2); (try clear hk); (try clear hi)) | ((with_reducible refine gate_dst (N := 17) rfl ?_); refine box_event ?hg (N := 17) ?hd (cs := #[.int .i64 0, .int .i64 0, .int .i64 0]) (t := 23) ?hr ?_; (case hd => rfl); (case hg => rfl); (case hr => first | (go_simp; done) | (go_simp; rfl)); intro gb345 hg w106 hbox hb; have n0_ := Aside0.mk (blk_below (g := gb323) (o := .cells #[.int .i64 x324000_1, .int .i64 x324001_1, .int .i64 x324002_1] 23 (0, 0)) (by (with_reducible repeat (first | apply kN | apply kD | apply kA)); exact BK323.out) hb); have n1_ := Aside0.mk (below_step (by repeat (first | (with_reducible first | exact HB.out | apply bA | apply bN | apply bD | refine below_set ?_ GE323.out) | exact HB.out)) hb); have n2_ := Aside0.mk (hbox); have n3_ := Aside0.mk ((by rw [hg]; exact (below_size (by repeat (first | (with_reducible first | exact HB.out | apply bA | apply bN | apply bD | refine below_set ?_ GE323.out) | exact HB.out))) : w.heap.size ≤ gb345)); have n4_ := Aside0.mk ((by rw [hg]; exact (below_size (by repeat (first | (with_reducible first | exact HB.out | apply bA | apply bN | apply bD | refine below_set ?_ GE323.out) | exact HB.out))) : w.heap.size ≤ gb345)); have n5_ := Aside0.mk ((by rw [hg]; exact Nat.ne_of_lt (blk_lt (g := gb323) (o := .cells #[.int .i64 x324000_1, .int .i64 x324001_1, .int .i64 x324002_1] 23 (0, 0)) (by (with_reducible repeat (first | apply kN | apply kD | apply kA)); exact BK323.out)) : gb323 ≠ gb345)); have n6_ := Aside0.mk ((by rw [hg]; exact Nat.ne_of_gt (blk_lt (g := gb323) (o := .cells #[.int .i64 x324000_1, .int .i64 x324001_1, .int .i64 x324002_1] 23 (0, 0)) (by (with_reducible repeat (first | apply kN | apply kD | apply kA)); exact BK323.out)) : gb345 ≠ gb323)); clear BK323; clear HB; have BK323 := n0_; have HB := n1_; have BK345 := n2_; have GW345 := n3_; have GE345 := n4_; have NB323_345 := n5_; have NB345_323 := n6_; clear n0_ n1_ n2_ n3_ n4_ n5_ n6_; clear hb hbox hg; have hnb107 := NB345_323.out; have hnc107 := NB323_345.out; obtain ⟨hcz108_0, hcz108_1, hcz108_2, hfz108_0, hfz108_1, hfz108_2⟩ := cells3 (w := w106) (g := gb345) BK345.out; obtain ⟨hcz109_0, hcz109_1, hcz109_2, hfz109_0, hfz109_1, hfz109_2⟩ := cells3 (w := w106) (g := gb323) BK323.out) | (go_at_call 26; (with_reducible refine (pos_Len.calls k1 t341 t342 t343 t347 _ A102.out).mono ?_); rintro e w110 ⟨rfl, hb⟩; have n0_ := Aside0.mk (blk_below (g := gb323) (o := .cells #[.int .i64 t341, .int .i64 t342, .int .i64 t343] 23 (0, 0)) (by (with_reducible repeat (first | apply kN | apply kD | apply kA)); refine blk_put (cs := #[.int .i64 t341, .int .i64 t342, .int .i64 x324002_1]) ?_ 2 _ rfl; (with_reducible repeat (first | apply kN | apply kD | apply kA)); refine blk_put (cs := #[.int .i64 t341, .int .i64 x324001_1, .int .i64 x324002_1]) ?_ 1 _ rfl; (with_reducible repeat (first | apply kN | apply kD | apply kA)); refine blk_put (cs := #[.int .i64 x324000_1, .int .i64 x324001_1, .int .i64 x324002_1]) ?_ 0 _ rfl; (with_reducible repeat (first | apply kN | apply kD | apply kA)); refine blk_far ?_ NB323_345.out _; (with_reducible repeat (first | apply kN | apply kD | apply kA)); refine blk_far ?_ NB323_345.out _; (with_reducible repeat (first | apply kN | apply kD | apply kA)); refine blk_far ?_ NB323_345.out _; (with_reducible repeat (first | apply kN | apply kD | apply kA)); exact BK323.out) hb); have n1_ := Aside0.mk (blk_below (g := gb345) (o := .cells #[.int .i64 t341, .int .i64 t342, .int .i64 t343] 23 (0, 0)) (by (with_reducible repeat (first | apply kN | apply kD | apply kA)); refine blk_far ?_ NB345_323.out _; (with_reducible repeat (first | apply kN | apply kD | apply kA)); refine blk_far ?_ NB345_323.out _; (with_reducible repeat (first | apply kN | apply kD | apply kA)); refine blk_far ?_ NB345_323.out _; (with_reducible repeat (first | apply kN | apply kD | apply kA)); refine blk_put (cs := #[.int .i64 t341, .int .i64 t342, .int .i64 0]) ?_ 2 _ rfl; (with_reducible repeat (first | apply kN | apply kD | apply kA)); refine blk_put (cs := #[.int .i64 t341, .int .i64 0, .int .i64 0]) ?_ 1 _ rfl; (with_reducible repeat (first | apply kN | apply kD | apply kA)); refine blk_put (cs := #[.int .i64 0, .int .i64 0, .int .i64 0]) ?_ 0 _ rfl; (with_reducible repeat (first | apply kN | apply kD | apply kA)); exact BK345.out) hb); have n2_ := Aside0.mk (below_step (by repeat (first | (with_reducible first | exact HB.out | apply bA | apply bN | apply bD | refine below_set ?_ GE323.out | refine below_set ?_ GE345.out) | exact HB.out)) hb); clear BK323; clear BK345; clear HB; have BK323 := n0_; have BK345 := n1_; have HB := n2_; clear n0_ n1_ n2_; (try clear hb); (try clear hb2); (try clear hk); (try clear hi)))
             go_roundg k1
             case measure => have := HK1.out; omega
             case rel => exact ⟨(x8_1), (x9_1), (wrap64 (x10_1 + 1)), (t341), (t342), (t343), (by first | rfl | (simp; done) | (simp [*]; done)), (by first | rfl | (simp; done) | (simp [*]; done)), (by first | rfl | (simp; done) | (simp [*]; done)), H', ⟨by have := HK1.out; omega⟩, ⟨by (with_reducible repeat (first | apply kN | apply kD | apply kA)); exact BK323.out⟩, ⟨by repeat (first | (with_reducible first | exact HB.out | apply bA | apply bN | apply bD | refine below_set ?_ GE323.out | refine below_set ?_ GE345.out) | exact HB.out)⟩⟩
           ·rw [if_neg c101] at H
            have c101b0 : (t342 == x8_1) = false := beq_eq_false_iff_ne.mpr c101
            have c101b1 : (t342 != x8_1) = true := bne_iff_ne.mpr c101
            exact absurd ((Option.some.inj H).trans HR_.out) (by decide)
          ·rw [if_neg c100] at H
           have c100b0 : (t341 == x9_1) = false := beq_eq_false_iff_ne.mpr c100
           have c100b1 : (t341 != x9_1) = true := bne_iff_ne.mpr c100
           exact absurd ((Option.some.inj H).trans HR_.out) (by decide)
        ·rw [if_neg c86] at H
         have c86b0 : (((rd_T36 l1 x10_1).f0) == 2) = false := beq_eq_false_iff_ne.mpr c86
         have c86b1 : (((rd_T36 l1 x10_1).f0) != 2) = true := bne_iff_ne.mpr c86
         replace H := Option.bind_eq_some_iff.mp H
         obtain ⟨⟨t348, t349, t350⟩, A1110, H⟩ := H
         replace H : (if t348 = x9_1 then (if t349 = x8_1 then ((pos_Len.f k1 t348 t349 t350).bind fun t351 => (if t351 > (wrap64 (1 + (wrap64 (Int.tmod a0 9)))) then (some false) else (sakialaw08_WordOrder.l0 k1 l1 t322 (wrap64 (1 + (wrap64 (Int.tmod a0 9)))) x8_1 x9_1 (wrap64 (x10_1 + 1)) t348 t349 t350))) else (some false)) else (some false)) = some r := H
         have A111 := Aside0.mk A1110
         clear A1110
         by_cases c112 : t348 = x9_1
         ·rw [if_pos c112] at H
          have c112b0 : (t348 == x9_1) = true := beq_iff_eq.mpr c112
          have c112b1 : (t348 != x9_1) = false := bne_eq_false_iff_eq.mpr c112
          clear c112
          by_cases c113 : t349 = x8_1
          ·rw [if_pos c113] at H
           have c113b0 : (t349 == x8_1) = true := beq_iff_eq.mpr c113
           have c113b1 : (t349 != x8_1) = false := bne_eq_false_iff_eq.mpr c113
           clear c113
           replace H := Option.bind_eq_some_iff.mp H
           obtain ⟨t351, A1140, H⟩ := H
           replace H : (if t351 > (wrap64 (1 + (wrap64 (Int.tmod a0 9)))) then (some false) else (sakialaw08_WordOrder.l0 k1 l1 t322 (wrap64 (1 + (wrap64 (Int.tmod a0 9)))) x8_1 x9_1 (wrap64 (x10_1 + 1)) t348 t349 t350)) = some r := H
           have A114 := Aside0.mk A1140
           clear A1140
           by_cases c115 : t351 > (wrap64 (1 + (wrap64 (Int.tmod a0 9))))
           ·rw [if_pos c115] at H
            have c115b0 : decide ((wrap64 (1 + (wrap64 (Int.tmod a0 9)))) < t351) = true := decide_eq_true c115
            clear c115
            exact absurd ((Option.some.inj H).trans HR_.out) (by decide)
           ·rw [if_neg c115] at H
            have c115b0 : decide ((wrap64 (1 + (wrap64 (Int.tmod a0 9)))) < t351) = false := decide_eq_false c115
            clear c115
            have H' := Aside0.mk H
            clear H
            have p324 : 0 ≤ (x10_1 : Int) := of_decide_eq_true (by first | (with_reducible assumption) | assumption)
            have q324 : x10_1 < (l1.length : Int) := of_decide_eq_true (by first | (with_reducible assumption) | assumption)
            obtain ⟨ad324, e324, hx324_0⟩ := at_T36 HR1.out x10_1 p324 q324
            cases e324
            replace hx324_0 := (HB.out.cell (World.block_lt_of_cell? w _ hx324_0)).trans hx324_0
            replace p324 := eq_true p324
            replace q324 := eq_true q324
            obtain ⟨hcz116_0, hcz116_1, hcz116_2, hfz116_0, hfz116_1, hfz116_2⟩ := cells3 (w := wr) (g := gb323) BK323.out
            go_wp2_with (first | ((with_reducible refine gate_callee (f := 23) rfl ?_); refine goesL_ (some 40) rfl rfl Try.func23 (by kernel_rfl) rfl #[.agg #[.int .i64 x324000_1, .int .i64 x324001_1, .int .i64 x324002_1], .int .i64 1] rfl (by (try simp only [List.map_toArray, List.map_cons, List.map_nil]); first | done | rfl | (simp only [List.length_drop, List.length_take]; rfl)) ?_; (with_reducible refine (word_Close.calls x324000_1 x324001_1 x324002_1 1 t348 t349 t350 _ A111.out).mono ?_); rintro e w117 ⟨rfl, hb⟩; refine ⟨_, rfl, ?_⟩; have n0_ := Aside0.mk (blk_below (g := gb323) (o := .cells #[.int .i64 x324000_1, .int .i64 x324001_1, .int .i64 x324002_1] 23 (0, 0)) (by (with_reducible repeat (first | apply kN | apply kD | apply kA)); exact BK323.out) hb); have n1_ := Aside0.mk (below_step (by repeat (first | (with_reducible first | exact HB.out | apply bA | apply bN | apply bD | refine below_set ?_ GE323.out) | exact HB.out)) hb); clear BK323; clear HB; have BK323 := n0_; have HB := n1_; clear n0_ n1_; (try clear hb); (try clear hb2); (try clear hk); (try clear hi); obtain ⟨hcz118_0, hcz118_1, hcz118_2, hfz118_0, hfz118_1, hfz118_2⟩ := cells3 (w := w117) (g := gb323) BK323.out) | (go_at_call 26; (with_reducible refine (pos_Len.calls k1 t348 t349 t350 t351 _ A114.out).mono ?_); rintro e w119 ⟨rfl, hb⟩; have n0_ := Aside0.mk (blk_below (g := gb323) (o := .cells #[.int .i64 t348, .int .i64 t349, .int .i64 t350] 23 (0, 0)) (by (with_reducible repeat (first | apply kN | apply kD | apply kA)); refine blk_put (cs := #[.int .i64 t348, .int .i64 t349, .int .i64 x324002_1]) ?_ 2 _ rfl; (with_reducible repeat (first | apply kN | apply kD | apply kA)); refine blk_put (cs := #[.int .i64 t348, .int .i64 x324001_1, .int .i64 x324002_1]) ?_ 1 _ rfl; (with_reducible repeat (first | apply kN | apply kD | apply kA)); refine blk_put (cs := #[.int .i64 x324000_1, .int .i64 x324001_1, .int .i64 x324002_1]) ?_ 0 _ rfl; (with_reducible repeat (first | apply kN | apply kD | apply kA)); exact BK323.out) hb); have n1_ := Aside0.mk (below_step (by repeat (first | (with_reducible first | exact HB.out | apply bA | apply bN | apply bD | refine below_set ?_ GE323.out) | exact HB.out)) hb); clear BK323; clear HB; have BK323 := n0_; have HB := n1_; clear n0_ n1_; (try clear hb); (try clear hb2); (try clear hk); (try clear hi)))
            go_roundg k1
            case measure => have := HK1.out; omega
            case rel => exact ⟨(x8_1), (x9_1), (wrap64 (x10_1 + 1)), (t348), (t349), (t350), (by first | rfl | (simp; done) | (simp [*]; done)), (by first | rfl | (simp; done) | (simp [*]; done)), (by first | rfl | (simp; done) | (simp [*]; done)), H', ⟨by have := HK1.out; omega⟩, ⟨by (with_reducible repeat (first | apply kN | apply kD | apply kA)); exact BK323.out⟩, ⟨by repeat (first | (with_reducible first | exact HB.out | apply bA | apply bN | apply bD | refine below_set ?_ GE323.out) | exact HB.out)⟩⟩
          ·rw [if_neg c113] at H
           have c113b0 : (t349 == x8_1) = false := beq_eq_false_iff_ne.mpr c113
           have c113b1 : (t349 != x8_1) = true := bne_iff_ne.mpr c113
           exact absurd ((Option.some.inj H).trans HR_.out) (by decide)
         ·rw [if_neg c112] at H
          have c112b0 : (t348 == x9_1) = false := beq_eq_false_iff_ne.mpr c112
          have c112b1 : (t348 != x9_1) = true := bne_iff_ne.mpr c112
          exact absurd ((Option.some.inj H).trans HR_.out) (by decide)
     ·rw [if_neg c9] at H
      exact absurd H (by simp)
    ·rw [if_neg c8] at H
     have c8b0 : decide (x10_1 < (l1.length : Int)) = false := decide_eq_false c8
     clear c8
     obtain rfl := Option.some.inj H
     go_wp2
     go_ret
     exact ⟨by first | rfl | (simp [errW_none, errW_some] <;> rfl) | (simp [*, errW_none, errW_some] <;> rfl), by repeat (first | (with_reducible first | exact HB.out | apply bA | apply bN | apply bD | refine below_set ?_ GE323.out) | exact HB.out)⟩

/-- THE ONE PURE STATEMENT of sakialaw08_WordOrder. -/
def sakialaw08_WordOrder.Pure : Prop := ∀ (a0 : Int) (l1 : List (S36)), (Lit.int .u8 a0).wf = true → l1.length ≤ maxLen → (∀ y ∈ l1, good36 y) → ∃ k, sakialaw08_WordOrder.f k a0 l1 = some true

end Go.Proofs.Ytcmiijdkmfdpnaa.PL
