-- written by this repo's pp.py (the kit's print, turned by wip/patches.py)
import Derived.Test.YtlpeklhejjidfaaPLx0
import Derived.Test.YtlpeklhejjidfaaPLx10
import Derived.Test.YtlpeklhejjidfaaPLx11
import Derived.Test.YtlpeklhejjidfaaPLx12
import Derived.Test.YtlpeklhejjidfaaPLx13
import Derived.Test.YtlpeklhejjidfaaPLx14
import Derived.Test.YtlpeklhejjidfaaPLx15
import Derived.Test.YtlpeklhejjidfaaPLx16
namespace Go.Proofs.Ytlpeklhejjidfaa.PL
open Go.RowKit Go.Proofs.YtlpeklhejjidfaaW.PrintWords Go.Proofs.YtlpeklhejjidfaaW.PrintLast Go.Proofs.YtlpeklhejjidfaaW.PrintMore
attribute [local go_sem] max2_int min2_int max_two min_two max_three min_three max_four min_four   -- for this text's walks alone
set_option linter.unusedVariables false
set_option linter.unusedSimpArgs false

/-! ### sakialaw09_SlotTells: function 9 -/
def sakialaw09_SlotTells.f (k : Nat) (l0 : List (S49)) (a1 : Int) (a2 : Int) (a3 : Int) : Option (Bool) := (sakialaw09_awake.f k).bind fun t277 => (if (l0.length : Int) > 100 then (some t277) else ((slot_Write.f k l0 a1 a2).bind fun bt278 => ((sakiaref09_Write.f k l0 a1 a2).bind fun bt282 => ((slot_Read.f k l0 a1).bind fun bt286 => ((sakiaref09_Read.f k l0 a1).bind fun bt288 => ((slot_Release.f k l0 a1).bind fun bt290 => ((sakiaref09_Release.f k l0 a1).bind fun bt294 => (if t277 = true then ((slot_New.f k a3).bind fun t298 => ((sakiaref09_New.f k a3).bind fun t301 => ((sakiaref09_Same.f k t298 t301).bind fun t304 => (if t304 = true then ((slot_Check.f k l0).bind fun t305 => ((sakiaref09_Check.f k l0).bind fun t306 => (if (t305 == t306) = true then ((slot_Ready.f k l0 a1).bind fun t307 => ((sakiaref09_Ready.f k l0 a1).bind fun t308 => (if (t307 == t308) = true then ((sakiaref09_Same.f k bt278.1 bt282.1).bind fun t309 => (if t309 = true then (if bt278.2 = bt282.2 then (if bt286.1 = bt288.1 then (if bt286.2 = bt288.2 then ((sakiaref09_Same.f k bt290.1 bt294.1).bind fun t310 => (if t310 = true then (some (bt290.2 == bt294.2)) else (some false))) else (some false)) else (some false)) else (some false)) else (some false))) else (some false)))) else (some false)))) else (some false))))) else (some false)))))))))
theorem sakialaw09_SlotTells.mono : ∀ a0 a1 a2 a3 k, LeO (sakialaw09_SlotTells.f k a0 a1 a2 a3) (sakialaw09_SlotTells.f (k + 1) a0 a1 a2 a3) := by
 intro a0 a1 a2 a3 k
 unfold sakialaw09_SlotTells.f
 repeat' first
   | (with_reducible exact sakialaw09_awake.mono _)
   | (with_reducible exact sakiaref09_Check.mono _ _)
   | (with_reducible exact sakiaref09_New.mono _ _)
   | (with_reducible exact sakiaref09_Read.mono _ _ _)
   | (with_reducible exact sakiaref09_Ready.mono _ _ _)
   | (with_reducible exact sakiaref09_Release.mono _ _ _)
   | (with_reducible exact sakiaref09_Same.mono _ _ _)
   | (with_reducible exact sakiaref09_Write.mono _ _ _ _)
   | (with_reducible exact slot_Check.mono _ _)
   | (with_reducible exact slot_New.mono _ _)
   | (with_reducible exact slot_Read.mono _ _ _)
   | (with_reducible exact slot_Ready.mono _ _ _)
   | (with_reducible exact slot_Release.mono _ _ _)
   | (with_reducible exact slot_Write.mono _ _ _ _)
   | (with_reducible exact LeO.refl _)
   | (with_reducible exact LeO.none _)
   | (with_reducible refine LeO.ite ?_ ?_)
   | (with_reducible refine LeO.bind ?_ (fun _ => ?_))
   | exact sakialaw09_awake.mono _
   | exact sakiaref09_Check.mono _ _
   | exact sakiaref09_New.mono _ _
   | exact sakiaref09_Read.mono _ _ _
   | exact sakiaref09_Ready.mono _ _ _
   | exact sakiaref09_Release.mono _ _ _
   | exact sakiaref09_Same.mono _ _ _
   | exact sakiaref09_Write.mono _ _ _ _
   | exact slot_Check.mono _ _
   | exact slot_New.mono _ _
   | exact slot_Read.mono _ _ _
   | exact slot_Ready.mono _ _ _
   | exact slot_Release.mono _ _ _
   | exact slot_Write.mono _ _ _ _
   | exact LeO.none _
   | refine LeO.ite ?_ ?_
   | refine LeO.bind ?_ (fun _ => ?_)
set_option maxHeartbeats 8000000 in
set_option maxRecDepth 100000 in
theorem sakialaw09_SlotTells.calls (k : Nat) (A0 : Option Addr) (c0 : Nat) (l0 : List (S49)) (a1 : Int) (a2 : Int) (a3 : Int) (r : Bool) (w : World) (hr0 : Kd.C k49 w A0 l0.length l0) (hc0 : l0.length ≤ c0) (hr_ : r = true) (h : sakialaw09_SlotTells.f k l0 a1 a2 a3 = some r) :
  Calls Try.prog 9 #[.slice A0 l0.length c0, .int .i64 a1, .int .i64 a2, .int .i64 a3] w fun e w' => e = .returned (.bool r) ∧ Below w.heap.size w w' := by
 have HR0 := Aside0.mk hr0
 have HC0 := Aside0.mk hc0
 clear hr0 hc0
 have HB := Aside0.mk (Below.refl w.heap.size w)
 have HR_ := Aside0.mk hr_
 clear hr_
 have H : ((sakialaw09_awake.f k).bind fun t277 => (if (l0.length : Int) > 100 then (some t277) else ((slot_Write.f k l0 a1 a2).bind fun bt278 => ((sakiaref09_Write.f k l0 a1 a2).bind fun bt282 => ((slot_Read.f k l0 a1).bind fun bt286 => ((sakiaref09_Read.f k l0 a1).bind fun bt288 => ((slot_Release.f k l0 a1).bind fun bt290 => ((sakiaref09_Release.f k l0 a1).bind fun bt294 => (if t277 = true then ((slot_New.f k a3).bind fun t298 => ((sakiaref09_New.f k a3).bind fun t301 => ((sakiaref09_Same.f k t298 t301).bind fun t304 => (if t304 = true then ((slot_Check.f k l0).bind fun t305 => ((sakiaref09_Check.f k l0).bind fun t306 => (if (t305 == t306) = true then ((slot_Ready.f k l0 a1).bind fun t307 => ((sakiaref09_Ready.f k l0 a1).bind fun t308 => (if (t307 == t308) = true then ((sakiaref09_Same.f k bt278.1 bt282.1).bind fun t309 => (if t309 = true then (if bt278.2 = bt282.2 then (if bt286.1 = bt288.1 then (if bt286.2 = bt288.2 then ((sakiaref09_Same.f k bt290.1 bt294.1).bind fun t310 => (if t310 = true then (some (bt290.2 == bt294.2)) else (some false))) else (some false)) else (some false)) else (some false)) else (some false))) else (some false)))) else (some false)))) else (some false))))) else (some false)))))))))) = some r := h
 clear h
 replace H := Option.bind_eq_some_iff.mp H
 obtain ⟨t277, A50, H⟩ := H
 replace H : (if (l0.length : Int) > 100 then (some t277) else ((slot_Write.f k l0 a1 a2).bind fun bt278 => ((sakiaref09_Write.f k l0 a1 a2).bind fun bt282 => ((slot_Read.f k l0 a1).bind fun bt286 => ((sakiaref09_Read.f k l0 a1).bind fun bt288 => ((slot_Release.f k l0 a1).bind fun bt290 => ((sakiaref09_Release.f k l0 a1).bind fun bt294 => (if t277 = true then ((slot_New.f k a3).bind fun t298 => ((sakiaref09_New.f k a3).bind fun t301 => ((sakiaref09_Same.f k t298 t301).bind fun t304 => (if t304 = true then ((slot_Check.f k l0).bind fun t305 => ((sakiaref09_Check.f k l0).bind fun t306 => (if (t305 == t306) = true then ((slot_Ready.f k l0 a1).bind fun t307 => ((sakiaref09_Ready.f k l0 a1).bind fun t308 => (if (t307 == t308) = true then ((sakiaref09_Same.f k bt278.1 bt282.1).bind fun t309 => (if t309 = true then (if bt278.2 = bt282.2 then (if bt286.1 = bt288.1 then (if bt286.2 = bt288.2 then ((sakiaref09_Same.f k bt290.1 bt294.1).bind fun t310 => (if t310 = true then (some (bt290.2 == bt294.2)) else (some false))) else (some false)) else (some false)) else (some false)) else (some false))) else (some false)))) else (some false)))) else (some false))))) else (some false))))))))) = some r := H
 have A5 := Aside0.mk A50
 clear A50
 by_cases c6 : (l0.length : Int) > 100
 ·rw [if_pos c6] at H
  have c6b0 : decide (100 < (l0.length : Int)) = true := decide_eq_true c6
  have c6b1 : decide (100 < l0.length) = true := decide_eq_true (by omega)
  clear c6
  obtain rfl := Option.some.inj H
  go_enter Try.func9, Try.ntmps9
  go_wp2_with (first | ((with_reducible refine gate_callee (f := 26) rfl ?_); refine goesL_ (some 22) rfl rfl Try.func26 (by kernel_rfl) rfl #[] rfl (by (try simp only [List.map_toArray, List.map_cons, List.map_nil]); first | done | rfl | (simp only [List.length_drop, List.length_take]; rfl)) ?_; (with_reducible refine (sakialaw09_awake.calls k  t277 _ A5.out).mono ?_); rintro e w7 ⟨rfl, hb⟩; refine ⟨_, rfl, ?_⟩; have n0_ := Aside0.mk (below_step (by repeat (first | (with_reducible first | exact HB.out | apply bA | apply bN | apply bD) | exact HB.out)) hb); clear HB; have HB := n0_; clear n0_; (try clear hb); (try clear hb2); (try clear hk); (try clear hi)))
  go_ret
  exact ⟨by first | rfl | (simp [errW_none, errW_some] <;> rfl) | (simp [*, errW_none, errW_some] <;> rfl), by repeat (first | (with_reducible first | exact HB.out | apply bA | apply bN | apply bD) | exact HB.out)⟩
 ·rw [if_neg c6] at H
  have c6b0 : decide (100 < (l0.length : Int)) = false := decide_eq_false c6
  have c6b1 : decide (100 < l0.length) = false := decide_eq_false (by omega)
  clear c6
  replace H := Option.bind_eq_some_iff.mp H
  obtain ⟨⟨t278, t279⟩, A80, H⟩ := H
  replace H : ((sakiaref09_Write.f k l0 a1 a2).bind fun bt282 => ((slot_Read.f k l0 a1).bind fun bt286 => ((sakiaref09_Read.f k l0 a1).bind fun bt288 => ((slot_Release.f k l0 a1).bind fun bt290 => ((sakiaref09_Release.f k l0 a1).bind fun bt294 => (if t277 = true then ((slot_New.f k a3).bind fun t298 => ((sakiaref09_New.f k a3).bind fun t301 => ((sakiaref09_Same.f k t298 t301).bind fun t304 => (if t304 = true then ((slot_Check.f k l0).bind fun t305 => ((sakiaref09_Check.f k l0).bind fun t306 => (if (t305 == t306) = true then ((slot_Ready.f k l0 a1).bind fun t307 => ((sakiaref09_Ready.f k l0 a1).bind fun t308 => (if (t307 == t308) = true then ((sakiaref09_Same.f k t278 bt282.1).bind fun t309 => (if t309 = true then (if t279 = bt282.2 then (if bt286.1 = bt288.1 then (if bt286.2 = bt288.2 then ((sakiaref09_Same.f k bt290.1 bt294.1).bind fun t310 => (if t310 = true then (some (bt290.2 == bt294.2)) else (some false))) else (some false)) else (some false)) else (some false)) else (some false))) else (some false)))) else (some false)))) else (some false))))) else (some false))))))) = some r := H
  have A8 := Aside0.mk A80
  clear A80
  replace H := Option.bind_eq_some_iff.mp H
  obtain ⟨⟨t282, t285⟩, A90, H⟩ := H
  replace H : ((slot_Read.f k l0 a1).bind fun bt286 => ((sakiaref09_Read.f k l0 a1).bind fun bt288 => ((slot_Release.f k l0 a1).bind fun bt290 => ((sakiaref09_Release.f k l0 a1).bind fun bt294 => (if t277 = true then ((slot_New.f k a3).bind fun t298 => ((sakiaref09_New.f k a3).bind fun t301 => ((sakiaref09_Same.f k t298 t301).bind fun t304 => (if t304 = true then ((slot_Check.f k l0).bind fun t305 => ((sakiaref09_Check.f k l0).bind fun t306 => (if (t305 == t306) = true then ((slot_Ready.f k l0 a1).bind fun t307 => ((sakiaref09_Ready.f k l0 a1).bind fun t308 => (if (t307 == t308) = true then ((sakiaref09_Same.f k t278 t282).bind fun t309 => (if t309 = true then (if t279 = t285 then (if bt286.1 = bt288.1 then (if bt286.2 = bt288.2 then ((sakiaref09_Same.f k bt290.1 bt294.1).bind fun t310 => (if t310 = true then (some (bt290.2 == bt294.2)) else (some false))) else (some false)) else (some false)) else (some false)) else (some false))) else (some false)))) else (some false)))) else (some false))))) else (some false)))))) = some r := H
  have A9 := Aside0.mk A90
  clear A90
  replace H := Option.bind_eq_some_iff.mp H
  obtain ⟨⟨t286, t287⟩, A100, H⟩ := H
  replace H : ((sakiaref09_Read.f k l0 a1).bind fun bt288 => ((slot_Release.f k l0 a1).bind fun bt290 => ((sakiaref09_Release.f k l0 a1).bind fun bt294 => (if t277 = true then ((slot_New.f k a3).bind fun t298 => ((sakiaref09_New.f k a3).bind fun t301 => ((sakiaref09_Same.f k t298 t301).bind fun t304 => (if t304 = true then ((slot_Check.f k l0).bind fun t305 => ((sakiaref09_Check.f k l0).bind fun t306 => (if (t305 == t306) = true then ((slot_Ready.f k l0 a1).bind fun t307 => ((sakiaref09_Ready.f k l0 a1).bind fun t308 => (if (t307 == t308) = true then ((sakiaref09_Same.f k t278 t282).bind fun t309 => (if t309 = true then (if t279 = t285 then (if t286 = bt288.1 then (if t287 = bt288.2 then ((sakiaref09_Same.f k bt290.1 bt294.1).bind fun t310 => (if t310 = true then (some (bt290.2 == bt294.2)) else (some false))) else (some false)) else (some false)) else (some false)) else (some false))) else (some false)))) else (some false)))) else (some false))))) else (some false))))) = some r := H
  have A10 := Aside0.mk A100
  clear A100
  replace H := Option.bind_eq_some_iff.mp H
  obtain ⟨⟨t288, t289⟩, A110, H⟩ := H
  replace H : ((slot_Release.f k l0 a1).bind fun bt290 => ((sakiaref09_Release.f k l0 a1).bind fun bt294 => (if t277 = true then ((slot_New.f k a3).bind fun t298 => ((sakiaref09_New.f k a3).bind fun t301 => ((sakiaref09_Same.f k t298 t301).bind fun t304 => (if t304 = true then ((slot_Check.f k l0).bind fun t305 => ((sakiaref09_Check.f k l0).bind fun t306 => (if (t305 == t306) = true then ((slot_Ready.f k l0 a1).bind fun t307 => ((sakiaref09_Ready.f k l0 a1).bind fun t308 => (if (t307 == t308) = true then ((sakiaref09_Same.f k t278 t282).bind fun t309 => (if t309 = true then (if t279 = t285 then (if t286 = t288 then (if t287 = t289 then ((sakiaref09_Same.f k bt290.1 bt294.1).bind fun t310 => (if t310 = true then (some (bt290.2 == bt294.2)) else (some false))) else (some false)) else (some false)) else (some false)) else (some false))) else (some false)))) else (some false)))) else (some false))))) else (some false)))) = some r := H
  have A11 := Aside0.mk A110
  clear A110
  replace H := Option.bind_eq_some_iff.mp H
  obtain ⟨⟨t290, t291⟩, A120, H⟩ := H
  replace H : ((sakiaref09_Release.f k l0 a1).bind fun bt294 => (if t277 = true then ((slot_New.f k a3).bind fun t298 => ((sakiaref09_New.f k a3).bind fun t301 => ((sakiaref09_Same.f k t298 t301).bind fun t304 => (if t304 = true then ((slot_Check.f k l0).bind fun t305 => ((sakiaref09_Check.f k l0).bind fun t306 => (if (t305 == t306) = true then ((slot_Ready.f k l0 a1).bind fun t307 => ((sakiaref09_Ready.f k l0 a1).bind fun t308 => (if (t307 == t308) = true then ((sakiaref09_Same.f k t278 t282).bind fun t309 => (if t309 = true then (if t279 = t285 then (if t286 = t288 then (if t287 = t289 then ((sakiaref09_Same.f k t290 bt294.1).bind fun t310 => (if t310 = true then (some (t291 == bt294.2)) else (some false))) else (some false)) else (some false)) else (some false)) else (some false))) else (some false)))) else (some false)))) else (some false))))) else (some false))) = some r := H
  have A12 := Aside0.mk A120
  clear A120
  replace H := Option.bind_eq_some_iff.mp H
  obtain ⟨⟨t294, t297⟩, A130, H⟩ := H
  replace H : (if t277 = true then ((slot_New.f k a3).bind fun t298 => ((sakiaref09_New.f k a3).bind fun t301 => ((sakiaref09_Same.f k t298 t301).bind fun t304 => (if t304 = true then ((slot_Check.f k l0).bind fun t305 => ((sakiaref09_Check.f k l0).bind fun t306 => (if (t305 == t306) = true then ((slot_Ready.f k l0 a1).bind fun t307 => ((sakiaref09_Ready.f k l0 a1).bind fun t308 => (if (t307 == t308) = true then ((sakiaref09_Same.f k t278 t282).bind fun t309 => (if t309 = true then (if t279 = t285 then (if t286 = t288 then (if t287 = t289 then ((sakiaref09_Same.f k t290 t294).bind fun t310 => (if t310 = true then (some (t291 == t297)) else (some false))) else (some false)) else (some false)) else (some false)) else (some false))) else (some false)))) else (some false)))) else (some false))))) else (some false)) = some r := H
  have A13 := Aside0.mk A130
  clear A130
  by_cases c14 : t277 = true
  ·subst c14
   have H1 : ((slot_New.f k a3).bind fun t298 => ((sakiaref09_New.f k a3).bind fun t301 => ((sakiaref09_Same.f k t298 t301).bind fun t304 => (if t304 = true then ((slot_Check.f k l0).bind fun t305 => ((sakiaref09_Check.f k l0).bind fun t306 => (if (t305 == t306) = true then ((slot_Ready.f k l0 a1).bind fun t307 => ((sakiaref09_Ready.f k l0 a1).bind fun t308 => (if (t307 == t308) = true then ((sakiaref09_Same.f k t278 t282).bind fun t309 => (if t309 = true then (if t279 = t285 then (if t286 = t288 then (if t287 = t289 then ((sakiaref09_Same.f k t290 t294).bind fun t310 => (if t310 = true then (some (t291 == t297)) else (some false))) else (some false)) else (some false)) else (some false)) else (some false))) else (some false)))) else (some false)))) else (some false))))) = some r := by rw [if_pos rfl] at H; exact H
   clear H
   have H := H1
   clear H1
   replace H := Option.bind_eq_some_iff.mp H
   obtain ⟨t298, A150, H⟩ := H
   replace H : ((sakiaref09_New.f k a3).bind fun t301 => ((sakiaref09_Same.f k t298 t301).bind fun t304 => (if t304 = true then ((slot_Check.f k l0).bind fun t305 => ((sakiaref09_Check.f k l0).bind fun t306 => (if (t305 == t306) = true then ((slot_Ready.f k l0 a1).bind fun t307 => ((sakiaref09_Ready.f k l0 a1).bind fun t308 => (if (t307 == t308) = true then ((sakiaref09_Same.f k t278 t282).bind fun t309 => (if t309 = true then (if t279 = t285 then (if t286 = t288 then (if t287 = t289 then ((sakiaref09_Same.f k t290 t294).bind fun t310 => (if t310 = true then (some (t291 == t297)) else (some false))) else (some false)) else (some false)) else (some false)) else (some false))) else (some false)))) else (some false)))) else (some false)))) = some r := H
   have A15 := Aside0.mk A150
   clear A150
   replace H := Option.bind_eq_some_iff.mp H
   obtain ⟨t301, A160, H⟩ := H
   replace H : ((sakiaref09_Same.f k t298 t301).bind fun t304 => (if t304 = true then ((slot_Check.f k l0).bind fun t305 => ((sakiaref09_Check.f k l0).bind fun t306 => (if (t305 == t306) = true then ((slot_Ready.f k l0 a1).bind fun t307 => ((sakiaref09_Ready.f k l0 a1).bind fun t308 => (if (t307 == t308) = true then ((sakiaref09_Same.f k t278 t282).bind fun t309 => (if t309 = true then (if t279 = t285 then (if t286 = t288 then (if t287 = t289 then ((sakiaref09_Same.f k t290 t294).bind fun t310 => (if t310 = true then (some (t291 == t297)) else (some false))) else (some false)) else (some false)) else (some false)) else (some false))) else (some false)))) else (some false)))) else (some false))) = some r := H
   have A16 := Aside0.mk A160
   clear A160
   replace H := Option.bind_eq_some_iff.mp H
   obtain ⟨t304, A170, H⟩ := H
   replace H : (if t304 = true then ((slot_Check.f k l0).bind fun t305 => ((sakiaref09_Check.f k l0).bind fun t306 => (if (t305 == t306) = true then ((slot_Ready.f k l0 a1).bind fun t307 => ((sakiaref09_Ready.f k l0 a1).bind fun t308 => (if (t307 == t308) = true then ((sakiaref09_Same.f k t278 t282).bind fun t309 => (if t309 = true then (if t279 = t285 then (if t286 = t288 then (if t287 = t289 then ((sakiaref09_Same.f k t290 t294).bind fun t310 => (if t310 = true then (some (t291 == t297)) else (some false))) else (some false)) else (some false)) else (some false)) else (some false))) else (some false)))) else (some false)))) else (some false)) = some r := H
   have A17 := Aside0.mk A170
   clear A170
   by_cases c18 : t304 = true
   ·subst c18
    have H1 : ((slot_Check.f k l0).bind fun t305 => ((sakiaref09_Check.f k l0).bind fun t306 => (if (t305 == t306) = true then ((slot_Ready.f k l0 a1).bind fun t307 => ((sakiaref09_Ready.f k l0 a1).bind fun t308 => (if (t307 == t308) = true then ((sakiaref09_Same.f k t278 t282).bind fun t309 => (if t309 = true then (if t279 = t285 then (if t286 = t288 then (if t287 = t289 then ((sakiaref09_Same.f k t290 t294).bind fun t310 => (if t310 = true then (some (t291 == t297)) else (some false))) else (some false)) else (some false)) else (some false)) else (some false))) else (some false)))) else (some false)))) = some r := by rw [if_pos rfl] at H; exact H
    clear H
    have H := H1
    clear H1
    replace H := Option.bind_eq_some_iff.mp H
    obtain ⟨t305, A190, H⟩ := H
    replace H : ((sakiaref09_Check.f k l0).bind fun t306 => (if (t305 == t306) = true then ((slot_Ready.f k l0 a1).bind fun t307 => ((sakiaref09_Ready.f k l0 a1).bind fun t308 => (if (t307 == t308) = true then ((sakiaref09_Same.f k t278 t282).bind fun t309 => (if t309 = true then (if t279 = t285 then (if t286 = t288 then (if t287 = t289 then ((sakiaref09_Same.f k t290 t294).bind fun t310 => (if t310 = true then (some (t291 == t297)) else (some false))) else (some false)) else (some false)) else (some false)) else (some false))) else (some false)))) else (some false))) = some r := H
    have A19 := Aside0.mk A190
    clear A190
    replace H := Option.bind_eq_some_iff.mp H
    obtain ⟨t306, A200, H⟩ := H
    replace H : (if (t305 == t306) = true then ((slot_Ready.f k l0 a1).bind fun t307 => ((sakiaref09_Ready.f k l0 a1).bind fun t308 => (if (t307 == t308) = true then ((sakiaref09_Same.f k t278 t282).bind fun t309 => (if t309 = true then (if t279 = t285 then (if t286 = t288 then (if t287 = t289 then ((sakiaref09_Same.f k t290 t294).bind fun t310 => (if t310 = true then (some (t291 == t297)) else (some false))) else (some false)) else (some false)) else (some false)) else (some false))) else (some false)))) else (some false)) = some r := H
    have A20 := Aside0.mk A200
    clear A200
    by_cases c21 : (t305 == t306) = true
    ·rw [if_pos c21] at H
     have c21b0 : (t305 == t306) = true := c21
     (try (have c21b1 : decide (t305 = t306) = true := by simpa using c21))
     (try (have c21b2 : (t305 == t306) = true := by simpa using c21))
     clear c21
     replace H := Option.bind_eq_some_iff.mp H
     obtain ⟨t307, A220, H⟩ := H
     replace H : ((sakiaref09_Ready.f k l0 a1).bind fun t308 => (if (t307 == t308) = true then ((sakiaref09_Same.f k t278 t282).bind fun t309 => (if t309 = true then (if t279 = t285 then (if t286 = t288 then (if t287 = t289 then ((sakiaref09_Same.f k t290 t294).bind fun t310 => (if t310 = true then (some (t291 == t297)) else (some false))) else (some false)) else (some false)) else (some false)) else (some false))) else (some false))) = some r := H
     have A22 := Aside0.mk A220
     clear A220
     replace H := Option.bind_eq_some_iff.mp H
     obtain ⟨t308, A230, H⟩ := H
     replace H : (if (t307 == t308) = true then ((sakiaref09_Same.f k t278 t282).bind fun t309 => (if t309 = true then (if t279 = t285 then (if t286 = t288 then (if t287 = t289 then ((sakiaref09_Same.f k t290 t294).bind fun t310 => (if t310 = true then (some (t291 == t297)) else (some false))) else (some false)) else (some false)) else (some false)) else (some false))) else (some false)) = some r := H
     have A23 := Aside0.mk A230
     clear A230
     by_cases c24 : (t307 == t308) = true
     ·rw [if_pos c24] at H
      have c24b0 : (t307 == t308) = true := c24
      (try (have c24b1 : decide (t307 = t308) = true := by simpa using c24))
      (try (have c24b2 : (t307 == t308) = true := by simpa using c24))
      clear c24
      replace H := Option.bind_eq_some_iff.mp H
      obtain ⟨t309, A250, H⟩ := H
      replace H : (if t309 = true then (if t279 = t285 then (if t286 = t288 then (if t287 = t289 then ((sakiaref09_Same.f k t290 t294).bind fun t310 => (if t310 = true then (some (t291 == t297)) else (some false))) else (some false)) else (some false)) else (some false)) else (some false)) = some r := H
      have A25 := Aside0.mk A250
      clear A250
      by_cases c26 : t309 = true
      ·subst c26
       have H1 : (if t279 = t285 then (if t286 = t288 then (if t287 = t289 then ((sakiaref09_Same.f k t290 t294).bind fun t310 => (if t310 = true then (some (t291 == t297)) else (some false))) else (some false)) else (some false)) else (some false)) = some r := by rw [if_pos rfl] at H; exact H
       clear H
       have H := H1
       clear H1
       by_cases c27 : t279 = t285
       ·rw [if_pos c27] at H
        have c27b0 : (t279 == t285) = true := beq_iff_eq.mpr c27
        have c27b1 : (t279 != t285) = false := bne_eq_false_iff_eq.mpr c27
        clear c27
        by_cases c28 : t286 = t288
        ·rw [if_pos c28] at H
         have c28b0 : (t286 == t288) = true := beq_iff_eq.mpr c28
         have c28b1 : (t286 != t288) = false := bne_eq_false_iff_eq.mpr c28
         clear c28
         by_cases c29 : t287 = t289
         ·rw [if_pos c29] at H
          have c29b0 : (t287 == t289) = true := beq_iff_eq.mpr c29
          have c29b1 : (t287 != t289) = false := bne_eq_false_iff_eq.mpr c29
          clear c29
          replace H := Option.bind_eq_some_iff.mp H
          obtain ⟨t310, A300, H⟩ := H
          replace H : (if t310 = true then (some (t291 == t297)) else (some false)) = some r := H
          have A30 := Aside0.mk A300
          clear A300
          by_cases c31 : t310 = true
          ·subst c31
           have H1 : (some (t291 == t297)) = some r := by rw [if_pos rfl] at H; exact H
           clear H
           have H := H1
           clear H1
           obtain rfl := Option.some.inj H
           go_enter Try.func9, Try.ntmps9
           go_wp2_with (first | ((with_reducible refine gate_callee (f := 26) rfl ?_); refine goesL_ (some 22) rfl rfl Try.func26 (by kernel_rfl) rfl #[] rfl (by (try simp only [List.map_toArray, List.map_cons, List.map_nil]); first | done | rfl | (simp only [List.length_drop, List.length_take]; rfl)) ?_; (with_reducible refine (sakialaw09_awake.calls k  true _ A5.out).mono ?_); rintro e w32 ⟨rfl, hb⟩; refine ⟨_, rfl, ?_⟩; have n0_ := Aside0.mk (below_step (by repeat (first | (with_reducible first | exact HB.out | apply bA | apply bN | apply bD) | exact HB.out)) hb); clear HB; have HB := n0_; clear n0_; (try clear hb); (try clear hb2); (try clear hk); (try clear hi)) | ((with_reducible refine gate_callee (f := 27) rfl ?_); refine goesL_ (some 31) rfl rfl Try.func27 (by kernel_rfl) rfl #[.slice A0 l0.length c0, .int .i64 a1, .int .i64 a2] rfl (by (try simp only [List.map_toArray, List.map_cons, List.map_nil]); first | done | rfl | (simp only [List.length_drop, List.length_take]; rfl)) ?_; (with_reducible refine (slot_Write.calls k _ _ l0 a1 a2 t278 t279 _ ?side1 ?side2 A8.out).mono ?_); (case side1 => repeat (first | exact (Kd.C_below HR0.out HB.out) | (with_reducible refine Kd.C_alloc ?_ _) | (with_reducible refine Kd.C_drewN ?_ _) | (with_reducible refine Kd.C_drew ?_))); (case side2 => exact HC0.out); rintro e w33 ⟨v280, rfl, ho0, hb⟩; refine ⟨_, rfl, ?_⟩; have n0_ := Aside0.mk (Kd.R_lower ho0 (below_size (by repeat (first | (with_reducible first | exact HB.out | apply bA | apply bN | apply bD) | exact HB.out)))); have n1_ := Aside0.mk (below_step (by repeat (first | (with_reducible first | exact HB.out | apply bA | apply bN | apply bD) | exact HB.out)) hb); clear HB; have HO281 := n0_; have HB := n1_; clear n0_ n1_; (try clear hb); (try clear hb2); (try clear hk); (try clear hi); (try clear ho0)) | ((with_reducible refine gate_callee (f := 28) rfl ?_); refine goesL_ (some 38) rfl rfl Try.func28 (by kernel_rfl) rfl #[.slice A0 l0.length c0, .int .i64 a1, .int .i64 a2] rfl (by (try simp only [List.map_toArray, List.map_cons, List.map_nil]); first | done | rfl | (simp only [List.length_drop, List.length_take]; rfl)) ?_; (with_reducible refine (sakiaref09_Write.calls k (fun k_ => k_ < w.heap.size) _ _ l0 a1 a2 t282 t285 _ ?side1 A9.out).mono ?_); (case side1 => exact Kd.V_mk HC0.out (Kd.F_below (Kd.C_F k49_heap HR0.out) (by repeat (first | (with_reducible first | exact HB.out | apply bA | apply bN | apply bD) | exact HB.out)))); rintro e w34 ⟨v283, rfl, ho0, hb⟩; refine ⟨_, rfl, ?_⟩; have n0_ := Aside0.mk (Kd.R_below (by (with_reducible repeat (first | apply Kd.R_alloc | apply Kd.R_drewN | apply Kd.R_drew)); exact HO281.out) hb); have n1_ := Aside0.mk (Kd.V_lower (Kd.V_mono (ok' := fun k_ => some k_ ≠ (v280 : Value).ownBlock) ho0 (fun k_ hk_ => Or.elim hk_ (fun hs_ => fun e_ => Nat.not_le.2 hs_ (Kd.R_base HO281.out k_ e_.symm)) (fun hn_ => (Kd.fresh' (Kd.R_lt (by (with_reducible repeat (first | apply Kd.R_alloc | apply Kd.R_drewN | apply Kd.R_drew)); exact HO281.out)) k_ hn_)))) (below_size (by repeat (first | (with_reducible first | exact HB.out | apply bA | apply bN | apply bD) | exact HB.out)))); have n2_ := Aside0.mk (below_step (by repeat (first | (with_reducible first | exact HB.out | apply bA | apply bN | apply bD) | exact HB.out)) hb); clear HO281; clear HB; have HO281 := n0_; have HO284 := n1_; have HB := n2_; clear n0_ n1_ n2_; (try clear hb); (try clear hb2); (try clear hk); (try clear hi); (try clear ho0)) | ((with_reducible refine gate_callee (f := 29) rfl ?_); refine goesL_ (some 44) rfl rfl Try.func29 (by kernel_rfl) rfl #[.slice A0 l0.length c0, .int .i64 a1] rfl (by (try simp only [List.map_toArray, List.map_cons, List.map_nil]); first | done | rfl | (simp only [List.length_drop, List.length_take]; rfl)) ?_; (with_reducible refine (slot_Read.calls k _ _ l0 a1 t286 t287 _ ?side1 ?side2 A10.out).mono ?_); (case side1 => repeat (first | exact (Kd.C_below HR0.out HB.out) | (with_reducible refine Kd.C_alloc ?_ _) | (with_reducible refine Kd.C_drewN ?_ _) | (with_reducible refine Kd.C_drew ?_))); (case side2 => exact HC0.out); rintro e w35 ⟨rfl, hb⟩; refine ⟨_, rfl, ?_⟩; have n0_ := Aside0.mk (Kd.R_below (by (with_reducible repeat (first | apply Kd.R_alloc | apply Kd.R_drewN | apply Kd.R_drew)); exact HO281.out) hb); have n1_ := Aside0.mk (Kd.V_below (by (with_reducible repeat (first | apply Kd.V_alloc | apply Kd.V_drewN | apply Kd.V_drew)); exact HO284.out) hb); have n2_ := Aside0.mk (below_step (by repeat (first | (with_reducible first | exact HB.out | apply bA | apply bN | apply bD) | exact HB.out)) hb); clear HO281; clear HO284; clear HB; have HO281 := n0_; have HO284 := n1_; have HB := n2_; clear n0_ n1_ n2_; (try clear hb); (try clear hb2); (try clear hk); (try clear hi)) | ((with_reducible refine gate_callee (f := 30) rfl ?_); refine goesL_ (some 50) rfl rfl Try.func30 (by kernel_rfl) rfl #[.slice A0 l0.length c0, .int .i64 a1] rfl (by (try simp only [List.map_toArray, List.map_cons, List.map_nil]); first | done | rfl | (simp only [List.length_drop, List.length_take]; rfl)) ?_; (with_reducible refine (sakiaref09_Read.calls k _ _ l0 a1 t288 t289 _ ?side1 ?side2 A11.out).mono ?_); (case side1 => repeat (first | exact (Kd.C_below HR0.out HB.out) | (with_reducible refine Kd.C_alloc ?_ _) | (with_reducible refine Kd.C_drewN ?_ _) | (with_reducible refine Kd.C_drew ?_))); (case side2 => exact HC0.out); rintro e w' ⟨rfl, ⟨nd, rfl⟩⟩; refine ⟨_, rfl, ?_⟩) | ((with_reducible refine gate_callee (f := 31) rfl ?_); refine goesL_ (some 56) rfl rfl Try.func31 (by kernel_rfl) rfl #[.slice A0 l0.length c0, .int .i64 a1] rfl (by (try simp only [List.map_toArray, List.map_cons, List.map_nil]); first | done | rfl | (simp only [List.length_drop, List.length_take]; rfl)) ?_; (with_reducible refine (slot_Release.calls k _ _ l0 a1 t290 t291 _ ?side1 ?side2 A12.out).mono ?_); (case side1 => repeat (first | exact (Kd.C_below HR0.out (by repeat (first | (with_reducible first | exact HB.out | apply bA | apply bN | apply bD) | exact HB.out))) | (with_reducible refine Kd.C_alloc ?_ _) | (with_reducible refine Kd.C_drewN ?_ _) | (with_reducible refine Kd.C_drew ?_))); (case side2 => exact HC0.out); rintro e w36 ⟨v292, rfl, ho0, hb⟩; refine ⟨_, rfl, ?_⟩; have n0_ := Aside0.mk (Kd.R_elder' (by (with_reducible repeat (first | apply Kd.R_alloc | apply Kd.R_drewN | apply Kd.R_drew)); exact HO281.out) (Kd.R_base ho0) hb); have n1_ := Aside0.mk (Kd.V_elder' (by (with_reducible repeat (first | apply Kd.V_alloc | apply Kd.V_drewN | apply Kd.V_drew)); exact HO284.out) (Kd.R_base ho0) hb); have n2_ := Aside0.mk (Kd.R_lower (Kd.R_new' ho0 (Kd.R_lt (by (with_reducible repeat (first | apply Kd.R_alloc | apply Kd.R_drewN | apply Kd.R_drew)); exact HO281.out))) (below_size (by repeat (first | (with_reducible first | exact HB.out | apply bA | apply bN | apply bD) | exact HB.out)))); have n3_ := Aside0.mk (below_step (by repeat (first | (with_reducible first | exact HB.out | apply bA | apply bN | apply bD) | exact HB.out)) hb); clear HO281; clear HO284; clear HB; have HO281 := n0_; have HO284 := n1_; have HO293 := n2_; have HB := n3_; clear n0_ n1_ n2_ n3_; (try clear hb); (try clear hb2); (try clear hk); (try clear hi); (try clear ho0)) | ((with_reducible refine gate_callee (f := 32) rfl ?_); refine goesL_ (some 62) rfl rfl Try.func32 (by kernel_rfl) rfl #[.slice A0 l0.length c0, .int .i64 a1] rfl (by (try simp only [List.map_toArray, List.map_cons, List.map_nil]); first | done | rfl | (simp only [List.length_drop, List.length_take]; rfl)) ?_; (with_reducible refine (sakiaref09_Release.calls k (fun k_ => k_ < w.heap.size) _ _ l0 a1 t294 t297 _ ?side1 A13.out).mono ?_); (case side1 => exact Kd.V_mk HC0.out (Kd.F_below (Kd.C_F k49_heap HR0.out) (by repeat (first | (with_reducible first | exact HB.out | apply bA | apply bN | apply bD) | exact HB.out)))); rintro e w37 ⟨v295, rfl, ho0, hb⟩; refine ⟨_, rfl, ?_⟩; have n0_ := Aside0.mk (Kd.R_below (by (with_reducible repeat (first | apply Kd.R_alloc | apply Kd.R_drewN | apply Kd.R_drew)); exact HO281.out) hb); have n1_ := Aside0.mk (Kd.V_below (by (with_reducible repeat (first | apply Kd.V_alloc | apply Kd.V_drewN | apply Kd.V_drew)); exact HO284.out) hb); have n2_ := Aside0.mk (Kd.R_below (by (with_reducible repeat (first | apply Kd.R_alloc | apply Kd.R_drewN | apply Kd.R_drew)); exact HO293.out) hb); have n3_ := Aside0.mk (Kd.V_lower (Kd.V_mono (ok' := fun k_ => some k_ ≠ (v280 : Value).ownBlock ∧ some k_ ≠ (v292 : Value).ownBlock) ho0 (fun k_ hk_ => ⟨Or.elim hk_ (fun hs_ => fun e_ => Nat.not_le.2 hs_ (Kd.R_base HO281.out k_ e_.symm)) (fun hn_ => (Kd.fresh' (Kd.R_lt (by (with_reducible repeat (first | apply Kd.R_alloc | apply Kd.R_drewN | apply Kd.R_drew)); exact HO281.out)) k_ hn_)), Or.elim hk_ (fun hs_ => fun e_ => Nat.not_le.2 hs_ (Kd.R_base HO293.out k_ e_.symm)) (fun hn_ => (Kd.fresh' (Kd.R_lt (by (with_reducible repeat (first | apply Kd.R_alloc | apply Kd.R_drewN | apply Kd.R_drew)); exact HO293.out)) k_ hn_))⟩)) (below_size (by repeat (first | (with_reducible first | exact HB.out | apply bA | apply bN | apply bD) | exact HB.out)))); have n4_ := Aside0.mk (below_step (by repeat (first | (with_reducible first | exact HB.out | apply bA | apply bN | apply bD) | exact HB.out)) hb); clear HO281; clear HO284; clear HO293; clear HB; have HO281 := n0_; have HO284 := n1_; have HO293 := n2_; have HO296 := n3_; have HB := n4_; clear n0_ n1_ n2_ n3_ n4_; (try clear hb); (try clear hb2); (try clear hk); (try clear hi); (try clear ho0)) | (go_at_call 34; (with_reducible refine (slot_New.calls k a3 t298 _ A15.out).mono ?_); rintro e w38 ⟨v299, rfl, ho0, hb⟩; have n0_ := Aside0.mk (Kd.R_elder' (by (with_reducible repeat (first | apply Kd.R_alloc | apply Kd.R_drewN | apply Kd.R_drew)); exact HO281.out) (Kd.R_base ho0) hb); have n1_ := Aside0.mk (Kd.V_elder' (by (with_reducible repeat (first | apply Kd.V_alloc | apply Kd.V_drewN | apply Kd.V_drew)); exact HO284.out) (Kd.R_base ho0) hb); have n2_ := Aside0.mk (Kd.R_elder' (by (with_reducible repeat (first | apply Kd.R_alloc | apply Kd.R_drewN | apply Kd.R_drew)); exact HO293.out) (Kd.R_base ho0) hb); have n3_ := Aside0.mk (Kd.V_elder' (by (with_reducible repeat (first | apply Kd.V_alloc | apply Kd.V_drewN | apply Kd.V_drew)); exact HO296.out) (Kd.R_base ho0) hb); have n4_ := Aside0.mk (Kd.R_lower (Kd.R_new' (Kd.R_new' ho0 (Kd.R_lt (by (with_reducible repeat (first | apply Kd.R_alloc | apply Kd.R_drewN | apply Kd.R_drew)); exact HO281.out))) (Kd.R_lt (by (with_reducible repeat (first | apply Kd.R_alloc | apply Kd.R_drewN | apply Kd.R_drew)); exact HO293.out))) (below_size (by repeat (first | (with_reducible first | exact HB.out | apply bA | apply bN | apply bD) | exact HB.out)))); have n5_ := Aside0.mk (below_step (by repeat (first | (with_reducible first | exact HB.out | apply bA | apply bN | apply bD) | exact HB.out)) hb); clear HO281; clear HO284; clear HO293; clear HO296; clear HB; have HO281 := n0_; have HO284 := n1_; have HO293 := n2_; have HO296 := n3_; have HO300 := n4_; have HB := n5_; clear n0_ n1_ n2_ n3_ n4_ n5_; (try clear hb); (try clear hb2); (try clear hk); (try clear hi); (try clear ho0)) | (go_at_call 35; (with_reducible refine (sakiaref09_New.calls k a3 t301 _ A16.out).mono ?_); rintro e w39 ⟨v302, rfl, ho0, hb⟩; have n0_ := Aside0.mk (Kd.R_elder' (by (with_reducible repeat (first | apply Kd.R_alloc | apply Kd.R_drewN | apply Kd.R_drew)); exact HO281.out) (Kd.R_base ho0) hb); have n1_ := Aside0.mk (Kd.V_elder' (by (with_reducible repeat (first | apply Kd.V_alloc | apply Kd.V_drewN | apply Kd.V_drew)); exact HO284.out) (Kd.R_base ho0) hb); have n2_ := Aside0.mk (Kd.R_elder' (by (with_reducible repeat (first | apply Kd.R_alloc | apply Kd.R_drewN | apply Kd.R_drew)); exact HO293.out) (Kd.R_base ho0) hb); have n3_ := Aside0.mk (Kd.V_elder' (by (with_reducible repeat (first | apply Kd.V_alloc | apply Kd.V_drewN | apply Kd.V_drew)); exact HO296.out) (Kd.R_base ho0) hb); have n4_ := Aside0.mk (Kd.R_elder' (by (with_reducible repeat (first | apply Kd.R_alloc | apply Kd.R_drewN | apply Kd.R_drew)); exact HO300.out) (Kd.R_base ho0) hb); have n5_ := Aside0.mk (Kd.R_lower (Kd.R_new' (Kd.R_new' (Kd.R_new' ho0 (Kd.R_lt (by (with_reducible repeat (first | apply Kd.R_alloc | apply Kd.R_drewN | apply Kd.R_drew)); exact HO281.out))) (Kd.R_lt (by (with_reducible repeat (first | apply Kd.R_alloc | apply Kd.R_drewN | apply Kd.R_drew)); exact HO293.out))) (Kd.R_lt (by (with_reducible repeat (first | apply Kd.R_alloc | apply Kd.R_drewN | apply Kd.R_drew)); exact HO300.out))) (below_size (by repeat (first | (with_reducible first | exact HB.out | apply bA | apply bN | apply bD) | exact HB.out)))); have n6_ := Aside0.mk (below_step (by repeat (first | (with_reducible first | exact HB.out | apply bA | apply bN | apply bD) | exact HB.out)) hb); clear HO281; clear HO284; clear HO293; clear HO296; clear HO300; clear HB; have HO281 := n0_; have HO284 := n1_; have HO293 := n2_; have HO296 := n3_; have HO300 := n4_; have HO303 := n5_; have HB := n6_; clear n0_ n1_ n2_ n3_ n4_ n5_ n6_; (try clear hb); (try clear hb2); (try clear hk); (try clear hi); (try clear ho0); obtain ⟨Ao40, co40, eo40⟩ := Kd.R_slice HO300.out; subst eo40; obtain ⟨Ao41, co41, eo41⟩ := Kd.R_slice HO303.out; subst eo41) | (go_at_call 33; (with_reducible refine (sakiaref09_Same.calls k _ _ t298 _ _ t301 true _ ?side1 ?side2 ?side3 ?side4 A17.out).mono ?_); (case side1 => repeat (first | exact (Kd.R_reads' HO300.out).2.2 | (with_reducible refine Kd.C_alloc ?_ _) | (with_reducible refine Kd.C_drewN ?_ _) | (with_reducible refine Kd.C_drew ?_))); (case side2 => exact (Kd.R_reads' HO300.out).2.1); (case side3 => repeat (first | exact (Kd.R_reads' HO303.out).2.2 | (with_reducible refine Kd.C_alloc ?_ _) | (with_reducible refine Kd.C_drewN ?_ _) | (with_reducible refine Kd.C_drew ?_))); (case side4 => exact (Kd.R_reads' HO303.out).2.1); rintro e w' ⟨rfl, ⟨nd, rfl⟩⟩) | (go_at_call 36; (with_reducible refine (slot_Check.calls k _ _ l0 t305 _ ?side1 ?side2 A19.out).mono ?_); (case side1 => repeat (first | exact (Kd.C_below HR0.out (by repeat (first | (with_reducible first | exact HB.out | apply bA | apply bN | apply bD) | exact HB.out))) | (with_reducible refine Kd.C_alloc ?_ _) | (with_reducible refine Kd.C_drewN ?_ _) | (with_reducible refine Kd.C_drew ?_))); (case side2 => exact HC0.out); rintro e w42 ⟨rfl, hb⟩; have n0_ := Aside0.mk (Kd.R_below (by (with_reducible repeat (first | apply Kd.R_alloc | apply Kd.R_drewN | apply Kd.R_drew)); exact HO281.out) hb); have n1_ := Aside0.mk (Kd.V_below (by (with_reducible repeat (first | apply Kd.V_alloc | apply Kd.V_drewN | apply Kd.V_drew)); exact HO284.out) hb); have n2_ := Aside0.mk (Kd.R_below (by (with_reducible repeat (first | apply Kd.R_alloc | apply Kd.R_drewN | apply Kd.R_drew)); exact HO293.out) hb); have n3_ := Aside0.mk (Kd.V_below (by (with_reducible repeat (first | apply Kd.V_alloc | apply Kd.V_drewN | apply Kd.V_drew)); exact HO296.out) hb); have n4_ := Aside0.mk (Kd.R_below (by (with_reducible repeat (first | apply Kd.R_alloc | apply Kd.R_drewN | apply Kd.R_drew)); exact HO300.out) hb); have n5_ := Aside0.mk (Kd.R_below (by (with_reducible repeat (first | apply Kd.R_alloc | apply Kd.R_drewN | apply Kd.R_drew)); exact HO303.out) hb); have n6_ := Aside0.mk (below_step (by repeat (first | (with_reducible first | exact HB.out | apply bA | apply bN | apply bD) | exact HB.out)) hb); clear HO281; clear HO284; clear HO293; clear HO296; clear HO300; clear HO303; clear HB; have HO281 := n0_; have HO284 := n1_; have HO293 := n2_; have HO296 := n3_; have HO300 := n4_; have HO303 := n5_; have HB := n6_; clear n0_ n1_ n2_ n3_ n4_ n5_ n6_; (try clear hb); (try clear hb2); (try clear hk); (try clear hi)) | (go_at_call 37; (with_reducible refine (sakiaref09_Check.calls k _ _ l0 t306 _ ?side1 ?side2 A20.out).mono ?_); (case side1 => repeat (first | exact (Kd.C_below HR0.out HB.out) | (with_reducible refine Kd.C_alloc ?_ _) | (with_reducible refine Kd.C_drewN ?_ _) | (with_reducible refine Kd.C_drew ?_))); (case side2 => exact HC0.out); rintro e w' ⟨rfl, ⟨nd, rfl⟩⟩) | (go_at_call 38; (with_reducible refine (slot_Ready.calls k _ _ l0 a1 t307 _ ?side1 ?side2 A22.out).mono ?_); (case side1 => repeat (first | exact (Kd.C_below HR0.out (by repeat (first | (with_reducible first | exact HB.out | apply bA | apply bN | apply bD) | exact HB.out))) | (with_reducible refine Kd.C_alloc ?_ _) | (with_reducible refine Kd.C_drewN ?_ _) | (with_reducible refine Kd.C_drew ?_))); (case side2 => exact HC0.out); rintro e w43 ⟨rfl, hb⟩; have n0_ := Aside0.mk (Kd.R_below (by (with_reducible repeat (first | apply Kd.R_alloc | apply Kd.R_drewN | apply Kd.R_drew)); exact HO281.out) hb); have n1_ := Aside0.mk (Kd.V_below (by (with_reducible repeat (first | apply Kd.V_alloc | apply Kd.V_drewN | apply Kd.V_drew)); exact HO284.out) hb); have n2_ := Aside0.mk (Kd.R_below (by (with_reducible repeat (first | apply Kd.R_alloc | apply Kd.R_drewN | apply Kd.R_drew)); exact HO293.out) hb); have n3_ := Aside0.mk (Kd.V_below (by (with_reducible repeat (first | apply Kd.V_alloc | apply Kd.V_drewN | apply Kd.V_drew)); exact HO296.out) hb); have n4_ := Aside0.mk (Kd.R_below (by (with_reducible repeat (first | apply Kd.R_alloc | apply Kd.R_drewN | apply Kd.R_drew)); exact HO300.out) hb); have n5_ := Aside0.mk (Kd.R_below (by (with_reducible repeat (first | apply Kd.R_alloc | apply Kd.R_drewN | apply Kd.R_drew)); exact HO303.out) hb); have n6_ := Aside0.mk (below_step (by repeat (first | (with_reducible first | exact HB.out | apply bA | apply bN | apply bD) | exact HB.out)) hb); clear HO281; clear HO284; clear HO293; clear HO296; clear HO300; clear HO303; clear HB; have HO281 := n0_; have HO284 := n1_; have HO293 := n2_; have HO296 := n3_; have HO300 := n4_; have HO303 := n5_; have HB := n6_; clear n0_ n1_ n2_ n3_ n4_ n5_ n6_; (try clear hb); (try clear hb2); (try clear hk); (try clear hi)) | (go_at_call 39; (with_reducible refine (sakiaref09_Ready.calls k _ _ l0 a1 t308 _ ?side1 ?side2 A23.out).mono ?_); (case side1 => repeat (first | exact (Kd.C_below HR0.out HB.out) | (with_reducible refine Kd.C_alloc ?_ _) | (with_reducible refine Kd.C_drewN ?_ _) | (with_reducible refine Kd.C_drew ?_))); (case side2 => exact HC0.out); rintro e w' ⟨rfl, ⟨nd, rfl⟩⟩; obtain ⟨Ao44, co44, eo44⟩ := Kd.R_slice HO281.out; subst eo44; obtain ⟨Ao45, co45, eo45⟩ := Kd.V_slice HO284.out; subst eo45) | (go_at_call 33; (with_reducible refine (sakiaref09_Same.calls k _ _ t278 _ _ t282 true _ ?side1 ?side2 ?side3 ?side4 A25.out).mono ?_); (case side1 => repeat (first | exact (Kd.R_reads' HO281.out).2.2 | (with_reducible refine Kd.C_alloc ?_ _) | (with_reducible refine Kd.C_drewN ?_ _) | (with_reducible refine Kd.C_drew ?_))); (case side2 => exact (Kd.R_reads' HO281.out).2.1); (case side3 => repeat (first | exact (Kd.V_reads' HO284.out).2.2 | (with_reducible refine Kd.C_alloc ?_ _) | (with_reducible refine Kd.C_drewN ?_ _) | (with_reducible refine Kd.C_drew ?_))); (case side4 => exact (Kd.V_reads' HO284.out).2.1); rintro e w' ⟨rfl, ⟨nd, rfl⟩⟩; obtain ⟨Ao46, co46, eo46⟩ := Kd.R_slice HO293.out; subst eo46; obtain ⟨Ao47, co47, eo47⟩ := Kd.V_slice HO296.out; subst eo47) | (go_at_call 33; (with_reducible refine (sakiaref09_Same.calls k _ _ t290 _ _ t294 true _ ?side1 ?side2 ?side3 ?side4 A30.out).mono ?_); (case side1 => repeat (first | exact (Kd.R_reads' HO293.out).2.2 | (with_reducible refine Kd.C_alloc ?_ _) | (with_reducible refine Kd.C_drewN ?_ _) | (with_reducible refine Kd.C_drew ?_))); (case side2 => exact (Kd.R_reads' HO293.out).2.1); (case side3 => repeat (first | exact (Kd.V_reads' HO296.out).2.2 | (with_reducible refine Kd.C_alloc ?_ _) | (with_reducible refine Kd.C_drewN ?_ _) | (with_reducible refine Kd.C_drew ?_))); (case side4 => exact (Kd.V_reads' HO296.out).2.1); rintro e w' ⟨rfl, ⟨nd, rfl⟩⟩))
           go_ret
           exact ⟨by first | rfl | (simp [errW_none, errW_some] <;> rfl) | (simp [*, errW_none, errW_some] <;> rfl), by repeat (first | (with_reducible first | exact HB.out | apply bA | apply bN | apply bD) | exact HB.out)⟩
          ·replace c31 := Bool.eq_false_iff.mpr c31
           subst c31
           have H1 : (some false) = some r := by rw [if_neg (show ¬ (false = true) by decide)] at H; exact H
           clear H
           have H := H1
           clear H1
           exact absurd ((Option.some.inj H).trans HR_.out) (by decide)
         ·rw [if_neg c29] at H
          have c29b0 : (t287 == t289) = false := beq_eq_false_iff_ne.mpr c29
          have c29b1 : (t287 != t289) = true := bne_iff_ne.mpr c29
          exact absurd ((Option.some.inj H).trans HR_.out) (by decide)
        ·rw [if_neg c28] at H
         have c28b0 : (t286 == t288) = false := beq_eq_false_iff_ne.mpr c28
         have c28b1 : (t286 != t288) = true := bne_iff_ne.mpr c28
         exact absurd ((Option.some.inj H).trans HR_.out) (by decide)
       ·rw [if_neg c27] at H
        have c27b0 : (t279 == t285) = false := beq_eq_false_iff_ne.mpr c27
        have c27b1 : (t279 != t285) = true := bne_iff_ne.mpr c27
        exact absurd ((Option.some.inj H).trans HR_.out) (by decide)
      ·replace c26 := Bool.eq_false_iff.mpr c26
       subst c26
       have H1 : (some false) = some r := by rw [if_neg (show ¬ (false = true) by decide)] at H; exact H
       clear H
       have H := H1
       clear H1
       exact absurd ((Option.some.inj H).trans HR_.out) (by decide)
     ·rw [if_neg c24] at H
      have c24b0 : (t307 == t308) = false := by simpa using c24
      (try (have c24b1 : decide (t307 = t308) = false := by simpa using c24))
      (try (have c24b2 : (t307 == t308) = false := by simpa using c24))
      (try (have c24b3 : ¬ (t307 = t308) := by simpa using c24))
      clear c24
      exact absurd ((Option.some.inj H).trans HR_.out) (by decide)
    ·rw [if_neg c21] at H
     have c21b0 : (t305 == t306) = false := by simpa using c21
     (try (have c21b1 : decide (t305 = t306) = false := by simpa using c21))
     (try (have c21b2 : (t305 == t306) = false := by simpa using c21))
     (try (have c21b3 : ¬ (t305 = t306) := by simpa using c21))
     clear c21
     exact absurd ((Option.some.inj H).trans HR_.out) (by decide)
   ·replace c18 := Bool.eq_false_iff.mpr c18
    subst c18
    have H1 : (some false) = some r := by rw [if_neg (show ¬ (false = true) by decide)] at H; exact H
    clear H
    have H := H1
    clear H1
    exact absurd ((Option.some.inj H).trans HR_.out) (by decide)
  ·replace c14 := Bool.eq_false_iff.mpr c14
   subst c14
   have H1 : (some false) = some r := by rw [if_neg (show ¬ (false = true) by decide)] at H; exact H
   clear H
   have H := H1
   clear H1
   exact absurd ((Option.some.inj H).trans HR_.out) (by decide)

/-- THE ONE PURE STATEMENT of sakialaw09_SlotTells. -/
def sakialaw09_SlotTells.Pure : Prop := ∀ (l0 : List (S49)) (a1 : Int) (a2 : Int) (a3 : Int), l0.length ≤ maxLen → (∀ y ∈ l0, good49 y) → (Lit.int .i64 a1).wf = true → (Lit.int .i64 a2).wf = true → (Lit.int .i64 a3).wf = true → ∃ k, sakialaw09_SlotTells.f k l0 a1 a2 a3 = some true

end Go.Proofs.Ytlpeklhejjidfaa.PL
