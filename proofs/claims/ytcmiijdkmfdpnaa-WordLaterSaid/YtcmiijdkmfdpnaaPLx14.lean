-- written by this repo's pp.py (the kit's print, turned by wip/patches.py)
import Derived.Test.YtcmiijdkmfdpnaaPLx0
import Derived.Test.YtcmiijdkmfdpnaaPLx3
import Derived.Test.YtcmiijdkmfdpnaaPLx5
namespace Go.Proofs.Ytcmiijdkmfdpnaa.PL
open Go.RowKit Go.Proofs.YtcmiijdkmfdpnaaW.PrintWords Go.Proofs.YtcmiijdkmfdpnaaW.PrintLast Go.Proofs.YtcmiijdkmfdpnaaW.PrintMore
attribute [local go_sem] max2_int min2_int max_two min_two max_three min_three max_four min_four   -- for this text's walks alone
set_option linter.unusedVariables false
set_option linter.unusedSimpArgs false

/-! ### sakialaw08_WordLater: function 8 -/
mutual
def sakialaw08_WordLater.j0 : Nat → Int → Bool → Int → Int → Int → Int → Bool → Bool → Bool → Int → Int → Int → Int → Int → Int → Int → Int → Int → Int → Int → Int → Option (Bool)
 | 0, _, _, _, _, _, _, _, _, _, _, _, _, _, _, _, _, _, _, _, _, _ => none
 | k + 1, x4, x11, x22, x23, x25, x26, x28, x30, x31, x429000, x429001, x429002, x435000, x435001, x435002, x440000, x440001, x440002, x445000, x445001, x445002 => if x23 = x26 then (if (wrap64 (x429000 + (wrap64 (x4)))) = x435000 then (if x23 = 1 then (sakialaw08_WordLater.j1 k x4 x11 x28 x30 x31 ((wrap64 (x22 + (wrap64 (x4)))) == x25) x440000 x440001 x440002 x445000 x445001 x445002) else (sakialaw08_WordLater.j1 k x4 x11 x28 x30 x31 true x440000 x440001 x440002 x445000 x445001 x445002)) else (sakialaw08_WordLater.j1 k x4 x11 x28 x30 x31 false x440000 x440001 x440002 x445000 x445001 x445002)) else (sakialaw08_WordLater.j1 k x4 x11 x28 x30 x31 false x440000 x440001 x440002 x445000 x445001 x445002)
def sakialaw08_WordLater.j1 : Nat → Int → Bool → Bool → Bool → Bool → Bool → Int → Int → Int → Int → Int → Int → Option (Bool)
 | 0, _, _, _, _, _, _, _, _, _, _, _, _ => none
 | k + 1, x4, x11, x28, x30, x31, x32, x440000, x440001, x440002, x445000, x445001, x445002 => if x11 = true then (if x31 = true then (if x32 = true then (if (x28 == x30) = true then (sakialaw08_WordLater.j2 k ((wrap64 (x440000 + (wrap64 (x4)))) == x445000)) else (sakialaw08_WordLater.j2 k false)) else (sakialaw08_WordLater.j2 k false)) else (sakialaw08_WordLater.j2 k false)) else (sakialaw08_WordLater.j2 k false)
def sakialaw08_WordLater.j2 : Nat → Bool → Option (Bool)
 | 0, _ => none
 | k + 1, x10 => some x10
end
def sakialaw08_WordLater.f (k : Nat) (a0 : Int) (a1 : Int) (a2 : Int) (a3 : Int) (a4 : Int) : Option (Bool) := (sakialaw08_awake.f k).bind fun t408 => (if (wrap64 ((wrap64 (1 + (wrap64 (Int.tmod a3 64)))) + 1)) = 0 then (none) else ((word_Accept.f k (wrap64 (a0)) (wrap64 ((wrap64 (a0)) + (Int.tmod (wrap64 (a1)) (wrap64 ((wrap64 (1 + (wrap64 (Int.tmod a3 64)))) + 1))))) (wrap64 (Int.tmod a2 3)) (wrap64 (1 + (wrap64 (Int.tmod a3 64))))).bind fun bt411 => ((word_Accept.f k (wrap64 ((wrap64 (a0)) + (wrap64 (a4)))) (wrap64 ((wrap64 ((wrap64 (a0)) + (Int.tmod (wrap64 (a1)) (wrap64 ((wrap64 (1 + (wrap64 (Int.tmod a3 64)))) + 1))))) + (wrap64 (a4)))) (wrap64 (Int.tmod a2 3)) (wrap64 (1 + (wrap64 (Int.tmod a3 64))))).bind fun bt417 => ((word_Take.f k (wrap64 (a0)) (wrap64 ((wrap64 (a0)) + (Int.tmod (wrap64 (a1)) (wrap64 ((wrap64 (1 + (wrap64 (Int.tmod a3 64)))) + 1))))) (wrap64 (Int.tmod a2 3)) (wrap64 (1 + (wrap64 (Int.tmod a3 64))))).bind fun bt423 => ((word_Take.f k (wrap64 ((wrap64 (a0)) + (wrap64 (a4)))) (wrap64 ((wrap64 ((wrap64 (a0)) + (Int.tmod (wrap64 (a1)) (wrap64 ((wrap64 (1 + (wrap64 (Int.tmod a3 64)))) + 1))))) + (wrap64 (a4)))) (wrap64 (Int.tmod a2 3)) (wrap64 (1 + (wrap64 (Int.tmod a3 64))))).bind fun bt429 => ((word_Evict.f k (wrap64 (a0)) (wrap64 ((wrap64 (a0)) + (Int.tmod (wrap64 (a1)) (wrap64 ((wrap64 (1 + (wrap64 (Int.tmod a3 64)))) + 1))))) (wrap64 (Int.tmod a2 3)) (wrap64 (1 + (wrap64 (Int.tmod a3 64)))) (wrap64 (a0))).bind fun bt435 => ((word_Evict.f k (wrap64 ((wrap64 (a0)) + (wrap64 (a4)))) (wrap64 ((wrap64 ((wrap64 (a0)) + (Int.tmod (wrap64 (a1)) (wrap64 ((wrap64 (1 + (wrap64 (Int.tmod a3 64)))) + 1))))) + (wrap64 (a4)))) (wrap64 (Int.tmod a2 3)) (wrap64 (1 + (wrap64 (Int.tmod a3 64)))) (wrap64 ((wrap64 (a0)) + (wrap64 (a4))))).bind fun bt440 => (if bt411.2.2.2.2 = bt417.2.2.2.2 then (if (wrap64 (bt411.2.1 + (wrap64 (a4)))) = bt417.2.1 then (if bt411.2.2.2.2 = 1 then (sakialaw08_WordLater.j0 k a4 t408 bt423.2.2.2.1 bt423.2.2.2.2 bt429.2.2.2.1 bt429.2.2.2.2 bt435.2.2.2 bt440.2.2.2 ((wrap64 (bt411.2.2.2.1 + (wrap64 (a4)))) == bt417.2.2.2.1) bt423.1 bt423.2.1 bt423.2.2.1 bt429.1 bt429.2.1 bt429.2.2.1 bt435.1 bt435.2.1 bt435.2.2.1 bt440.1 bt440.2.1 bt440.2.2.1) else (sakialaw08_WordLater.j0 k a4 t408 bt423.2.2.2.1 bt423.2.2.2.2 bt429.2.2.2.1 bt429.2.2.2.2 bt435.2.2.2 bt440.2.2.2 true bt423.1 bt423.2.1 bt423.2.2.1 bt429.1 bt429.2.1 bt429.2.2.1 bt435.1 bt435.2.1 bt435.2.2.1 bt440.1 bt440.2.1 bt440.2.2.1)) else (sakialaw08_WordLater.j0 k a4 t408 bt423.2.2.2.1 bt423.2.2.2.2 bt429.2.2.2.1 bt429.2.2.2.2 bt435.2.2.2 bt440.2.2.2 false bt423.1 bt423.2.1 bt423.2.2.1 bt429.1 bt429.2.1 bt429.2.2.1 bt435.1 bt435.2.1 bt435.2.2.1 bt440.1 bt440.2.1 bt440.2.2.1)) else (sakialaw08_WordLater.j0 k a4 t408 bt423.2.2.2.1 bt423.2.2.2.2 bt429.2.2.2.1 bt429.2.2.2.2 bt435.2.2.2 bt440.2.2.2 false bt423.1 bt423.2.1 bt423.2.2.1 bt429.1 bt429.2.1 bt429.2.2.1 bt435.1 bt435.2.1 bt435.2.2.1 bt440.1 bt440.2.1 bt440.2.2.1)))))))))
theorem sakialaw08_WordLater.mono_l : ∀ k, (∀ y0 y1 y2 y3 y4 y5 y6 y7 y8 y9 y10 y11 y12 y13 y14 y15 y16 y17 y18 y19 y20, LeO (sakialaw08_WordLater.j0 k y0 y1 y2 y3 y4 y5 y6 y7 y8 y9 y10 y11 y12 y13 y14 y15 y16 y17 y18 y19 y20) (sakialaw08_WordLater.j0 (k + 1) y0 y1 y2 y3 y4 y5 y6 y7 y8 y9 y10 y11 y12 y13 y14 y15 y16 y17 y18 y19 y20)) ∧ (∀ y0 y1 y2 y3 y4 y5 y6 y7 y8 y9 y10 y11, LeO (sakialaw08_WordLater.j1 k y0 y1 y2 y3 y4 y5 y6 y7 y8 y9 y10 y11) (sakialaw08_WordLater.j1 (k + 1) y0 y1 y2 y3 y4 y5 y6 y7 y8 y9 y10 y11)) ∧ (∀ y0, LeO (sakialaw08_WordLater.j2 k y0) (sakialaw08_WordLater.j2 (k + 1) y0))
 | 0 => ⟨fun _ _ _ _ _ _ _ _ _ _ _ _ _ _ _ _ _ _ _ _ _ r h => by simp [sakialaw08_WordLater.j0] at h, fun _ _ _ _ _ _ _ _ _ _ _ _ r h => by simp [sakialaw08_WordLater.j1] at h, fun _ r h => by simp [sakialaw08_WordLater.j2] at h⟩
 | k + 1 => by
  obtain ⟨ih0, ih1, ih2⟩ := sakialaw08_WordLater.mono_l k
  refine ⟨?_, ?_, ?_⟩
  ·intro y0 y1 y2 y3 y4 y5 y6 y7 y8 y9 y10 y11 y12 y13 y14 y15 y16 y17 y18 y19 y20
   unfold sakialaw08_WordLater.j0
   repeat' first
   | (with_reducible exact ih0 _ _ _ _ _ _ _ _ _ _ _ _ _ _ _ _ _ _ _ _ _)
   | (with_reducible exact ih1 _ _ _ _ _ _ _ _ _ _ _ _)
   | (with_reducible exact ih2 _)
   | (with_reducible exact sakialaw08_awake.mono _)
   | (with_reducible exact word_Accept.mono _ _ _ _ _)
   | (with_reducible exact word_Evict.mono _ _ _ _ _ _)
   | (with_reducible exact word_Take.mono _ _ _ _ _)
   | (with_reducible exact LeO.refl _)
   | (with_reducible exact LeO.none _)
   | (with_reducible refine LeO.ite ?_ ?_)
   | (with_reducible refine LeO.bind ?_ (fun _ => ?_))
   | exact ih0 _ _ _ _ _ _ _ _ _ _ _ _ _ _ _ _ _ _ _ _ _
   | exact ih1 _ _ _ _ _ _ _ _ _ _ _ _
   | exact ih2 _
   | exact sakialaw08_awake.mono _
   | exact word_Accept.mono _ _ _ _ _
   | exact word_Evict.mono _ _ _ _ _ _
   | exact word_Take.mono _ _ _ _ _
   | exact LeO.none _
   | refine LeO.ite ?_ ?_
   | refine LeO.bind ?_ (fun _ => ?_)
  ·intro y0 y1 y2 y3 y4 y5 y6 y7 y8 y9 y10 y11
   unfold sakialaw08_WordLater.j1
   repeat' first
   | (with_reducible exact ih0 _ _ _ _ _ _ _ _ _ _ _ _ _ _ _ _ _ _ _ _ _)
   | (with_reducible exact ih1 _ _ _ _ _ _ _ _ _ _ _ _)
   | (with_reducible exact ih2 _)
   | (with_reducible exact sakialaw08_awake.mono _)
   | (with_reducible exact word_Accept.mono _ _ _ _ _)
   | (with_reducible exact word_Evict.mono _ _ _ _ _ _)
   | (with_reducible exact word_Take.mono _ _ _ _ _)
   | (with_reducible exact LeO.refl _)
   | (with_reducible exact LeO.none _)
   | (with_reducible refine LeO.ite ?_ ?_)
   | (with_reducible refine LeO.bind ?_ (fun _ => ?_))
   | exact ih0 _ _ _ _ _ _ _ _ _ _ _ _ _ _ _ _ _ _ _ _ _
   | exact ih1 _ _ _ _ _ _ _ _ _ _ _ _
   | exact ih2 _
   | exact sakialaw08_awake.mono _
   | exact word_Accept.mono _ _ _ _ _
   | exact word_Evict.mono _ _ _ _ _ _
   | exact word_Take.mono _ _ _ _ _
   | exact LeO.none _
   | refine LeO.ite ?_ ?_
   | refine LeO.bind ?_ (fun _ => ?_)
  ·intro y0
   unfold sakialaw08_WordLater.j2
   repeat' first
   | (with_reducible exact ih0 _ _ _ _ _ _ _ _ _ _ _ _ _ _ _ _ _ _ _ _ _)
   | (with_reducible exact ih1 _ _ _ _ _ _ _ _ _ _ _ _)
   | (with_reducible exact ih2 _)
   | (with_reducible exact sakialaw08_awake.mono _)
   | (with_reducible exact word_Accept.mono _ _ _ _ _)
   | (with_reducible exact word_Evict.mono _ _ _ _ _ _)
   | (with_reducible exact word_Take.mono _ _ _ _ _)
   | (with_reducible exact LeO.refl _)
   | (with_reducible exact LeO.none _)
   | (with_reducible refine LeO.ite ?_ ?_)
   | (with_reducible refine LeO.bind ?_ (fun _ => ?_))
   | exact ih0 _ _ _ _ _ _ _ _ _ _ _ _ _ _ _ _ _ _ _ _ _
   | exact ih1 _ _ _ _ _ _ _ _ _ _ _ _
   | exact ih2 _
   | exact sakialaw08_awake.mono _
   | exact word_Accept.mono _ _ _ _ _
   | exact word_Evict.mono _ _ _ _ _ _
   | exact word_Take.mono _ _ _ _ _
   | exact LeO.none _
   | refine LeO.ite ?_ ?_
   | refine LeO.bind ?_ (fun _ => ?_)
theorem sakialaw08_WordLater.mono : ∀ a0 a1 a2 a3 a4 k, LeO (sakialaw08_WordLater.f k a0 a1 a2 a3 a4) (sakialaw08_WordLater.f (k + 1) a0 a1 a2 a3 a4) := by
 intro a0 a1 a2 a3 a4 k
 obtain ⟨ih0, ih1, ih2⟩ := sakialaw08_WordLater.mono_l k
 unfold sakialaw08_WordLater.f
 repeat' first
   | (with_reducible exact ih0 _ _ _ _ _ _ _ _ _ _ _ _ _ _ _ _ _ _ _ _ _)
   | (with_reducible exact ih1 _ _ _ _ _ _ _ _ _ _ _ _)
   | (with_reducible exact ih2 _)
   | (with_reducible exact sakialaw08_awake.mono _)
   | (with_reducible exact word_Accept.mono _ _ _ _ _)
   | (with_reducible exact word_Evict.mono _ _ _ _ _ _)
   | (with_reducible exact word_Take.mono _ _ _ _ _)
   | (with_reducible exact LeO.refl _)
   | (with_reducible exact LeO.none _)
   | (with_reducible refine LeO.ite ?_ ?_)
   | (with_reducible refine LeO.bind ?_ (fun _ => ?_))
   | exact ih0 _ _ _ _ _ _ _ _ _ _ _ _ _ _ _ _ _ _ _ _ _
   | exact ih1 _ _ _ _ _ _ _ _ _ _ _ _
   | exact ih2 _
   | exact sakialaw08_awake.mono _
   | exact word_Accept.mono _ _ _ _ _
   | exact word_Evict.mono _ _ _ _ _ _
   | exact word_Take.mono _ _ _ _ _
   | exact LeO.none _
   | refine LeO.ite ?_ ?_
   | refine LeO.bind ?_ (fun _ => ?_)
set_option maxHeartbeats 8000000 in
set_option maxRecDepth 100000 in
theorem sakialaw08_WordLater.calls (k : Nat) (a0 : Int) (a1 : Int) (a2 : Int) (a3 : Int) (a4 : Int) (r : Bool) (w : World) (hr_ : r = true) (h : sakialaw08_WordLater.f k a0 a1 a2 a3 a4 = some r) :
  Calls Try.prog 8 #[.int .u32 a0, .int .u8 a1, .int .u8 a2, .int .u8 a3, .int .u32 a4] w fun e w' => e = .returned (.bool r) ∧ Below w.heap.size w w' := by
 have hu23 := Try.underlying23
 have HB := Aside0.mk (Below.refl w.heap.size w)
 have HR_ := Aside0.mk hr_
 clear hr_
 have H : ((sakialaw08_awake.f k).bind fun t408 => (if (wrap64 ((wrap64 (1 + (wrap64 (Int.tmod a3 64)))) + 1)) = 0 then (none) else ((word_Accept.f k (wrap64 (a0)) (wrap64 ((wrap64 (a0)) + (Int.tmod (wrap64 (a1)) (wrap64 ((wrap64 (1 + (wrap64 (Int.tmod a3 64)))) + 1))))) (wrap64 (Int.tmod a2 3)) (wrap64 (1 + (wrap64 (Int.tmod a3 64))))).bind fun bt411 => ((word_Accept.f k (wrap64 ((wrap64 (a0)) + (wrap64 (a4)))) (wrap64 ((wrap64 ((wrap64 (a0)) + (Int.tmod (wrap64 (a1)) (wrap64 ((wrap64 (1 + (wrap64 (Int.tmod a3 64)))) + 1))))) + (wrap64 (a4)))) (wrap64 (Int.tmod a2 3)) (wrap64 (1 + (wrap64 (Int.tmod a3 64))))).bind fun bt417 => ((word_Take.f k (wrap64 (a0)) (wrap64 ((wrap64 (a0)) + (Int.tmod (wrap64 (a1)) (wrap64 ((wrap64 (1 + (wrap64 (Int.tmod a3 64)))) + 1))))) (wrap64 (Int.tmod a2 3)) (wrap64 (1 + (wrap64 (Int.tmod a3 64))))).bind fun bt423 => ((word_Take.f k (wrap64 ((wrap64 (a0)) + (wrap64 (a4)))) (wrap64 ((wrap64 ((wrap64 (a0)) + (Int.tmod (wrap64 (a1)) (wrap64 ((wrap64 (1 + (wrap64 (Int.tmod a3 64)))) + 1))))) + (wrap64 (a4)))) (wrap64 (Int.tmod a2 3)) (wrap64 (1 + (wrap64 (Int.tmod a3 64))))).bind fun bt429 => ((word_Evict.f k (wrap64 (a0)) (wrap64 ((wrap64 (a0)) + (Int.tmod (wrap64 (a1)) (wrap64 ((wrap64 (1 + (wrap64 (Int.tmod a3 64)))) + 1))))) (wrap64 (Int.tmod a2 3)) (wrap64 (1 + (wrap64 (Int.tmod a3 64)))) (wrap64 (a0))).bind fun bt435 => ((word_Evict.f k (wrap64 ((wrap64 (a0)) + (wrap64 (a4)))) (wrap64 ((wrap64 ((wrap64 (a0)) + (Int.tmod (wrap64 (a1)) (wrap64 ((wrap64 (1 + (wrap64 (Int.tmod a3 64)))) + 1))))) + (wrap64 (a4)))) (wrap64 (Int.tmod a2 3)) (wrap64 (1 + (wrap64 (Int.tmod a3 64)))) (wrap64 ((wrap64 (a0)) + (wrap64 (a4))))).bind fun bt440 => (if bt411.2.2.2.2 = bt417.2.2.2.2 then (if (wrap64 (bt411.2.1 + (wrap64 (a4)))) = bt417.2.1 then (if bt411.2.2.2.2 = 1 then (sakialaw08_WordLater.j0 k a4 t408 bt423.2.2.2.1 bt423.2.2.2.2 bt429.2.2.2.1 bt429.2.2.2.2 bt435.2.2.2 bt440.2.2.2 ((wrap64 (bt411.2.2.2.1 + (wrap64 (a4)))) == bt417.2.2.2.1) bt423.1 bt423.2.1 bt423.2.2.1 bt429.1 bt429.2.1 bt429.2.2.1 bt435.1 bt435.2.1 bt435.2.2.1 bt440.1 bt440.2.1 bt440.2.2.1) else (sakialaw08_WordLater.j0 k a4 t408 bt423.2.2.2.1 bt423.2.2.2.2 bt429.2.2.2.1 bt429.2.2.2.2 bt435.2.2.2 bt440.2.2.2 true bt423.1 bt423.2.1 bt423.2.2.1 bt429.1 bt429.2.1 bt429.2.2.1 bt435.1 bt435.2.1 bt435.2.2.1 bt440.1 bt440.2.1 bt440.2.2.1)) else (sakialaw08_WordLater.j0 k a4 t408 bt423.2.2.2.1 bt423.2.2.2.2 bt429.2.2.2.1 bt429.2.2.2.2 bt435.2.2.2 bt440.2.2.2 false bt423.1 bt423.2.1 bt423.2.2.1 bt429.1 bt429.2.1 bt429.2.2.1 bt435.1 bt435.2.1 bt435.2.2.1 bt440.1 bt440.2.1 bt440.2.2.1)) else (sakialaw08_WordLater.j0 k a4 t408 bt423.2.2.2.1 bt423.2.2.2.2 bt429.2.2.2.1 bt429.2.2.2.2 bt435.2.2.2 bt440.2.2.2 false bt423.1 bt423.2.1 bt423.2.2.1 bt429.1 bt429.2.1 bt429.2.2.1 bt435.1 bt435.2.1 bt435.2.2.1 bt440.1 bt440.2.1 bt440.2.2.1)))))))))) = some r := h
 clear h
 replace H := Option.bind_eq_some_iff.mp H
 obtain ⟨t408, A60, H⟩ := H
 replace H : (if (wrap64 ((wrap64 (1 + (wrap64 (Int.tmod a3 64)))) + 1)) = 0 then (none) else ((word_Accept.f k (wrap64 (a0)) (wrap64 ((wrap64 (a0)) + (Int.tmod (wrap64 (a1)) (wrap64 ((wrap64 (1 + (wrap64 (Int.tmod a3 64)))) + 1))))) (wrap64 (Int.tmod a2 3)) (wrap64 (1 + (wrap64 (Int.tmod a3 64))))).bind fun bt411 => ((word_Accept.f k (wrap64 ((wrap64 (a0)) + (wrap64 (a4)))) (wrap64 ((wrap64 ((wrap64 (a0)) + (Int.tmod (wrap64 (a1)) (wrap64 ((wrap64 (1 + (wrap64 (Int.tmod a3 64)))) + 1))))) + (wrap64 (a4)))) (wrap64 (Int.tmod a2 3)) (wrap64 (1 + (wrap64 (Int.tmod a3 64))))).bind fun bt417 => ((word_Take.f k (wrap64 (a0)) (wrap64 ((wrap64 (a0)) + (Int.tmod (wrap64 (a1)) (wrap64 ((wrap64 (1 + (wrap64 (Int.tmod a3 64)))) + 1))))) (wrap64 (Int.tmod a2 3)) (wrap64 (1 + (wrap64 (Int.tmod a3 64))))).bind fun bt423 => ((word_Take.f k (wrap64 ((wrap64 (a0)) + (wrap64 (a4)))) (wrap64 ((wrap64 ((wrap64 (a0)) + (Int.tmod (wrap64 (a1)) (wrap64 ((wrap64 (1 + (wrap64 (Int.tmod a3 64)))) + 1))))) + (wrap64 (a4)))) (wrap64 (Int.tmod a2 3)) (wrap64 (1 + (wrap64 (Int.tmod a3 64))))).bind fun bt429 => ((word_Evict.f k (wrap64 (a0)) (wrap64 ((wrap64 (a0)) + (Int.tmod (wrap64 (a1)) (wrap64 ((wrap64 (1 + (wrap64 (Int.tmod a3 64)))) + 1))))) (wrap64 (Int.tmod a2 3)) (wrap64 (1 + (wrap64 (Int.tmod a3 64)))) (wrap64 (a0))).bind fun bt435 => ((word_Evict.f k (wrap64 ((wrap64 (a0)) + (wrap64 (a4)))) (wrap64 ((wrap64 ((wrap64 (a0)) + (Int.tmod (wrap64 (a1)) (wrap64 ((wrap64 (1 + (wrap64 (Int.tmod a3 64)))) + 1))))) + (wrap64 (a4)))) (wrap64 (Int.tmod a2 3)) (wrap64 (1 + (wrap64 (Int.tmod a3 64)))) (wrap64 ((wrap64 (a0)) + (wrap64 (a4))))).bind fun bt440 => (if bt411.2.2.2.2 = bt417.2.2.2.2 then (if (wrap64 (bt411.2.1 + (wrap64 (a4)))) = bt417.2.1 then (if bt411.2.2.2.2 = 1 then (sakialaw08_WordLater.j0 k a4 t408 bt423.2.2.2.1 bt423.2.2.2.2 bt429.2.2.2.1 bt429.2.2.2.2 bt435.2.2.2 bt440.2.2.2 ((wrap64 (bt411.2.2.2.1 + (wrap64 (a4)))) == bt417.2.2.2.1) bt423.1 bt423.2.1 bt423.2.2.1 bt429.1 bt429.2.1 bt429.2.2.1 bt435.1 bt435.2.1 bt435.2.2.1 bt440.1 bt440.2.1 bt440.2.2.1) else (sakialaw08_WordLater.j0 k a4 t408 bt423.2.2.2.1 bt423.2.2.2.2 bt429.2.2.2.1 bt429.2.2.2.2 bt435.2.2.2 bt440.2.2.2 true bt423.1 bt423.2.1 bt423.2.2.1 bt429.1 bt429.2.1 bt429.2.2.1 bt435.1 bt435.2.1 bt435.2.2.1 bt440.1 bt440.2.1 bt440.2.2.1)) else (sakialaw08_WordLater.j0 k a4 t408 bt423.2.2.2.1 bt423.2.2.2.2 bt429.2.2.2.1 bt429.2.2.2.2 bt435.2.2.2 bt440.2.2.2 false bt423.1 bt423.2.1 bt423.2.2.1 bt429.1 bt429.2.1 bt429.2.2.1 bt435.1 bt435.2.1 bt435.2.2.1 bt440.1 bt440.2.1 bt440.2.2.1)) else (sakialaw08_WordLater.j0 k a4 t408 bt423.2.2.2.1 bt423.2.2.2.2 bt429.2.2.2.1 bt429.2.2.2.2 bt435.2.2.2 bt440.2.2.2 false bt423.1 bt423.2.1 bt423.2.2.1 bt429.1 bt429.2.1 bt429.2.2.1 bt435.1 bt435.2.1 bt435.2.2.1 bt440.1 bt440.2.1 bt440.2.2.1))))))))) = some r := H
 have A6 := Aside0.mk A60
 clear A60
 by_cases c7 : (wrap64 ((wrap64 (1 + (wrap64 (Int.tmod a3 64)))) + 1)) = 0
 ·rw [if_pos c7] at H
  exact absurd H (by simp)
 ·rw [if_neg c7] at H
  have c7b0 : ((wrap64 ((wrap64 (1 + (wrap64 (Int.tmod a3 64)))) + 1)) == 0) = false := beq_eq_false_iff_ne.mpr c7
  have c7b1 : ((wrap64 ((wrap64 (1 + (wrap64 (Int.tmod a3 64)))) + 1)) != 0) = true := bne_iff_ne.mpr c7
  replace H := Option.bind_eq_some_iff.mp H
  obtain ⟨⟨t411, t412, t413, t414, t415⟩, A80, H⟩ := H
  replace H : ((word_Accept.f k (wrap64 ((wrap64 (a0)) + (wrap64 (a4)))) (wrap64 ((wrap64 ((wrap64 (a0)) + (Int.tmod (wrap64 (a1)) (wrap64 ((wrap64 (1 + (wrap64 (Int.tmod a3 64)))) + 1))))) + (wrap64 (a4)))) (wrap64 (Int.tmod a2 3)) (wrap64 (1 + (wrap64 (Int.tmod a3 64))))).bind fun bt417 => ((word_Take.f k (wrap64 (a0)) (wrap64 ((wrap64 (a0)) + (Int.tmod (wrap64 (a1)) (wrap64 ((wrap64 (1 + (wrap64 (Int.tmod a3 64)))) + 1))))) (wrap64 (Int.tmod a2 3)) (wrap64 (1 + (wrap64 (Int.tmod a3 64))))).bind fun bt423 => ((word_Take.f k (wrap64 ((wrap64 (a0)) + (wrap64 (a4)))) (wrap64 ((wrap64 ((wrap64 (a0)) + (Int.tmod (wrap64 (a1)) (wrap64 ((wrap64 (1 + (wrap64 (Int.tmod a3 64)))) + 1))))) + (wrap64 (a4)))) (wrap64 (Int.tmod a2 3)) (wrap64 (1 + (wrap64 (Int.tmod a3 64))))).bind fun bt429 => ((word_Evict.f k (wrap64 (a0)) (wrap64 ((wrap64 (a0)) + (Int.tmod (wrap64 (a1)) (wrap64 ((wrap64 (1 + (wrap64 (Int.tmod a3 64)))) + 1))))) (wrap64 (Int.tmod a2 3)) (wrap64 (1 + (wrap64 (Int.tmod a3 64)))) (wrap64 (a0))).bind fun bt435 => ((word_Evict.f k (wrap64 ((wrap64 (a0)) + (wrap64 (a4)))) (wrap64 ((wrap64 ((wrap64 (a0)) + (Int.tmod (wrap64 (a1)) (wrap64 ((wrap64 (1 + (wrap64 (Int.tmod a3 64)))) + 1))))) + (wrap64 (a4)))) (wrap64 (Int.tmod a2 3)) (wrap64 (1 + (wrap64 (Int.tmod a3 64)))) (wrap64 ((wrap64 (a0)) + (wrap64 (a4))))).bind fun bt440 => (if t415 = bt417.2.2.2.2 then (if (wrap64 (t412 + (wrap64 (a4)))) = bt417.2.1 then (if t415 = 1 then (sakialaw08_WordLater.j0 k a4 t408 bt423.2.2.2.1 bt423.2.2.2.2 bt429.2.2.2.1 bt429.2.2.2.2 bt435.2.2.2 bt440.2.2.2 ((wrap64 (t414 + (wrap64 (a4)))) == bt417.2.2.2.1) bt423.1 bt423.2.1 bt423.2.2.1 bt429.1 bt429.2.1 bt429.2.2.1 bt435.1 bt435.2.1 bt435.2.2.1 bt440.1 bt440.2.1 bt440.2.2.1) else (sakialaw08_WordLater.j0 k a4 t408 bt423.2.2.2.1 bt423.2.2.2.2 bt429.2.2.2.1 bt429.2.2.2.2 bt435.2.2.2 bt440.2.2.2 true bt423.1 bt423.2.1 bt423.2.2.1 bt429.1 bt429.2.1 bt429.2.2.1 bt435.1 bt435.2.1 bt435.2.2.1 bt440.1 bt440.2.1 bt440.2.2.1)) else (sakialaw08_WordLater.j0 k a4 t408 bt423.2.2.2.1 bt423.2.2.2.2 bt429.2.2.2.1 bt429.2.2.2.2 bt435.2.2.2 bt440.2.2.2 false bt423.1 bt423.2.1 bt423.2.2.1 bt429.1 bt429.2.1 bt429.2.2.1 bt435.1 bt435.2.1 bt435.2.2.1 bt440.1 bt440.2.1 bt440.2.2.1)) else (sakialaw08_WordLater.j0 k a4 t408 bt423.2.2.2.1 bt423.2.2.2.2 bt429.2.2.2.1 bt429.2.2.2.2 bt435.2.2.2 bt440.2.2.2 false bt423.1 bt423.2.1 bt423.2.2.1 bt429.1 bt429.2.1 bt429.2.2.1 bt435.1 bt435.2.1 bt435.2.2.1 bt440.1 bt440.2.1 bt440.2.2.1))))))) = some r := H
  have A8 := Aside0.mk A80
  clear A80
  replace H := Option.bind_eq_some_iff.mp H
  obtain ⟨⟨t417, t418, t419, t420, t421⟩, A90, H⟩ := H
  replace H : ((word_Take.f k (wrap64 (a0)) (wrap64 ((wrap64 (a0)) + (Int.tmod (wrap64 (a1)) (wrap64 ((wrap64 (1 + (wrap64 (Int.tmod a3 64)))) + 1))))) (wrap64 (Int.tmod a2 3)) (wrap64 (1 + (wrap64 (Int.tmod a3 64))))).bind fun bt423 => ((word_Take.f k (wrap64 ((wrap64 (a0)) + (wrap64 (a4)))) (wrap64 ((wrap64 ((wrap64 (a0)) + (Int.tmod (wrap64 (a1)) (wrap64 ((wrap64 (1 + (wrap64 (Int.tmod a3 64)))) + 1))))) + (wrap64 (a4)))) (wrap64 (Int.tmod a2 3)) (wrap64 (1 + (wrap64 (Int.tmod a3 64))))).bind fun bt429 => ((word_Evict.f k (wrap64 (a0)) (wrap64 ((wrap64 (a0)) + (Int.tmod (wrap64 (a1)) (wrap64 ((wrap64 (1 + (wrap64 (Int.tmod a3 64)))) + 1))))) (wrap64 (Int.tmod a2 3)) (wrap64 (1 + (wrap64 (Int.tmod a3 64)))) (wrap64 (a0))).bind fun bt435 => ((word_Evict.f k (wrap64 ((wrap64 (a0)) + (wrap64 (a4)))) (wrap64 ((wrap64 ((wrap64 (a0)) + (Int.tmod (wrap64 (a1)) (wrap64 ((wrap64 (1 + (wrap64 (Int.tmod a3 64)))) + 1))))) + (wrap64 (a4)))) (wrap64 (Int.tmod a2 3)) (wrap64 (1 + (wrap64 (Int.tmod a3 64)))) (wrap64 ((wrap64 (a0)) + (wrap64 (a4))))).bind fun bt440 => (if t415 = t421 then (if (wrap64 (t412 + (wrap64 (a4)))) = t418 then (if t415 = 1 then (sakialaw08_WordLater.j0 k a4 t408 bt423.2.2.2.1 bt423.2.2.2.2 bt429.2.2.2.1 bt429.2.2.2.2 bt435.2.2.2 bt440.2.2.2 ((wrap64 (t414 + (wrap64 (a4)))) == t420) bt423.1 bt423.2.1 bt423.2.2.1 bt429.1 bt429.2.1 bt429.2.2.1 bt435.1 bt435.2.1 bt435.2.2.1 bt440.1 bt440.2.1 bt440.2.2.1) else (sakialaw08_WordLater.j0 k a4 t408 bt423.2.2.2.1 bt423.2.2.2.2 bt429.2.2.2.1 bt429.2.2.2.2 bt435.2.2.2 bt440.2.2.2 true bt423.1 bt423.2.1 bt423.2.2.1 bt429.1 bt429.2.1 bt429.2.2.1 bt435.1 bt435.2.1 bt435.2.2.1 bt440.1 bt440.2.1 bt440.2.2.1)) else (sakialaw08_WordLater.j0 k a4 t408 bt423.2.2.2.1 bt423.2.2.2.2 bt429.2.2.2.1 bt429.2.2.2.2 bt435.2.2.2 bt440.2.2.2 false bt423.1 bt423.2.1 bt423.2.2.1 bt429.1 bt429.2.1 bt429.2.2.1 bt435.1 bt435.2.1 bt435.2.2.1 bt440.1 bt440.2.1 bt440.2.2.1)) else (sakialaw08_WordLater.j0 k a4 t408 bt423.2.2.2.1 bt423.2.2.2.2 bt429.2.2.2.1 bt429.2.2.2.2 bt435.2.2.2 bt440.2.2.2 false bt423.1 bt423.2.1 bt423.2.2.1 bt429.1 bt429.2.1 bt429.2.2.1 bt435.1 bt435.2.1 bt435.2.2.1 bt440.1 bt440.2.1 bt440.2.2.1)))))) = some r := H
  have A9 := Aside0.mk A90
  clear A90
  replace H := Option.bind_eq_some_iff.mp H
  obtain ⟨⟨t423, t424, t425, t426, t427⟩, A100, H⟩ := H
  replace H : ((word_Take.f k (wrap64 ((wrap64 (a0)) + (wrap64 (a4)))) (wrap64 ((wrap64 ((wrap64 (a0)) + (Int.tmod (wrap64 (a1)) (wrap64 ((wrap64 (1 + (wrap64 (Int.tmod a3 64)))) + 1))))) + (wrap64 (a4)))) (wrap64 (Int.tmod a2 3)) (wrap64 (1 + (wrap64 (Int.tmod a3 64))))).bind fun bt429 => ((word_Evict.f k (wrap64 (a0)) (wrap64 ((wrap64 (a0)) + (Int.tmod (wrap64 (a1)) (wrap64 ((wrap64 (1 + (wrap64 (Int.tmod a3 64)))) + 1))))) (wrap64 (Int.tmod a2 3)) (wrap64 (1 + (wrap64 (Int.tmod a3 64)))) (wrap64 (a0))).bind fun bt435 => ((word_Evict.f k (wrap64 ((wrap64 (a0)) + (wrap64 (a4)))) (wrap64 ((wrap64 ((wrap64 (a0)) + (Int.tmod (wrap64 (a1)) (wrap64 ((wrap64 (1 + (wrap64 (Int.tmod a3 64)))) + 1))))) + (wrap64 (a4)))) (wrap64 (Int.tmod a2 3)) (wrap64 (1 + (wrap64 (Int.tmod a3 64)))) (wrap64 ((wrap64 (a0)) + (wrap64 (a4))))).bind fun bt440 => (if t415 = t421 then (if (wrap64 (t412 + (wrap64 (a4)))) = t418 then (if t415 = 1 then (sakialaw08_WordLater.j0 k a4 t408 t426 t427 bt429.2.2.2.1 bt429.2.2.2.2 bt435.2.2.2 bt440.2.2.2 ((wrap64 (t414 + (wrap64 (a4)))) == t420) t423 t424 t425 bt429.1 bt429.2.1 bt429.2.2.1 bt435.1 bt435.2.1 bt435.2.2.1 bt440.1 bt440.2.1 bt440.2.2.1) else (sakialaw08_WordLater.j0 k a4 t408 t426 t427 bt429.2.2.2.1 bt429.2.2.2.2 bt435.2.2.2 bt440.2.2.2 true t423 t424 t425 bt429.1 bt429.2.1 bt429.2.2.1 bt435.1 bt435.2.1 bt435.2.2.1 bt440.1 bt440.2.1 bt440.2.2.1)) else (sakialaw08_WordLater.j0 k a4 t408 t426 t427 bt429.2.2.2.1 bt429.2.2.2.2 bt435.2.2.2 bt440.2.2.2 false t423 t424 t425 bt429.1 bt429.2.1 bt429.2.2.1 bt435.1 bt435.2.1 bt435.2.2.1 bt440.1 bt440.2.1 bt440.2.2.1)) else (sakialaw08_WordLater.j0 k a4 t408 t426 t427 bt429.2.2.2.1 bt429.2.2.2.2 bt435.2.2.2 bt440.2.2.2 false t423 t424 t425 bt429.1 bt429.2.1 bt429.2.2.1 bt435.1 bt435.2.1 bt435.2.2.1 bt440.1 bt440.2.1 bt440.2.2.1))))) = some r := H
  have A10 := Aside0.mk A100
  clear A100
  replace H := Option.bind_eq_some_iff.mp H
  obtain ⟨⟨t429, t430, t431, t432, t433⟩, A110, H⟩ := H
  replace H : ((word_Evict.f k (wrap64 (a0)) (wrap64 ((wrap64 (a0)) + (Int.tmod (wrap64 (a1)) (wrap64 ((wrap64 (1 + (wrap64 (Int.tmod a3 64)))) + 1))))) (wrap64 (Int.tmod a2 3)) (wrap64 (1 + (wrap64 (Int.tmod a3 64)))) (wrap64 (a0))).bind fun bt435 => ((word_Evict.f k (wrap64 ((wrap64 (a0)) + (wrap64 (a4)))) (wrap64 ((wrap64 ((wrap64 (a0)) + (Int.tmod (wrap64 (a1)) (wrap64 ((wrap64 (1 + (wrap64 (Int.tmod a3 64)))) + 1))))) + (wrap64 (a4)))) (wrap64 (Int.tmod a2 3)) (wrap64 (1 + (wrap64 (Int.tmod a3 64)))) (wrap64 ((wrap64 (a0)) + (wrap64 (a4))))).bind fun bt440 => (if t415 = t421 then (if (wrap64 (t412 + (wrap64 (a4)))) = t418 then (if t415 = 1 then (sakialaw08_WordLater.j0 k a4 t408 t426 t427 t432 t433 bt435.2.2.2 bt440.2.2.2 ((wrap64 (t414 + (wrap64 (a4)))) == t420) t423 t424 t425 t429 t430 t431 bt435.1 bt435.2.1 bt435.2.2.1 bt440.1 bt440.2.1 bt440.2.2.1) else (sakialaw08_WordLater.j0 k a4 t408 t426 t427 t432 t433 bt435.2.2.2 bt440.2.2.2 true t423 t424 t425 t429 t430 t431 bt435.1 bt435.2.1 bt435.2.2.1 bt440.1 bt440.2.1 bt440.2.2.1)) else (sakialaw08_WordLater.j0 k a4 t408 t426 t427 t432 t433 bt435.2.2.2 bt440.2.2.2 false t423 t424 t425 t429 t430 t431 bt435.1 bt435.2.1 bt435.2.2.1 bt440.1 bt440.2.1 bt440.2.2.1)) else (sakialaw08_WordLater.j0 k a4 t408 t426 t427 t432 t433 bt435.2.2.2 bt440.2.2.2 false t423 t424 t425 t429 t430 t431 bt435.1 bt435.2.1 bt435.2.2.1 bt440.1 bt440.2.1 bt440.2.2.1)))) = some r := H
  have A11 := Aside0.mk A110
  clear A110
  replace H := Option.bind_eq_some_iff.mp H
  obtain ⟨⟨t435, t436, t437, t438⟩, A120, H⟩ := H
  replace H : ((word_Evict.f k (wrap64 ((wrap64 (a0)) + (wrap64 (a4)))) (wrap64 ((wrap64 ((wrap64 (a0)) + (Int.tmod (wrap64 (a1)) (wrap64 ((wrap64 (1 + (wrap64 (Int.tmod a3 64)))) + 1))))) + (wrap64 (a4)))) (wrap64 (Int.tmod a2 3)) (wrap64 (1 + (wrap64 (Int.tmod a3 64)))) (wrap64 ((wrap64 (a0)) + (wrap64 (a4))))).bind fun bt440 => (if t415 = t421 then (if (wrap64 (t412 + (wrap64 (a4)))) = t418 then (if t415 = 1 then (sakialaw08_WordLater.j0 k a4 t408 t426 t427 t432 t433 t438 bt440.2.2.2 ((wrap64 (t414 + (wrap64 (a4)))) == t420) t423 t424 t425 t429 t430 t431 t435 t436 t437 bt440.1 bt440.2.1 bt440.2.2.1) else (sakialaw08_WordLater.j0 k a4 t408 t426 t427 t432 t433 t438 bt440.2.2.2 true t423 t424 t425 t429 t430 t431 t435 t436 t437 bt440.1 bt440.2.1 bt440.2.2.1)) else (sakialaw08_WordLater.j0 k a4 t408 t426 t427 t432 t433 t438 bt440.2.2.2 false t423 t424 t425 t429 t430 t431 t435 t436 t437 bt440.1 bt440.2.1 bt440.2.2.1)) else (sakialaw08_WordLater.j0 k a4 t408 t426 t427 t432 t433 t438 bt440.2.2.2 false t423 t424 t425 t429 t430 t431 t435 t436 t437 bt440.1 bt440.2.1 bt440.2.2.1))) = some r := H
  have A12 := Aside0.mk A120
  clear A120
  replace H := Option.bind_eq_some_iff.mp H
  obtain ⟨⟨t440, t441, t442, t443⟩, A130, H⟩ := H
  replace H : (if t415 = t421 then (if (wrap64 (t412 + (wrap64 (a4)))) = t418 then (if t415 = 1 then (sakialaw08_WordLater.j0 k a4 t408 t426 t427 t432 t433 t438 t443 ((wrap64 (t414 + (wrap64 (a4)))) == t420) t423 t424 t425 t429 t430 t431 t435 t436 t437 t440 t441 t442) else (sakialaw08_WordLater.j0 k a4 t408 t426 t427 t432 t433 t438 t443 true t423 t424 t425 t429 t430 t431 t435 t436 t437 t440 t441 t442)) else (sakialaw08_WordLater.j0 k a4 t408 t426 t427 t432 t433 t438 t443 false t423 t424 t425 t429 t430 t431 t435 t436 t437 t440 t441 t442)) else (sakialaw08_WordLater.j0 k a4 t408 t426 t427 t432 t433 t438 t443 false t423 t424 t425 t429 t430 t431 t435 t436 t437 t440 t441 t442)) = some r := H
  have A13 := Aside0.mk A130
  clear A130
  have HC14 := Aside0.mk H
  clear H
  go_enter Try.func8, Try.ntmps8
  go_upto_region 11 with (first | ((with_reducible refine gate_callee (f := 15) rfl ?_); refine goesL_ (some 33) rfl rfl Try.func15 (by kernel_rfl) rfl #[] rfl (by (try simp only [List.map_toArray, List.map_cons, List.map_nil]); first | done | rfl | (simp only [List.length_drop, List.length_take]; rfl)) ?_; (with_reducible refine (sakialaw08_awake.calls k  t408 _ A6.out).mono ?_); rintro e w15 ⟨rfl, hb⟩; refine ⟨_, rfl, ?_⟩; have n0_ := Aside0.mk (below_step (by repeat (first | (with_reducible first | exact HB.out | apply bA | apply bN | apply bD) | exact HB.out)) hb); clear HB; have HB := n0_; clear n0_; (try clear hb); (try clear hb2); (try clear hk); (try clear hi)) | ((with_reducible refine gate_dst (N := 13) rfl ?_); refine box_event ?hg (N := 13) ?hd (cs := #[.int .i64 0, .int .i64 0, .int .i64 0]) (t := 23) ?hr ?_; (case hd => rfl); (case hg => rfl); (case hr => first | (go_simp; done) | (go_simp; rfl)); intro gb409 hg w16 hbox hb; have n0_ := Aside0.mk (below_step (by repeat (first | (with_reducible first | exact HB.out | apply bA | apply bN | apply bD) | exact HB.out)) hb); have n1_ := Aside0.mk (hbox); have n2_ := Aside0.mk ((by rw [hg]; exact (below_size (by repeat (first | (with_reducible first | exact HB.out | apply bA | apply bN | apply bD) | exact HB.out))) : w.heap.size ≤ gb409)); have n3_ := Aside0.mk ((by rw [hg]; exact (below_size (by repeat (first | (with_reducible first | exact HB.out | apply bA | apply bN | apply bD) | exact HB.out))) : w.heap.size ≤ gb409)); clear HB; have HB := n0_; have BK409 := n1_; have GW409 := n2_; have GE409 := n3_; clear n0_ n1_ n2_ n3_; clear hb hbox hg; obtain ⟨hcz17_0, hcz17_1, hcz17_2, hfz17_0, hfz17_1, hfz17_2⟩ := cells3 (w := w16) (g := gb409) BK409.out) | ((with_reducible refine gate_dst (N := 14) rfl ?_); refine box_event ?hg (N := 14) ?hd (cs := #[.int .i64 0, .int .i64 0, .int .i64 0]) (t := 23) ?hr ?_; (case hd => rfl); (case hg => rfl); (case hr => first | (go_simp; done) | (go_simp; rfl)); intro gb410 hg w18 hbox hb; have n0_ := Aside0.mk (blk_below (g := gb409) (o := .cells #[.int .i64 (wrap64 (a0)), .int .i64 (wrap64 ((wrap64 (a0)) + (Int.tmod (wrap64 (a1)) (wrap64 ((wrap64 (1 + (wrap64 (Int.tmod a3 64)))) + 1))))), .int .i64 (wrap64 (Int.tmod a2 3))] 23 (0, 0)) (by (with_reducible repeat (first | apply kN | apply kD | apply kA)); refine blk_put (cs := #[.int .i64 (wrap64 (a0)), .int .i64 (wrap64 ((wrap64 (a0)) + (Int.tmod (wrap64 (a1)) (wrap64 ((wrap64 (1 + (wrap64 (Int.tmod a3 64)))) + 1))))), .int .i64 0]) ?_ 2 _ rfl; (with_reducible repeat (first | apply kN | apply kD | apply kA)); refine blk_put (cs := #[.int .i64 (wrap64 (a0)), .int .i64 0, .int .i64 0]) ?_ 1 _ rfl; (with_reducible repeat (first | apply kN | apply kD | apply kA)); refine blk_put (cs := #[.int .i64 0, .int .i64 0, .int .i64 0]) ?_ 0 _ rfl; (with_reducible repeat (first | apply kN | apply kD | apply kA)); exact BK409.out) hb); have n1_ := Aside0.mk (below_step (by repeat (first | (with_reducible first | exact HB.out | apply bA | apply bN | apply bD | refine below_set ?_ GE409.out) | exact HB.out)) hb); have n2_ := Aside0.mk (hbox); have n3_ := Aside0.mk ((by rw [hg]; exact (below_size (by repeat (first | (with_reducible first | exact HB.out | apply bA | apply bN | apply bD | refine below_set ?_ GE409.out) | exact HB.out))) : w.heap.size ≤ gb410)); have n4_ := Aside0.mk ((by rw [hg]; exact (below_size (by repeat (first | (with_reducible first | exact HB.out | apply bA | apply bN | apply bD | refine below_set ?_ GE409.out) | exact HB.out))) : w.heap.size ≤ gb410)); have n5_ := Aside0.mk ((by rw [hg]; exact Nat.ne_of_lt (blk_lt (g := gb409) (o := .cells #[.int .i64 (wrap64 (a0)), .int .i64 (wrap64 ((wrap64 (a0)) + (Int.tmod (wrap64 (a1)) (wrap64 ((wrap64 (1 + (wrap64 (Int.tmod a3 64)))) + 1))))), .int .i64 (wrap64 (Int.tmod a2 3))] 23 (0, 0)) (by (with_reducible repeat (first | apply kN | apply kD | apply kA)); refine blk_put (cs := #[.int .i64 (wrap64 (a0)), .int .i64 (wrap64 ((wrap64 (a0)) + (Int.tmod (wrap64 (a1)) (wrap64 ((wrap64 (1 + (wrap64 (Int.tmod a3 64)))) + 1))))), .int .i64 0]) ?_ 2 _ rfl; (with_reducible repeat (first | apply kN | apply kD | apply kA)); refine blk_put (cs := #[.int .i64 (wrap64 (a0)), .int .i64 0, .int .i64 0]) ?_ 1 _ rfl; (with_reducible repeat (first | apply kN | apply kD | apply kA)); refine blk_put (cs := #[.int .i64 0, .int .i64 0, .int .i64 0]) ?_ 0 _ rfl; (with_reducible repeat (first | apply kN | apply kD | apply kA)); exact BK409.out)) : gb409 ≠ gb410)); have n6_ := Aside0.mk ((by rw [hg]; exact Nat.ne_of_gt (blk_lt (g := gb409) (o := .cells #[.int .i64 (wrap64 (a0)), .int .i64 (wrap64 ((wrap64 (a0)) + (Int.tmod (wrap64 (a1)) (wrap64 ((wrap64 (1 + (wrap64 (Int.tmod a3 64)))) + 1))))), .int .i64 (wrap64 (Int.tmod a2 3))] 23 (0, 0)) (by (with_reducible repeat (first | apply kN | apply kD | apply kA)); refine blk_put (cs := #[.int .i64 (wrap64 (a0)), .int .i64 (wrap64 ((wrap64 (a0)) + (Int.tmod (wrap64 (a1)) (wrap64 ((wrap64 (1 + (wrap64 (Int.tmod a3 64)))) + 1))))), .int .i64 0]) ?_ 2 _ rfl; (with_reducible repeat (first | apply kN | apply kD | apply kA)); refine blk_put (cs := #[.int .i64 (wrap64 (a0)), .int .i64 0, .int .i64 0]) ?_ 1 _ rfl; (with_reducible repeat (first | apply kN | apply kD | apply kA)); refine blk_put (cs := #[.int .i64 0, .int .i64 0, .int .i64 0]) ?_ 0 _ rfl; (with_reducible repeat (first | apply kN | apply kD | apply kA)); exact BK409.out)) : gb410 ≠ gb409)); clear BK409; clear HB; have BK409 := n0_; have HB := n1_; have BK410 := n2_; have GW410 := n3_; have GE410 := n4_; have NB409_410 := n5_; have NB410_409 := n6_; clear n0_ n1_ n2_ n3_ n4_ n5_ n6_; clear hb hbox hg; have hnb19 := NB410_409.out; have hnc19 := NB409_410.out; obtain ⟨hcz20_0, hcz20_1, hcz20_2, hfz20_0, hfz20_1, hfz20_2⟩ := cells3 (w := w18) (g := gb410) BK410.out; obtain ⟨hcz21_0, hcz21_1, hcz21_2, hfz21_0, hfz21_1, hfz21_2⟩ := cells3 (w := w18) (g := gb409) BK409.out) | ((with_reducible refine gate_callee (f := 16) rfl ?_); refine goesL_ (some 68) rfl rfl Try.func16 (by kernel_rfl) rfl #[.agg #[.int .i64 (wrap64 (a0)), .int .i64 (wrap64 ((wrap64 (a0)) + (Int.tmod (wrap64 (a1)) (wrap64 ((wrap64 (1 + (wrap64 (Int.tmod a3 64)))) + 1))))), .int .i64 (wrap64 (Int.tmod a2 3))], .int .i64 (wrap64 (1 + (wrap64 (Int.tmod a3 64))))] rfl (by (try simp only [List.map_toArray, List.map_cons, List.map_nil]); first | done | rfl | (simp only [List.length_drop, List.length_take]; rfl)) ?_; (with_reducible refine (word_Accept.calls k (wrap64 (a0)) (wrap64 ((wrap64 (a0)) + (Int.tmod (wrap64 (a1)) (wrap64 ((wrap64 (1 + (wrap64 (Int.tmod a3 64)))) + 1))))) (wrap64 (Int.tmod a2 3)) (wrap64 (1 + (wrap64 (Int.tmod a3 64)))) t411 t412 t413 t414 t415 _ A8.out).mono ?_); rintro e w22 ⟨rfl, hb⟩; refine ⟨_, rfl, ?_⟩; have n0_ := Aside0.mk (blk_below (g := gb409) (o := .cells #[.int .i64 (wrap64 (a0)), .int .i64 (wrap64 ((wrap64 (a0)) + (Int.tmod (wrap64 (a1)) (wrap64 ((wrap64 (1 + (wrap64 (Int.tmod a3 64)))) + 1))))), .int .i64 (wrap64 (Int.tmod a2 3))] 23 (0, 0)) (by (with_reducible repeat (first | apply kN | apply kD | apply kA)); refine blk_far ?_ NB409_410.out _; (with_reducible repeat (first | apply kN | apply kD | apply kA)); refine blk_far ?_ NB409_410.out _; (with_reducible repeat (first | apply kN | apply kD | apply kA)); refine blk_far ?_ NB409_410.out _; (with_reducible repeat (first | apply kN | apply kD | apply kA)); exact BK409.out) hb); have n1_ := Aside0.mk (blk_below (g := gb410) (o := .cells #[.int .i64 (wrap64 ((wrap64 (a0)) + (wrap64 (a4)))), .int .i64 (wrap64 ((wrap64 ((wrap64 (a0)) + (Int.tmod (wrap64 (a1)) (wrap64 ((wrap64 (1 + (wrap64 (Int.tmod a3 64)))) + 1))))) + (wrap64 (a4)))), .int .i64 (wrap64 (Int.tmod a2 3))] 23 (0, 0)) (by (with_reducible repeat (first | apply kN | apply kD | apply kA)); refine blk_put (cs := #[.int .i64 (wrap64 ((wrap64 (a0)) + (wrap64 (a4)))), .int .i64 (wrap64 ((wrap64 ((wrap64 (a0)) + (Int.tmod (wrap64 (a1)) (wrap64 ((wrap64 (1 + (wrap64 (Int.tmod a3 64)))) + 1))))) + (wrap64 (a4)))), .int .i64 0]) ?_ 2 _ rfl; (with_reducible repeat (first | apply kN | apply kD | apply kA)); refine blk_put (cs := #[.int .i64 (wrap64 ((wrap64 (a0)) + (wrap64 (a4)))), .int .i64 0, .int .i64 0]) ?_ 1 _ rfl; (with_reducible repeat (first | apply kN | apply kD | apply kA)); refine blk_put (cs := #[.int .i64 0, .int .i64 0, .int .i64 0]) ?_ 0 _ rfl; (with_reducible repeat (first | apply kN | apply kD | apply kA)); exact BK410.out) hb); have n2_ := Aside0.mk (below_step (by repeat (first | (with_reducible first | exact HB.out | apply bA | apply bN | apply bD | refine below_set ?_ GE409.out | refine below_set ?_ GE410.out) | exact HB.out)) hb); clear BK409; clear BK410; clear HB; have BK409 := n0_; have BK410 := n1_; have HB := n2_; clear n0_ n1_ n2_; (try clear hb); (try clear hb2); (try clear hk); (try clear hi)) | ((with_reducible refine gate_dst (N := 15) rfl ?_); refine box_event ?hg (N := 15) ?hd (cs := #[.int .i64 0, .int .i64 0, .int .i64 0]) (t := 23) ?hr ?_; (case hd => rfl); (case hg => rfl); (case hr => first | (go_simp; done) | (go_simp; rfl)); intro gb416 hg w23 hbox hb; have n0_ := Aside0.mk (blk_below (g := gb409) (o := .cells #[.int .i64 (wrap64 (a0)), .int .i64 (wrap64 ((wrap64 (a0)) + (Int.tmod (wrap64 (a1)) (wrap64 ((wrap64 (1 + (wrap64 (Int.tmod a3 64)))) + 1))))), .int .i64 (wrap64 (Int.tmod a2 3))] 23 (0, 0)) (by (with_reducible repeat (first | apply kN | apply kD | apply kA)); exact BK409.out) hb); have n1_ := Aside0.mk (blk_below (g := gb410) (o := .cells #[.int .i64 (wrap64 ((wrap64 (a0)) + (wrap64 (a4)))), .int .i64 (wrap64 ((wrap64 ((wrap64 (a0)) + (Int.tmod (wrap64 (a1)) (wrap64 ((wrap64 (1 + (wrap64 (Int.tmod a3 64)))) + 1))))) + (wrap64 (a4)))), .int .i64 (wrap64 (Int.tmod a2 3))] 23 (0, 0)) (by (with_reducible repeat (first | apply kN | apply kD | apply kA)); exact BK410.out) hb); have n2_ := Aside0.mk (below_step (by repeat (first | (with_reducible first | exact HB.out | apply bA | apply bN | apply bD | refine below_set ?_ GE409.out | refine below_set ?_ GE410.out) | exact HB.out)) hb); have n3_ := Aside0.mk (hbox); have n4_ := Aside0.mk ((by rw [hg]; exact (below_size (by repeat (first | (with_reducible first | exact HB.out | apply bA | apply bN | apply bD | refine below_set ?_ GE409.out | refine below_set ?_ GE410.out) | exact HB.out))) : w.heap.size ≤ gb416)); have n5_ := Aside0.mk ((by rw [hg]; exact (below_size (by repeat (first | (with_reducible first | exact HB.out | apply bA | apply bN | apply bD | refine below_set ?_ GE409.out | refine below_set ?_ GE410.out) | exact HB.out))) : w.heap.size ≤ gb416)); have n6_ := Aside0.mk ((by rw [hg]; exact Nat.ne_of_lt (blk_lt (g := gb409) (o := .cells #[.int .i64 (wrap64 (a0)), .int .i64 (wrap64 ((wrap64 (a0)) + (Int.tmod (wrap64 (a1)) (wrap64 ((wrap64 (1 + (wrap64 (Int.tmod a3 64)))) + 1))))), .int .i64 (wrap64 (Int.tmod a2 3))] 23 (0, 0)) (by (with_reducible repeat (first | apply kN | apply kD | apply kA)); exact BK409.out)) : gb409 ≠ gb416)); have n7_ := Aside0.mk ((by rw [hg]; exact Nat.ne_of_gt (blk_lt (g := gb409) (o := .cells #[.int .i64 (wrap64 (a0)), .int .i64 (wrap64 ((wrap64 (a0)) + (Int.tmod (wrap64 (a1)) (wrap64 ((wrap64 (1 + (wrap64 (Int.tmod a3 64)))) + 1))))), .int .i64 (wrap64 (Int.tmod a2 3))] 23 (0, 0)) (by (with_reducible repeat (first | apply kN | apply kD | apply kA)); exact BK409.out)) : gb416 ≠ gb409)); have n8_ := Aside0.mk ((by rw [hg]; exact Nat.ne_of_lt (blk_lt (g := gb410) (o := .cells #[.int .i64 (wrap64 ((wrap64 (a0)) + (wrap64 (a4)))), .int .i64 (wrap64 ((wrap64 ((wrap64 (a0)) + (Int.tmod (wrap64 (a1)) (wrap64 ((wrap64 (1 + (wrap64 (Int.tmod a3 64)))) + 1))))) + (wrap64 (a4)))), .int .i64 (wrap64 (Int.tmod a2 3))] 23 (0, 0)) (by (with_reducible repeat (first | apply kN | apply kD | apply kA)); exact BK410.out)) : gb410 ≠ gb416)); have n9_ := Aside0.mk ((by rw [hg]; exact Nat.ne_of_gt (blk_lt (g := gb410) (o := .cells #[.int .i64 (wrap64 ((wrap64 (a0)) + (wrap64 (a4)))), .int .i64 (wrap64 ((wrap64 ((wrap64 (a0)) + (Int.tmod (wrap64 (a1)) (wrap64 ((wrap64 (1 + (wrap64 (Int.tmod a3 64)))) + 1))))) + (wrap64 (a4)))), .int .i64 (wrap64 (Int.tmod a2 3))] 23 (0, 0)) (by (with_reducible repeat (first | apply kN | apply kD | apply kA)); exact BK410.out)) : gb416 ≠ gb410)); clear BK409; clear BK410; clear HB; have BK409 := n0_; have BK410 := n1_; have HB := n2_; have BK416 := n3_; have GW416 := n4_; have GE416 := n5_; have NB409_416 := n6_; have NB416_409 := n7_; have NB410_416 := n8_; have NB416_410 := n9_; clear n0_ n1_ n2_ n3_ n4_ n5_ n6_ n7_ n8_ n9_; clear hb hbox hg; have hnb24 := NB416_409.out; have hnc24 := NB409_416.out; have hnb25 := NB416_410.out; have hnc25 := NB410_416.out; obtain ⟨hcz26_0, hcz26_1, hcz26_2, hfz26_0, hfz26_1, hfz26_2⟩ := cells3 (w := w23) (g := gb416) BK416.out; obtain ⟨hcz27_0, hcz27_1, hcz27_2, hfz27_0, hfz27_1, hfz27_2⟩ := cells3 (w := w23) (g := gb410) BK410.out) | ((with_reducible refine gate_callee (f := 16) rfl ?_); refine goesL_ (some 75) rfl rfl Try.func16 (by kernel_rfl) rfl #[.agg #[.int .i64 (wrap64 ((wrap64 (a0)) + (wrap64 (a4)))), .int .i64 (wrap64 ((wrap64 ((wrap64 (a0)) + (Int.tmod (wrap64 (a1)) (wrap64 ((wrap64 (1 + (wrap64 (Int.tmod a3 64)))) + 1))))) + (wrap64 (a4)))), .int .i64 (wrap64 (Int.tmod a2 3))], .int .i64 (wrap64 (1 + (wrap64 (Int.tmod a3 64))))] rfl (by (try simp only [List.map_toArray, List.map_cons, List.map_nil]); first | done | rfl | (simp only [List.length_drop, List.length_take]; rfl)) ?_; (with_reducible refine (word_Accept.calls k (wrap64 ((wrap64 (a0)) + (wrap64 (a4)))) (wrap64 ((wrap64 ((wrap64 (a0)) + (Int.tmod (wrap64 (a1)) (wrap64 ((wrap64 (1 + (wrap64 (Int.tmod a3 64)))) + 1))))) + (wrap64 (a4)))) (wrap64 (Int.tmod a2 3)) (wrap64 (1 + (wrap64 (Int.tmod a3 64)))) t417 t418 t419 t420 t421 _ A9.out).mono ?_); rintro e w28 ⟨rfl, hb⟩; refine ⟨_, rfl, ?_⟩; have n0_ := Aside0.mk (blk_below (g := gb409) (o := .cells #[.int .i64 (wrap64 (a0)), .int .i64 (wrap64 ((wrap64 (a0)) + (Int.tmod (wrap64 (a1)) (wrap64 ((wrap64 (1 + (wrap64 (Int.tmod a3 64)))) + 1))))), .int .i64 (wrap64 (Int.tmod a2 3))] 23 (0, 0)) (by (with_reducible repeat (first | apply kN | apply kD | apply kA)); refine blk_far ?_ NB409_416.out _; (with_reducible repeat (first | apply kN | apply kD | apply kA)); refine blk_far ?_ NB409_416.out _; (with_reducible repeat (first | apply kN | apply kD | apply kA)); refine blk_far ?_ NB409_416.out _; (with_reducible repeat (first | apply kN | apply kD | apply kA)); exact BK409.out) hb); have n1_ := Aside0.mk (blk_below (g := gb410) (o := .cells #[.int .i64 (wrap64 ((wrap64 (a0)) + (wrap64 (a4)))), .int .i64 (wrap64 ((wrap64 ((wrap64 (a0)) + (Int.tmod (wrap64 (a1)) (wrap64 ((wrap64 (1 + (wrap64 (Int.tmod a3 64)))) + 1))))) + (wrap64 (a4)))), .int .i64 (wrap64 (Int.tmod a2 3))] 23 (0, 0)) (by (with_reducible repeat (first | apply kN | apply kD | apply kA)); refine blk_far ?_ NB410_416.out _; (with_reducible repeat (first | apply kN | apply kD | apply kA)); refine blk_far ?_ NB410_416.out _; (with_reducible repeat (first | apply kN | apply kD | apply kA)); refine blk_far ?_ NB410_416.out _; (with_reducible repeat (first | apply kN | apply kD | apply kA)); exact BK410.out) hb); have n2_ := Aside0.mk (blk_below (g := gb416) (o := .cells #[.int .i64 t411, .int .i64 t412, .int .i64 t413] 23 (0, 0)) (by (with_reducible repeat (first | apply kN | apply kD | apply kA)); refine blk_put (cs := #[.int .i64 t411, .int .i64 t412, .int .i64 0]) ?_ 2 _ rfl; (with_reducible repeat (first | apply kN | apply kD | apply kA)); refine blk_put (cs := #[.int .i64 t411, .int .i64 0, .int .i64 0]) ?_ 1 _ rfl; (with_reducible repeat (first | apply kN | apply kD | apply kA)); refine blk_put (cs := #[.int .i64 0, .int .i64 0, .int .i64 0]) ?_ 0 _ rfl; (with_reducible repeat (first | apply kN | apply kD | apply kA)); exact BK416.out) hb); have n3_ := Aside0.mk (below_step (by repeat (first | (with_reducible first | exact HB.out | apply bA | apply bN | apply bD | refine below_set ?_ GE409.out | refine below_set ?_ GE410.out | refine below_set ?_ GE416.out) | exact HB.out)) hb); clear BK409; clear BK410; clear BK416; clear HB; have BK409 := n0_; have BK410 := n1_; have BK416 := n2_; have HB := n3_; clear n0_ n1_ n2_ n3_; (try clear hb); (try clear hb2); (try clear hk); (try clear hi)) | ((with_reducible refine gate_dst (N := 18) rfl ?_); refine box_event ?hg (N := 18) ?hd (cs := #[.int .i64 0, .int .i64 0, .int .i64 0]) (t := 23) ?hr ?_; (case hd => rfl); (case hg => rfl); (case hr => first | (go_simp; done) | (go_simp; rfl)); intro gb422 hg w29 hbox hb; have n0_ := Aside0.mk (blk_below (g := gb409) (o := .cells #[.int .i64 (wrap64 (a0)), .int .i64 (wrap64 ((wrap64 (a0)) + (Int.tmod (wrap64 (a1)) (wrap64 ((wrap64 (1 + (wrap64 (Int.tmod a3 64)))) + 1))))), .int .i64 (wrap64 (Int.tmod a2 3))] 23 (0, 0)) (by (with_reducible repeat (first | apply kN | apply kD | apply kA)); exact BK409.out) hb); have n1_ := Aside0.mk (blk_below (g := gb410) (o := .cells #[.int .i64 (wrap64 ((wrap64 (a0)) + (wrap64 (a4)))), .int .i64 (wrap64 ((wrap64 ((wrap64 (a0)) + (Int.tmod (wrap64 (a1)) (wrap64 ((wrap64 (1 + (wrap64 (Int.tmod a3 64)))) + 1))))) + (wrap64 (a4)))), .int .i64 (wrap64 (Int.tmod a2 3))] 23 (0, 0)) (by (with_reducible repeat (first | apply kN | apply kD | apply kA)); exact BK410.out) hb); have n2_ := Aside0.mk (blk_below (g := gb416) (o := .cells #[.int .i64 t411, .int .i64 t412, .int .i64 t413] 23 (0, 0)) (by (with_reducible repeat (first | apply kN | apply kD | apply kA)); exact BK416.out) hb); have n3_ := Aside0.mk (below_step (by repeat (first | (with_reducible first | exact HB.out | apply bA | apply bN | apply bD | refine below_set ?_ GE409.out | refine below_set ?_ GE410.out | refine below_set ?_ GE416.out) | exact HB.out)) hb); have n4_ := Aside0.mk (hbox); have n5_ := Aside0.mk ((by rw [hg]; exact (below_size (by repeat (first | (with_reducible first | exact HB.out | apply bA | apply bN | apply bD | refine below_set ?_ GE409.out | refine below_set ?_ GE410.out | refine below_set ?_ GE416.out) | exact HB.out))) : w.heap.size ≤ gb422)); have n6_ := Aside0.mk ((by rw [hg]; exact (below_size (by repeat (first | (with_reducible first | exact HB.out | apply bA | apply bN | apply bD | refine below_set ?_ GE409.out | refine below_set ?_ GE410.out | refine below_set ?_ GE416.out) | exact HB.out))) : w.heap.size ≤ gb422)); have n7_ := Aside0.mk ((by rw [hg]; exact Nat.ne_of_lt (blk_lt (g := gb409) (o := .cells #[.int .i64 (wrap64 (a0)), .int .i64 (wrap64 ((wrap64 (a0)) + (Int.tmod (wrap64 (a1)) (wrap64 ((wrap64 (1 + (wrap64 (Int.tmod a3 64)))) + 1))))), .int .i64 (wrap64 (Int.tmod a2 3))] 23 (0, 0)) (by (with_reducible repeat (first | apply kN | apply kD | apply kA)); exact BK409.out)) : gb409 ≠ gb422)); have n8_ := Aside0.mk ((by rw [hg]; exact Nat.ne_of_gt (blk_lt (g := gb409) (o := .cells #[.int .i64 (wrap64 (a0)), .int .i64 (wrap64 ((wrap64 (a0)) + (Int.tmod (wrap64 (a1)) (wrap64 ((wrap64 (1 + (wrap64 (Int.tmod a3 64)))) + 1))))), .int .i64 (wrap64 (Int.tmod a2 3))] 23 (0, 0)) (by (with_reducible repeat (first | apply kN | apply kD | apply kA)); exact BK409.out)) : gb422 ≠ gb409)); have n9_ := Aside0.mk ((by rw [hg]; exact Nat.ne_of_lt (blk_lt (g := gb410) (o := .cells #[.int .i64 (wrap64 ((wrap64 (a0)) + (wrap64 (a4)))), .int .i64 (wrap64 ((wrap64 ((wrap64 (a0)) + (Int.tmod (wrap64 (a1)) (wrap64 ((wrap64 (1 + (wrap64 (Int.tmod a3 64)))) + 1))))) + (wrap64 (a4)))), .int .i64 (wrap64 (Int.tmod a2 3))] 23 (0, 0)) (by (with_reducible repeat (first | apply kN | apply kD | apply kA)); exact BK410.out)) : gb410 ≠ gb422)); have n10_ := Aside0.mk ((by rw [hg]; exact Nat.ne_of_gt (blk_lt (g := gb410) (o := .cells #[.int .i64 (wrap64 ((wrap64 (a0)) + (wrap64 (a4)))), .int .i64 (wrap64 ((wrap64 ((wrap64 (a0)) + (Int.tmod (wrap64 (a1)) (wrap64 ((wrap64 (1 + (wrap64 (Int.tmod a3 64)))) + 1))))) + (wrap64 (a4)))), .int .i64 (wrap64 (Int.tmod a2 3))] 23 (0, 0)) (by (with_reducible repeat (first | apply kN | apply kD | apply kA)); exact BK410.out)) : gb422 ≠ gb410)); have n11_ := Aside0.mk ((by rw [hg]; exact Nat.ne_of_lt (blk_lt (g := gb416) (o := .cells #[.int .i64 t411, .int .i64 t412, .int .i64 t413] 23 (0, 0)) (by (with_reducible repeat (first | apply kN | apply kD | apply kA)); exact BK416.out)) : gb416 ≠ gb422)); have n12_ := Aside0.mk ((by rw [hg]; exact Nat.ne_of_gt (blk_lt (g := gb416) (o := .cells #[.int .i64 t411, .int .i64 t412, .int .i64 t413] 23 (0, 0)) (by (with_reducible repeat (first | apply kN | apply kD | apply kA)); exact BK416.out)) : gb422 ≠ gb416)); clear BK409; clear BK410; clear BK416; clear HB; have BK409 := n0_; have BK410 := n1_; have BK416 := n2_; have HB := n3_; have BK422 := n4_; have GW422 := n5_; have GE422 := n6_; have NB409_422 := n7_; have NB422_409 := n8_; have NB410_422 := n9_; have NB422_410 := n10_; have NB416_422 := n11_; have NB422_416 := n12_; clear n0_ n1_ n2_ n3_ n4_ n5_ n6_ n7_ n8_ n9_ n10_ n11_ n12_; clear hb hbox hg; have hnb30 := NB422_409.out; have hnc30 := NB409_422.out; have hnb31 := NB422_410.out; have hnc31 := NB410_422.out; have hnb32 := NB422_416.out; have hnc32 := NB416_422.out; obtain ⟨hcz33_0, hcz33_1, hcz33_2, hfz33_0, hfz33_1, hfz33_2⟩ := cells3 (w := w29) (g := gb422) BK422.out; obtain ⟨hcz34_0, hcz34_1, hcz34_2, hfz34_0, hfz34_1, hfz34_2⟩ := cells3 (w := w29) (g := gb409) BK409.out) | ((with_reducible refine gate_callee (f := 18) rfl ?_); refine goesL_ (some 82) rfl rfl Try.func18 (by kernel_rfl) rfl #[.agg #[.int .i64 (wrap64 (a0)), .int .i64 (wrap64 ((wrap64 (a0)) + (Int.tmod (wrap64 (a1)) (wrap64 ((wrap64 (1 + (wrap64 (Int.tmod a3 64)))) + 1))))), .int .i64 (wrap64 (Int.tmod a2 3))], .int .i64 (wrap64 (1 + (wrap64 (Int.tmod a3 64))))] rfl (by (try simp only [List.map_toArray, List.map_cons, List.map_nil]); first | done | rfl | (simp only [List.length_drop, List.length_take]; rfl)) ?_; (with_reducible refine (word_Take.calls k (wrap64 (a0)) (wrap64 ((wrap64 (a0)) + (Int.tmod (wrap64 (a1)) (wrap64 ((wrap64 (1 + (wrap64 (Int.tmod a3 64)))) + 1))))) (wrap64 (Int.tmod a2 3)) (wrap64 (1 + (wrap64 (Int.tmod a3 64)))) t423 t424 t425 t426 t427 _ A10.out).mono ?_); rintro e w35 ⟨rfl, hb⟩; refine ⟨_, rfl, ?_⟩; have n0_ := Aside0.mk (blk_below (g := gb409) (o := .cells #[.int .i64 (wrap64 (a0)), .int .i64 (wrap64 ((wrap64 (a0)) + (Int.tmod (wrap64 (a1)) (wrap64 ((wrap64 (1 + (wrap64 (Int.tmod a3 64)))) + 1))))), .int .i64 (wrap64 (Int.tmod a2 3))] 23 (0, 0)) (by (with_reducible repeat (first | apply kN | apply kD | apply kA)); refine blk_far ?_ NB409_422.out _; (with_reducible repeat (first | apply kN | apply kD | apply kA)); refine blk_far ?_ NB409_422.out _; (with_reducible repeat (first | apply kN | apply kD | apply kA)); refine blk_far ?_ NB409_422.out _; (with_reducible repeat (first | apply kN | apply kD | apply kA)); exact BK409.out) hb); have n1_ := Aside0.mk (blk_below (g := gb410) (o := .cells #[.int .i64 (wrap64 ((wrap64 (a0)) + (wrap64 (a4)))), .int .i64 (wrap64 ((wrap64 ((wrap64 (a0)) + (Int.tmod (wrap64 (a1)) (wrap64 ((wrap64 (1 + (wrap64 (Int.tmod a3 64)))) + 1))))) + (wrap64 (a4)))), .int .i64 (wrap64 (Int.tmod a2 3))] 23 (0, 0)) (by (with_reducible repeat (first | apply kN | apply kD | apply kA)); refine blk_far ?_ NB410_422.out _; (with_reducible repeat (first | apply kN | apply kD | apply kA)); refine blk_far ?_ NB410_422.out _; (with_reducible repeat (first | apply kN | apply kD | apply kA)); refine blk_far ?_ NB410_422.out _; (with_reducible repeat (first | apply kN | apply kD | apply kA)); exact BK410.out) hb); have n2_ := Aside0.mk (blk_below (g := gb416) (o := .cells #[.int .i64 t411, .int .i64 t412, .int .i64 t413] 23 (0, 0)) (by (with_reducible repeat (first | apply kN | apply kD | apply kA)); refine blk_far ?_ NB416_422.out _; (with_reducible repeat (first | apply kN | apply kD | apply kA)); refine blk_far ?_ NB416_422.out _; (with_reducible repeat (first | apply kN | apply kD | apply kA)); refine blk_far ?_ NB416_422.out _; (with_reducible repeat (first | apply kN | apply kD | apply kA)); exact BK416.out) hb); have n3_ := Aside0.mk (blk_below (g := gb422) (o := .cells #[.int .i64 t417, .int .i64 t418, .int .i64 t419] 23 (0, 0)) (by (with_reducible repeat (first | apply kN | apply kD | apply kA)); refine blk_put (cs := #[.int .i64 t417, .int .i64 t418, .int .i64 0]) ?_ 2 _ rfl; (with_reducible repeat (first | apply kN | apply kD | apply kA)); refine blk_put (cs := #[.int .i64 t417, .int .i64 0, .int .i64 0]) ?_ 1 _ rfl; (with_reducible repeat (first | apply kN | apply kD | apply kA)); refine blk_put (cs := #[.int .i64 0, .int .i64 0, .int .i64 0]) ?_ 0 _ rfl; (with_reducible repeat (first | apply kN | apply kD | apply kA)); exact BK422.out) hb); have n4_ := Aside0.mk (below_step (by repeat (first | (with_reducible first | exact HB.out | apply bA | apply bN | apply bD | refine below_set ?_ GE409.out | refine below_set ?_ GE410.out | refine below_set ?_ GE416.out | refine below_set ?_ GE422.out) | exact HB.out)) hb); clear BK409; clear BK410; clear BK416; clear BK422; clear HB; have BK409 := n0_; have BK410 := n1_; have BK416 := n2_; have BK422 := n3_; have HB := n4_; clear n0_ n1_ n2_ n3_ n4_; (try clear hb); (try clear hb2); (try clear hk); (try clear hi)) | ((with_reducible refine gate_dst (N := 21) rfl ?_); refine box_event ?hg (N := 21) ?hd (cs := #[.int .i64 0, .int .i64 0, .int .i64 0]) (t := 23) ?hr ?_; (case hd => rfl); (case hg => rfl); (case hr => first | (go_simp; done) | (go_simp; rfl)); intro gb428 hg w36 hbox hb; have n0_ := Aside0.mk (blk_below (g := gb409) (o := .cells #[.int .i64 (wrap64 (a0)), .int .i64 (wrap64 ((wrap64 (a0)) + (Int.tmod (wrap64 (a1)) (wrap64 ((wrap64 (1 + (wrap64 (Int.tmod a3 64)))) + 1))))), .int .i64 (wrap64 (Int.tmod a2 3))] 23 (0, 0)) (by (with_reducible repeat (first | apply kN | apply kD | apply kA)); exact BK409.out) hb); have n1_ := Aside0.mk (blk_below (g := gb410) (o := .cells #[.int .i64 (wrap64 ((wrap64 (a0)) + (wrap64 (a4)))), .int .i64 (wrap64 ((wrap64 ((wrap64 (a0)) + (Int.tmod (wrap64 (a1)) (wrap64 ((wrap64 (1 + (wrap64 (Int.tmod a3 64)))) + 1))))) + (wrap64 (a4)))), .int .i64 (wrap64 (Int.tmod a2 3))] 23 (0, 0)) (by (with_reducible repeat (first | apply kN | apply kD | apply kA)); exact BK410.out) hb); have n2_ := Aside0.mk (blk_below (g := gb416) (o := .cells #[.int .i64 t411, .int .i64 t412, .int .i64 t413] 23 (0, 0)) (by (with_reducible repeat (first | apply kN | apply kD | apply kA)); exact BK416.out) hb); have n3_ := Aside0.mk (blk_below (g := gb422) (o := .cells #[.int .i64 t417, .int .i64 t418, .int .i64 t419] 23 (0, 0)) (by (with_reducible repeat (first | apply kN | apply kD | apply kA)); exact BK422.out) hb); have n4_ := Aside0.mk (below_step (by repeat (first | (with_reducible first | exact HB.out | apply bA | apply bN | apply bD | refine below_set ?_ GE409.out | refine below_set ?_ GE410.out | refine below_set ?_ GE416.out | refine below_set ?_ GE422.out) | exact HB.out)) hb); have n5_ := Aside0.mk (hbox); have n6_ := Aside0.mk ((by rw [hg]; exact (below_size (by repeat (first | (with_reducible first | exact HB.out | apply bA | apply bN | apply bD | refine below_set ?_ GE409.out | refine below_set ?_ GE410.out | refine below_set ?_ GE416.out | refine below_set ?_ GE422.out) | exact HB.out))) : w.heap.size ≤ gb428)); have n7_ := Aside0.mk ((by rw [hg]; exact (below_size (by repeat (first | (with_reducible first | exact HB.out | apply bA | apply bN | apply bD | refine below_set ?_ GE409.out | refine below_set ?_ GE410.out | refine below_set ?_ GE416.out | refine below_set ?_ GE422.out) | exact HB.out))) : w.heap.size ≤ gb428)); have n8_ := Aside0.mk ((by rw [hg]; exact Nat.ne_of_lt (blk_lt (g := gb409) (o := .cells #[.int .i64 (wrap64 (a0)), .int .i64 (wrap64 ((wrap64 (a0)) + (Int.tmod (wrap64 (a1)) (wrap64 ((wrap64 (1 + (wrap64 (Int.tmod a3 64)))) + 1))))), .int .i64 (wrap64 (Int.tmod a2 3))] 23 (0, 0)) (by (with_reducible repeat (first | apply kN | apply kD | apply kA)); exact BK409.out)) : gb409 ≠ gb428)); have n9_ := Aside0.mk ((by rw [hg]; exact Nat.ne_of_gt (blk_lt (g := gb409) (o := .cells #[.int .i64 (wrap64 (a0)), .int .i64 (wrap64 ((wrap64 (a0)) + (Int.tmod (wrap64 (a1)) (wrap64 ((wrap64 (1 + (wrap64 (Int.tmod a3 64)))) + 1))))), .int .i64 (wrap64 (Int.tmod a2 3))] 23 (0, 0)) (by (with_reducible repeat (first | apply kN | apply kD | apply kA)); exact BK409.out)) : gb428 ≠ gb409)); have n10_ := Aside0.mk ((by rw [hg]; exact Nat.ne_of_lt (blk_lt (g := gb410) (o := .cells #[.int .i64 (wrap64 ((wrap64 (a0)) + (wrap64 (a4)))), .int .i64 (wrap64 ((wrap64 ((wrap64 (a0)) + (Int.tmod (wrap64 (a1)) (wrap64 ((wrap64 (1 + (wrap64 (Int.tmod a3 64)))) + 1))))) + (wrap64 (a4)))), .int .i64 (wrap64 (Int.tmod a2 3))] 23 (0, 0)) (by (with_reducible repeat (first | apply kN | apply kD | apply kA)); exact BK410.out)) : gb410 ≠ gb428)); have n11_ := Aside0.mk ((by rw [hg]; exact Nat.ne_of_gt (blk_lt (g := gb410) (o := .cells #[.int .i64 (wrap64 ((wrap64 (a0)) + (wrap64 (a4)))), .int .i64 (wrap64 ((wrap64 ((wrap64 (a0)) + (Int.tmod (wrap64 (a1)) (wrap64 ((wrap64 (1 + (wrap64 (Int.tmod a3 64)))) + 1))))) + (wrap64 (a4)))), .int .i64 (wrap64 (Int.tmod a2 3))] 23 (0, 0)) (by (with_reducible repeat (first | apply kN | apply kD | apply kA)); exact BK410.out)) : gb428 ≠ gb410)); have n12_ := Aside0.mk ((by rw [hg]; exact Nat.ne_of_lt (blk_lt (g := gb416) (o := .cells #[.int .i64 t411, .int .i64 t412, .int .i64 t413] 23 (0, 0)) (by (with_reducible repeat (first | apply kN | apply kD | apply kA)); exact BK416.out)) : gb416 ≠ gb428)); have n13_ := Aside0.mk ((by rw [hg]; exact Nat.ne_of_gt (blk_lt (g := gb416) (o := .cells #[.int .i64 t411, .int .i64 t412, .int .i64 t413] 23 (0, 0)) (by (with_reducible repeat (first | apply kN | apply kD | apply kA)); exact BK416.out)) : gb428 ≠ gb416)); have n14_ := Aside0.mk ((by rw [hg]; exact Nat.ne_of_lt (blk_lt (g := gb422) (o := .cells #[.int .i64 t417, .int .i64 t418, .int .i64 t419] 23 (0, 0)) (by (with_reducible repeat (first | apply kN | apply kD | apply kA)); exact BK422.out)) : gb422 ≠ gb428)); have n15_ := Aside0.mk ((by rw [hg]; exact Nat.ne_of_gt (blk_lt (g := gb422) (o := .cells #[.int .i64 t417, .int .i64 t418, .int .i64 t419] 23 (0, 0)) (by (with_reducible repeat (first | apply kN | apply kD | apply kA)); exact BK422.out)) : gb428 ≠ gb422)); clear BK409; clear BK410; clear BK416; clear BK422; clear HB; have BK409 := n0_; have BK410 := n1_; have BK416 := n2_; have BK422 := n3_; have HB := n4_; have BK428 := n5_; have GW428 := n6_; have GE428 := n7_; have NB409_428 := n8_; have NB428_409 := n9_; have NB410_428 := n10_; have NB428_410 := n11_; have NB416_428 := n12_; have NB428_416 := n13_; have NB422_428 := n14_; have NB428_422 := n15_; clear n0_ n1_ n2_ n3_ n4_ n5_ n6_ n7_ n8_ n9_ n10_ n11_ n12_ n13_ n14_ n15_; clear hb hbox hg; have hnb37 := NB428_409.out; have hnc37 := NB409_428.out; have hnb38 := NB428_410.out; have hnc38 := NB410_428.out; have hnb39 := NB428_416.out; have hnc39 := NB416_428.out; have hnb40 := NB428_422.out; have hnc40 := NB422_428.out; obtain ⟨hcz41_0, hcz41_1, hcz41_2, hfz41_0, hfz41_1, hfz41_2⟩ := cells3 (w := w36) (g := gb428) BK428.out; obtain ⟨hcz42_0, hcz42_1, hcz42_2, hfz42_0, hfz42_1, hfz42_2⟩ := cells3 (w := w36) (g := gb410) BK410.out) | ((with_reducible refine gate_callee (f := 18) rfl ?_); refine goesL_ (some 89) rfl rfl Try.func18 (by kernel_rfl) rfl #[.agg #[.int .i64 (wrap64 ((wrap64 (a0)) + (wrap64 (a4)))), .int .i64 (wrap64 ((wrap64 ((wrap64 (a0)) + (Int.tmod (wrap64 (a1)) (wrap64 ((wrap64 (1 + (wrap64 (Int.tmod a3 64)))) + 1))))) + (wrap64 (a4)))), .int .i64 (wrap64 (Int.tmod a2 3))], .int .i64 (wrap64 (1 + (wrap64 (Int.tmod a3 64))))] rfl (by (try simp only [List.map_toArray, List.map_cons, List.map_nil]); first | done | rfl | (simp only [List.length_drop, List.length_take]; rfl)) ?_; (with_reducible refine (word_Take.calls k (wrap64 ((wrap64 (a0)) + (wrap64 (a4)))) (wrap64 ((wrap64 ((wrap64 (a0)) + (Int.tmod (wrap64 (a1)) (wrap64 ((wrap64 (1 + (wrap64 (Int.tmod a3 64)))) + 1))))) + (wrap64 (a4)))) (wrap64 (Int.tmod a2 3)) (wrap64 (1 + (wrap64 (Int.tmod a3 64)))) t429 t430 t431 t432 t433 _ A11.out).mono ?_); rintro e w43 ⟨rfl, hb⟩; refine ⟨_, rfl, ?_⟩; have n0_ := Aside0.mk (blk_below (g := gb409) (o := .cells #[.int .i64 (wrap64 (a0)), .int .i64 (wrap64 ((wrap64 (a0)) + (Int.tmod (wrap64 (a1)) (wrap64 ((wrap64 (1 + (wrap64 (Int.tmod a3 64)))) + 1))))), .int .i64 (wrap64 (Int.tmod a2 3))] 23 (0, 0)) (by (with_reducible repeat (first | apply kN | apply kD | apply kA)); refine blk_far ?_ NB409_428.out _; (with_reducible repeat (first | apply kN | apply kD | apply kA)); refine blk_far ?_ NB409_428.out _; (with_reducible repeat (first | apply kN | apply kD | apply kA)); refine blk_far ?_ NB409_428.out _; (with_reducible repeat (first | apply kN | apply kD | apply kA)); exact BK409.out) hb); have n1_ := Aside0.mk (blk_below (g := gb410) (o := .cells #[.int .i64 (wrap64 ((wrap64 (a0)) + (wrap64 (a4)))), .int .i64 (wrap64 ((wrap64 ((wrap64 (a0)) + (Int.tmod (wrap64 (a1)) (wrap64 ((wrap64 (1 + (wrap64 (Int.tmod a3 64)))) + 1))))) + (wrap64 (a4)))), .int .i64 (wrap64 (Int.tmod a2 3))] 23 (0, 0)) (by (with_reducible repeat (first | apply kN | apply kD | apply kA)); refine blk_far ?_ NB410_428.out _; (with_reducible repeat (first | apply kN | apply kD | apply kA)); refine blk_far ?_ NB410_428.out _; (with_reducible repeat (first | apply kN | apply kD | apply kA)); refine blk_far ?_ NB410_428.out _; (with_reducible repeat (first | apply kN | apply kD | apply kA)); exact BK410.out) hb); have n2_ := Aside0.mk (blk_below (g := gb416) (o := .cells #[.int .i64 t411, .int .i64 t412, .int .i64 t413] 23 (0, 0)) (by (with_reducible repeat (first | apply kN | apply kD | apply kA)); refine blk_far ?_ NB416_428.out _; (with_reducible repeat (first | apply kN | apply kD | apply kA)); refine blk_far ?_ NB416_428.out _; (with_reducible repeat (first | apply kN | apply kD | apply kA)); refine blk_far ?_ NB416_428.out _; (with_reducible repeat (first | apply kN | apply kD | apply kA)); exact BK416.out) hb); have n3_ := Aside0.mk (blk_below (g := gb422) (o := .cells #[.int .i64 t417, .int .i64 t418, .int .i64 t419] 23 (0, 0)) (by (with_reducible repeat (first | apply kN | apply kD | apply kA)); refine blk_far ?_ NB422_428.out _; (with_reducible repeat (first | apply kN | apply kD | apply kA)); refine blk_far ?_ NB422_428.out _; (with_reducible repeat (first | apply kN | apply kD | apply kA)); refine blk_far ?_ NB422_428.out _; (with_reducible repeat (first | apply kN | apply kD | apply kA)); exact BK422.out) hb); have n4_ := Aside0.mk (blk_below (g := gb428) (o := .cells #[.int .i64 t423, .int .i64 t424, .int .i64 t425] 23 (0, 0)) (by (with_reducible repeat (first | apply kN | apply kD | apply kA)); refine blk_put (cs := #[.int .i64 t423, .int .i64 t424, .int .i64 0]) ?_ 2 _ rfl; (with_reducible repeat (first | apply kN | apply kD | apply kA)); refine blk_put (cs := #[.int .i64 t423, .int .i64 0, .int .i64 0]) ?_ 1 _ rfl; (with_reducible repeat (first | apply kN | apply kD | apply kA)); refine blk_put (cs := #[.int .i64 0, .int .i64 0, .int .i64 0]) ?_ 0 _ rfl; (with_reducible repeat (first | apply kN | apply kD | apply kA)); exact BK428.out) hb); have n5_ := Aside0.mk (below_step (by repeat (first | (with_reducible first | exact HB.out | apply bA | apply bN | apply bD | refine below_set ?_ GE409.out | refine below_set ?_ GE410.out | refine below_set ?_ GE416.out | refine below_set ?_ GE422.out | refine below_set ?_ GE428.out) | exact HB.out)) hb); clear BK409; clear BK410; clear BK416; clear BK422; clear BK428; clear HB; have BK409 := n0_; have BK410 := n1_; have BK416 := n2_; have BK422 := n3_; have BK428 := n4_; have HB := n5_; clear n0_ n1_ n2_ n3_ n4_ n5_; (try clear hb); (try clear hb2); (try clear hk); (try clear hi)) | ((with_reducible refine gate_dst (N := 24) rfl ?_); refine box_event ?hg (N := 24) ?hd (cs := #[.int .i64 0, .int .i64 0, .int .i64 0]) (t := 23) ?hr ?_; (case hd => rfl); (case hg => rfl); (case hr => first | (go_simp; done) | (go_simp; rfl)); intro gb434 hg w44 hbox hb; have n0_ := Aside0.mk (blk_below (g := gb409) (o := .cells #[.int .i64 (wrap64 (a0)), .int .i64 (wrap64 ((wrap64 (a0)) + (Int.tmod (wrap64 (a1)) (wrap64 ((wrap64 (1 + (wrap64 (Int.tmod a3 64)))) + 1))))), .int .i64 (wrap64 (Int.tmod a2 3))] 23 (0, 0)) (by (with_reducible repeat (first | apply kN | apply kD | apply kA)); exact BK409.out) hb); have n1_ := Aside0.mk (blk_below (g := gb410) (o := .cells #[.int .i64 (wrap64 ((wrap64 (a0)) + (wrap64 (a4)))), .int .i64 (wrap64 ((wrap64 ((wrap64 (a0)) + (Int.tmod (wrap64 (a1)) (wrap64 ((wrap64 (1 + (wrap64 (Int.tmod a3 64)))) + 1))))) + (wrap64 (a4)))), .int .i64 (wrap64 (Int.tmod a2 3))] 23 (0, 0)) (by (with_reducible repeat (first | apply kN | apply kD | apply kA)); exact BK410.out) hb); have n2_ := Aside0.mk (blk_below (g := gb416) (o := .cells #[.int .i64 t411, .int .i64 t412, .int .i64 t413] 23 (0, 0)) (by (with_reducible repeat (first | apply kN | apply kD | apply kA)); exact BK416.out) hb); have n3_ := Aside0.mk (blk_below (g := gb422) (o := .cells #[.int .i64 t417, .int .i64 t418, .int .i64 t419] 23 (0, 0)) (by (with_reducible repeat (first | apply kN | apply kD | apply kA)); exact BK422.out) hb); have n4_ := Aside0.mk (blk_below (g := gb428) (o := .cells #[.int .i64 t423, .int .i64 t424, .int .i64 t425] 23 (0, 0)) (by (with_reducible repeat (first | apply kN | apply kD | apply kA)); exact BK428.out) hb); have n5_ := Aside0.mk (below_step (by repeat (first | (with_reducible first | exact HB.out | apply bA | apply bN | apply bD | refine below_set ?_ GE409.out | refine below_set ?_ GE410.out | refine below_set ?_ GE416.out | refine below_set ?_ GE422.out | refine below_set ?_ GE428.out) | exact HB.out)) hb); have n6_ := Aside0.mk (hbox); have n7_ := Aside0.mk ((by rw [hg]; exact (below_size (by repeat (first | (with_reducible first | exact HB.out | apply bA | apply bN | apply bD | refine below_set ?_ GE409.out | refine below_set ?_ GE410.out | refine below_set ?_ GE416.out | refine below_set ?_ GE422.out | refine below_set ?_ GE428.out) | exact HB.out))) : w.heap.size ≤ gb434)); have n8_ := Aside0.mk ((by rw [hg]; exact (below_size (by repeat (first | (with_reducible first | exact HB.out | apply bA | apply bN | apply bD | refine below_set ?_ GE409.out | refine below_set ?_ GE410.out | refine below_set ?_ GE416.out | refine below_set ?_ GE422.out | refine below_set ?_ GE428.out) | exact HB.out))) : w.heap.size ≤ gb434)); have n9_ := Aside0.mk ((by rw [hg]; exact Nat.ne_of_lt (blk_lt (g := gb409) (o := .cells #[.int .i64 (wrap64 (a0)), .int .i64 (wrap64 ((wrap64 (a0)) + (Int.tmod (wrap64 (a1)) (wrap64 ((wrap64 (1 + (wrap64 (Int.tmod a3 64)))) + 1))))), .int .i64 (wrap64 (Int.tmod a2 3))] 23 (0, 0)) (by (with_reducible repeat (first | apply kN | apply kD | apply kA)); exact BK409.out)) : gb409 ≠ gb434)); have n10_ := Aside0.mk ((by rw [hg]; exact Nat.ne_of_gt (blk_lt (g := gb409) (o := .cells #[.int .i64 (wrap64 (a0)), .int .i64 (wrap64 ((wrap64 (a0)) + (Int.tmod (wrap64 (a1)) (wrap64 ((wrap64 (1 + (wrap64 (Int.tmod a3 64)))) + 1))))), .int .i64 (wrap64 (Int.tmod a2 3))] 23 (0, 0)) (by (with_reducible repeat (first | apply kN | apply kD | apply kA)); exact BK409.out)) : gb434 ≠ gb409)); have n11_ := Aside0.mk ((by rw [hg]; exact Nat.ne_of_lt (blk_lt (g := gb410) (o := .cells #[.int .i64 (wrap64 ((wrap64 (a0)) + (wrap64 (a4)))), .int .i64 (wrap64 ((wrap64 ((wrap64 (a0)) + (Int.tmod (wrap64 (a1)) (wrap64 ((wrap64 (1 + (wrap64 (Int.tmod a3 64)))) + 1))))) + (wrap64 (a4)))), .int .i64 (wrap64 (Int.tmod a2 3))] 23 (0, 0)) (by (with_reducible repeat (first | apply kN | apply kD | apply kA)); exact BK410.out)) : gb410 ≠ gb434)); have n12_ := Aside0.mk ((by rw [hg]; exact Nat.ne_of_gt (blk_lt (g := gb410) (o := .cells #[.int .i64 (wrap64 ((wrap64 (a0)) + (wrap64 (a4)))), .int .i64 (wrap64 ((wrap64 ((wrap64 (a0)) + (Int.tmod (wrap64 (a1)) (wrap64 ((wrap64 (1 + (wrap64 (Int.tmod a3 64)))) + 1))))) + (wrap64 (a4)))), .int .i64 (wrap64 (Int.tmod a2 3))] 23 (0, 0)) (by (with_reducible repeat (first | apply kN | apply kD | apply kA)); exact BK410.out)) : gb434 ≠ gb410)); have n13_ := Aside0.mk ((by rw [hg]; exact Nat.ne_of_lt (blk_lt (g := gb416) (o := .cells #[.int .i64 t411, .int .i64 t412, .int .i64 t413] 23 (0, 0)) (by (with_reducible repeat (first | apply kN | apply kD | apply kA)); exact BK416.out)) : gb416 ≠ gb434)); have n14_ := Aside0.mk ((by rw [hg]; exact Nat.ne_of_gt (blk_lt (g := gb416) (o := .cells #[.int .i64 t411, .int .i64 t412, .int .i64 t413] 23 (0, 0)) (by (with_reducible repeat (first | apply kN | apply kD | apply kA)); exact BK416.out)) : gb434 ≠ gb416)); have n15_ := Aside0.mk ((by rw [hg]; exact Nat.ne_of_lt (blk_lt (g := gb422) (o := .cells #[.int .i64 t417, .int .i64 t418, .int .i64 t419] 23 (0, 0)) (by (with_reducible repeat (first | apply kN | apply kD | apply kA)); exact BK422.out)) : gb422 ≠ gb434)); have n16_ := Aside0.mk ((by rw [hg]; exact Nat.ne_of_gt (blk_lt (g := gb422) (o := .cells #[.int .i64 t417, .int .i64 t418, .int .i64 t419] 23 (0, 0)) (by (with_reducible repeat (first | apply kN | apply kD | apply kA)); exact BK422.out)) : gb434 ≠ gb422)); have n17_ := Aside0.mk ((by rw [hg]; exact Nat.ne_of_lt (blk_lt (g := gb428) (o := .cells #[.int .i64 t423, .int .i64 t424, .int .i64 t425] 23 (0, 0)) (by (with_reducible repeat (first | apply kN | apply kD | apply kA)); exact BK428.out)) : gb428 ≠ gb434)); have n18_ := Aside0.mk ((by rw [hg]; exact Nat.ne_of_gt (blk_lt (g := gb428) (o := .cells #[.int .i64 t423, .int .i64 t424, .int .i64 t425] 23 (0, 0)) (by (with_reducible repeat (first | apply kN | apply kD | apply kA)); exact BK428.out)) : gb434 ≠ gb428)); clear BK409; clear BK410; clear BK416; clear BK422; clear BK428; clear HB; have BK409 := n0_; have BK410 := n1_; have BK416 := n2_; have BK422 := n3_; have BK428 := n4_; have HB := n5_; have BK434 := n6_; have GW434 := n7_; have GE434 := n8_; have NB409_434 := n9_; have NB434_409 := n10_; have NB410_434 := n11_; have NB434_410 := n12_; have NB416_434 := n13_; have NB434_416 := n14_; have NB422_434 := n15_; have NB434_422 := n16_; have NB428_434 := n17_; have NB434_428 := n18_; clear n0_ n1_ n2_ n3_ n4_ n5_ n6_ n7_ n8_ n9_ n10_ n11_ n12_ n13_ n14_ n15_ n16_ n17_ n18_; clear hb hbox hg; have hnb45 := NB434_409.out; have hnc45 := NB409_434.out; have hnb46 := NB434_410.out; have hnc46 := NB410_434.out; have hnb47 := NB434_416.out; have hnc47 := NB416_434.out; have hnb48 := NB434_422.out; have hnc48 := NB422_434.out; have hnb49 := NB434_428.out; have hnc49 := NB428_434.out; obtain ⟨hcz50_0, hcz50_1, hcz50_2, hfz50_0, hfz50_1, hfz50_2⟩ := cells3 (w := w44) (g := gb434) BK434.out; obtain ⟨hcz51_0, hcz51_1, hcz51_2, hfz51_0, hfz51_1, hfz51_2⟩ := cells3 (w := w44) (g := gb409) BK409.out) | ((with_reducible refine gate_callee (f := 20) rfl ?_); refine goesL_ (some 98) rfl rfl Try.func20 (by kernel_rfl) rfl #[.agg #[.int .i64 (wrap64 (a0)), .int .i64 (wrap64 ((wrap64 (a0)) + (Int.tmod (wrap64 (a1)) (wrap64 ((wrap64 (1 + (wrap64 (Int.tmod a3 64)))) + 1))))), .int .i64 (wrap64 (Int.tmod a2 3))], .int .i64 (wrap64 (1 + (wrap64 (Int.tmod a3 64)))), .int .i64 (wrap64 (a0))] rfl (by (try simp only [List.map_toArray, List.map_cons, List.map_nil]); first | done | rfl | (simp only [List.length_drop, List.length_take]; rfl)) ?_; (with_reducible refine (word_Evict.calls k (wrap64 (a0)) (wrap64 ((wrap64 (a0)) + (Int.tmod (wrap64 (a1)) (wrap64 ((wrap64 (1 + (wrap64 (Int.tmod a3 64)))) + 1))))) (wrap64 (Int.tmod a2 3)) (wrap64 (1 + (wrap64 (Int.tmod a3 64)))) (wrap64 (a0)) t435 t436 t437 t438 _ A12.out).mono ?_); rintro e w52 ⟨rfl, hb⟩; refine ⟨_, rfl, ?_⟩; have n0_ := Aside0.mk (blk_below (g := gb409) (o := .cells #[.int .i64 (wrap64 (a0)), .int .i64 (wrap64 ((wrap64 (a0)) + (Int.tmod (wrap64 (a1)) (wrap64 ((wrap64 (1 + (wrap64 (Int.tmod a3 64)))) + 1))))), .int .i64 (wrap64 (Int.tmod a2 3))] 23 (0, 0)) (by (with_reducible repeat (first | apply kN | apply kD | apply kA)); refine blk_far ?_ NB409_434.out _; (with_reducible repeat (first | apply kN | apply kD | apply kA)); refine blk_far ?_ NB409_434.out _; (with_reducible repeat (first | apply kN | apply kD | apply kA)); refine blk_far ?_ NB409_434.out _; (with_reducible repeat (first | apply kN | apply kD | apply kA)); exact BK409.out) hb); have n1_ := Aside0.mk (blk_below (g := gb410) (o := .cells #[.int .i64 (wrap64 ((wrap64 (a0)) + (wrap64 (a4)))), .int .i64 (wrap64 ((wrap64 ((wrap64 (a0)) + (Int.tmod (wrap64 (a1)) (wrap64 ((wrap64 (1 + (wrap64 (Int.tmod a3 64)))) + 1))))) + (wrap64 (a4)))), .int .i64 (wrap64 (Int.tmod a2 3))] 23 (0, 0)) (by (with_reducible repeat (first | apply kN | apply kD | apply kA)); refine blk_far ?_ NB410_434.out _; (with_reducible repeat (first | apply kN | apply kD | apply kA)); refine blk_far ?_ NB410_434.out _; (with_reducible repeat (first | apply kN | apply kD | apply kA)); refine blk_far ?_ NB410_434.out _; (with_reducible repeat (first | apply kN | apply kD | apply kA)); exact BK410.out) hb); have n2_ := Aside0.mk (blk_below (g := gb416) (o := .cells #[.int .i64 t411, .int .i64 t412, .int .i64 t413] 23 (0, 0)) (by (with_reducible repeat (first | apply kN | apply kD | apply kA)); refine blk_far ?_ NB416_434.out _; (with_reducible repeat (first | apply kN | apply kD | apply kA)); refine blk_far ?_ NB416_434.out _; (with_reducible repeat (first | apply kN | apply kD | apply kA)); refine blk_far ?_ NB416_434.out _; (with_reducible repeat (first | apply kN | apply kD | apply kA)); exact BK416.out) hb); have n3_ := Aside0.mk (blk_below (g := gb422) (o := .cells #[.int .i64 t417, .int .i64 t418, .int .i64 t419] 23 (0, 0)) (by (with_reducible repeat (first | apply kN | apply kD | apply kA)); refine blk_far ?_ NB422_434.out _; (with_reducible repeat (first | apply kN | apply kD | apply kA)); refine blk_far ?_ NB422_434.out _; (with_reducible repeat (first | apply kN | apply kD | apply kA)); refine blk_far ?_ NB422_434.out _; (with_reducible repeat (first | apply kN | apply kD | apply kA)); exact BK422.out) hb); have n4_ := Aside0.mk (blk_below (g := gb428) (o := .cells #[.int .i64 t423, .int .i64 t424, .int .i64 t425] 23 (0, 0)) (by (with_reducible repeat (first | apply kN | apply kD | apply kA)); refine blk_far ?_ NB428_434.out _; (with_reducible repeat (first | apply kN | apply kD | apply kA)); refine blk_far ?_ NB428_434.out _; (with_reducible repeat (first | apply kN | apply kD | apply kA)); refine blk_far ?_ NB428_434.out _; (with_reducible repeat (first | apply kN | apply kD | apply kA)); exact BK428.out) hb); have n5_ := Aside0.mk (blk_below (g := gb434) (o := .cells #[.int .i64 t429, .int .i64 t430, .int .i64 t431] 23 (0, 0)) (by (with_reducible repeat (first | apply kN | apply kD | apply kA)); refine blk_put (cs := #[.int .i64 t429, .int .i64 t430, .int .i64 0]) ?_ 2 _ rfl; (with_reducible repeat (first | apply kN | apply kD | apply kA)); refine blk_put (cs := #[.int .i64 t429, .int .i64 0, .int .i64 0]) ?_ 1 _ rfl; (with_reducible repeat (first | apply kN | apply kD | apply kA)); refine blk_put (cs := #[.int .i64 0, .int .i64 0, .int .i64 0]) ?_ 0 _ rfl; (with_reducible repeat (first | apply kN | apply kD | apply kA)); exact BK434.out) hb); have n6_ := Aside0.mk (below_step (by repeat (first | (with_reducible first | exact HB.out | apply bA | apply bN | apply bD | refine below_set ?_ GE409.out | refine below_set ?_ GE410.out | refine below_set ?_ GE416.out | refine below_set ?_ GE422.out | refine below_set ?_ GE428.out | refine below_set ?_ GE434.out) | exact HB.out)) hb); clear BK409; clear BK410; clear BK416; clear BK422; clear BK428; clear BK434; clear HB; have BK409 := n0_; have BK410 := n1_; have BK416 := n2_; have BK422 := n3_; have BK428 := n4_; have BK434 := n5_; have HB := n6_; clear n0_ n1_ n2_ n3_ n4_ n5_ n6_; (try clear hb); (try clear hb2); (try clear hk); (try clear hi)) | ((with_reducible refine gate_dst (N := 27) rfl ?_); refine box_event ?hg (N := 27) ?hd (cs := #[.int .i64 0, .int .i64 0, .int .i64 0]) (t := 23) ?hr ?_; (case hd => rfl); (case hg => rfl); (case hr => first | (go_simp; done) | (go_simp; rfl)); intro gb439 hg w53 hbox hb; have n0_ := Aside0.mk (blk_below (g := gb409) (o := .cells #[.int .i64 (wrap64 (a0)), .int .i64 (wrap64 ((wrap64 (a0)) + (Int.tmod (wrap64 (a1)) (wrap64 ((wrap64 (1 + (wrap64 (Int.tmod a3 64)))) + 1))))), .int .i64 (wrap64 (Int.tmod a2 3))] 23 (0, 0)) (by (with_reducible repeat (first | apply kN | apply kD | apply kA)); exact BK409.out) hb); have n1_ := Aside0.mk (blk_below (g := gb410) (o := .cells #[.int .i64 (wrap64 ((wrap64 (a0)) + (wrap64 (a4)))), .int .i64 (wrap64 ((wrap64 ((wrap64 (a0)) + (Int.tmod (wrap64 (a1)) (wrap64 ((wrap64 (1 + (wrap64 (Int.tmod a3 64)))) + 1))))) + (wrap64 (a4)))), .int .i64 (wrap64 (Int.tmod a2 3))] 23 (0, 0)) (by (with_reducible repeat (first | apply kN | apply kD | apply kA)); exact BK410.out) hb); have n2_ := Aside0.mk (blk_below (g := gb416) (o := .cells #[.int .i64 t411, .int .i64 t412, .int .i64 t413] 23 (0, 0)) (by (with_reducible repeat (first | apply kN | apply kD | apply kA)); exact BK416.out) hb); have n3_ := Aside0.mk (blk_below (g := gb422) (o := .cells #[.int .i64 t417, .int .i64 t418, .int .i64 t419] 23 (0, 0)) (by (with_reducible repeat (first | apply kN | apply kD | apply kA)); exact BK422.out) hb); have n4_ := Aside0.mk (blk_below (g := gb428) (o := .cells #[.int .i64 t423, .int .i64 t424, .int .i64 t425] 23 (0, 0)) (by (with_reducible repeat (first | apply kN | apply kD | apply kA)); exact BK428.out) hb); have n5_ := Aside0.mk (blk_below (g := gb434) (o := .cells #[.int .i64 t429, .int .i64 t430, .int .i64 t431] 23 (0, 0)) (by (with_reducible repeat (first | apply kN | apply kD | apply kA)); exact BK434.out) hb); have n6_ := Aside0.mk (below_step (by repeat (first | (with_reducible first | exact HB.out | apply bA | apply bN | apply bD | refine below_set ?_ GE409.out | refine below_set ?_ GE410.out | refine below_set ?_ GE416.out | refine below_set ?_ GE422.out | refine below_set ?_ GE428.out | refine below_set ?_ GE434.out) | exact HB.out)) hb); have n7_ := Aside0.mk (hbox); have n8_ := Aside0.mk ((by rw [hg]; exact (below_size (by repeat (first | (with_reducible first | exact HB.out | apply bA | apply bN | apply bD | refine below_set ?_ GE409.out | refine below_set ?_ GE410.out | refine below_set ?_ GE416.out | refine below_set ?_ GE422.out | refine below_set ?_ GE428.out | refine below_set ?_ GE434.out) | exact HB.out))) : w.heap.size ≤ gb439)); have n9_ := Aside0.mk ((by rw [hg]; exact (below_size (by repeat (first | (with_reducible first | exact HB.out | apply bA | apply bN | apply bD | refine below_set ?_ GE409.out | refine below_set ?_ GE410.out | refine below_set ?_ GE416.out | refine below_set ?_ GE422.out | refine below_set ?_ GE428.out | refine below_set ?_ GE434.out) | exact HB.out))) : w.heap.size ≤ gb439)); have n10_ := Aside0.mk ((by rw [hg]; exact Nat.ne_of_lt (blk_lt (g := gb409) (o := .cells #[.int .i64 (wrap64 (a0)), .int .i64 (wrap64 ((wrap64 (a0)) + (Int.tmod (wrap64 (a1)) (wrap64 ((wrap64 (1 + (wrap64 (Int.tmod a3 64)))) + 1))))), .int .i64 (wrap64 (Int.tmod a2 3))] 23 (0, 0)) (by (with_reducible repeat (first | apply kN | apply kD | apply kA)); exact BK409.out)) : gb409 ≠ gb439)); have n11_ := Aside0.mk ((by rw [hg]; exact Nat.ne_of_gt (blk_lt (g := gb409) (o := .cells #[.int .i64 (wrap64 (a0)), .int .i64 (wrap64 ((wrap64 (a0)) + (Int.tmod (wrap64 (a1)) (wrap64 ((wrap64 (1 + (wrap64 (Int.tmod a3 64)))) + 1))))), .int .i64 (wrap64 (Int.tmod a2 3))] 23 (0, 0)) (by (with_reducible repeat (first | apply kN | apply kD | apply kA)); exact BK409.out)) : gb439 ≠ gb409)); have n12_ := Aside0.mk ((by rw [hg]; exact Nat.ne_of_lt (blk_lt (g := gb410) (o := .cells #[.int .i64 (wrap64 ((wrap64 (a0)) + (wrap64 (a4)))), .int .i64 (wrap64 ((wrap64 ((wrap64 (a0)) + (Int.tmod (wrap64 (a1)) (wrap64 ((wrap64 (1 + (wrap64 (Int.tmod a3 64)))) + 1))))) + (wrap64 (a4)))), .int .i64 (wrap64 (Int.tmod a2 3))] 23 (0, 0)) (by (with_reducible repeat (first | apply kN | apply kD | apply kA)); exact BK410.out)) : gb410 ≠ gb439)); have n13_ := Aside0.mk ((by rw [hg]; exact Nat.ne_of_gt (blk_lt (g := gb410) (o := .cells #[.int .i64 (wrap64 ((wrap64 (a0)) + (wrap64 (a4)))), .int .i64 (wrap64 ((wrap64 ((wrap64 (a0)) + (Int.tmod (wrap64 (a1)) (wrap64 ((wrap64 (1 + (wrap64 (Int.tmod a3 64)))) + 1))))) + (wrap64 (a4)))), .int .i64 (wrap64 (Int.tmod a2 3))] 23 (0, 0)) (by (with_reducible repeat (first | apply kN | apply kD | apply kA)); exact BK410.out)) : gb439 ≠ gb410)); have n14_ := Aside0.mk ((by rw [hg]; exact Nat.ne_of_lt (blk_lt (g := gb416) (o := .cells #[.int .i64 t411, .int .i64 t412, .int .i64 t413] 23 (0, 0)) (by (with_reducible repeat (first | apply kN | apply kD | apply kA)); exact BK416.out)) : gb416 ≠ gb439)); have n15_ := Aside0.mk ((by rw [hg]; exact Nat.ne_of_gt (blk_lt (g := gb416) (o := .cells #[.int .i64 t411, .int .i64 t412, .int .i64 t413] 23 (0, 0)) (by (with_reducible repeat (first | apply kN | apply kD | apply kA)); exact BK416.out)) : gb439 ≠ gb416)); have n16_ := Aside0.mk ((by rw [hg]; exact Nat.ne_of_lt (blk_lt (g := gb422) (o := .cells #[.int .i64 t417, .int .i64 t418, .int .i64 t419] 23 (0, 0)) (by (with_reducible repeat (first | apply kN | apply kD | apply kA)); exact BK422.out)) : gb422 ≠ gb439)); have n17_ := Aside0.mk ((by rw [hg]; exact Nat.ne_of_gt (blk_lt (g := gb422) (o := .cells #[.int .i64 t417, .int .i64 t418, .int .i64 t419] 23 (0, 0)) (by (with_reducible repeat (first | apply kN | apply kD | apply kA)); exact BK422.out)) : gb439 ≠ gb422)); have n18_ := Aside0.mk ((by rw [hg]; exact Nat.ne_of_lt (blk_lt (g := gb428) (o := .cells #[.int .i64 t423, .int .i64 t424, .int .i64 t425] 23 (0, 0)) (by (with_reducible repeat (first | apply kN | apply kD | apply kA)); exact BK428.out)) : gb428 ≠ gb439)); have n19_ := Aside0.mk ((by rw [hg]; exact Nat.ne_of_gt (blk_lt (g := gb428) (o := .cells #[.int .i64 t423, .int .i64 t424, .int .i64 t425] 23 (0, 0)) (by (with_reducible repeat (first | apply kN | apply kD | apply kA)); exact BK428.out)) : gb439 ≠ gb428)); have n20_ := Aside0.mk ((by rw [hg]; exact Nat.ne_of_lt (blk_lt (g := gb434) (o := .cells #[.int .i64 t429, .int .i64 t430, .int .i64 t431] 23 (0, 0)) (by (with_reducible repeat (first | apply kN | apply kD | apply kA)); exact BK434.out)) : gb434 ≠ gb439)); have n21_ := Aside0.mk ((by rw [hg]; exact Nat.ne_of_gt (blk_lt (g := gb434) (o := .cells #[.int .i64 t429, .int .i64 t430, .int .i64 t431] 23 (0, 0)) (by (with_reducible repeat (first | apply kN | apply kD | apply kA)); exact BK434.out)) : gb439 ≠ gb434)); clear BK409; clear BK410; clear BK416; clear BK422; clear BK428; clear BK434; clear HB; have BK409 := n0_; have BK410 := n1_; have BK416 := n2_; have BK422 := n3_; have BK428 := n4_; have BK434 := n5_; have HB := n6_; have BK439 := n7_; have GW439 := n8_; have GE439 := n9_; have NB409_439 := n10_; have NB439_409 := n11_; have NB410_439 := n12_; have NB439_410 := n13_; have NB416_439 := n14_; have NB439_416 := n15_; have NB422_439 := n16_; have NB439_422 := n17_; have NB428_439 := n18_; have NB439_428 := n19_; have NB434_439 := n20_; have NB439_434 := n21_; clear n0_ n1_ n2_ n3_ n4_ n5_ n6_ n7_ n8_ n9_ n10_ n11_ n12_ n13_ n14_ n15_ n16_ n17_ n18_ n19_ n20_ n21_; clear hb hbox hg; have hnb54 := NB439_409.out; have hnc54 := NB409_439.out; have hnb55 := NB439_410.out; have hnc55 := NB410_439.out; have hnb56 := NB439_416.out; have hnc56 := NB416_439.out; have hnb57 := NB439_422.out; have hnc57 := NB422_439.out; have hnb58 := NB439_428.out; have hnc58 := NB428_439.out; have hnb59 := NB439_434.out; have hnc59 := NB434_439.out; obtain ⟨hcz60_0, hcz60_1, hcz60_2, hfz60_0, hfz60_1, hfz60_2⟩ := cells3 (w := w53) (g := gb439) BK439.out; obtain ⟨hcz61_0, hcz61_1, hcz61_2, hfz61_0, hfz61_1, hfz61_2⟩ := cells3 (w := w53) (g := gb410) BK410.out) | ((with_reducible refine gate_callee (f := 20) rfl ?_); refine goesL_ (some 106) rfl rfl Try.func20 (by kernel_rfl) rfl #[.agg #[.int .i64 (wrap64 ((wrap64 (a0)) + (wrap64 (a4)))), .int .i64 (wrap64 ((wrap64 ((wrap64 (a0)) + (Int.tmod (wrap64 (a1)) (wrap64 ((wrap64 (1 + (wrap64 (Int.tmod a3 64)))) + 1))))) + (wrap64 (a4)))), .int .i64 (wrap64 (Int.tmod a2 3))], .int .i64 (wrap64 (1 + (wrap64 (Int.tmod a3 64)))), .int .i64 (wrap64 ((wrap64 (a0)) + (wrap64 (a4))))] rfl (by (try simp only [List.map_toArray, List.map_cons, List.map_nil]); first | done | rfl | (simp only [List.length_drop, List.length_take]; rfl)) ?_; (with_reducible refine (word_Evict.calls k (wrap64 ((wrap64 (a0)) + (wrap64 (a4)))) (wrap64 ((wrap64 ((wrap64 (a0)) + (Int.tmod (wrap64 (a1)) (wrap64 ((wrap64 (1 + (wrap64 (Int.tmod a3 64)))) + 1))))) + (wrap64 (a4)))) (wrap64 (Int.tmod a2 3)) (wrap64 (1 + (wrap64 (Int.tmod a3 64)))) (wrap64 ((wrap64 (a0)) + (wrap64 (a4)))) t440 t441 t442 t443 _ A13.out).mono ?_); rintro e w62 ⟨rfl, hb⟩; refine ⟨_, rfl, ?_⟩; have n0_ := Aside0.mk (blk_below (g := gb409) (o := .cells #[.int .i64 (wrap64 (a0)), .int .i64 (wrap64 ((wrap64 (a0)) + (Int.tmod (wrap64 (a1)) (wrap64 ((wrap64 (1 + (wrap64 (Int.tmod a3 64)))) + 1))))), .int .i64 (wrap64 (Int.tmod a2 3))] 23 (0, 0)) (by (with_reducible repeat (first | apply kN | apply kD | apply kA)); refine blk_far ?_ NB409_439.out _; (with_reducible repeat (first | apply kN | apply kD | apply kA)); refine blk_far ?_ NB409_439.out _; (with_reducible repeat (first | apply kN | apply kD | apply kA)); refine blk_far ?_ NB409_439.out _; (with_reducible repeat (first | apply kN | apply kD | apply kA)); exact BK409.out) hb); have n1_ := Aside0.mk (blk_below (g := gb410) (o := .cells #[.int .i64 (wrap64 ((wrap64 (a0)) + (wrap64 (a4)))), .int .i64 (wrap64 ((wrap64 ((wrap64 (a0)) + (Int.tmod (wrap64 (a1)) (wrap64 ((wrap64 (1 + (wrap64 (Int.tmod a3 64)))) + 1))))) + (wrap64 (a4)))), .int .i64 (wrap64 (Int.tmod a2 3))] 23 (0, 0)) (by (with_reducible repeat (first | apply kN | apply kD | apply kA)); refine blk_far ?_ NB410_439.out _; (with_reducible repeat (first | apply kN | apply kD | apply kA)); refine blk_far ?_ NB410_439.out _; (with_reducible repeat (first | apply kN | apply kD | apply kA)); refine blk_far ?_ NB410_439.out _; (with_reducible repeat (first | apply kN | apply kD | apply kA)); exact BK410.out) hb); have n2_ := Aside0.mk (blk_below (g := gb416) (o := .cells #[.int .i64 t411, .int .i64 t412, .int .i64 t413] 23 (0, 0)) (by (with_reducible repeat (first | apply kN | apply kD | apply kA)); refine blk_far ?_ NB416_439.out _; (with_reducible repeat (first | apply kN | apply kD | apply kA)); refine blk_far ?_ NB416_439.out _; (with_reducible repeat (first | apply kN | apply kD | apply kA)); refine blk_far ?_ NB416_439.out _; (with_reducible repeat (first | apply kN | apply kD | apply kA)); exact BK416.out) hb); have n3_ := Aside0.mk (blk_below (g := gb422) (o := .cells #[.int .i64 t417, .int .i64 t418, .int .i64 t419] 23 (0, 0)) (by (with_reducible repeat (first | apply kN | apply kD | apply kA)); refine blk_far ?_ NB422_439.out _; (with_reducible repeat (first | apply kN | apply kD | apply kA)); refine blk_far ?_ NB422_439.out _; (with_reducible repeat (first | apply kN | apply kD | apply kA)); refine blk_far ?_ NB422_439.out _; (with_reducible repeat (first | apply kN | apply kD | apply kA)); exact BK422.out) hb); have n4_ := Aside0.mk (blk_below (g := gb428) (o := .cells #[.int .i64 t423, .int .i64 t424, .int .i64 t425] 23 (0, 0)) (by (with_reducible repeat (first | apply kN | apply kD | apply kA)); refine blk_far ?_ NB428_439.out _; (with_reducible repeat (first | apply kN | apply kD | apply kA)); refine blk_far ?_ NB428_439.out _; (with_reducible repeat (first | apply kN | apply kD | apply kA)); refine blk_far ?_ NB428_439.out _; (with_reducible repeat (first | apply kN | apply kD | apply kA)); exact BK428.out) hb); have n5_ := Aside0.mk (blk_below (g := gb434) (o := .cells #[.int .i64 t429, .int .i64 t430, .int .i64 t431] 23 (0, 0)) (by (with_reducible repeat (first | apply kN | apply kD | apply kA)); refine blk_far ?_ NB434_439.out _; (with_reducible repeat (first | apply kN | apply kD | apply kA)); refine blk_far ?_ NB434_439.out _; (with_reducible repeat (first | apply kN | apply kD | apply kA)); refine blk_far ?_ NB434_439.out _; (with_reducible repeat (first | apply kN | apply kD | apply kA)); exact BK434.out) hb); have n6_ := Aside0.mk (blk_below (g := gb439) (o := .cells #[.int .i64 t435, .int .i64 t436, .int .i64 t437] 23 (0, 0)) (by (with_reducible repeat (first | apply kN | apply kD | apply kA)); refine blk_put (cs := #[.int .i64 t435, .int .i64 t436, .int .i64 0]) ?_ 2 _ rfl; (with_reducible repeat (first | apply kN | apply kD | apply kA)); refine blk_put (cs := #[.int .i64 t435, .int .i64 0, .int .i64 0]) ?_ 1 _ rfl; (with_reducible repeat (first | apply kN | apply kD | apply kA)); refine blk_put (cs := #[.int .i64 0, .int .i64 0, .int .i64 0]) ?_ 0 _ rfl; (with_reducible repeat (first | apply kN | apply kD | apply kA)); exact BK439.out) hb); have n7_ := Aside0.mk (below_step (by repeat (first | (with_reducible first | exact HB.out | apply bA | apply bN | apply bD | refine below_set ?_ GE409.out | refine below_set ?_ GE410.out | refine below_set ?_ GE416.out | refine below_set ?_ GE422.out | refine below_set ?_ GE428.out | refine below_set ?_ GE434.out | refine below_set ?_ GE439.out) | exact HB.out)) hb); clear BK409; clear BK410; clear BK416; clear BK422; clear BK428; clear BK434; clear BK439; clear HB; have BK409 := n0_; have BK410 := n1_; have BK416 := n2_; have BK422 := n3_; have BK428 := n4_; have BK434 := n5_; have BK439 := n6_; have HB := n7_; clear n0_ n1_ n2_ n3_ n4_ n5_ n6_ n7_; (try clear hb); (try clear hb2); (try clear hk); (try clear hi)) | ((with_reducible refine gate_dst (N := 29) rfl ?_); refine box_event ?hg (N := 29) ?hd (cs := #[.int .i64 0, .int .i64 0, .int .i64 0]) (t := 23) ?hr ?_; (case hd => rfl); (case hg => rfl); (case hr => first | (go_simp; done) | (go_simp; rfl)); intro gb444 hg w63 hbox hb; have n0_ := Aside0.mk (blk_below (g := gb409) (o := .cells #[.int .i64 (wrap64 (a0)), .int .i64 (wrap64 ((wrap64 (a0)) + (Int.tmod (wrap64 (a1)) (wrap64 ((wrap64 (1 + (wrap64 (Int.tmod a3 64)))) + 1))))), .int .i64 (wrap64 (Int.tmod a2 3))] 23 (0, 0)) (by (with_reducible repeat (first | apply kN | apply kD | apply kA)); exact BK409.out) hb); have n1_ := Aside0.mk (blk_below (g := gb410) (o := .cells #[.int .i64 (wrap64 ((wrap64 (a0)) + (wrap64 (a4)))), .int .i64 (wrap64 ((wrap64 ((wrap64 (a0)) + (Int.tmod (wrap64 (a1)) (wrap64 ((wrap64 (1 + (wrap64 (Int.tmod a3 64)))) + 1))))) + (wrap64 (a4)))), .int .i64 (wrap64 (Int.tmod a2 3))] 23 (0, 0)) (by (with_reducible repeat (first | apply kN | apply kD | apply kA)); exact BK410.out) hb); have n2_ := Aside0.mk (blk_below (g := gb416) (o := .cells #[.int .i64 t411, .int .i64 t412, .int .i64 t413] 23 (0, 0)) (by (with_reducible repeat (first | apply kN | apply kD | apply kA)); exact BK416.out) hb); have n3_ := Aside0.mk (blk_below (g := gb422) (o := .cells #[.int .i64 t417, .int .i64 t418, .int .i64 t419] 23 (0, 0)) (by (with_reducible repeat (first | apply kN | apply kD | apply kA)); exact BK422.out) hb); have n4_ := Aside0.mk (blk_below (g := gb428) (o := .cells #[.int .i64 t423, .int .i64 t424, .int .i64 t425] 23 (0, 0)) (by (with_reducible repeat (first | apply kN | apply kD | apply kA)); exact BK428.out) hb); have n5_ := Aside0.mk (blk_below (g := gb434) (o := .cells #[.int .i64 t429, .int .i64 t430, .int .i64 t431] 23 (0, 0)) (by (with_reducible repeat (first | apply kN | apply kD | apply kA)); exact BK434.out) hb); have n6_ := Aside0.mk (blk_below (g := gb439) (o := .cells #[.int .i64 t435, .int .i64 t436, .int .i64 t437] 23 (0, 0)) (by (with_reducible repeat (first | apply kN | apply kD | apply kA)); exact BK439.out) hb); have n7_ := Aside0.mk (below_step (by repeat (first | (with_reducible first | exact HB.out | apply bA | apply bN | apply bD | refine below_set ?_ GE409.out | refine below_set ?_ GE410.out | refine below_set ?_ GE416.out | refine below_set ?_ GE422.out | refine below_set ?_ GE428.out | refine below_set ?_ GE434.out | refine below_set ?_ GE439.out) | exact HB.out)) hb); have n8_ := Aside0.mk (hbox); have n9_ := Aside0.mk ((by rw [hg]; exact (below_size (by repeat (first | (with_reducible first | exact HB.out | apply bA | apply bN | apply bD | refine below_set ?_ GE409.out | refine below_set ?_ GE410.out | refine below_set ?_ GE416.out | refine below_set ?_ GE422.out | refine below_set ?_ GE428.out | refine below_set ?_ GE434.out | refine below_set ?_ GE439.out) | exact HB.out))) : w.heap.size ≤ gb444)); have n10_ := Aside0.mk ((by rw [hg]; exact (below_size (by repeat (first | (with_reducible first | exact HB.out | apply bA | apply bN | apply bD | refine below_set ?_ GE409.out | refine below_set ?_ GE410.out | refine below_set ?_ GE416.out | refine below_set ?_ GE422.out | refine below_set ?_ GE428.out | refine below_set ?_ GE434.out | refine below_set ?_ GE439.out) | exact HB.out))) : w.heap.size ≤ gb444)); have n11_ := Aside0.mk ((by rw [hg]; exact Nat.ne_of_lt (blk_lt (g := gb409) (o := .cells #[.int .i64 (wrap64 (a0)), .int .i64 (wrap64 ((wrap64 (a0)) + (Int.tmod (wrap64 (a1)) (wrap64 ((wrap64 (1 + (wrap64 (Int.tmod a3 64)))) + 1))))), .int .i64 (wrap64 (Int.tmod a2 3))] 23 (0, 0)) (by (with_reducible repeat (first | apply kN | apply kD | apply kA)); exact BK409.out)) : gb409 ≠ gb444)); have n12_ := Aside0.mk ((by rw [hg]; exact Nat.ne_of_gt (blk_lt (g := gb409) (o := .cells #[.int .i64 (wrap64 (a0)), .int .i64 (wrap64 ((wrap64 (a0)) + (Int.tmod (wrap64 (a1)) (wrap64 ((wrap64 (1 + (wrap64 (Int.tmod a3 64)))) + 1))))), .int .i64 (wrap64 (Int.tmod a2 3))] 23 (0, 0)) (by (with_reducible repeat (first | apply kN | apply kD | apply kA)); exact BK409.out)) : gb444 ≠ gb409)); have n13_ := Aside0.mk ((by rw [hg]; exact Nat.ne_of_lt (blk_lt (g := gb410) (o := .cells #[.int .i64 (wrap64 ((wrap64 (a0)) + (wrap64 (a4)))), .int .i64 (wrap64 ((wrap64 ((wrap64 (a0)) + (Int.tmod (wrap64 (a1)) (wrap64 ((wrap64 (1 + (wrap64 (Int.tmod a3 64)))) + 1))))) + (wrap64 (a4)))), .int .i64 (wrap64 (Int.tmod a2 3))] 23 (0, 0)) (by (with_reducible repeat (first | apply kN | apply kD | apply kA)); exact BK410.out)) : gb410 ≠ gb444)); have n14_ := Aside0.mk ((by rw [hg]; exact Nat.ne_of_gt (blk_lt (g := gb410) (o := .cells #[.int .i64 (wrap64 ((wrap64 (a0)) + (wrap64 (a4)))), .int .i64 (wrap64 ((wrap64 ((wrap64 (a0)) + (Int.tmod (wrap64 (a1)) (wrap64 ((wrap64 (1 + (wrap64 (Int.tmod a3 64)))) + 1))))) + (wrap64 (a4)))), .int .i64 (wrap64 (Int.tmod a2 3))] 23 (0, 0)) (by (with_reducible repeat (first | apply kN | apply kD | apply kA)); exact BK410.out)) : gb444 ≠ gb410)); have n15_ := Aside0.mk ((by rw [hg]; exact Nat.ne_of_lt (blk_lt (g := gb416) (o := .cells #[.int .i64 t411, .int .i64 t412, .int .i64 t413] 23 (0, 0)) (by (with_reducible repeat (first | apply kN | apply kD | apply kA)); exact BK416.out)) : gb416 ≠ gb444)); have n16_ := Aside0.mk ((by rw [hg]; exact Nat.ne_of_gt (blk_lt (g := gb416) (o := .cells #[.int .i64 t411, .int .i64 t412, .int .i64 t413] 23 (0, 0)) (by (with_reducible repeat (first | apply kN | apply kD | apply kA)); exact BK416.out)) : gb444 ≠ gb416)); have n17_ := Aside0.mk ((by rw [hg]; exact Nat.ne_of_lt (blk_lt (g := gb422) (o := .cells #[.int .i64 t417, .int .i64 t418, .int .i64 t419] 23 (0, 0)) (by (with_reducible repeat (first | apply kN | apply kD | apply kA)); exact BK422.out)) : gb422 ≠ gb444)); have n18_ := Aside0.mk ((by rw [hg]; exact Nat.ne_of_gt (blk_lt (g := gb422) (o := .cells #[.int .i64 t417, .int .i64 t418, .int .i64 t419] 23 (0, 0)) (by (with_reducible repeat (first | apply kN | apply kD | apply kA)); exact BK422.out)) : gb444 ≠ gb422)); have n19_ := Aside0.mk ((by rw [hg]; exact Nat.ne_of_lt (blk_lt (g := gb428) (o := .cells #[.int .i64 t423, .int .i64 t424, .int .i64 t425] 23 (0, 0)) (by (with_reducible repeat (first | apply kN | apply kD | apply kA)); exact BK428.out)) : gb428 ≠ gb444)); have n20_ := Aside0.mk ((by rw [hg]; exact Nat.ne_of_gt (blk_lt (g := gb428) (o := .cells #[.int .i64 t423, .int .i64 t424, .int .i64 t425] 23 (0, 0)) (by (with_reducible repeat (first | apply kN | apply kD | apply kA)); exact BK428.out)) : gb444 ≠ gb428)); have n21_ := Aside0.mk ((by rw [hg]; exact Nat.ne_of_lt (blk_lt (g := gb434) (o := .cells #[.int .i64 t429, .int .i64 t430, .int .i64 t431] 23 (0, 0)) (by (with_reducible repeat (first | apply kN | apply kD | apply kA)); exact BK434.out)) : gb434 ≠ gb444)); have n22_ := Aside0.mk ((by rw [hg]; exact Nat.ne_of_gt (blk_lt (g := gb434) (o := .cells #[.int .i64 t429, .int .i64 t430, .int .i64 t431] 23 (0, 0)) (by (with_reducible repeat (first | apply kN | apply kD | apply kA)); exact BK434.out)) : gb444 ≠ gb434)); have n23_ := Aside0.mk ((by rw [hg]; exact Nat.ne_of_lt (blk_lt (g := gb439) (o := .cells #[.int .i64 t435, .int .i64 t436, .int .i64 t437] 23 (0, 0)) (by (with_reducible repeat (first | apply kN | apply kD | apply kA)); exact BK439.out)) : gb439 ≠ gb444)); have n24_ := Aside0.mk ((by rw [hg]; exact Nat.ne_of_gt (blk_lt (g := gb439) (o := .cells #[.int .i64 t435, .int .i64 t436, .int .i64 t437] 23 (0, 0)) (by (with_reducible repeat (first | apply kN | apply kD | apply kA)); exact BK439.out)) : gb444 ≠ gb439)); clear BK409; clear BK410; clear BK416; clear BK422; clear BK428; clear BK434; clear BK439; clear HB; have BK409 := n0_; have BK410 := n1_; have BK416 := n2_; have BK422 := n3_; have BK428 := n4_; have BK434 := n5_; have BK439 := n6_; have HB := n7_; have BK444 := n8_; have GW444 := n9_; have GE444 := n10_; have NB409_444 := n11_; have NB444_409 := n12_; have NB410_444 := n13_; have NB444_410 := n14_; have NB416_444 := n15_; have NB444_416 := n16_; have NB422_444 := n17_; have NB444_422 := n18_; have NB428_444 := n19_; have NB444_428 := n20_; have NB434_444 := n21_; have NB444_434 := n22_; have NB439_444 := n23_; have NB444_439 := n24_; clear n0_ n1_ n2_ n3_ n4_ n5_ n6_ n7_ n8_ n9_ n10_ n11_ n12_ n13_ n14_ n15_ n16_ n17_ n18_ n19_ n20_ n21_ n22_ n23_ n24_; clear hb hbox hg; have hnb64 := NB444_409.out; have hnc64 := NB409_444.out; have hnb65 := NB444_410.out; have hnc65 := NB410_444.out; have hnb66 := NB444_416.out; have hnc66 := NB416_444.out; have hnb67 := NB444_422.out; have hnc67 := NB422_444.out; have hnb68 := NB444_428.out; have hnc68 := NB428_444.out; have hnb69 := NB444_434.out; have hnc69 := NB434_444.out; have hnb70 := NB444_439.out; have hnc70 := NB439_444.out; obtain ⟨hcz71_0, hcz71_1, hcz71_2, hfz71_0, hfz71_1, hfz71_2⟩ := cells3 (w := w63) (g := gb444) BK444.out))
  (try simp only [Act.put, List.setIfInBounds_toArray, List.set_cons_zero, List.set_cons_succ])
  go_cut [31] (fun v31 wc => ∃ (kq : Nat) (x31_13 : Bool), v31 = .bool x31_13 ∧ Aside0 (sakialaw08_WordLater.j0 kq a4 t408 t426 t427 t432 t433 t438 t443 x31_13 t423 t424 t425 t429 t430 t431 t435 t436 t437 t440 t441 t442 = some r) ∧ Aside0 (kq ≤ k) ∧ Aside0 (wc.heap[gb409]? = some (.cells #[.int .i64 (wrap64 (a0)), .int .i64 (wrap64 ((wrap64 (a0)) + (Int.tmod (wrap64 (a1)) (wrap64 ((wrap64 (1 + (wrap64 (Int.tmod a3 64)))) + 1))))), .int .i64 (wrap64 (Int.tmod a2 3))] 23 (0, 0))) ∧ Aside0 (wc.heap[gb410]? = some (.cells #[.int .i64 (wrap64 ((wrap64 (a0)) + (wrap64 (a4)))), .int .i64 (wrap64 ((wrap64 ((wrap64 (a0)) + (Int.tmod (wrap64 (a1)) (wrap64 ((wrap64 (1 + (wrap64 (Int.tmod a3 64)))) + 1))))) + (wrap64 (a4)))), .int .i64 (wrap64 (Int.tmod a2 3))] 23 (0, 0))) ∧ Aside0 (wc.heap[gb416]? = some (.cells #[.int .i64 t411, .int .i64 t412, .int .i64 t413] 23 (0, 0))) ∧ Aside0 (wc.heap[gb422]? = some (.cells #[.int .i64 t417, .int .i64 t418, .int .i64 t419] 23 (0, 0))) ∧ Aside0 (wc.heap[gb428]? = some (.cells #[.int .i64 t423, .int .i64 t424, .int .i64 t425] 23 (0, 0))) ∧ Aside0 (wc.heap[gb434]? = some (.cells #[.int .i64 t429, .int .i64 t430, .int .i64 t431] 23 (0, 0))) ∧ Aside0 (wc.heap[gb439]? = some (.cells #[.int .i64 t435, .int .i64 t436, .int .i64 t437] 23 (0, 0))) ∧ Aside0 (wc.heap[gb444]? = some (.cells #[.int .i64 t440, .int .i64 t441, .int .i64 t442] 23 (0, 0))) ∧ Aside0 (Below w.heap.size w wc))
  case first =>
   have H := HC14.out
   clear HC14
   by_cases c72 : t415 = t421
   ·rw [if_pos c72] at H
    have c72b0 : (t415 == t421) = true := beq_iff_eq.mpr c72
    have c72b1 : (t415 != t421) = false := bne_eq_false_iff_eq.mpr c72
    clear c72
    (first | rw [c72b0] | (simp only [i64_w, i32_w]; rw [c72b0]) | skip)
    by_cases c73 : (wrap64 (t412 + (wrap64 (a4)))) = t418
    ·rw [if_pos c73] at H
     have c73b0 : ((wrap64 (t412 + (wrap64 (a4)))) == t418) = true := beq_iff_eq.mpr c73
     have c73b1 : ((wrap64 (t412 + (wrap64 (a4)))) != t418) = false := bne_eq_false_iff_eq.mpr c73
     clear c73
     by_cases c74 : t415 = 1
     ·rw [if_pos c74] at H
      have c74b0 : (t415 == 1) = true := beq_iff_eq.mpr c74
      have c74b1 : (t415 != 1) = false := bne_eq_false_iff_eq.mpr c74
      clear c74
      have H' := Aside0.mk H
      clear H
      have hnb75 := NB416_409.out
      have hnc75 := NB409_416.out
      have hnb76 := NB416_410.out
      have hnc76 := NB410_416.out
      have hnb77 := NB416_422.out
      have hnc77 := NB422_416.out
      have hnb78 := NB416_428.out
      have hnc78 := NB428_416.out
      have hnb79 := NB416_434.out
      have hnc79 := NB434_416.out
      have hnb80 := NB416_439.out
      have hnc80 := NB439_416.out
      have hnb81 := NB416_444.out
      have hnc81 := NB444_416.out
      obtain ⟨hcz82_0, hcz82_1, hcz82_2, hfz82_0, hfz82_1, hfz82_2⟩ := cells3 (w := w63) (g := gb416) BK416.out
      have hnb83 := NB422_409.out
      have hnc83 := NB409_422.out
      have hnb84 := NB422_410.out
      have hnc84 := NB410_422.out
      have hnb85 := NB422_428.out
      have hnc85 := NB428_422.out
      have hnb86 := NB422_434.out
      have hnc86 := NB434_422.out
      have hnb87 := NB422_439.out
      have hnc87 := NB439_422.out
      have hnb88 := NB422_444.out
      have hnc88 := NB444_422.out
      obtain ⟨hcz89_0, hcz89_1, hcz89_2, hfz89_0, hfz89_1, hfz89_2⟩ := cells3 (w := w63) (g := gb422) BK422.out
      go_wp2
      go_meet
      case rel => exact ⟨_, (((wrap64 (t414 + (wrap64 (a4)))) == t420)), (by first | rfl | (simp; done) | (simp [*]; done)), H', ⟨by first | omega | exact Nat.le_refl _⟩, ⟨by (with_reducible repeat (first | apply kN | apply kD | apply kA)); refine blk_far ?_ NB409_444.out _; (with_reducible repeat (first | apply kN | apply kD | apply kA)); refine blk_far ?_ NB409_444.out _; (with_reducible repeat (first | apply kN | apply kD | apply kA)); refine blk_far ?_ NB409_444.out _; (with_reducible repeat (first | apply kN | apply kD | apply kA)); exact BK409.out⟩, ⟨by (with_reducible repeat (first | apply kN | apply kD | apply kA)); refine blk_far ?_ NB410_444.out _; (with_reducible repeat (first | apply kN | apply kD | apply kA)); refine blk_far ?_ NB410_444.out _; (with_reducible repeat (first | apply kN | apply kD | apply kA)); refine blk_far ?_ NB410_444.out _; (with_reducible repeat (first | apply kN | apply kD | apply kA)); exact BK410.out⟩, ⟨by (with_reducible repeat (first | apply kN | apply kD | apply kA)); refine blk_far ?_ NB416_444.out _; (with_reducible repeat (first | apply kN | apply kD | apply kA)); refine blk_far ?_ NB416_444.out _; (with_reducible repeat (first | apply kN | apply kD | apply kA)); refine blk_far ?_ NB416_444.out _; (with_reducible repeat (first | apply kN | apply kD | apply kA)); exact BK416.out⟩, ⟨by (with_reducible repeat (first | apply kN | apply kD | apply kA)); refine blk_far ?_ NB422_444.out _; (with_reducible repeat (first | apply kN | apply kD | apply kA)); refine blk_far ?_ NB422_444.out _; (with_reducible repeat (first | apply kN | apply kD | apply kA)); refine blk_far ?_ NB422_444.out _; (with_reducible repeat (first | apply kN | apply kD | apply kA)); exact BK422.out⟩, ⟨by (with_reducible repeat (first | apply kN | apply kD | apply kA)); refine blk_far ?_ NB428_444.out _; (with_reducible repeat (first | apply kN | apply kD | apply kA)); refine blk_far ?_ NB428_444.out _; (with_reducible repeat (first | apply kN | apply kD | apply kA)); refine blk_far ?_ NB428_444.out _; (with_reducible repeat (first | apply kN | apply kD | apply kA)); exact BK428.out⟩, ⟨by (with_reducible repeat (first | apply kN | apply kD | apply kA)); refine blk_far ?_ NB434_444.out _; (with_reducible repeat (first | apply kN | apply kD | apply kA)); refine blk_far ?_ NB434_444.out _; (with_reducible repeat (first | apply kN | apply kD | apply kA)); refine blk_far ?_ NB434_444.out _; (with_reducible repeat (first | apply kN | apply kD | apply kA)); exact BK434.out⟩, ⟨by (with_reducible repeat (first | apply kN | apply kD | apply kA)); refine blk_far ?_ NB439_444.out _; (with_reducible repeat (first | apply kN | apply kD | apply kA)); refine blk_far ?_ NB439_444.out _; (with_reducible repeat (first | apply kN | apply kD | apply kA)); refine blk_far ?_ NB439_444.out _; (with_reducible repeat (first | apply kN | apply kD | apply kA)); exact BK439.out⟩, ⟨by (with_reducible repeat (first | apply kN | apply kD | apply kA)); refine blk_put (cs := #[.int .i64 t440, .int .i64 t441, .int .i64 0]) ?_ 2 _ rfl; (with_reducible repeat (first | apply kN | apply kD | apply kA)); refine blk_put (cs := #[.int .i64 t440, .int .i64 0, .int .i64 0]) ?_ 1 _ rfl; (with_reducible repeat (first | apply kN | apply kD | apply kA)); refine blk_put (cs := #[.int .i64 0, .int .i64 0, .int .i64 0]) ?_ 0 _ rfl; (with_reducible repeat (first | apply kN | apply kD | apply kA)); exact BK444.out⟩, ⟨by repeat (first | (with_reducible first | exact HB.out | apply bA | apply bN | apply bD | refine below_set ?_ GE409.out | refine below_set ?_ GE410.out | refine below_set ?_ GE416.out | refine below_set ?_ GE422.out | refine below_set ?_ GE428.out | refine below_set ?_ GE434.out | refine below_set ?_ GE439.out | refine below_set ?_ GE444.out) | exact HB.out)⟩⟩
     ·rw [if_neg c74] at H
      have c74b0 : (t415 == 1) = false := beq_eq_false_iff_ne.mpr c74
      have c74b1 : (t415 != 1) = true := bne_iff_ne.mpr c74
      have H' := Aside0.mk H
      clear H
      have hnb90 := NB416_409.out
      have hnc90 := NB409_416.out
      have hnb91 := NB416_410.out
      have hnc91 := NB410_416.out
      have hnb92 := NB416_422.out
      have hnc92 := NB422_416.out
      have hnb93 := NB416_428.out
      have hnc93 := NB428_416.out
      have hnb94 := NB416_434.out
      have hnc94 := NB434_416.out
      have hnb95 := NB416_439.out
      have hnc95 := NB439_416.out
      have hnb96 := NB416_444.out
      have hnc96 := NB444_416.out
      obtain ⟨hcz97_0, hcz97_1, hcz97_2, hfz97_0, hfz97_1, hfz97_2⟩ := cells3 (w := w63) (g := gb416) BK416.out
      have hnb98 := NB422_409.out
      have hnc98 := NB409_422.out
      have hnb99 := NB422_410.out
      have hnc99 := NB410_422.out
      have hnb100 := NB422_428.out
      have hnc100 := NB428_422.out
      have hnb101 := NB422_434.out
      have hnc101 := NB434_422.out
      have hnb102 := NB422_439.out
      have hnc102 := NB439_422.out
      have hnb103 := NB422_444.out
      have hnc103 := NB444_422.out
      obtain ⟨hcz104_0, hcz104_1, hcz104_2, hfz104_0, hfz104_1, hfz104_2⟩ := cells3 (w := w63) (g := gb422) BK422.out
      go_wp2
      go_meet
      case rel => exact ⟨_, (true), (by first | rfl | (simp; done) | (simp [*]; done)), H', ⟨by first | omega | exact Nat.le_refl _⟩, ⟨by (with_reducible repeat (first | apply kN | apply kD | apply kA)); refine blk_far ?_ NB409_444.out _; (with_reducible repeat (first | apply kN | apply kD | apply kA)); refine blk_far ?_ NB409_444.out _; (with_reducible repeat (first | apply kN | apply kD | apply kA)); refine blk_far ?_ NB409_444.out _; (with_reducible repeat (first | apply kN | apply kD | apply kA)); exact BK409.out⟩, ⟨by (with_reducible repeat (first | apply kN | apply kD | apply kA)); refine blk_far ?_ NB410_444.out _; (with_reducible repeat (first | apply kN | apply kD | apply kA)); refine blk_far ?_ NB410_444.out _; (with_reducible repeat (first | apply kN | apply kD | apply kA)); refine blk_far ?_ NB410_444.out _; (with_reducible repeat (first | apply kN | apply kD | apply kA)); exact BK410.out⟩, ⟨by (with_reducible repeat (first | apply kN | apply kD | apply kA)); refine blk_far ?_ NB416_444.out _; (with_reducible repeat (first | apply kN | apply kD | apply kA)); refine blk_far ?_ NB416_444.out _; (with_reducible repeat (first | apply kN | apply kD | apply kA)); refine blk_far ?_ NB416_444.out _; (with_reducible repeat (first | apply kN | apply kD | apply kA)); exact BK416.out⟩, ⟨by (with_reducible repeat (first | apply kN | apply kD | apply kA)); refine blk_far ?_ NB422_444.out _; (with_reducible repeat (first | apply kN | apply kD | apply kA)); refine blk_far ?_ NB422_444.out _; (with_reducible repeat (first | apply kN | apply kD | apply kA)); refine blk_far ?_ NB422_444.out _; (with_reducible repeat (first | apply kN | apply kD | apply kA)); exact BK422.out⟩, ⟨by (with_reducible repeat (first | apply kN | apply kD | apply kA)); refine blk_far ?_ NB428_444.out _; (with_reducible repeat (first | apply kN | apply kD | apply kA)); refine blk_far ?_ NB428_444.out _; (with_reducible repeat (first | apply kN | apply kD | apply kA)); refine blk_far ?_ NB428_444.out _; (with_reducible repeat (first | apply kN | apply kD | apply kA)); exact BK428.out⟩, ⟨by (with_reducible repeat (first | apply kN | apply kD | apply kA)); refine blk_far ?_ NB434_444.out _; (with_reducible repeat (first | apply kN | apply kD | apply kA)); refine blk_far ?_ NB434_444.out _; (with_reducible repeat (first | apply kN | apply kD | apply kA)); refine blk_far ?_ NB434_444.out _; (with_reducible repeat (first | apply kN | apply kD | apply kA)); exact BK434.out⟩, ⟨by (with_reducible repeat (first | apply kN | apply kD | apply kA)); refine blk_far ?_ NB439_444.out _; (with_reducible repeat (first | apply kN | apply kD | apply kA)); refine blk_far ?_ NB439_444.out _; (with_reducible repeat (first | apply kN | apply kD | apply kA)); refine blk_far ?_ NB439_444.out _; (with_reducible repeat (first | apply kN | apply kD | apply kA)); exact BK439.out⟩, ⟨by (with_reducible repeat (first | apply kN | apply kD | apply kA)); refine blk_put (cs := #[.int .i64 t440, .int .i64 t441, .int .i64 0]) ?_ 2 _ rfl; (with_reducible repeat (first | apply kN | apply kD | apply kA)); refine blk_put (cs := #[.int .i64 t440, .int .i64 0, .int .i64 0]) ?_ 1 _ rfl; (with_reducible repeat (first | apply kN | apply kD | apply kA)); refine blk_put (cs := #[.int .i64 0, .int .i64 0, .int .i64 0]) ?_ 0 _ rfl; (with_reducible repeat (first | apply kN | apply kD | apply kA)); exact BK444.out⟩, ⟨by repeat (first | (with_reducible first | exact HB.out | apply bA | apply bN | apply bD | refine below_set ?_ GE409.out | refine below_set ?_ GE410.out | refine below_set ?_ GE416.out | refine below_set ?_ GE422.out | refine below_set ?_ GE428.out | refine below_set ?_ GE434.out | refine below_set ?_ GE439.out | refine below_set ?_ GE444.out) | exact HB.out)⟩⟩
    ·rw [if_neg c73] at H
     have c73b0 : ((wrap64 (t412 + (wrap64 (a4)))) == t418) = false := beq_eq_false_iff_ne.mpr c73
     have c73b1 : ((wrap64 (t412 + (wrap64 (a4)))) != t418) = true := bne_iff_ne.mpr c73
     have H' := Aside0.mk H
     clear H
     have hnb105 := NB416_409.out
     have hnc105 := NB409_416.out
     have hnb106 := NB416_410.out
     have hnc106 := NB410_416.out
     have hnb107 := NB416_422.out
     have hnc107 := NB422_416.out
     have hnb108 := NB416_428.out
     have hnc108 := NB428_416.out
     have hnb109 := NB416_434.out
     have hnc109 := NB434_416.out
     have hnb110 := NB416_439.out
     have hnc110 := NB439_416.out
     have hnb111 := NB416_444.out
     have hnc111 := NB444_416.out
     obtain ⟨hcz112_0, hcz112_1, hcz112_2, hfz112_0, hfz112_1, hfz112_2⟩ := cells3 (w := w63) (g := gb416) BK416.out
     have hnb113 := NB422_409.out
     have hnc113 := NB409_422.out
     have hnb114 := NB422_410.out
     have hnc114 := NB410_422.out
     have hnb115 := NB422_428.out
     have hnc115 := NB428_422.out
     have hnb116 := NB422_434.out
     have hnc116 := NB434_422.out
     have hnb117 := NB422_439.out
     have hnc117 := NB439_422.out
     have hnb118 := NB422_444.out
     have hnc118 := NB444_422.out
     obtain ⟨hcz119_0, hcz119_1, hcz119_2, hfz119_0, hfz119_1, hfz119_2⟩ := cells3 (w := w63) (g := gb422) BK422.out
     go_wp2
     go_meet
     case rel => exact ⟨_, (false), (by first | rfl | (simp; done) | (simp [*]; done)), H', ⟨by first | omega | exact Nat.le_refl _⟩, ⟨by (with_reducible repeat (first | apply kN | apply kD | apply kA)); refine blk_far ?_ NB409_444.out _; (with_reducible repeat (first | apply kN | apply kD | apply kA)); refine blk_far ?_ NB409_444.out _; (with_reducible repeat (first | apply kN | apply kD | apply kA)); refine blk_far ?_ NB409_444.out _; (with_reducible repeat (first | apply kN | apply kD | apply kA)); exact BK409.out⟩, ⟨by (with_reducible repeat (first | apply kN | apply kD | apply kA)); refine blk_far ?_ NB410_444.out _; (with_reducible repeat (first | apply kN | apply kD | apply kA)); refine blk_far ?_ NB410_444.out _; (with_reducible repeat (first | apply kN | apply kD | apply kA)); refine blk_far ?_ NB410_444.out _; (with_reducible repeat (first | apply kN | apply kD | apply kA)); exact BK410.out⟩, ⟨by (with_reducible repeat (first | apply kN | apply kD | apply kA)); refine blk_far ?_ NB416_444.out _; (with_reducible repeat (first | apply kN | apply kD | apply kA)); refine blk_far ?_ NB416_444.out _; (with_reducible repeat (first | apply kN | apply kD | apply kA)); refine blk_far ?_ NB416_444.out _; (with_reducible repeat (first | apply kN | apply kD | apply kA)); exact BK416.out⟩, ⟨by (with_reducible repeat (first | apply kN | apply kD | apply kA)); refine blk_far ?_ NB422_444.out _; (with_reducible repeat (first | apply kN | apply kD | apply kA)); refine blk_far ?_ NB422_444.out _; (with_reducible repeat (first | apply kN | apply kD | apply kA)); refine blk_far ?_ NB422_444.out _; (with_reducible repeat (first | apply kN | apply kD | apply kA)); exact BK422.out⟩, ⟨by (with_reducible repeat (first | apply kN | apply kD | apply kA)); refine blk_far ?_ NB428_444.out _; (with_reducible repeat (first | apply kN | apply kD | apply kA)); refine blk_far ?_ NB428_444.out _; (with_reducible repeat (first | apply kN | apply kD | apply kA)); refine blk_far ?_ NB428_444.out _; (with_reducible repeat (first | apply kN | apply kD | apply kA)); exact BK428.out⟩, ⟨by (with_reducible repeat (first | apply kN | apply kD | apply kA)); refine blk_far ?_ NB434_444.out _; (with_reducible repeat (first | apply kN | apply kD | apply kA)); refine blk_far ?_ NB434_444.out _; (with_reducible repeat (first | apply kN | apply kD | apply kA)); refine blk_far ?_ NB434_444.out _; (with_reducible repeat (first | apply kN | apply kD | apply kA)); exact BK434.out⟩, ⟨by (with_reducible repeat (first | apply kN | apply kD | apply kA)); refine blk_far ?_ NB439_444.out _; (with_reducible repeat (first | apply kN | apply kD | apply kA)); refine blk_far ?_ NB439_444.out _; (with_reducible repeat (first | apply kN | apply kD | apply kA)); refine blk_far ?_ NB439_444.out _; (with_reducible repeat (first | apply kN | apply kD | apply kA)); exact BK439.out⟩, ⟨by (with_reducible repeat (first | apply kN | apply kD | apply kA)); refine blk_put (cs := #[.int .i64 t440, .int .i64 t441, .int .i64 0]) ?_ 2 _ rfl; (with_reducible repeat (first | apply kN | apply kD | apply kA)); refine blk_put (cs := #[.int .i64 t440, .int .i64 0, .int .i64 0]) ?_ 1 _ rfl; (with_reducible repeat (first | apply kN | apply kD | apply kA)); refine blk_put (cs := #[.int .i64 0, .int .i64 0, .int .i64 0]) ?_ 0 _ rfl; (with_reducible repeat (first | apply kN | apply kD | apply kA)); exact BK444.out⟩, ⟨by repeat (first | (with_reducible first | exact HB.out | apply bA | apply bN | apply bD | refine below_set ?_ GE409.out | refine below_set ?_ GE410.out | refine below_set ?_ GE416.out | refine below_set ?_ GE422.out | refine below_set ?_ GE428.out | refine below_set ?_ GE434.out | refine below_set ?_ GE439.out | refine below_set ?_ GE444.out) | exact HB.out)⟩⟩
   ·rw [if_neg c72] at H
    have c72b0 : (t415 == t421) = false := beq_eq_false_iff_ne.mpr c72
    have c72b1 : (t415 != t421) = true := bne_iff_ne.mpr c72
    (first | rw [c72b0] | (simp only [i64_w, i32_w]; rw [c72b0]) | skip)
    have H' := Aside0.mk H
    clear H
    go_wp2
    go_meet
    case rel => exact ⟨_, (false), (by first | rfl | (simp; done) | (simp [*]; done)), H', ⟨by first | omega | exact Nat.le_refl _⟩, ⟨by (with_reducible repeat (first | apply kN | apply kD | apply kA)); refine blk_far ?_ NB409_444.out _; (with_reducible repeat (first | apply kN | apply kD | apply kA)); refine blk_far ?_ NB409_444.out _; (with_reducible repeat (first | apply kN | apply kD | apply kA)); refine blk_far ?_ NB409_444.out _; (with_reducible repeat (first | apply kN | apply kD | apply kA)); exact BK409.out⟩, ⟨by (with_reducible repeat (first | apply kN | apply kD | apply kA)); refine blk_far ?_ NB410_444.out _; (with_reducible repeat (first | apply kN | apply kD | apply kA)); refine blk_far ?_ NB410_444.out _; (with_reducible repeat (first | apply kN | apply kD | apply kA)); refine blk_far ?_ NB410_444.out _; (with_reducible repeat (first | apply kN | apply kD | apply kA)); exact BK410.out⟩, ⟨by (with_reducible repeat (first | apply kN | apply kD | apply kA)); refine blk_far ?_ NB416_444.out _; (with_reducible repeat (first | apply kN | apply kD | apply kA)); refine blk_far ?_ NB416_444.out _; (with_reducible repeat (first | apply kN | apply kD | apply kA)); refine blk_far ?_ NB416_444.out _; (with_reducible repeat (first | apply kN | apply kD | apply kA)); exact BK416.out⟩, ⟨by (with_reducible repeat (first | apply kN | apply kD | apply kA)); refine blk_far ?_ NB422_444.out _; (with_reducible repeat (first | apply kN | apply kD | apply kA)); refine blk_far ?_ NB422_444.out _; (with_reducible repeat (first | apply kN | apply kD | apply kA)); refine blk_far ?_ NB422_444.out _; (with_reducible repeat (first | apply kN | apply kD | apply kA)); exact BK422.out⟩, ⟨by (with_reducible repeat (first | apply kN | apply kD | apply kA)); refine blk_far ?_ NB428_444.out _; (with_reducible repeat (first | apply kN | apply kD | apply kA)); refine blk_far ?_ NB428_444.out _; (with_reducible repeat (first | apply kN | apply kD | apply kA)); refine blk_far ?_ NB428_444.out _; (with_reducible repeat (first | apply kN | apply kD | apply kA)); exact BK428.out⟩, ⟨by (with_reducible repeat (first | apply kN | apply kD | apply kA)); refine blk_far ?_ NB434_444.out _; (with_reducible repeat (first | apply kN | apply kD | apply kA)); refine blk_far ?_ NB434_444.out _; (with_reducible repeat (first | apply kN | apply kD | apply kA)); refine blk_far ?_ NB434_444.out _; (with_reducible repeat (first | apply kN | apply kD | apply kA)); exact BK434.out⟩, ⟨by (with_reducible repeat (first | apply kN | apply kD | apply kA)); refine blk_far ?_ NB439_444.out _; (with_reducible repeat (first | apply kN | apply kD | apply kA)); refine blk_far ?_ NB439_444.out _; (with_reducible repeat (first | apply kN | apply kD | apply kA)); refine blk_far ?_ NB439_444.out _; (with_reducible repeat (first | apply kN | apply kD | apply kA)); exact BK439.out⟩, ⟨by (with_reducible repeat (first | apply kN | apply kD | apply kA)); refine blk_put (cs := #[.int .i64 t440, .int .i64 t441, .int .i64 0]) ?_ 2 _ rfl; (with_reducible repeat (first | apply kN | apply kD | apply kA)); refine blk_put (cs := #[.int .i64 t440, .int .i64 0, .int .i64 0]) ?_ 1 _ rfl; (with_reducible repeat (first | apply kN | apply kD | apply kA)); refine blk_put (cs := #[.int .i64 0, .int .i64 0, .int .i64 0]) ?_ 0 _ rfl; (with_reducible repeat (first | apply kN | apply kD | apply kA)); exact BK444.out⟩, ⟨by repeat (first | (with_reducible first | exact HB.out | apply bA | apply bN | apply bD | refine below_set ?_ GE409.out | refine below_set ?_ GE410.out | refine below_set ?_ GE416.out | refine below_set ?_ GE422.out | refine below_set ?_ GE428.out | refine below_set ?_ GE434.out | refine below_set ?_ GE439.out | refine below_set ?_ GE444.out) | exact HB.out)⟩⟩
  case rest =>
   clear HC14
   try clear c1
   try clear c2
   try clear p2
   try clear c3
   try clear c4
   try clear c5
   try clear c6
   try clear p6
   try clear c7
   try clear c7b0
   try clear c7b1
   try clear c8
   try clear c9
   try clear c10
   try clear c11
   try clear c15
   try clear c16
   try clear c18
   try clear c19
   try clear c20
   try clear c24
   try clear c25
   try clear c30
   try clear c31
   try clear c32
   try clear c37
   try clear c38
   try clear c39
   try clear c40
   try clear c45
   try clear c46
   try clear c47
   try clear c48
   try clear c49
   try clear c54
   try clear c55
   try clear c56
   try clear c57
   try clear c58
   try clear c59
   try clear c64
   try clear p64
   try clear c65
   try clear c66
   try clear c67
   try clear c68
   try clear c69
   try clear c70
   try clear c72
   try clear c72b0
   try clear c72b1
   try clear c73
   try clear c73b0
   try clear c73b1
   try clear c74
   try clear c74b0
   try clear c74b1
   try clear c75
   try clear c76
   try clear c77
   try clear c78
   try clear c79
   try clear c80
   try clear c81
   try clear c83
   try clear c84
   try clear c85
   try clear c86
   try clear c87
   try clear c88
   try clear c90
   try clear c91
   try clear c92
   try clear c93
   try clear c94
   try clear c95
   try clear c96
   try clear c98
   try clear c99
   try clear c100
   try clear c101
   try clear c102
   try clear c103
   try clear c105
   try clear c106
   try clear c107
   try clear c108
   try clear c109
   try clear c110
   try clear c111
   try clear c113
   try clear c114
   try clear c115
   try clear c116
   try clear c117
   try clear c118
   try clear hcz104_0
   try clear hcz104_1
   try clear hcz104_2
   try clear hcz112_0
   try clear hcz112_1
   try clear hcz112_2
   try clear hcz119_0
   try clear hcz119_1
   try clear hcz119_2
   try clear hcz17_0
   try clear hcz17_1
   try clear hcz17_2
   try clear hcz20_0
   try clear hcz20_1
   try clear hcz20_2
   try clear hcz21_0
   try clear hcz21_1
   try clear hcz21_2
   try clear hcz26_0
   try clear hcz26_1
   try clear hcz26_2
   try clear hcz27_0
   try clear hcz27_1
   try clear hcz27_2
   try clear hcz33_0
   try clear hcz33_1
   try clear hcz33_2
   try clear hcz34_0
   try clear hcz34_1
   try clear hcz34_2
   try clear hcz41_0
   try clear hcz41_1
   try clear hcz41_2
   try clear hcz42_0
   try clear hcz42_1
   try clear hcz42_2
   try clear hcz50_0
   try clear hcz50_1
   try clear hcz50_2
   try clear hcz51_0
   try clear hcz51_1
   try clear hcz51_2
   try clear hcz60_0
   try clear hcz60_1
   try clear hcz60_2
   try clear hcz61_0
   try clear hcz61_1
   try clear hcz61_2
   try clear hcz71_0
   try clear hcz71_1
   try clear hcz71_2
   try clear hcz82_0
   try clear hcz82_1
   try clear hcz82_2
   try clear hcz89_0
   try clear hcz89_1
   try clear hcz89_2
   try clear hcz97_0
   try clear hcz97_1
   try clear hcz97_2
   try clear hfz104_0
   try clear hfz104_1
   try clear hfz104_2
   try clear hfz112_0
   try clear hfz112_1
   try clear hfz112_2
   try clear hfz119_0
   try clear hfz119_1
   try clear hfz119_2
   try clear hfz17_0
   try clear hfz17_1
   try clear hfz17_2
   try clear hfz20_0
   try clear hfz20_1
   try clear hfz20_2
   try clear hfz21_0
   try clear hfz21_1
   try clear hfz21_2
   try clear hfz26_0
   try clear hfz26_1
   try clear hfz26_2
   try clear hfz27_0
   try clear hfz27_1
   try clear hfz27_2
   try clear hfz33_0
   try clear hfz33_1
   try clear hfz33_2
   try clear hfz34_0
   try clear hfz34_1
   try clear hfz34_2
   try clear hfz41_0
   try clear hfz41_1
   try clear hfz41_2
   try clear hfz42_0
   try clear hfz42_1
   try clear hfz42_2
   try clear hfz50_0
   try clear hfz50_1
   try clear hfz50_2
   try clear hfz51_0
   try clear hfz51_1
   try clear hfz51_2
   try clear hfz60_0
   try clear hfz60_1
   try clear hfz60_2
   try clear hfz61_0
   try clear hfz61_1
   try clear hfz61_2
   try clear hfz71_0
   try clear hfz71_1
   try clear hfz71_2
   try clear hfz82_0
   try clear hfz82_1
   try clear hfz82_2
   try clear hfz89_0
   try clear hfz89_1
   try clear hfz89_2
   try clear hfz97_0
   try clear hfz97_1
   try clear hfz97_2
   obtain ⟨kq, x31_13, rfl, HA, HJ13, BK409, BK410, BK416, BK422, BK428, BK434, BK439, BK444, HB⟩ := hcut
   cases kq with
   | zero => exact absurd HA.out (by simp [sakialaw08_WordLater.j0])
   | succ kj13 =>
    have H := HA.out
    clear HA
    simp only [sakialaw08_WordLater.j0] at H
    have HC120 := Aside0.mk H
    clear H
    go_upto_region 12 with (fail)
    go_cut [32] (fun v32 wc => ∃ (kq : Nat) (x32_119 : Bool), v32 = .bool x32_119 ∧ Aside0 (sakialaw08_WordLater.j1 kq a4 t408 t438 t443 x31_13 x32_119 t435 t436 t437 t440 t441 t442 = some r) ∧ Aside0 (kq ≤ kj13) ∧ Aside0 (wc.heap[gb409]? = some (.cells #[.int .i64 (wrap64 (a0)), .int .i64 (wrap64 ((wrap64 (a0)) + (Int.tmod (wrap64 (a1)) (wrap64 ((wrap64 (1 + (wrap64 (Int.tmod a3 64)))) + 1))))), .int .i64 (wrap64 (Int.tmod a2 3))] 23 (0, 0))) ∧ Aside0 (wc.heap[gb410]? = some (.cells #[.int .i64 (wrap64 ((wrap64 (a0)) + (wrap64 (a4)))), .int .i64 (wrap64 ((wrap64 ((wrap64 (a0)) + (Int.tmod (wrap64 (a1)) (wrap64 ((wrap64 (1 + (wrap64 (Int.tmod a3 64)))) + 1))))) + (wrap64 (a4)))), .int .i64 (wrap64 (Int.tmod a2 3))] 23 (0, 0))) ∧ Aside0 (wc.heap[gb416]? = some (.cells #[.int .i64 t411, .int .i64 t412, .int .i64 t413] 23 (0, 0))) ∧ Aside0 (wc.heap[gb422]? = some (.cells #[.int .i64 t417, .int .i64 t418, .int .i64 t419] 23 (0, 0))) ∧ Aside0 (wc.heap[gb428]? = some (.cells #[.int .i64 t423, .int .i64 t424, .int .i64 t425] 23 (0, 0))) ∧ Aside0 (wc.heap[gb434]? = some (.cells #[.int .i64 t429, .int .i64 t430, .int .i64 t431] 23 (0, 0))) ∧ Aside0 (wc.heap[gb439]? = some (.cells #[.int .i64 t435, .int .i64 t436, .int .i64 t437] 23 (0, 0))) ∧ Aside0 (wc.heap[gb444]? = some (.cells #[.int .i64 t440, .int .i64 t441, .int .i64 t442] 23 (0, 0))) ∧ Aside0 (Below w.heap.size w wc))
    case first =>
     have H := HC120.out
     clear HC120
     by_cases c121 : t427 = t433
     ·rw [if_pos c121] at H
      have c121b0 : (t427 == t433) = true := beq_iff_eq.mpr c121
      have c121b1 : (t427 != t433) = false := bne_eq_false_iff_eq.mpr c121
      clear c121
      (first | rw [c121b0] | (simp only [i64_w, i32_w]; rw [c121b0]) | skip)
      by_cases c122 : (wrap64 (t423 + (wrap64 (a4)))) = t429
      ·rw [if_pos c122] at H
       have c122b0 : ((wrap64 (t423 + (wrap64 (a4)))) == t429) = true := beq_iff_eq.mpr c122
       have c122b1 : ((wrap64 (t423 + (wrap64 (a4)))) != t429) = false := bne_eq_false_iff_eq.mpr c122
       clear c122
       by_cases c123 : t427 = 1
       ·rw [if_pos c123] at H
        have c123b0 : (t427 == 1) = true := beq_iff_eq.mpr c123
        have c123b1 : (t427 != 1) = false := bne_eq_false_iff_eq.mpr c123
        clear c123
        have H' := Aside0.mk H
        clear H
        have hnb124 := NB428_409.out
        have hnc124 := NB409_428.out
        have hnb125 := NB428_410.out
        have hnc125 := NB410_428.out
        have hnb126 := NB428_416.out
        have hnc126 := NB416_428.out
        have hnb127 := NB428_422.out
        have hnc127 := NB422_428.out
        have hnb128 := NB428_434.out
        have hnc128 := NB434_428.out
        have hnb129 := NB428_439.out
        have hnc129 := NB439_428.out
        have hnb130 := NB428_444.out
        have hnc130 := NB444_428.out
        obtain ⟨hcz131_0, hcz131_1, hcz131_2, hfz131_0, hfz131_1, hfz131_2⟩ := cells3 (w := wc) (g := gb428) BK428.out
        have hnb132 := NB434_409.out
        have hnc132 := NB409_434.out
        have hnb133 := NB434_410.out
        have hnc133 := NB410_434.out
        have hnb134 := NB434_416.out
        have hnc134 := NB416_434.out
        have hnb135 := NB434_422.out
        have hnc135 := NB422_434.out
        have hnb136 := NB434_439.out
        have hnc136 := NB439_434.out
        have hnb137 := NB434_444.out
        have hnc137 := NB444_434.out
        obtain ⟨hcz138_0, hcz138_1, hcz138_2, hfz138_0, hfz138_1, hfz138_2⟩ := cells3 (w := wc) (g := gb434) BK434.out
        go_wp2
        go_meet
        case rel => exact ⟨_, (((wrap64 (t426 + (wrap64 (a4)))) == t432)), (by first | rfl | (simp; done) | (simp [*]; done)), H', ⟨by have := HJ13.out; first | omega | exact Nat.le_refl _⟩, ⟨by (with_reducible repeat (first | apply kN | apply kD | apply kA)); exact BK409.out⟩, ⟨by (with_reducible repeat (first | apply kN | apply kD | apply kA)); exact BK410.out⟩, ⟨by (with_reducible repeat (first | apply kN | apply kD | apply kA)); exact BK416.out⟩, ⟨by (with_reducible repeat (first | apply kN | apply kD | apply kA)); exact BK422.out⟩, ⟨by (with_reducible repeat (first | apply kN | apply kD | apply kA)); exact BK428.out⟩, ⟨by (with_reducible repeat (first | apply kN | apply kD | apply kA)); exact BK434.out⟩, ⟨by (with_reducible repeat (first | apply kN | apply kD | apply kA)); exact BK439.out⟩, ⟨by (with_reducible repeat (first | apply kN | apply kD | apply kA)); exact BK444.out⟩, ⟨by repeat (first | (with_reducible first | exact HB.out | apply bA | apply bN | apply bD | refine below_set ?_ GE409.out | refine below_set ?_ GE410.out | refine below_set ?_ GE416.out | refine below_set ?_ GE422.out | refine below_set ?_ GE428.out | refine below_set ?_ GE434.out | refine below_set ?_ GE439.out | refine below_set ?_ GE444.out) | exact HB.out)⟩⟩
       ·rw [if_neg c123] at H
        have c123b0 : (t427 == 1) = false := beq_eq_false_iff_ne.mpr c123
        have c123b1 : (t427 != 1) = true := bne_iff_ne.mpr c123
        have H' := Aside0.mk H
        clear H
        have hnb139 := NB428_409.out
        have hnc139 := NB409_428.out
        have hnb140 := NB428_410.out
        have hnc140 := NB410_428.out
        have hnb141 := NB428_416.out
        have hnc141 := NB416_428.out
        have hnb142 := NB428_422.out
        have hnc142 := NB422_428.out
        have hnb143 := NB428_434.out
        have hnc143 := NB434_428.out
        have hnb144 := NB428_439.out
        have hnc144 := NB439_428.out
        have hnb145 := NB428_444.out
        have hnc145 := NB444_428.out
        obtain ⟨hcz146_0, hcz146_1, hcz146_2, hfz146_0, hfz146_1, hfz146_2⟩ := cells3 (w := wc) (g := gb428) BK428.out
        have hnb147 := NB434_409.out
        have hnc147 := NB409_434.out
        have hnb148 := NB434_410.out
        have hnc148 := NB410_434.out
        have hnb149 := NB434_416.out
        have hnc149 := NB416_434.out
        have hnb150 := NB434_422.out
        have hnc150 := NB422_434.out
        have hnb151 := NB434_439.out
        have hnc151 := NB439_434.out
        have hnb152 := NB434_444.out
        have hnc152 := NB444_434.out
        obtain ⟨hcz153_0, hcz153_1, hcz153_2, hfz153_0, hfz153_1, hfz153_2⟩ := cells3 (w := wc) (g := gb434) BK434.out
        go_wp2
        go_meet
        case rel => exact ⟨_, (true), (by first | rfl | (simp; done) | (simp [*]; done)), H', ⟨by have := HJ13.out; first | omega | exact Nat.le_refl _⟩, ⟨by (with_reducible repeat (first | apply kN | apply kD | apply kA)); exact BK409.out⟩, ⟨by (with_reducible repeat (first | apply kN | apply kD | apply kA)); exact BK410.out⟩, ⟨by (with_reducible repeat (first | apply kN | apply kD | apply kA)); exact BK416.out⟩, ⟨by (with_reducible repeat (first | apply kN | apply kD | apply kA)); exact BK422.out⟩, ⟨by (with_reducible repeat (first | apply kN | apply kD | apply kA)); exact BK428.out⟩, ⟨by (with_reducible repeat (first | apply kN | apply kD | apply kA)); exact BK434.out⟩, ⟨by (with_reducible repeat (first | apply kN | apply kD | apply kA)); exact BK439.out⟩, ⟨by (with_reducible repeat (first | apply kN | apply kD | apply kA)); exact BK444.out⟩, ⟨by repeat (first | (with_reducible first | exact HB.out | apply bA | apply bN | apply bD | refine below_set ?_ GE409.out | refine below_set ?_ GE410.out | refine below_set ?_ GE416.out | refine below_set ?_ GE422.out | refine below_set ?_ GE428.out | refine below_set ?_ GE434.out | refine below_set ?_ GE439.out | refine below_set ?_ GE444.out) | exact HB.out)⟩⟩
      ·rw [if_neg c122] at H
       have c122b0 : ((wrap64 (t423 + (wrap64 (a4)))) == t429) = false := beq_eq_false_iff_ne.mpr c122
       have c122b1 : ((wrap64 (t423 + (wrap64 (a4)))) != t429) = true := bne_iff_ne.mpr c122
       have H' := Aside0.mk H
       clear H
       have hnb154 := NB428_409.out
       have hnc154 := NB409_428.out
       have hnb155 := NB428_410.out
       have hnc155 := NB410_428.out
       have hnb156 := NB428_416.out
       have hnc156 := NB416_428.out
       have hnb157 := NB428_422.out
       have hnc157 := NB422_428.out
       have hnb158 := NB428_434.out
       have hnc158 := NB434_428.out
       have hnb159 := NB428_439.out
       have hnc159 := NB439_428.out
       have hnb160 := NB428_444.out
       have hnc160 := NB444_428.out
       obtain ⟨hcz161_0, hcz161_1, hcz161_2, hfz161_0, hfz161_1, hfz161_2⟩ := cells3 (w := wc) (g := gb428) BK428.out
       have hnb162 := NB434_409.out
       have hnc162 := NB409_434.out
       have hnb163 := NB434_410.out
       have hnc163 := NB410_434.out
       have hnb164 := NB434_416.out
       have hnc164 := NB416_434.out
       have hnb165 := NB434_422.out
       have hnc165 := NB422_434.out
       have hnb166 := NB434_439.out
       have hnc166 := NB439_434.out
       have hnb167 := NB434_444.out
       have hnc167 := NB444_434.out
       obtain ⟨hcz168_0, hcz168_1, hcz168_2, hfz168_0, hfz168_1, hfz168_2⟩ := cells3 (w := wc) (g := gb434) BK434.out
       go_wp2
       go_meet
       case rel => exact ⟨_, (false), (by first | rfl | (simp; done) | (simp [*]; done)), H', ⟨by have := HJ13.out; first | omega | exact Nat.le_refl _⟩, ⟨by (with_reducible repeat (first | apply kN | apply kD | apply kA)); exact BK409.out⟩, ⟨by (with_reducible repeat (first | apply kN | apply kD | apply kA)); exact BK410.out⟩, ⟨by (with_reducible repeat (first | apply kN | apply kD | apply kA)); exact BK416.out⟩, ⟨by (with_reducible repeat (first | apply kN | apply kD | apply kA)); exact BK422.out⟩, ⟨by (with_reducible repeat (first | apply kN | apply kD | apply kA)); exact BK428.out⟩, ⟨by (with_reducible repeat (first | apply kN | apply kD | apply kA)); exact BK434.out⟩, ⟨by (with_reducible repeat (first | apply kN | apply kD | apply kA)); exact BK439.out⟩, ⟨by (with_reducible repeat (first | apply kN | apply kD | apply kA)); exact BK444.out⟩, ⟨by repeat (first | (with_reducible first | exact HB.out | apply bA | apply bN | apply bD | refine below_set ?_ GE409.out | refine below_set ?_ GE410.out | refine below_set ?_ GE416.out | refine below_set ?_ GE422.out | refine below_set ?_ GE428.out | refine below_set ?_ GE434.out | refine below_set ?_ GE439.out | refine below_set ?_ GE444.out) | exact HB.out)⟩⟩
     ·rw [if_neg c121] at H
      have c121b0 : (t427 == t433) = false := beq_eq_false_iff_ne.mpr c121
      have c121b1 : (t427 != t433) = true := bne_iff_ne.mpr c121
      (first | rw [c121b0] | (simp only [i64_w, i32_w]; rw [c121b0]) | skip)
      have H' := Aside0.mk H
      clear H
      go_wp2
      go_meet
      case rel => exact ⟨_, (false), (by first | rfl | (simp; done) | (simp [*]; done)), H', ⟨by have := HJ13.out; first | omega | exact Nat.le_refl _⟩, ⟨by (with_reducible repeat (first | apply kN | apply kD | apply kA)); exact BK409.out⟩, ⟨by (with_reducible repeat (first | apply kN | apply kD | apply kA)); exact BK410.out⟩, ⟨by (with_reducible repeat (first | apply kN | apply kD | apply kA)); exact BK416.out⟩, ⟨by (with_reducible repeat (first | apply kN | apply kD | apply kA)); exact BK422.out⟩, ⟨by (with_reducible repeat (first | apply kN | apply kD | apply kA)); exact BK428.out⟩, ⟨by (with_reducible repeat (first | apply kN | apply kD | apply kA)); exact BK434.out⟩, ⟨by (with_reducible repeat (first | apply kN | apply kD | apply kA)); exact BK439.out⟩, ⟨by (with_reducible repeat (first | apply kN | apply kD | apply kA)); exact BK444.out⟩, ⟨by repeat (first | (with_reducible first | exact HB.out | apply bA | apply bN | apply bD | refine below_set ?_ GE409.out | refine below_set ?_ GE410.out | refine below_set ?_ GE416.out | refine below_set ?_ GE422.out | refine below_set ?_ GE428.out | refine below_set ?_ GE434.out | refine below_set ?_ GE439.out | refine below_set ?_ GE444.out) | exact HB.out)⟩⟩
    case rest =>
     clear HC120
     try clear c1
     try clear c2
     try clear p2
     try clear c3
     try clear c4
     try clear c5
     try clear c6
     try clear p6
     try clear c7
     try clear c7b0
     try clear c7b1
     try clear c8
     try clear c9
     try clear c10
     try clear c11
     try clear c12
     try clear c13
     try clear c14
     try clear c15
     try clear c16
     try clear c18
     try clear c19
     try clear c20
     try clear c24
     try clear c25
     try clear c30
     try clear c31
     try clear c32
     try clear c37
     try clear c38
     try clear c39
     try clear c40
     try clear c45
     try clear c46
     try clear c47
     try clear c48
     try clear c49
     try clear c54
     try clear c55
     try clear c56
     try clear c57
     try clear c58
     try clear c59
     try clear c64
     try clear p64
     try clear c65
     try clear c66
     try clear c67
     try clear c68
     try clear c69
     try clear c70
     try clear c72
     try clear c72b0
     try clear c72b1
     try clear c73
     try clear c73b0
     try clear c73b1
     try clear c74
     try clear c74b0
     try clear c74b1
     try clear c75
     try clear c76
     try clear c77
     try clear c78
     try clear c79
     try clear c80
     try clear c81
     try clear c83
     try clear c84
     try clear c85
     try clear c86
     try clear c87
     try clear c88
     try clear c90
     try clear c91
     try clear c92
     try clear c93
     try clear c94
     try clear c95
     try clear c96
     try clear c98
     try clear c99
     try clear c100
     try clear c101
     try clear c102
     try clear c103
     try clear c105
     try clear c106
     try clear c107
     try clear c108
     try clear c109
     try clear c110
     try clear c111
     try clear c113
     try clear c114
     try clear c115
     try clear c116
     try clear c117
     try clear c118
     try clear c121
     try clear c121b0
     try clear c121b1
     try clear c122
     try clear c122b0
     try clear c122b1
     try clear c123
     try clear c123b0
     try clear c123b1
     try clear c124
     try clear c125
     try clear c126
     try clear c127
     try clear c128
     try clear c129
     try clear c130
     try clear c132
     try clear c133
     try clear c134
     try clear c135
     try clear c136
     try clear c137
     try clear c139
     try clear c140
     try clear c141
     try clear c142
     try clear c143
     try clear c144
     try clear c145
     try clear c147
     try clear c148
     try clear c149
     try clear c150
     try clear c151
     try clear c152
     try clear c154
     try clear c155
     try clear c156
     try clear c157
     try clear c158
     try clear c159
     try clear c160
     try clear c162
     try clear c163
     try clear c164
     try clear c165
     try clear c166
     try clear c167
     try clear hcz104_0
     try clear hcz104_1
     try clear hcz104_2
     try clear hcz112_0
     try clear hcz112_1
     try clear hcz112_2
     try clear hcz119_0
     try clear hcz119_1
     try clear hcz119_2
     try clear hcz131_0
     try clear hcz131_1
     try clear hcz131_2
     try clear hcz138_0
     try clear hcz138_1
     try clear hcz138_2
     try clear hcz146_0
     try clear hcz146_1
     try clear hcz146_2
     try clear hcz153_0
     try clear hcz153_1
     try clear hcz153_2
     try clear hcz161_0
     try clear hcz161_1
     try clear hcz161_2
     try clear hcz168_0
     try clear hcz168_1
     try clear hcz168_2
     try clear hcz17_0
     try clear hcz17_1
     try clear hcz17_2
     try clear hcz20_0
     try clear hcz20_1
     try clear hcz20_2
     try clear hcz21_0
     try clear hcz21_1
     try clear hcz21_2
     try clear hcz26_0
     try clear hcz26_1
     try clear hcz26_2
     try clear hcz27_0
     try clear hcz27_1
     try clear hcz27_2
     try clear hcz33_0
     try clear hcz33_1
     try clear hcz33_2
     try clear hcz34_0
     try clear hcz34_1
     try clear hcz34_2
     try clear hcz41_0
     try clear hcz41_1
     try clear hcz41_2
     try clear hcz42_0
     try clear hcz42_1
     try clear hcz42_2
     try clear hcz50_0
     try clear hcz50_1
     try clear hcz50_2
     try clear hcz51_0
     try clear hcz51_1
     try clear hcz51_2
     try clear hcz60_0
     try clear hcz60_1
     try clear hcz60_2
     try clear hcz61_0
     try clear hcz61_1
     try clear hcz61_2
     try clear hcz71_0
     try clear hcz71_1
     try clear hcz71_2
     try clear hcz82_0
     try clear hcz82_1
     try clear hcz82_2
     try clear hcz89_0
     try clear hcz89_1
     try clear hcz89_2
     try clear hcz97_0
     try clear hcz97_1
     try clear hcz97_2
     try clear hfz104_0
     try clear hfz104_1
     try clear hfz104_2
     try clear hfz112_0
     try clear hfz112_1
     try clear hfz112_2
     try clear hfz119_0
     try clear hfz119_1
     try clear hfz119_2
     try clear hfz131_0
     try clear hfz131_1
     try clear hfz131_2
     try clear hfz138_0
     try clear hfz138_1
     try clear hfz138_2
     try clear hfz146_0
     try clear hfz146_1
     try clear hfz146_2
     try clear hfz153_0
     try clear hfz153_1
     try clear hfz153_2
     try clear hfz161_0
     try clear hfz161_1
     try clear hfz161_2
     try clear hfz168_0
     try clear hfz168_1
     try clear hfz168_2
     try clear hfz17_0
     try clear hfz17_1
     try clear hfz17_2
     try clear hfz20_0
     try clear hfz20_1
     try clear hfz20_2
     try clear hfz21_0
     try clear hfz21_1
     try clear hfz21_2
     try clear hfz26_0
     try clear hfz26_1
     try clear hfz26_2
     try clear hfz27_0
     try clear hfz27_1
     try clear hfz27_2
     try clear hfz33_0
     try clear hfz33_1
     try clear hfz33_2
     try clear hfz34_0
     try clear hfz34_1
     try clear hfz34_2
     try clear hfz41_0
     try clear hfz41_1
     try clear hfz41_2
     try clear hfz42_0
     try clear hfz42_1
     try clear hfz42_2
     try clear hfz50_0
     try clear hfz50_1
     try clear hfz50_2
     try clear hfz51_0
     try clear hfz51_1
     try clear hfz51_2
     try clear hfz60_0
     try clear hfz60_1
     try clear hfz60_2
     try clear hfz61_0
     try clear hfz61_1
     try clear hfz61_2
     try clear hfz71_0
     try clear hfz71_1
     try clear hfz71_2
     try clear hfz82_0
     try clear hfz82_1
     try clear hfz82_2
     try clear hfz89_0
     try clear hfz89_1
     try clear hfz89_2
     try clear hfz97_0
     try clear hfz97_1
     try clear hfz97_2
     try clear p2
     try clear p6
     try clear p64
     obtain ⟨kq, x32_119, rfl, HA, HJ119, BK409, BK410, BK416, BK422, BK428, BK434, BK439, BK444, HB⟩ := hcut
     cases kq with
     | zero => exact absurd HA.out (by simp [sakialaw08_WordLater.j1])
     | succ kj119 =>
      have H := HA.out
      clear HA
      simp only [sakialaw08_WordLater.j1] at H
      have HC169 := Aside0.mk H
      clear H
      go_upto_region 13 with (fail)
      go_cut [10] (fun v10 wc => ∃ (kq : Nat) (x10_168 : Bool), v10 = .bool x10_168 ∧ Aside0 (sakialaw08_WordLater.j2 kq x10_168 = some r) ∧ Aside0 (kq ≤ kj119) ∧ Aside0 (wc.heap[gb409]? = some (.cells #[.int .i64 (wrap64 (a0)), .int .i64 (wrap64 ((wrap64 (a0)) + (Int.tmod (wrap64 (a1)) (wrap64 ((wrap64 (1 + (wrap64 (Int.tmod a3 64)))) + 1))))), .int .i64 (wrap64 (Int.tmod a2 3))] 23 (0, 0))) ∧ Aside0 (wc.heap[gb410]? = some (.cells #[.int .i64 (wrap64 ((wrap64 (a0)) + (wrap64 (a4)))), .int .i64 (wrap64 ((wrap64 ((wrap64 (a0)) + (Int.tmod (wrap64 (a1)) (wrap64 ((wrap64 (1 + (wrap64 (Int.tmod a3 64)))) + 1))))) + (wrap64 (a4)))), .int .i64 (wrap64 (Int.tmod a2 3))] 23 (0, 0))) ∧ Aside0 (wc.heap[gb416]? = some (.cells #[.int .i64 t411, .int .i64 t412, .int .i64 t413] 23 (0, 0))) ∧ Aside0 (wc.heap[gb422]? = some (.cells #[.int .i64 t417, .int .i64 t418, .int .i64 t419] 23 (0, 0))) ∧ Aside0 (wc.heap[gb428]? = some (.cells #[.int .i64 t423, .int .i64 t424, .int .i64 t425] 23 (0, 0))) ∧ Aside0 (wc.heap[gb434]? = some (.cells #[.int .i64 t429, .int .i64 t430, .int .i64 t431] 23 (0, 0))) ∧ Aside0 (wc.heap[gb439]? = some (.cells #[.int .i64 t435, .int .i64 t436, .int .i64 t437] 23 (0, 0))) ∧ Aside0 (wc.heap[gb444]? = some (.cells #[.int .i64 t440, .int .i64 t441, .int .i64 t442] 23 (0, 0))) ∧ Aside0 (Below w.heap.size w wc))
      case first =>
       have H := HC169.out
       clear HC169
       by_cases c170 : t408 = true
       ·subst c170
        have H1 : (if x31_13 = true then (if x32_119 = true then (if (t438 == t443) = true then (sakialaw08_WordLater.j2 kj119 ((wrap64 (t435 + (wrap64 (a4)))) == t440)) else (sakialaw08_WordLater.j2 kj119 false)) else (sakialaw08_WordLater.j2 kj119 false)) else (sakialaw08_WordLater.j2 kj119 false)) = some r := by rw [if_pos rfl] at H; exact H
        clear H
        have H := H1
        clear H1
        by_cases c171 : x31_13 = true
        ·subst c171
         have H1 : (if x32_119 = true then (if (t438 == t443) = true then (sakialaw08_WordLater.j2 kj119 ((wrap64 (t435 + (wrap64 (a4)))) == t440)) else (sakialaw08_WordLater.j2 kj119 false)) else (sakialaw08_WordLater.j2 kj119 false)) = some r := by rw [if_pos rfl] at H; exact H
         clear H
         have H := H1
         clear H1
         by_cases c172 : x32_119 = true
         ·subst c172
          have H1 : (if (t438 == t443) = true then (sakialaw08_WordLater.j2 kj119 ((wrap64 (t435 + (wrap64 (a4)))) == t440)) else (sakialaw08_WordLater.j2 kj119 false)) = some r := by rw [if_pos rfl] at H; exact H
          clear H
          have H := H1
          clear H1
          by_cases c173 : (t438 == t443) = true
          ·rw [if_pos c173] at H
           have c173b0 : (t438 == t443) = true := c173
           (try (have c173b1 : decide (t438 = t443) = true := by simpa using c173))
           (try (have c173b2 : (t438 == t443) = true := by simpa using c173))
           clear c173
           (first | rw [c173b0] | (simp only [i64_w, i32_w]; rw [c173b0]) | skip)
           have H' := Aside0.mk H
           clear H
           have hnb174 := NB439_409.out
           have hnc174 := NB409_439.out
           have hnb175 := NB439_410.out
           have hnc175 := NB410_439.out
           have hnb176 := NB439_416.out
           have hnc176 := NB416_439.out
           have hnb177 := NB439_422.out
           have hnc177 := NB422_439.out
           have hnb178 := NB439_428.out
           have hnc178 := NB428_439.out
           have hnb179 := NB439_434.out
           have hnc179 := NB434_439.out
           have hnb180 := NB439_444.out
           have hnc180 := NB444_439.out
           obtain ⟨hcz181_0, hcz181_1, hcz181_2, hfz181_0, hfz181_1, hfz181_2⟩ := cells3 (w := wc) (g := gb439) BK439.out
           have hnb182 := NB444_409.out
           have hnc182 := NB409_444.out
           have hnb183 := NB444_410.out
           have hnc183 := NB410_444.out
           have hnb184 := NB444_416.out
           have hnc184 := NB416_444.out
           have hnb185 := NB444_422.out
           have hnc185 := NB422_444.out
           have hnb186 := NB444_428.out
           have hnc186 := NB428_444.out
           have hnb187 := NB444_434.out
           have hnc187 := NB434_444.out
           obtain ⟨hcz188_0, hcz188_1, hcz188_2, hfz188_0, hfz188_1, hfz188_2⟩ := cells3 (w := wc) (g := gb444) BK444.out
           go_wp2
           go_meet
           case rel => exact ⟨_, (((wrap64 (t435 + (wrap64 (a4)))) == t440)), (by first | rfl | (simp; done) | (simp [*]; done)), H', ⟨by have := HJ13.out; have := HJ119.out; first | omega | exact Nat.le_refl _⟩, ⟨by (with_reducible repeat (first | apply kN | apply kD | apply kA)); exact BK409.out⟩, ⟨by (with_reducible repeat (first | apply kN | apply kD | apply kA)); exact BK410.out⟩, ⟨by (with_reducible repeat (first | apply kN | apply kD | apply kA)); exact BK416.out⟩, ⟨by (with_reducible repeat (first | apply kN | apply kD | apply kA)); exact BK422.out⟩, ⟨by (with_reducible repeat (first | apply kN | apply kD | apply kA)); exact BK428.out⟩, ⟨by (with_reducible repeat (first | apply kN | apply kD | apply kA)); exact BK434.out⟩, ⟨by (with_reducible repeat (first | apply kN | apply kD | apply kA)); exact BK439.out⟩, ⟨by (with_reducible repeat (first | apply kN | apply kD | apply kA)); exact BK444.out⟩, ⟨by repeat (first | (with_reducible first | exact HB.out | apply bA | apply bN | apply bD | refine below_set ?_ GE409.out | refine below_set ?_ GE410.out | refine below_set ?_ GE416.out | refine below_set ?_ GE422.out | refine below_set ?_ GE428.out | refine below_set ?_ GE434.out | refine below_set ?_ GE439.out | refine below_set ?_ GE444.out) | exact HB.out)⟩⟩
          ·rw [if_neg c173] at H
           have c173b0 : (t438 == t443) = false := by simpa using c173
           (try (have c173b1 : decide (t438 = t443) = false := by simpa using c173))
           (try (have c173b2 : (t438 == t443) = false := by simpa using c173))
           (try (have c173b3 : ¬ (t438 = t443) := by simpa using c173))
           clear c173
           (first | rw [c173b0] | (simp only [i64_w, i32_w]; rw [c173b0]) | skip)
           have H' := Aside0.mk H
           clear H
           go_wp2
           go_meet
           case rel => exact ⟨_, (false), (by first | rfl | (simp; done) | (simp [*]; done)), H', ⟨by have := HJ13.out; have := HJ119.out; first | omega | exact Nat.le_refl _⟩, ⟨by (with_reducible repeat (first | apply kN | apply kD | apply kA)); exact BK409.out⟩, ⟨by (with_reducible repeat (first | apply kN | apply kD | apply kA)); exact BK410.out⟩, ⟨by (with_reducible repeat (first | apply kN | apply kD | apply kA)); exact BK416.out⟩, ⟨by (with_reducible repeat (first | apply kN | apply kD | apply kA)); exact BK422.out⟩, ⟨by (with_reducible repeat (first | apply kN | apply kD | apply kA)); exact BK428.out⟩, ⟨by (with_reducible repeat (first | apply kN | apply kD | apply kA)); exact BK434.out⟩, ⟨by (with_reducible repeat (first | apply kN | apply kD | apply kA)); exact BK439.out⟩, ⟨by (with_reducible repeat (first | apply kN | apply kD | apply kA)); exact BK444.out⟩, ⟨by repeat (first | (with_reducible first | exact HB.out | apply bA | apply bN | apply bD | refine below_set ?_ GE409.out | refine below_set ?_ GE410.out | refine below_set ?_ GE416.out | refine below_set ?_ GE422.out | refine below_set ?_ GE428.out | refine below_set ?_ GE434.out | refine below_set ?_ GE439.out | refine below_set ?_ GE444.out) | exact HB.out)⟩⟩
         ·replace c172 := Bool.eq_false_iff.mpr c172
          subst c172
          have H1 : (sakialaw08_WordLater.j2 kj119 false) = some r := by rw [if_neg (show ¬ (false = true) by decide)] at H; exact H
          clear H
          have H := H1
          clear H1
          have H' := Aside0.mk H
          clear H
          go_wp2
          go_meet
          case rel => exact ⟨_, (false), (by first | rfl | (simp; done) | (simp [*]; done)), H', ⟨by have := HJ13.out; have := HJ119.out; first | omega | exact Nat.le_refl _⟩, ⟨by (with_reducible repeat (first | apply kN | apply kD | apply kA)); exact BK409.out⟩, ⟨by (with_reducible repeat (first | apply kN | apply kD | apply kA)); exact BK410.out⟩, ⟨by (with_reducible repeat (first | apply kN | apply kD | apply kA)); exact BK416.out⟩, ⟨by (with_reducible repeat (first | apply kN | apply kD | apply kA)); exact BK422.out⟩, ⟨by (with_reducible repeat (first | apply kN | apply kD | apply kA)); exact BK428.out⟩, ⟨by (with_reducible repeat (first | apply kN | apply kD | apply kA)); exact BK434.out⟩, ⟨by (with_reducible repeat (first | apply kN | apply kD | apply kA)); exact BK439.out⟩, ⟨by (with_reducible repeat (first | apply kN | apply kD | apply kA)); exact BK444.out⟩, ⟨by repeat (first | (with_reducible first | exact HB.out | apply bA | apply bN | apply bD | refine below_set ?_ GE409.out | refine below_set ?_ GE410.out | refine below_set ?_ GE416.out | refine below_set ?_ GE422.out | refine below_set ?_ GE428.out | refine below_set ?_ GE434.out | refine below_set ?_ GE439.out | refine below_set ?_ GE444.out) | exact HB.out)⟩⟩
        ·replace c171 := Bool.eq_false_iff.mpr c171
         subst c171
         have H1 : (sakialaw08_WordLater.j2 kj119 false) = some r := by rw [if_neg (show ¬ (false = true) by decide)] at H; exact H
         clear H
         have H := H1
         clear H1
         have H' := Aside0.mk H
         clear H
         go_wp2
         go_meet
         case rel => exact ⟨_, (false), (by first | rfl | (simp; done) | (simp [*]; done)), H', ⟨by have := HJ13.out; have := HJ119.out; first | omega | exact Nat.le_refl _⟩, ⟨by (with_reducible repeat (first | apply kN | apply kD | apply kA)); exact BK409.out⟩, ⟨by (with_reducible repeat (first | apply kN | apply kD | apply kA)); exact BK410.out⟩, ⟨by (with_reducible repeat (first | apply kN | apply kD | apply kA)); exact BK416.out⟩, ⟨by (with_reducible repeat (first | apply kN | apply kD | apply kA)); exact BK422.out⟩, ⟨by (with_reducible repeat (first | apply kN | apply kD | apply kA)); exact BK428.out⟩, ⟨by (with_reducible repeat (first | apply kN | apply kD | apply kA)); exact BK434.out⟩, ⟨by (with_reducible repeat (first | apply kN | apply kD | apply kA)); exact BK439.out⟩, ⟨by (with_reducible repeat (first | apply kN | apply kD | apply kA)); exact BK444.out⟩, ⟨by repeat (first | (with_reducible first | exact HB.out | apply bA | apply bN | apply bD | refine below_set ?_ GE409.out | refine below_set ?_ GE410.out | refine below_set ?_ GE416.out | refine below_set ?_ GE422.out | refine below_set ?_ GE428.out | refine below_set ?_ GE434.out | refine below_set ?_ GE439.out | refine below_set ?_ GE444.out) | exact HB.out)⟩⟩
       ·replace c170 := Bool.eq_false_iff.mpr c170
        subst c170
        have H1 : (sakialaw08_WordLater.j2 kj119 false) = some r := by rw [if_neg (show ¬ (false = true) by decide)] at H; exact H
        clear H
        have H := H1
        clear H1
        have H' := Aside0.mk H
        clear H
        go_wp2
        go_meet
        case rel => exact ⟨_, (false), (by first | rfl | (simp; done) | (simp [*]; done)), H', ⟨by have := HJ13.out; have := HJ119.out; first | omega | exact Nat.le_refl _⟩, ⟨by (with_reducible repeat (first | apply kN | apply kD | apply kA)); exact BK409.out⟩, ⟨by (with_reducible repeat (first | apply kN | apply kD | apply kA)); exact BK410.out⟩, ⟨by (with_reducible repeat (first | apply kN | apply kD | apply kA)); exact BK416.out⟩, ⟨by (with_reducible repeat (first | apply kN | apply kD | apply kA)); exact BK422.out⟩, ⟨by (with_reducible repeat (first | apply kN | apply kD | apply kA)); exact BK428.out⟩, ⟨by (with_reducible repeat (first | apply kN | apply kD | apply kA)); exact BK434.out⟩, ⟨by (with_reducible repeat (first | apply kN | apply kD | apply kA)); exact BK439.out⟩, ⟨by (with_reducible repeat (first | apply kN | apply kD | apply kA)); exact BK444.out⟩, ⟨by repeat (first | (with_reducible first | exact HB.out | apply bA | apply bN | apply bD | refine below_set ?_ GE409.out | refine below_set ?_ GE410.out | refine below_set ?_ GE416.out | refine below_set ?_ GE422.out | refine below_set ?_ GE428.out | refine below_set ?_ GE434.out | refine below_set ?_ GE439.out | refine below_set ?_ GE444.out) | exact HB.out)⟩⟩
      case rest =>
       clear HC169
       try clear c1
       try clear c2
       try clear p2
       try clear c3
       try clear c4
       try clear c5
       try clear c6
       try clear p6
       try clear c7
       try clear c7b0
       try clear c7b1
       try clear c8
       try clear c9
       try clear c10
       try clear c11
       try clear c12
       try clear c13
       try clear c14
       try clear c15
       try clear c16
       try clear c17
       try clear c18
       try clear c19
       try clear c20
       try clear c24
       try clear c25
       try clear c30
       try clear c31
       try clear c32
       try clear c37
       try clear c38
       try clear c39
       try clear c40
       try clear c45
       try clear c46
       try clear c47
       try clear c48
       try clear c49
       try clear c54
       try clear c55
       try clear c56
       try clear c57
       try clear c58
       try clear c59
       try clear c64
       try clear p64
       try clear c65
       try clear c66
       try clear c67
       try clear c68
       try clear c69
       try clear c70
       try clear c72
       try clear c72b0
       try clear c72b1
       try clear c73
       try clear c73b0
       try clear c73b1
       try clear c74
       try clear c74b0
       try clear c74b1
       try clear c75
       try clear c76
       try clear c77
       try clear c78
       try clear c79
       try clear c80
       try clear c81
       try clear c83
       try clear c84
       try clear c85
       try clear c86
       try clear c87
       try clear c88
       try clear c90
       try clear c91
       try clear c92
       try clear c93
       try clear c94
       try clear c95
       try clear c96
       try clear c98
       try clear c99
       try clear c100
       try clear c101
       try clear c102
       try clear c103
       try clear c105
       try clear c106
       try clear c107
       try clear c108
       try clear c109
       try clear c110
       try clear c111
       try clear c113
       try clear c114
       try clear c115
       try clear c116
       try clear c117
       try clear c118
       try clear c121
       try clear c121b0
       try clear c121b1
       try clear c122
       try clear c122b0
       try clear c122b1
       try clear c123
       try clear c123b0
       try clear c123b1
       try clear c124
       try clear c125
       try clear c126
       try clear c127
       try clear c128
       try clear c129
       try clear c130
       try clear c132
       try clear c133
       try clear c134
       try clear c135
       try clear c136
       try clear c137
       try clear c139
       try clear c140
       try clear c141
       try clear c142
       try clear c143
       try clear c144
       try clear c145
       try clear c147
       try clear c148
       try clear c149
       try clear c150
       try clear c151
       try clear c152
       try clear c154
       try clear c155
       try clear c156
       try clear c157
       try clear c158
       try clear c159
       try clear c160
       try clear c162
       try clear c163
       try clear c164
       try clear c165
       try clear c166
       try clear c167
       try clear c170
       try clear c171
       try clear c172
       try clear c173
       try clear c173b0
       try clear c173b1
       try clear c173b2
       try clear c174
       try clear c175
       try clear c176
       try clear c177
       try clear c178
       try clear c179
       try clear c180
       try clear c182
       try clear c183
       try clear c184
       try clear c185
       try clear c186
       try clear c187
       try clear hcz104_0
       try clear hcz104_1
       try clear hcz104_2
       try clear hcz112_0
       try clear hcz112_1
       try clear hcz112_2
       try clear hcz119_0
       try clear hcz119_1
       try clear hcz119_2
       try clear hcz131_0
       try clear hcz131_1
       try clear hcz131_2
       try clear hcz138_0
       try clear hcz138_1
       try clear hcz138_2
       try clear hcz146_0
       try clear hcz146_1
       try clear hcz146_2
       try clear hcz153_0
       try clear hcz153_1
       try clear hcz153_2
       try clear hcz161_0
       try clear hcz161_1
       try clear hcz161_2
       try clear hcz168_0
       try clear hcz168_1
       try clear hcz168_2
       try clear hcz17_0
       try clear hcz17_1
       try clear hcz17_2
       try clear hcz181_0
       try clear hcz181_1
       try clear hcz181_2
       try clear hcz188_0
       try clear hcz188_1
       try clear hcz188_2
       try clear hcz20_0
       try clear hcz20_1
       try clear hcz20_2
       try clear hcz21_0
       try clear hcz21_1
       try clear hcz21_2
       try clear hcz26_0
       try clear hcz26_1
       try clear hcz26_2
       try clear hcz27_0
       try clear hcz27_1
       try clear hcz27_2
       try clear hcz33_0
       try clear hcz33_1
       try clear hcz33_2
       try clear hcz34_0
       try clear hcz34_1
       try clear hcz34_2
       try clear hcz41_0
       try clear hcz41_1
       try clear hcz41_2
       try clear hcz42_0
       try clear hcz42_1
       try clear hcz42_2
       try clear hcz50_0
       try clear hcz50_1
       try clear hcz50_2
       try clear hcz51_0
       try clear hcz51_1
       try clear hcz51_2
       try clear hcz60_0
       try clear hcz60_1
       try clear hcz60_2
       try clear hcz61_0
       try clear hcz61_1
       try clear hcz61_2
       try clear hcz71_0
       try clear hcz71_1
       try clear hcz71_2
       try clear hcz82_0
       try clear hcz82_1
       try clear hcz82_2
       try clear hcz89_0
       try clear hcz89_1
       try clear hcz89_2
       try clear hcz97_0
       try clear hcz97_1
       try clear hcz97_2
       try clear hfz104_0
       try clear hfz104_1
       try clear hfz104_2
       try clear hfz112_0
       try clear hfz112_1
       try clear hfz112_2
       try clear hfz119_0
       try clear hfz119_1
       try clear hfz119_2
       try clear hfz131_0
       try clear hfz131_1
       try clear hfz131_2
       try clear hfz138_0
       try clear hfz138_1
       try clear hfz138_2
       try clear hfz146_0
       try clear hfz146_1
       try clear hfz146_2
       try clear hfz153_0
       try clear hfz153_1
       try clear hfz153_2
       try clear hfz161_0
       try clear hfz161_1
       try clear hfz161_2
       try clear hfz168_0
       try clear hfz168_1
       try clear hfz168_2
       try clear hfz17_0
       try clear hfz17_1
       try clear hfz17_2
       try clear hfz181_0
       try clear hfz181_1
       try clear hfz181_2
       try clear hfz188_0
       try clear hfz188_1
       try clear hfz188_2
       try clear hfz20_0
       try clear hfz20_1
       try clear hfz20_2
       try clear hfz21_0
       try clear hfz21_1
       try clear hfz21_2
       try clear hfz26_0
       try clear hfz26_1
       try clear hfz26_2
       try clear hfz27_0
       try clear hfz27_1
       try clear hfz27_2
       try clear hfz33_0
       try clear hfz33_1
       try clear hfz33_2
       try clear hfz34_0
       try clear hfz34_1
       try clear hfz34_2
       try clear hfz41_0
       try clear hfz41_1
       try clear hfz41_2
       try clear hfz42_0
       try clear hfz42_1
       try clear hfz42_2
       try clear hfz50_0
       try clear hfz50_1
       try clear hfz50_2
       try clear hfz51_0
       try clear hfz51_1
       try clear hfz51_2
       try clear hfz60_0
       try clear hfz60_1
       try clear hfz60_2
       try clear hfz61_0
       try clear hfz61_1
       try clear hfz61_2
       try clear hfz71_0
       try clear hfz71_1
       try clear hfz71_2
       try clear hfz82_0
       try clear hfz82_1
       try clear hfz82_2
       try clear hfz89_0
       try clear hfz89_1
       try clear hfz89_2
       try clear hfz97_0
       try clear hfz97_1
       try clear hfz97_2
       try clear p2
       try clear p6
       try clear p64
       obtain ⟨kq, x10_168, rfl, HA, HJ168, BK409, BK410, BK416, BK422, BK428, BK434, BK439, BK444, HB⟩ := hcut
       cases kq with
       | zero => exact absurd HA.out (by simp [sakialaw08_WordLater.j2])
       | succ kj168 =>
        have H := HA.out
        clear HA
        simp only [sakialaw08_WordLater.j2] at H
        obtain rfl := Option.some.inj H
        go_wp2
        go_ret
        exact ⟨by first | rfl | (simp [errW_none, errW_some] <;> rfl) | (simp [*, errW_none, errW_some] <;> rfl), by repeat (first | (with_reducible first | exact HB.out | apply bA | apply bN | apply bD | refine below_set ?_ GE409.out | refine below_set ?_ GE410.out | refine below_set ?_ GE416.out | refine below_set ?_ GE422.out | refine below_set ?_ GE428.out | refine below_set ?_ GE434.out | refine below_set ?_ GE439.out | refine below_set ?_ GE444.out) | exact HB.out)⟩

/-- THE ONE PURE STATEMENT of sakialaw08_WordLater. -/
def sakialaw08_WordLater.Pure : Prop := ∀ (a0 : Int) (a1 : Int) (a2 : Int) (a3 : Int) (a4 : Int), (Lit.int .u32 a0).wf = true → (Lit.int .u8 a1).wf = true → (Lit.int .u8 a2).wf = true → (Lit.int .u8 a3).wf = true → (Lit.int .u32 a4).wf = true → ∃ k, sakialaw08_WordLater.f k a0 a1 a2 a3 a4 = some true

end Go.Proofs.Ytcmiijdkmfdpnaa.PL
