-- written by this repo's pp.py (the kit's print, turned by wip/patches.py)
import Derived.Test.YtcmiijdkmfdpnaaPLx0
import Derived.Test.YtcmiijdkmfdpnaaPLx1
import Derived.Test.YtcmiijdkmfdpnaaPLx2
import Derived.Test.YtcmiijdkmfdpnaaPLx3
import Derived.Test.YtcmiijdkmfdpnaaPLx4
import Derived.Test.YtcmiijdkmfdpnaaPLx5
namespace Go.Proofs.Ytcmiijdkmfdpnaa.PL
open Go.RowKit Go.Proofs.YtcmiijdkmfdpnaaW.PrintWords Go.Proofs.YtcmiijdkmfdpnaaW.PrintLast Go.Proofs.YtcmiijdkmfdpnaaW.PrintMore
attribute [local go_sem] max2_int min2_int max_two min_two max_three min_three max_four min_four   -- for this text's walks alone
set_option linter.unusedVariables false
set_option linter.unusedSimpArgs false

attribute [local go_sem high] eqA23
/-! ### sakialaw08_WordStays: function 4 -/
mutual
def sakialaw08_WordStays.j0 : Nat → Bool → Int → Int → Int → Int → Bool → Bool → Int → Int → Int → Int → Int → Int → Int → Int → Int → Int → Int → Int → Option (Bool)
 | 0, _, _, _, _, _, _, _, _, _, _, _, _, _, _, _, _, _, _, _ => none
 | k + 1, x9, x11, x12, x14, x15, x17, x19, x295000, x295001, x295002, x302000, x302001, x302002, x308000, x308001, x308002, x313000, x313001, x313002 => if x9 = true then (if x19 = true then (if x12 = 1 then (if x11 = x295001 then (if x15 = 1 then (if x14 = x295000 then (if x17 = true then (sakialaw08_WordStays.j1 k true) else (sakialaw08_WordStays.j1 k (x313000 == x295000 && (x313001 == x295001 && (x313002 == x295002))))) else (sakialaw08_WordStays.j1 k false)) else (if (x308000 == x295000 && (x308001 == x295001 && (x308002 == x295002))) = true then (if x14 = 0 then (if x17 = true then (sakialaw08_WordStays.j1 k true) else (sakialaw08_WordStays.j1 k (x313000 == x295000 && (x313001 == x295001 && (x313002 == x295002))))) else (sakialaw08_WordStays.j1 k false)) else (sakialaw08_WordStays.j1 k false))) else (sakialaw08_WordStays.j1 k false)) else (if (x302000 == x295000 && (x302001 == x295001 && (x302002 == x295002))) = true then (if x11 = 0 then (if x15 = 1 then (if x14 = x295000 then (if x17 = true then (sakialaw08_WordStays.j1 k true) else (sakialaw08_WordStays.j1 k (x313000 == x295000 && (x313001 == x295001 && (x313002 == x295002))))) else (sakialaw08_WordStays.j1 k false)) else (if (x308000 == x295000 && (x308001 == x295001 && (x308002 == x295002))) = true then (if x14 = 0 then (if x17 = true then (sakialaw08_WordStays.j1 k true) else (sakialaw08_WordStays.j1 k (x313000 == x295000 && (x313001 == x295001 && (x313002 == x295002))))) else (sakialaw08_WordStays.j1 k false)) else (sakialaw08_WordStays.j1 k false))) else (sakialaw08_WordStays.j1 k false)) else (sakialaw08_WordStays.j1 k false))) else (sakialaw08_WordStays.j1 k false)) else (sakialaw08_WordStays.j1 k false)
def sakialaw08_WordStays.j1 : Nat → Bool → Option (Bool)
 | 0, _ => none
 | k + 1, x8 => some x8
end
def sakialaw08_WordStays.f (k : Nat) (a0_0 : Int) (a0_1 : Int) (a0_2 : Int) (a1 : Int) (a2 : Int) (a3 : Int) : Option (Bool) := (sakialaw08_awake.f k).bind fun t295 => ((word_Accept.f k a0_0 a0_1 a0_2 a1).bind fun bt296 => ((word_Take.f k a0_0 a0_1 a0_2 a1).bind fun bt302 => ((word_Evict.f k a0_0 a0_1 a0_2 a1 a2).bind fun bt308 => ((word_Close.f a0_0 a0_1 a0_2 a3).bind fun bt313 => ((pos_Check.f k a0_0 a0_1 a0_2 a1).bind fun t317 => (if t317 = true then ((pos_Check.f k bt296.1 bt296.2.1 bt296.2.2.1 a1).bind fun t318 => (if t318 = true then ((pos_Check.f k bt302.1 bt302.2.1 bt302.2.2.1 a1).bind fun t319 => (if t319 = true then ((pos_Check.f k bt308.1 bt308.2.1 bt308.2.2.1 a1).bind fun t320 => (if t320 = true then ((pos_Check.f k bt313.1 bt313.2.1 bt313.2.2 a1).bind fun t321 => (sakialaw08_WordStays.j0 k t295 bt296.2.2.2.1 bt296.2.2.2.2 bt302.2.2.2.1 bt302.2.2.2.2 bt308.2.2.2 t321 a0_0 a0_1 a0_2 bt296.1 bt296.2.1 bt296.2.2.1 bt302.1 bt302.2.1 bt302.2.2.1 bt308.1 bt308.2.1 bt308.2.2.1)) else (sakialaw08_WordStays.j0 k t295 bt296.2.2.2.1 bt296.2.2.2.2 bt302.2.2.2.1 bt302.2.2.2.2 bt308.2.2.2 false a0_0 a0_1 a0_2 bt296.1 bt296.2.1 bt296.2.2.1 bt302.1 bt302.2.1 bt302.2.2.1 bt308.1 bt308.2.1 bt308.2.2.1))) else (sakialaw08_WordStays.j0 k t295 bt296.2.2.2.1 bt296.2.2.2.2 bt302.2.2.2.1 bt302.2.2.2.2 bt308.2.2.2 false a0_0 a0_1 a0_2 bt296.1 bt296.2.1 bt296.2.2.1 bt302.1 bt302.2.1 bt302.2.2.1 bt308.1 bt308.2.1 bt308.2.2.1))) else (sakialaw08_WordStays.j0 k t295 bt296.2.2.2.1 bt296.2.2.2.2 bt302.2.2.2.1 bt302.2.2.2.2 bt308.2.2.2 false a0_0 a0_1 a0_2 bt296.1 bt296.2.1 bt296.2.2.1 bt302.1 bt302.2.1 bt302.2.2.1 bt308.1 bt308.2.1 bt308.2.2.1))) else (sakialaw08_WordStays.j0 k t295 bt296.2.2.2.1 bt296.2.2.2.2 bt302.2.2.2.1 bt302.2.2.2.2 bt308.2.2.2 true a0_0 a0_1 a0_2 bt296.1 bt296.2.1 bt296.2.2.1 bt302.1 bt302.2.1 bt302.2.2.1 bt308.1 bt308.2.1 bt308.2.2.1)))))))
theorem sakialaw08_WordStays.mono_l : ∀ k, (∀ y0 y1 y2 y3 y4 y5 y6 y7 y8 y9 y10 y11 y12 y13 y14 y15 y16 y17 y18, LeO (sakialaw08_WordStays.j0 k y0 y1 y2 y3 y4 y5 y6 y7 y8 y9 y10 y11 y12 y13 y14 y15 y16 y17 y18) (sakialaw08_WordStays.j0 (k + 1) y0 y1 y2 y3 y4 y5 y6 y7 y8 y9 y10 y11 y12 y13 y14 y15 y16 y17 y18)) ∧ (∀ y0, LeO (sakialaw08_WordStays.j1 k y0) (sakialaw08_WordStays.j1 (k + 1) y0))
 | 0 => ⟨fun _ _ _ _ _ _ _ _ _ _ _ _ _ _ _ _ _ _ _ r h => by simp [sakialaw08_WordStays.j0] at h, fun _ r h => by simp [sakialaw08_WordStays.j1] at h⟩
 | k + 1 => by
  obtain ⟨ih0, ih1⟩ := sakialaw08_WordStays.mono_l k
  refine ⟨?_, ?_⟩
  ·intro y0 y1 y2 y3 y4 y5 y6 y7 y8 y9 y10 y11 y12 y13 y14 y15 y16 y17 y18
   unfold sakialaw08_WordStays.j0
   repeat' first
   | (with_reducible exact ih0 _ _ _ _ _ _ _ _ _ _ _ _ _ _ _ _ _ _ _)
   | (with_reducible exact ih1 _)
   | (with_reducible exact pos_Check.mono _ _ _ _ _)
   | (with_reducible exact sakialaw08_awake.mono _)
   | (with_reducible exact word_Accept.mono _ _ _ _ _)
   | (with_reducible exact word_Evict.mono _ _ _ _ _ _)
   | (with_reducible exact word_Take.mono _ _ _ _ _)
   | (with_reducible exact LeO.refl _)
   | (with_reducible exact LeO.none _)
   | (with_reducible refine LeO.ite ?_ ?_)
   | (with_reducible refine LeO.bind ?_ (fun _ => ?_))
   | exact ih0 _ _ _ _ _ _ _ _ _ _ _ _ _ _ _ _ _ _ _
   | exact ih1 _
   | exact pos_Check.mono _ _ _ _ _
   | exact sakialaw08_awake.mono _
   | exact word_Accept.mono _ _ _ _ _
   | exact word_Evict.mono _ _ _ _ _ _
   | exact word_Take.mono _ _ _ _ _
   | exact LeO.none _
   | refine LeO.ite ?_ ?_
   | refine LeO.bind ?_ (fun _ => ?_)
  ·intro y0
   unfold sakialaw08_WordStays.j1
   repeat' first
   | (with_reducible exact ih0 _ _ _ _ _ _ _ _ _ _ _ _ _ _ _ _ _ _ _)
   | (with_reducible exact ih1 _)
   | (with_reducible exact pos_Check.mono _ _ _ _ _)
   | (with_reducible exact sakialaw08_awake.mono _)
   | (with_reducible exact word_Accept.mono _ _ _ _ _)
   | (with_reducible exact word_Evict.mono _ _ _ _ _ _)
   | (with_reducible exact word_Take.mono _ _ _ _ _)
   | (with_reducible exact LeO.refl _)
   | (with_reducible exact LeO.none _)
   | (with_reducible refine LeO.ite ?_ ?_)
   | (with_reducible refine LeO.bind ?_ (fun _ => ?_))
   | exact ih0 _ _ _ _ _ _ _ _ _ _ _ _ _ _ _ _ _ _ _
   | exact ih1 _
   | exact pos_Check.mono _ _ _ _ _
   | exact sakialaw08_awake.mono _
   | exact word_Accept.mono _ _ _ _ _
   | exact word_Evict.mono _ _ _ _ _ _
   | exact word_Take.mono _ _ _ _ _
   | exact LeO.none _
   | refine LeO.ite ?_ ?_
   | refine LeO.bind ?_ (fun _ => ?_)
theorem sakialaw08_WordStays.mono : ∀ a0 a1 a2 a3 a4 a5 k, LeO (sakialaw08_WordStays.f k a0 a1 a2 a3 a4 a5) (sakialaw08_WordStays.f (k + 1) a0 a1 a2 a3 a4 a5) := by
 intro a0 a1 a2 a3 a4 a5 k
 obtain ⟨ih0, ih1⟩ := sakialaw08_WordStays.mono_l k
 unfold sakialaw08_WordStays.f
 repeat' first
   | (with_reducible exact ih0 _ _ _ _ _ _ _ _ _ _ _ _ _ _ _ _ _ _ _)
   | (with_reducible exact ih1 _)
   | (with_reducible exact pos_Check.mono _ _ _ _ _)
   | (with_reducible exact sakialaw08_awake.mono _)
   | (with_reducible exact word_Accept.mono _ _ _ _ _)
   | (with_reducible exact word_Evict.mono _ _ _ _ _ _)
   | (with_reducible exact word_Take.mono _ _ _ _ _)
   | (with_reducible exact LeO.refl _)
   | (with_reducible exact LeO.none _)
   | (with_reducible refine LeO.ite ?_ ?_)
   | (with_reducible refine LeO.bind ?_ (fun _ => ?_))
   | exact ih0 _ _ _ _ _ _ _ _ _ _ _ _ _ _ _ _ _ _ _
   | exact ih1 _
   | exact pos_Check.mono _ _ _ _ _
   | exact sakialaw08_awake.mono _
   | exact word_Accept.mono _ _ _ _ _
   | exact word_Evict.mono _ _ _ _ _ _
   | exact word_Take.mono _ _ _ _ _
   | exact LeO.none _
   | refine LeO.ite ?_ ?_
   | refine LeO.bind ?_ (fun _ => ?_)
set_option maxHeartbeats 8000000 in
set_option maxRecDepth 100000 in
theorem sakialaw08_WordStays.calls (k : Nat) (a0_0 : Int) (a0_1 : Int) (a0_2 : Int) (a1 : Int) (a2 : Int) (a3 : Int) (r : Bool) (w : World) (hr_ : r = true) (h : sakialaw08_WordStays.f k a0_0 a0_1 a0_2 a1 a2 a3 = some r) :
  Calls Try.prog 4 #[.agg #[.int .i64 a0_0, .int .i64 a0_1, .int .i64 a0_2], .int .i64 a1, .int .i64 a2, .int .i64 a3] w fun e w' => e = .returned (.bool r) ∧ Below w.heap.size w w' := by
 have hu23 := Try.underlying23
 have HB := Aside0.mk (Below.refl w.heap.size w)
 have HR_ := Aside0.mk hr_
 clear hr_
 have H : ((sakialaw08_awake.f k).bind fun t295 => ((word_Accept.f k a0_0 a0_1 a0_2 a1).bind fun bt296 => ((word_Take.f k a0_0 a0_1 a0_2 a1).bind fun bt302 => ((word_Evict.f k a0_0 a0_1 a0_2 a1 a2).bind fun bt308 => ((word_Close.f a0_0 a0_1 a0_2 a3).bind fun bt313 => ((pos_Check.f k a0_0 a0_1 a0_2 a1).bind fun t317 => (if t317 = true then ((pos_Check.f k bt296.1 bt296.2.1 bt296.2.2.1 a1).bind fun t318 => (if t318 = true then ((pos_Check.f k bt302.1 bt302.2.1 bt302.2.2.1 a1).bind fun t319 => (if t319 = true then ((pos_Check.f k bt308.1 bt308.2.1 bt308.2.2.1 a1).bind fun t320 => (if t320 = true then ((pos_Check.f k bt313.1 bt313.2.1 bt313.2.2 a1).bind fun t321 => (sakialaw08_WordStays.j0 k t295 bt296.2.2.2.1 bt296.2.2.2.2 bt302.2.2.2.1 bt302.2.2.2.2 bt308.2.2.2 t321 a0_0 a0_1 a0_2 bt296.1 bt296.2.1 bt296.2.2.1 bt302.1 bt302.2.1 bt302.2.2.1 bt308.1 bt308.2.1 bt308.2.2.1)) else (sakialaw08_WordStays.j0 k t295 bt296.2.2.2.1 bt296.2.2.2.2 bt302.2.2.2.1 bt302.2.2.2.2 bt308.2.2.2 false a0_0 a0_1 a0_2 bt296.1 bt296.2.1 bt296.2.2.1 bt302.1 bt302.2.1 bt302.2.2.1 bt308.1 bt308.2.1 bt308.2.2.1))) else (sakialaw08_WordStays.j0 k t295 bt296.2.2.2.1 bt296.2.2.2.2 bt302.2.2.2.1 bt302.2.2.2.2 bt308.2.2.2 false a0_0 a0_1 a0_2 bt296.1 bt296.2.1 bt296.2.2.1 bt302.1 bt302.2.1 bt302.2.2.1 bt308.1 bt308.2.1 bt308.2.2.1))) else (sakialaw08_WordStays.j0 k t295 bt296.2.2.2.1 bt296.2.2.2.2 bt302.2.2.2.1 bt302.2.2.2.2 bt308.2.2.2 false a0_0 a0_1 a0_2 bt296.1 bt296.2.1 bt296.2.2.1 bt302.1 bt302.2.1 bt302.2.2.1 bt308.1 bt308.2.1 bt308.2.2.1))) else (sakialaw08_WordStays.j0 k t295 bt296.2.2.2.1 bt296.2.2.2.2 bt302.2.2.2.1 bt302.2.2.2.2 bt308.2.2.2 true a0_0 a0_1 a0_2 bt296.1 bt296.2.1 bt296.2.2.1 bt302.1 bt302.2.1 bt302.2.2.1 bt308.1 bt308.2.1 bt308.2.2.1)))))))) = some r := h
 clear h
 replace H := Option.bind_eq_some_iff.mp H
 obtain ⟨t295, A50, H⟩ := H
 replace H : ((word_Accept.f k a0_0 a0_1 a0_2 a1).bind fun bt296 => ((word_Take.f k a0_0 a0_1 a0_2 a1).bind fun bt302 => ((word_Evict.f k a0_0 a0_1 a0_2 a1 a2).bind fun bt308 => ((word_Close.f a0_0 a0_1 a0_2 a3).bind fun bt313 => ((pos_Check.f k a0_0 a0_1 a0_2 a1).bind fun t317 => (if t317 = true then ((pos_Check.f k bt296.1 bt296.2.1 bt296.2.2.1 a1).bind fun t318 => (if t318 = true then ((pos_Check.f k bt302.1 bt302.2.1 bt302.2.2.1 a1).bind fun t319 => (if t319 = true then ((pos_Check.f k bt308.1 bt308.2.1 bt308.2.2.1 a1).bind fun t320 => (if t320 = true then ((pos_Check.f k bt313.1 bt313.2.1 bt313.2.2 a1).bind fun t321 => (sakialaw08_WordStays.j0 k t295 bt296.2.2.2.1 bt296.2.2.2.2 bt302.2.2.2.1 bt302.2.2.2.2 bt308.2.2.2 t321 a0_0 a0_1 a0_2 bt296.1 bt296.2.1 bt296.2.2.1 bt302.1 bt302.2.1 bt302.2.2.1 bt308.1 bt308.2.1 bt308.2.2.1)) else (sakialaw08_WordStays.j0 k t295 bt296.2.2.2.1 bt296.2.2.2.2 bt302.2.2.2.1 bt302.2.2.2.2 bt308.2.2.2 false a0_0 a0_1 a0_2 bt296.1 bt296.2.1 bt296.2.2.1 bt302.1 bt302.2.1 bt302.2.2.1 bt308.1 bt308.2.1 bt308.2.2.1))) else (sakialaw08_WordStays.j0 k t295 bt296.2.2.2.1 bt296.2.2.2.2 bt302.2.2.2.1 bt302.2.2.2.2 bt308.2.2.2 false a0_0 a0_1 a0_2 bt296.1 bt296.2.1 bt296.2.2.1 bt302.1 bt302.2.1 bt302.2.2.1 bt308.1 bt308.2.1 bt308.2.2.1))) else (sakialaw08_WordStays.j0 k t295 bt296.2.2.2.1 bt296.2.2.2.2 bt302.2.2.2.1 bt302.2.2.2.2 bt308.2.2.2 false a0_0 a0_1 a0_2 bt296.1 bt296.2.1 bt296.2.2.1 bt302.1 bt302.2.1 bt302.2.2.1 bt308.1 bt308.2.1 bt308.2.2.1))) else (sakialaw08_WordStays.j0 k t295 bt296.2.2.2.1 bt296.2.2.2.2 bt302.2.2.2.1 bt302.2.2.2.2 bt308.2.2.2 true a0_0 a0_1 a0_2 bt296.1 bt296.2.1 bt296.2.2.1 bt302.1 bt302.2.1 bt302.2.2.1 bt308.1 bt308.2.1 bt308.2.2.1))))))) = some r := H
 have A5 := Aside0.mk A50
 clear A50
 replace H := Option.bind_eq_some_iff.mp H
 obtain ⟨⟨t296, t297, t298, t299, t300⟩, A60, H⟩ := H
 replace H : ((word_Take.f k a0_0 a0_1 a0_2 a1).bind fun bt302 => ((word_Evict.f k a0_0 a0_1 a0_2 a1 a2).bind fun bt308 => ((word_Close.f a0_0 a0_1 a0_2 a3).bind fun bt313 => ((pos_Check.f k a0_0 a0_1 a0_2 a1).bind fun t317 => (if t317 = true then ((pos_Check.f k t296 t297 t298 a1).bind fun t318 => (if t318 = true then ((pos_Check.f k bt302.1 bt302.2.1 bt302.2.2.1 a1).bind fun t319 => (if t319 = true then ((pos_Check.f k bt308.1 bt308.2.1 bt308.2.2.1 a1).bind fun t320 => (if t320 = true then ((pos_Check.f k bt313.1 bt313.2.1 bt313.2.2 a1).bind fun t321 => (sakialaw08_WordStays.j0 k t295 t299 t300 bt302.2.2.2.1 bt302.2.2.2.2 bt308.2.2.2 t321 a0_0 a0_1 a0_2 t296 t297 t298 bt302.1 bt302.2.1 bt302.2.2.1 bt308.1 bt308.2.1 bt308.2.2.1)) else (sakialaw08_WordStays.j0 k t295 t299 t300 bt302.2.2.2.1 bt302.2.2.2.2 bt308.2.2.2 false a0_0 a0_1 a0_2 t296 t297 t298 bt302.1 bt302.2.1 bt302.2.2.1 bt308.1 bt308.2.1 bt308.2.2.1))) else (sakialaw08_WordStays.j0 k t295 t299 t300 bt302.2.2.2.1 bt302.2.2.2.2 bt308.2.2.2 false a0_0 a0_1 a0_2 t296 t297 t298 bt302.1 bt302.2.1 bt302.2.2.1 bt308.1 bt308.2.1 bt308.2.2.1))) else (sakialaw08_WordStays.j0 k t295 t299 t300 bt302.2.2.2.1 bt302.2.2.2.2 bt308.2.2.2 false a0_0 a0_1 a0_2 t296 t297 t298 bt302.1 bt302.2.1 bt302.2.2.1 bt308.1 bt308.2.1 bt308.2.2.1))) else (sakialaw08_WordStays.j0 k t295 t299 t300 bt302.2.2.2.1 bt302.2.2.2.2 bt308.2.2.2 true a0_0 a0_1 a0_2 t296 t297 t298 bt302.1 bt302.2.1 bt302.2.2.1 bt308.1 bt308.2.1 bt308.2.2.1)))))) = some r := H
 have A6 := Aside0.mk A60
 clear A60
 replace H := Option.bind_eq_some_iff.mp H
 obtain ⟨⟨t302, t303, t304, t305, t306⟩, A70, H⟩ := H
 replace H : ((word_Evict.f k a0_0 a0_1 a0_2 a1 a2).bind fun bt308 => ((word_Close.f a0_0 a0_1 a0_2 a3).bind fun bt313 => ((pos_Check.f k a0_0 a0_1 a0_2 a1).bind fun t317 => (if t317 = true then ((pos_Check.f k t296 t297 t298 a1).bind fun t318 => (if t318 = true then ((pos_Check.f k t302 t303 t304 a1).bind fun t319 => (if t319 = true then ((pos_Check.f k bt308.1 bt308.2.1 bt308.2.2.1 a1).bind fun t320 => (if t320 = true then ((pos_Check.f k bt313.1 bt313.2.1 bt313.2.2 a1).bind fun t321 => (sakialaw08_WordStays.j0 k t295 t299 t300 t305 t306 bt308.2.2.2 t321 a0_0 a0_1 a0_2 t296 t297 t298 t302 t303 t304 bt308.1 bt308.2.1 bt308.2.2.1)) else (sakialaw08_WordStays.j0 k t295 t299 t300 t305 t306 bt308.2.2.2 false a0_0 a0_1 a0_2 t296 t297 t298 t302 t303 t304 bt308.1 bt308.2.1 bt308.2.2.1))) else (sakialaw08_WordStays.j0 k t295 t299 t300 t305 t306 bt308.2.2.2 false a0_0 a0_1 a0_2 t296 t297 t298 t302 t303 t304 bt308.1 bt308.2.1 bt308.2.2.1))) else (sakialaw08_WordStays.j0 k t295 t299 t300 t305 t306 bt308.2.2.2 false a0_0 a0_1 a0_2 t296 t297 t298 t302 t303 t304 bt308.1 bt308.2.1 bt308.2.2.1))) else (sakialaw08_WordStays.j0 k t295 t299 t300 t305 t306 bt308.2.2.2 true a0_0 a0_1 a0_2 t296 t297 t298 t302 t303 t304 bt308.1 bt308.2.1 bt308.2.2.1))))) = some r := H
 have A7 := Aside0.mk A70
 clear A70
 replace H := Option.bind_eq_some_iff.mp H
 obtain ⟨⟨t308, t309, t310, t311⟩, A80, H⟩ := H
 replace H : ((word_Close.f a0_0 a0_1 a0_2 a3).bind fun bt313 => ((pos_Check.f k a0_0 a0_1 a0_2 a1).bind fun t317 => (if t317 = true then ((pos_Check.f k t296 t297 t298 a1).bind fun t318 => (if t318 = true then ((pos_Check.f k t302 t303 t304 a1).bind fun t319 => (if t319 = true then ((pos_Check.f k t308 t309 t310 a1).bind fun t320 => (if t320 = true then ((pos_Check.f k bt313.1 bt313.2.1 bt313.2.2 a1).bind fun t321 => (sakialaw08_WordStays.j0 k t295 t299 t300 t305 t306 t311 t321 a0_0 a0_1 a0_2 t296 t297 t298 t302 t303 t304 t308 t309 t310)) else (sakialaw08_WordStays.j0 k t295 t299 t300 t305 t306 t311 false a0_0 a0_1 a0_2 t296 t297 t298 t302 t303 t304 t308 t309 t310))) else (sakialaw08_WordStays.j0 k t295 t299 t300 t305 t306 t311 false a0_0 a0_1 a0_2 t296 t297 t298 t302 t303 t304 t308 t309 t310))) else (sakialaw08_WordStays.j0 k t295 t299 t300 t305 t306 t311 false a0_0 a0_1 a0_2 t296 t297 t298 t302 t303 t304 t308 t309 t310))) else (sakialaw08_WordStays.j0 k t295 t299 t300 t305 t306 t311 true a0_0 a0_1 a0_2 t296 t297 t298 t302 t303 t304 t308 t309 t310)))) = some r := H
 have A8 := Aside0.mk A80
 clear A80
 replace H := Option.bind_eq_some_iff.mp H
 obtain ⟨⟨t313, t314, t315⟩, A90, H⟩ := H
 replace H : ((pos_Check.f k a0_0 a0_1 a0_2 a1).bind fun t317 => (if t317 = true then ((pos_Check.f k t296 t297 t298 a1).bind fun t318 => (if t318 = true then ((pos_Check.f k t302 t303 t304 a1).bind fun t319 => (if t319 = true then ((pos_Check.f k t308 t309 t310 a1).bind fun t320 => (if t320 = true then ((pos_Check.f k t313 t314 t315 a1).bind fun t321 => (sakialaw08_WordStays.j0 k t295 t299 t300 t305 t306 t311 t321 a0_0 a0_1 a0_2 t296 t297 t298 t302 t303 t304 t308 t309 t310)) else (sakialaw08_WordStays.j0 k t295 t299 t300 t305 t306 t311 false a0_0 a0_1 a0_2 t296 t297 t298 t302 t303 t304 t308 t309 t310))) else (sakialaw08_WordStays.j0 k t295 t299 t300 t305 t306 t311 false a0_0 a0_1 a0_2 t296 t297 t298 t302 t303 t304 t308 t309 t310))) else (sakialaw08_WordStays.j0 k t295 t299 t300 t305 t306 t311 false a0_0 a0_1 a0_2 t296 t297 t298 t302 t303 t304 t308 t309 t310))) else (sakialaw08_WordStays.j0 k t295 t299 t300 t305 t306 t311 true a0_0 a0_1 a0_2 t296 t297 t298 t302 t303 t304 t308 t309 t310))) = some r := H
 have A9 := Aside0.mk A90
 clear A90
 have HC10 := Aside0.mk H
 clear H
 go_enter Try.func4, Try.ntmps4
 go_upto_region 6 with (first | ((with_reducible refine gate_dst (N := 4) rfl ?_); refine box_event ?hg (N := 4) ?hd (cs := #[.int .i64 a0_0, .int .i64 a0_1, .int .i64 a0_2]) (t := 23) ?hr ?_; (case hd => rfl); (case hg => rfl); (case hr => first | (go_simp; done) | (go_simp; rfl)); intro gb294 hg w11 hbox hb; have n0_ := Aside0.mk (below_step (by repeat (first | (with_reducible first | exact HB.out | apply bA | apply bN | apply bD) | exact HB.out)) hb); have n1_ := Aside0.mk (hbox); have n2_ := Aside0.mk ((by rw [hg]; exact (below_size (by repeat (first | (with_reducible first | exact HB.out | apply bA | apply bN | apply bD) | exact HB.out))) : w.heap.size ≤ gb294)); have n3_ := Aside0.mk ((by rw [hg]; exact (below_size (by repeat (first | (with_reducible first | exact HB.out | apply bA | apply bN | apply bD) | exact HB.out))) : w.heap.size ≤ gb294)); clear HB; have HB := n0_; have BK294 := n1_; have GW294 := n2_; have GE294 := n3_; clear n0_ n1_ n2_ n3_; clear hb hbox hg) | ((with_reducible refine gate_callee (f := 15) rfl ?_); refine goesL_ (some 20) rfl rfl Try.func15 (by kernel_rfl) rfl #[] rfl (by (try simp only [List.map_toArray, List.map_cons, List.map_nil]); first | done | rfl | (simp only [List.length_drop, List.length_take]; rfl)) ?_; (with_reducible refine (sakialaw08_awake.calls k  t295 _ A5.out).mono ?_); rintro e w12 ⟨rfl, hb⟩; refine ⟨_, rfl, ?_⟩; have n0_ := Aside0.mk (blk_below (g := gb294) (o := .cells #[.int .i64 a0_0, .int .i64 a0_1, .int .i64 a0_2] 23 (0, 0)) (by (with_reducible repeat (first | apply kN | apply kD | apply kA)); exact BK294.out) hb); have n1_ := Aside0.mk (below_step (by repeat (first | (with_reducible first | exact HB.out | apply bA | apply bN | apply bD | refine below_set ?_ GE294.out) | exact HB.out)) hb); clear BK294; clear HB; have BK294 := n0_; have HB := n1_; clear n0_ n1_; (try clear hb); (try clear hb2); (try clear hk); (try clear hi); obtain ⟨hcz13_0, hcz13_1, hcz13_2, hfz13_0, hfz13_1, hfz13_2⟩ := cells3 (w := w12) (g := gb294) BK294.out) | ((with_reducible refine gate_callee (f := 16) rfl ?_); refine goesL_ (some 24) rfl rfl Try.func16 (by kernel_rfl) rfl #[.agg #[.int .i64 a0_0, .int .i64 a0_1, .int .i64 a0_2], .int .i64 a1] rfl (by (try simp only [List.map_toArray, List.map_cons, List.map_nil]); first | done | rfl | (simp only [List.length_drop, List.length_take]; rfl)) ?_; (with_reducible refine (word_Accept.calls k a0_0 a0_1 a0_2 a1 t296 t297 t298 t299 t300 _ A6.out).mono ?_); rintro e w14 ⟨rfl, hb⟩; refine ⟨_, rfl, ?_⟩; have n0_ := Aside0.mk (blk_below (g := gb294) (o := .cells #[.int .i64 a0_0, .int .i64 a0_1, .int .i64 a0_2] 23 (0, 0)) (by (with_reducible repeat (first | apply kN | apply kD | apply kA)); exact BK294.out) hb); have n1_ := Aside0.mk (below_step (by repeat (first | (with_reducible first | exact HB.out | apply bA | apply bN | apply bD | refine below_set ?_ GE294.out) | exact HB.out)) hb); clear BK294; clear HB; have BK294 := n0_; have HB := n1_; clear n0_ n1_; (try clear hb); (try clear hb2); (try clear hk); (try clear hi)) | ((with_reducible refine gate_dst (N := 10) rfl ?_); refine box_event ?hg (N := 10) ?hd (cs := #[.int .i64 0, .int .i64 0, .int .i64 0]) (t := 23) ?hr ?_; (case hd => rfl); (case hg => rfl); (case hr => first | (go_simp; done) | (go_simp; rfl)); intro gb301 hg w15 hbox hb; have n0_ := Aside0.mk (blk_below (g := gb294) (o := .cells #[.int .i64 a0_0, .int .i64 a0_1, .int .i64 a0_2] 23 (0, 0)) (by (with_reducible repeat (first | apply kN | apply kD | apply kA)); exact BK294.out) hb); have n1_ := Aside0.mk (below_step (by repeat (first | (with_reducible first | exact HB.out | apply bA | apply bN | apply bD | refine below_set ?_ GE294.out) | exact HB.out)) hb); have n2_ := Aside0.mk (hbox); have n3_ := Aside0.mk ((by rw [hg]; exact (below_size (by repeat (first | (with_reducible first | exact HB.out | apply bA | apply bN | apply bD | refine below_set ?_ GE294.out) | exact HB.out))) : w.heap.size ≤ gb301)); have n4_ := Aside0.mk ((by rw [hg]; exact (below_size (by repeat (first | (with_reducible first | exact HB.out | apply bA | apply bN | apply bD | refine below_set ?_ GE294.out) | exact HB.out))) : w.heap.size ≤ gb301)); have n5_ := Aside0.mk ((by rw [hg]; exact Nat.ne_of_lt (blk_lt (g := gb294) (o := .cells #[.int .i64 a0_0, .int .i64 a0_1, .int .i64 a0_2] 23 (0, 0)) (by (with_reducible repeat (first | apply kN | apply kD | apply kA)); exact BK294.out)) : gb294 ≠ gb301)); have n6_ := Aside0.mk ((by rw [hg]; exact Nat.ne_of_gt (blk_lt (g := gb294) (o := .cells #[.int .i64 a0_0, .int .i64 a0_1, .int .i64 a0_2] 23 (0, 0)) (by (with_reducible repeat (first | apply kN | apply kD | apply kA)); exact BK294.out)) : gb301 ≠ gb294)); clear BK294; clear HB; have BK294 := n0_; have HB := n1_; have BK301 := n2_; have GW301 := n3_; have GE301 := n4_; have NB294_301 := n5_; have NB301_294 := n6_; clear n0_ n1_ n2_ n3_ n4_ n5_ n6_; clear hb hbox hg; have hnb16 := NB301_294.out; have hnc16 := NB294_301.out; obtain ⟨hcz17_0, hcz17_1, hcz17_2, hfz17_0, hfz17_1, hfz17_2⟩ := cells3 (w := w15) (g := gb301) BK301.out; obtain ⟨hcz18_0, hcz18_1, hcz18_2, hfz18_0, hfz18_1, hfz18_2⟩ := cells3 (w := w15) (g := gb294) BK294.out) | ((with_reducible refine gate_callee (f := 18) rfl ?_); refine goesL_ (some 31) rfl rfl Try.func18 (by kernel_rfl) rfl #[.agg #[.int .i64 a0_0, .int .i64 a0_1, .int .i64 a0_2], .int .i64 a1] rfl (by (try simp only [List.map_toArray, List.map_cons, List.map_nil]); first | done | rfl | (simp only [List.length_drop, List.length_take]; rfl)) ?_; (with_reducible refine (word_Take.calls k a0_0 a0_1 a0_2 a1 t302 t303 t304 t305 t306 _ A7.out).mono ?_); rintro e w19 ⟨rfl, hb⟩; refine ⟨_, rfl, ?_⟩; have n0_ := Aside0.mk (blk_below (g := gb294) (o := .cells #[.int .i64 a0_0, .int .i64 a0_1, .int .i64 a0_2] 23 (0, 0)) (by (with_reducible repeat (first | apply kN | apply kD | apply kA)); refine blk_far ?_ NB294_301.out _; (with_reducible repeat (first | apply kN | apply kD | apply kA)); refine blk_far ?_ NB294_301.out _; (with_reducible repeat (first | apply kN | apply kD | apply kA)); refine blk_far ?_ NB294_301.out _; (with_reducible repeat (first | apply kN | apply kD | apply kA)); exact BK294.out) hb); have n1_ := Aside0.mk (blk_below (g := gb301) (o := .cells #[.int .i64 t296, .int .i64 t297, .int .i64 t298] 23 (0, 0)) (by (with_reducible repeat (first | apply kN | apply kD | apply kA)); refine blk_put (cs := #[.int .i64 t296, .int .i64 t297, .int .i64 0]) ?_ 2 _ rfl; (with_reducible repeat (first | apply kN | apply kD | apply kA)); refine blk_put (cs := #[.int .i64 t296, .int .i64 0, .int .i64 0]) ?_ 1 _ rfl; (with_reducible repeat (first | apply kN | apply kD | apply kA)); refine blk_put (cs := #[.int .i64 0, .int .i64 0, .int .i64 0]) ?_ 0 _ rfl; (with_reducible repeat (first | apply kN | apply kD | apply kA)); exact BK301.out) hb); have n2_ := Aside0.mk (below_step (by repeat (first | (with_reducible first | exact HB.out | apply bA | apply bN | apply bD | refine below_set ?_ GE294.out | refine below_set ?_ GE301.out) | exact HB.out)) hb); clear BK294; clear BK301; clear HB; have BK294 := n0_; have BK301 := n1_; have HB := n2_; clear n0_ n1_ n2_; (try clear hb); (try clear hb2); (try clear hk); (try clear hi)) | ((with_reducible refine gate_dst (N := 13) rfl ?_); refine box_event ?hg (N := 13) ?hd (cs := #[.int .i64 0, .int .i64 0, .int .i64 0]) (t := 23) ?hr ?_; (case hd => rfl); (case hg => rfl); (case hr => first | (go_simp; done) | (go_simp; rfl)); intro gb307 hg w20 hbox hb; have n0_ := Aside0.mk (blk_below (g := gb294) (o := .cells #[.int .i64 a0_0, .int .i64 a0_1, .int .i64 a0_2] 23 (0, 0)) (by (with_reducible repeat (first | apply kN | apply kD | apply kA)); exact BK294.out) hb); have n1_ := Aside0.mk (blk_below (g := gb301) (o := .cells #[.int .i64 t296, .int .i64 t297, .int .i64 t298] 23 (0, 0)) (by (with_reducible repeat (first | apply kN | apply kD | apply kA)); exact BK301.out) hb); have n2_ := Aside0.mk (below_step (by repeat (first | (with_reducible first | exact HB.out | apply bA | apply bN | apply bD | refine below_set ?_ GE294.out | refine below_set ?_ GE301.out) | exact HB.out)) hb); have n3_ := Aside0.mk (hbox); have n4_ := Aside0.mk ((by rw [hg]; exact (below_size (by repeat (first | (with_reducible first | exact HB.out | apply bA | apply bN | apply bD | refine below_set ?_ GE294.out | refine below_set ?_ GE301.out) | exact HB.out))) : w.heap.size ≤ gb307)); have n5_ := Aside0.mk ((by rw [hg]; exact (below_size (by repeat (first | (with_reducible first | exact HB.out | apply bA | apply bN | apply bD | refine below_set ?_ GE294.out | refine below_set ?_ GE301.out) | exact HB.out))) : w.heap.size ≤ gb307)); have n6_ := Aside0.mk ((by rw [hg]; exact Nat.ne_of_lt (blk_lt (g := gb294) (o := .cells #[.int .i64 a0_0, .int .i64 a0_1, .int .i64 a0_2] 23 (0, 0)) (by (with_reducible repeat (first | apply kN | apply kD | apply kA)); exact BK294.out)) : gb294 ≠ gb307)); have n7_ := Aside0.mk ((by rw [hg]; exact Nat.ne_of_gt (blk_lt (g := gb294) (o := .cells #[.int .i64 a0_0, .int .i64 a0_1, .int .i64 a0_2] 23 (0, 0)) (by (with_reducible repeat (first | apply kN | apply kD | apply kA)); exact BK294.out)) : gb307 ≠ gb294)); have n8_ := Aside0.mk ((by rw [hg]; exact Nat.ne_of_lt (blk_lt (g := gb301) (o := .cells #[.int .i64 t296, .int .i64 t297, .int .i64 t298] 23 (0, 0)) (by (with_reducible repeat (first | apply kN | apply kD | apply kA)); exact BK301.out)) : gb301 ≠ gb307)); have n9_ := Aside0.mk ((by rw [hg]; exact Nat.ne_of_gt (blk_lt (g := gb301) (o := .cells #[.int .i64 t296, .int .i64 t297, .int .i64 t298] 23 (0, 0)) (by (with_reducible repeat (first | apply kN | apply kD | apply kA)); exact BK301.out)) : gb307 ≠ gb301)); clear BK294; clear BK301; clear HB; have BK294 := n0_; have BK301 := n1_; have HB := n2_; have BK307 := n3_; have GW307 := n4_; have GE307 := n5_; have NB294_307 := n6_; have NB307_294 := n7_; have NB301_307 := n8_; have NB307_301 := n9_; clear n0_ n1_ n2_ n3_ n4_ n5_ n6_ n7_ n8_ n9_; clear hb hbox hg; have hnb21 := NB307_294.out; have hnc21 := NB294_307.out; have hnb22 := NB307_301.out; have hnc22 := NB301_307.out; obtain ⟨hcz23_0, hcz23_1, hcz23_2, hfz23_0, hfz23_1, hfz23_2⟩ := cells3 (w := w20) (g := gb307) BK307.out; obtain ⟨hcz24_0, hcz24_1, hcz24_2, hfz24_0, hfz24_1, hfz24_2⟩ := cells3 (w := w20) (g := gb294) BK294.out) | ((with_reducible refine gate_callee (f := 20) rfl ?_); refine goesL_ (some 39) rfl rfl Try.func20 (by kernel_rfl) rfl #[.agg #[.int .i64 a0_0, .int .i64 a0_1, .int .i64 a0_2], .int .i64 a1, .int .i64 a2] rfl (by (try simp only [List.map_toArray, List.map_cons, List.map_nil]); first | done | rfl | (simp only [List.length_drop, List.length_take]; rfl)) ?_; (with_reducible refine (word_Evict.calls k a0_0 a0_1 a0_2 a1 a2 t308 t309 t310 t311 _ A8.out).mono ?_); rintro e w25 ⟨rfl, hb⟩; refine ⟨_, rfl, ?_⟩; have n0_ := Aside0.mk (blk_below (g := gb294) (o := .cells #[.int .i64 a0_0, .int .i64 a0_1, .int .i64 a0_2] 23 (0, 0)) (by (with_reducible repeat (first | apply kN | apply kD | apply kA)); refine blk_far ?_ NB294_307.out _; (with_reducible repeat (first | apply kN | apply kD | apply kA)); refine blk_far ?_ NB294_307.out _; (with_reducible repeat (first | apply kN | apply kD | apply kA)); refine blk_far ?_ NB294_307.out _; (with_reducible repeat (first | apply kN | apply kD | apply kA)); exact BK294.out) hb); have n1_ := Aside0.mk (blk_below (g := gb301) (o := .cells #[.int .i64 t296, .int .i64 t297, .int .i64 t298] 23 (0, 0)) (by (with_reducible repeat (first | apply kN | apply kD | apply kA)); refine blk_far ?_ NB301_307.out _; (with_reducible repeat (first | apply kN | apply kD | apply kA)); refine blk_far ?_ NB301_307.out _; (with_reducible repeat (first | apply kN | apply kD | apply kA)); refine blk_far ?_ NB301_307.out _; (with_reducible repeat (first | apply kN | apply kD | apply kA)); exact BK301.out) hb); have n2_ := Aside0.mk (blk_below (g := gb307) (o := .cells #[.int .i64 t302, .int .i64 t303, .int .i64 t304] 23 (0, 0)) (by (with_reducible repeat (first | apply kN | apply kD | apply kA)); refine blk_put (cs := #[.int .i64 t302, .int .i64 t303, .int .i64 0]) ?_ 2 _ rfl; (with_reducible repeat (first | apply kN | apply kD | apply kA)); refine blk_put (cs := #[.int .i64 t302, .int .i64 0, .int .i64 0]) ?_ 1 _ rfl; (with_reducible repeat (first | apply kN | apply kD | apply kA)); refine blk_put (cs := #[.int .i64 0, .int .i64 0, .int .i64 0]) ?_ 0 _ rfl; (with_reducible repeat (first | apply kN | apply kD | apply kA)); exact BK307.out) hb); have n3_ := Aside0.mk (below_step (by repeat (first | (with_reducible first | exact HB.out | apply bA | apply bN | apply bD | refine below_set ?_ GE294.out | refine below_set ?_ GE301.out | refine below_set ?_ GE307.out) | exact HB.out)) hb); clear BK294; clear BK301; clear BK307; clear HB; have BK294 := n0_; have BK301 := n1_; have BK307 := n2_; have HB := n3_; clear n0_ n1_ n2_ n3_; (try clear hb); (try clear hb2); (try clear hk); (try clear hi)) | ((with_reducible refine gate_dst (N := 16) rfl ?_); refine box_event ?hg (N := 16) ?hd (cs := #[.int .i64 0, .int .i64 0, .int .i64 0]) (t := 23) ?hr ?_; (case hd => rfl); (case hg => rfl); (case hr => first | (go_simp; done) | (go_simp; rfl)); intro gb312 hg w26 hbox hb; have n0_ := Aside0.mk (blk_below (g := gb294) (o := .cells #[.int .i64 a0_0, .int .i64 a0_1, .int .i64 a0_2] 23 (0, 0)) (by (with_reducible repeat (first | apply kN | apply kD | apply kA)); exact BK294.out) hb); have n1_ := Aside0.mk (blk_below (g := gb301) (o := .cells #[.int .i64 t296, .int .i64 t297, .int .i64 t298] 23 (0, 0)) (by (with_reducible repeat (first | apply kN | apply kD | apply kA)); exact BK301.out) hb); have n2_ := Aside0.mk (blk_below (g := gb307) (o := .cells #[.int .i64 t302, .int .i64 t303, .int .i64 t304] 23 (0, 0)) (by (with_reducible repeat (first | apply kN | apply kD | apply kA)); exact BK307.out) hb); have n3_ := Aside0.mk (below_step (by repeat (first | (with_reducible first | exact HB.out | apply bA | apply bN | apply bD | refine below_set ?_ GE294.out | refine below_set ?_ GE301.out | refine below_set ?_ GE307.out) | exact HB.out)) hb); have n4_ := Aside0.mk (hbox); have n5_ := Aside0.mk ((by rw [hg]; exact (below_size (by repeat (first | (with_reducible first | exact HB.out | apply bA | apply bN | apply bD | refine below_set ?_ GE294.out | refine below_set ?_ GE301.out | refine below_set ?_ GE307.out) | exact HB.out))) : w.heap.size ≤ gb312)); have n6_ := Aside0.mk ((by rw [hg]; exact (below_size (by repeat (first | (with_reducible first | exact HB.out | apply bA | apply bN | apply bD | refine below_set ?_ GE294.out | refine below_set ?_ GE301.out | refine below_set ?_ GE307.out) | exact HB.out))) : w.heap.size ≤ gb312)); have n7_ := Aside0.mk ((by rw [hg]; exact Nat.ne_of_lt (blk_lt (g := gb294) (o := .cells #[.int .i64 a0_0, .int .i64 a0_1, .int .i64 a0_2] 23 (0, 0)) (by (with_reducible repeat (first | apply kN | apply kD | apply kA)); exact BK294.out)) : gb294 ≠ gb312)); have n8_ := Aside0.mk ((by rw [hg]; exact Nat.ne_of_gt (blk_lt (g := gb294) (o := .cells #[.int .i64 a0_0, .int .i64 a0_1, .int .i64 a0_2] 23 (0, 0)) (by (with_reducible repeat (first | apply kN | apply kD | apply kA)); exact BK294.out)) : gb312 ≠ gb294)); have n9_ := Aside0.mk ((by rw [hg]; exact Nat.ne_of_lt (blk_lt (g := gb301) (o := .cells #[.int .i64 t296, .int .i64 t297, .int .i64 t298] 23 (0, 0)) (by (with_reducible repeat (first | apply kN | apply kD | apply kA)); exact BK301.out)) : gb301 ≠ gb312)); have n10_ := Aside0.mk ((by rw [hg]; exact Nat.ne_of_gt (blk_lt (g := gb301) (o := .cells #[.int .i64 t296, .int .i64 t297, .int .i64 t298] 23 (0, 0)) (by (with_reducible repeat (first | apply kN | apply kD | apply kA)); exact BK301.out)) : gb312 ≠ gb301)); have n11_ := Aside0.mk ((by rw [hg]; exact Nat.ne_of_lt (blk_lt (g := gb307) (o := .cells #[.int .i64 t302, .int .i64 t303, .int .i64 t304] 23 (0, 0)) (by (with_reducible repeat (first | apply kN | apply kD | apply kA)); exact BK307.out)) : gb307 ≠ gb312)); have n12_ := Aside0.mk ((by rw [hg]; exact Nat.ne_of_gt (blk_lt (g := gb307) (o := .cells #[.int .i64 t302, .int .i64 t303, .int .i64 t304] 23 (0, 0)) (by (with_reducible repeat (first | apply kN | apply kD | apply kA)); exact BK307.out)) : gb312 ≠ gb307)); clear BK294; clear BK301; clear BK307; clear HB; have BK294 := n0_; have BK301 := n1_; have BK307 := n2_; have HB := n3_; have BK312 := n4_; have GW312 := n5_; have GE312 := n6_; have NB294_312 := n7_; have NB312_294 := n8_; have NB301_312 := n9_; have NB312_301 := n10_; have NB307_312 := n11_; have NB312_307 := n12_; clear n0_ n1_ n2_ n3_ n4_ n5_ n6_ n7_ n8_ n9_ n10_ n11_ n12_; clear hb hbox hg; have hnb27 := NB312_294.out; have hnc27 := NB294_312.out; have hnb28 := NB312_301.out; have hnc28 := NB301_312.out; have hnb29 := NB312_307.out; have hnc29 := NB307_312.out; obtain ⟨hcz30_0, hcz30_1, hcz30_2, hfz30_0, hfz30_1, hfz30_2⟩ := cells3 (w := w26) (g := gb312) BK312.out; obtain ⟨hcz31_0, hcz31_1, hcz31_2, hfz31_0, hfz31_1, hfz31_2⟩ := cells3 (w := w26) (g := gb294) BK294.out) | ((with_reducible refine gate_callee (f := 23) rfl ?_); refine goesL_ (some 44) rfl rfl Try.func23 (by kernel_rfl) rfl #[.agg #[.int .i64 a0_0, .int .i64 a0_1, .int .i64 a0_2], .int .i64 a3] rfl (by (try simp only [List.map_toArray, List.map_cons, List.map_nil]); first | done | rfl | (simp only [List.length_drop, List.length_take]; rfl)) ?_; (with_reducible refine (word_Close.calls a0_0 a0_1 a0_2 a3 t313 t314 t315 _ A9.out).mono ?_); rintro e w32 ⟨rfl, hb⟩; refine ⟨_, rfl, ?_⟩; have n0_ := Aside0.mk (blk_below (g := gb294) (o := .cells #[.int .i64 a0_0, .int .i64 a0_1, .int .i64 a0_2] 23 (0, 0)) (by (with_reducible repeat (first | apply kN | apply kD | apply kA)); refine blk_far ?_ NB294_312.out _; (with_reducible repeat (first | apply kN | apply kD | apply kA)); refine blk_far ?_ NB294_312.out _; (with_reducible repeat (first | apply kN | apply kD | apply kA)); refine blk_far ?_ NB294_312.out _; (with_reducible repeat (first | apply kN | apply kD | apply kA)); exact BK294.out) hb); have n1_ := Aside0.mk (blk_below (g := gb301) (o := .cells #[.int .i64 t296, .int .i64 t297, .int .i64 t298] 23 (0, 0)) (by (with_reducible repeat (first | apply kN | apply kD | apply kA)); refine blk_far ?_ NB301_312.out _; (with_reducible repeat (first | apply kN | apply kD | apply kA)); refine blk_far ?_ NB301_312.out _; (with_reducible repeat (first | apply kN | apply kD | apply kA)); refine blk_far ?_ NB301_312.out _; (with_reducible repeat (first | apply kN | apply kD | apply kA)); exact BK301.out) hb); have n2_ := Aside0.mk (blk_below (g := gb307) (o := .cells #[.int .i64 t302, .int .i64 t303, .int .i64 t304] 23 (0, 0)) (by (with_reducible repeat (first | apply kN | apply kD | apply kA)); refine blk_far ?_ NB307_312.out _; (with_reducible repeat (first | apply kN | apply kD | apply kA)); refine blk_far ?_ NB307_312.out _; (with_reducible repeat (first | apply kN | apply kD | apply kA)); refine blk_far ?_ NB307_312.out _; (with_reducible repeat (first | apply kN | apply kD | apply kA)); exact BK307.out) hb); have n3_ := Aside0.mk (blk_below (g := gb312) (o := .cells #[.int .i64 t308, .int .i64 t309, .int .i64 t310] 23 (0, 0)) (by (with_reducible repeat (first | apply kN | apply kD | apply kA)); refine blk_put (cs := #[.int .i64 t308, .int .i64 t309, .int .i64 0]) ?_ 2 _ rfl; (with_reducible repeat (first | apply kN | apply kD | apply kA)); refine blk_put (cs := #[.int .i64 t308, .int .i64 0, .int .i64 0]) ?_ 1 _ rfl; (with_reducible repeat (first | apply kN | apply kD | apply kA)); refine blk_put (cs := #[.int .i64 0, .int .i64 0, .int .i64 0]) ?_ 0 _ rfl; (with_reducible repeat (first | apply kN | apply kD | apply kA)); exact BK312.out) hb); have n4_ := Aside0.mk (below_step (by repeat (first | (with_reducible first | exact HB.out | apply bA | apply bN | apply bD | refine below_set ?_ GE294.out | refine below_set ?_ GE301.out | refine below_set ?_ GE307.out | refine below_set ?_ GE312.out) | exact HB.out)) hb); clear BK294; clear BK301; clear BK307; clear BK312; clear HB; have BK294 := n0_; have BK301 := n1_; have BK307 := n2_; have BK312 := n3_; have HB := n4_; clear n0_ n1_ n2_ n3_ n4_; (try clear hb); (try clear hb2); (try clear hk); (try clear hi)) | ((with_reducible refine gate_dst (N := 18) rfl ?_); refine box_event ?hg (N := 18) ?hd (cs := #[.int .i64 0, .int .i64 0, .int .i64 0]) (t := 23) ?hr ?_; (case hd => rfl); (case hg => rfl); (case hr => first | (go_simp; done) | (go_simp; rfl)); intro gb316 hg w33 hbox hb; have n0_ := Aside0.mk (blk_below (g := gb294) (o := .cells #[.int .i64 a0_0, .int .i64 a0_1, .int .i64 a0_2] 23 (0, 0)) (by (with_reducible repeat (first | apply kN | apply kD | apply kA)); exact BK294.out) hb); have n1_ := Aside0.mk (blk_below (g := gb301) (o := .cells #[.int .i64 t296, .int .i64 t297, .int .i64 t298] 23 (0, 0)) (by (with_reducible repeat (first | apply kN | apply kD | apply kA)); exact BK301.out) hb); have n2_ := Aside0.mk (blk_below (g := gb307) (o := .cells #[.int .i64 t302, .int .i64 t303, .int .i64 t304] 23 (0, 0)) (by (with_reducible repeat (first | apply kN | apply kD | apply kA)); exact BK307.out) hb); have n3_ := Aside0.mk (blk_below (g := gb312) (o := .cells #[.int .i64 t308, .int .i64 t309, .int .i64 t310] 23 (0, 0)) (by (with_reducible repeat (first | apply kN | apply kD | apply kA)); exact BK312.out) hb); have n4_ := Aside0.mk (below_step (by repeat (first | (with_reducible first | exact HB.out | apply bA | apply bN | apply bD | refine below_set ?_ GE294.out | refine below_set ?_ GE301.out | refine below_set ?_ GE307.out | refine below_set ?_ GE312.out) | exact HB.out)) hb); have n5_ := Aside0.mk (hbox); have n6_ := Aside0.mk ((by rw [hg]; exact (below_size (by repeat (first | (with_reducible first | exact HB.out | apply bA | apply bN | apply bD | refine below_set ?_ GE294.out | refine below_set ?_ GE301.out | refine below_set ?_ GE307.out | refine below_set ?_ GE312.out) | exact HB.out))) : w.heap.size ≤ gb316)); have n7_ := Aside0.mk ((by rw [hg]; exact (below_size (by repeat (first | (with_reducible first | exact HB.out | apply bA | apply bN | apply bD | refine below_set ?_ GE294.out | refine below_set ?_ GE301.out | refine below_set ?_ GE307.out | refine below_set ?_ GE312.out) | exact HB.out))) : w.heap.size ≤ gb316)); have n8_ := Aside0.mk ((by rw [hg]; exact Nat.ne_of_lt (blk_lt (g := gb294) (o := .cells #[.int .i64 a0_0, .int .i64 a0_1, .int .i64 a0_2] 23 (0, 0)) (by (with_reducible repeat (first | apply kN | apply kD | apply kA)); exact BK294.out)) : gb294 ≠ gb316)); have n9_ := Aside0.mk ((by rw [hg]; exact Nat.ne_of_gt (blk_lt (g := gb294) (o := .cells #[.int .i64 a0_0, .int .i64 a0_1, .int .i64 a0_2] 23 (0, 0)) (by (with_reducible repeat (first | apply kN | apply kD | apply kA)); exact BK294.out)) : gb316 ≠ gb294)); have n10_ := Aside0.mk ((by rw [hg]; exact Nat.ne_of_lt (blk_lt (g := gb301) (o := .cells #[.int .i64 t296, .int .i64 t297, .int .i64 t298] 23 (0, 0)) (by (with_reducible repeat (first | apply kN | apply kD | apply kA)); exact BK301.out)) : gb301 ≠ gb316)); have n11_ := Aside0.mk ((by rw [hg]; exact Nat.ne_of_gt (blk_lt (g := gb301) (o := .cells #[.int .i64 t296, .int .i64 t297, .int .i64 t298] 23 (0, 0)) (by (with_reducible repeat (first | apply kN | apply kD | apply kA)); exact BK301.out)) : gb316 ≠ gb301)); have n12_ := Aside0.mk ((by rw [hg]; exact Nat.ne_of_lt (blk_lt (g := gb307) (o := .cells #[.int .i64 t302, .int .i64 t303, .int .i64 t304] 23 (0, 0)) (by (with_reducible repeat (first | apply kN | apply kD | apply kA)); exact BK307.out)) : gb307 ≠ gb316)); have n13_ := Aside0.mk ((by rw [hg]; exact Nat.ne_of_gt (blk_lt (g := gb307) (o := .cells #[.int .i64 t302, .int .i64 t303, .int .i64 t304] 23 (0, 0)) (by (with_reducible repeat (first | apply kN | apply kD | apply kA)); exact BK307.out)) : gb316 ≠ gb307)); have n14_ := Aside0.mk ((by rw [hg]; exact Nat.ne_of_lt (blk_lt (g := gb312) (o := .cells #[.int .i64 t308, .int .i64 t309, .int .i64 t310] 23 (0, 0)) (by (with_reducible repeat (first | apply kN | apply kD | apply kA)); exact BK312.out)) : gb312 ≠ gb316)); have n15_ := Aside0.mk ((by rw [hg]; exact Nat.ne_of_gt (blk_lt (g := gb312) (o := .cells #[.int .i64 t308, .int .i64 t309, .int .i64 t310] 23 (0, 0)) (by (with_reducible repeat (first | apply kN | apply kD | apply kA)); exact BK312.out)) : gb316 ≠ gb312)); clear BK294; clear BK301; clear BK307; clear BK312; clear HB; have BK294 := n0_; have BK301 := n1_; have BK307 := n2_; have BK312 := n3_; have HB := n4_; have BK316 := n5_; have GW316 := n6_; have GE316 := n7_; have NB294_316 := n8_; have NB316_294 := n9_; have NB301_316 := n10_; have NB316_301 := n11_; have NB307_316 := n12_; have NB316_307 := n13_; have NB312_316 := n14_; have NB316_312 := n15_; clear n0_ n1_ n2_ n3_ n4_ n5_ n6_ n7_ n8_ n9_ n10_ n11_ n12_ n13_ n14_ n15_; clear hb hbox hg; have hnb34 := NB316_294.out; have hnc34 := NB294_316.out; have hnb35 := NB316_301.out; have hnc35 := NB301_316.out; have hnb36 := NB316_307.out; have hnc36 := NB307_316.out; have hnb37 := NB316_312.out; have hnc37 := NB312_316.out; obtain ⟨hcz38_0, hcz38_1, hcz38_2, hfz38_0, hfz38_1, hfz38_2⟩ := cells3 (w := w33) (g := gb316) BK316.out))
 (try simp only [Act.put, List.setIfInBounds_toArray, List.set_cons_zero, List.set_cons_succ])
 go_cut [19] (fun v19 wc => ∃ (kq : Nat) (x19_9 : Bool), v19 = .bool x19_9 ∧ Aside0 (sakialaw08_WordStays.j0 kq t295 t299 t300 t305 t306 t311 x19_9 a0_0 a0_1 a0_2 t296 t297 t298 t302 t303 t304 t308 t309 t310 = some r) ∧ Aside0 (kq ≤ k) ∧ Aside0 (wc.heap[gb294]? = some (.cells #[.int .i64 a0_0, .int .i64 a0_1, .int .i64 a0_2] 23 (0, 0))) ∧ Aside0 (wc.heap[gb301]? = some (.cells #[.int .i64 t296, .int .i64 t297, .int .i64 t298] 23 (0, 0))) ∧ Aside0 (wc.heap[gb307]? = some (.cells #[.int .i64 t302, .int .i64 t303, .int .i64 t304] 23 (0, 0))) ∧ Aside0 (wc.heap[gb312]? = some (.cells #[.int .i64 t308, .int .i64 t309, .int .i64 t310] 23 (0, 0))) ∧ Aside0 (wc.heap[gb316]? = some (.cells #[.int .i64 t313, .int .i64 t314, .int .i64 t315] 23 (0, 0))) ∧ Aside0 (Below w.heap.size w wc))
 case first =>
  have H := HC10.out
  clear HC10
  replace H := Option.bind_eq_some_iff.mp H
  obtain ⟨t317, A390, H⟩ := H
  replace H : (if t317 = true then ((pos_Check.f k t296 t297 t298 a1).bind fun t318 => (if t318 = true then ((pos_Check.f k t302 t303 t304 a1).bind fun t319 => (if t319 = true then ((pos_Check.f k t308 t309 t310 a1).bind fun t320 => (if t320 = true then ((pos_Check.f k t313 t314 t315 a1).bind fun t321 => (sakialaw08_WordStays.j0 k t295 t299 t300 t305 t306 t311 t321 a0_0 a0_1 a0_2 t296 t297 t298 t302 t303 t304 t308 t309 t310)) else (sakialaw08_WordStays.j0 k t295 t299 t300 t305 t306 t311 false a0_0 a0_1 a0_2 t296 t297 t298 t302 t303 t304 t308 t309 t310))) else (sakialaw08_WordStays.j0 k t295 t299 t300 t305 t306 t311 false a0_0 a0_1 a0_2 t296 t297 t298 t302 t303 t304 t308 t309 t310))) else (sakialaw08_WordStays.j0 k t295 t299 t300 t305 t306 t311 false a0_0 a0_1 a0_2 t296 t297 t298 t302 t303 t304 t308 t309 t310))) else (sakialaw08_WordStays.j0 k t295 t299 t300 t305 t306 t311 true a0_0 a0_1 a0_2 t296 t297 t298 t302 t303 t304 t308 t309 t310)) = some r := H
  have A39 := Aside0.mk A390
  clear A390
  by_cases c40 : t317 = true
  ·subst c40
   have H1 : ((pos_Check.f k t296 t297 t298 a1).bind fun t318 => (if t318 = true then ((pos_Check.f k t302 t303 t304 a1).bind fun t319 => (if t319 = true then ((pos_Check.f k t308 t309 t310 a1).bind fun t320 => (if t320 = true then ((pos_Check.f k t313 t314 t315 a1).bind fun t321 => (sakialaw08_WordStays.j0 k t295 t299 t300 t305 t306 t311 t321 a0_0 a0_1 a0_2 t296 t297 t298 t302 t303 t304 t308 t309 t310)) else (sakialaw08_WordStays.j0 k t295 t299 t300 t305 t306 t311 false a0_0 a0_1 a0_2 t296 t297 t298 t302 t303 t304 t308 t309 t310))) else (sakialaw08_WordStays.j0 k t295 t299 t300 t305 t306 t311 false a0_0 a0_1 a0_2 t296 t297 t298 t302 t303 t304 t308 t309 t310))) else (sakialaw08_WordStays.j0 k t295 t299 t300 t305 t306 t311 false a0_0 a0_1 a0_2 t296 t297 t298 t302 t303 t304 t308 t309 t310))) = some r := by rw [if_pos rfl] at H; exact H
   clear H
   have H := H1
   clear H1
   replace H := Option.bind_eq_some_iff.mp H
   obtain ⟨t318, A410, H⟩ := H
   replace H : (if t318 = true then ((pos_Check.f k t302 t303 t304 a1).bind fun t319 => (if t319 = true then ((pos_Check.f k t308 t309 t310 a1).bind fun t320 => (if t320 = true then ((pos_Check.f k t313 t314 t315 a1).bind fun t321 => (sakialaw08_WordStays.j0 k t295 t299 t300 t305 t306 t311 t321 a0_0 a0_1 a0_2 t296 t297 t298 t302 t303 t304 t308 t309 t310)) else (sakialaw08_WordStays.j0 k t295 t299 t300 t305 t306 t311 false a0_0 a0_1 a0_2 t296 t297 t298 t302 t303 t304 t308 t309 t310))) else (sakialaw08_WordStays.j0 k t295 t299 t300 t305 t306 t311 false a0_0 a0_1 a0_2 t296 t297 t298 t302 t303 t304 t308 t309 t310))) else (sakialaw08_WordStays.j0 k t295 t299 t300 t305 t306 t311 false a0_0 a0_1 a0_2 t296 t297 t298 t302 t303 t304 t308 t309 t310)) = some r := H
   have A41 := Aside0.mk A410
   clear A410
   by_cases c42 : t318 = true
   ·subst c42
    have H1 : ((pos_Check.f k t302 t303 t304 a1).bind fun t319 => (if t319 = true then ((pos_Check.f k t308 t309 t310 a1).bind fun t320 => (if t320 = true then ((pos_Check.f k t313 t314 t315 a1).bind fun t321 => (sakialaw08_WordStays.j0 k t295 t299 t300 t305 t306 t311 t321 a0_0 a0_1 a0_2 t296 t297 t298 t302 t303 t304 t308 t309 t310)) else (sakialaw08_WordStays.j0 k t295 t299 t300 t305 t306 t311 false a0_0 a0_1 a0_2 t296 t297 t298 t302 t303 t304 t308 t309 t310))) else (sakialaw08_WordStays.j0 k t295 t299 t300 t305 t306 t311 false a0_0 a0_1 a0_2 t296 t297 t298 t302 t303 t304 t308 t309 t310))) = some r := by rw [if_pos rfl] at H; exact H
    clear H
    have H := H1
    clear H1
    replace H := Option.bind_eq_some_iff.mp H
    obtain ⟨t319, A430, H⟩ := H
    replace H : (if t319 = true then ((pos_Check.f k t308 t309 t310 a1).bind fun t320 => (if t320 = true then ((pos_Check.f k t313 t314 t315 a1).bind fun t321 => (sakialaw08_WordStays.j0 k t295 t299 t300 t305 t306 t311 t321 a0_0 a0_1 a0_2 t296 t297 t298 t302 t303 t304 t308 t309 t310)) else (sakialaw08_WordStays.j0 k t295 t299 t300 t305 t306 t311 false a0_0 a0_1 a0_2 t296 t297 t298 t302 t303 t304 t308 t309 t310))) else (sakialaw08_WordStays.j0 k t295 t299 t300 t305 t306 t311 false a0_0 a0_1 a0_2 t296 t297 t298 t302 t303 t304 t308 t309 t310)) = some r := H
    have A43 := Aside0.mk A430
    clear A430
    by_cases c44 : t319 = true
    ·subst c44
     have H1 : ((pos_Check.f k t308 t309 t310 a1).bind fun t320 => (if t320 = true then ((pos_Check.f k t313 t314 t315 a1).bind fun t321 => (sakialaw08_WordStays.j0 k t295 t299 t300 t305 t306 t311 t321 a0_0 a0_1 a0_2 t296 t297 t298 t302 t303 t304 t308 t309 t310)) else (sakialaw08_WordStays.j0 k t295 t299 t300 t305 t306 t311 false a0_0 a0_1 a0_2 t296 t297 t298 t302 t303 t304 t308 t309 t310))) = some r := by rw [if_pos rfl] at H; exact H
     clear H
     have H := H1
     clear H1
     replace H := Option.bind_eq_some_iff.mp H
     obtain ⟨t320, A450, H⟩ := H
     replace H : (if t320 = true then ((pos_Check.f k t313 t314 t315 a1).bind fun t321 => (sakialaw08_WordStays.j0 k t295 t299 t300 t305 t306 t311 t321 a0_0 a0_1 a0_2 t296 t297 t298 t302 t303 t304 t308 t309 t310)) else (sakialaw08_WordStays.j0 k t295 t299 t300 t305 t306 t311 false a0_0 a0_1 a0_2 t296 t297 t298 t302 t303 t304 t308 t309 t310)) = some r := H
     have A45 := Aside0.mk A450
     clear A450
     by_cases c46 : t320 = true
     ·subst c46
      have H1 : ((pos_Check.f k t313 t314 t315 a1).bind fun t321 => (sakialaw08_WordStays.j0 k t295 t299 t300 t305 t306 t311 t321 a0_0 a0_1 a0_2 t296 t297 t298 t302 t303 t304 t308 t309 t310)) = some r := by rw [if_pos rfl] at H; exact H
      clear H
      have H := H1
      clear H1
      replace H := Option.bind_eq_some_iff.mp H
      obtain ⟨t321, A470, H⟩ := H
      replace H : (sakialaw08_WordStays.j0 k t295 t299 t300 t305 t306 t311 t321 a0_0 a0_1 a0_2 t296 t297 t298 t302 t303 t304 t308 t309 t310) = some r := H
      have A47 := Aside0.mk A470
      clear A470
      have H' := Aside0.mk H
      clear H
      have hnb48 := NB294_301.out
      have hnc48 := NB301_294.out
      have hnb49 := NB294_307.out
      have hnc49 := NB307_294.out
      have hnb50 := NB294_312.out
      have hnc50 := NB312_294.out
      have hnb51 := NB294_316.out
      have hnc51 := NB316_294.out
      obtain ⟨hcz52_0, hcz52_1, hcz52_2, hfz52_0, hfz52_1, hfz52_2⟩ := cells3 (w := w33) (g := gb294) BK294.out
      go_wp2_with (first | ((with_reducible refine gate_callee (f := 25) rfl ?_); refine goesL_ (some 47) rfl rfl Try.func25 (by kernel_rfl) rfl #[.agg #[.int .i64 a0_0, .int .i64 a0_1, .int .i64 a0_2], .int .i64 a1] rfl (by (try simp only [List.map_toArray, List.map_cons, List.map_nil]); first | done | rfl | (simp only [List.length_drop, List.length_take]; rfl)) ?_; (with_reducible refine (pos_Check.calls k a0_0 a0_1 a0_2 a1 true _ A39.out).mono ?_); rintro e w53 ⟨rfl, hb⟩; refine ⟨_, rfl, ?_⟩; have n0_ := Aside0.mk (blk_below (g := gb294) (o := .cells #[.int .i64 a0_0, .int .i64 a0_1, .int .i64 a0_2] 23 (0, 0)) (by (with_reducible repeat (first | apply kN | apply kD | apply kA)); refine blk_far ?_ NB294_316.out _; (with_reducible repeat (first | apply kN | apply kD | apply kA)); refine blk_far ?_ NB294_316.out _; (with_reducible repeat (first | apply kN | apply kD | apply kA)); refine blk_far ?_ NB294_316.out _; (with_reducible repeat (first | apply kN | apply kD | apply kA)); exact BK294.out) hb); have n1_ := Aside0.mk (blk_below (g := gb301) (o := .cells #[.int .i64 t296, .int .i64 t297, .int .i64 t298] 23 (0, 0)) (by (with_reducible repeat (first | apply kN | apply kD | apply kA)); refine blk_far ?_ NB301_316.out _; (with_reducible repeat (first | apply kN | apply kD | apply kA)); refine blk_far ?_ NB301_316.out _; (with_reducible repeat (first | apply kN | apply kD | apply kA)); refine blk_far ?_ NB301_316.out _; (with_reducible repeat (first | apply kN | apply kD | apply kA)); exact BK301.out) hb); have n2_ := Aside0.mk (blk_below (g := gb307) (o := .cells #[.int .i64 t302, .int .i64 t303, .int .i64 t304] 23 (0, 0)) (by (with_reducible repeat (first | apply kN | apply kD | apply kA)); refine blk_far ?_ NB307_316.out _; (with_reducible repeat (first | apply kN | apply kD | apply kA)); refine blk_far ?_ NB307_316.out _; (with_reducible repeat (first | apply kN | apply kD | apply kA)); refine blk_far ?_ NB307_316.out _; (with_reducible repeat (first | apply kN | apply kD | apply kA)); exact BK307.out) hb); have n3_ := Aside0.mk (blk_below (g := gb312) (o := .cells #[.int .i64 t308, .int .i64 t309, .int .i64 t310] 23 (0, 0)) (by (with_reducible repeat (first | apply kN | apply kD | apply kA)); refine blk_far ?_ NB312_316.out _; (with_reducible repeat (first | apply kN | apply kD | apply kA)); refine blk_far ?_ NB312_316.out _; (with_reducible repeat (first | apply kN | apply kD | apply kA)); refine blk_far ?_ NB312_316.out _; (with_reducible repeat (first | apply kN | apply kD | apply kA)); exact BK312.out) hb); have n4_ := Aside0.mk (blk_below (g := gb316) (o := .cells #[.int .i64 t313, .int .i64 t314, .int .i64 t315] 23 (0, 0)) (by (with_reducible repeat (first | apply kN | apply kD | apply kA)); refine blk_put (cs := #[.int .i64 t313, .int .i64 t314, .int .i64 0]) ?_ 2 _ rfl; (with_reducible repeat (first | apply kN | apply kD | apply kA)); refine blk_put (cs := #[.int .i64 t313, .int .i64 0, .int .i64 0]) ?_ 1 _ rfl; (with_reducible repeat (first | apply kN | apply kD | apply kA)); refine blk_put (cs := #[.int .i64 0, .int .i64 0, .int .i64 0]) ?_ 0 _ rfl; (with_reducible repeat (first | apply kN | apply kD | apply kA)); exact BK316.out) hb); have n5_ := Aside0.mk (below_step (by repeat (first | (with_reducible first | exact HB.out | apply bA | apply bN | apply bD | refine below_set ?_ GE294.out | refine below_set ?_ GE301.out | refine below_set ?_ GE307.out | refine below_set ?_ GE312.out | refine below_set ?_ GE316.out) | exact HB.out)) hb); clear BK294; clear BK301; clear BK307; clear BK312; clear BK316; clear HB; have BK294 := n0_; have BK301 := n1_; have BK307 := n2_; have BK312 := n3_; have BK316 := n4_; have HB := n5_; clear n0_ n1_ n2_ n3_ n4_ n5_; (try clear hb); (try clear hb2); (try clear hk); (try clear hi); have hnb54 := NB301_307.out; have hnc54 := NB307_301.out; have hnb55 := NB301_312.out; have hnc55 := NB312_301.out; have hnb56 := NB301_316.out; have hnc56 := NB316_301.out; obtain ⟨hcz57_0, hcz57_1, hcz57_2, hfz57_0, hfz57_1, hfz57_2⟩ := cells3 (w := w53) (g := gb301) BK301.out) | (go_at_call 25; (with_reducible refine (pos_Check.calls k t296 t297 t298 a1 true _ A41.out).mono ?_); rintro e w58 ⟨rfl, hb⟩; have n0_ := Aside0.mk (blk_below (g := gb294) (o := .cells #[.int .i64 a0_0, .int .i64 a0_1, .int .i64 a0_2] 23 (0, 0)) (by (with_reducible repeat (first | apply kN | apply kD | apply kA)); exact BK294.out) hb); have n1_ := Aside0.mk (blk_below (g := gb301) (o := .cells #[.int .i64 t296, .int .i64 t297, .int .i64 t298] 23 (0, 0)) (by (with_reducible repeat (first | apply kN | apply kD | apply kA)); exact BK301.out) hb); have n2_ := Aside0.mk (blk_below (g := gb307) (o := .cells #[.int .i64 t302, .int .i64 t303, .int .i64 t304] 23 (0, 0)) (by (with_reducible repeat (first | apply kN | apply kD | apply kA)); exact BK307.out) hb); have n3_ := Aside0.mk (blk_below (g := gb312) (o := .cells #[.int .i64 t308, .int .i64 t309, .int .i64 t310] 23 (0, 0)) (by (with_reducible repeat (first | apply kN | apply kD | apply kA)); exact BK312.out) hb); have n4_ := Aside0.mk (blk_below (g := gb316) (o := .cells #[.int .i64 t313, .int .i64 t314, .int .i64 t315] 23 (0, 0)) (by (with_reducible repeat (first | apply kN | apply kD | apply kA)); exact BK316.out) hb); have n5_ := Aside0.mk (below_step (by repeat (first | (with_reducible first | exact HB.out | apply bA | apply bN | apply bD | refine below_set ?_ GE294.out | refine below_set ?_ GE301.out | refine below_set ?_ GE307.out | refine below_set ?_ GE312.out | refine below_set ?_ GE316.out) | exact HB.out)) hb); clear BK294; clear BK301; clear BK307; clear BK312; clear BK316; clear HB; have BK294 := n0_; have BK301 := n1_; have BK307 := n2_; have BK312 := n3_; have BK316 := n4_; have HB := n5_; clear n0_ n1_ n2_ n3_ n4_ n5_; (try clear hb); (try clear hb2); (try clear hk); (try clear hi); have hnb59 := NB307_312.out; have hnc59 := NB312_307.out; have hnb60 := NB307_316.out; have hnc60 := NB316_307.out; obtain ⟨hcz61_0, hcz61_1, hcz61_2, hfz61_0, hfz61_1, hfz61_2⟩ := cells3 (w := w58) (g := gb307) BK307.out) | (go_at_call 25; (with_reducible refine (pos_Check.calls k t302 t303 t304 a1 true _ A43.out).mono ?_); rintro e w62 ⟨rfl, hb⟩; have n0_ := Aside0.mk (blk_below (g := gb294) (o := .cells #[.int .i64 a0_0, .int .i64 a0_1, .int .i64 a0_2] 23 (0, 0)) (by (with_reducible repeat (first | apply kN | apply kD | apply kA)); exact BK294.out) hb); have n1_ := Aside0.mk (blk_below (g := gb301) (o := .cells #[.int .i64 t296, .int .i64 t297, .int .i64 t298] 23 (0, 0)) (by (with_reducible repeat (first | apply kN | apply kD | apply kA)); exact BK301.out) hb); have n2_ := Aside0.mk (blk_below (g := gb307) (o := .cells #[.int .i64 t302, .int .i64 t303, .int .i64 t304] 23 (0, 0)) (by (with_reducible repeat (first | apply kN | apply kD | apply kA)); exact BK307.out) hb); have n3_ := Aside0.mk (blk_below (g := gb312) (o := .cells #[.int .i64 t308, .int .i64 t309, .int .i64 t310] 23 (0, 0)) (by (with_reducible repeat (first | apply kN | apply kD | apply kA)); exact BK312.out) hb); have n4_ := Aside0.mk (blk_below (g := gb316) (o := .cells #[.int .i64 t313, .int .i64 t314, .int .i64 t315] 23 (0, 0)) (by (with_reducible repeat (first | apply kN | apply kD | apply kA)); exact BK316.out) hb); have n5_ := Aside0.mk (below_step (by repeat (first | (with_reducible first | exact HB.out | apply bA | apply bN | apply bD | refine below_set ?_ GE294.out | refine below_set ?_ GE301.out | refine below_set ?_ GE307.out | refine below_set ?_ GE312.out | refine below_set ?_ GE316.out) | exact HB.out)) hb); clear BK294; clear BK301; clear BK307; clear BK312; clear BK316; clear HB; have BK294 := n0_; have BK301 := n1_; have BK307 := n2_; have BK312 := n3_; have BK316 := n4_; have HB := n5_; clear n0_ n1_ n2_ n3_ n4_ n5_; (try clear hb); (try clear hb2); (try clear hk); (try clear hi); have hnb63 := NB312_316.out; have hnc63 := NB316_312.out; obtain ⟨hcz64_0, hcz64_1, hcz64_2, hfz64_0, hfz64_1, hfz64_2⟩ := cells3 (w := w62) (g := gb312) BK312.out) | (go_at_call 25; (with_reducible refine (pos_Check.calls k t308 t309 t310 a1 true _ A45.out).mono ?_); rintro e w65 ⟨rfl, hb⟩; have n0_ := Aside0.mk (blk_below (g := gb294) (o := .cells #[.int .i64 a0_0, .int .i64 a0_1, .int .i64 a0_2] 23 (0, 0)) (by (with_reducible repeat (first | apply kN | apply kD | apply kA)); exact BK294.out) hb); have n1_ := Aside0.mk (blk_below (g := gb301) (o := .cells #[.int .i64 t296, .int .i64 t297, .int .i64 t298] 23 (0, 0)) (by (with_reducible repeat (first | apply kN | apply kD | apply kA)); exact BK301.out) hb); have n2_ := Aside0.mk (blk_below (g := gb307) (o := .cells #[.int .i64 t302, .int .i64 t303, .int .i64 t304] 23 (0, 0)) (by (with_reducible repeat (first | apply kN | apply kD | apply kA)); exact BK307.out) hb); have n3_ := Aside0.mk (blk_below (g := gb312) (o := .cells #[.int .i64 t308, .int .i64 t309, .int .i64 t310] 23 (0, 0)) (by (with_reducible repeat (first | apply kN | apply kD | apply kA)); exact BK312.out) hb); have n4_ := Aside0.mk (blk_below (g := gb316) (o := .cells #[.int .i64 t313, .int .i64 t314, .int .i64 t315] 23 (0, 0)) (by (with_reducible repeat (first | apply kN | apply kD | apply kA)); exact BK316.out) hb); have n5_ := Aside0.mk (below_step (by repeat (first | (with_reducible first | exact HB.out | apply bA | apply bN | apply bD | refine below_set ?_ GE294.out | refine below_set ?_ GE301.out | refine below_set ?_ GE307.out | refine below_set ?_ GE312.out | refine below_set ?_ GE316.out) | exact HB.out)) hb); clear BK294; clear BK301; clear BK307; clear BK312; clear BK316; clear HB; have BK294 := n0_; have BK301 := n1_; have BK307 := n2_; have BK312 := n3_; have BK316 := n4_; have HB := n5_; clear n0_ n1_ n2_ n3_ n4_ n5_; (try clear hb); (try clear hb2); (try clear hk); (try clear hi); obtain ⟨hcz66_0, hcz66_1, hcz66_2, hfz66_0, hfz66_1, hfz66_2⟩ := cells3 (w := w65) (g := gb316) BK316.out) | (go_at_call 25; (with_reducible refine (pos_Check.calls k t313 t314 t315 a1 t321 _ A47.out).mono ?_); rintro e w67 ⟨rfl, hb⟩; have n0_ := Aside0.mk (blk_below (g := gb294) (o := .cells #[.int .i64 a0_0, .int .i64 a0_1, .int .i64 a0_2] 23 (0, 0)) (by (with_reducible repeat (first | apply kN | apply kD | apply kA)); exact BK294.out) hb); have n1_ := Aside0.mk (blk_below (g := gb301) (o := .cells #[.int .i64 t296, .int .i64 t297, .int .i64 t298] 23 (0, 0)) (by (with_reducible repeat (first | apply kN | apply kD | apply kA)); exact BK301.out) hb); have n2_ := Aside0.mk (blk_below (g := gb307) (o := .cells #[.int .i64 t302, .int .i64 t303, .int .i64 t304] 23 (0, 0)) (by (with_reducible repeat (first | apply kN | apply kD | apply kA)); exact BK307.out) hb); have n3_ := Aside0.mk (blk_below (g := gb312) (o := .cells #[.int .i64 t308, .int .i64 t309, .int .i64 t310] 23 (0, 0)) (by (with_reducible repeat (first | apply kN | apply kD | apply kA)); exact BK312.out) hb); have n4_ := Aside0.mk (blk_below (g := gb316) (o := .cells #[.int .i64 t313, .int .i64 t314, .int .i64 t315] 23 (0, 0)) (by (with_reducible repeat (first | apply kN | apply kD | apply kA)); exact BK316.out) hb); have n5_ := Aside0.mk (below_step (by repeat (first | (with_reducible first | exact HB.out | apply bA | apply bN | apply bD | refine below_set ?_ GE294.out | refine below_set ?_ GE301.out | refine below_set ?_ GE307.out | refine below_set ?_ GE312.out | refine below_set ?_ GE316.out) | exact HB.out)) hb); clear BK294; clear BK301; clear BK307; clear BK312; clear BK316; clear HB; have BK294 := n0_; have BK301 := n1_; have BK307 := n2_; have BK312 := n3_; have BK316 := n4_; have HB := n5_; clear n0_ n1_ n2_ n3_ n4_ n5_; (try clear hb); (try clear hb2); (try clear hk); (try clear hi)))
      go_meet
      case rel => exact ⟨_, (t321), (by first | rfl | (simp; done) | (simp [*]; done)), H', ⟨by first | omega | exact Nat.le_refl _⟩, ⟨by (with_reducible repeat (first | apply kN | apply kD | apply kA)); exact BK294.out⟩, ⟨by (with_reducible repeat (first | apply kN | apply kD | apply kA)); exact BK301.out⟩, ⟨by (with_reducible repeat (first | apply kN | apply kD | apply kA)); exact BK307.out⟩, ⟨by (with_reducible repeat (first | apply kN | apply kD | apply kA)); exact BK312.out⟩, ⟨by (with_reducible repeat (first | apply kN | apply kD | apply kA)); exact BK316.out⟩, ⟨by repeat (first | (with_reducible first | exact HB.out | apply bA | apply bN | apply bD | refine below_set ?_ GE294.out | refine below_set ?_ GE301.out | refine below_set ?_ GE307.out | refine below_set ?_ GE312.out | refine below_set ?_ GE316.out) | exact HB.out)⟩⟩
     ·replace c46 := Bool.eq_false_iff.mpr c46
      subst c46
      have H1 : (sakialaw08_WordStays.j0 k t295 t299 t300 t305 t306 t311 false a0_0 a0_1 a0_2 t296 t297 t298 t302 t303 t304 t308 t309 t310) = some r := by rw [if_neg (show ¬ (false = true) by decide)] at H; exact H
      clear H
      have H := H1
      clear H1
      have H' := Aside0.mk H
      clear H
      have hnb68 := NB294_301.out
      have hnc68 := NB301_294.out
      have hnb69 := NB294_307.out
      have hnc69 := NB307_294.out
      have hnb70 := NB294_312.out
      have hnc70 := NB312_294.out
      have hnb71 := NB294_316.out
      have hnc71 := NB316_294.out
      obtain ⟨hcz72_0, hcz72_1, hcz72_2, hfz72_0, hfz72_1, hfz72_2⟩ := cells3 (w := w33) (g := gb294) BK294.out
      go_wp2_with (first | ((with_reducible refine gate_callee (f := 25) rfl ?_); refine goesL_ (some 47) rfl rfl Try.func25 (by kernel_rfl) rfl #[.agg #[.int .i64 a0_0, .int .i64 a0_1, .int .i64 a0_2], .int .i64 a1] rfl (by (try simp only [List.map_toArray, List.map_cons, List.map_nil]); first | done | rfl | (simp only [List.length_drop, List.length_take]; rfl)) ?_; (with_reducible refine (pos_Check.calls k a0_0 a0_1 a0_2 a1 true _ A39.out).mono ?_); rintro e w73 ⟨rfl, hb⟩; refine ⟨_, rfl, ?_⟩; have n0_ := Aside0.mk (blk_below (g := gb294) (o := .cells #[.int .i64 a0_0, .int .i64 a0_1, .int .i64 a0_2] 23 (0, 0)) (by (with_reducible repeat (first | apply kN | apply kD | apply kA)); refine blk_far ?_ NB294_316.out _; (with_reducible repeat (first | apply kN | apply kD | apply kA)); refine blk_far ?_ NB294_316.out _; (with_reducible repeat (first | apply kN | apply kD | apply kA)); refine blk_far ?_ NB294_316.out _; (with_reducible repeat (first | apply kN | apply kD | apply kA)); exact BK294.out) hb); have n1_ := Aside0.mk (blk_below (g := gb301) (o := .cells #[.int .i64 t296, .int .i64 t297, .int .i64 t298] 23 (0, 0)) (by (with_reducible repeat (first | apply kN | apply kD | apply kA)); refine blk_far ?_ NB301_316.out _; (with_reducible repeat (first | apply kN | apply kD | apply kA)); refine blk_far ?_ NB301_316.out _; (with_reducible repeat (first | apply kN | apply kD | apply kA)); refine blk_far ?_ NB301_316.out _; (with_reducible repeat (first | apply kN | apply kD | apply kA)); exact BK301.out) hb); have n2_ := Aside0.mk (blk_below (g := gb307) (o := .cells #[.int .i64 t302, .int .i64 t303, .int .i64 t304] 23 (0, 0)) (by (with_reducible repeat (first | apply kN | apply kD | apply kA)); refine blk_far ?_ NB307_316.out _; (with_reducible repeat (first | apply kN | apply kD | apply kA)); refine blk_far ?_ NB307_316.out _; (with_reducible repeat (first | apply kN | apply kD | apply kA)); refine blk_far ?_ NB307_316.out _; (with_reducible repeat (first | apply kN | apply kD | apply kA)); exact BK307.out) hb); have n3_ := Aside0.mk (blk_below (g := gb312) (o := .cells #[.int .i64 t308, .int .i64 t309, .int .i64 t310] 23 (0, 0)) (by (with_reducible repeat (first | apply kN | apply kD | apply kA)); refine blk_far ?_ NB312_316.out _; (with_reducible repeat (first | apply kN | apply kD | apply kA)); refine blk_far ?_ NB312_316.out _; (with_reducible repeat (first | apply kN | apply kD | apply kA)); refine blk_far ?_ NB312_316.out _; (with_reducible repeat (first | apply kN | apply kD | apply kA)); exact BK312.out) hb); have n4_ := Aside0.mk (blk_below (g := gb316) (o := .cells #[.int .i64 t313, .int .i64 t314, .int .i64 t315] 23 (0, 0)) (by (with_reducible repeat (first | apply kN | apply kD | apply kA)); refine blk_put (cs := #[.int .i64 t313, .int .i64 t314, .int .i64 0]) ?_ 2 _ rfl; (with_reducible repeat (first | apply kN | apply kD | apply kA)); refine blk_put (cs := #[.int .i64 t313, .int .i64 0, .int .i64 0]) ?_ 1 _ rfl; (with_reducible repeat (first | apply kN | apply kD | apply kA)); refine blk_put (cs := #[.int .i64 0, .int .i64 0, .int .i64 0]) ?_ 0 _ rfl; (with_reducible repeat (first | apply kN | apply kD | apply kA)); exact BK316.out) hb); have n5_ := Aside0.mk (below_step (by repeat (first | (with_reducible first | exact HB.out | apply bA | apply bN | apply bD | refine below_set ?_ GE294.out | refine below_set ?_ GE301.out | refine below_set ?_ GE307.out | refine below_set ?_ GE312.out | refine below_set ?_ GE316.out) | exact HB.out)) hb); clear BK294; clear BK301; clear BK307; clear BK312; clear BK316; clear HB; have BK294 := n0_; have BK301 := n1_; have BK307 := n2_; have BK312 := n3_; have BK316 := n4_; have HB := n5_; clear n0_ n1_ n2_ n3_ n4_ n5_; (try clear hb); (try clear hb2); (try clear hk); (try clear hi); have hnb74 := NB301_307.out; have hnc74 := NB307_301.out; have hnb75 := NB301_312.out; have hnc75 := NB312_301.out; have hnb76 := NB301_316.out; have hnc76 := NB316_301.out; obtain ⟨hcz77_0, hcz77_1, hcz77_2, hfz77_0, hfz77_1, hfz77_2⟩ := cells3 (w := w73) (g := gb301) BK301.out) | (go_at_call 25; (with_reducible refine (pos_Check.calls k t296 t297 t298 a1 true _ A41.out).mono ?_); rintro e w78 ⟨rfl, hb⟩; have n0_ := Aside0.mk (blk_below (g := gb294) (o := .cells #[.int .i64 a0_0, .int .i64 a0_1, .int .i64 a0_2] 23 (0, 0)) (by (with_reducible repeat (first | apply kN | apply kD | apply kA)); exact BK294.out) hb); have n1_ := Aside0.mk (blk_below (g := gb301) (o := .cells #[.int .i64 t296, .int .i64 t297, .int .i64 t298] 23 (0, 0)) (by (with_reducible repeat (first | apply kN | apply kD | apply kA)); exact BK301.out) hb); have n2_ := Aside0.mk (blk_below (g := gb307) (o := .cells #[.int .i64 t302, .int .i64 t303, .int .i64 t304] 23 (0, 0)) (by (with_reducible repeat (first | apply kN | apply kD | apply kA)); exact BK307.out) hb); have n3_ := Aside0.mk (blk_below (g := gb312) (o := .cells #[.int .i64 t308, .int .i64 t309, .int .i64 t310] 23 (0, 0)) (by (with_reducible repeat (first | apply kN | apply kD | apply kA)); exact BK312.out) hb); have n4_ := Aside0.mk (blk_below (g := gb316) (o := .cells #[.int .i64 t313, .int .i64 t314, .int .i64 t315] 23 (0, 0)) (by (with_reducible repeat (first | apply kN | apply kD | apply kA)); exact BK316.out) hb); have n5_ := Aside0.mk (below_step (by repeat (first | (with_reducible first | exact HB.out | apply bA | apply bN | apply bD | refine below_set ?_ GE294.out | refine below_set ?_ GE301.out | refine below_set ?_ GE307.out | refine below_set ?_ GE312.out | refine below_set ?_ GE316.out) | exact HB.out)) hb); clear BK294; clear BK301; clear BK307; clear BK312; clear BK316; clear HB; have BK294 := n0_; have BK301 := n1_; have BK307 := n2_; have BK312 := n3_; have BK316 := n4_; have HB := n5_; clear n0_ n1_ n2_ n3_ n4_ n5_; (try clear hb); (try clear hb2); (try clear hk); (try clear hi); have hnb79 := NB307_312.out; have hnc79 := NB312_307.out; have hnb80 := NB307_316.out; have hnc80 := NB316_307.out; obtain ⟨hcz81_0, hcz81_1, hcz81_2, hfz81_0, hfz81_1, hfz81_2⟩ := cells3 (w := w78) (g := gb307) BK307.out) | (go_at_call 25; (with_reducible refine (pos_Check.calls k t302 t303 t304 a1 true _ A43.out).mono ?_); rintro e w82 ⟨rfl, hb⟩; have n0_ := Aside0.mk (blk_below (g := gb294) (o := .cells #[.int .i64 a0_0, .int .i64 a0_1, .int .i64 a0_2] 23 (0, 0)) (by (with_reducible repeat (first | apply kN | apply kD | apply kA)); exact BK294.out) hb); have n1_ := Aside0.mk (blk_below (g := gb301) (o := .cells #[.int .i64 t296, .int .i64 t297, .int .i64 t298] 23 (0, 0)) (by (with_reducible repeat (first | apply kN | apply kD | apply kA)); exact BK301.out) hb); have n2_ := Aside0.mk (blk_below (g := gb307) (o := .cells #[.int .i64 t302, .int .i64 t303, .int .i64 t304] 23 (0, 0)) (by (with_reducible repeat (first | apply kN | apply kD | apply kA)); exact BK307.out) hb); have n3_ := Aside0.mk (blk_below (g := gb312) (o := .cells #[.int .i64 t308, .int .i64 t309, .int .i64 t310] 23 (0, 0)) (by (with_reducible repeat (first | apply kN | apply kD | apply kA)); exact BK312.out) hb); have n4_ := Aside0.mk (blk_below (g := gb316) (o := .cells #[.int .i64 t313, .int .i64 t314, .int .i64 t315] 23 (0, 0)) (by (with_reducible repeat (first | apply kN | apply kD | apply kA)); exact BK316.out) hb); have n5_ := Aside0.mk (below_step (by repeat (first | (with_reducible first | exact HB.out | apply bA | apply bN | apply bD | refine below_set ?_ GE294.out | refine below_set ?_ GE301.out | refine below_set ?_ GE307.out | refine below_set ?_ GE312.out | refine below_set ?_ GE316.out) | exact HB.out)) hb); clear BK294; clear BK301; clear BK307; clear BK312; clear BK316; clear HB; have BK294 := n0_; have BK301 := n1_; have BK307 := n2_; have BK312 := n3_; have BK316 := n4_; have HB := n5_; clear n0_ n1_ n2_ n3_ n4_ n5_; (try clear hb); (try clear hb2); (try clear hk); (try clear hi); have hnb83 := NB312_316.out; have hnc83 := NB316_312.out; obtain ⟨hcz84_0, hcz84_1, hcz84_2, hfz84_0, hfz84_1, hfz84_2⟩ := cells3 (w := w82) (g := gb312) BK312.out) | (go_at_call 25; (with_reducible refine (pos_Check.calls k t308 t309 t310 a1 false _ A45.out).mono ?_); rintro e w85 ⟨rfl, hb⟩; have n0_ := Aside0.mk (blk_below (g := gb294) (o := .cells #[.int .i64 a0_0, .int .i64 a0_1, .int .i64 a0_2] 23 (0, 0)) (by (with_reducible repeat (first | apply kN | apply kD | apply kA)); exact BK294.out) hb); have n1_ := Aside0.mk (blk_below (g := gb301) (o := .cells #[.int .i64 t296, .int .i64 t297, .int .i64 t298] 23 (0, 0)) (by (with_reducible repeat (first | apply kN | apply kD | apply kA)); exact BK301.out) hb); have n2_ := Aside0.mk (blk_below (g := gb307) (o := .cells #[.int .i64 t302, .int .i64 t303, .int .i64 t304] 23 (0, 0)) (by (with_reducible repeat (first | apply kN | apply kD | apply kA)); exact BK307.out) hb); have n3_ := Aside0.mk (blk_below (g := gb312) (o := .cells #[.int .i64 t308, .int .i64 t309, .int .i64 t310] 23 (0, 0)) (by (with_reducible repeat (first | apply kN | apply kD | apply kA)); exact BK312.out) hb); have n4_ := Aside0.mk (blk_below (g := gb316) (o := .cells #[.int .i64 t313, .int .i64 t314, .int .i64 t315] 23 (0, 0)) (by (with_reducible repeat (first | apply kN | apply kD | apply kA)); exact BK316.out) hb); have n5_ := Aside0.mk (below_step (by repeat (first | (with_reducible first | exact HB.out | apply bA | apply bN | apply bD | refine below_set ?_ GE294.out | refine below_set ?_ GE301.out | refine below_set ?_ GE307.out | refine below_set ?_ GE312.out | refine below_set ?_ GE316.out) | exact HB.out)) hb); clear BK294; clear BK301; clear BK307; clear BK312; clear BK316; clear HB; have BK294 := n0_; have BK301 := n1_; have BK307 := n2_; have BK312 := n3_; have BK316 := n4_; have HB := n5_; clear n0_ n1_ n2_ n3_ n4_ n5_; (try clear hb); (try clear hb2); (try clear hk); (try clear hi)))
      go_meet
      case rel => exact ⟨_, (false), (by first | rfl | (simp; done) | (simp [*]; done)), H', ⟨by first | omega | exact Nat.le_refl _⟩, ⟨by (with_reducible repeat (first | apply kN | apply kD | apply kA)); exact BK294.out⟩, ⟨by (with_reducible repeat (first | apply kN | apply kD | apply kA)); exact BK301.out⟩, ⟨by (with_reducible repeat (first | apply kN | apply kD | apply kA)); exact BK307.out⟩, ⟨by (with_reducible repeat (first | apply kN | apply kD | apply kA)); exact BK312.out⟩, ⟨by (with_reducible repeat (first | apply kN | apply kD | apply kA)); exact BK316.out⟩, ⟨by repeat (first | (with_reducible first | exact HB.out | apply bA | apply bN | apply bD | refine below_set ?_ GE294.out | refine below_set ?_ GE301.out | refine below_set ?_ GE307.out | refine below_set ?_ GE312.out | refine below_set ?_ GE316.out) | exact HB.out)⟩⟩
    ·replace c44 := Bool.eq_false_iff.mpr c44
     subst c44
     have H1 : (sakialaw08_WordStays.j0 k t295 t299 t300 t305 t306 t311 false a0_0 a0_1 a0_2 t296 t297 t298 t302 t303 t304 t308 t309 t310) = some r := by rw [if_neg (show ¬ (false = true) by decide)] at H; exact H
     clear H
     have H := H1
     clear H1
     have H' := Aside0.mk H
     clear H
     have hnb86 := NB294_301.out
     have hnc86 := NB301_294.out
     have hnb87 := NB294_307.out
     have hnc87 := NB307_294.out
     have hnb88 := NB294_312.out
     have hnc88 := NB312_294.out
     have hnb89 := NB294_316.out
     have hnc89 := NB316_294.out
     obtain ⟨hcz90_0, hcz90_1, hcz90_2, hfz90_0, hfz90_1, hfz90_2⟩ := cells3 (w := w33) (g := gb294) BK294.out
     go_wp2_with (first | ((with_reducible refine gate_callee (f := 25) rfl ?_); refine goesL_ (some 47) rfl rfl Try.func25 (by kernel_rfl) rfl #[.agg #[.int .i64 a0_0, .int .i64 a0_1, .int .i64 a0_2], .int .i64 a1] rfl (by (try simp only [List.map_toArray, List.map_cons, List.map_nil]); first | done | rfl | (simp only [List.length_drop, List.length_take]; rfl)) ?_; (with_reducible refine (pos_Check.calls k a0_0 a0_1 a0_2 a1 true _ A39.out).mono ?_); rintro e w91 ⟨rfl, hb⟩; refine ⟨_, rfl, ?_⟩; have n0_ := Aside0.mk (blk_below (g := gb294) (o := .cells #[.int .i64 a0_0, .int .i64 a0_1, .int .i64 a0_2] 23 (0, 0)) (by (with_reducible repeat (first | apply kN | apply kD | apply kA)); refine blk_far ?_ NB294_316.out _; (with_reducible repeat (first | apply kN | apply kD | apply kA)); refine blk_far ?_ NB294_316.out _; (with_reducible repeat (first | apply kN | apply kD | apply kA)); refine blk_far ?_ NB294_316.out _; (with_reducible repeat (first | apply kN | apply kD | apply kA)); exact BK294.out) hb); have n1_ := Aside0.mk (blk_below (g := gb301) (o := .cells #[.int .i64 t296, .int .i64 t297, .int .i64 t298] 23 (0, 0)) (by (with_reducible repeat (first | apply kN | apply kD | apply kA)); refine blk_far ?_ NB301_316.out _; (with_reducible repeat (first | apply kN | apply kD | apply kA)); refine blk_far ?_ NB301_316.out _; (with_reducible repeat (first | apply kN | apply kD | apply kA)); refine blk_far ?_ NB301_316.out _; (with_reducible repeat (first | apply kN | apply kD | apply kA)); exact BK301.out) hb); have n2_ := Aside0.mk (blk_below (g := gb307) (o := .cells #[.int .i64 t302, .int .i64 t303, .int .i64 t304] 23 (0, 0)) (by (with_reducible repeat (first | apply kN | apply kD | apply kA)); refine blk_far ?_ NB307_316.out _; (with_reducible repeat (first | apply kN | apply kD | apply kA)); refine blk_far ?_ NB307_316.out _; (with_reducible repeat (first | apply kN | apply kD | apply kA)); refine blk_far ?_ NB307_316.out _; (with_reducible repeat (first | apply kN | apply kD | apply kA)); exact BK307.out) hb); have n3_ := Aside0.mk (blk_below (g := gb312) (o := .cells #[.int .i64 t308, .int .i64 t309, .int .i64 t310] 23 (0, 0)) (by (with_reducible repeat (first | apply kN | apply kD | apply kA)); refine blk_far ?_ NB312_316.out _; (with_reducible repeat (first | apply kN | apply kD | apply kA)); refine blk_far ?_ NB312_316.out _; (with_reducible repeat (first | apply kN | apply kD | apply kA)); refine blk_far ?_ NB312_316.out _; (with_reducible repeat (first | apply kN | apply kD | apply kA)); exact BK312.out) hb); have n4_ := Aside0.mk (blk_below (g := gb316) (o := .cells #[.int .i64 t313, .int .i64 t314, .int .i64 t315] 23 (0, 0)) (by (with_reducible repeat (first | apply kN | apply kD | apply kA)); refine blk_put (cs := #[.int .i64 t313, .int .i64 t314, .int .i64 0]) ?_ 2 _ rfl; (with_reducible repeat (first | apply kN | apply kD | apply kA)); refine blk_put (cs := #[.int .i64 t313, .int .i64 0, .int .i64 0]) ?_ 1 _ rfl; (with_reducible repeat (first | apply kN | apply kD | apply kA)); refine blk_put (cs := #[.int .i64 0, .int .i64 0, .int .i64 0]) ?_ 0 _ rfl; (with_reducible repeat (first | apply kN | apply kD | apply kA)); exact BK316.out) hb); have n5_ := Aside0.mk (below_step (by repeat (first | (with_reducible first | exact HB.out | apply bA | apply bN | apply bD | refine below_set ?_ GE294.out | refine below_set ?_ GE301.out | refine below_set ?_ GE307.out | refine below_set ?_ GE312.out | refine below_set ?_ GE316.out) | exact HB.out)) hb); clear BK294; clear BK301; clear BK307; clear BK312; clear BK316; clear HB; have BK294 := n0_; have BK301 := n1_; have BK307 := n2_; have BK312 := n3_; have BK316 := n4_; have HB := n5_; clear n0_ n1_ n2_ n3_ n4_ n5_; (try clear hb); (try clear hb2); (try clear hk); (try clear hi); have hnb92 := NB301_307.out; have hnc92 := NB307_301.out; have hnb93 := NB301_312.out; have hnc93 := NB312_301.out; have hnb94 := NB301_316.out; have hnc94 := NB316_301.out; obtain ⟨hcz95_0, hcz95_1, hcz95_2, hfz95_0, hfz95_1, hfz95_2⟩ := cells3 (w := w91) (g := gb301) BK301.out) | (go_at_call 25; (with_reducible refine (pos_Check.calls k t296 t297 t298 a1 true _ A41.out).mono ?_); rintro e w96 ⟨rfl, hb⟩; have n0_ := Aside0.mk (blk_below (g := gb294) (o := .cells #[.int .i64 a0_0, .int .i64 a0_1, .int .i64 a0_2] 23 (0, 0)) (by (with_reducible repeat (first | apply kN | apply kD | apply kA)); exact BK294.out) hb); have n1_ := Aside0.mk (blk_below (g := gb301) (o := .cells #[.int .i64 t296, .int .i64 t297, .int .i64 t298] 23 (0, 0)) (by (with_reducible repeat (first | apply kN | apply kD | apply kA)); exact BK301.out) hb); have n2_ := Aside0.mk (blk_below (g := gb307) (o := .cells #[.int .i64 t302, .int .i64 t303, .int .i64 t304] 23 (0, 0)) (by (with_reducible repeat (first | apply kN | apply kD | apply kA)); exact BK307.out) hb); have n3_ := Aside0.mk (blk_below (g := gb312) (o := .cells #[.int .i64 t308, .int .i64 t309, .int .i64 t310] 23 (0, 0)) (by (with_reducible repeat (first | apply kN | apply kD | apply kA)); exact BK312.out) hb); have n4_ := Aside0.mk (blk_below (g := gb316) (o := .cells #[.int .i64 t313, .int .i64 t314, .int .i64 t315] 23 (0, 0)) (by (with_reducible repeat (first | apply kN | apply kD | apply kA)); exact BK316.out) hb); have n5_ := Aside0.mk (below_step (by repeat (first | (with_reducible first | exact HB.out | apply bA | apply bN | apply bD | refine below_set ?_ GE294.out | refine below_set ?_ GE301.out | refine below_set ?_ GE307.out | refine below_set ?_ GE312.out | refine below_set ?_ GE316.out) | exact HB.out)) hb); clear BK294; clear BK301; clear BK307; clear BK312; clear BK316; clear HB; have BK294 := n0_; have BK301 := n1_; have BK307 := n2_; have BK312 := n3_; have BK316 := n4_; have HB := n5_; clear n0_ n1_ n2_ n3_ n4_ n5_; (try clear hb); (try clear hb2); (try clear hk); (try clear hi); have hnb97 := NB307_312.out; have hnc97 := NB312_307.out; have hnb98 := NB307_316.out; have hnc98 := NB316_307.out; obtain ⟨hcz99_0, hcz99_1, hcz99_2, hfz99_0, hfz99_1, hfz99_2⟩ := cells3 (w := w96) (g := gb307) BK307.out) | (go_at_call 25; (with_reducible refine (pos_Check.calls k t302 t303 t304 a1 false _ A43.out).mono ?_); rintro e w100 ⟨rfl, hb⟩; have n0_ := Aside0.mk (blk_below (g := gb294) (o := .cells #[.int .i64 a0_0, .int .i64 a0_1, .int .i64 a0_2] 23 (0, 0)) (by (with_reducible repeat (first | apply kN | apply kD | apply kA)); exact BK294.out) hb); have n1_ := Aside0.mk (blk_below (g := gb301) (o := .cells #[.int .i64 t296, .int .i64 t297, .int .i64 t298] 23 (0, 0)) (by (with_reducible repeat (first | apply kN | apply kD | apply kA)); exact BK301.out) hb); have n2_ := Aside0.mk (blk_below (g := gb307) (o := .cells #[.int .i64 t302, .int .i64 t303, .int .i64 t304] 23 (0, 0)) (by (with_reducible repeat (first | apply kN | apply kD | apply kA)); exact BK307.out) hb); have n3_ := Aside0.mk (blk_below (g := gb312) (o := .cells #[.int .i64 t308, .int .i64 t309, .int .i64 t310] 23 (0, 0)) (by (with_reducible repeat (first | apply kN | apply kD | apply kA)); exact BK312.out) hb); have n4_ := Aside0.mk (blk_below (g := gb316) (o := .cells #[.int .i64 t313, .int .i64 t314, .int .i64 t315] 23 (0, 0)) (by (with_reducible repeat (first | apply kN | apply kD | apply kA)); exact BK316.out) hb); have n5_ := Aside0.mk (below_step (by repeat (first | (with_reducible first | exact HB.out | apply bA | apply bN | apply bD | refine below_set ?_ GE294.out | refine below_set ?_ GE301.out | refine below_set ?_ GE307.out | refine below_set ?_ GE312.out | refine below_set ?_ GE316.out) | exact HB.out)) hb); clear BK294; clear BK301; clear BK307; clear BK312; clear BK316; clear HB; have BK294 := n0_; have BK301 := n1_; have BK307 := n2_; have BK312 := n3_; have BK316 := n4_; have HB := n5_; clear n0_ n1_ n2_ n3_ n4_ n5_; (try clear hb); (try clear hb2); (try clear hk); (try clear hi)))
     go_meet
     case rel => exact ⟨_, (false), (by first | rfl | (simp; done) | (simp [*]; done)), H', ⟨by first | omega | exact Nat.le_refl _⟩, ⟨by (with_reducible repeat (first | apply kN | apply kD | apply kA)); exact BK294.out⟩, ⟨by (with_reducible repeat (first | apply kN | apply kD | apply kA)); exact BK301.out⟩, ⟨by (with_reducible repeat (first | apply kN | apply kD | apply kA)); exact BK307.out⟩, ⟨by (with_reducible repeat (first | apply kN | apply kD | apply kA)); exact BK312.out⟩, ⟨by (with_reducible repeat (first | apply kN | apply kD | apply kA)); exact BK316.out⟩, ⟨by repeat (first | (with_reducible first | exact HB.out | apply bA | apply bN | apply bD | refine below_set ?_ GE294.out | refine below_set ?_ GE301.out | refine below_set ?_ GE307.out | refine below_set ?_ GE312.out | refine below_set ?_ GE316.out) | exact HB.out)⟩⟩
   ·replace c42 := Bool.eq_false_iff.mpr c42
    subst c42
    have H1 : (sakialaw08_WordStays.j0 k t295 t299 t300 t305 t306 t311 false a0_0 a0_1 a0_2 t296 t297 t298 t302 t303 t304 t308 t309 t310) = some r := by rw [if_neg (show ¬ (false = true) by decide)] at H; exact H
    clear H
    have H := H1
    clear H1
    have H' := Aside0.mk H
    clear H
    have hnb101 := NB294_301.out
    have hnc101 := NB301_294.out
    have hnb102 := NB294_307.out
    have hnc102 := NB307_294.out
    have hnb103 := NB294_312.out
    have hnc103 := NB312_294.out
    have hnb104 := NB294_316.out
    have hnc104 := NB316_294.out
    obtain ⟨hcz105_0, hcz105_1, hcz105_2, hfz105_0, hfz105_1, hfz105_2⟩ := cells3 (w := w33) (g := gb294) BK294.out
    go_wp2_with (first | ((with_reducible refine gate_callee (f := 25) rfl ?_); refine goesL_ (some 47) rfl rfl Try.func25 (by kernel_rfl) rfl #[.agg #[.int .i64 a0_0, .int .i64 a0_1, .int .i64 a0_2], .int .i64 a1] rfl (by (try simp only [List.map_toArray, List.map_cons, List.map_nil]); first | done | rfl | (simp only [List.length_drop, List.length_take]; rfl)) ?_; (with_reducible refine (pos_Check.calls k a0_0 a0_1 a0_2 a1 true _ A39.out).mono ?_); rintro e w106 ⟨rfl, hb⟩; refine ⟨_, rfl, ?_⟩; have n0_ := Aside0.mk (blk_below (g := gb294) (o := .cells #[.int .i64 a0_0, .int .i64 a0_1, .int .i64 a0_2] 23 (0, 0)) (by (with_reducible repeat (first | apply kN | apply kD | apply kA)); refine blk_far ?_ NB294_316.out _; (with_reducible repeat (first | apply kN | apply kD | apply kA)); refine blk_far ?_ NB294_316.out _; (with_reducible repeat (first | apply kN | apply kD | apply kA)); refine blk_far ?_ NB294_316.out _; (with_reducible repeat (first | apply kN | apply kD | apply kA)); exact BK294.out) hb); have n1_ := Aside0.mk (blk_below (g := gb301) (o := .cells #[.int .i64 t296, .int .i64 t297, .int .i64 t298] 23 (0, 0)) (by (with_reducible repeat (first | apply kN | apply kD | apply kA)); refine blk_far ?_ NB301_316.out _; (with_reducible repeat (first | apply kN | apply kD | apply kA)); refine blk_far ?_ NB301_316.out _; (with_reducible repeat (first | apply kN | apply kD | apply kA)); refine blk_far ?_ NB301_316.out _; (with_reducible repeat (first | apply kN | apply kD | apply kA)); exact BK301.out) hb); have n2_ := Aside0.mk (blk_below (g := gb307) (o := .cells #[.int .i64 t302, .int .i64 t303, .int .i64 t304] 23 (0, 0)) (by (with_reducible repeat (first | apply kN | apply kD | apply kA)); refine blk_far ?_ NB307_316.out _; (with_reducible repeat (first | apply kN | apply kD | apply kA)); refine blk_far ?_ NB307_316.out _; (with_reducible repeat (first | apply kN | apply kD | apply kA)); refine blk_far ?_ NB307_316.out _; (with_reducible repeat (first | apply kN | apply kD | apply kA)); exact BK307.out) hb); have n3_ := Aside0.mk (blk_below (g := gb312) (o := .cells #[.int .i64 t308, .int .i64 t309, .int .i64 t310] 23 (0, 0)) (by (with_reducible repeat (first | apply kN | apply kD | apply kA)); refine blk_far ?_ NB312_316.out _; (with_reducible repeat (first | apply kN | apply kD | apply kA)); refine blk_far ?_ NB312_316.out _; (with_reducible repeat (first | apply kN | apply kD | apply kA)); refine blk_far ?_ NB312_316.out _; (with_reducible repeat (first | apply kN | apply kD | apply kA)); exact BK312.out) hb); have n4_ := Aside0.mk (blk_below (g := gb316) (o := .cells #[.int .i64 t313, .int .i64 t314, .int .i64 t315] 23 (0, 0)) (by (with_reducible repeat (first | apply kN | apply kD | apply kA)); refine blk_put (cs := #[.int .i64 t313, .int .i64 t314, .int .i64 0]) ?_ 2 _ rfl; (with_reducible repeat (first | apply kN | apply kD | apply kA)); refine blk_put (cs := #[.int .i64 t313, .int .i64 0, .int .i64 0]) ?_ 1 _ rfl; (with_reducible repeat (first | apply kN | apply kD | apply kA)); refine blk_put (cs := #[.int .i64 0, .int .i64 0, .int .i64 0]) ?_ 0 _ rfl; (with_reducible repeat (first | apply kN | apply kD | apply kA)); exact BK316.out) hb); have n5_ := Aside0.mk (below_step (by repeat (first | (with_reducible first | exact HB.out | apply bA | apply bN | apply bD | refine below_set ?_ GE294.out | refine below_set ?_ GE301.out | refine below_set ?_ GE307.out | refine below_set ?_ GE312.out | refine below_set ?_ GE316.out) | exact HB.out)) hb); clear BK294; clear BK301; clear BK307; clear BK312; clear BK316; clear HB; have BK294 := n0_; have BK301 := n1_; have BK307 := n2_; have BK312 := n3_; have BK316 := n4_; have HB := n5_; clear n0_ n1_ n2_ n3_ n4_ n5_; (try clear hb); (try clear hb2); (try clear hk); (try clear hi); have hnb107 := NB301_307.out; have hnc107 := NB307_301.out; have hnb108 := NB301_312.out; have hnc108 := NB312_301.out; have hnb109 := NB301_316.out; have hnc109 := NB316_301.out; obtain ⟨hcz110_0, hcz110_1, hcz110_2, hfz110_0, hfz110_1, hfz110_2⟩ := cells3 (w := w106) (g := gb301) BK301.out) | (go_at_call 25; (with_reducible refine (pos_Check.calls k t296 t297 t298 a1 false _ A41.out).mono ?_); rintro e w111 ⟨rfl, hb⟩; have n0_ := Aside0.mk (blk_below (g := gb294) (o := .cells #[.int .i64 a0_0, .int .i64 a0_1, .int .i64 a0_2] 23 (0, 0)) (by (with_reducible repeat (first | apply kN | apply kD | apply kA)); exact BK294.out) hb); have n1_ := Aside0.mk (blk_below (g := gb301) (o := .cells #[.int .i64 t296, .int .i64 t297, .int .i64 t298] 23 (0, 0)) (by (with_reducible repeat (first | apply kN | apply kD | apply kA)); exact BK301.out) hb); have n2_ := Aside0.mk (blk_below (g := gb307) (o := .cells #[.int .i64 t302, .int .i64 t303, .int .i64 t304] 23 (0, 0)) (by (with_reducible repeat (first | apply kN | apply kD | apply kA)); exact BK307.out) hb); have n3_ := Aside0.mk (blk_below (g := gb312) (o := .cells #[.int .i64 t308, .int .i64 t309, .int .i64 t310] 23 (0, 0)) (by (with_reducible repeat (first | apply kN | apply kD | apply kA)); exact BK312.out) hb); have n4_ := Aside0.mk (blk_below (g := gb316) (o := .cells #[.int .i64 t313, .int .i64 t314, .int .i64 t315] 23 (0, 0)) (by (with_reducible repeat (first | apply kN | apply kD | apply kA)); exact BK316.out) hb); have n5_ := Aside0.mk (below_step (by repeat (first | (with_reducible first | exact HB.out | apply bA | apply bN | apply bD | refine below_set ?_ GE294.out | refine below_set ?_ GE301.out | refine below_set ?_ GE307.out | refine below_set ?_ GE312.out | refine below_set ?_ GE316.out) | exact HB.out)) hb); clear BK294; clear BK301; clear BK307; clear BK312; clear BK316; clear HB; have BK294 := n0_; have BK301 := n1_; have BK307 := n2_; have BK312 := n3_; have BK316 := n4_; have HB := n5_; clear n0_ n1_ n2_ n3_ n4_ n5_; (try clear hb); (try clear hb2); (try clear hk); (try clear hi)))
    go_meet
    case rel => exact ⟨_, (false), (by first | rfl | (simp; done) | (simp [*]; done)), H', ⟨by first | omega | exact Nat.le_refl _⟩, ⟨by (with_reducible repeat (first | apply kN | apply kD | apply kA)); exact BK294.out⟩, ⟨by (with_reducible repeat (first | apply kN | apply kD | apply kA)); exact BK301.out⟩, ⟨by (with_reducible repeat (first | apply kN | apply kD | apply kA)); exact BK307.out⟩, ⟨by (with_reducible repeat (first | apply kN | apply kD | apply kA)); exact BK312.out⟩, ⟨by (with_reducible repeat (first | apply kN | apply kD | apply kA)); exact BK316.out⟩, ⟨by repeat (first | (with_reducible first | exact HB.out | apply bA | apply bN | apply bD | refine below_set ?_ GE294.out | refine below_set ?_ GE301.out | refine below_set ?_ GE307.out | refine below_set ?_ GE312.out | refine below_set ?_ GE316.out) | exact HB.out)⟩⟩
  ·replace c40 := Bool.eq_false_iff.mpr c40
   subst c40
   have H1 : (sakialaw08_WordStays.j0 k t295 t299 t300 t305 t306 t311 true a0_0 a0_1 a0_2 t296 t297 t298 t302 t303 t304 t308 t309 t310) = some r := by rw [if_neg (show ¬ (false = true) by decide)] at H; exact H
   clear H
   have H := H1
   clear H1
   have H' := Aside0.mk H
   clear H
   have hnb112 := NB294_301.out
   have hnc112 := NB301_294.out
   have hnb113 := NB294_307.out
   have hnc113 := NB307_294.out
   have hnb114 := NB294_312.out
   have hnc114 := NB312_294.out
   have hnb115 := NB294_316.out
   have hnc115 := NB316_294.out
   obtain ⟨hcz116_0, hcz116_1, hcz116_2, hfz116_0, hfz116_1, hfz116_2⟩ := cells3 (w := w33) (g := gb294) BK294.out
   go_wp2_with (first | ((with_reducible refine gate_callee (f := 25) rfl ?_); refine goesL_ (some 47) rfl rfl Try.func25 (by kernel_rfl) rfl #[.agg #[.int .i64 a0_0, .int .i64 a0_1, .int .i64 a0_2], .int .i64 a1] rfl (by (try simp only [List.map_toArray, List.map_cons, List.map_nil]); first | done | rfl | (simp only [List.length_drop, List.length_take]; rfl)) ?_; (with_reducible refine (pos_Check.calls k a0_0 a0_1 a0_2 a1 false _ A39.out).mono ?_); rintro e w117 ⟨rfl, hb⟩; refine ⟨_, rfl, ?_⟩; have n0_ := Aside0.mk (blk_below (g := gb294) (o := .cells #[.int .i64 a0_0, .int .i64 a0_1, .int .i64 a0_2] 23 (0, 0)) (by (with_reducible repeat (first | apply kN | apply kD | apply kA)); refine blk_far ?_ NB294_316.out _; (with_reducible repeat (first | apply kN | apply kD | apply kA)); refine blk_far ?_ NB294_316.out _; (with_reducible repeat (first | apply kN | apply kD | apply kA)); refine blk_far ?_ NB294_316.out _; (with_reducible repeat (first | apply kN | apply kD | apply kA)); exact BK294.out) hb); have n1_ := Aside0.mk (blk_below (g := gb301) (o := .cells #[.int .i64 t296, .int .i64 t297, .int .i64 t298] 23 (0, 0)) (by (with_reducible repeat (first | apply kN | apply kD | apply kA)); refine blk_far ?_ NB301_316.out _; (with_reducible repeat (first | apply kN | apply kD | apply kA)); refine blk_far ?_ NB301_316.out _; (with_reducible repeat (first | apply kN | apply kD | apply kA)); refine blk_far ?_ NB301_316.out _; (with_reducible repeat (first | apply kN | apply kD | apply kA)); exact BK301.out) hb); have n2_ := Aside0.mk (blk_below (g := gb307) (o := .cells #[.int .i64 t302, .int .i64 t303, .int .i64 t304] 23 (0, 0)) (by (with_reducible repeat (first | apply kN | apply kD | apply kA)); refine blk_far ?_ NB307_316.out _; (with_reducible repeat (first | apply kN | apply kD | apply kA)); refine blk_far ?_ NB307_316.out _; (with_reducible repeat (first | apply kN | apply kD | apply kA)); refine blk_far ?_ NB307_316.out _; (with_reducible repeat (first | apply kN | apply kD | apply kA)); exact BK307.out) hb); have n3_ := Aside0.mk (blk_below (g := gb312) (o := .cells #[.int .i64 t308, .int .i64 t309, .int .i64 t310] 23 (0, 0)) (by (with_reducible repeat (first | apply kN | apply kD | apply kA)); refine blk_far ?_ NB312_316.out _; (with_reducible repeat (first | apply kN | apply kD | apply kA)); refine blk_far ?_ NB312_316.out _; (with_reducible repeat (first | apply kN | apply kD | apply kA)); refine blk_far ?_ NB312_316.out _; (with_reducible repeat (first | apply kN | apply kD | apply kA)); exact BK312.out) hb); have n4_ := Aside0.mk (blk_below (g := gb316) (o := .cells #[.int .i64 t313, .int .i64 t314, .int .i64 t315] 23 (0, 0)) (by (with_reducible repeat (first | apply kN | apply kD | apply kA)); refine blk_put (cs := #[.int .i64 t313, .int .i64 t314, .int .i64 0]) ?_ 2 _ rfl; (with_reducible repeat (first | apply kN | apply kD | apply kA)); refine blk_put (cs := #[.int .i64 t313, .int .i64 0, .int .i64 0]) ?_ 1 _ rfl; (with_reducible repeat (first | apply kN | apply kD | apply kA)); refine blk_put (cs := #[.int .i64 0, .int .i64 0, .int .i64 0]) ?_ 0 _ rfl; (with_reducible repeat (first | apply kN | apply kD | apply kA)); exact BK316.out) hb); have n5_ := Aside0.mk (below_step (by repeat (first | (with_reducible first | exact HB.out | apply bA | apply bN | apply bD | refine below_set ?_ GE294.out | refine below_set ?_ GE301.out | refine below_set ?_ GE307.out | refine below_set ?_ GE312.out | refine below_set ?_ GE316.out) | exact HB.out)) hb); clear BK294; clear BK301; clear BK307; clear BK312; clear BK316; clear HB; have BK294 := n0_; have BK301 := n1_; have BK307 := n2_; have BK312 := n3_; have BK316 := n4_; have HB := n5_; clear n0_ n1_ n2_ n3_ n4_ n5_; (try clear hb); (try clear hb2); (try clear hk); (try clear hi)))
   go_meet
   case rel => exact ⟨_, (true), (by first | rfl | (simp; done) | (simp [*]; done)), H', ⟨by first | omega | exact Nat.le_refl _⟩, ⟨by (with_reducible repeat (first | apply kN | apply kD | apply kA)); exact BK294.out⟩, ⟨by (with_reducible repeat (first | apply kN | apply kD | apply kA)); exact BK301.out⟩, ⟨by (with_reducible repeat (first | apply kN | apply kD | apply kA)); exact BK307.out⟩, ⟨by (with_reducible repeat (first | apply kN | apply kD | apply kA)); exact BK312.out⟩, ⟨by (with_reducible repeat (first | apply kN | apply kD | apply kA)); exact BK316.out⟩, ⟨by repeat (first | (with_reducible first | exact HB.out | apply bA | apply bN | apply bD | refine below_set ?_ GE294.out | refine below_set ?_ GE301.out | refine below_set ?_ GE307.out | refine below_set ?_ GE312.out | refine below_set ?_ GE316.out) | exact HB.out)⟩⟩
 case rest =>
  clear HC10
  try clear c1
  try clear c2
  try clear p2
  try clear c3
  try clear c4
  try clear c5
  try clear c6
  try clear c7
  try clear c8
  try clear c9
  try clear c10
  try clear c11
  try clear c15
  try clear c16
  try clear c18
  try clear c20
  try clear c21
  try clear c22
  try clear c23
  try clear c25
  try clear c27
  try clear c28
  try clear c29
  try clear c34
  try clear c35
  try clear c36
  try clear c37
  try clear c40
  try clear c42
  try clear c44
  try clear c46
  try clear c48
  try clear c49
  try clear c50
  try clear c51
  try clear c54
  try clear c55
  try clear c56
  try clear c59
  try clear c60
  try clear c63
  try clear c68
  try clear c69
  try clear c70
  try clear c71
  try clear c74
  try clear c75
  try clear c76
  try clear c79
  try clear c80
  try clear c83
  try clear c86
  try clear c87
  try clear c88
  try clear c89
  try clear c92
  try clear c93
  try clear c94
  try clear c97
  try clear c98
  try clear c101
  try clear c102
  try clear c103
  try clear c104
  try clear c107
  try clear c108
  try clear c109
  try clear c112
  try clear c113
  try clear c114
  try clear c115
  try clear hcz105_0
  try clear hcz105_1
  try clear hcz105_2
  try clear hcz110_0
  try clear hcz110_1
  try clear hcz110_2
  try clear hcz116_0
  try clear hcz116_1
  try clear hcz116_2
  try clear hcz13_0
  try clear hcz13_1
  try clear hcz13_2
  try clear hcz17_0
  try clear hcz17_1
  try clear hcz17_2
  try clear hcz18_0
  try clear hcz18_1
  try clear hcz18_2
  try clear hcz23_0
  try clear hcz23_1
  try clear hcz23_2
  try clear hcz24_0
  try clear hcz24_1
  try clear hcz24_2
  try clear hcz30_0
  try clear hcz30_1
  try clear hcz30_2
  try clear hcz31_0
  try clear hcz31_1
  try clear hcz31_2
  try clear hcz38_0
  try clear hcz38_1
  try clear hcz38_2
  try clear hcz52_0
  try clear hcz52_1
  try clear hcz52_2
  try clear hcz57_0
  try clear hcz57_1
  try clear hcz57_2
  try clear hcz61_0
  try clear hcz61_1
  try clear hcz61_2
  try clear hcz64_0
  try clear hcz64_1
  try clear hcz64_2
  try clear hcz66_0
  try clear hcz66_1
  try clear hcz66_2
  try clear hcz72_0
  try clear hcz72_1
  try clear hcz72_2
  try clear hcz77_0
  try clear hcz77_1
  try clear hcz77_2
  try clear hcz81_0
  try clear hcz81_1
  try clear hcz81_2
  try clear hcz84_0
  try clear hcz84_1
  try clear hcz84_2
  try clear hcz90_0
  try clear hcz90_1
  try clear hcz90_2
  try clear hcz95_0
  try clear hcz95_1
  try clear hcz95_2
  try clear hcz99_0
  try clear hcz99_1
  try clear hcz99_2
  try clear hfz105_0
  try clear hfz105_1
  try clear hfz105_2
  try clear hfz110_0
  try clear hfz110_1
  try clear hfz110_2
  try clear hfz116_0
  try clear hfz116_1
  try clear hfz116_2
  try clear hfz13_0
  try clear hfz13_1
  try clear hfz13_2
  try clear hfz17_0
  try clear hfz17_1
  try clear hfz17_2
  try clear hfz18_0
  try clear hfz18_1
  try clear hfz18_2
  try clear hfz23_0
  try clear hfz23_1
  try clear hfz23_2
  try clear hfz24_0
  try clear hfz24_1
  try clear hfz24_2
  try clear hfz30_0
  try clear hfz30_1
  try clear hfz30_2
  try clear hfz31_0
  try clear hfz31_1
  try clear hfz31_2
  try clear hfz38_0
  try clear hfz38_1
  try clear hfz38_2
  try clear hfz52_0
  try clear hfz52_1
  try clear hfz52_2
  try clear hfz57_0
  try clear hfz57_1
  try clear hfz57_2
  try clear hfz61_0
  try clear hfz61_1
  try clear hfz61_2
  try clear hfz64_0
  try clear hfz64_1
  try clear hfz64_2
  try clear hfz66_0
  try clear hfz66_1
  try clear hfz66_2
  try clear hfz72_0
  try clear hfz72_1
  try clear hfz72_2
  try clear hfz77_0
  try clear hfz77_1
  try clear hfz77_2
  try clear hfz81_0
  try clear hfz81_1
  try clear hfz81_2
  try clear hfz84_0
  try clear hfz84_1
  try clear hfz84_2
  try clear hfz90_0
  try clear hfz90_1
  try clear hfz90_2
  try clear hfz95_0
  try clear hfz95_1
  try clear hfz95_2
  try clear hfz99_0
  try clear hfz99_1
  try clear hfz99_2
  obtain ⟨kq, x19_9, rfl, HA, HJ9, BK294, BK301, BK307, BK312, BK316, HB⟩ := hcut
  cases kq with
  | zero => exact absurd HA.out (by simp [sakialaw08_WordStays.j0])
  | succ kj9 =>
   have H := HA.out
   clear HA
   simp only [sakialaw08_WordStays.j0] at H
   have HC118 := Aside0.mk H
   clear H
   go_upto_region 7 with (fail)
   go_cut [8] (fun v8 wc => ∃ (kq : Nat) (x8_117 : Bool), v8 = .bool x8_117 ∧ Aside0 (sakialaw08_WordStays.j1 kq x8_117 = some r) ∧ Aside0 (kq ≤ kj9) ∧ Aside0 (wc.heap[gb294]? = some (.cells #[.int .i64 a0_0, .int .i64 a0_1, .int .i64 a0_2] 23 (0, 0))) ∧ Aside0 (wc.heap[gb301]? = some (.cells #[.int .i64 t296, .int .i64 t297, .int .i64 t298] 23 (0, 0))) ∧ Aside0 (wc.heap[gb307]? = some (.cells #[.int .i64 t302, .int .i64 t303, .int .i64 t304] 23 (0, 0))) ∧ Aside0 (wc.heap[gb312]? = some (.cells #[.int .i64 t308, .int .i64 t309, .int .i64 t310] 23 (0, 0))) ∧ Aside0 (wc.heap[gb316]? = some (.cells #[.int .i64 t313, .int .i64 t314, .int .i64 t315] 23 (0, 0))) ∧ Aside0 (Below w.heap.size w wc))
   case first =>
    have H := HC118.out
    clear HC118
    by_cases c119 : t295 = true
    ·subst c119
     have H1 : (if x19_9 = true then (if t300 = 1 then (if t299 = a0_1 then (if t306 = 1 then (if t305 = a0_0 then (if t311 = true then (sakialaw08_WordStays.j1 kj9 true) else (sakialaw08_WordStays.j1 kj9 (t308 == a0_0 && (t309 == a0_1 && (t310 == a0_2))))) else (sakialaw08_WordStays.j1 kj9 false)) else (if (t302 == a0_0 && (t303 == a0_1 && (t304 == a0_2))) = true then (if t305 = 0 then (if t311 = true then (sakialaw08_WordStays.j1 kj9 true) else (sakialaw08_WordStays.j1 kj9 (t308 == a0_0 && (t309 == a0_1 && (t310 == a0_2))))) else (sakialaw08_WordStays.j1 kj9 false)) else (sakialaw08_WordStays.j1 kj9 false))) else (sakialaw08_WordStays.j1 kj9 false)) else (if (t296 == a0_0 && (t297 == a0_1 && (t298 == a0_2))) = true then (if t299 = 0 then (if t306 = 1 then (if t305 = a0_0 then (if t311 = true then (sakialaw08_WordStays.j1 kj9 true) else (sakialaw08_WordStays.j1 kj9 (t308 == a0_0 && (t309 == a0_1 && (t310 == a0_2))))) else (sakialaw08_WordStays.j1 kj9 false)) else (if (t302 == a0_0 && (t303 == a0_1 && (t304 == a0_2))) = true then (if t305 = 0 then (if t311 = true then (sakialaw08_WordStays.j1 kj9 true) else (sakialaw08_WordStays.j1 kj9 (t308 == a0_0 && (t309 == a0_1 && (t310 == a0_2))))) else (sakialaw08_WordStays.j1 kj9 false)) else (sakialaw08_WordStays.j1 kj9 false))) else (sakialaw08_WordStays.j1 kj9 false)) else (sakialaw08_WordStays.j1 kj9 false))) else (sakialaw08_WordStays.j1 kj9 false)) = some r := by rw [if_pos rfl] at H; exact H
     clear H
     have H := H1
     clear H1
     by_cases c120 : x19_9 = true
     ·subst c120
      have H1 : (if t300 = 1 then (if t299 = a0_1 then (if t306 = 1 then (if t305 = a0_0 then (if t311 = true then (sakialaw08_WordStays.j1 kj9 true) else (sakialaw08_WordStays.j1 kj9 (t308 == a0_0 && (t309 == a0_1 && (t310 == a0_2))))) else (sakialaw08_WordStays.j1 kj9 false)) else (if (t302 == a0_0 && (t303 == a0_1 && (t304 == a0_2))) = true then (if t305 = 0 then (if t311 = true then (sakialaw08_WordStays.j1 kj9 true) else (sakialaw08_WordStays.j1 kj9 (t308 == a0_0 && (t309 == a0_1 && (t310 == a0_2))))) else (sakialaw08_WordStays.j1 kj9 false)) else (sakialaw08_WordStays.j1 kj9 false))) else (sakialaw08_WordStays.j1 kj9 false)) else (if (t296 == a0_0 && (t297 == a0_1 && (t298 == a0_2))) = true then (if t299 = 0 then (if t306 = 1 then (if t305 = a0_0 then (if t311 = true then (sakialaw08_WordStays.j1 kj9 true) else (sakialaw08_WordStays.j1 kj9 (t308 == a0_0 && (t309 == a0_1 && (t310 == a0_2))))) else (sakialaw08_WordStays.j1 kj9 false)) else (if (t302 == a0_0 && (t303 == a0_1 && (t304 == a0_2))) = true then (if t305 = 0 then (if t311 = true then (sakialaw08_WordStays.j1 kj9 true) else (sakialaw08_WordStays.j1 kj9 (t308 == a0_0 && (t309 == a0_1 && (t310 == a0_2))))) else (sakialaw08_WordStays.j1 kj9 false)) else (sakialaw08_WordStays.j1 kj9 false))) else (sakialaw08_WordStays.j1 kj9 false)) else (sakialaw08_WordStays.j1 kj9 false))) = some r := by rw [if_pos rfl] at H; exact H
      clear H
      have H := H1
      clear H1
      by_cases c121 : t300 = 1
      ·rw [if_pos c121] at H
       have c121b0 : (t300 == 1) = true := beq_iff_eq.mpr c121
       have c121b1 : (t300 != 1) = false := bne_eq_false_iff_eq.mpr c121
       clear c121
       (first | rw [c121b0] | (simp only [i64_w, i32_w]; rw [c121b0]) | skip)
       by_cases c122 : t299 = a0_1
       ·rw [if_pos c122] at H
        have c122b0 : (t299 == a0_1) = true := beq_iff_eq.mpr c122
        have c122b1 : (t299 != a0_1) = false := bne_eq_false_iff_eq.mpr c122
        clear c122
        by_cases c123 : t306 = 1
        ·rw [if_pos c123] at H
         have c123b0 : (t306 == 1) = true := beq_iff_eq.mpr c123
         have c123b1 : (t306 != 1) = false := bne_eq_false_iff_eq.mpr c123
         clear c123
         by_cases c124 : t305 = a0_0
         ·rw [if_pos c124] at H
          have c124b0 : (t305 == a0_0) = true := beq_iff_eq.mpr c124
          have c124b1 : (t305 != a0_0) = false := bne_eq_false_iff_eq.mpr c124
          clear c124
          by_cases c125 : t311 = true
          ·subst c125
           have H1 : (sakialaw08_WordStays.j1 kj9 true) = some r := by rw [if_pos rfl] at H; exact H
           clear H
           have H := H1
           clear H1
           have H' := Aside0.mk H
           clear H
           have hnb126 := NB294_301.out
           have hnc126 := NB301_294.out
           have hnb127 := NB294_307.out
           have hnc127 := NB307_294.out
           have hnb128 := NB294_312.out
           have hnc128 := NB312_294.out
           have hnb129 := NB294_316.out
           have hnc129 := NB316_294.out
           obtain ⟨hcz130_0, hcz130_1, hcz130_2, hfz130_0, hfz130_1, hfz130_2⟩ := cells3 (w := wc) (g := gb294) BK294.out
           go_wp2
           go_meet
           case rel => exact ⟨_, (true), (by first | rfl | (simp; done) | (simp [*]; done)), H', ⟨by have := HJ9.out; first | omega | exact Nat.le_refl _⟩, ⟨by (with_reducible repeat (first | apply kN | apply kD | apply kA)); exact BK294.out⟩, ⟨by (with_reducible repeat (first | apply kN | apply kD | apply kA)); exact BK301.out⟩, ⟨by (with_reducible repeat (first | apply kN | apply kD | apply kA)); exact BK307.out⟩, ⟨by (with_reducible repeat (first | apply kN | apply kD | apply kA)); exact BK312.out⟩, ⟨by (with_reducible repeat (first | apply kN | apply kD | apply kA)); exact BK316.out⟩, ⟨by repeat (first | (with_reducible first | exact HB.out | apply bA | apply bN | apply bD | refine below_set ?_ GE294.out | refine below_set ?_ GE301.out | refine below_set ?_ GE307.out | refine below_set ?_ GE312.out | refine below_set ?_ GE316.out) | exact HB.out)⟩⟩
          ·replace c125 := Bool.eq_false_iff.mpr c125
           subst c125
           have H1 : (sakialaw08_WordStays.j1 kj9 (t308 == a0_0 && (t309 == a0_1 && (t310 == a0_2)))) = some r := by rw [if_neg (show ¬ (false = true) by decide)] at H; exact H
           clear H
           have H := H1
           clear H1
           have H' := Aside0.mk H
           clear H
           have hnb131 := NB294_301.out
           have hnc131 := NB301_294.out
           have hnb132 := NB294_307.out
           have hnc132 := NB307_294.out
           have hnb133 := NB294_312.out
           have hnc133 := NB312_294.out
           have hnb134 := NB294_316.out
           have hnc134 := NB316_294.out
           obtain ⟨hcz135_0, hcz135_1, hcz135_2, hfz135_0, hfz135_1, hfz135_2⟩ := cells3 (w := wc) (g := gb294) BK294.out
           have hnb136 := NB312_301.out
           have hnc136 := NB301_312.out
           have hnb137 := NB312_307.out
           have hnc137 := NB307_312.out
           have hnb138 := NB312_316.out
           have hnc138 := NB316_312.out
           obtain ⟨hcz139_0, hcz139_1, hcz139_2, hfz139_0, hfz139_1, hfz139_2⟩ := cells3 (w := wc) (g := gb312) BK312.out
           go_wp2
           go_meet
           case rel => exact ⟨_, ((t308 == a0_0 && (t309 == a0_1 && (t310 == a0_2)))), (by first | rfl | (simp; done) | (simp [*]; done)), H', ⟨by have := HJ9.out; first | omega | exact Nat.le_refl _⟩, ⟨by (with_reducible repeat (first | apply kN | apply kD | apply kA)); exact BK294.out⟩, ⟨by (with_reducible repeat (first | apply kN | apply kD | apply kA)); exact BK301.out⟩, ⟨by (with_reducible repeat (first | apply kN | apply kD | apply kA)); exact BK307.out⟩, ⟨by (with_reducible repeat (first | apply kN | apply kD | apply kA)); exact BK312.out⟩, ⟨by (with_reducible repeat (first | apply kN | apply kD | apply kA)); exact BK316.out⟩, ⟨by repeat (first | (with_reducible first | exact HB.out | apply bA | apply bN | apply bD | refine below_set ?_ GE294.out | refine below_set ?_ GE301.out | refine below_set ?_ GE307.out | refine below_set ?_ GE312.out | refine below_set ?_ GE316.out) | exact HB.out)⟩⟩
         ·rw [if_neg c124] at H
          have c124b0 : (t305 == a0_0) = false := beq_eq_false_iff_ne.mpr c124
          have c124b1 : (t305 != a0_0) = true := bne_iff_ne.mpr c124
          have H' := Aside0.mk H
          clear H
          have hnb140 := NB294_301.out
          have hnc140 := NB301_294.out
          have hnb141 := NB294_307.out
          have hnc141 := NB307_294.out
          have hnb142 := NB294_312.out
          have hnc142 := NB312_294.out
          have hnb143 := NB294_316.out
          have hnc143 := NB316_294.out
          obtain ⟨hcz144_0, hcz144_1, hcz144_2, hfz144_0, hfz144_1, hfz144_2⟩ := cells3 (w := wc) (g := gb294) BK294.out
          go_wp2
          go_meet
          case rel => exact ⟨_, (false), (by first | rfl | (simp; done) | (simp [*]; done)), H', ⟨by have := HJ9.out; first | omega | exact Nat.le_refl _⟩, ⟨by (with_reducible repeat (first | apply kN | apply kD | apply kA)); exact BK294.out⟩, ⟨by (with_reducible repeat (first | apply kN | apply kD | apply kA)); exact BK301.out⟩, ⟨by (with_reducible repeat (first | apply kN | apply kD | apply kA)); exact BK307.out⟩, ⟨by (with_reducible repeat (first | apply kN | apply kD | apply kA)); exact BK312.out⟩, ⟨by (with_reducible repeat (first | apply kN | apply kD | apply kA)); exact BK316.out⟩, ⟨by repeat (first | (with_reducible first | exact HB.out | apply bA | apply bN | apply bD | refine below_set ?_ GE294.out | refine below_set ?_ GE301.out | refine below_set ?_ GE307.out | refine below_set ?_ GE312.out | refine below_set ?_ GE316.out) | exact HB.out)⟩⟩
        ·rw [if_neg c123] at H
         have c123b0 : (t306 == 1) = false := beq_eq_false_iff_ne.mpr c123
         have c123b1 : (t306 != 1) = true := bne_iff_ne.mpr c123
         by_cases c145 : (t302 == a0_0 && (t303 == a0_1 && (t304 == a0_2))) = true
         ·rw [if_pos c145] at H
          have c145b0 : (t302 == a0_0 && (t303 == a0_1 && (t304 == a0_2))) = true := c145
          (try (have c145b1 : decide (t302 = a0_0 && (t303 == a0_1 && (t304 == a0_2))) = true := by simpa using c145))
          (try (have c145b2 : (t302 == a0_0 && (t303 == a0_1 && (t304 == a0_2))) = true := by simpa using c145))
          clear c145
          by_cases c146 : t305 = 0
          ·rw [if_pos c146] at H
           have c146b0 : (t305 == 0) = true := beq_iff_eq.mpr c146
           have c146b1 : (t305 != 0) = false := bne_eq_false_iff_eq.mpr c146
           clear c146
           by_cases c147 : t311 = true
           ·subst c147
            have H1 : (sakialaw08_WordStays.j1 kj9 true) = some r := by rw [if_pos rfl] at H; exact H
            clear H
            have H := H1
            clear H1
            have H' := Aside0.mk H
            clear H
            have hnb148 := NB294_301.out
            have hnc148 := NB301_294.out
            have hnb149 := NB294_307.out
            have hnc149 := NB307_294.out
            have hnb150 := NB294_312.out
            have hnc150 := NB312_294.out
            have hnb151 := NB294_316.out
            have hnc151 := NB316_294.out
            obtain ⟨hcz152_0, hcz152_1, hcz152_2, hfz152_0, hfz152_1, hfz152_2⟩ := cells3 (w := wc) (g := gb294) BK294.out
            have hnb153 := NB307_301.out
            have hnc153 := NB301_307.out
            have hnb154 := NB307_312.out
            have hnc154 := NB312_307.out
            have hnb155 := NB307_316.out
            have hnc155 := NB316_307.out
            obtain ⟨hcz156_0, hcz156_1, hcz156_2, hfz156_0, hfz156_1, hfz156_2⟩ := cells3 (w := wc) (g := gb307) BK307.out
            go_wp2
            go_meet
            case rel => exact ⟨_, (true), (by first | rfl | (simp; done) | (simp [*]; done)), H', ⟨by have := HJ9.out; first | omega | exact Nat.le_refl _⟩, ⟨by (with_reducible repeat (first | apply kN | apply kD | apply kA)); exact BK294.out⟩, ⟨by (with_reducible repeat (first | apply kN | apply kD | apply kA)); exact BK301.out⟩, ⟨by (with_reducible repeat (first | apply kN | apply kD | apply kA)); exact BK307.out⟩, ⟨by (with_reducible repeat (first | apply kN | apply kD | apply kA)); exact BK312.out⟩, ⟨by (with_reducible repeat (first | apply kN | apply kD | apply kA)); exact BK316.out⟩, ⟨by repeat (first | (with_reducible first | exact HB.out | apply bA | apply bN | apply bD | refine below_set ?_ GE294.out | refine below_set ?_ GE301.out | refine below_set ?_ GE307.out | refine below_set ?_ GE312.out | refine below_set ?_ GE316.out) | exact HB.out)⟩⟩
           ·replace c147 := Bool.eq_false_iff.mpr c147
            subst c147
            have H1 : (sakialaw08_WordStays.j1 kj9 (t308 == a0_0 && (t309 == a0_1 && (t310 == a0_2)))) = some r := by rw [if_neg (show ¬ (false = true) by decide)] at H; exact H
            clear H
            have H := H1
            clear H1
            have H' := Aside0.mk H
            clear H
            have hnb157 := NB294_301.out
            have hnc157 := NB301_294.out
            have hnb158 := NB294_307.out
            have hnc158 := NB307_294.out
            have hnb159 := NB294_312.out
            have hnc159 := NB312_294.out
            have hnb160 := NB294_316.out
            have hnc160 := NB316_294.out
            obtain ⟨hcz161_0, hcz161_1, hcz161_2, hfz161_0, hfz161_1, hfz161_2⟩ := cells3 (w := wc) (g := gb294) BK294.out
            have hnb162 := NB307_301.out
            have hnc162 := NB301_307.out
            have hnb163 := NB307_312.out
            have hnc163 := NB312_307.out
            have hnb164 := NB307_316.out
            have hnc164 := NB316_307.out
            obtain ⟨hcz165_0, hcz165_1, hcz165_2, hfz165_0, hfz165_1, hfz165_2⟩ := cells3 (w := wc) (g := gb307) BK307.out
            have hnb166 := NB312_301.out
            have hnc166 := NB301_312.out
            have hnb167 := NB312_316.out
            have hnc167 := NB316_312.out
            obtain ⟨hcz168_0, hcz168_1, hcz168_2, hfz168_0, hfz168_1, hfz168_2⟩ := cells3 (w := wc) (g := gb312) BK312.out
            go_wp2
            go_meet
            case rel => exact ⟨_, ((t308 == a0_0 && (t309 == a0_1 && (t310 == a0_2)))), (by first | rfl | (simp; done) | (simp [*]; done)), H', ⟨by have := HJ9.out; first | omega | exact Nat.le_refl _⟩, ⟨by (with_reducible repeat (first | apply kN | apply kD | apply kA)); exact BK294.out⟩, ⟨by (with_reducible repeat (first | apply kN | apply kD | apply kA)); exact BK301.out⟩, ⟨by (with_reducible repeat (first | apply kN | apply kD | apply kA)); exact BK307.out⟩, ⟨by (with_reducible repeat (first | apply kN | apply kD | apply kA)); exact BK312.out⟩, ⟨by (with_reducible repeat (first | apply kN | apply kD | apply kA)); exact BK316.out⟩, ⟨by repeat (first | (with_reducible first | exact HB.out | apply bA | apply bN | apply bD | refine below_set ?_ GE294.out | refine below_set ?_ GE301.out | refine below_set ?_ GE307.out | refine below_set ?_ GE312.out | refine below_set ?_ GE316.out) | exact HB.out)⟩⟩
          ·rw [if_neg c146] at H
           have c146b0 : (t305 == 0) = false := beq_eq_false_iff_ne.mpr c146
           have c146b1 : (t305 != 0) = true := bne_iff_ne.mpr c146
           have H' := Aside0.mk H
           clear H
           have hnb169 := NB294_301.out
           have hnc169 := NB301_294.out
           have hnb170 := NB294_307.out
           have hnc170 := NB307_294.out
           have hnb171 := NB294_312.out
           have hnc171 := NB312_294.out
           have hnb172 := NB294_316.out
           have hnc172 := NB316_294.out
           obtain ⟨hcz173_0, hcz173_1, hcz173_2, hfz173_0, hfz173_1, hfz173_2⟩ := cells3 (w := wc) (g := gb294) BK294.out
           have hnb174 := NB307_301.out
           have hnc174 := NB301_307.out
           have hnb175 := NB307_312.out
           have hnc175 := NB312_307.out
           have hnb176 := NB307_316.out
           have hnc176 := NB316_307.out
           obtain ⟨hcz177_0, hcz177_1, hcz177_2, hfz177_0, hfz177_1, hfz177_2⟩ := cells3 (w := wc) (g := gb307) BK307.out
           go_wp2
           go_meet
           case rel => exact ⟨_, (false), (by first | rfl | (simp; done) | (simp [*]; done)), H', ⟨by have := HJ9.out; first | omega | exact Nat.le_refl _⟩, ⟨by (with_reducible repeat (first | apply kN | apply kD | apply kA)); exact BK294.out⟩, ⟨by (with_reducible repeat (first | apply kN | apply kD | apply kA)); exact BK301.out⟩, ⟨by (with_reducible repeat (first | apply kN | apply kD | apply kA)); exact BK307.out⟩, ⟨by (with_reducible repeat (first | apply kN | apply kD | apply kA)); exact BK312.out⟩, ⟨by (with_reducible repeat (first | apply kN | apply kD | apply kA)); exact BK316.out⟩, ⟨by repeat (first | (with_reducible first | exact HB.out | apply bA | apply bN | apply bD | refine below_set ?_ GE294.out | refine below_set ?_ GE301.out | refine below_set ?_ GE307.out | refine below_set ?_ GE312.out | refine below_set ?_ GE316.out) | exact HB.out)⟩⟩
         ·rw [if_neg c145] at H
          have c145b0 : (t302 == a0_0 && (t303 == a0_1 && (t304 == a0_2))) = false := by simpa using c145
          (try (have c145b1 : decide (t302 = a0_0 && (t303 == a0_1 && (t304 == a0_2))) = false := by simpa using c145))
          (try (have c145b2 : (t302 == a0_0 && (t303 == a0_1 && (t304 == a0_2))) = false := by simpa using c145))
          (try (have c145b3 : ¬ (t302 = a0_0 && (t303 == a0_1 && (t304 == a0_2))) := by simpa using c145))
          clear c145
          have H' := Aside0.mk H
          clear H
          have hnb178 := NB294_301.out
          have hnc178 := NB301_294.out
          have hnb179 := NB294_307.out
          have hnc179 := NB307_294.out
          have hnb180 := NB294_312.out
          have hnc180 := NB312_294.out
          have hnb181 := NB294_316.out
          have hnc181 := NB316_294.out
          obtain ⟨hcz182_0, hcz182_1, hcz182_2, hfz182_0, hfz182_1, hfz182_2⟩ := cells3 (w := wc) (g := gb294) BK294.out
          have hnb183 := NB307_301.out
          have hnc183 := NB301_307.out
          have hnb184 := NB307_312.out
          have hnc184 := NB312_307.out
          have hnb185 := NB307_316.out
          have hnc185 := NB316_307.out
          obtain ⟨hcz186_0, hcz186_1, hcz186_2, hfz186_0, hfz186_1, hfz186_2⟩ := cells3 (w := wc) (g := gb307) BK307.out
          go_wp2
          go_meet
          case rel => exact ⟨_, (false), (by first | rfl | (simp; done) | (simp [*]; done)), H', ⟨by have := HJ9.out; first | omega | exact Nat.le_refl _⟩, ⟨by (with_reducible repeat (first | apply kN | apply kD | apply kA)); exact BK294.out⟩, ⟨by (with_reducible repeat (first | apply kN | apply kD | apply kA)); exact BK301.out⟩, ⟨by (with_reducible repeat (first | apply kN | apply kD | apply kA)); exact BK307.out⟩, ⟨by (with_reducible repeat (first | apply kN | apply kD | apply kA)); exact BK312.out⟩, ⟨by (with_reducible repeat (first | apply kN | apply kD | apply kA)); exact BK316.out⟩, ⟨by repeat (first | (with_reducible first | exact HB.out | apply bA | apply bN | apply bD | refine below_set ?_ GE294.out | refine below_set ?_ GE301.out | refine below_set ?_ GE307.out | refine below_set ?_ GE312.out | refine below_set ?_ GE316.out) | exact HB.out)⟩⟩
       ·rw [if_neg c122] at H
        have c122b0 : (t299 == a0_1) = false := beq_eq_false_iff_ne.mpr c122
        have c122b1 : (t299 != a0_1) = true := bne_iff_ne.mpr c122
        have H' := Aside0.mk H
        clear H
        have hnb187 := NB294_301.out
        have hnc187 := NB301_294.out
        have hnb188 := NB294_307.out
        have hnc188 := NB307_294.out
        have hnb189 := NB294_312.out
        have hnc189 := NB312_294.out
        have hnb190 := NB294_316.out
        have hnc190 := NB316_294.out
        obtain ⟨hcz191_0, hcz191_1, hcz191_2, hfz191_0, hfz191_1, hfz191_2⟩ := cells3 (w := wc) (g := gb294) BK294.out
        go_wp2
        go_meet
        case rel => exact ⟨_, (false), (by first | rfl | (simp; done) | (simp [*]; done)), H', ⟨by have := HJ9.out; first | omega | exact Nat.le_refl _⟩, ⟨by (with_reducible repeat (first | apply kN | apply kD | apply kA)); exact BK294.out⟩, ⟨by (with_reducible repeat (first | apply kN | apply kD | apply kA)); exact BK301.out⟩, ⟨by (with_reducible repeat (first | apply kN | apply kD | apply kA)); exact BK307.out⟩, ⟨by (with_reducible repeat (first | apply kN | apply kD | apply kA)); exact BK312.out⟩, ⟨by (with_reducible repeat (first | apply kN | apply kD | apply kA)); exact BK316.out⟩, ⟨by repeat (first | (with_reducible first | exact HB.out | apply bA | apply bN | apply bD | refine below_set ?_ GE294.out | refine below_set ?_ GE301.out | refine below_set ?_ GE307.out | refine below_set ?_ GE312.out | refine below_set ?_ GE316.out) | exact HB.out)⟩⟩
      ·rw [if_neg c121] at H
       have c121b0 : (t300 == 1) = false := beq_eq_false_iff_ne.mpr c121
       have c121b1 : (t300 != 1) = true := bne_iff_ne.mpr c121
       (first | rw [c121b0] | (simp only [i64_w, i32_w]; rw [c121b0]) | skip)
       by_cases c192 : (t296 == a0_0 && (t297 == a0_1 && (t298 == a0_2))) = true
       ·rw [if_pos c192] at H
        have c192b0 : (t296 == a0_0 && (t297 == a0_1 && (t298 == a0_2))) = true := c192
        (try (have c192b1 : decide (t296 = a0_0 && (t297 == a0_1 && (t298 == a0_2))) = true := by simpa using c192))
        (try (have c192b2 : (t296 == a0_0 && (t297 == a0_1 && (t298 == a0_2))) = true := by simpa using c192))
        clear c192
        by_cases c193 : t299 = 0
        ·rw [if_pos c193] at H
         have c193b0 : (t299 == 0) = true := beq_iff_eq.mpr c193
         have c193b1 : (t299 != 0) = false := bne_eq_false_iff_eq.mpr c193
         clear c193
         by_cases c194 : t306 = 1
         ·rw [if_pos c194] at H
          have c194b0 : (t306 == 1) = true := beq_iff_eq.mpr c194
          have c194b1 : (t306 != 1) = false := bne_eq_false_iff_eq.mpr c194
          clear c194
          by_cases c195 : t305 = a0_0
          ·rw [if_pos c195] at H
           have c195b0 : (t305 == a0_0) = true := beq_iff_eq.mpr c195
           have c195b1 : (t305 != a0_0) = false := bne_eq_false_iff_eq.mpr c195
           clear c195
           by_cases c196 : t311 = true
           ·subst c196
            have H1 : (sakialaw08_WordStays.j1 kj9 true) = some r := by rw [if_pos rfl] at H; exact H
            clear H
            have H := H1
            clear H1
            have H' := Aside0.mk H
            clear H
            have hnb197 := NB301_294.out
            have hnc197 := NB294_301.out
            have hnb198 := NB301_307.out
            have hnc198 := NB307_301.out
            have hnb199 := NB301_312.out
            have hnc199 := NB312_301.out
            have hnb200 := NB301_316.out
            have hnc200 := NB316_301.out
            obtain ⟨hcz201_0, hcz201_1, hcz201_2, hfz201_0, hfz201_1, hfz201_2⟩ := cells3 (w := wc) (g := gb301) BK301.out
            have hnb202 := NB294_307.out
            have hnc202 := NB307_294.out
            have hnb203 := NB294_312.out
            have hnc203 := NB312_294.out
            have hnb204 := NB294_316.out
            have hnc204 := NB316_294.out
            obtain ⟨hcz205_0, hcz205_1, hcz205_2, hfz205_0, hfz205_1, hfz205_2⟩ := cells3 (w := wc) (g := gb294) BK294.out
            go_wp2
            go_meet
            case rel => exact ⟨_, (true), (by first | rfl | (simp; done) | (simp [*]; done)), H', ⟨by have := HJ9.out; first | omega | exact Nat.le_refl _⟩, ⟨by (with_reducible repeat (first | apply kN | apply kD | apply kA)); exact BK294.out⟩, ⟨by (with_reducible repeat (first | apply kN | apply kD | apply kA)); exact BK301.out⟩, ⟨by (with_reducible repeat (first | apply kN | apply kD | apply kA)); exact BK307.out⟩, ⟨by (with_reducible repeat (first | apply kN | apply kD | apply kA)); exact BK312.out⟩, ⟨by (with_reducible repeat (first | apply kN | apply kD | apply kA)); exact BK316.out⟩, ⟨by repeat (first | (with_reducible first | exact HB.out | apply bA | apply bN | apply bD | refine below_set ?_ GE294.out | refine below_set ?_ GE301.out | refine below_set ?_ GE307.out | refine below_set ?_ GE312.out | refine below_set ?_ GE316.out) | exact HB.out)⟩⟩
           ·replace c196 := Bool.eq_false_iff.mpr c196
            subst c196
            have H1 : (sakialaw08_WordStays.j1 kj9 (t308 == a0_0 && (t309 == a0_1 && (t310 == a0_2)))) = some r := by rw [if_neg (show ¬ (false = true) by decide)] at H; exact H
            clear H
            have H := H1
            clear H1
            have H' := Aside0.mk H
            clear H
            have hnb206 := NB301_294.out
            have hnc206 := NB294_301.out
            have hnb207 := NB301_307.out
            have hnc207 := NB307_301.out
            have hnb208 := NB301_312.out
            have hnc208 := NB312_301.out
            have hnb209 := NB301_316.out
            have hnc209 := NB316_301.out
            obtain ⟨hcz210_0, hcz210_1, hcz210_2, hfz210_0, hfz210_1, hfz210_2⟩ := cells3 (w := wc) (g := gb301) BK301.out
            have hnb211 := NB294_307.out
            have hnc211 := NB307_294.out
            have hnb212 := NB294_312.out
            have hnc212 := NB312_294.out
            have hnb213 := NB294_316.out
            have hnc213 := NB316_294.out
            obtain ⟨hcz214_0, hcz214_1, hcz214_2, hfz214_0, hfz214_1, hfz214_2⟩ := cells3 (w := wc) (g := gb294) BK294.out
            have hnb215 := NB312_307.out
            have hnc215 := NB307_312.out
            have hnb216 := NB312_316.out
            have hnc216 := NB316_312.out
            obtain ⟨hcz217_0, hcz217_1, hcz217_2, hfz217_0, hfz217_1, hfz217_2⟩ := cells3 (w := wc) (g := gb312) BK312.out
            go_wp2
            go_meet
            case rel => exact ⟨_, ((t308 == a0_0 && (t309 == a0_1 && (t310 == a0_2)))), (by first | rfl | (simp; done) | (simp [*]; done)), H', ⟨by have := HJ9.out; first | omega | exact Nat.le_refl _⟩, ⟨by (with_reducible repeat (first | apply kN | apply kD | apply kA)); exact BK294.out⟩, ⟨by (with_reducible repeat (first | apply kN | apply kD | apply kA)); exact BK301.out⟩, ⟨by (with_reducible repeat (first | apply kN | apply kD | apply kA)); exact BK307.out⟩, ⟨by (with_reducible repeat (first | apply kN | apply kD | apply kA)); exact BK312.out⟩, ⟨by (with_reducible repeat (first | apply kN | apply kD | apply kA)); exact BK316.out⟩, ⟨by repeat (first | (with_reducible first | exact HB.out | apply bA | apply bN | apply bD | refine below_set ?_ GE294.out | refine below_set ?_ GE301.out | refine below_set ?_ GE307.out | refine below_set ?_ GE312.out | refine below_set ?_ GE316.out) | exact HB.out)⟩⟩
          ·rw [if_neg c195] at H
           have c195b0 : (t305 == a0_0) = false := beq_eq_false_iff_ne.mpr c195
           have c195b1 : (t305 != a0_0) = true := bne_iff_ne.mpr c195
           have H' := Aside0.mk H
           clear H
           have hnb218 := NB301_294.out
           have hnc218 := NB294_301.out
           have hnb219 := NB301_307.out
           have hnc219 := NB307_301.out
           have hnb220 := NB301_312.out
           have hnc220 := NB312_301.out
           have hnb221 := NB301_316.out
           have hnc221 := NB316_301.out
           obtain ⟨hcz222_0, hcz222_1, hcz222_2, hfz222_0, hfz222_1, hfz222_2⟩ := cells3 (w := wc) (g := gb301) BK301.out
           have hnb223 := NB294_307.out
           have hnc223 := NB307_294.out
           have hnb224 := NB294_312.out
           have hnc224 := NB312_294.out
           have hnb225 := NB294_316.out
           have hnc225 := NB316_294.out
           obtain ⟨hcz226_0, hcz226_1, hcz226_2, hfz226_0, hfz226_1, hfz226_2⟩ := cells3 (w := wc) (g := gb294) BK294.out
           go_wp2
           go_meet
           case rel => exact ⟨_, (false), (by first | rfl | (simp; done) | (simp [*]; done)), H', ⟨by have := HJ9.out; first | omega | exact Nat.le_refl _⟩, ⟨by (with_reducible repeat (first | apply kN | apply kD | apply kA)); exact BK294.out⟩, ⟨by (with_reducible repeat (first | apply kN | apply kD | apply kA)); exact BK301.out⟩, ⟨by (with_reducible repeat (first | apply kN | apply kD | apply kA)); exact BK307.out⟩, ⟨by (with_reducible repeat (first | apply kN | apply kD | apply kA)); exact BK312.out⟩, ⟨by (with_reducible repeat (first | apply kN | apply kD | apply kA)); exact BK316.out⟩, ⟨by repeat (first | (with_reducible first | exact HB.out | apply bA | apply bN | apply bD | refine below_set ?_ GE294.out | refine below_set ?_ GE301.out | refine below_set ?_ GE307.out | refine below_set ?_ GE312.out | refine below_set ?_ GE316.out) | exact HB.out)⟩⟩
         ·rw [if_neg c194] at H
          have c194b0 : (t306 == 1) = false := beq_eq_false_iff_ne.mpr c194
          have c194b1 : (t306 != 1) = true := bne_iff_ne.mpr c194
          by_cases c227 : (t302 == a0_0 && (t303 == a0_1 && (t304 == a0_2))) = true
          ·rw [if_pos c227] at H
           have c227b0 : (t302 == a0_0 && (t303 == a0_1 && (t304 == a0_2))) = true := c227
           (try (have c227b1 : decide (t302 = a0_0 && (t303 == a0_1 && (t304 == a0_2))) = true := by simpa using c227))
           (try (have c227b2 : (t302 == a0_0 && (t303 == a0_1 && (t304 == a0_2))) = true := by simpa using c227))
           clear c227
           by_cases c228 : t305 = 0
           ·rw [if_pos c228] at H
            have c228b0 : (t305 == 0) = true := beq_iff_eq.mpr c228
            have c228b1 : (t305 != 0) = false := bne_eq_false_iff_eq.mpr c228
            clear c228
            by_cases c229 : t311 = true
            ·subst c229
             have H1 : (sakialaw08_WordStays.j1 kj9 true) = some r := by rw [if_pos rfl] at H; exact H
             clear H
             have H := H1
             clear H1
             have H' := Aside0.mk H
             clear H
             have hnb230 := NB301_294.out
             have hnc230 := NB294_301.out
             have hnb231 := NB301_307.out
             have hnc231 := NB307_301.out
             have hnb232 := NB301_312.out
             have hnc232 := NB312_301.out
             have hnb233 := NB301_316.out
             have hnc233 := NB316_301.out
             obtain ⟨hcz234_0, hcz234_1, hcz234_2, hfz234_0, hfz234_1, hfz234_2⟩ := cells3 (w := wc) (g := gb301) BK301.out
             have hnb235 := NB294_307.out
             have hnc235 := NB307_294.out
             have hnb236 := NB294_312.out
             have hnc236 := NB312_294.out
             have hnb237 := NB294_316.out
             have hnc237 := NB316_294.out
             obtain ⟨hcz238_0, hcz238_1, hcz238_2, hfz238_0, hfz238_1, hfz238_2⟩ := cells3 (w := wc) (g := gb294) BK294.out
             have hnb239 := NB307_312.out
             have hnc239 := NB312_307.out
             have hnb240 := NB307_316.out
             have hnc240 := NB316_307.out
             obtain ⟨hcz241_0, hcz241_1, hcz241_2, hfz241_0, hfz241_1, hfz241_2⟩ := cells3 (w := wc) (g := gb307) BK307.out
             go_wp2
             go_meet
             case rel => exact ⟨_, (true), (by first | rfl | (simp; done) | (simp [*]; done)), H', ⟨by have := HJ9.out; first | omega | exact Nat.le_refl _⟩, ⟨by (with_reducible repeat (first | apply kN | apply kD | apply kA)); exact BK294.out⟩, ⟨by (with_reducible repeat (first | apply kN | apply kD | apply kA)); exact BK301.out⟩, ⟨by (with_reducible repeat (first | apply kN | apply kD | apply kA)); exact BK307.out⟩, ⟨by (with_reducible repeat (first | apply kN | apply kD | apply kA)); exact BK312.out⟩, ⟨by (with_reducible repeat (first | apply kN | apply kD | apply kA)); exact BK316.out⟩, ⟨by repeat (first | (with_reducible first | exact HB.out | apply bA | apply bN | apply bD | refine below_set ?_ GE294.out | refine below_set ?_ GE301.out | refine below_set ?_ GE307.out | refine below_set ?_ GE312.out | refine below_set ?_ GE316.out) | exact HB.out)⟩⟩
            ·replace c229 := Bool.eq_false_iff.mpr c229
             subst c229
             have H1 : (sakialaw08_WordStays.j1 kj9 (t308 == a0_0 && (t309 == a0_1 && (t310 == a0_2)))) = some r := by rw [if_neg (show ¬ (false = true) by decide)] at H; exact H
             clear H
             have H := H1
             clear H1
             have H' := Aside0.mk H
             clear H
             have hnb242 := NB301_294.out
             have hnc242 := NB294_301.out
             have hnb243 := NB301_307.out
             have hnc243 := NB307_301.out
             have hnb244 := NB301_312.out
             have hnc244 := NB312_301.out
             have hnb245 := NB301_316.out
             have hnc245 := NB316_301.out
             obtain ⟨hcz246_0, hcz246_1, hcz246_2, hfz246_0, hfz246_1, hfz246_2⟩ := cells3 (w := wc) (g := gb301) BK301.out
             have hnb247 := NB294_307.out
             have hnc247 := NB307_294.out
             have hnb248 := NB294_312.out
             have hnc248 := NB312_294.out
             have hnb249 := NB294_316.out
             have hnc249 := NB316_294.out
             obtain ⟨hcz250_0, hcz250_1, hcz250_2, hfz250_0, hfz250_1, hfz250_2⟩ := cells3 (w := wc) (g := gb294) BK294.out
             have hnb251 := NB307_312.out
             have hnc251 := NB312_307.out
             have hnb252 := NB307_316.out
             have hnc252 := NB316_307.out
             obtain ⟨hcz253_0, hcz253_1, hcz253_2, hfz253_0, hfz253_1, hfz253_2⟩ := cells3 (w := wc) (g := gb307) BK307.out
             have hnb254 := NB312_316.out
             have hnc254 := NB316_312.out
             obtain ⟨hcz255_0, hcz255_1, hcz255_2, hfz255_0, hfz255_1, hfz255_2⟩ := cells3 (w := wc) (g := gb312) BK312.out
             go_wp2
             go_meet
             case rel => exact ⟨_, ((t308 == a0_0 && (t309 == a0_1 && (t310 == a0_2)))), (by first | rfl | (simp; done) | (simp [*]; done)), H', ⟨by have := HJ9.out; first | omega | exact Nat.le_refl _⟩, ⟨by (with_reducible repeat (first | apply kN | apply kD | apply kA)); exact BK294.out⟩, ⟨by (with_reducible repeat (first | apply kN | apply kD | apply kA)); exact BK301.out⟩, ⟨by (with_reducible repeat (first | apply kN | apply kD | apply kA)); exact BK307.out⟩, ⟨by (with_reducible repeat (first | apply kN | apply kD | apply kA)); exact BK312.out⟩, ⟨by (with_reducible repeat (first | apply kN | apply kD | apply kA)); exact BK316.out⟩, ⟨by repeat (first | (with_reducible first | exact HB.out | apply bA | apply bN | apply bD | refine below_set ?_ GE294.out | refine below_set ?_ GE301.out | refine below_set ?_ GE307.out | refine below_set ?_ GE312.out | refine below_set ?_ GE316.out) | exact HB.out)⟩⟩
           ·rw [if_neg c228] at H
            have c228b0 : (t305 == 0) = false := beq_eq_false_iff_ne.mpr c228
            have c228b1 : (t305 != 0) = true := bne_iff_ne.mpr c228
            have H' := Aside0.mk H
            clear H
            have hnb256 := NB301_294.out
            have hnc256 := NB294_301.out
            have hnb257 := NB301_307.out
            have hnc257 := NB307_301.out
            have hnb258 := NB301_312.out
            have hnc258 := NB312_301.out
            have hnb259 := NB301_316.out
            have hnc259 := NB316_301.out
            obtain ⟨hcz260_0, hcz260_1, hcz260_2, hfz260_0, hfz260_1, hfz260_2⟩ := cells3 (w := wc) (g := gb301) BK301.out
            have hnb261 := NB294_307.out
            have hnc261 := NB307_294.out
            have hnb262 := NB294_312.out
            have hnc262 := NB312_294.out
            have hnb263 := NB294_316.out
            have hnc263 := NB316_294.out
            obtain ⟨hcz264_0, hcz264_1, hcz264_2, hfz264_0, hfz264_1, hfz264_2⟩ := cells3 (w := wc) (g := gb294) BK294.out
            have hnb265 := NB307_312.out
            have hnc265 := NB312_307.out
            have hnb266 := NB307_316.out
            have hnc266 := NB316_307.out
            obtain ⟨hcz267_0, hcz267_1, hcz267_2, hfz267_0, hfz267_1, hfz267_2⟩ := cells3 (w := wc) (g := gb307) BK307.out
            go_wp2
            go_meet
            case rel => exact ⟨_, (false), (by first | rfl | (simp; done) | (simp [*]; done)), H', ⟨by have := HJ9.out; first | omega | exact Nat.le_refl _⟩, ⟨by (with_reducible repeat (first | apply kN | apply kD | apply kA)); exact BK294.out⟩, ⟨by (with_reducible repeat (first | apply kN | apply kD | apply kA)); exact BK301.out⟩, ⟨by (with_reducible repeat (first | apply kN | apply kD | apply kA)); exact BK307.out⟩, ⟨by (with_reducible repeat (first | apply kN | apply kD | apply kA)); exact BK312.out⟩, ⟨by (with_reducible repeat (first | apply kN | apply kD | apply kA)); exact BK316.out⟩, ⟨by repeat (first | (with_reducible first | exact HB.out | apply bA | apply bN | apply bD | refine below_set ?_ GE294.out | refine below_set ?_ GE301.out | refine below_set ?_ GE307.out | refine below_set ?_ GE312.out | refine below_set ?_ GE316.out) | exact HB.out)⟩⟩
          ·rw [if_neg c227] at H
           have c227b0 : (t302 == a0_0 && (t303 == a0_1 && (t304 == a0_2))) = false := by simpa using c227
           (try (have c227b1 : decide (t302 = a0_0 && (t303 == a0_1 && (t304 == a0_2))) = false := by simpa using c227))
           (try (have c227b2 : (t302 == a0_0 && (t303 == a0_1 && (t304 == a0_2))) = false := by simpa using c227))
           (try (have c227b3 : ¬ (t302 = a0_0 && (t303 == a0_1 && (t304 == a0_2))) := by simpa using c227))
           clear c227
           have H' := Aside0.mk H
           clear H
           have hnb268 := NB301_294.out
           have hnc268 := NB294_301.out
           have hnb269 := NB301_307.out
           have hnc269 := NB307_301.out
           have hnb270 := NB301_312.out
           have hnc270 := NB312_301.out
           have hnb271 := NB301_316.out
           have hnc271 := NB316_301.out
           obtain ⟨hcz272_0, hcz272_1, hcz272_2, hfz272_0, hfz272_1, hfz272_2⟩ := cells3 (w := wc) (g := gb301) BK301.out
           have hnb273 := NB294_307.out
           have hnc273 := NB307_294.out
           have hnb274 := NB294_312.out
           have hnc274 := NB312_294.out
           have hnb275 := NB294_316.out
           have hnc275 := NB316_294.out
           obtain ⟨hcz276_0, hcz276_1, hcz276_2, hfz276_0, hfz276_1, hfz276_2⟩ := cells3 (w := wc) (g := gb294) BK294.out
           have hnb277 := NB307_312.out
           have hnc277 := NB312_307.out
           have hnb278 := NB307_316.out
           have hnc278 := NB316_307.out
           obtain ⟨hcz279_0, hcz279_1, hcz279_2, hfz279_0, hfz279_1, hfz279_2⟩ := cells3 (w := wc) (g := gb307) BK307.out
           go_wp2
           go_meet
           case rel => exact ⟨_, (false), (by first | rfl | (simp; done) | (simp [*]; done)), H', ⟨by have := HJ9.out; first | omega | exact Nat.le_refl _⟩, ⟨by (with_reducible repeat (first | apply kN | apply kD | apply kA)); exact BK294.out⟩, ⟨by (with_reducible repeat (first | apply kN | apply kD | apply kA)); exact BK301.out⟩, ⟨by (with_reducible repeat (first | apply kN | apply kD | apply kA)); exact BK307.out⟩, ⟨by (with_reducible repeat (first | apply kN | apply kD | apply kA)); exact BK312.out⟩, ⟨by (with_reducible repeat (first | apply kN | apply kD | apply kA)); exact BK316.out⟩, ⟨by repeat (first | (with_reducible first | exact HB.out | apply bA | apply bN | apply bD | refine below_set ?_ GE294.out | refine below_set ?_ GE301.out | refine below_set ?_ GE307.out | refine below_set ?_ GE312.out | refine below_set ?_ GE316.out) | exact HB.out)⟩⟩
        ·rw [if_neg c193] at H
         have c193b0 : (t299 == 0) = false := beq_eq_false_iff_ne.mpr c193
         have c193b1 : (t299 != 0) = true := bne_iff_ne.mpr c193
         have H' := Aside0.mk H
         clear H
         have hnb280 := NB301_294.out
         have hnc280 := NB294_301.out
         have hnb281 := NB301_307.out
         have hnc281 := NB307_301.out
         have hnb282 := NB301_312.out
         have hnc282 := NB312_301.out
         have hnb283 := NB301_316.out
         have hnc283 := NB316_301.out
         obtain ⟨hcz284_0, hcz284_1, hcz284_2, hfz284_0, hfz284_1, hfz284_2⟩ := cells3 (w := wc) (g := gb301) BK301.out
         have hnb285 := NB294_307.out
         have hnc285 := NB307_294.out
         have hnb286 := NB294_312.out
         have hnc286 := NB312_294.out
         have hnb287 := NB294_316.out
         have hnc287 := NB316_294.out
         obtain ⟨hcz288_0, hcz288_1, hcz288_2, hfz288_0, hfz288_1, hfz288_2⟩ := cells3 (w := wc) (g := gb294) BK294.out
         go_wp2
         go_meet
         case rel => exact ⟨_, (false), (by first | rfl | (simp; done) | (simp [*]; done)), H', ⟨by have := HJ9.out; first | omega | exact Nat.le_refl _⟩, ⟨by (with_reducible repeat (first | apply kN | apply kD | apply kA)); exact BK294.out⟩, ⟨by (with_reducible repeat (first | apply kN | apply kD | apply kA)); exact BK301.out⟩, ⟨by (with_reducible repeat (first | apply kN | apply kD | apply kA)); exact BK307.out⟩, ⟨by (with_reducible repeat (first | apply kN | apply kD | apply kA)); exact BK312.out⟩, ⟨by (with_reducible repeat (first | apply kN | apply kD | apply kA)); exact BK316.out⟩, ⟨by repeat (first | (with_reducible first | exact HB.out | apply bA | apply bN | apply bD | refine below_set ?_ GE294.out | refine below_set ?_ GE301.out | refine below_set ?_ GE307.out | refine below_set ?_ GE312.out | refine below_set ?_ GE316.out) | exact HB.out)⟩⟩
       ·rw [if_neg c192] at H
        have c192b0 : (t296 == a0_0 && (t297 == a0_1 && (t298 == a0_2))) = false := by simpa using c192
        (try (have c192b1 : decide (t296 = a0_0 && (t297 == a0_1 && (t298 == a0_2))) = false := by simpa using c192))
        (try (have c192b2 : (t296 == a0_0 && (t297 == a0_1 && (t298 == a0_2))) = false := by simpa using c192))
        (try (have c192b3 : ¬ (t296 = a0_0 && (t297 == a0_1 && (t298 == a0_2))) := by simpa using c192))
        clear c192
        have H' := Aside0.mk H
        clear H
        have hnb289 := NB301_294.out
        have hnc289 := NB294_301.out
        have hnb290 := NB301_307.out
        have hnc290 := NB307_301.out
        have hnb291 := NB301_312.out
        have hnc291 := NB312_301.out
        have hnb292 := NB301_316.out
        have hnc292 := NB316_301.out
        obtain ⟨hcz293_0, hcz293_1, hcz293_2, hfz293_0, hfz293_1, hfz293_2⟩ := cells3 (w := wc) (g := gb301) BK301.out
        have hnb294 := NB294_307.out
        have hnc294 := NB307_294.out
        have hnb295 := NB294_312.out
        have hnc295 := NB312_294.out
        have hnb296 := NB294_316.out
        have hnc296 := NB316_294.out
        obtain ⟨hcz297_0, hcz297_1, hcz297_2, hfz297_0, hfz297_1, hfz297_2⟩ := cells3 (w := wc) (g := gb294) BK294.out
        go_wp2
        go_meet
        case rel => exact ⟨_, (false), (by first | rfl | (simp; done) | (simp [*]; done)), H', ⟨by have := HJ9.out; first | omega | exact Nat.le_refl _⟩, ⟨by (with_reducible repeat (first | apply kN | apply kD | apply kA)); exact BK294.out⟩, ⟨by (with_reducible repeat (first | apply kN | apply kD | apply kA)); exact BK301.out⟩, ⟨by (with_reducible repeat (first | apply kN | apply kD | apply kA)); exact BK307.out⟩, ⟨by (with_reducible repeat (first | apply kN | apply kD | apply kA)); exact BK312.out⟩, ⟨by (with_reducible repeat (first | apply kN | apply kD | apply kA)); exact BK316.out⟩, ⟨by repeat (first | (with_reducible first | exact HB.out | apply bA | apply bN | apply bD | refine below_set ?_ GE294.out | refine below_set ?_ GE301.out | refine below_set ?_ GE307.out | refine below_set ?_ GE312.out | refine below_set ?_ GE316.out) | exact HB.out)⟩⟩
     ·replace c120 := Bool.eq_false_iff.mpr c120
      subst c120
      have H1 : (sakialaw08_WordStays.j1 kj9 false) = some r := by rw [if_neg (show ¬ (false = true) by decide)] at H; exact H
      clear H
      have H := H1
      clear H1
      have H' := Aside0.mk H
      clear H
      go_wp2
      go_meet
      case rel => exact ⟨_, (false), (by first | rfl | (simp; done) | (simp [*]; done)), H', ⟨by have := HJ9.out; first | omega | exact Nat.le_refl _⟩, ⟨by (with_reducible repeat (first | apply kN | apply kD | apply kA)); exact BK294.out⟩, ⟨by (with_reducible repeat (first | apply kN | apply kD | apply kA)); exact BK301.out⟩, ⟨by (with_reducible repeat (first | apply kN | apply kD | apply kA)); exact BK307.out⟩, ⟨by (with_reducible repeat (first | apply kN | apply kD | apply kA)); exact BK312.out⟩, ⟨by (with_reducible repeat (first | apply kN | apply kD | apply kA)); exact BK316.out⟩, ⟨by repeat (first | (with_reducible first | exact HB.out | apply bA | apply bN | apply bD | refine below_set ?_ GE294.out | refine below_set ?_ GE301.out | refine below_set ?_ GE307.out | refine below_set ?_ GE312.out | refine below_set ?_ GE316.out) | exact HB.out)⟩⟩
    ·replace c119 := Bool.eq_false_iff.mpr c119
     subst c119
     have H1 : (sakialaw08_WordStays.j1 kj9 false) = some r := by rw [if_neg (show ¬ (false = true) by decide)] at H; exact H
     clear H
     have H := H1
     clear H1
     have H' := Aside0.mk H
     clear H
     go_wp2
     go_meet
     case rel => exact ⟨_, (false), (by first | rfl | (simp; done) | (simp [*]; done)), H', ⟨by have := HJ9.out; first | omega | exact Nat.le_refl _⟩, ⟨by (with_reducible repeat (first | apply kN | apply kD | apply kA)); exact BK294.out⟩, ⟨by (with_reducible repeat (first | apply kN | apply kD | apply kA)); exact BK301.out⟩, ⟨by (with_reducible repeat (first | apply kN | apply kD | apply kA)); exact BK307.out⟩, ⟨by (with_reducible repeat (first | apply kN | apply kD | apply kA)); exact BK312.out⟩, ⟨by (with_reducible repeat (first | apply kN | apply kD | apply kA)); exact BK316.out⟩, ⟨by repeat (first | (with_reducible first | exact HB.out | apply bA | apply bN | apply bD | refine below_set ?_ GE294.out | refine below_set ?_ GE301.out | refine below_set ?_ GE307.out | refine below_set ?_ GE312.out | refine below_set ?_ GE316.out) | exact HB.out)⟩⟩
   case rest =>
    clear HC118
    try clear c1
    try clear c2
    try clear p2
    try clear c11
    try clear c12
    try clear c13
    try clear c14
    try clear c15
    try clear c16
    try clear c17
    try clear c18
    try clear c19
    try clear c20
    try clear c21
    try clear c22
    try clear c23
    try clear c24
    try clear c25
    try clear c26
    try clear c27
    try clear c28
    try clear c29
    try clear c119
    try clear c120
    try clear c121
    try clear c121b0
    try clear c121b1
    try clear c122
    try clear c122b0
    try clear c122b1
    try clear c123
    try clear c123b0
    try clear c123b1
    try clear c124
    try clear c124b0
    try clear c124b1
    try clear c125
    try clear c126
    try clear c127
    try clear c128
    try clear c129
    try clear c131
    try clear c132
    try clear c133
    try clear c134
    try clear c136
    try clear c137
    try clear c138
    try clear c140
    try clear c141
    try clear c142
    try clear c143
    try clear c145
    try clear c145b0
    try clear c145b1
    try clear c145b2
    try clear c146
    try clear c146b0
    try clear c146b1
    try clear c147
    try clear c148
    try clear c149
    try clear c150
    try clear c151
    try clear c153
    try clear c154
    try clear c155
    try clear c157
    try clear c158
    try clear c159
    try clear c160
    try clear c162
    try clear c163
    try clear c164
    try clear c166
    try clear c167
    try clear c169
    try clear c170
    try clear c171
    try clear c172
    try clear c174
    try clear c175
    try clear c176
    try clear c178
    try clear c179
    try clear c180
    try clear c181
    try clear c183
    try clear c184
    try clear c185
    try clear c187
    try clear c188
    try clear c189
    try clear c190
    try clear c192
    try clear c192b0
    try clear c192b1
    try clear c192b2
    try clear c193
    try clear c193b0
    try clear c193b1
    try clear c194
    try clear c194b0
    try clear c194b1
    try clear c195
    try clear c195b0
    try clear c195b1
    try clear c196
    try clear c197
    try clear c198
    try clear c199
    try clear c200
    try clear c202
    try clear c203
    try clear c204
    try clear c206
    try clear c207
    try clear c208
    try clear c209
    try clear c211
    try clear c212
    try clear c213
    try clear c215
    try clear c216
    try clear c218
    try clear c219
    try clear c220
    try clear c221
    try clear c223
    try clear c224
    try clear c225
    try clear c227
    try clear c227b0
    try clear c227b1
    try clear c227b2
    try clear c228
    try clear c228b0
    try clear c228b1
    try clear c229
    try clear c230
    try clear c231
    try clear c232
    try clear c233
    try clear c235
    try clear c236
    try clear c237
    try clear c239
    try clear c240
    try clear c242
    try clear c243
    try clear c244
    try clear c245
    try clear c247
    try clear c248
    try clear c249
    try clear c251
    try clear c252
    try clear c254
    try clear c256
    try clear c257
    try clear c258
    try clear c259
    try clear c261
    try clear c262
    try clear c263
    try clear c265
    try clear c266
    try clear c268
    try clear c269
    try clear c270
    try clear c271
    try clear c273
    try clear c274
    try clear c275
    try clear c277
    try clear c278
    try clear c280
    try clear c281
    try clear c282
    try clear c283
    try clear c285
    try clear c286
    try clear c287
    try clear c289
    try clear c290
    try clear c291
    try clear c292
    try clear c294
    try clear c295
    try clear c296
    try clear hcz130_0
    try clear hcz130_1
    try clear hcz130_2
    try clear hcz135_0
    try clear hcz135_1
    try clear hcz135_2
    try clear hcz139_0
    try clear hcz139_1
    try clear hcz139_2
    try clear hcz144_0
    try clear hcz144_1
    try clear hcz144_2
    try clear hcz152_0
    try clear hcz152_1
    try clear hcz152_2
    try clear hcz156_0
    try clear hcz156_1
    try clear hcz156_2
    try clear hcz161_0
    try clear hcz161_1
    try clear hcz161_2
    try clear hcz165_0
    try clear hcz165_1
    try clear hcz165_2
    try clear hcz168_0
    try clear hcz168_1
    try clear hcz168_2
    try clear hcz173_0
    try clear hcz173_1
    try clear hcz173_2
    try clear hcz177_0
    try clear hcz177_1
    try clear hcz177_2
    try clear hcz182_0
    try clear hcz182_1
    try clear hcz182_2
    try clear hcz186_0
    try clear hcz186_1
    try clear hcz186_2
    try clear hcz191_0
    try clear hcz191_1
    try clear hcz191_2
    try clear hcz201_0
    try clear hcz201_1
    try clear hcz201_2
    try clear hcz205_0
    try clear hcz205_1
    try clear hcz205_2
    try clear hcz210_0
    try clear hcz210_1
    try clear hcz210_2
    try clear hcz214_0
    try clear hcz214_1
    try clear hcz214_2
    try clear hcz217_0
    try clear hcz217_1
    try clear hcz217_2
    try clear hcz222_0
    try clear hcz222_1
    try clear hcz222_2
    try clear hcz226_0
    try clear hcz226_1
    try clear hcz226_2
    try clear hcz234_0
    try clear hcz234_1
    try clear hcz234_2
    try clear hcz238_0
    try clear hcz238_1
    try clear hcz238_2
    try clear hcz241_0
    try clear hcz241_1
    try clear hcz241_2
    try clear hcz246_0
    try clear hcz246_1
    try clear hcz246_2
    try clear hcz250_0
    try clear hcz250_1
    try clear hcz250_2
    try clear hcz253_0
    try clear hcz253_1
    try clear hcz253_2
    try clear hcz255_0
    try clear hcz255_1
    try clear hcz255_2
    try clear hcz260_0
    try clear hcz260_1
    try clear hcz260_2
    try clear hcz264_0
    try clear hcz264_1
    try clear hcz264_2
    try clear hcz267_0
    try clear hcz267_1
    try clear hcz267_2
    try clear hcz272_0
    try clear hcz272_1
    try clear hcz272_2
    try clear hcz276_0
    try clear hcz276_1
    try clear hcz276_2
    try clear hcz279_0
    try clear hcz279_1
    try clear hcz279_2
    try clear hcz284_0
    try clear hcz284_1
    try clear hcz284_2
    try clear hcz288_0
    try clear hcz288_1
    try clear hcz288_2
    try clear hcz293_0
    try clear hcz293_1
    try clear hcz293_2
    try clear hcz297_0
    try clear hcz297_1
    try clear hcz297_2
    try clear hfz130_0
    try clear hfz130_1
    try clear hfz130_2
    try clear hfz135_0
    try clear hfz135_1
    try clear hfz135_2
    try clear hfz139_0
    try clear hfz139_1
    try clear hfz139_2
    try clear hfz144_0
    try clear hfz144_1
    try clear hfz144_2
    try clear hfz152_0
    try clear hfz152_1
    try clear hfz152_2
    try clear hfz156_0
    try clear hfz156_1
    try clear hfz156_2
    try clear hfz161_0
    try clear hfz161_1
    try clear hfz161_2
    try clear hfz165_0
    try clear hfz165_1
    try clear hfz165_2
    try clear hfz168_0
    try clear hfz168_1
    try clear hfz168_2
    try clear hfz173_0
    try clear hfz173_1
    try clear hfz173_2
    try clear hfz177_0
    try clear hfz177_1
    try clear hfz177_2
    try clear hfz182_0
    try clear hfz182_1
    try clear hfz182_2
    try clear hfz186_0
    try clear hfz186_1
    try clear hfz186_2
    try clear hfz191_0
    try clear hfz191_1
    try clear hfz191_2
    try clear hfz201_0
    try clear hfz201_1
    try clear hfz201_2
    try clear hfz205_0
    try clear hfz205_1
    try clear hfz205_2
    try clear hfz210_0
    try clear hfz210_1
    try clear hfz210_2
    try clear hfz214_0
    try clear hfz214_1
    try clear hfz214_2
    try clear hfz217_0
    try clear hfz217_1
    try clear hfz217_2
    try clear hfz222_0
    try clear hfz222_1
    try clear hfz222_2
    try clear hfz226_0
    try clear hfz226_1
    try clear hfz226_2
    try clear hfz234_0
    try clear hfz234_1
    try clear hfz234_2
    try clear hfz238_0
    try clear hfz238_1
    try clear hfz238_2
    try clear hfz241_0
    try clear hfz241_1
    try clear hfz241_2
    try clear hfz246_0
    try clear hfz246_1
    try clear hfz246_2
    try clear hfz250_0
    try clear hfz250_1
    try clear hfz250_2
    try clear hfz253_0
    try clear hfz253_1
    try clear hfz253_2
    try clear hfz255_0
    try clear hfz255_1
    try clear hfz255_2
    try clear hfz260_0
    try clear hfz260_1
    try clear hfz260_2
    try clear hfz264_0
    try clear hfz264_1
    try clear hfz264_2
    try clear hfz267_0
    try clear hfz267_1
    try clear hfz267_2
    try clear hfz272_0
    try clear hfz272_1
    try clear hfz272_2
    try clear hfz276_0
    try clear hfz276_1
    try clear hfz276_2
    try clear hfz279_0
    try clear hfz279_1
    try clear hfz279_2
    try clear hfz284_0
    try clear hfz284_1
    try clear hfz284_2
    try clear hfz288_0
    try clear hfz288_1
    try clear hfz288_2
    try clear hfz293_0
    try clear hfz293_1
    try clear hfz293_2
    try clear hfz297_0
    try clear hfz297_1
    try clear hfz297_2
    try clear hfz66_1
    try clear hfz66_2
    try clear hfz72_0
    try clear hfz72_1
    try clear hfz72_2
    try clear hfz77_0
    try clear hfz77_1
    try clear hfz77_2
    try clear hfz81_0
    try clear hfz81_1
    try clear hfz81_2
    try clear hfz84_0
    try clear hfz84_1
    try clear hfz84_2
    try clear hfz90_0
    try clear hfz90_1
    try clear hfz90_2
    try clear hfz95_0
    try clear hfz95_1
    try clear hfz95_2
    try clear hfz99_0
    try clear hfz99_1
    try clear hfz99_2
    obtain ⟨kq, x8_117, rfl, HA, HJ117, BK294, BK301, BK307, BK312, BK316, HB⟩ := hcut
    cases kq with
    | zero => exact absurd HA.out (by simp [sakialaw08_WordStays.j1])
    | succ kj117 =>
     have H := HA.out
     clear HA
     simp only [sakialaw08_WordStays.j1] at H
     obtain rfl := Option.some.inj H
     go_wp2
     go_ret
     exact ⟨by first | rfl | (simp [errW_none, errW_some] <;> rfl) | (simp [*, errW_none, errW_some] <;> rfl), by repeat (first | (with_reducible first | exact HB.out | apply bA | apply bN | apply bD | refine below_set ?_ GE294.out | refine below_set ?_ GE301.out | refine below_set ?_ GE307.out | refine below_set ?_ GE312.out | refine below_set ?_ GE316.out) | exact HB.out)⟩

/-- THE ONE PURE STATEMENT of sakialaw08_WordStays. -/
def sakialaw08_WordStays.Pure : Prop := ∀ (a0_0 : Int) (a0_1 : Int) (a0_2 : Int) (a1 : Int) (a2 : Int) (a3 : Int), good23 (⟨a0_0, a0_1, a0_2⟩ : S23) → (Lit.int .i64 a1).wf = true → (Lit.int .i64 a2).wf = true → (Lit.int .i64 a3).wf = true → ∃ k, sakialaw08_WordStays.f k a0_0 a0_1 a0_2 a1 a2 a3 = some true

end Go.Proofs.Ytcmiijdkmfdpnaa.PL
