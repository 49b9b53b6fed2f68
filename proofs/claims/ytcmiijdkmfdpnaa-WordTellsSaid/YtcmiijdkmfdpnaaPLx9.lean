-- written by this repo's pp.py (the kit's print, turned by wip/patches.py)
import Derived.Test.YtcmiijdkmfdpnaaPLx0
import Derived.Test.YtcmiijdkmfdpnaaPLx1
import Derived.Test.YtcmiijdkmfdpnaaPLx3
import Derived.Test.YtcmiijdkmfdpnaaPLx4
import Derived.Test.YtcmiijdkmfdpnaaPLx5
import Derived.Test.YtcmiijdkmfdpnaaPLx6
import Derived.Test.YtcmiijdkmfdpnaaPLx7
import Derived.Test.YtcmiijdkmfdpnaaPLx8
namespace Go.Proofs.Ytcmiijdkmfdpnaa.PL
open Go.RowKit Go.Proofs.YtcmiijdkmfdpnaaW.PrintWords Go.Proofs.YtcmiijdkmfdpnaaW.PrintLast Go.Proofs.YtcmiijdkmfdpnaaW.PrintMore
attribute [local go_sem] max2_int min2_int max_two min_two max_three min_three max_four min_four   -- for this text's walks alone
set_option linter.unusedVariables false
set_option linter.unusedSimpArgs false

attribute [local go_sem high] eqA23
/-! ### sakialaw08_WordTells: function 3 -/
def sakialaw08_WordTells.f (k : Nat) (a0_0 : Int) (a0_1 : Int) (a0_2 : Int) (a1 : Int) (a2 : Int) (a3 : Int) : Option (Bool) := (sakialaw08_awake.f k).bind fun t251 => ((word_Accept.f k a0_0 a0_1 a0_2 a1).bind fun bt252 => ((sakiaref08_Accept.f k a0_0 a0_1 a0_2 a1).bind fun bt258 => ((word_Take.f k a0_0 a0_1 a0_2 a1).bind fun bt264 => ((sakiaref08_Take.f k a0_0 a0_1 a0_2 a1).bind fun bt270 => ((word_Evict.f k a0_0 a0_1 a0_2 a1 a2).bind fun bt276 => ((sakiaref08_Evict.f a0_0 a0_1 a0_2 a1 a2).bind fun bt281 => ((word_Sees.f k a0_0 a0_1 a0_2 a1).bind fun bt286 => (if t251 = true then (if (bt252.1 == bt258.1 && (bt252.2.1 == bt258.2.1 && (bt252.2.2.1 == bt258.2.2.1))) = true then (if bt252.2.2.2.1 = bt258.2.2.2.1 then (if bt252.2.2.2.2 = bt258.2.2.2.2 then (if (bt264.1 == bt270.1 && (bt264.2.1 == bt270.2.1 && (bt264.2.2.1 == bt270.2.2.1))) = true then (if bt264.2.2.2.1 = bt270.2.2.2.1 then (if bt264.2.2.2.2 = bt270.2.2.2.2 then (if (bt276.1 == bt281.1 && (bt276.2.1 == bt281.2.1 && (bt276.2.2.1 == bt281.2.2.1))) = true then (if (bt276.2.2.2 == bt281.2.2.2) = true then ((word_Close.f a0_0 a0_1 a0_2 a3).bind fun bt288 => ((sakiaref08_Close.f a0_0 a0_1 a0_2 a3).bind fun bt291 => (if (bt288.1 == bt291.1 && (bt288.2.1 == bt291.2.1 && (bt288.2.2 == bt291.2.2))) = true then (if bt286.1 = bt258.2.2.2.2 then (some (bt286.2 == bt270.2.2.2.2)) else (some false)) else (some false)))) else (some false)) else (some false)) else (some false)) else (some false)) else (some false)) else (some false)) else (some false)) else (some false)) else (some false)))))))))
theorem sakialaw08_WordTells.mono : ∀ a0 a1 a2 a3 a4 a5 k, LeO (sakialaw08_WordTells.f k a0 a1 a2 a3 a4 a5) (sakialaw08_WordTells.f (k + 1) a0 a1 a2 a3 a4 a5) := by
 intro a0 a1 a2 a3 a4 a5 k
 unfold sakialaw08_WordTells.f
 repeat' first
   | (with_reducible exact sakialaw08_awake.mono _)
   | (with_reducible exact sakiaref08_Accept.mono _ _ _ _ _)
   | (with_reducible exact sakiaref08_Take.mono _ _ _ _ _)
   | (with_reducible exact word_Accept.mono _ _ _ _ _)
   | (with_reducible exact word_Evict.mono _ _ _ _ _ _)
   | (with_reducible exact word_Sees.mono _ _ _ _ _)
   | (with_reducible exact word_Take.mono _ _ _ _ _)
   | (with_reducible exact LeO.refl _)
   | (with_reducible exact LeO.none _)
   | (with_reducible refine LeO.ite ?_ ?_)
   | (with_reducible refine LeO.bind ?_ (fun _ => ?_))
   | exact sakialaw08_awake.mono _
   | exact sakiaref08_Accept.mono _ _ _ _ _
   | exact sakiaref08_Take.mono _ _ _ _ _
   | exact word_Accept.mono _ _ _ _ _
   | exact word_Evict.mono _ _ _ _ _ _
   | exact word_Sees.mono _ _ _ _ _
   | exact word_Take.mono _ _ _ _ _
   | exact LeO.none _
   | refine LeO.ite ?_ ?_
   | refine LeO.bind ?_ (fun _ => ?_)
def sakialaw08_WordTells.T9 : Bool × List (List Nat × List Nat) := (true, [([], []), ([0], [0]), ([1], [1]), ([1], [1]), ([2, 3, 1], [1, 2, 3]), ([1, 4], [1, 4]), ([5, 1], [5]), ([6], [6]), ([6], [6]), ([7, 8, 6], [6, 7, 8]), ([6, 9], [6, 9]), ([10, 6], [10]), ([11], [11]), ([11], [11]), ([12, 13, 11], [11, 12, 13]), ([11, 14], [11, 14]), ([15, 11], [15]), ([16], [16]), ([16], [16]), ([17, 18, 16], [16, 17, 18]), ([16, 19], [16, 19]), ([20, 16], [20]), ([21], [21]), ([21], [21]), ([22, 23, 21], [21, 22, 23]), ([21, 24], [21, 24]), ([25, 21], [25]), ([26], [26]), ([26], [26]), ([27, 28, 26], [26, 27, 28]), ([26, 29], [26, 29]), ([30, 26], [30]), ([31], [31]), ([31], [31]), ([32, 33, 31], [31, 32, 33]), ([31, 34], [31, 34]), ([35, 31], [35]), ([36], [36]), ([36], [36]), ([37, 38, 36], [36, 37, 38]), ([36, 39], [36, 39]), ([40, 36], [40]), ([41], [41]), ([41], [41]), ([42, 43, 41, 41], [41, 42, 43]), ([41], [41]), ([41], [41]), ([45, 46, 44, 41], [41, 45, 46]), ([44, 47, 41], [41, 44, 47]), ([41, 48], [41, 48]), ([49, 47], [49]), ([50], [50]), ([50], [50]), ([51, 52, 50], [50, 51, 52]), ([50, 53], [50, 53]), ([54, 50], [54]), ([55], [55]), ([55], [55]), ([56, 57, 55], [55, 56, 57]), ([55, 58], [55, 58]), ([59, 55, 0, 1, 2, 3, 4, 5, 6, 7, 8, 9, 10, 11, 12, 13, 14, 15, 16, 17, 18, 19, 20, 21, 22, 23, 24, 25, 26, 27, 28, 29, 30, 31, 32, 33, 34, 35, 36, 37, 38, 39, 40, 41, 42, 43, 44, 45, 46, 47, 48, 49, 50, 51, 52, 53, 54, 55, 56, 57, 58, 59], [59])])
def sakialaw08_WordTells.B9 : List Nat := [0, 1, 3, 3, 15, 31, 63, 127, 127, 511, 1023, 2047, 4095, 4095, 16383, 32767, 65535, 131071, 131071, 524287, 1048575, 2097151, 4194303, 4194303, 16777215, 33554431, 67108863, 134217727, 134217727, 536870911, 1073741823, 2147483647, 4294967295, 4294967295, 17179869183, 34359738367, 68719476735, 137438953471, 137438953471, 549755813887, 1099511627775, 2199023255551, 4398046511103, 4398046511103, 17592186044415, 4398046511103, 4398046511103, 140737488355327, 281474976710655, 562949953421311, 1125899906842623, 2251799813685247, 2251799813685247, 9007199254740991, 18014398509481983, 36028797018963967, 72057594037927935, 72057594037927935, 288230376151711743, 576460752303423487, 1152921504606846975]
theorem sakialaw08_WordTells.tab9 : rtab .any (opsOf Try.f3 9) = sakialaw08_WordTells.T9 := by kernel_rfl
theorem sakialaw08_WordTells.bits9 : waitsOk sakialaw08_WordTells.T9.2 sakialaw08_WordTells.B9 = true := by kernel_rfl
set_option maxHeartbeats 8000000 in
set_option maxRecDepth 100000 in
theorem sakialaw08_WordTells.calls (k : Nat) (a0_0 : Int) (a0_1 : Int) (a0_2 : Int) (a1 : Int) (a2 : Int) (a3 : Int) (r : Bool) (w : World) (hr_ : r = true) (h : sakialaw08_WordTells.f k a0_0 a0_1 a0_2 a1 a2 a3 = some r) :
  Calls Try.prog 3 #[.agg #[.int .i64 a0_0, .int .i64 a0_1, .int .i64 a0_2], .int .i64 a1, .int .i64 a2, .int .i64 a3] w fun e w' => e = .returned (.bool r) ∧ Below w.heap.size w w' := by
 have hu23 := Try.underlying23
 have HB := Aside0.mk (Below.refl w.heap.size w)
 have HR_ := Aside0.mk hr_
 clear hr_
 have H : ((sakialaw08_awake.f k).bind fun t251 => ((word_Accept.f k a0_0 a0_1 a0_2 a1).bind fun bt252 => ((sakiaref08_Accept.f k a0_0 a0_1 a0_2 a1).bind fun bt258 => ((word_Take.f k a0_0 a0_1 a0_2 a1).bind fun bt264 => ((sakiaref08_Take.f k a0_0 a0_1 a0_2 a1).bind fun bt270 => ((word_Evict.f k a0_0 a0_1 a0_2 a1 a2).bind fun bt276 => ((sakiaref08_Evict.f a0_0 a0_1 a0_2 a1 a2).bind fun bt281 => ((word_Sees.f k a0_0 a0_1 a0_2 a1).bind fun bt286 => (if t251 = true then (if (bt252.1 == bt258.1 && (bt252.2.1 == bt258.2.1 && (bt252.2.2.1 == bt258.2.2.1))) = true then (if bt252.2.2.2.1 = bt258.2.2.2.1 then (if bt252.2.2.2.2 = bt258.2.2.2.2 then (if (bt264.1 == bt270.1 && (bt264.2.1 == bt270.2.1 && (bt264.2.2.1 == bt270.2.2.1))) = true then (if bt264.2.2.2.1 = bt270.2.2.2.1 then (if bt264.2.2.2.2 = bt270.2.2.2.2 then (if (bt276.1 == bt281.1 && (bt276.2.1 == bt281.2.1 && (bt276.2.2.1 == bt281.2.2.1))) = true then (if (bt276.2.2.2 == bt281.2.2.2) = true then ((word_Close.f a0_0 a0_1 a0_2 a3).bind fun bt288 => ((sakiaref08_Close.f a0_0 a0_1 a0_2 a3).bind fun bt291 => (if (bt288.1 == bt291.1 && (bt288.2.1 == bt291.2.1 && (bt288.2.2 == bt291.2.2))) = true then (if bt286.1 = bt258.2.2.2.2 then (some (bt286.2 == bt270.2.2.2.2)) else (some false)) else (some false)))) else (some false)) else (some false)) else (some false)) else (some false)) else (some false)) else (some false)) else (some false)) else (some false)) else (some false)))))))))) = some r := h
 clear h
 replace H := Option.bind_eq_some_iff.mp H
 obtain ⟨t251, A50, H⟩ := H
 replace H : ((word_Accept.f k a0_0 a0_1 a0_2 a1).bind fun bt252 => ((sakiaref08_Accept.f k a0_0 a0_1 a0_2 a1).bind fun bt258 => ((word_Take.f k a0_0 a0_1 a0_2 a1).bind fun bt264 => ((sakiaref08_Take.f k a0_0 a0_1 a0_2 a1).bind fun bt270 => ((word_Evict.f k a0_0 a0_1 a0_2 a1 a2).bind fun bt276 => ((sakiaref08_Evict.f a0_0 a0_1 a0_2 a1 a2).bind fun bt281 => ((word_Sees.f k a0_0 a0_1 a0_2 a1).bind fun bt286 => (if t251 = true then (if (bt252.1 == bt258.1 && (bt252.2.1 == bt258.2.1 && (bt252.2.2.1 == bt258.2.2.1))) = true then (if bt252.2.2.2.1 = bt258.2.2.2.1 then (if bt252.2.2.2.2 = bt258.2.2.2.2 then (if (bt264.1 == bt270.1 && (bt264.2.1 == bt270.2.1 && (bt264.2.2.1 == bt270.2.2.1))) = true then (if bt264.2.2.2.1 = bt270.2.2.2.1 then (if bt264.2.2.2.2 = bt270.2.2.2.2 then (if (bt276.1 == bt281.1 && (bt276.2.1 == bt281.2.1 && (bt276.2.2.1 == bt281.2.2.1))) = true then (if (bt276.2.2.2 == bt281.2.2.2) = true then ((word_Close.f a0_0 a0_1 a0_2 a3).bind fun bt288 => ((sakiaref08_Close.f a0_0 a0_1 a0_2 a3).bind fun bt291 => (if (bt288.1 == bt291.1 && (bt288.2.1 == bt291.2.1 && (bt288.2.2 == bt291.2.2))) = true then (if bt286.1 = bt258.2.2.2.2 then (some (bt286.2 == bt270.2.2.2.2)) else (some false)) else (some false)))) else (some false)) else (some false)) else (some false)) else (some false)) else (some false)) else (some false)) else (some false)) else (some false)) else (some false))))))))) = some r := H
 have A5 := Aside0.mk A50
 clear A50
 replace H := Option.bind_eq_some_iff.mp H
 obtain ⟨⟨t252, t253, t254, t255, t256⟩, A60, H⟩ := H
 replace H : ((sakiaref08_Accept.f k a0_0 a0_1 a0_2 a1).bind fun bt258 => ((word_Take.f k a0_0 a0_1 a0_2 a1).bind fun bt264 => ((sakiaref08_Take.f k a0_0 a0_1 a0_2 a1).bind fun bt270 => ((word_Evict.f k a0_0 a0_1 a0_2 a1 a2).bind fun bt276 => ((sakiaref08_Evict.f a0_0 a0_1 a0_2 a1 a2).bind fun bt281 => ((word_Sees.f k a0_0 a0_1 a0_2 a1).bind fun bt286 => (if t251 = true then (if (t252 == bt258.1 && (t253 == bt258.2.1 && (t254 == bt258.2.2.1))) = true then (if t255 = bt258.2.2.2.1 then (if t256 = bt258.2.2.2.2 then (if (bt264.1 == bt270.1 && (bt264.2.1 == bt270.2.1 && (bt264.2.2.1 == bt270.2.2.1))) = true then (if bt264.2.2.2.1 = bt270.2.2.2.1 then (if bt264.2.2.2.2 = bt270.2.2.2.2 then (if (bt276.1 == bt281.1 && (bt276.2.1 == bt281.2.1 && (bt276.2.2.1 == bt281.2.2.1))) = true then (if (bt276.2.2.2 == bt281.2.2.2) = true then ((word_Close.f a0_0 a0_1 a0_2 a3).bind fun bt288 => ((sakiaref08_Close.f a0_0 a0_1 a0_2 a3).bind fun bt291 => (if (bt288.1 == bt291.1 && (bt288.2.1 == bt291.2.1 && (bt288.2.2 == bt291.2.2))) = true then (if bt286.1 = bt258.2.2.2.2 then (some (bt286.2 == bt270.2.2.2.2)) else (some false)) else (some false)))) else (some false)) else (some false)) else (some false)) else (some false)) else (some false)) else (some false)) else (some false)) else (some false)) else (some false)))))))) = some r := H
 have A6 := Aside0.mk A60
 clear A60
 replace H := Option.bind_eq_some_iff.mp H
 obtain ⟨⟨t258, t259, t260, t261, t262⟩, A70, H⟩ := H
 replace H : ((word_Take.f k a0_0 a0_1 a0_2 a1).bind fun bt264 => ((sakiaref08_Take.f k a0_0 a0_1 a0_2 a1).bind fun bt270 => ((word_Evict.f k a0_0 a0_1 a0_2 a1 a2).bind fun bt276 => ((sakiaref08_Evict.f a0_0 a0_1 a0_2 a1 a2).bind fun bt281 => ((word_Sees.f k a0_0 a0_1 a0_2 a1).bind fun bt286 => (if t251 = true then (if (t252 == t258 && (t253 == t259 && (t254 == t260))) = true then (if t255 = t261 then (if t256 = t262 then (if (bt264.1 == bt270.1 && (bt264.2.1 == bt270.2.1 && (bt264.2.2.1 == bt270.2.2.1))) = true then (if bt264.2.2.2.1 = bt270.2.2.2.1 then (if bt264.2.2.2.2 = bt270.2.2.2.2 then (if (bt276.1 == bt281.1 && (bt276.2.1 == bt281.2.1 && (bt276.2.2.1 == bt281.2.2.1))) = true then (if (bt276.2.2.2 == bt281.2.2.2) = true then ((word_Close.f a0_0 a0_1 a0_2 a3).bind fun bt288 => ((sakiaref08_Close.f a0_0 a0_1 a0_2 a3).bind fun bt291 => (if (bt288.1 == bt291.1 && (bt288.2.1 == bt291.2.1 && (bt288.2.2 == bt291.2.2))) = true then (if bt286.1 = t262 then (some (bt286.2 == bt270.2.2.2.2)) else (some false)) else (some false)))) else (some false)) else (some false)) else (some false)) else (some false)) else (some false)) else (some false)) else (some false)) else (some false)) else (some false))))))) = some r := H
 have A7 := Aside0.mk A70
 clear A70
 replace H := Option.bind_eq_some_iff.mp H
 obtain ⟨⟨t264, t265, t266, t267, t268⟩, A80, H⟩ := H
 replace H : ((sakiaref08_Take.f k a0_0 a0_1 a0_2 a1).bind fun bt270 => ((word_Evict.f k a0_0 a0_1 a0_2 a1 a2).bind fun bt276 => ((sakiaref08_Evict.f a0_0 a0_1 a0_2 a1 a2).bind fun bt281 => ((word_Sees.f k a0_0 a0_1 a0_2 a1).bind fun bt286 => (if t251 = true then (if (t252 == t258 && (t253 == t259 && (t254 == t260))) = true then (if t255 = t261 then (if t256 = t262 then (if (t264 == bt270.1 && (t265 == bt270.2.1 && (t266 == bt270.2.2.1))) = true then (if t267 = bt270.2.2.2.1 then (if t268 = bt270.2.2.2.2 then (if (bt276.1 == bt281.1 && (bt276.2.1 == bt281.2.1 && (bt276.2.2.1 == bt281.2.2.1))) = true then (if (bt276.2.2.2 == bt281.2.2.2) = true then ((word_Close.f a0_0 a0_1 a0_2 a3).bind fun bt288 => ((sakiaref08_Close.f a0_0 a0_1 a0_2 a3).bind fun bt291 => (if (bt288.1 == bt291.1 && (bt288.2.1 == bt291.2.1 && (bt288.2.2 == bt291.2.2))) = true then (if bt286.1 = t262 then (some (bt286.2 == bt270.2.2.2.2)) else (some false)) else (some false)))) else (some false)) else (some false)) else (some false)) else (some false)) else (some false)) else (some false)) else (some false)) else (some false)) else (some false)))))) = some r := H
 have A8 := Aside0.mk A80
 clear A80
 replace H := Option.bind_eq_some_iff.mp H
 obtain ⟨⟨t270, t271, t272, t273, t274⟩, A90, H⟩ := H
 replace H : ((word_Evict.f k a0_0 a0_1 a0_2 a1 a2).bind fun bt276 => ((sakiaref08_Evict.f a0_0 a0_1 a0_2 a1 a2).bind fun bt281 => ((word_Sees.f k a0_0 a0_1 a0_2 a1).bind fun bt286 => (if t251 = true then (if (t252 == t258 && (t253 == t259 && (t254 == t260))) = true then (if t255 = t261 then (if t256 = t262 then (if (t264 == t270 && (t265 == t271 && (t266 == t272))) = true then (if t267 = t273 then (if t268 = t274 then (if (bt276.1 == bt281.1 && (bt276.2.1 == bt281.2.1 && (bt276.2.2.1 == bt281.2.2.1))) = true then (if (bt276.2.2.2 == bt281.2.2.2) = true then ((word_Close.f a0_0 a0_1 a0_2 a3).bind fun bt288 => ((sakiaref08_Close.f a0_0 a0_1 a0_2 a3).bind fun bt291 => (if (bt288.1 == bt291.1 && (bt288.2.1 == bt291.2.1 && (bt288.2.2 == bt291.2.2))) = true then (if bt286.1 = t262 then (some (bt286.2 == t274)) else (some false)) else (some false)))) else (some false)) else (some false)) else (some false)) else (some false)) else (some false)) else (some false)) else (some false)) else (some false)) else (some false))))) = some r := H
 have A9 := Aside0.mk A90
 clear A90
 replace H := Option.bind_eq_some_iff.mp H
 obtain ⟨⟨t276, t277, t278, t279⟩, A100, H⟩ := H
 replace H : ((sakiaref08_Evict.f a0_0 a0_1 a0_2 a1 a2).bind fun bt281 => ((word_Sees.f k a0_0 a0_1 a0_2 a1).bind fun bt286 => (if t251 = true then (if (t252 == t258 && (t253 == t259 && (t254 == t260))) = true then (if t255 = t261 then (if t256 = t262 then (if (t264 == t270 && (t265 == t271 && (t266 == t272))) = true then (if t267 = t273 then (if t268 = t274 then (if (t276 == bt281.1 && (t277 == bt281.2.1 && (t278 == bt281.2.2.1))) = true then (if (t279 == bt281.2.2.2) = true then ((word_Close.f a0_0 a0_1 a0_2 a3).bind fun bt288 => ((sakiaref08_Close.f a0_0 a0_1 a0_2 a3).bind fun bt291 => (if (bt288.1 == bt291.1 && (bt288.2.1 == bt291.2.1 && (bt288.2.2 == bt291.2.2))) = true then (if bt286.1 = t262 then (some (bt286.2 == t274)) else (some false)) else (some false)))) else (some false)) else (some false)) else (some false)) else (some false)) else (some false)) else (some false)) else (some false)) else (some false)) else (some false)))) = some r := H
 have A10 := Aside0.mk A100
 clear A100
 replace H := Option.bind_eq_some_iff.mp H
 obtain ⟨⟨t281, t282, t283, t284⟩, A110, H⟩ := H
 replace H : ((word_Sees.f k a0_0 a0_1 a0_2 a1).bind fun bt286 => (if t251 = true then (if (t252 == t258 && (t253 == t259 && (t254 == t260))) = true then (if t255 = t261 then (if t256 = t262 then (if (t264 == t270 && (t265 == t271 && (t266 == t272))) = true then (if t267 = t273 then (if t268 = t274 then (if (t276 == t281 && (t277 == t282 && (t278 == t283))) = true then (if (t279 == t284) = true then ((word_Close.f a0_0 a0_1 a0_2 a3).bind fun bt288 => ((sakiaref08_Close.f a0_0 a0_1 a0_2 a3).bind fun bt291 => (if (bt288.1 == bt291.1 && (bt288.2.1 == bt291.2.1 && (bt288.2.2 == bt291.2.2))) = true then (if bt286.1 = t262 then (some (bt286.2 == t274)) else (some false)) else (some false)))) else (some false)) else (some false)) else (some false)) else (some false)) else (some false)) else (some false)) else (some false)) else (some false)) else (some false))) = some r := H
 have A11 := Aside0.mk A110
 clear A110
 replace H := Option.bind_eq_some_iff.mp H
 obtain ⟨⟨t286, t287⟩, A120, H⟩ := H
 replace H : (if t251 = true then (if (t252 == t258 && (t253 == t259 && (t254 == t260))) = true then (if t255 = t261 then (if t256 = t262 then (if (t264 == t270 && (t265 == t271 && (t266 == t272))) = true then (if t267 = t273 then (if t268 = t274 then (if (t276 == t281 && (t277 == t282 && (t278 == t283))) = true then (if (t279 == t284) = true then ((word_Close.f a0_0 a0_1 a0_2 a3).bind fun bt288 => ((sakiaref08_Close.f a0_0 a0_1 a0_2 a3).bind fun bt291 => (if (bt288.1 == bt291.1 && (bt288.2.1 == bt291.2.1 && (bt288.2.2 == bt291.2.2))) = true then (if t286 = t262 then (some (t287 == t274)) else (some false)) else (some false)))) else (some false)) else (some false)) else (some false)) else (some false)) else (some false)) else (some false)) else (some false)) else (some false)) else (some false)) = some r := H
 have A12 := Aside0.mk A120
 clear A120
 by_cases c13 : t251 = true
 ·subst c13
  have H1 : (if (t252 == t258 && (t253 == t259 && (t254 == t260))) = true then (if t255 = t261 then (if t256 = t262 then (if (t264 == t270 && (t265 == t271 && (t266 == t272))) = true then (if t267 = t273 then (if t268 = t274 then (if (t276 == t281 && (t277 == t282 && (t278 == t283))) = true then (if (t279 == t284) = true then ((word_Close.f a0_0 a0_1 a0_2 a3).bind fun bt288 => ((sakiaref08_Close.f a0_0 a0_1 a0_2 a3).bind fun bt291 => (if (bt288.1 == bt291.1 && (bt288.2.1 == bt291.2.1 && (bt288.2.2 == bt291.2.2))) = true then (if t286 = t262 then (some (t287 == t274)) else (some false)) else (some false)))) else (some false)) else (some false)) else (some false)) else (some false)) else (some false)) else (some false)) else (some false)) else (some false)) = some r := by rw [if_pos rfl] at H; exact H
  clear H
  have H := H1
  clear H1
  by_cases c14 : (t252 == t258 && (t253 == t259 && (t254 == t260))) = true
  ·rw [if_pos c14] at H
   have c14b0 : (t252 == t258 && (t253 == t259 && (t254 == t260))) = true := c14
   (try (have c14b1 : decide (t252 = t258 && (t253 == t259 && (t254 == t260))) = true := by simpa using c14))
   (try (have c14b2 : (t252 == t258 && (t253 == t259 && (t254 == t260))) = true := by simpa using c14))
   clear c14
   by_cases c15 : t255 = t261
   ·rw [if_pos c15] at H
    have c15b0 : (t255 == t261) = true := beq_iff_eq.mpr c15
    have c15b1 : (t255 != t261) = false := bne_eq_false_iff_eq.mpr c15
    clear c15
    by_cases c16 : t256 = t262
    ·rw [if_pos c16] at H
     have c16b0 : (t256 == t262) = true := beq_iff_eq.mpr c16
     have c16b1 : (t256 != t262) = false := bne_eq_false_iff_eq.mpr c16
     clear c16
     by_cases c17 : (t264 == t270 && (t265 == t271 && (t266 == t272))) = true
     ·rw [if_pos c17] at H
      have c17b0 : (t264 == t270 && (t265 == t271 && (t266 == t272))) = true := c17
      (try (have c17b1 : decide (t264 = t270 && (t265 == t271 && (t266 == t272))) = true := by simpa using c17))
      (try (have c17b2 : (t264 == t270 && (t265 == t271 && (t266 == t272))) = true := by simpa using c17))
      clear c17
      by_cases c18 : t267 = t273
      ·rw [if_pos c18] at H
       have c18b0 : (t267 == t273) = true := beq_iff_eq.mpr c18
       have c18b1 : (t267 != t273) = false := bne_eq_false_iff_eq.mpr c18
       clear c18
       by_cases c19 : t268 = t274
       ·rw [if_pos c19] at H
        have c19b0 : (t268 == t274) = true := beq_iff_eq.mpr c19
        have c19b1 : (t268 != t274) = false := bne_eq_false_iff_eq.mpr c19
        clear c19
        by_cases c20 : (t276 == t281 && (t277 == t282 && (t278 == t283))) = true
        ·rw [if_pos c20] at H
         have c20b0 : (t276 == t281 && (t277 == t282 && (t278 == t283))) = true := c20
         (try (have c20b1 : decide (t276 = t281 && (t277 == t282 && (t278 == t283))) = true := by simpa using c20))
         (try (have c20b2 : (t276 == t281 && (t277 == t282 && (t278 == t283))) = true := by simpa using c20))
         clear c20
         by_cases c21 : (t279 == t284) = true
         ·rw [if_pos c21] at H
          have c21b0 : (t279 == t284) = true := c21
          (try (have c21b1 : decide (t279 = t284) = true := by simpa using c21))
          (try (have c21b2 : (t279 == t284) = true := by simpa using c21))
          clear c21
          replace H := Option.bind_eq_some_iff.mp H
          obtain ⟨⟨t288, t289, t290⟩, A220, H⟩ := H
          replace H : ((sakiaref08_Close.f a0_0 a0_1 a0_2 a3).bind fun bt291 => (if (t288 == bt291.1 && (t289 == bt291.2.1 && (t290 == bt291.2.2))) = true then (if t286 = t262 then (some (t287 == t274)) else (some false)) else (some false))) = some r := H
          have A22 := Aside0.mk A220
          clear A220
          replace H := Option.bind_eq_some_iff.mp H
          obtain ⟨⟨t291, t292, t293⟩, A230, H⟩ := H
          replace H : (if (t288 == t291 && (t289 == t292 && (t290 == t293))) = true then (if t286 = t262 then (some (t287 == t274)) else (some false)) else (some false)) = some r := H
          have A23 := Aside0.mk A230
          clear A230
          by_cases c24 : (t288 == t291 && (t289 == t292 && (t290 == t293))) = true
          ·rw [if_pos c24] at H
           have c24b0 : (t288 == t291 && (t289 == t292 && (t290 == t293))) = true := c24
           (try (have c24b1 : decide (t288 = t291 && (t289 == t292 && (t290 == t293))) = true := by simpa using c24))
           (try (have c24b2 : (t288 == t291 && (t289 == t292 && (t290 == t293))) = true := by simpa using c24))
           clear c24
           by_cases c25 : t286 = t262
           ·rw [if_pos c25] at H
            have c25b0 : (t286 == t262) = true := beq_iff_eq.mpr c25
            have c25b1 : (t286 != t262) = false := bne_eq_false_iff_eq.mpr c25
            clear c25
            obtain rfl := Option.some.inj H
            go_enter Try.func3, Try.ntmps3
            try go_wp2_with (first | ((with_reducible refine gate_dst (N := 4) rfl ?_); refine box_event ?hg (N := 4) ?hd (cs := #[.int .i64 a0_0, .int .i64 a0_1, .int .i64 a0_2]) (t := 23) ?hr ?_; (case hd => rfl); (case hg => rfl); (case hr => first | (go_simp; done) | (go_simp; rfl)); intro gb250 hg w26 hbox hb; have n0_ := Aside0.mk (below_step (by repeat (first | (with_reducible first | exact HB.out | apply bA | apply bN | apply bD) | exact HB.out)) hb); have n1_ := Aside0.mk (hbox); have n2_ := Aside0.mk ((by rw [hg]; exact (below_size (by repeat (first | (with_reducible first | exact HB.out | apply bA | apply bN | apply bD) | exact HB.out))) : w.heap.size ≤ gb250)); have n3_ := Aside0.mk ((by rw [hg]; exact (below_size (by repeat (first | (with_reducible first | exact HB.out | apply bA | apply bN | apply bD) | exact HB.out))) : w.heap.size ≤ gb250)); clear HB; have HB := n0_; have BK250 := n1_; have GW250 := n2_; have GE250 := n3_; clear n0_ n1_ n2_ n3_; clear hb hbox hg) | ((with_reducible refine gate_callee (f := 15) rfl ?_); refine goesL_ (some 28) rfl rfl Try.func15 (by kernel_rfl) rfl #[] rfl (by (try simp only [List.map_toArray, List.map_cons, List.map_nil]); first | done | rfl | (simp only [List.length_drop, List.length_take]; rfl)) ?_; (with_reducible refine (sakialaw08_awake.calls k  true _ A5.out).mono ?_); rintro e w27 ⟨rfl, hb⟩; refine ⟨_, rfl, ?_⟩; have n0_ := Aside0.mk (blk_below (g := gb250) (o := .cells #[.int .i64 a0_0, .int .i64 a0_1, .int .i64 a0_2] 23 (0, 0)) (by (with_reducible repeat (first | apply kN | apply kD | apply kA)); exact BK250.out) hb); have n1_ := Aside0.mk (below_step (by repeat (first | (with_reducible first | exact HB.out | apply bA | apply bN | apply bD | refine below_set ?_ GE250.out) | exact HB.out)) hb); clear BK250; clear HB; have BK250 := n0_; have HB := n1_; clear n0_ n1_; (try clear hb); (try clear hb2); (try clear hk); (try clear hi); obtain ⟨hcz28_0, hcz28_1, hcz28_2, hfz28_0, hfz28_1, hfz28_2⟩ := cells3 (w := w27) (g := gb250) BK250.out) | ((with_reducible refine gate_callee (f := 16) rfl ?_); refine goesL_ (some 32) rfl rfl Try.func16 (by kernel_rfl) rfl #[.agg #[.int .i64 a0_0, .int .i64 a0_1, .int .i64 a0_2], .int .i64 a1] rfl (by (try simp only [List.map_toArray, List.map_cons, List.map_nil]); first | done | rfl | (simp only [List.length_drop, List.length_take]; rfl)) ?_; (with_reducible refine (word_Accept.calls k a0_0 a0_1 a0_2 a1 t252 t253 t254 t255 t256 _ A6.out).mono ?_); rintro e w29 ⟨rfl, hb⟩; refine ⟨_, rfl, ?_⟩; have n0_ := Aside0.mk (blk_below (g := gb250) (o := .cells #[.int .i64 a0_0, .int .i64 a0_1, .int .i64 a0_2] 23 (0, 0)) (by (with_reducible repeat (first | apply kN | apply kD | apply kA)); exact BK250.out) hb); have n1_ := Aside0.mk (below_step (by repeat (first | (with_reducible first | exact HB.out | apply bA | apply bN | apply bD | refine below_set ?_ GE250.out) | exact HB.out)) hb); clear BK250; clear HB; have BK250 := n0_; have HB := n1_; clear n0_ n1_; (try clear hb); (try clear hb2); (try clear hk); (try clear hi)) | ((with_reducible refine gate_dst (N := 10) rfl ?_); refine box_event ?hg (N := 10) ?hd (cs := #[.int .i64 0, .int .i64 0, .int .i64 0]) (t := 23) ?hr ?_; (case hd => rfl); (case hg => rfl); (case hr => first | (go_simp; done) | (go_simp; rfl)); intro gb257 hg w30 hbox hb; have n0_ := Aside0.mk (blk_below (g := gb250) (o := .cells #[.int .i64 a0_0, .int .i64 a0_1, .int .i64 a0_2] 23 (0, 0)) (by (with_reducible repeat (first | apply kN | apply kD | apply kA)); exact BK250.out) hb); have n1_ := Aside0.mk (below_step (by repeat (first | (with_reducible first | exact HB.out | apply bA | apply bN | apply bD | refine below_set ?_ GE250.out) | exact HB.out)) hb); have n2_ := Aside0.mk (hbox); have n3_ := Aside0.mk ((by rw [hg]; exact (below_size (by repeat (first | (with_reducible first | exact HB.out | apply bA | apply bN | apply bD | refine below_set ?_ GE250.out) | exact HB.out))) : w.heap.size ≤ gb257)); have n4_ := Aside0.mk ((by rw [hg]; exact (below_size (by repeat (first | (with_reducible first | exact HB.out | apply bA | apply bN | apply bD | refine below_set ?_ GE250.out) | exact HB.out))) : w.heap.size ≤ gb257)); have n5_ := Aside0.mk ((by rw [hg]; exact Nat.ne_of_lt (blk_lt (g := gb250) (o := .cells #[.int .i64 a0_0, .int .i64 a0_1, .int .i64 a0_2] 23 (0, 0)) (by (with_reducible repeat (first | apply kN | apply kD | apply kA)); exact BK250.out)) : gb250 ≠ gb257)); have n6_ := Aside0.mk ((by rw [hg]; exact Nat.ne_of_gt (blk_lt (g := gb250) (o := .cells #[.int .i64 a0_0, .int .i64 a0_1, .int .i64 a0_2] 23 (0, 0)) (by (with_reducible repeat (first | apply kN | apply kD | apply kA)); exact BK250.out)) : gb257 ≠ gb250)); clear BK250; clear HB; have BK250 := n0_; have HB := n1_; have BK257 := n2_; have GW257 := n3_; have GE257 := n4_; have NB250_257 := n5_; have NB257_250 := n6_; clear n0_ n1_ n2_ n3_ n4_ n5_ n6_; clear hb hbox hg; have hnb31 := NB257_250.out; have hnc31 := NB250_257.out; obtain ⟨hcz32_0, hcz32_1, hcz32_2, hfz32_0, hfz32_1, hfz32_2⟩ := cells3 (w := w30) (g := gb257) BK257.out; obtain ⟨hcz33_0, hcz33_1, hcz33_2, hfz33_0, hfz33_1, hfz33_2⟩ := cells3 (w := w30) (g := gb250) BK250.out) | ((with_reducible refine gate_callee (f := 17) rfl ?_); refine goesL_ (some 39) rfl rfl Try.func17 (by kernel_rfl) rfl #[.agg #[.int .i64 a0_0, .int .i64 a0_1, .int .i64 a0_2], .int .i64 a1] rfl (by (try simp only [List.map_toArray, List.map_cons, List.map_nil]); first | done | rfl | (simp only [List.length_drop, List.length_take]; rfl)) ?_; (with_reducible refine (sakiaref08_Accept.calls k a0_0 a0_1 a0_2 a1 t258 t259 t260 t261 t262 _ A7.out).mono ?_); rintro e w34 ⟨rfl, hb⟩; refine ⟨_, rfl, ?_⟩; have n0_ := Aside0.mk (blk_below (g := gb250) (o := .cells #[.int .i64 a0_0, .int .i64 a0_1, .int .i64 a0_2] 23 (0, 0)) (by (with_reducible repeat (first | apply kN | apply kD | apply kA)); refine blk_far ?_ NB250_257.out _; (with_reducible repeat (first | apply kN | apply kD | apply kA)); refine blk_far ?_ NB250_257.out _; (with_reducible repeat (first | apply kN | apply kD | apply kA)); refine blk_far ?_ NB250_257.out _; (with_reducible repeat (first | apply kN | apply kD | apply kA)); exact BK250.out) hb); have n1_ := Aside0.mk (blk_below (g := gb257) (o := .cells #[.int .i64 t252, .int .i64 t253, .int .i64 t254] 23 (0, 0)) (by (with_reducible repeat (first | apply kN | apply kD | apply kA)); refine blk_put (cs := #[.int .i64 t252, .int .i64 t253, .int .i64 0]) ?_ 2 _ rfl; (with_reducible repeat (first | apply kN | apply kD | apply kA)); refine blk_put (cs := #[.int .i64 t252, .int .i64 0, .int .i64 0]) ?_ 1 _ rfl; (with_reducible repeat (first | apply kN | apply kD | apply kA)); refine blk_put (cs := #[.int .i64 0, .int .i64 0, .int .i64 0]) ?_ 0 _ rfl; (with_reducible repeat (first | apply kN | apply kD | apply kA)); exact BK257.out) hb); have n2_ := Aside0.mk (below_step (by repeat (first | (with_reducible first | exact HB.out | apply bA | apply bN | apply bD | refine below_set ?_ GE250.out | refine below_set ?_ GE257.out) | exact HB.out)) hb); clear BK250; clear BK257; clear HB; have BK250 := n0_; have BK257 := n1_; have HB := n2_; clear n0_ n1_ n2_; (try clear hb); (try clear hb2); (try clear hk); (try clear hi)) | ((with_reducible refine gate_dst (N := 13) rfl ?_); refine box_event ?hg (N := 13) ?hd (cs := #[.int .i64 0, .int .i64 0, .int .i64 0]) (t := 23) ?hr ?_; (case hd => rfl); (case hg => rfl); (case hr => first | (go_simp; done) | (go_simp; rfl)); intro gb263 hg w35 hbox hb; have n0_ := Aside0.mk (blk_below (g := gb250) (o := .cells #[.int .i64 a0_0, .int .i64 a0_1, .int .i64 a0_2] 23 (0, 0)) (by (with_reducible repeat (first | apply kN | apply kD | apply kA)); exact BK250.out) hb); have n1_ := Aside0.mk (blk_below (g := gb257) (o := .cells #[.int .i64 t252, .int .i64 t253, .int .i64 t254] 23 (0, 0)) (by (with_reducible repeat (first | apply kN | apply kD | apply kA)); exact BK257.out) hb); have n2_ := Aside0.mk (below_step (by repeat (first | (with_reducible first | exact HB.out | apply bA | apply bN | apply bD | refine below_set ?_ GE250.out | refine below_set ?_ GE257.out) | exact HB.out)) hb); have n3_ := Aside0.mk (hbox); have n4_ := Aside0.mk ((by rw [hg]; exact (below_size (by repeat (first | (with_reducible first | exact HB.out | apply bA | apply bN | apply bD | refine below_set ?_ GE250.out | refine below_set ?_ GE257.out) | exact HB.out))) : w.heap.size ≤ gb263)); have n5_ := Aside0.mk ((by rw [hg]; exact (below_size (by repeat (first | (with_reducible first | exact HB.out | apply bA | apply bN | apply bD | refine below_set ?_ GE250.out | refine below_set ?_ GE257.out) | exact HB.out))) : w.heap.size ≤ gb263)); have n6_ := Aside0.mk ((by rw [hg]; exact Nat.ne_of_lt (blk_lt (g := gb250) (o := .cells #[.int .i64 a0_0, .int .i64 a0_1, .int .i64 a0_2] 23 (0, 0)) (by (with_reducible repeat (first | apply kN | apply kD | apply kA)); exact BK250.out)) : gb250 ≠ gb263)); have n7_ := Aside0.mk ((by rw [hg]; exact Nat.ne_of_gt (blk_lt (g := gb250) (o := .cells #[.int .i64 a0_0, .int .i64 a0_1, .int .i64 a0_2] 23 (0, 0)) (by (with_reducible repeat (first | apply kN | apply kD | apply kA)); exact BK250.out)) : gb263 ≠ gb250)); have n8_ := Aside0.mk ((by rw [hg]; exact Nat.ne_of_lt (blk_lt (g := gb257) (o := .cells #[.int .i64 t252, .int .i64 t253, .int .i64 t254] 23 (0, 0)) (by (with_reducible repeat (first | apply kN | apply kD | apply kA)); exact BK257.out)) : gb257 ≠ gb263)); have n9_ := Aside0.mk ((by rw [hg]; exact Nat.ne_of_gt (blk_lt (g := gb257) (o := .cells #[.int .i64 t252, .int .i64 t253, .int .i64 t254] 23 (0, 0)) (by (with_reducible repeat (first | apply kN | apply kD | apply kA)); exact BK257.out)) : gb263 ≠ gb257)); clear BK250; clear BK257; clear HB; have BK250 := n0_; have BK257 := n1_; have HB := n2_; have BK263 := n3_; have GW263 := n4_; have GE263 := n5_; have NB250_263 := n6_; have NB263_250 := n7_; have NB257_263 := n8_; have NB263_257 := n9_; clear n0_ n1_ n2_ n3_ n4_ n5_ n6_ n7_ n8_ n9_; clear hb hbox hg; have hnb36 := NB263_250.out; have hnc36 := NB250_263.out; have hnb37 := NB263_257.out; have hnc37 := NB257_263.out; obtain ⟨hcz38_0, hcz38_1, hcz38_2, hfz38_0, hfz38_1, hfz38_2⟩ := cells3 (w := w35) (g := gb263) BK263.out; obtain ⟨hcz39_0, hcz39_1, hcz39_2, hfz39_0, hfz39_1, hfz39_2⟩ := cells3 (w := w35) (g := gb250) BK250.out) | ((with_reducible refine gate_callee (f := 18) rfl ?_); refine goesL_ (some 46) rfl rfl Try.func18 (by kernel_rfl) rfl #[.agg #[.int .i64 a0_0, .int .i64 a0_1, .int .i64 a0_2], .int .i64 a1] rfl (by (try simp only [List.map_toArray, List.map_cons, List.map_nil]); first | done | rfl | (simp only [List.length_drop, List.length_take]; rfl)) ?_; (with_reducible refine (word_Take.calls k a0_0 a0_1 a0_2 a1 t264 t265 t266 t267 t268 _ A8.out).mono ?_); rintro e w40 ⟨rfl, hb⟩; refine ⟨_, rfl, ?_⟩; have n0_ := Aside0.mk (blk_below (g := gb250) (o := .cells #[.int .i64 a0_0, .int .i64 a0_1, .int .i64 a0_2] 23 (0, 0)) (by (with_reducible repeat (first | apply kN | apply kD | apply kA)); refine blk_far ?_ NB250_263.out _; (with_reducible repeat (first | apply kN | apply kD | apply kA)); refine blk_far ?_ NB250_263.out _; (with_reducible repeat (first | apply kN | apply kD | apply kA)); refine blk_far ?_ NB250_263.out _; (with_reducible repeat (first | apply kN | apply kD | apply kA)); exact BK250.out) hb); have n1_ := Aside0.mk (blk_below (g := gb257) (o := .cells #[.int .i64 t252, .int .i64 t253, .int .i64 t254] 23 (0, 0)) (by (with_reducible repeat (first | apply kN | apply kD | apply kA)); refine blk_far ?_ NB257_263.out _; (with_reducible repeat (first | apply kN | apply kD | apply kA)); refine blk_far ?_ NB257_263.out _; (with_reducible repeat (first | apply kN | apply kD | apply kA)); refine blk_far ?_ NB257_263.out _; (with_reducible repeat (first | apply kN | apply kD | apply kA)); exact BK257.out) hb); have n2_ := Aside0.mk (blk_below (g := gb263) (o := .cells #[.int .i64 t258, .int .i64 t259, .int .i64 t260] 23 (0, 0)) (by (with_reducible repeat (first | apply kN | apply kD | apply kA)); refine blk_put (cs := #[.int .i64 t258, .int .i64 t259, .int .i64 0]) ?_ 2 _ rfl; (with_reducible repeat (first | apply kN | apply kD | apply kA)); refine blk_put (cs := #[.int .i64 t258, .int .i64 0, .int .i64 0]) ?_ 1 _ rfl; (with_reducible repeat (first | apply kN | apply kD | apply kA)); refine blk_put (cs := #[.int .i64 0, .int .i64 0, .int .i64 0]) ?_ 0 _ rfl; (with_reducible repeat (first | apply kN | apply kD | apply kA)); exact BK263.out) hb); have n3_ := Aside0.mk (below_step (by repeat (first | (with_reducible first | exact HB.out | apply bA | apply bN | apply bD | refine below_set ?_ GE250.out | refine below_set ?_ GE257.out | refine below_set ?_ GE263.out) | exact HB.out)) hb); clear BK250; clear BK257; clear BK263; clear HB; have BK250 := n0_; have BK257 := n1_; have BK263 := n2_; have HB := n3_; clear n0_ n1_ n2_ n3_; (try clear hb); (try clear hb2); (try clear hk); (try clear hi)) | ((with_reducible refine gate_dst (N := 16) rfl ?_); refine box_event ?hg (N := 16) ?hd (cs := #[.int .i64 0, .int .i64 0, .int .i64 0]) (t := 23) ?hr ?_; (case hd => rfl); (case hg => rfl); (case hr => first | (go_simp; done) | (go_simp; rfl)); intro gb269 hg w41 hbox hb; have n0_ := Aside0.mk (blk_below (g := gb250) (o := .cells #[.int .i64 a0_0, .int .i64 a0_1, .int .i64 a0_2] 23 (0, 0)) (by (with_reducible repeat (first | apply kN | apply kD | apply kA)); exact BK250.out) hb); have n1_ := Aside0.mk (blk_below (g := gb257) (o := .cells #[.int .i64 t252, .int .i64 t253, .int .i64 t254] 23 (0, 0)) (by (with_reducible repeat (first | apply kN | apply kD | apply kA)); exact BK257.out) hb); have n2_ := Aside0.mk (blk_below (g := gb263) (o := .cells #[.int .i64 t258, .int .i64 t259, .int .i64 t260] 23 (0, 0)) (by (with_reducible repeat (first | apply kN | apply kD | apply kA)); exact BK263.out) hb); have n3_ := Aside0.mk (below_step (by repeat (first | (with_reducible first | exact HB.out | apply bA | apply bN | apply bD | refine below_set ?_ GE250.out | refine below_set ?_ GE257.out | refine below_set ?_ GE263.out) | exact HB.out)) hb); have n4_ := Aside0.mk (hbox); have n5_ := Aside0.mk ((by rw [hg]; exact (below_size (by repeat (first | (with_reducible first | exact HB.out | apply bA | apply bN | apply bD | refine below_set ?_ GE250.out | refine below_set ?_ GE257.out | refine below_set ?_ GE263.out) | exact HB.out))) : w.heap.size ≤ gb269)); have n6_ := Aside0.mk ((by rw [hg]; exact (below_size (by repeat (first | (with_reducible first | exact HB.out | apply bA | apply bN | apply bD | refine below_set ?_ GE250.out | refine below_set ?_ GE257.out | refine below_set ?_ GE263.out) | exact HB.out))) : w.heap.size ≤ gb269)); have n7_ := Aside0.mk ((by rw [hg]; exact Nat.ne_of_lt (blk_lt (g := gb250) (o := .cells #[.int .i64 a0_0, .int .i64 a0_1, .int .i64 a0_2] 23 (0, 0)) (by (with_reducible repeat (first | apply kN | apply kD | apply kA)); exact BK250.out)) : gb250 ≠ gb269)); have n8_ := Aside0.mk ((by rw [hg]; exact Nat.ne_of_gt (blk_lt (g := gb250) (o := .cells #[.int .i64 a0_0, .int .i64 a0_1, .int .i64 a0_2] 23 (0, 0)) (by (with_reducible repeat (first | apply kN | apply kD | apply kA)); exact BK250.out)) : gb269 ≠ gb250)); have n9_ := Aside0.mk ((by rw [hg]; exact Nat.ne_of_lt (blk_lt (g := gb257) (o := .cells #[.int .i64 t252, .int .i64 t253, .int .i64 t254] 23 (0, 0)) (by (with_reducible repeat (first | apply kN | apply kD | apply kA)); exact BK257.out)) : gb257 ≠ gb269)); have n10_ := Aside0.mk ((by rw [hg]; exact Nat.ne_of_gt (blk_lt (g := gb257) (o := .cells #[.int .i64 t252, .int .i64 t253, .int .i64 t254] 23 (0, 0)) (by (with_reducible repeat (first | apply kN | apply kD | apply kA)); exact BK257.out)) : gb269 ≠ gb257)); have n11_ := Aside0.mk ((by rw [hg]; exact Nat.ne_of_lt (blk_lt (g := gb263) (o := .cells #[.int .i64 t258, .int .i64 t259, .int .i64 t260] 23 (0, 0)) (by (with_reducible repeat (first | apply kN | apply kD | apply kA)); exact BK263.out)) : gb263 ≠ gb269)); have n12_ := Aside0.mk ((by rw [hg]; exact Nat.ne_of_gt (blk_lt (g := gb263) (o := .cells #[.int .i64 t258, .int .i64 t259, .int .i64 t260] 23 (0, 0)) (by (with_reducible repeat (first | apply kN | apply kD | apply kA)); exact BK263.out)) : gb269 ≠ gb263)); clear BK250; clear BK257; clear BK263; clear HB; have BK250 := n0_; have BK257 := n1_; have BK263 := n2_; have HB := n3_; have BK269 := n4_; have GW269 := n5_; have GE269 := n6_; have NB250_269 := n7_; have NB269_250 := n8_; have NB257_269 := n9_; have NB269_257 := n10_; have NB263_269 := n11_; have NB269_263 := n12_; clear n0_ n1_ n2_ n3_ n4_ n5_ n6_ n7_ n8_ n9_ n10_ n11_ n12_; clear hb hbox hg; have hnb42 := NB269_250.out; have hnc42 := NB250_269.out; have hnb43 := NB269_257.out; have hnc43 := NB257_269.out; have hnb44 := NB269_263.out; have hnc44 := NB263_269.out; obtain ⟨hcz45_0, hcz45_1, hcz45_2, hfz45_0, hfz45_1, hfz45_2⟩ := cells3 (w := w41) (g := gb269) BK269.out; obtain ⟨hcz46_0, hcz46_1, hcz46_2, hfz46_0, hfz46_1, hfz46_2⟩ := cells3 (w := w41) (g := gb250) BK250.out) | ((with_reducible refine gate_callee (f := 19) rfl ?_); refine goesL_ (some 53) rfl rfl Try.func19 (by kernel_rfl) rfl #[.agg #[.int .i64 a0_0, .int .i64 a0_1, .int .i64 a0_2], .int .i64 a1] rfl (by (try simp only [List.map_toArray, List.map_cons, List.map_nil]); first | done | rfl | (simp only [List.length_drop, List.length_take]; rfl)) ?_; (with_reducible refine (sakiaref08_Take.calls k a0_0 a0_1 a0_2 a1 t270 t271 t272 t273 t274 _ A9.out).mono ?_); rintro e w47 ⟨rfl, hb⟩; refine ⟨_, rfl, ?_⟩; have n0_ := Aside0.mk (blk_below (g := gb250) (o := .cells #[.int .i64 a0_0, .int .i64 a0_1, .int .i64 a0_2] 23 (0, 0)) (by (with_reducible repeat (first | apply kN | apply kD | apply kA)); refine blk_far ?_ NB250_269.out _; (with_reducible repeat (first | apply kN | apply kD | apply kA)); refine blk_far ?_ NB250_269.out _; (with_reducible repeat (first | apply kN | apply kD | apply kA)); refine blk_far ?_ NB250_269.out _; (with_reducible repeat (first | apply kN | apply kD | apply kA)); exact BK250.out) hb); have n1_ := Aside0.mk (blk_below (g := gb257) (o := .cells #[.int .i64 t252, .int .i64 t253, .int .i64 t254] 23 (0, 0)) (by (with_reducible repeat (first | apply kN | apply kD | apply kA)); refine blk_far ?_ NB257_269.out _; (with_reducible repeat (first | apply kN | apply kD | apply kA)); refine blk_far ?_ NB257_269.out _; (with_reducible repeat (first | apply kN | apply kD | apply kA)); refine blk_far ?_ NB257_269.out _; (with_reducible repeat (first | apply kN | apply kD | apply kA)); exact BK257.out) hb); have n2_ := Aside0.mk (blk_below (g := gb263) (o := .cells #[.int .i64 t258, .int .i64 t259, .int .i64 t260] 23 (0, 0)) (by (with_reducible repeat (first | apply kN | apply kD | apply kA)); refine blk_far ?_ NB263_269.out _; (with_reducible repeat (first | apply kN | apply kD | apply kA)); refine blk_far ?_ NB263_269.out _; (with_reducible repeat (first | apply kN | apply kD | apply kA)); refine blk_far ?_ NB263_269.out _; (with_reducible repeat (first | apply kN | apply kD | apply kA)); exact BK263.out) hb); have n3_ := Aside0.mk (blk_below (g := gb269) (o := .cells #[.int .i64 t264, .int .i64 t265, .int .i64 t266] 23 (0, 0)) (by (with_reducible repeat (first | apply kN | apply kD | apply kA)); refine blk_put (cs := #[.int .i64 t264, .int .i64 t265, .int .i64 0]) ?_ 2 _ rfl; (with_reducible repeat (first | apply kN | apply kD | apply kA)); refine blk_put (cs := #[.int .i64 t264, .int .i64 0, .int .i64 0]) ?_ 1 _ rfl; (with_reducible repeat (first | apply kN | apply kD | apply kA)); refine blk_put (cs := #[.int .i64 0, .int .i64 0, .int .i64 0]) ?_ 0 _ rfl; (with_reducible repeat (first | apply kN | apply kD | apply kA)); exact BK269.out) hb); have n4_ := Aside0.mk (below_step (by repeat (first | (with_reducible first | exact HB.out | apply bA | apply bN | apply bD | refine below_set ?_ GE250.out | refine below_set ?_ GE257.out | refine below_set ?_ GE263.out | refine below_set ?_ GE269.out) | exact HB.out)) hb); clear BK250; clear BK257; clear BK263; clear BK269; clear HB; have BK250 := n0_; have BK257 := n1_; have BK263 := n2_; have BK269 := n3_; have HB := n4_; clear n0_ n1_ n2_ n3_ n4_; (try clear hb); (try clear hb2); (try clear hk); (try clear hi)) | ((with_reducible refine gate_dst (N := 19) rfl ?_); refine box_event ?hg (N := 19) ?hd (cs := #[.int .i64 0, .int .i64 0, .int .i64 0]) (t := 23) ?hr ?_; (case hd => rfl); (case hg => rfl); (case hr => first | (go_simp; done) | (go_simp; rfl)); intro gb275 hg w48 hbox hb; have n0_ := Aside0.mk (blk_below (g := gb250) (o := .cells #[.int .i64 a0_0, .int .i64 a0_1, .int .i64 a0_2] 23 (0, 0)) (by (with_reducible repeat (first | apply kN | apply kD | apply kA)); exact BK250.out) hb); have n1_ := Aside0.mk (blk_below (g := gb257) (o := .cells #[.int .i64 t252, .int .i64 t253, .int .i64 t254] 23 (0, 0)) (by (with_reducible repeat (first | apply kN | apply kD | apply kA)); exact BK257.out) hb); have n2_ := Aside0.mk (blk_below (g := gb263) (o := .cells #[.int .i64 t258, .int .i64 t259, .int .i64 t260] 23 (0, 0)) (by (with_reducible repeat (first | apply kN | apply kD | apply kA)); exact BK263.out) hb); have n3_ := Aside0.mk (blk_below (g := gb269) (o := .cells #[.int .i64 t264, .int .i64 t265, .int .i64 t266] 23 (0, 0)) (by (with_reducible repeat (first | apply kN | apply kD | apply kA)); exact BK269.out) hb); have n4_ := Aside0.mk (below_step (by repeat (first | (with_reducible first | exact HB.out | apply bA | apply bN | apply bD | refine below_set ?_ GE250.out | refine below_set ?_ GE257.out | refine below_set ?_ GE263.out | refine below_set ?_ GE269.out) | exact HB.out)) hb); have n5_ := Aside0.mk (hbox); have n6_ := Aside0.mk ((by rw [hg]; exact (below_size (by repeat (first | (with_reducible first | exact HB.out | apply bA | apply bN | apply bD | refine below_set ?_ GE250.out | refine below_set ?_ GE257.out | refine below_set ?_ GE263.out | refine below_set ?_ GE269.out) | exact HB.out))) : w.heap.size ≤ gb275)); have n7_ := Aside0.mk ((by rw [hg]; exact (below_size (by repeat (first | (with_reducible first | exact HB.out | apply bA | apply bN | apply bD | refine below_set ?_ GE250.out | refine below_set ?_ GE257.out | refine below_set ?_ GE263.out | refine below_set ?_ GE269.out) | exact HB.out))) : w.heap.size ≤ gb275)); have n8_ := Aside0.mk ((by rw [hg]; exact Nat.ne_of_lt (blk_lt (g := gb250) (o := .cells #[.int .i64 a0_0, .int .i64 a0_1, .int .i64 a0_2] 23 (0, 0)) (by (with_reducible repeat (first | apply kN | apply kD | apply kA)); exact BK250.out)) : gb250 ≠ gb275)); have n9_ := Aside0.mk ((by rw [hg]; exact Nat.ne_of_gt (blk_lt (g := gb250) (o := .cells #[.int .i64 a0_0, .int .i64 a0_1, .int .i64 a0_2] 23 (0, 0)) (by (with_reducible repeat (first | apply kN | apply kD | apply kA)); exact BK250.out)) : gb275 ≠ gb250)); have n10_ := Aside0.mk ((by rw [hg]; exact Nat.ne_of_lt (blk_lt (g := gb257) (o := .cells #[.int .i64 t252, .int .i64 t253, .int .i64 t254] 23 (0, 0)) (by (with_reducible repeat (first | apply kN | apply kD | apply kA)); exact BK257.out)) : gb257 ≠ gb275)); have n11_ := Aside0.mk ((by rw [hg]; exact Nat.ne_of_gt (blk_lt (g := gb257) (o := .cells #[.int .i64 t252, .int .i64 t253, .int .i64 t254] 23 (0, 0)) (by (with_reducible repeat (first | apply kN | apply kD | apply kA)); exact BK257.out)) : gb275 ≠ gb257)); have n12_ := Aside0.mk ((by rw [hg]; exact Nat.ne_of_lt (blk_lt (g := gb263) (o := .cells #[.int .i64 t258, .int .i64 t259, .int .i64 t260] 23 (0, 0)) (by (with_reducible repeat (first | apply kN | apply kD | apply kA)); exact BK263.out)) : gb263 ≠ gb275)); have n13_ := Aside0.mk ((by rw [hg]; exact Nat.ne_of_gt (blk_lt (g := gb263) (o := .cells #[.int .i64 t258, .int .i64 t259, .int .i64 t260] 23 (0, 0)) (by (with_reducible repeat (first | apply kN | apply kD | apply kA)); exact BK263.out)) : gb275 ≠ gb263)); have n14_ := Aside0.mk ((by rw [hg]; exact Nat.ne_of_lt (blk_lt (g := gb269) (o := .cells #[.int .i64 t264, .int .i64 t265, .int .i64 t266] 23 (0, 0)) (by (with_reducible repeat (first | apply kN | apply kD | apply kA)); exact BK269.out)) : gb269 ≠ gb275)); have n15_ := Aside0.mk ((by rw [hg]; exact Nat.ne_of_gt (blk_lt (g := gb269) (o := .cells #[.int .i64 t264, .int .i64 t265, .int .i64 t266] 23 (0, 0)) (by (with_reducible repeat (first | apply kN | apply kD | apply kA)); exact BK269.out)) : gb275 ≠ gb269)); clear BK250; clear BK257; clear BK263; clear BK269; clear HB; have BK250 := n0_; have BK257 := n1_; have BK263 := n2_; have BK269 := n3_; have HB := n4_; have BK275 := n5_; have GW275 := n6_; have GE275 := n7_; have NB250_275 := n8_; have NB275_250 := n9_; have NB257_275 := n10_; have NB275_257 := n11_; have NB263_275 := n12_; have NB275_263 := n13_; have NB269_275 := n14_; have NB275_269 := n15_; clear n0_ n1_ n2_ n3_ n4_ n5_ n6_ n7_ n8_ n9_ n10_ n11_ n12_ n13_ n14_ n15_; clear hb hbox hg; have hnb49 := NB275_250.out; have hnc49 := NB250_275.out; have hnb50 := NB275_257.out; have hnc50 := NB257_275.out; have hnb51 := NB275_263.out; have hnc51 := NB263_275.out; have hnb52 := NB275_269.out; have hnc52 := NB269_275.out; obtain ⟨hcz53_0, hcz53_1, hcz53_2, hfz53_0, hfz53_1, hfz53_2⟩ := cells3 (w := w48) (g := gb275) BK275.out; obtain ⟨hcz54_0, hcz54_1, hcz54_2, hfz54_0, hfz54_1, hfz54_2⟩ := cells3 (w := w48) (g := gb250) BK250.out) | ((with_reducible refine gate_callee (f := 20) rfl ?_); refine goesL_ (some 61) rfl rfl Try.func20 (by kernel_rfl) rfl #[.agg #[.int .i64 a0_0, .int .i64 a0_1, .int .i64 a0_2], .int .i64 a1, .int .i64 a2] rfl (by (try simp only [List.map_toArray, List.map_cons, List.map_nil]); first | done | rfl | (simp only [List.length_drop, List.length_take]; rfl)) ?_; (with_reducible refine (word_Evict.calls k a0_0 a0_1 a0_2 a1 a2 t276 t277 t278 t279 _ A10.out).mono ?_); rintro e w55 ⟨rfl, hb⟩; refine ⟨_, rfl, ?_⟩; have n0_ := Aside0.mk (blk_below (g := gb250) (o := .cells #[.int .i64 a0_0, .int .i64 a0_1, .int .i64 a0_2] 23 (0, 0)) (by (with_reducible repeat (first | apply kN | apply kD | apply kA)); refine blk_far ?_ NB250_275.out _; (with_reducible repeat (first | apply kN | apply kD | apply kA)); refine blk_far ?_ NB250_275.out _; (with_reducible repeat (first | apply kN | apply kD | apply kA)); refine blk_far ?_ NB250_275.out _; (with_reducible repeat (first | apply kN | apply kD | apply kA)); exact BK250.out) hb); have n1_ := Aside0.mk (blk_below (g := gb257) (o := .cells #[.int .i64 t252, .int .i64 t253, .int .i64 t254] 23 (0, 0)) (by (with_reducible repeat (first | apply kN | apply kD | apply kA)); refine blk_far ?_ NB257_275.out _; (with_reducible repeat (first | apply kN | apply kD | apply kA)); refine blk_far ?_ NB257_275.out _; (with_reducible repeat (first | apply kN | apply kD | apply kA)); refine blk_far ?_ NB257_275.out _; (with_reducible repeat (first | apply kN | apply kD | apply kA)); exact BK257.out) hb); have n2_ := Aside0.mk (blk_below (g := gb263) (o := .cells #[.int .i64 t258, .int .i64 t259, .int .i64 t260] 23 (0, 0)) (by (with_reducible repeat (first | apply kN | apply kD | apply kA)); refine blk_far ?_ NB263_275.out _; (with_reducible repeat (first | apply kN | apply kD | apply kA)); refine blk_far ?_ NB263_275.out _; (with_reducible repeat (first | apply kN | apply kD | apply kA)); refine blk_far ?_ NB263_275.out _; (with_reducible repeat (first | apply kN | apply kD | apply kA)); exact BK263.out) hb); have n3_ := Aside0.mk (blk_below (g := gb269) (o := .cells #[.int .i64 t264, .int .i64 t265, .int .i64 t266] 23 (0, 0)) (by (with_reducible repeat (first | apply kN | apply kD | apply kA)); refine blk_far ?_ NB269_275.out _; (with_reducible repeat (first | apply kN | apply kD | apply kA)); refine blk_far ?_ NB269_275.out _; (with_reducible repeat (first | apply kN | apply kD | apply kA)); refine blk_far ?_ NB269_275.out _; (with_reducible repeat (first | apply kN | apply kD | apply kA)); exact BK269.out) hb); have n4_ := Aside0.mk (blk_below (g := gb275) (o := .cells #[.int .i64 t270, .int .i64 t271, .int .i64 t272] 23 (0, 0)) (by (with_reducible repeat (first | apply kN | apply kD | apply kA)); refine blk_put (cs := #[.int .i64 t270, .int .i64 t271, .int .i64 0]) ?_ 2 _ rfl; (with_reducible repeat (first | apply kN | apply kD | apply kA)); refine blk_put (cs := #[.int .i64 t270, .int .i64 0, .int .i64 0]) ?_ 1 _ rfl; (with_reducible repeat (first | apply kN | apply kD | apply kA)); refine blk_put (cs := #[.int .i64 0, .int .i64 0, .int .i64 0]) ?_ 0 _ rfl; (with_reducible repeat (first | apply kN | apply kD | apply kA)); exact BK275.out) hb); have n5_ := Aside0.mk (below_step (by repeat (first | (with_reducible first | exact HB.out | apply bA | apply bN | apply bD | refine below_set ?_ GE250.out | refine below_set ?_ GE257.out | refine below_set ?_ GE263.out | refine below_set ?_ GE269.out | refine below_set ?_ GE275.out) | exact HB.out)) hb); clear BK250; clear BK257; clear BK263; clear BK269; clear BK275; clear HB; have BK250 := n0_; have BK257 := n1_; have BK263 := n2_; have BK269 := n3_; have BK275 := n4_; have HB := n5_; clear n0_ n1_ n2_ n3_ n4_ n5_; (try clear hb); (try clear hb2); (try clear hk); (try clear hi)) | ((with_reducible refine gate_dst (N := 22) rfl ?_); refine box_event ?hg (N := 22) ?hd (cs := #[.int .i64 0, .int .i64 0, .int .i64 0]) (t := 23) ?hr ?_; (case hd => rfl); (case hg => rfl); (case hr => first | (go_simp; done) | (go_simp; rfl)); intro gb280 hg w56 hbox hb; have n0_ := Aside0.mk (blk_below (g := gb250) (o := .cells #[.int .i64 a0_0, .int .i64 a0_1, .int .i64 a0_2] 23 (0, 0)) (by (with_reducible repeat (first | apply kN | apply kD | apply kA)); exact BK250.out) hb); have n1_ := Aside0.mk (blk_below (g := gb257) (o := .cells #[.int .i64 t252, .int .i64 t253, .int .i64 t254] 23 (0, 0)) (by (with_reducible repeat (first | apply kN | apply kD | apply kA)); exact BK257.out) hb); have n2_ := Aside0.mk (blk_below (g := gb263) (o := .cells #[.int .i64 t258, .int .i64 t259, .int .i64 t260] 23 (0, 0)) (by (with_reducible repeat (first | apply kN | apply kD | apply kA)); exact BK263.out) hb); have n3_ := Aside0.mk (blk_below (g := gb269) (o := .cells #[.int .i64 t264, .int .i64 t265, .int .i64 t266] 23 (0, 0)) (by (with_reducible repeat (first | apply kN | apply kD | apply kA)); exact BK269.out) hb); have n4_ := Aside0.mk (blk_below (g := gb275) (o := .cells #[.int .i64 t270, .int .i64 t271, .int .i64 t272] 23 (0, 0)) (by (with_reducible repeat (first | apply kN | apply kD | apply kA)); exact BK275.out) hb); have n5_ := Aside0.mk (below_step (by repeat (first | (with_reducible first | exact HB.out | apply bA | apply bN | apply bD | refine below_set ?_ GE250.out | refine below_set ?_ GE257.out | refine below_set ?_ GE263.out | refine below_set ?_ GE269.out | refine below_set ?_ GE275.out) | exact HB.out)) hb); have n6_ := Aside0.mk (hbox); have n7_ := Aside0.mk ((by rw [hg]; exact (below_size (by repeat (first | (with_reducible first | exact HB.out | apply bA | apply bN | apply bD | refine below_set ?_ GE250.out | refine below_set ?_ GE257.out | refine below_set ?_ GE263.out | refine below_set ?_ GE269.out | refine below_set ?_ GE275.out) | exact HB.out))) : w.heap.size ≤ gb280)); have n8_ := Aside0.mk ((by rw [hg]; exact (below_size (by repeat (first | (with_reducible first | exact HB.out | apply bA | apply bN | apply bD | refine below_set ?_ GE250.out | refine below_set ?_ GE257.out | refine below_set ?_ GE263.out | refine below_set ?_ GE269.out | refine below_set ?_ GE275.out) | exact HB.out))) : w.heap.size ≤ gb280)); have n9_ := Aside0.mk ((by rw [hg]; exact Nat.ne_of_lt (blk_lt (g := gb250) (o := .cells #[.int .i64 a0_0, .int .i64 a0_1, .int .i64 a0_2] 23 (0, 0)) (by (with_reducible repeat (first | apply kN | apply kD | apply kA)); exact BK250.out)) : gb250 ≠ gb280)); have n10_ := Aside0.mk ((by rw [hg]; exact Nat.ne_of_gt (blk_lt (g := gb250) (o := .cells #[.int .i64 a0_0, .int .i64 a0_1, .int .i64 a0_2] 23 (0, 0)) (by (with_reducible repeat (first | apply kN | apply kD | apply kA)); exact BK250.out)) : gb280 ≠ gb250)); have n11_ := Aside0.mk ((by rw [hg]; exact Nat.ne_of_lt (blk_lt (g := gb257) (o := .cells #[.int .i64 t252, .int .i64 t253, .int .i64 t254] 23 (0, 0)) (by (with_reducible repeat (first | apply kN | apply kD | apply kA)); exact BK257.out)) : gb257 ≠ gb280)); have n12_ := Aside0.mk ((by rw [hg]; exact Nat.ne_of_gt (blk_lt (g := gb257) (o := .cells #[.int .i64 t252, .int .i64 t253, .int .i64 t254] 23 (0, 0)) (by (with_reducible repeat (first | apply kN | apply kD | apply kA)); exact BK257.out)) : gb280 ≠ gb257)); have n13_ := Aside0.mk ((by rw [hg]; exact Nat.ne_of_lt (blk_lt (g := gb263) (o := .cells #[.int .i64 t258, .int .i64 t259, .int .i64 t260] 23 (0, 0)) (by (with_reducible repeat (first | apply kN | apply kD | apply kA)); exact BK263.out)) : gb263 ≠ gb280)); have n14_ := Aside0.mk ((by rw [hg]; exact Nat.ne_of_gt (blk_lt (g := gb263) (o := .cells #[.int .i64 t258, .int .i64 t259, .int .i64 t260] 23 (0, 0)) (by (with_reducible repeat (first | apply kN | apply kD | apply kA)); exact BK263.out)) : gb280 ≠ gb263)); have n15_ := Aside0.mk ((by rw [hg]; exact Nat.ne_of_lt (blk_lt (g := gb269) (o := .cells #[.int .i64 t264, .int .i64 t265, .int .i64 t266] 23 (0, 0)) (by (with_reducible repeat (first | apply kN | apply kD | apply kA)); exact BK269.out)) : gb269 ≠ gb280)); have n16_ := Aside0.mk ((by rw [hg]; exact Nat.ne_of_gt (blk_lt (g := gb269) (o := .cells #[.int .i64 t264, .int .i64 t265, .int .i64 t266] 23 (0, 0)) (by (with_reducible repeat (first | apply kN | apply kD | apply kA)); exact BK269.out)) : gb280 ≠ gb269)); have n17_ := Aside0.mk ((by rw [hg]; exact Nat.ne_of_lt (blk_lt (g := gb275) (o := .cells #[.int .i64 t270, .int .i64 t271, .int .i64 t272] 23 (0, 0)) (by (with_reducible repeat (first | apply kN | apply kD | apply kA)); exact BK275.out)) : gb275 ≠ gb280)); have n18_ := Aside0.mk ((by rw [hg]; exact Nat.ne_of_gt (blk_lt (g := gb275) (o := .cells #[.int .i64 t270, .int .i64 t271, .int .i64 t272] 23 (0, 0)) (by (with_reducible repeat (first | apply kN | apply kD | apply kA)); exact BK275.out)) : gb280 ≠ gb275)); clear BK250; clear BK257; clear BK263; clear BK269; clear BK275; clear HB; have BK250 := n0_; have BK257 := n1_; have BK263 := n2_; have BK269 := n3_; have BK275 := n4_; have HB := n5_; have BK280 := n6_; have GW280 := n7_; have GE280 := n8_; have NB250_280 := n9_; have NB280_250 := n10_; have NB257_280 := n11_; have NB280_257 := n12_; have NB263_280 := n13_; have NB280_263 := n14_; have NB269_280 := n15_; have NB280_269 := n16_; have NB275_280 := n17_; have NB280_275 := n18_; clear n0_ n1_ n2_ n3_ n4_ n5_ n6_ n7_ n8_ n9_ n10_ n11_ n12_ n13_ n14_ n15_ n16_ n17_ n18_; clear hb hbox hg; have hnb57 := NB280_250.out; have hnc57 := NB250_280.out; have hnb58 := NB280_257.out; have hnc58 := NB257_280.out; have hnb59 := NB280_263.out; have hnc59 := NB263_280.out; have hnb60 := NB280_269.out; have hnc60 := NB269_280.out; have hnb61 := NB280_275.out; have hnc61 := NB275_280.out; obtain ⟨hcz62_0, hcz62_1, hcz62_2, hfz62_0, hfz62_1, hfz62_2⟩ := cells3 (w := w56) (g := gb280) BK280.out; obtain ⟨hcz63_0, hcz63_1, hcz63_2, hfz63_0, hfz63_1, hfz63_2⟩ := cells3 (w := w56) (g := gb250) BK250.out) | ((with_reducible refine gate_callee (f := 21) rfl ?_); refine goesL_ (some 68) rfl rfl Try.func21 (by kernel_rfl) rfl #[.agg #[.int .i64 a0_0, .int .i64 a0_1, .int .i64 a0_2], .int .i64 a1, .int .i64 a2] rfl (by (try simp only [List.map_toArray, List.map_cons, List.map_nil]); first | done | rfl | (simp only [List.length_drop, List.length_take]; rfl)) ?_; (with_reducible refine (sakiaref08_Evict.calls a0_0 a0_1 a0_2 a1 a2 t281 t282 t283 t284 _ A11.out).mono ?_); rintro e w64 ⟨rfl, hb⟩; refine ⟨_, rfl, ?_⟩; have n0_ := Aside0.mk (blk_below (g := gb250) (o := .cells #[.int .i64 a0_0, .int .i64 a0_1, .int .i64 a0_2] 23 (0, 0)) (by (with_reducible repeat (first | apply kN | apply kD | apply kA)); refine blk_far ?_ NB250_280.out _; (with_reducible repeat (first | apply kN | apply kD | apply kA)); refine blk_far ?_ NB250_280.out _; (with_reducible repeat (first | apply kN | apply kD | apply kA)); refine blk_far ?_ NB250_280.out _; (with_reducible repeat (first | apply kN | apply kD | apply kA)); exact BK250.out) hb); have n1_ := Aside0.mk (blk_below (g := gb257) (o := .cells #[.int .i64 t252, .int .i64 t253, .int .i64 t254] 23 (0, 0)) (by (with_reducible repeat (first | apply kN | apply kD | apply kA)); refine blk_far ?_ NB257_280.out _; (with_reducible repeat (first | apply kN | apply kD | apply kA)); refine blk_far ?_ NB257_280.out _; (with_reducible repeat (first | apply kN | apply kD | apply kA)); refine blk_far ?_ NB257_280.out _; (with_reducible repeat (first | apply kN | apply kD | apply kA)); exact BK257.out) hb); have n2_ := Aside0.mk (blk_below (g := gb263) (o := .cells #[.int .i64 t258, .int .i64 t259, .int .i64 t260] 23 (0, 0)) (by (with_reducible repeat (first | apply kN | apply kD | apply kA)); refine blk_far ?_ NB263_280.out _; (with_reducible repeat (first | apply kN | apply kD | apply kA)); refine blk_far ?_ NB263_280.out _; (with_reducible repeat (first | apply kN | apply kD | apply kA)); refine blk_far ?_ NB263_280.out _; (with_reducible repeat (first | apply kN | apply kD | apply kA)); exact BK263.out) hb); have n3_ := Aside0.mk (blk_below (g := gb269) (o := .cells #[.int .i64 t264, .int .i64 t265, .int .i64 t266] 23 (0, 0)) (by (with_reducible repeat (first | apply kN | apply kD | apply kA)); refine blk_far ?_ NB269_280.out _; (with_reducible repeat (first | apply kN | apply kD | apply kA)); refine blk_far ?_ NB269_280.out _; (with_reducible repeat (first | apply kN | apply kD | apply kA)); refine blk_far ?_ NB269_280.out _; (with_reducible repeat (first | apply kN | apply kD | apply kA)); exact BK269.out) hb); have n4_ := Aside0.mk (blk_below (g := gb275) (o := .cells #[.int .i64 t270, .int .i64 t271, .int .i64 t272] 23 (0, 0)) (by (with_reducible repeat (first | apply kN | apply kD | apply kA)); refine blk_far ?_ NB275_280.out _; (with_reducible repeat (first | apply kN | apply kD | apply kA)); refine blk_far ?_ NB275_280.out _; (with_reducible repeat (first | apply kN | apply kD | apply kA)); refine blk_far ?_ NB275_280.out _; (with_reducible repeat (first | apply kN | apply kD | apply kA)); exact BK275.out) hb); have n5_ := Aside0.mk (blk_below (g := gb280) (o := .cells #[.int .i64 t276, .int .i64 t277, .int .i64 t278] 23 (0, 0)) (by (with_reducible repeat (first | apply kN | apply kD | apply kA)); refine blk_put (cs := #[.int .i64 t276, .int .i64 t277, .int .i64 0]) ?_ 2 _ rfl; (with_reducible repeat (first | apply kN | apply kD | apply kA)); refine blk_put (cs := #[.int .i64 t276, .int .i64 0, .int .i64 0]) ?_ 1 _ rfl; (with_reducible repeat (first | apply kN | apply kD | apply kA)); refine blk_put (cs := #[.int .i64 0, .int .i64 0, .int .i64 0]) ?_ 0 _ rfl; (with_reducible repeat (first | apply kN | apply kD | apply kA)); exact BK280.out) hb); have n6_ := Aside0.mk (below_step (by repeat (first | (with_reducible first | exact HB.out | apply bA | apply bN | apply bD | refine below_set ?_ GE250.out | refine below_set ?_ GE257.out | refine below_set ?_ GE263.out | refine below_set ?_ GE269.out | refine below_set ?_ GE275.out | refine below_set ?_ GE280.out) | exact HB.out)) hb); clear BK250; clear BK257; clear BK263; clear BK269; clear BK275; clear BK280; clear HB; have BK250 := n0_; have BK257 := n1_; have BK263 := n2_; have BK269 := n3_; have BK275 := n4_; have BK280 := n5_; have HB := n6_; clear n0_ n1_ n2_ n3_ n4_ n5_ n6_; (try clear hb); (try clear hb2); (try clear hk); (try clear hi)) | ((with_reducible refine gate_dst (N := 24) rfl ?_); refine box_event ?hg (N := 24) ?hd (cs := #[.int .i64 0, .int .i64 0, .int .i64 0]) (t := 23) ?hr ?_; (case hd => rfl); (case hg => rfl); (case hr => first | (go_simp; done) | (go_simp; rfl)); intro gb285 hg w65 hbox hb; have n0_ := Aside0.mk (blk_below (g := gb250) (o := .cells #[.int .i64 a0_0, .int .i64 a0_1, .int .i64 a0_2] 23 (0, 0)) (by (with_reducible repeat (first | apply kN | apply kD | apply kA)); exact BK250.out) hb); have n1_ := Aside0.mk (blk_below (g := gb257) (o := .cells #[.int .i64 t252, .int .i64 t253, .int .i64 t254] 23 (0, 0)) (by (with_reducible repeat (first | apply kN | apply kD | apply kA)); exact BK257.out) hb); have n2_ := Aside0.mk (blk_below (g := gb263) (o := .cells #[.int .i64 t258, .int .i64 t259, .int .i64 t260] 23 (0, 0)) (by (with_reducible repeat (first | apply kN | apply kD | apply kA)); exact BK263.out) hb); have n3_ := Aside0.mk (blk_below (g := gb269) (o := .cells #[.int .i64 t264, .int .i64 t265, .int .i64 t266] 23 (0, 0)) (by (with_reducible repeat (first | apply kN | apply kD | apply kA)); exact BK269.out) hb); have n4_ := Aside0.mk (blk_below (g := gb275) (o := .cells #[.int .i64 t270, .int .i64 t271, .int .i64 t272] 23 (0, 0)) (by (with_reducible repeat (first | apply kN | apply kD | apply kA)); exact BK275.out) hb); have n5_ := Aside0.mk (blk_below (g := gb280) (o := .cells #[.int .i64 t276, .int .i64 t277, .int .i64 t278] 23 (0, 0)) (by (with_reducible repeat (first | apply kN | apply kD | apply kA)); exact BK280.out) hb); have n6_ := Aside0.mk (below_step (by repeat (first | (with_reducible first | exact HB.out | apply bA | apply bN | apply bD | refine below_set ?_ GE250.out | refine below_set ?_ GE257.out | refine below_set ?_ GE263.out | refine below_set ?_ GE269.out | refine below_set ?_ GE275.out | refine below_set ?_ GE280.out) | exact HB.out)) hb); have n7_ := Aside0.mk (hbox); have n8_ := Aside0.mk ((by rw [hg]; exact (below_size (by repeat (first | (with_reducible first | exact HB.out | apply bA | apply bN | apply bD | refine below_set ?_ GE250.out | refine below_set ?_ GE257.out | refine below_set ?_ GE263.out | refine below_set ?_ GE269.out | refine below_set ?_ GE275.out | refine below_set ?_ GE280.out) | exact HB.out))) : w.heap.size ≤ gb285)); have n9_ := Aside0.mk ((by rw [hg]; exact (below_size (by repeat (first | (with_reducible first | exact HB.out | apply bA | apply bN | apply bD | refine below_set ?_ GE250.out | refine below_set ?_ GE257.out | refine below_set ?_ GE263.out | refine below_set ?_ GE269.out | refine below_set ?_ GE275.out | refine below_set ?_ GE280.out) | exact HB.out))) : w.heap.size ≤ gb285)); have n10_ := Aside0.mk ((by rw [hg]; exact Nat.ne_of_lt (blk_lt (g := gb250) (o := .cells #[.int .i64 a0_0, .int .i64 a0_1, .int .i64 a0_2] 23 (0, 0)) (by (with_reducible repeat (first | apply kN | apply kD | apply kA)); exact BK250.out)) : gb250 ≠ gb285)); have n11_ := Aside0.mk ((by rw [hg]; exact Nat.ne_of_gt (blk_lt (g := gb250) (o := .cells #[.int .i64 a0_0, .int .i64 a0_1, .int .i64 a0_2] 23 (0, 0)) (by (with_reducible repeat (first | apply kN | apply kD | apply kA)); exact BK250.out)) : gb285 ≠ gb250)); have n12_ := Aside0.mk ((by rw [hg]; exact Nat.ne_of_lt (blk_lt (g := gb257) (o := .cells #[.int .i64 t252, .int .i64 t253, .int .i64 t254] 23 (0, 0)) (by (with_reducible repeat (first | apply kN | apply kD | apply kA)); exact BK257.out)) : gb257 ≠ gb285)); have n13_ := Aside0.mk ((by rw [hg]; exact Nat.ne_of_gt (blk_lt (g := gb257) (o := .cells #[.int .i64 t252, .int .i64 t253, .int .i64 t254] 23 (0, 0)) (by (with_reducible repeat (first | apply kN | apply kD | apply kA)); exact BK257.out)) : gb285 ≠ gb257)); have n14_ := Aside0.mk ((by rw [hg]; exact Nat.ne_of_lt (blk_lt (g := gb263) (o := .cells #[.int .i64 t258, .int .i64 t259, .int .i64 t260] 23 (0, 0)) (by (with_reducible repeat (first | apply kN | apply kD | apply kA)); exact BK263.out)) : gb263 ≠ gb285)); have n15_ := Aside0.mk ((by rw [hg]; exact Nat.ne_of_gt (blk_lt (g := gb263) (o := .cells #[.int .i64 t258, .int .i64 t259, .int .i64 t260] 23 (0, 0)) (by (with_reducible repeat (first | apply kN | apply kD | apply kA)); exact BK263.out)) : gb285 ≠ gb263)); have n16_ := Aside0.mk ((by rw [hg]; exact Nat.ne_of_lt (blk_lt (g := gb269) (o := .cells #[.int .i64 t264, .int .i64 t265, .int .i64 t266] 23 (0, 0)) (by (with_reducible repeat (first | apply kN | apply kD | apply kA)); exact BK269.out)) : gb269 ≠ gb285)); have n17_ := Aside0.mk ((by rw [hg]; exact Nat.ne_of_gt (blk_lt (g := gb269) (o := .cells #[.int .i64 t264, .int .i64 t265, .int .i64 t266] 23 (0, 0)) (by (with_reducible repeat (first | apply kN | apply kD | apply kA)); exact BK269.out)) : gb285 ≠ gb269)); have n18_ := Aside0.mk ((by rw [hg]; exact Nat.ne_of_lt (blk_lt (g := gb275) (o := .cells #[.int .i64 t270, .int .i64 t271, .int .i64 t272] 23 (0, 0)) (by (with_reducible repeat (first | apply kN | apply kD | apply kA)); exact BK275.out)) : gb275 ≠ gb285)); have n19_ := Aside0.mk ((by rw [hg]; exact Nat.ne_of_gt (blk_lt (g := gb275) (o := .cells #[.int .i64 t270, .int .i64 t271, .int .i64 t272] 23 (0, 0)) (by (with_reducible repeat (first | apply kN | apply kD | apply kA)); exact BK275.out)) : gb285 ≠ gb275)); have n20_ := Aside0.mk ((by rw [hg]; exact Nat.ne_of_lt (blk_lt (g := gb280) (o := .cells #[.int .i64 t276, .int .i64 t277, .int .i64 t278] 23 (0, 0)) (by (with_reducible repeat (first | apply kN | apply kD | apply kA)); exact BK280.out)) : gb280 ≠ gb285)); have n21_ := Aside0.mk ((by rw [hg]; exact Nat.ne_of_gt (blk_lt (g := gb280) (o := .cells #[.int .i64 t276, .int .i64 t277, .int .i64 t278] 23 (0, 0)) (by (with_reducible repeat (first | apply kN | apply kD | apply kA)); exact BK280.out)) : gb285 ≠ gb280)); clear BK250; clear BK257; clear BK263; clear BK269; clear BK275; clear BK280; clear HB; have BK250 := n0_; have BK257 := n1_; have BK263 := n2_; have BK269 := n3_; have BK275 := n4_; have BK280 := n5_; have HB := n6_; have BK285 := n7_; have GW285 := n8_; have GE285 := n9_; have NB250_285 := n10_; have NB285_250 := n11_; have NB257_285 := n12_; have NB285_257 := n13_; have NB263_285 := n14_; have NB285_263 := n15_; have NB269_285 := n16_; have NB285_269 := n17_; have NB275_285 := n18_; have NB285_275 := n19_; have NB280_285 := n20_; have NB285_280 := n21_; clear n0_ n1_ n2_ n3_ n4_ n5_ n6_ n7_ n8_ n9_ n10_ n11_ n12_ n13_ n14_ n15_ n16_ n17_ n18_ n19_ n20_ n21_; clear hb hbox hg; have hnb66 := NB285_250.out; have hnc66 := NB250_285.out; have hnb67 := NB285_257.out; have hnc67 := NB257_285.out; have hnb68 := NB285_263.out; have hnc68 := NB263_285.out; have hnb69 := NB285_269.out; have hnc69 := NB269_285.out; have hnb70 := NB285_275.out; have hnc70 := NB275_285.out; have hnb71 := NB285_280.out; have hnc71 := NB280_285.out; obtain ⟨hcz72_0, hcz72_1, hcz72_2, hfz72_0, hfz72_1, hfz72_2⟩ := cells3 (w := w65) (g := gb285) BK285.out; obtain ⟨hcz73_0, hcz73_1, hcz73_2, hfz73_0, hfz73_1, hfz73_2⟩ := cells3 (w := w65) (g := gb250) BK250.out) | ((with_reducible refine gate_callee (f := 22) rfl ?_); refine goesL_ (some 74) rfl rfl Try.func22 (by kernel_rfl) rfl #[.agg #[.int .i64 a0_0, .int .i64 a0_1, .int .i64 a0_2], .int .i64 a1] rfl (by (try simp only [List.map_toArray, List.map_cons, List.map_nil]); first | done | rfl | (simp only [List.length_drop, List.length_take]; rfl)) ?_; (with_reducible refine (word_Sees.calls k a0_0 a0_1 a0_2 a1 t286 t287 _ A12.out).mono ?_); rintro e w74 ⟨rfl, hb⟩; refine ⟨_, rfl, ?_⟩; have n0_ := Aside0.mk (blk_below (g := gb250) (o := .cells #[.int .i64 a0_0, .int .i64 a0_1, .int .i64 a0_2] 23 (0, 0)) (by (with_reducible repeat (first | apply kN | apply kD | apply kA)); refine blk_far ?_ NB250_285.out _; (with_reducible repeat (first | apply kN | apply kD | apply kA)); refine blk_far ?_ NB250_285.out _; (with_reducible repeat (first | apply kN | apply kD | apply kA)); refine blk_far ?_ NB250_285.out _; (with_reducible repeat (first | apply kN | apply kD | apply kA)); exact BK250.out) hb); have n1_ := Aside0.mk (blk_below (g := gb257) (o := .cells #[.int .i64 t252, .int .i64 t253, .int .i64 t254] 23 (0, 0)) (by (with_reducible repeat (first | apply kN | apply kD | apply kA)); refine blk_far ?_ NB257_285.out _; (with_reducible repeat (first | apply kN | apply kD | apply kA)); refine blk_far ?_ NB257_285.out _; (with_reducible repeat (first | apply kN | apply kD | apply kA)); refine blk_far ?_ NB257_285.out _; (with_reducible repeat (first | apply kN | apply kD | apply kA)); exact BK257.out) hb); have n2_ := Aside0.mk (blk_below (g := gb263) (o := .cells #[.int .i64 t258, .int .i64 t259, .int .i64 t260] 23 (0, 0)) (by (with_reducible repeat (first | apply kN | apply kD | apply kA)); refine blk_far ?_ NB263_285.out _; (with_reducible repeat (first | apply kN | apply kD | apply kA)); refine blk_far ?_ NB263_285.out _; (with_reducible repeat (first | apply kN | apply kD | apply kA)); refine blk_far ?_ NB263_285.out _; (with_reducible repeat (first | apply kN | apply kD | apply kA)); exact BK263.out) hb); have n3_ := Aside0.mk (blk_below (g := gb269) (o := .cells #[.int .i64 t264, .int .i64 t265, .int .i64 t266] 23 (0, 0)) (by (with_reducible repeat (first | apply kN | apply kD | apply kA)); refine blk_far ?_ NB269_285.out _; (with_reducible repeat (first | apply kN | apply kD | apply kA)); refine blk_far ?_ NB269_285.out _; (with_reducible repeat (first | apply kN | apply kD | apply kA)); refine blk_far ?_ NB269_285.out _; (with_reducible repeat (first | apply kN | apply kD | apply kA)); exact BK269.out) hb); have n4_ := Aside0.mk (blk_below (g := gb275) (o := .cells #[.int .i64 t270, .int .i64 t271, .int .i64 t272] 23 (0, 0)) (by (with_reducible repeat (first | apply kN | apply kD | apply kA)); refine blk_far ?_ NB275_285.out _; (with_reducible repeat (first | apply kN | apply kD | apply kA)); refine blk_far ?_ NB275_285.out _; (with_reducible repeat (first | apply kN | apply kD | apply kA)); refine blk_far ?_ NB275_285.out _; (with_reducible repeat (first | apply kN | apply kD | apply kA)); exact BK275.out) hb); have n5_ := Aside0.mk (blk_below (g := gb280) (o := .cells #[.int .i64 t276, .int .i64 t277, .int .i64 t278] 23 (0, 0)) (by (with_reducible repeat (first | apply kN | apply kD | apply kA)); refine blk_far ?_ NB280_285.out _; (with_reducible repeat (first | apply kN | apply kD | apply kA)); refine blk_far ?_ NB280_285.out _; (with_reducible repeat (first | apply kN | apply kD | apply kA)); refine blk_far ?_ NB280_285.out _; (with_reducible repeat (first | apply kN | apply kD | apply kA)); exact BK280.out) hb); have n6_ := Aside0.mk (blk_below (g := gb285) (o := .cells #[.int .i64 t281, .int .i64 t282, .int .i64 t283] 23 (0, 0)) (by (with_reducible repeat (first | apply kN | apply kD | apply kA)); refine blk_put (cs := #[.int .i64 t281, .int .i64 t282, .int .i64 0]) ?_ 2 _ rfl; (with_reducible repeat (first | apply kN | apply kD | apply kA)); refine blk_put (cs := #[.int .i64 t281, .int .i64 0, .int .i64 0]) ?_ 1 _ rfl; (with_reducible repeat (first | apply kN | apply kD | apply kA)); refine blk_put (cs := #[.int .i64 0, .int .i64 0, .int .i64 0]) ?_ 0 _ rfl; (with_reducible repeat (first | apply kN | apply kD | apply kA)); exact BK285.out) hb); have n7_ := Aside0.mk (below_step (by repeat (first | (with_reducible first | exact HB.out | apply bA | apply bN | apply bD | refine below_set ?_ GE250.out | refine below_set ?_ GE257.out | refine below_set ?_ GE263.out | refine below_set ?_ GE269.out | refine below_set ?_ GE275.out | refine below_set ?_ GE280.out | refine below_set ?_ GE285.out) | exact HB.out)) hb); clear BK250; clear BK257; clear BK263; clear BK269; clear BK275; clear BK280; clear BK285; clear HB; have BK250 := n0_; have BK257 := n1_; have BK263 := n2_; have BK269 := n3_; have BK275 := n4_; have BK280 := n5_; have BK285 := n6_; have HB := n7_; clear n0_ n1_ n2_ n3_ n4_ n5_ n6_ n7_; (try clear hb); (try clear hb2); (try clear hk); (try clear hi)))
            have n0_ := Aside0.mk (blk_drew BK250.out)
            have n1_ := Aside0.mk (blk_drew BK257.out)
            have n2_ := Aside0.mk (blk_drew BK263.out)
            have n3_ := Aside0.mk (blk_drew BK269.out)
            have n4_ := Aside0.mk (blk_drew BK275.out)
            have n5_ := Aside0.mk (blk_drew BK280.out)
            have n6_ := Aside0.mk (blk_drew BK285.out)
            have n7_ := Aside0.mk (below_drew1 HB.out)
            clear BK250
            clear BK257
            clear BK263
            clear BK269
            clear BK275
            clear BK280
            clear BK285
            clear HB
            have BK250 := n0_
            have BK257 := n1_
            have BK263 := n2_
            have BK269 := n3_
            have BK275 := n4_
            have BK280 := n5_
            have BK285 := n6_
            have HB := n7_
            clear n0_ n1_ n2_ n3_ n4_ n5_ n6_ n7_
            refine start_ (n := 61) (S := fun w' => w'.cell? ⟨gb257, 0, none⟩ = some (.int .i64 t252) ∧ w'.cell? ⟨gb257, 1, none⟩ = some (.int .i64 t253) ∧ w'.cell? ⟨gb257, 2, none⟩ = some (.int .i64 t254) ∧ w'.cell? ⟨gb263, 0, none⟩ = some (.int .i64 t258) ∧ w'.cell? ⟨gb263, 1, none⟩ = some (.int .i64 t259) ∧ w'.cell? ⟨gb263, 2, none⟩ = some (.int .i64 t260) ∧ w'.cell? ⟨gb269, 0, none⟩ = some (.int .i64 t264) ∧ w'.cell? ⟨gb269, 1, none⟩ = some (.int .i64 t265) ∧ w'.cell? ⟨gb269, 2, none⟩ = some (.int .i64 t266) ∧ w'.cell? ⟨gb275, 0, none⟩ = some (.int .i64 t270) ∧ w'.cell? ⟨gb275, 1, none⟩ = some (.int .i64 t271) ∧ w'.cell? ⟨gb275, 2, none⟩ = some (.int .i64 t272) ∧ w'.cell? ⟨gb280, 0, none⟩ = some (.int .i64 t276) ∧ w'.cell? ⟨gb280, 1, none⟩ = some (.int .i64 t277) ∧ w'.cell? ⟨gb280, 2, none⟩ = some (.int .i64 t278) ∧ w'.cell? ⟨gb285, 0, none⟩ = some (.int .i64 t281) ∧ w'.cell? ⟨gb285, 1, none⟩ = some (.int .i64 t282) ∧ w'.cell? ⟨gb285, 2, none⟩ = some (.int .i64 t283) ∧ w'.cell? ⟨gb250, 0, none⟩ = some (.int .i64 a0_0) ∧ w'.cell? ⟨gb250, 1, none⟩ = some (.int .i64 a0_1) ∧ w'.cell? ⟨gb250, 2, none⟩ = some (.int .i64 a0_2)) (ds := []) #[false, false, false, false, false, false, false, false, false, false, false, false, false, false, false, false, false, false, false, false, false, false, false, false, false, false, false, false, false, false, false, false, false, false, false, false, false, false, false, false, false, false, false, false, false, false, false, false, false, false, false, false, false, false, false, false, false, false, false, false, false] (by kernel_rfl) rfl rfl ⟨(blk_cell BK257.out 0).trans rfl, (blk_cell BK257.out 1).trans rfl, (blk_cell BK257.out 2).trans rfl, (blk_cell BK263.out 0).trans rfl, (blk_cell BK263.out 1).trans rfl, (blk_cell BK263.out 2).trans rfl, (blk_cell BK269.out 0).trans rfl, (blk_cell BK269.out 1).trans rfl, (blk_cell BK269.out 2).trans rfl, (blk_cell BK275.out 0).trans rfl, (blk_cell BK275.out 1).trans rfl, (blk_cell BK275.out 2).trans rfl, (blk_cell BK280.out 0).trans rfl, (blk_cell BK280.out 1).trans rfl, (blk_cell BK280.out 2).trans rfl, (blk_cell BK285.out 0).trans rfl, (blk_cell BK285.out 1).trans rfl, (blk_cell BK285.out 2).trans rfl, (blk_cell BK250.out 0).trans rfl, (blk_cell BK250.out 1).trans rfl, (blk_cell BK250.out 2).trans rfl⟩ (fun hHeld => ?_); refine with_tabW sakialaw08_WordTells.tab9 sakialaw08_WordTells.bits9 (fun HT_ HW_ => ?_)
            generalize w74.drew = w75 at BK250 BK257 BK263 BK269 BK275 BK280 BK285 HB hHeld ⊢
            refine pure_ (i := 0) (N := some 77) (v := ?_) (a' := ?_) #[true, false, false, false, false, false, false, false, false, false, false, false, false, false, false, false, false, false, false, false, false, false, false, false, false, false, false, false, false, false, false, false, false, false, false, false, false, false, false, false, false, false, false, false, false, false, false, false, false, false, false, false, false, false, false, false, false, false, false, false, false] rfl rfl (any_of HT_.out (by kernel_rfl)) (fun _ _ _ h => h) (Or.inl ⟨by rfl, ?_⟩) ?_ ?_
            rotate_left
            ·intro w'
             go_simp
             with_reducible rfl
            rotate_left
            ·simp only [Act.put, List.setIfInBounds_toArray, List.set_cons_zero, List.set_cons_succ, i64_w, i32_w]
             rfl
            refine pure_ (i := 1) (N := some 78) (v := ?_) (a' := ?_) #[true, true, false, false, false, false, false, false, false, false, false, false, false, false, false, false, false, false, false, false, false, false, false, false, false, false, false, false, false, false, false, false, false, false, false, false, false, false, false, false, false, false, false, false, false, false, false, false, false, false, false, false, false, false, false, false, false, false, false, false, false] rfl rfl (any_of HT_.out (by kernel_rfl)) (fun _ _ _ h => h) (Or.inl ⟨by rfl, ?_⟩) ?_ ?_
            rotate_left
            ·intro w'
             go_simp
             with_reducible rfl
            rotate_left
            ·simp only [Act.put, List.setIfInBounds_toArray, List.set_cons_zero, List.set_cons_succ, i64_w, i32_w]
             rfl
            refine take_ (i := 2) (N := some 79) (v := ?_) (a' := ?_) #[true, true, true, false, false, false, false, false, false, false, false, false, false, false, false, false, false, false, false, false, false, false, false, false, false, false, false, false, false, false, false, false, false, false, false, false, false, false, false, false, false, false, false, false, false, false, false, false, false, false, false, false, false, false, false, false, false, false, false, false, false] rfl rfl (take_ofW HT_.out HW_.out (by kernel_rfl)) (fun _ _ _ h => h) (Or.inl ⟨by rfl, ?_⟩) hHeld ?_ ?_
            rotate_left
            ·rintro w' ⟨s0, s1, s2, s3, s4, s5, s6, s7, s8, s9, s10, s11, s12, s13, s14, s15, s16, s17, s18, s19, s20⟩
             go_simp
             with_reducible rfl
            rotate_left
            ·simp only [Act.put, List.setIfInBounds_toArray, List.set_cons_zero, List.set_cons_succ, i64_w, i32_w]
             rfl
            refine take_ (i := 3) (N := some 80) (v := ?_) (a' := ?_) #[true, true, true, true, false, false, false, false, false, false, false, false, false, false, false, false, false, false, false, false, false, false, false, false, false, false, false, false, false, false, false, false, false, false, false, false, false, false, false, false, false, false, false, false, false, false, false, false, false, false, false, false, false, false, false, false, false, false, false, false, false] rfl rfl (take_ofW HT_.out HW_.out (by kernel_rfl)) (fun _ _ _ h => h) (Or.inl ⟨by rfl, ?_⟩) hHeld ?_ ?_
            rotate_left
            ·rintro w' ⟨s0, s1, s2, s3, s4, s5, s6, s7, s8, s9, s10, s11, s12, s13, s14, s15, s16, s17, s18, s19, s20⟩
             go_simp
             with_reducible rfl
            rotate_left
            ·simp only [Act.put, List.setIfInBounds_toArray, List.set_cons_zero, List.set_cons_succ, i64_w, i32_w]
             rfl
            refine pure_ (i := 4) (N := some 81) (v := ?_) (a' := ?_) #[true, true, true, true, true, false, false, false, false, false, false, false, false, false, false, false, false, false, false, false, false, false, false, false, false, false, false, false, false, false, false, false, false, false, false, false, false, false, false, false, false, false, false, false, false, false, false, false, false, false, false, false, false, false, false, false, false, false, false, false, false] rfl rfl (any_of HT_.out (by kernel_rfl)) (fun _ _ _ h => h) (Or.inl ⟨by rfl, ?_⟩) ?_ ?_
            rotate_left
            ·intro w'
             go_simp
             with_reducible rfl
            rotate_left
            ·simp only [Act.put, List.setIfInBounds_toArray, List.set_cons_zero, List.set_cons_succ, i64_w, i32_w]
             rfl
            refine pure_ (i := 5) (N := some 82) (v := ?_) (a' := ?_) #[true, true, true, true, true, true, false, false, false, false, false, false, false, false, false, false, false, false, false, false, false, false, false, false, false, false, false, false, false, false, false, false, false, false, false, false, false, false, false, false, false, false, false, false, false, false, false, false, false, false, false, false, false, false, false, false, false, false, false, false, false] rfl rfl (any_of HT_.out (by kernel_rfl)) (fun _ _ _ h => h) (Or.inl ⟨by rfl, ?_⟩) ?_ ?_
            rotate_left
            ·intro w'
             go_simp
             with_reducible rfl
            rotate_left
            ·simp only [Act.put, List.setIfInBounds_toArray, List.set_cons_zero, List.set_cons_succ, i64_w, i32_w]
             rfl
            refine pure_ (i := 6) (N := some 83) (v := ?_) (a' := ?_) #[true, true, true, true, true, true, true, false, false, false, false, false, false, false, false, false, false, false, false, false, false, false, false, false, false, false, false, false, false, false, false, false, false, false, false, false, false, false, false, false, false, false, false, false, false, false, false, false, false, false, false, false, false, false, false, false, false, false, false, false, false] rfl rfl (any_of HT_.out (by kernel_rfl)) (fun _ _ _ h => h) (Or.inl ⟨by rfl, ?_⟩) ?_ ?_
            rotate_left
            ·intro w'
             go_simp
             with_reducible rfl
            rotate_left
            ·simp only [Act.put, List.setIfInBounds_toArray, List.set_cons_zero, List.set_cons_succ, i64_w, i32_w]
             rfl
            refine pure_ (i := 7) (N := some 84) (v := ?_) (a' := ?_) #[true, true, true, true, true, true, true, true, false, false, false, false, false, false, false, false, false, false, false, false, false, false, false, false, false, false, false, false, false, false, false, false, false, false, false, false, false, false, false, false, false, false, false, false, false, false, false, false, false, false, false, false, false, false, false, false, false, false, false, false, false] rfl rfl (any_of HT_.out (by kernel_rfl)) (fun _ _ _ h => h) (Or.inl ⟨by rfl, ?_⟩) ?_ ?_
            rotate_left
            ·intro w'
             go_simp
             with_reducible rfl
            rotate_left
            ·simp only [Act.put, List.setIfInBounds_toArray, List.set_cons_zero, List.set_cons_succ, i64_w, i32_w]
             rfl
            refine pure_ (i := 8) (N := some 85) (v := ?_) (a' := ?_) #[true, true, true, true, true, true, true, true, true, false, false, false, false, false, false, false, false, false, false, false, false, false, false, false, false, false, false, false, false, false, false, false, false, false, false, false, false, false, false, false, false, false, false, false, false, false, false, false, false, false, false, false, false, false, false, false, false, false, false, false, false] rfl rfl (any_of HT_.out (by kernel_rfl)) (fun _ _ _ h => h) (Or.inl ⟨by rfl, ?_⟩) ?_ ?_
            rotate_left
            ·intro w'
             go_simp
             with_reducible rfl
            rotate_left
            ·simp only [Act.put, List.setIfInBounds_toArray, List.set_cons_zero, List.set_cons_succ, i64_w, i32_w]
             rfl
            refine pure_ (i := 9) (N := some 86) (v := ?_) (a' := ?_) #[true, true, true, true, true, true, true, true, true, true, false, false, false, false, false, false, false, false, false, false, false, false, false, false, false, false, false, false, false, false, false, false, false, false, false, false, false, false, false, false, false, false, false, false, false, false, false, false, false, false, false, false, false, false, false, false, false, false, false, false, false] rfl rfl (any_of HT_.out (by kernel_rfl)) (fun _ _ _ h => h) (Or.inl ⟨by rfl, ?_⟩) ?_ ?_
            rotate_left
            ·intro w'
             go_simp
             with_reducible rfl
            rotate_left
            ·simp only [Act.put, List.setIfInBounds_toArray, List.set_cons_zero, List.set_cons_succ, i64_w, i32_w]
             rfl
            refine pure_ (i := 10) (N := some 87) (v := ?_) (a' := ?_) #[true, true, true, true, true, true, true, true, true, true, true, false, false, false, false, false, false, false, false, false, false, false, false, false, false, false, false, false, false, false, false, false, false, false, false, false, false, false, false, false, false, false, false, false, false, false, false, false, false, false, false, false, false, false, false, false, false, false, false, false, false] rfl rfl (any_of HT_.out (by kernel_rfl)) (fun _ _ _ h => h) (Or.inl ⟨by rfl, ?_⟩) ?_ ?_
            rotate_left
            ·intro w'
             go_simp
             with_reducible rfl
            rotate_left
            ·simp only [Act.put, List.setIfInBounds_toArray, List.set_cons_zero, List.set_cons_succ, i64_w, i32_w]
             rfl
            refine pure_ (i := 11) (N := some 88) (v := ?_) (a' := ?_) #[true, true, true, true, true, true, true, true, true, true, true, true, false, false, false, false, false, false, false, false, false, false, false, false, false, false, false, false, false, false, false, false, false, false, false, false, false, false, false, false, false, false, false, false, false, false, false, false, false, false, false, false, false, false, false, false, false, false, false, false, false] rfl rfl (any_of HT_.out (by kernel_rfl)) (fun _ _ _ h => h) (Or.inl ⟨by rfl, ?_⟩) ?_ ?_
            rotate_left
            ·intro w'
             go_simp
             with_reducible rfl
            rotate_left
            ·simp only [Act.put, List.setIfInBounds_toArray, List.set_cons_zero, List.set_cons_succ, i64_w, i32_w]
             rfl
            refine pure_ (i := 12) (N := some 89) (v := ?_) (a' := ?_) #[true, true, true, true, true, true, true, true, true, true, true, true, true, false, false, false, false, false, false, false, false, false, false, false, false, false, false, false, false, false, false, false, false, false, false, false, false, false, false, false, false, false, false, false, false, false, false, false, false, false, false, false, false, false, false, false, false, false, false, false, false] rfl rfl (any_of HT_.out (by kernel_rfl)) (fun _ _ _ h => h) (Or.inl ⟨by rfl, ?_⟩) ?_ ?_
            rotate_left
            ·intro w'
             go_simp
             with_reducible rfl
            rotate_left
            ·simp only [Act.put, List.setIfInBounds_toArray, List.set_cons_zero, List.set_cons_succ, i64_w, i32_w]
             rfl
            refine pure_ (i := 13) (N := some 90) (v := ?_) (a' := ?_) #[true, true, true, true, true, true, true, true, true, true, true, true, true, true, false, false, false, false, false, false, false, false, false, false, false, false, false, false, false, false, false, false, false, false, false, false, false, false, false, false, false, false, false, false, false, false, false, false, false, false, false, false, false, false, false, false, false, false, false, false, false] rfl rfl (any_of HT_.out (by kernel_rfl)) (fun _ _ _ h => h) (Or.inl ⟨by rfl, ?_⟩) ?_ ?_
            rotate_left
            ·intro w'
             go_simp
             with_reducible rfl
            rotate_left
            ·simp only [Act.put, List.setIfInBounds_toArray, List.set_cons_zero, List.set_cons_succ, i64_w, i32_w]
             rfl
            refine pure_ (i := 14) (N := some 91) (v := ?_) (a' := ?_) #[true, true, true, true, true, true, true, true, true, true, true, true, true, true, true, false, false, false, false, false, false, false, false, false, false, false, false, false, false, false, false, false, false, false, false, false, false, false, false, false, false, false, false, false, false, false, false, false, false, false, false, false, false, false, false, false, false, false, false, false, false] rfl rfl (any_of HT_.out (by kernel_rfl)) (fun _ _ _ h => h) (Or.inl ⟨by rfl, ?_⟩) ?_ ?_
            rotate_left
            ·intro w'
             go_simp
             with_reducible rfl
            rotate_left
            ·simp only [Act.put, List.setIfInBounds_toArray, List.set_cons_zero, List.set_cons_succ, i64_w, i32_w]
             rfl
            refine pure_ (i := 15) (N := some 92) (v := ?_) (a' := ?_) #[true, true, true, true, true, true, true, true, true, true, true, true, true, true, true, true, false, false, false, false, false, false, false, false, false, false, false, false, false, false, false, false, false, false, false, false, false, false, false, false, false, false, false, false, false, false, false, false, false, false, false, false, false, false, false, false, false, false, false, false, false] rfl rfl (any_of HT_.out (by kernel_rfl)) (fun _ _ _ h => h) (Or.inl ⟨by rfl, ?_⟩) ?_ ?_
            rotate_left
            ·intro w'
             go_simp
             with_reducible rfl
            rotate_left
            ·simp only [Act.put, List.setIfInBounds_toArray, List.set_cons_zero, List.set_cons_succ, i64_w, i32_w]
             rfl
            refine pure_ (i := 16) (N := some 93) (v := ?_) (a' := ?_) #[true, true, true, true, true, true, true, true, true, true, true, true, true, true, true, true, true, false, false, false, false, false, false, false, false, false, false, false, false, false, false, false, false, false, false, false, false, false, false, false, false, false, false, false, false, false, false, false, false, false, false, false, false, false, false, false, false, false, false, false, false] rfl rfl (any_of HT_.out (by kernel_rfl)) (fun _ _ _ h => h) (Or.inl ⟨by rfl, ?_⟩) ?_ ?_
            rotate_left
            ·intro w'
             go_simp
             with_reducible rfl
            rotate_left
            ·simp only [Act.put, List.setIfInBounds_toArray, List.set_cons_zero, List.set_cons_succ, i64_w, i32_w]
             rfl
            refine take_ (i := 17) (N := some 94) (v := ?_) (a' := ?_) #[true, true, true, true, true, true, true, true, true, true, true, true, true, true, true, true, true, true, false, false, false, false, false, false, false, false, false, false, false, false, false, false, false, false, false, false, false, false, false, false, false, false, false, false, false, false, false, false, false, false, false, false, false, false, false, false, false, false, false, false, false] rfl rfl (take_ofW HT_.out HW_.out (by kernel_rfl)) (fun _ _ _ h => h) (Or.inl ⟨by rfl, ?_⟩) hHeld ?_ ?_
            rotate_left
            ·rintro w' ⟨s0, s1, s2, s3, s4, s5, s6, s7, s8, s9, s10, s11, s12, s13, s14, s15, s16, s17, s18, s19, s20⟩
             go_simp
             with_reducible rfl
            rotate_left
            ·simp only [Act.put, List.setIfInBounds_toArray, List.set_cons_zero, List.set_cons_succ, i64_w, i32_w]
             rfl
            refine take_ (i := 18) (N := some 95) (v := ?_) (a' := ?_) #[true, true, true, true, true, true, true, true, true, true, true, true, true, true, true, true, true, true, true, false, false, false, false, false, false, false, false, false, false, false, false, false, false, false, false, false, false, false, false, false, false, false, false, false, false, false, false, false, false, false, false, false, false, false, false, false, false, false, false, false, false] rfl rfl (take_ofW HT_.out HW_.out (by kernel_rfl)) (fun _ _ _ h => h) (Or.inl ⟨by rfl, ?_⟩) hHeld ?_ ?_
            rotate_left
            ·rintro w' ⟨s0, s1, s2, s3, s4, s5, s6, s7, s8, s9, s10, s11, s12, s13, s14, s15, s16, s17, s18, s19, s20⟩
             go_simp
             with_reducible rfl
            rotate_left
            ·simp only [Act.put, List.setIfInBounds_toArray, List.set_cons_zero, List.set_cons_succ, i64_w, i32_w]
             rfl
            refine pure_ (i := 19) (N := some 96) (v := ?_) (a' := ?_) #[true, true, true, true, true, true, true, true, true, true, true, true, true, true, true, true, true, true, true, true, false, false, false, false, false, false, false, false, false, false, false, false, false, false, false, false, false, false, false, false, false, false, false, false, false, false, false, false, false, false, false, false, false, false, false, false, false, false, false, false, false] rfl rfl (any_of HT_.out (by kernel_rfl)) (fun _ _ _ h => h) (Or.inl ⟨by rfl, ?_⟩) ?_ ?_
            rotate_left
            ·intro w'
             go_simp
             with_reducible rfl
            rotate_left
            ·simp only [Act.put, List.setIfInBounds_toArray, List.set_cons_zero, List.set_cons_succ, i64_w, i32_w]
             rfl
            refine pure_ (i := 20) (N := some 97) (v := ?_) (a' := ?_) #[true, true, true, true, true, true, true, true, true, true, true, true, true, true, true, true, true, true, true, true, true, false, false, false, false, false, false, false, false, false, false, false, false, false, false, false, false, false, false, false, false, false, false, false, false, false, false, false, false, false, false, false, false, false, false, false, false, false, false, false, false] rfl rfl (any_of HT_.out (by kernel_rfl)) (fun _ _ _ h => h) (Or.inl ⟨by rfl, ?_⟩) ?_ ?_
            rotate_left
            ·intro w'
             go_simp
             with_reducible rfl
            rotate_left
            ·simp only [Act.put, List.setIfInBounds_toArray, List.set_cons_zero, List.set_cons_succ, i64_w, i32_w]
             rfl
            refine pure_ (i := 21) (N := some 98) (v := ?_) (a' := ?_) #[true, true, true, true, true, true, true, true, true, true, true, true, true, true, true, true, true, true, true, true, true, true, false, false, false, false, false, false, false, false, false, false, false, false, false, false, false, false, false, false, false, false, false, false, false, false, false, false, false, false, false, false, false, false, false, false, false, false, false, false, false] rfl rfl (any_of HT_.out (by kernel_rfl)) (fun _ _ _ h => h) (Or.inl ⟨by rfl, ?_⟩) ?_ ?_
            rotate_left
            ·intro w'
             go_simp
             with_reducible rfl
            rotate_left
            ·simp only [Act.put, List.setIfInBounds_toArray, List.set_cons_zero, List.set_cons_succ, i64_w, i32_w]
             rfl
            refine pure_ (i := 22) (N := some 99) (v := ?_) (a' := ?_) #[true, true, true, true, true, true, true, true, true, true, true, true, true, true, true, true, true, true, true, true, true, true, true, false, false, false, false, false, false, false, false, false, false, false, false, false, false, false, false, false, false, false, false, false, false, false, false, false, false, false, false, false, false, false, false, false, false, false, false, false, false] rfl rfl (any_of HT_.out (by kernel_rfl)) (fun _ _ _ h => h) (Or.inl ⟨by rfl, ?_⟩) ?_ ?_
            rotate_left
            ·intro w'
             go_simp
             with_reducible rfl
            rotate_left
            ·simp only [Act.put, List.setIfInBounds_toArray, List.set_cons_zero, List.set_cons_succ, i64_w, i32_w]
             rfl
            refine pure_ (i := 23) (N := some 100) (v := ?_) (a' := ?_) #[true, true, true, true, true, true, true, true, true, true, true, true, true, true, true, true, true, true, true, true, true, true, true, true, false, false, false, false, false, false, false, false, false, false, false, false, false, false, false, false, false, false, false, false, false, false, false, false, false, false, false, false, false, false, false, false, false, false, false, false, false] rfl rfl (any_of HT_.out (by kernel_rfl)) (fun _ _ _ h => h) (Or.inl ⟨by rfl, ?_⟩) ?_ ?_
            rotate_left
            ·intro w'
             go_simp
             with_reducible rfl
            rotate_left
            ·simp only [Act.put, List.setIfInBounds_toArray, List.set_cons_zero, List.set_cons_succ, i64_w, i32_w]
             rfl
            refine pure_ (i := 24) (N := some 101) (v := ?_) (a' := ?_) #[true, true, true, true, true, true, true, true, true, true, true, true, true, true, true, true, true, true, true, true, true, true, true, true, true, false, false, false, false, false, false, false, false, false, false, false, false, false, false, false, false, false, false, false, false, false, false, false, false, false, false, false, false, false, false, false, false, false, false, false, false] rfl rfl (any_of HT_.out (by kernel_rfl)) (fun _ _ _ h => h) (Or.inl ⟨by rfl, ?_⟩) ?_ ?_
            rotate_left
            ·intro w'
             go_simp
             with_reducible rfl
            rotate_left
            ·simp only [Act.put, List.setIfInBounds_toArray, List.set_cons_zero, List.set_cons_succ, i64_w, i32_w]
             rfl
            refine pure_ (i := 25) (N := some 102) (v := ?_) (a' := ?_) #[true, true, true, true, true, true, true, true, true, true, true, true, true, true, true, true, true, true, true, true, true, true, true, true, true, true, false, false, false, false, false, false, false, false, false, false, false, false, false, false, false, false, false, false, false, false, false, false, false, false, false, false, false, false, false, false, false, false, false, false, false] rfl rfl (any_of HT_.out (by kernel_rfl)) (fun _ _ _ h => h) (Or.inl ⟨by rfl, ?_⟩) ?_ ?_
            rotate_left
            ·intro w'
             go_simp
             with_reducible rfl
            rotate_left
            ·simp only [Act.put, List.setIfInBounds_toArray, List.set_cons_zero, List.set_cons_succ, i64_w, i32_w]
             rfl
            refine pure_ (i := 26) (N := some 103) (v := ?_) (a' := ?_) #[true, true, true, true, true, true, true, true, true, true, true, true, true, true, true, true, true, true, true, true, true, true, true, true, true, true, true, false, false, false, false, false, false, false, false, false, false, false, false, false, false, false, false, false, false, false, false, false, false, false, false, false, false, false, false, false, false, false, false, false, false] rfl rfl (any_of HT_.out (by kernel_rfl)) (fun _ _ _ h => h) (Or.inl ⟨by rfl, ?_⟩) ?_ ?_
            rotate_left
            ·intro w'
             go_simp
             with_reducible rfl
            rotate_left
            ·simp only [Act.put, List.setIfInBounds_toArray, List.set_cons_zero, List.set_cons_succ, i64_w, i32_w]
             rfl
            refine pure_ (i := 27) (N := some 104) (v := ?_) (a' := ?_) #[true, true, true, true, true, true, true, true, true, true, true, true, true, true, true, true, true, true, true, true, true, true, true, true, true, true, true, true, false, false, false, false, false, false, false, false, false, false, false, false, false, false, false, false, false, false, false, false, false, false, false, false, false, false, false, false, false, false, false, false, false] rfl rfl (any_of HT_.out (by kernel_rfl)) (fun _ _ _ h => h) (Or.inl ⟨by rfl, ?_⟩) ?_ ?_
            rotate_left
            ·intro w'
             go_simp
             with_reducible rfl
            rotate_left
            ·simp only [Act.put, List.setIfInBounds_toArray, List.set_cons_zero, List.set_cons_succ, i64_w, i32_w]
             rfl
            refine pure_ (i := 28) (N := some 105) (v := ?_) (a' := ?_) #[true, true, true, true, true, true, true, true, true, true, true, true, true, true, true, true, true, true, true, true, true, true, true, true, true, true, true, true, true, false, false, false, false, false, false, false, false, false, false, false, false, false, false, false, false, false, false, false, false, false, false, false, false, false, false, false, false, false, false, false, false] rfl rfl (any_of HT_.out (by kernel_rfl)) (fun _ _ _ h => h) (Or.inl ⟨by rfl, ?_⟩) ?_ ?_
            rotate_left
            ·intro w'
             go_simp
             with_reducible rfl
            rotate_left
            ·simp only [Act.put, List.setIfInBounds_toArray, List.set_cons_zero, List.set_cons_succ, i64_w, i32_w]
             rfl
            refine pure_ (i := 29) (N := some 106) (v := ?_) (a' := ?_) #[true, true, true, true, true, true, true, true, true, true, true, true, true, true, true, true, true, true, true, true, true, true, true, true, true, true, true, true, true, true, false, false, false, false, false, false, false, false, false, false, false, false, false, false, false, false, false, false, false, false, false, false, false, false, false, false, false, false, false, false, false] rfl rfl (any_of HT_.out (by kernel_rfl)) (fun _ _ _ h => h) (Or.inl ⟨by rfl, ?_⟩) ?_ ?_
            rotate_left
            ·intro w'
             go_simp
             with_reducible rfl
            rotate_left
            ·simp only [Act.put, List.setIfInBounds_toArray, List.set_cons_zero, List.set_cons_succ, i64_w, i32_w]
             rfl
            refine pure_ (i := 30) (N := some 107) (v := ?_) (a' := ?_) #[true, true, true, true, true, true, true, true, true, true, true, true, true, true, true, true, true, true, true, true, true, true, true, true, true, true, true, true, true, true, true, false, false, false, false, false, false, false, false, false, false, false, false, false, false, false, false, false, false, false, false, false, false, false, false, false, false, false, false, false, false] rfl rfl (any_of HT_.out (by kernel_rfl)) (fun _ _ _ h => h) (Or.inl ⟨by rfl, ?_⟩) ?_ ?_
            rotate_left
            ·intro w'
             go_simp
             with_reducible rfl
            rotate_left
            ·simp only [Act.put, List.setIfInBounds_toArray, List.set_cons_zero, List.set_cons_succ, i64_w, i32_w]
             rfl
            refine pure_ (i := 31) (N := some 108) (v := ?_) (a' := ?_) #[true, true, true, true, true, true, true, true, true, true, true, true, true, true, true, true, true, true, true, true, true, true, true, true, true, true, true, true, true, true, true, true, false, false, false, false, false, false, false, false, false, false, false, false, false, false, false, false, false, false, false, false, false, false, false, false, false, false, false, false, false] rfl rfl (any_of HT_.out (by kernel_rfl)) (fun _ _ _ h => h) (Or.inl ⟨by rfl, ?_⟩) ?_ ?_
            rotate_left
            ·intro w'
             go_simp
             with_reducible rfl
            rotate_left
            ·simp only [Act.put, List.setIfInBounds_toArray, List.set_cons_zero, List.set_cons_succ, i64_w, i32_w]
             rfl
            refine take_ (i := 32) (N := some 109) (v := ?_) (a' := ?_) #[true, true, true, true, true, true, true, true, true, true, true, true, true, true, true, true, true, true, true, true, true, true, true, true, true, true, true, true, true, true, true, true, true, false, false, false, false, false, false, false, false, false, false, false, false, false, false, false, false, false, false, false, false, false, false, false, false, false, false, false, false] rfl rfl (take_ofW HT_.out HW_.out (by kernel_rfl)) (fun _ _ _ h => h) (Or.inl ⟨by rfl, ?_⟩) hHeld ?_ ?_
            rotate_left
            ·rintro w' ⟨s0, s1, s2, s3, s4, s5, s6, s7, s8, s9, s10, s11, s12, s13, s14, s15, s16, s17, s18, s19, s20⟩
             go_simp
             with_reducible rfl
            rotate_left
            ·simp only [Act.put, List.setIfInBounds_toArray, List.set_cons_zero, List.set_cons_succ, i64_w, i32_w]
             rfl
            refine take_ (i := 33) (N := some 110) (v := ?_) (a' := ?_) #[true, true, true, true, true, true, true, true, true, true, true, true, true, true, true, true, true, true, true, true, true, true, true, true, true, true, true, true, true, true, true, true, true, true, false, false, false, false, false, false, false, false, false, false, false, false, false, false, false, false, false, false, false, false, false, false, false, false, false, false, false] rfl rfl (take_ofW HT_.out HW_.out (by kernel_rfl)) (fun _ _ _ h => h) (Or.inl ⟨by rfl, ?_⟩) hHeld ?_ ?_
            rotate_left
            ·rintro w' ⟨s0, s1, s2, s3, s4, s5, s6, s7, s8, s9, s10, s11, s12, s13, s14, s15, s16, s17, s18, s19, s20⟩
             go_simp
             with_reducible rfl
            rotate_left
            ·simp only [Act.put, List.setIfInBounds_toArray, List.set_cons_zero, List.set_cons_succ, i64_w, i32_w]
             rfl
            refine pure_ (i := 34) (N := some 111) (v := ?_) (a' := ?_) #[true, true, true, true, true, true, true, true, true, true, true, true, true, true, true, true, true, true, true, true, true, true, true, true, true, true, true, true, true, true, true, true, true, true, true, false, false, false, false, false, false, false, false, false, false, false, false, false, false, false, false, false, false, false, false, false, false, false, false, false, false] rfl rfl (any_of HT_.out (by kernel_rfl)) (fun _ _ _ h => h) (Or.inl ⟨by rfl, ?_⟩) ?_ ?_
            rotate_left
            ·intro w'
             go_simp
             with_reducible rfl
            rotate_left
            ·simp only [Act.put, List.setIfInBounds_toArray, List.set_cons_zero, List.set_cons_succ, i64_w, i32_w]
             rfl
            refine pure_ (i := 35) (N := some 112) (v := ?_) (a' := ?_) #[true, true, true, true, true, true, true, true, true, true, true, true, true, true, true, true, true, true, true, true, true, true, true, true, true, true, true, true, true, true, true, true, true, true, true, true, false, false, false, false, false, false, false, false, false, false, false, false, false, false, false, false, false, false, false, false, false, false, false, false, false] rfl rfl (any_of HT_.out (by kernel_rfl)) (fun _ _ _ h => h) (Or.inl ⟨by rfl, ?_⟩) ?_ ?_
            rotate_left
            ·intro w'
             go_simp
             with_reducible rfl
            rotate_left
            ·simp only [Act.put, List.setIfInBounds_toArray, List.set_cons_zero, List.set_cons_succ, i64_w, i32_w]
             rfl
            refine pure_ (i := 36) (N := some 113) (v := ?_) (a' := ?_) #[true, true, true, true, true, true, true, true, true, true, true, true, true, true, true, true, true, true, true, true, true, true, true, true, true, true, true, true, true, true, true, true, true, true, true, true, true, false, false, false, false, false, false, false, false, false, false, false, false, false, false, false, false, false, false, false, false, false, false, false, false] rfl rfl (any_of HT_.out (by kernel_rfl)) (fun _ _ _ h => h) (Or.inl ⟨by rfl, ?_⟩) ?_ ?_
            rotate_left
            ·intro w'
             go_simp
             with_reducible rfl
            rotate_left
            ·simp only [Act.put, List.setIfInBounds_toArray, List.set_cons_zero, List.set_cons_succ, i64_w, i32_w]
             rfl
            refine pure_ (i := 37) (N := some 114) (v := ?_) (a' := ?_) #[true, true, true, true, true, true, true, true, true, true, true, true, true, true, true, true, true, true, true, true, true, true, true, true, true, true, true, true, true, true, true, true, true, true, true, true, true, true, false, false, false, false, false, false, false, false, false, false, false, false, false, false, false, false, false, false, false, false, false, false, false] rfl rfl (any_of HT_.out (by kernel_rfl)) (fun _ _ _ h => h) (Or.inl ⟨by rfl, ?_⟩) ?_ ?_
            rotate_left
            ·intro w'
             go_simp
             with_reducible rfl
            rotate_left
            ·simp only [Act.put, List.setIfInBounds_toArray, List.set_cons_zero, List.set_cons_succ, i64_w, i32_w]
             rfl
            refine pure_ (i := 38) (N := some 115) (v := ?_) (a' := ?_) #[true, true, true, true, true, true, true, true, true, true, true, true, true, true, true, true, true, true, true, true, true, true, true, true, true, true, true, true, true, true, true, true, true, true, true, true, true, true, true, false, false, false, false, false, false, false, false, false, false, false, false, false, false, false, false, false, false, false, false, false, false] rfl rfl (any_of HT_.out (by kernel_rfl)) (fun _ _ _ h => h) (Or.inl ⟨by rfl, ?_⟩) ?_ ?_
            rotate_left
            ·intro w'
             go_simp
             with_reducible rfl
            rotate_left
            ·simp only [Act.put, List.setIfInBounds_toArray, List.set_cons_zero, List.set_cons_succ, i64_w, i32_w]
             rfl
            refine pure_ (i := 39) (N := some 116) (v := ?_) (a' := ?_) #[true, true, true, true, true, true, true, true, true, true, true, true, true, true, true, true, true, true, true, true, true, true, true, true, true, true, true, true, true, true, true, true, true, true, true, true, true, true, true, true, false, false, false, false, false, false, false, false, false, false, false, false, false, false, false, false, false, false, false, false, false] rfl rfl (any_of HT_.out (by kernel_rfl)) (fun _ _ _ h => h) (Or.inl ⟨by rfl, ?_⟩) ?_ ?_
            rotate_left
            ·intro w'
             go_simp
             with_reducible rfl
            rotate_left
            ·simp only [Act.put, List.setIfInBounds_toArray, List.set_cons_zero, List.set_cons_succ, i64_w, i32_w]
             rfl
            refine pure_ (i := 40) (N := some 117) (v := ?_) (a' := ?_) #[true, true, true, true, true, true, true, true, true, true, true, true, true, true, true, true, true, true, true, true, true, true, true, true, true, true, true, true, true, true, true, true, true, true, true, true, true, true, true, true, true, false, false, false, false, false, false, false, false, false, false, false, false, false, false, false, false, false, false, false, false] rfl rfl (any_of HT_.out (by kernel_rfl)) (fun _ _ _ h => h) (Or.inl ⟨by rfl, ?_⟩) ?_ ?_
            rotate_left
            ·intro w'
             go_simp
             with_reducible rfl
            rotate_left
            ·simp only [Act.put, List.setIfInBounds_toArray, List.set_cons_zero, List.set_cons_succ, i64_w, i32_w]
             rfl
            refine pure_ (i := 41) (N := some 118) (v := ?_) (a' := ?_) #[true, true, true, true, true, true, true, true, true, true, true, true, true, true, true, true, true, true, true, true, true, true, true, true, true, true, true, true, true, true, true, true, true, true, true, true, true, true, true, true, true, true, false, false, false, false, false, false, false, false, false, false, false, false, false, false, false, false, false, false, false] rfl rfl (any_of HT_.out (by kernel_rfl)) (fun _ _ _ h => h) (Or.inl ⟨by rfl, ?_⟩) ?_ ?_
            rotate_left
            ·intro w'
             go_simp
             with_reducible rfl
            rotate_left
            ·simp only [Act.put, List.setIfInBounds_toArray, List.set_cons_zero, List.set_cons_succ, i64_w, i32_w]
             rfl
            refine pure_ (i := 43) (N := some 120) (v := ?_) (a' := ?_) #[true, true, true, true, true, true, true, true, true, true, true, true, true, true, true, true, true, true, true, true, true, true, true, true, true, true, true, true, true, true, true, true, true, true, true, true, true, true, true, true, true, true, false, true, false, false, false, false, false, false, false, false, false, false, false, false, false, false, false, false, false] rfl rfl (any_of HT_.out (by kernel_rfl)) (fun _ _ _ h => h) (Or.inl ⟨by rfl, ?_⟩) ?_ ?_
            rotate_left
            ·intro w'
             go_simp
             with_reducible rfl
            rotate_left
            ·simp only [Act.put, List.setIfInBounds_toArray, List.set_cons_zero, List.set_cons_succ, i64_w, i32_w]
             rfl
            refine pure_ (i := 46) (N := some 123) (v := ?_) (a' := ?_) #[true, true, true, true, true, true, true, true, true, true, true, true, true, true, true, true, true, true, true, true, true, true, true, true, true, true, true, true, true, true, true, true, true, true, true, true, true, true, true, true, true, true, false, true, false, false, true, false, false, false, false, false, false, false, false, false, false, false, false, false, false] rfl rfl (any_of HT_.out (by kernel_rfl)) (fun _ _ _ h => h) (Or.inl ⟨by rfl, ?_⟩) ?_ ?_
            rotate_left
            ·intro w'
             go_simp
             with_reducible rfl
            rotate_left
            ·simp only [Act.put, List.setIfInBounds_toArray, List.set_cons_zero, List.set_cons_succ, i64_w, i32_w]
             rfl
            refine take_ (i := 42) (N := some 119) (v := ?_) (a' := ?_) #[true, true, true, true, true, true, true, true, true, true, true, true, true, true, true, true, true, true, true, true, true, true, true, true, true, true, true, true, true, true, true, true, true, true, true, true, true, true, true, true, true, true, true, true, false, false, true, false, false, false, false, false, false, false, false, false, false, false, false, false, false] rfl rfl (take_ofW HT_.out HW_.out (by kernel_rfl)) (fun _ _ _ h => h) (Or.inl ⟨by rfl, ?_⟩) hHeld ?_ ?_
            rotate_left
            ·rintro w' ⟨s0, s1, s2, s3, s4, s5, s6, s7, s8, s9, s10, s11, s12, s13, s14, s15, s16, s17, s18, s19, s20⟩
             go_simp
             with_reducible rfl
            rotate_left
            ·simp only [Act.put, List.setIfInBounds_toArray, List.set_cons_zero, List.set_cons_succ, i64_w, i32_w]
             rfl
            refine take_ (i := 45) (N := some 122) (v := ?_) (a' := ?_) #[true, true, true, true, true, true, true, true, true, true, true, true, true, true, true, true, true, true, true, true, true, true, true, true, true, true, true, true, true, true, true, true, true, true, true, true, true, true, true, true, true, true, true, true, false, true, true, false, false, false, false, false, false, false, false, false, false, false, false, false, false] rfl rfl (take_ofW HT_.out HW_.out (by kernel_rfl)) (fun _ _ _ h => h) (Or.inl ⟨by rfl, ?_⟩) hHeld ?_ ?_
            rotate_left
            ·rintro w' ⟨s0, s1, s2, s3, s4, s5, s6, s7, s8, s9, s10, s11, s12, s13, s14, s15, s16, s17, s18, s19, s20⟩
             go_simp
             with_reducible rfl
            rotate_left
            ·simp only [Act.put, List.setIfInBounds_toArray, List.set_cons_zero, List.set_cons_succ, i64_w, i32_w]
             rfl
            refine one_ (i := 44) (N := some 121) #[true, true, true, true, true, true, true, true, true, true, true, true, true, true, true, true, true, true, true, true, true, true, true, true, true, true, true, true, true, true, true, true, true, true, true, true, true, true, true, true, true, true, true, true, true, true, true, false, false, false, false, false, false, false, false, false, false, false, false, false, false] rfl rfl (one_of HT_.out (by kernel_rfl)) (by decide) (fun K hK => ?_)
            refine goes_ Try.func23 (by kernel_rfl) rfl #[.agg #[.int .i64 a0_0, .int .i64 a0_1, .int .i64 a0_2], .int .i64 a3] (by rfl) rfl rfl (by (try simp only [List.map_toArray, List.map_cons, List.map_nil]); first | done | rfl | (simp only [List.length_drop, List.length_take]; rfl)) ?_
            with_reducible refine (word_Close.calls a0_0 a0_1 a0_2 a3 t288 t289 t290 _ A22.out).mono ?_
            rintro e w76 ⟨rfl, hb⟩
            refine ⟨_, rfl, ?_⟩
            have n0_ := Aside0.mk (blk_below (g := gb250) (o := .cells #[.int .i64 a0_0, .int .i64 a0_1, .int .i64 a0_2] 23 (0, 0)) (by (with_reducible repeat (first | apply kN | apply kD | apply kA)); exact BK250.out) hb)
            have n1_ := Aside0.mk (blk_below (g := gb257) (o := .cells #[.int .i64 t252, .int .i64 t253, .int .i64 t254] 23 (0, 0)) (by (with_reducible repeat (first | apply kN | apply kD | apply kA)); exact BK257.out) hb)
            have n2_ := Aside0.mk (blk_below (g := gb263) (o := .cells #[.int .i64 t258, .int .i64 t259, .int .i64 t260] 23 (0, 0)) (by (with_reducible repeat (first | apply kN | apply kD | apply kA)); exact BK263.out) hb)
            have n3_ := Aside0.mk (blk_below (g := gb269) (o := .cells #[.int .i64 t264, .int .i64 t265, .int .i64 t266] 23 (0, 0)) (by (with_reducible repeat (first | apply kN | apply kD | apply kA)); exact BK269.out) hb)
            have n4_ := Aside0.mk (blk_below (g := gb275) (o := .cells #[.int .i64 t270, .int .i64 t271, .int .i64 t272] 23 (0, 0)) (by (with_reducible repeat (first | apply kN | apply kD | apply kA)); exact BK275.out) hb)
            have n5_ := Aside0.mk (blk_below (g := gb280) (o := .cells #[.int .i64 t276, .int .i64 t277, .int .i64 t278] 23 (0, 0)) (by (with_reducible repeat (first | apply kN | apply kD | apply kA)); exact BK280.out) hb)
            have n6_ := Aside0.mk (blk_below (g := gb285) (o := .cells #[.int .i64 t281, .int .i64 t282, .int .i64 t283] 23 (0, 0)) (by (with_reducible repeat (first | apply kN | apply kD | apply kA)); exact BK285.out) hb)
            have n7_ := Aside0.mk (below_step (by repeat (first | (with_reducible first | exact HB.out | apply bA | apply bN | apply bD | refine below_set ?_ GE250.out | refine below_set ?_ GE257.out | refine below_set ?_ GE263.out | refine below_set ?_ GE269.out | refine below_set ?_ GE275.out | refine below_set ?_ GE280.out | refine below_set ?_ GE285.out) | exact HB.out)) hb)
            clear BK250
            clear BK257
            clear BK263
            clear BK269
            clear BK275
            clear BK280
            clear BK285
            clear HB
            have BK250 := n0_
            have BK257 := n1_
            have BK263 := n2_
            have BK269 := n3_
            have BK275 := n4_
            have BK280 := n5_
            have BK285 := n6_
            have HB := n7_
            clear n0_ n1_ n2_ n3_ n4_ n5_ n6_ n7_
            (try clear hb)
            (try clear hb2)
            (try clear hk)
            (try clear hi)
            refine hK.out _ _ ⟨(blk_cell BK257.out 0).trans rfl, (blk_cell BK257.out 1).trans rfl, (blk_cell BK257.out 2).trans rfl, (blk_cell BK263.out 0).trans rfl, (blk_cell BK263.out 1).trans rfl, (blk_cell BK263.out 2).trans rfl, (blk_cell BK269.out 0).trans rfl, (blk_cell BK269.out 1).trans rfl, (blk_cell BK269.out 2).trans rfl, (blk_cell BK275.out 0).trans rfl, (blk_cell BK275.out 1).trans rfl, (blk_cell BK275.out 2).trans rfl, (blk_cell BK280.out 0).trans rfl, (blk_cell BK280.out 1).trans rfl, (blk_cell BK280.out 2).trans rfl, (blk_cell BK285.out 0).trans rfl, (blk_cell BK285.out 1).trans rfl, (blk_cell BK285.out 2).trans rfl, (blk_cell BK250.out 0).trans rfl, (blk_cell BK250.out 1).trans rfl, (blk_cell BK250.out 2).trans rfl⟩ (fun hHeld => ?_)
            clear hK K
            refine norm_ (a' := ?_) ?_ ?_
            rotate_left
            ·show Act.put _ (some 121) _ = _
             simp only [Act.put, List.setIfInBounds_toArray, List.set_cons_zero, List.set_cons_succ, i64_w, i32_w]
             rfl
            refine one_ (i := 47) (N := some 124) #[true, true, true, true, true, true, true, true, true, true, true, true, true, true, true, true, true, true, true, true, true, true, true, true, true, true, true, true, true, true, true, true, true, true, true, true, true, true, true, true, true, true, true, true, true, true, true, true, false, false, false, false, false, false, false, false, false, false, false, false, false] rfl rfl (one_of HT_.out (by kernel_rfl)) (by decide) (fun K hK => ?_)
            refine goes_ Try.func24 (by kernel_rfl) rfl #[.agg #[.int .i64 a0_0, .int .i64 a0_1, .int .i64 a0_2], .int .i64 a3] (by rfl) rfl rfl (by (try simp only [List.map_toArray, List.map_cons, List.map_nil]); first | done | rfl | (simp only [List.length_drop, List.length_take]; rfl)) ?_
            with_reducible refine (sakiaref08_Close.calls a0_0 a0_1 a0_2 a3 t291 t292 t293 _ A23.out).mono ?_
            rintro e w77 ⟨rfl, hb⟩
            refine ⟨_, rfl, ?_⟩
            have n0_ := Aside0.mk (blk_below (g := gb250) (o := .cells #[.int .i64 a0_0, .int .i64 a0_1, .int .i64 a0_2] 23 (0, 0)) (by (with_reducible repeat (first | apply kN | apply kD | apply kA)); exact BK250.out) hb)
            have n1_ := Aside0.mk (blk_below (g := gb257) (o := .cells #[.int .i64 t252, .int .i64 t253, .int .i64 t254] 23 (0, 0)) (by (with_reducible repeat (first | apply kN | apply kD | apply kA)); exact BK257.out) hb)
            have n2_ := Aside0.mk (blk_below (g := gb263) (o := .cells #[.int .i64 t258, .int .i64 t259, .int .i64 t260] 23 (0, 0)) (by (with_reducible repeat (first | apply kN | apply kD | apply kA)); exact BK263.out) hb)
            have n3_ := Aside0.mk (blk_below (g := gb269) (o := .cells #[.int .i64 t264, .int .i64 t265, .int .i64 t266] 23 (0, 0)) (by (with_reducible repeat (first | apply kN | apply kD | apply kA)); exact BK269.out) hb)
            have n4_ := Aside0.mk (blk_below (g := gb275) (o := .cells #[.int .i64 t270, .int .i64 t271, .int .i64 t272] 23 (0, 0)) (by (with_reducible repeat (first | apply kN | apply kD | apply kA)); exact BK275.out) hb)
            have n5_ := Aside0.mk (blk_below (g := gb280) (o := .cells #[.int .i64 t276, .int .i64 t277, .int .i64 t278] 23 (0, 0)) (by (with_reducible repeat (first | apply kN | apply kD | apply kA)); exact BK280.out) hb)
            have n6_ := Aside0.mk (blk_below (g := gb285) (o := .cells #[.int .i64 t281, .int .i64 t282, .int .i64 t283] 23 (0, 0)) (by (with_reducible repeat (first | apply kN | apply kD | apply kA)); exact BK285.out) hb)
            have n7_ := Aside0.mk (below_step (by repeat (first | (with_reducible first | exact HB.out | apply bA | apply bN | apply bD | refine below_set ?_ GE250.out | refine below_set ?_ GE257.out | refine below_set ?_ GE263.out | refine below_set ?_ GE269.out | refine below_set ?_ GE275.out | refine below_set ?_ GE280.out | refine below_set ?_ GE285.out) | exact HB.out)) hb)
            clear BK250
            clear BK257
            clear BK263
            clear BK269
            clear BK275
            clear BK280
            clear BK285
            clear HB
            have BK250 := n0_
            have BK257 := n1_
            have BK263 := n2_
            have BK269 := n3_
            have BK275 := n4_
            have BK280 := n5_
            have BK285 := n6_
            have HB := n7_
            clear n0_ n1_ n2_ n3_ n4_ n5_ n6_ n7_
            (try clear hb)
            (try clear hb2)
            (try clear hk)
            (try clear hi)
            refine hK.out _ _ ⟨(blk_cell BK257.out 0).trans rfl, (blk_cell BK257.out 1).trans rfl, (blk_cell BK257.out 2).trans rfl, (blk_cell BK263.out 0).trans rfl, (blk_cell BK263.out 1).trans rfl, (blk_cell BK263.out 2).trans rfl, (blk_cell BK269.out 0).trans rfl, (blk_cell BK269.out 1).trans rfl, (blk_cell BK269.out 2).trans rfl, (blk_cell BK275.out 0).trans rfl, (blk_cell BK275.out 1).trans rfl, (blk_cell BK275.out 2).trans rfl, (blk_cell BK280.out 0).trans rfl, (blk_cell BK280.out 1).trans rfl, (blk_cell BK280.out 2).trans rfl, (blk_cell BK285.out 0).trans rfl, (blk_cell BK285.out 1).trans rfl, (blk_cell BK285.out 2).trans rfl, (blk_cell BK250.out 0).trans rfl, (blk_cell BK250.out 1).trans rfl, (blk_cell BK250.out 2).trans rfl⟩ (fun hHeld => ?_)
            clear hK K
            refine norm_ (a' := ?_) ?_ ?_
            rotate_left
            ·show Act.put _ (some 124) _ = _
             simp only [Act.put, List.setIfInBounds_toArray, List.set_cons_zero, List.set_cons_succ, i64_w, i32_w]
             rfl
            refine pure_ (i := 48) (N := some 125) (v := ?_) (a' := ?_) #[true, true, true, true, true, true, true, true, true, true, true, true, true, true, true, true, true, true, true, true, true, true, true, true, true, true, true, true, true, true, true, true, true, true, true, true, true, true, true, true, true, true, true, true, true, true, true, true, true, false, false, false, false, false, false, false, false, false, false, false, false] rfl rfl (any_of HT_.out (by kernel_rfl)) (fun _ _ _ h => h) (Or.inl ⟨by rfl, ?_⟩) ?_ ?_
            rotate_left
            ·intro w'
             go_simp
             with_reducible rfl
            rotate_left
            ·simp only [Act.put, List.setIfInBounds_toArray, List.set_cons_zero, List.set_cons_succ, i64_w, i32_w]
             rfl
            refine pure_ (i := 49) (N := some 126) (v := ?_) (a' := ?_) #[true, true, true, true, true, true, true, true, true, true, true, true, true, true, true, true, true, true, true, true, true, true, true, true, true, true, true, true, true, true, true, true, true, true, true, true, true, true, true, true, true, true, true, true, true, true, true, true, true, true, false, false, false, false, false, false, false, false, false, false, false] rfl rfl (any_of HT_.out (by kernel_rfl)) (fun _ _ _ h => h) (Or.inl ⟨by rfl, ?_⟩) ?_ ?_
            rotate_left
            ·intro w'
             go_simp
             with_reducible rfl
            rotate_left
            ·simp only [Act.put, List.setIfInBounds_toArray, List.set_cons_zero, List.set_cons_succ, i64_w, i32_w]
             rfl
            refine pure_ (i := 50) (N := some 127) (v := ?_) (a' := ?_) #[true, true, true, true, true, true, true, true, true, true, true, true, true, true, true, true, true, true, true, true, true, true, true, true, true, true, true, true, true, true, true, true, true, true, true, true, true, true, true, true, true, true, true, true, true, true, true, true, true, true, true, false, false, false, false, false, false, false, false, false, false] rfl rfl (any_of HT_.out (by kernel_rfl)) (fun _ _ _ h => h) (Or.inl ⟨by rfl, ?_⟩) ?_ ?_
            rotate_left
            ·intro w'
             go_simp
             with_reducible rfl
            rotate_left
            ·simp only [Act.put, List.setIfInBounds_toArray, List.set_cons_zero, List.set_cons_succ, i64_w, i32_w]
             rfl
            refine pure_ (i := 51) (N := some 128) (v := ?_) (a' := ?_) #[true, true, true, true, true, true, true, true, true, true, true, true, true, true, true, true, true, true, true, true, true, true, true, true, true, true, true, true, true, true, true, true, true, true, true, true, true, true, true, true, true, true, true, true, true, true, true, true, true, true, true, true, false, false, false, false, false, false, false, false, false] rfl rfl (any_of HT_.out (by kernel_rfl)) (fun _ _ _ h => h) (Or.inl ⟨by rfl, ?_⟩) ?_ ?_
            rotate_left
            ·intro w'
             go_simp
             with_reducible rfl
            rotate_left
            ·simp only [Act.put, List.setIfInBounds_toArray, List.set_cons_zero, List.set_cons_succ, i64_w, i32_w]
             rfl
            refine pure_ (i := 52) (N := some 129) (v := ?_) (a' := ?_) #[true, true, true, true, true, true, true, true, true, true, true, true, true, true, true, true, true, true, true, true, true, true, true, true, true, true, true, true, true, true, true, true, true, true, true, true, true, true, true, true, true, true, true, true, true, true, true, true, true, true, true, true, true, false, false, false, false, false, false, false, false] rfl rfl (any_of HT_.out (by kernel_rfl)) (fun _ _ _ h => h) (Or.inl ⟨by rfl, ?_⟩) ?_ ?_
            rotate_left
            ·intro w'
             go_simp
             with_reducible rfl
            rotate_left
            ·simp only [Act.put, List.setIfInBounds_toArray, List.set_cons_zero, List.set_cons_succ, i64_w, i32_w]
             rfl
            refine pure_ (i := 53) (N := some 130) (v := ?_) (a' := ?_) #[true, true, true, true, true, true, true, true, true, true, true, true, true, true, true, true, true, true, true, true, true, true, true, true, true, true, true, true, true, true, true, true, true, true, true, true, true, true, true, true, true, true, true, true, true, true, true, true, true, true, true, true, true, true, false, false, false, false, false, false, false] rfl rfl (any_of HT_.out (by kernel_rfl)) (fun _ _ _ h => h) (Or.inl ⟨by rfl, ?_⟩) ?_ ?_
            rotate_left
            ·intro w'
             go_simp
             with_reducible rfl
            rotate_left
            ·simp only [Act.put, List.setIfInBounds_toArray, List.set_cons_zero, List.set_cons_succ, i64_w, i32_w]
             rfl
            refine pure_ (i := 54) (N := some 131) (v := ?_) (a' := ?_) #[true, true, true, true, true, true, true, true, true, true, true, true, true, true, true, true, true, true, true, true, true, true, true, true, true, true, true, true, true, true, true, true, true, true, true, true, true, true, true, true, true, true, true, true, true, true, true, true, true, true, true, true, true, true, true, false, false, false, false, false, false] rfl rfl (any_of HT_.out (by kernel_rfl)) (fun _ _ _ h => h) (Or.inl ⟨by rfl, ?_⟩) ?_ ?_
            rotate_left
            ·intro w'
             go_simp
             with_reducible rfl
            rotate_left
            ·simp only [Act.put, List.setIfInBounds_toArray, List.set_cons_zero, List.set_cons_succ, i64_w, i32_w]
             rfl
            refine pure_ (i := 55) (N := some 132) (v := ?_) (a' := ?_) #[true, true, true, true, true, true, true, true, true, true, true, true, true, true, true, true, true, true, true, true, true, true, true, true, true, true, true, true, true, true, true, true, true, true, true, true, true, true, true, true, true, true, true, true, true, true, true, true, true, true, true, true, true, true, true, true, false, false, false, false, false] rfl rfl (any_of HT_.out (by kernel_rfl)) (fun _ _ _ h => h) (Or.inl ⟨by rfl, ?_⟩) ?_ ?_
            rotate_left
            ·intro w'
             go_simp
             with_reducible rfl
            rotate_left
            ·simp only [Act.put, List.setIfInBounds_toArray, List.set_cons_zero, List.set_cons_succ, i64_w, i32_w]
             rfl
            refine pure_ (i := 56) (N := some 133) (v := ?_) (a' := ?_) #[true, true, true, true, true, true, true, true, true, true, true, true, true, true, true, true, true, true, true, true, true, true, true, true, true, true, true, true, true, true, true, true, true, true, true, true, true, true, true, true, true, true, true, true, true, true, true, true, true, true, true, true, true, true, true, true, true, false, false, false, false] rfl rfl (any_of HT_.out (by kernel_rfl)) (fun _ _ _ h => h) (Or.inl ⟨by rfl, ?_⟩) ?_ ?_
            rotate_left
            ·intro w'
             go_simp
             with_reducible rfl
            rotate_left
            ·simp only [Act.put, List.setIfInBounds_toArray, List.set_cons_zero, List.set_cons_succ, i64_w, i32_w]
             rfl
            refine pure_ (i := 57) (N := some 134) (v := ?_) (a' := ?_) #[true, true, true, true, true, true, true, true, true, true, true, true, true, true, true, true, true, true, true, true, true, true, true, true, true, true, true, true, true, true, true, true, true, true, true, true, true, true, true, true, true, true, true, true, true, true, true, true, true, true, true, true, true, true, true, true, true, true, false, false, false] rfl rfl (any_of HT_.out (by kernel_rfl)) (fun _ _ _ h => h) (Or.inl ⟨by rfl, ?_⟩) ?_ ?_
            rotate_left
            ·intro w'
             go_simp
             with_reducible rfl
            rotate_left
            ·simp only [Act.put, List.setIfInBounds_toArray, List.set_cons_zero, List.set_cons_succ, i64_w, i32_w]
             rfl
            refine pure_ (i := 58) (N := some 135) (v := ?_) (a' := ?_) #[true, true, true, true, true, true, true, true, true, true, true, true, true, true, true, true, true, true, true, true, true, true, true, true, true, true, true, true, true, true, true, true, true, true, true, true, true, true, true, true, true, true, true, true, true, true, true, true, true, true, true, true, true, true, true, true, true, true, true, false, false] rfl rfl (any_of HT_.out (by kernel_rfl)) (fun _ _ _ h => h) (Or.inl ⟨by rfl, ?_⟩) ?_ ?_
            rotate_left
            ·intro w'
             go_simp
             with_reducible rfl
            rotate_left
            ·simp only [Act.put, List.setIfInBounds_toArray, List.set_cons_zero, List.set_cons_succ, i64_w, i32_w]
             rfl
            refine pure_ (i := 59) (N := some 136) (v := ?_) (a' := ?_) #[true, true, true, true, true, true, true, true, true, true, true, true, true, true, true, true, true, true, true, true, true, true, true, true, true, true, true, true, true, true, true, true, true, true, true, true, true, true, true, true, true, true, true, true, true, true, true, true, true, true, true, true, true, true, true, true, true, true, true, true, false] rfl rfl (any_of HT_.out (by kernel_rfl)) (fun _ _ _ h => h) (Or.inl ⟨by rfl, ?_⟩) ?_ ?_
            rotate_left
            ·intro w'
             go_simp
             with_reducible rfl
            rotate_left
            ·simp only [Act.put, List.setIfInBounds_toArray, List.set_cons_zero, List.set_cons_succ, i64_w, i32_w]
             rfl
            refine pure_ (i := 60) (N := some 8) (v := ?_) (a' := ?_) #[true, true, true, true, true, true, true, true, true, true, true, true, true, true, true, true, true, true, true, true, true, true, true, true, true, true, true, true, true, true, true, true, true, true, true, true, true, true, true, true, true, true, true, true, true, true, true, true, true, true, true, true, true, true, true, true, true, true, true, true, true] rfl rfl (any_of HT_.out (by kernel_rfl)) (fun _ _ _ h => h) (Or.inl ⟨by rfl, ?_⟩) ?_ ?_
            rotate_left
            ·intro w'
             go_simp
             with_reducible rfl
            rotate_left
            ·simp only [Act.put, List.setIfInBounds_toArray, List.set_cons_zero, List.set_cons_succ, i64_w, i32_w]
             rfl
            refine done_ (done_of HT_.out (by kernel_rfl)) ?_
            try go_wp2
            go_ret
            exact ⟨by first | rfl | (simp [errW_none, errW_some] <;> rfl) | (simp [*, errW_none, errW_some] <;> rfl), by repeat (first | (with_reducible first | exact HB.out | apply bA | apply bN | apply bD | refine below_set ?_ GE250.out | refine below_set ?_ GE257.out | refine below_set ?_ GE263.out | refine below_set ?_ GE269.out | refine below_set ?_ GE275.out | refine below_set ?_ GE280.out | refine below_set ?_ GE285.out) | exact HB.out)⟩
           ·rw [if_neg c25] at H
            have c25b0 : (t286 == t262) = false := beq_eq_false_iff_ne.mpr c25
            have c25b1 : (t286 != t262) = true := bne_iff_ne.mpr c25
            exact absurd ((Option.some.inj H).trans HR_.out) (by decide)
          ·rw [if_neg c24] at H
           have c24b0 : (t288 == t291 && (t289 == t292 && (t290 == t293))) = false := by simpa using c24
           (try (have c24b1 : decide (t288 = t291 && (t289 == t292 && (t290 == t293))) = false := by simpa using c24))
           (try (have c24b2 : (t288 == t291 && (t289 == t292 && (t290 == t293))) = false := by simpa using c24))
           (try (have c24b3 : ¬ (t288 = t291 && (t289 == t292 && (t290 == t293))) := by simpa using c24))
           clear c24
           exact absurd ((Option.some.inj H).trans HR_.out) (by decide)
         ·rw [if_neg c21] at H
          have c21b0 : (t279 == t284) = false := by simpa using c21
          (try (have c21b1 : decide (t279 = t284) = false := by simpa using c21))
          (try (have c21b2 : (t279 == t284) = false := by simpa using c21))
          (try (have c21b3 : ¬ (t279 = t284) := by simpa using c21))
          clear c21
          exact absurd ((Option.some.inj H).trans HR_.out) (by decide)
        ·rw [if_neg c20] at H
         have c20b0 : (t276 == t281 && (t277 == t282 && (t278 == t283))) = false := by simpa using c20
         (try (have c20b1 : decide (t276 = t281 && (t277 == t282 && (t278 == t283))) = false := by simpa using c20))
         (try (have c20b2 : (t276 == t281 && (t277 == t282 && (t278 == t283))) = false := by simpa using c20))
         (try (have c20b3 : ¬ (t276 = t281 && (t277 == t282 && (t278 == t283))) := by simpa using c20))
         clear c20
         exact absurd ((Option.some.inj H).trans HR_.out) (by decide)
       ·rw [if_neg c19] at H
        have c19b0 : (t268 == t274) = false := beq_eq_false_iff_ne.mpr c19
        have c19b1 : (t268 != t274) = true := bne_iff_ne.mpr c19
        exact absurd ((Option.some.inj H).trans HR_.out) (by decide)
      ·rw [if_neg c18] at H
       have c18b0 : (t267 == t273) = false := beq_eq_false_iff_ne.mpr c18
       have c18b1 : (t267 != t273) = true := bne_iff_ne.mpr c18
       exact absurd ((Option.some.inj H).trans HR_.out) (by decide)
     ·rw [if_neg c17] at H
      have c17b0 : (t264 == t270 && (t265 == t271 && (t266 == t272))) = false := by simpa using c17
      (try (have c17b1 : decide (t264 = t270 && (t265 == t271 && (t266 == t272))) = false := by simpa using c17))
      (try (have c17b2 : (t264 == t270 && (t265 == t271 && (t266 == t272))) = false := by simpa using c17))
      (try (have c17b3 : ¬ (t264 = t270 && (t265 == t271 && (t266 == t272))) := by simpa using c17))
      clear c17
      exact absurd ((Option.some.inj H).trans HR_.out) (by decide)
    ·rw [if_neg c16] at H
     have c16b0 : (t256 == t262) = false := beq_eq_false_iff_ne.mpr c16
     have c16b1 : (t256 != t262) = true := bne_iff_ne.mpr c16
     exact absurd ((Option.some.inj H).trans HR_.out) (by decide)
   ·rw [if_neg c15] at H
    have c15b0 : (t255 == t261) = false := beq_eq_false_iff_ne.mpr c15
    have c15b1 : (t255 != t261) = true := bne_iff_ne.mpr c15
    exact absurd ((Option.some.inj H).trans HR_.out) (by decide)
  ·rw [if_neg c14] at H
   have c14b0 : (t252 == t258 && (t253 == t259 && (t254 == t260))) = false := by simpa using c14
   (try (have c14b1 : decide (t252 = t258 && (t253 == t259 && (t254 == t260))) = false := by simpa using c14))
   (try (have c14b2 : (t252 == t258 && (t253 == t259 && (t254 == t260))) = false := by simpa using c14))
   (try (have c14b3 : ¬ (t252 = t258 && (t253 == t259 && (t254 == t260))) := by simpa using c14))
   clear c14
   exact absurd ((Option.some.inj H).trans HR_.out) (by decide)
 ·replace c13 := Bool.eq_false_iff.mpr c13
  subst c13
  have H1 : (some false) = some r := by rw [if_neg (show ¬ (false = true) by decide)] at H; exact H
  clear H
  have H := H1
  clear H1
  exact absurd ((Option.some.inj H).trans HR_.out) (by decide)

/-- THE ONE PURE STATEMENT of sakialaw08_WordTells. -/
def sakialaw08_WordTells.Pure : Prop := ∀ (a0_0 : Int) (a0_1 : Int) (a0_2 : Int) (a1 : Int) (a2 : Int) (a3 : Int), good23 (⟨a0_0, a0_1, a0_2⟩ : S23) → (Lit.int .i64 a1).wf = true → (Lit.int .i64 a2).wf = true → (Lit.int .i64 a3).wf = true → ∃ k, sakialaw08_WordTells.f k a0_0 a0_1 a0_2 a1 a2 a3 = some true

end Go.Proofs.Ytcmiijdkmfdpnaa.PL
