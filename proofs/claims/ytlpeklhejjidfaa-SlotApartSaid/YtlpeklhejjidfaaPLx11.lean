-- written by this repo's pp.py (the kit's print, turned by wip/patches.py)
import Derived.Test.YtlpeklhejjidfaaCopyLib
import Derived.Test.YtlpeklhejjidfaaMapLib
import Derived.Test.YtlpeklhejjidfaaPLx0
import Derived.Test.YtlpeklhejjidfaaPLx3
import Derived.Test.YtlpeklhejjidfaaPLx10
namespace Go.Proofs.Ytlpeklhejjidfaa.PL
open Go.RowKit Go.Proofs.YtlpeklhejjidfaaW.PrintWords Go.Proofs.YtlpeklhejjidfaaW.PrintLast Go.Proofs.YtlpeklhejjidfaaW.PrintMore
attribute [local go_sem] max2_int min2_int max_two min_two max_three min_three max_four min_four   -- for this text's walks alone
set_option linter.unusedVariables false
set_option linter.unusedSimpArgs false

/-! ### slot_change: function 42 -/
set_option maxHeartbeats 8000000
set_option maxRecDepth 100000
theorem slot_change.calls_no (k : Nat) (A : Option Addr) (cc : Nat) (l : List S49) (p er : Int) (F : FuncId) (caps : Array Value) (w : World) (hr0 : Kd.C k49 w A l.length l) (hc0 : l.length ≤ cc) (hlen : l.length ≤ 17592186044416)
  (c : Bool) (hk : 0 ≤ p → slot_Check.f k l = some c) (y : Bool) (hy : c = true → slot_Ready.f k l p = some y) (hno : p < 0 ∨ c = false ∨ y = false) :
  Calls Try.prog 42 #[.slice A l.length cc, .int .i64 p, .int .i64 er, .func (.func F) #[] caps] w fun e w' => ∃ v, e = .returned (.tuple #[v, .int .i64 (if p < 0 ∨ c = false then 40 else er)]) ∧ Kd.R k49 49 w' w.heap.size (fun _ => True) v l ∧ Below w.heap.size w w' := by
 have HB := Aside0.mk (Below.refl w.heap.size w)
 have hu49 := Try.underlying49
 have HR0 := Aside0.mk hr0
 have HC0 := Aside0.mk hc0
 have hlen := Aside0.mk hlen
 clear hr0 hc0
 by_cases hp : p < 0
 · rw [if_pos (.inl hp)]
   have cb : decide (p < 0) = true := decide_eq_true hp
   clear hk hy hno hp
   go_enter Try.func42, Try.ntmps42
   go_wp2_with (first | ((with_reducible refine gate_dst (N := 13) rfl ?_); refine Kd.R_make k49 _ 49 rfl (N := 13) rfl 36 _ _ rfl (l.length : Int) rfl rfl Try.underlying36 (.agg #[(.int .i64 0), (.int .i64 0)]) 16 info49 rfl (by decide) (by omega) z49 (ok := fun _ => True) (okp := fun _ => True) (k49_mkM _ _ _ z49 ) (fun _ hk => hk) trivial (Int.natCast_nonneg _) (by rw [Int.toNat_natCast]; have := hlen.out; omega) (Below.refl _ _) (Nat.le_refl _) ?_; intro v199 w7 ho8 hb hg_ hnew_; clear hg_ hnew_; rw [Int.toNat_natCast] at ho8; have n0_ := Aside0.mk (below_step (by repeat (first | (with_reducible first | exact HB.out | apply bA | apply bN | apply bD) | exact HB.out)) hb); have n1_ := Aside0.mk (Kd.R_lower ho8 (below_size (by repeat (first | (with_reducible first | exact HB.out | apply bA | apply bN | apply bD) | exact HB.out)))); clear HB; have HB := n0_; have HO := n1_; clear n0_ n1_ hb ho8; obtain ⟨Ao9, co9, eo9⟩ := Kd.R_slice HO.out; rw [List.length_replicate] at eo9; subst eo9) | ((with_reducible refine gate_dst (N := 16) rfl ?_); refine copy_whole k49 rfl _ _ 36 49 rfl Try.underlying36 (by kernel_rfl) (fun h w2 b ok => by obtain rfl := k49_open h; exact k49_mkM _ _ _ _) (A := A) (c := cc) (l := l) (xs := List.replicate l.length z49) (w0 := w) (base := w.heap.size) (ok := fun _ => True) rfl rfl (by (with_reducible repeat (first | apply Kd.R_alloc | apply Kd.R_drewN | apply Kd.R_drew)); exact HO.out) (Kd.C_below HR0.out (by repeat (first | (with_reducible first | exact HB.out | apply bA | apply bN | apply bD) | exact HB.out))) (by simp) (by repeat (first | (with_reducible first | exact HB.out | apply bA | apply bN | apply bD) | exact HB.out)) (Nat.le_refl _) ?_; intro w8 ho8 hb8 hkeep; clear HB HO hkeep; have HB := Aside0.mk hb8; have HO := Aside0.mk ho8; clear hb8 ho8))
   go_ret2
   exact ⟨_, rfl, (by (with_reducible repeat (first | apply Kd.R_alloc | apply Kd.R_drewN | apply Kd.R_drew)); exact HO.out), (by repeat (first | (with_reducible first | exact HB.out | apply bA | apply bN | apply bD) | exact HB.out))⟩
 · have cb : decide (p < 0) = false := decide_eq_false hp
   have HK := Aside0.mk (hk (by omega))
   clear hk
   cases c
   · rw [if_pos (.inr rfl)]
     clear hy hno hp
     go_enter Try.func42, Try.ntmps42
     go_wp2_with (first | ((with_reducible refine gate_dst (N := 13) rfl ?_); refine Kd.R_make k49 _ 49 rfl (N := 13) rfl 36 _ _ rfl (l.length : Int) rfl rfl Try.underlying36 (.agg #[(.int .i64 0), (.int .i64 0)]) 16 info49 rfl (by decide) (by omega) z49 (ok := fun _ => True) (okp := fun _ => True) (k49_mkM _ _ _ z49 ) (fun _ hk => hk) trivial (Int.natCast_nonneg _) (by rw [Int.toNat_natCast]; have := hlen.out; omega) (Below.refl _ _) (Nat.le_refl _) ?_; intro v199 w7 ho8 hb hg_ hnew_; clear hg_ hnew_; rw [Int.toNat_natCast] at ho8; have n0_ := Aside0.mk (below_step (by repeat (first | (with_reducible first | exact HB.out | apply bA | apply bN | apply bD) | exact HB.out)) hb); have n1_ := Aside0.mk (Kd.R_lower ho8 (below_size (by repeat (first | (with_reducible first | exact HB.out | apply bA | apply bN | apply bD) | exact HB.out)))); clear HB; have HB := n0_; have HO := n1_; clear n0_ n1_ hb ho8; obtain ⟨Ao9, co9, eo9⟩ := Kd.R_slice HO.out; rw [List.length_replicate] at eo9; subst eo9) | ((with_reducible refine gate_dst (N := 16) rfl ?_); refine copy_whole k49 rfl _ _ 36 49 rfl Try.underlying36 (by kernel_rfl) (fun h w2 b ok => by obtain rfl := k49_open h; exact k49_mkM _ _ _ _) (A := A) (c := cc) (l := l) (xs := List.replicate l.length z49) (w0 := w) (base := w.heap.size) (ok := fun _ => True) rfl rfl (by (with_reducible repeat (first | apply Kd.R_alloc | apply Kd.R_drewN | apply Kd.R_drew)); exact HO.out) (Kd.C_below HR0.out (by repeat (first | (with_reducible first | exact HB.out | apply bA | apply bN | apply bD) | exact HB.out))) (by simp) (by repeat (first | (with_reducible first | exact HB.out | apply bA | apply bN | apply bD) | exact HB.out)) (Nat.le_refl _) ?_; intro w8 ho8 hb8 hkeep; clear HB HO hkeep; have HB := Aside0.mk hb8; have HO := Aside0.mk ho8; clear hb8 ho8) | (go_at_call 36; (with_reducible refine (slot_Check.calls k A cc l false _ (Kd.C_below HR0.out (by repeat (first | (with_reducible first | exact HB.out | apply bA | apply bN | apply bD) | exact HB.out))) HC0.out HK.out).mono ?_); rintro e w9 ⟨rfl, hb⟩; have n0_ := Aside0.mk (below_step (by repeat (first | (with_reducible first | exact HB.out | apply bA | apply bN | apply bD) | exact HB.out)) hb); have n1_ := Aside0.mk (Kd.R_below (by (with_reducible repeat (first | apply Kd.R_alloc | apply Kd.R_drewN | apply Kd.R_drew)); exact HO.out) hb); clear HB HO; have HB := n0_; have HO := n1_; clear n0_ n1_ hb))
     go_ret2
     exact ⟨_, rfl, (by (with_reducible repeat (first | apply Kd.R_alloc | apply Kd.R_drewN | apply Kd.R_drew)); exact HO.out), (by repeat (first | (with_reducible first | exact HB.out | apply bA | apply bN | apply bD) | exact HB.out))⟩
   · have HY := Aside0.mk (hy rfl)
     rw [if_neg (by simp; omega)]
     obtain rfl : y = false := (hno.resolve_left hp).resolve_left (by simp)
     clear hy hno hp
     go_enter Try.func42, Try.ntmps42
     go_wp2_with (first | ((with_reducible refine gate_dst (N := 13) rfl ?_); refine Kd.R_make k49 _ 49 rfl (N := 13) rfl 36 _ _ rfl (l.length : Int) rfl rfl Try.underlying36 (.agg #[(.int .i64 0), (.int .i64 0)]) 16 info49 rfl (by decide) (by omega) z49 (ok := fun _ => True) (okp := fun _ => True) (k49_mkM _ _ _ z49 ) (fun _ hk => hk) trivial (Int.natCast_nonneg _) (by rw [Int.toNat_natCast]; have := hlen.out; omega) (Below.refl _ _) (Nat.le_refl _) ?_; intro v199 w7 ho8 hb hg_ hnew_; clear hg_ hnew_; rw [Int.toNat_natCast] at ho8; have n0_ := Aside0.mk (below_step (by repeat (first | (with_reducible first | exact HB.out | apply bA | apply bN | apply bD) | exact HB.out)) hb); have n1_ := Aside0.mk (Kd.R_lower ho8 (below_size (by repeat (first | (with_reducible first | exact HB.out | apply bA | apply bN | apply bD) | exact HB.out)))); clear HB; have HB := n0_; have HO := n1_; clear n0_ n1_ hb ho8; obtain ⟨Ao9, co9, eo9⟩ := Kd.R_slice HO.out; rw [List.length_replicate] at eo9; subst eo9) | ((with_reducible refine gate_dst (N := 16) rfl ?_); refine copy_whole k49 rfl _ _ 36 49 rfl Try.underlying36 (by kernel_rfl) (fun h w2 b ok => by obtain rfl := k49_open h; exact k49_mkM _ _ _ _) (A := A) (c := cc) (l := l) (xs := List.replicate l.length z49) (w0 := w) (base := w.heap.size) (ok := fun _ => True) rfl rfl (by (with_reducible repeat (first | apply Kd.R_alloc | apply Kd.R_drewN | apply Kd.R_drew)); exact HO.out) (Kd.C_below HR0.out (by repeat (first | (with_reducible first | exact HB.out | apply bA | apply bN | apply bD) | exact HB.out))) (by simp) (by repeat (first | (with_reducible first | exact HB.out | apply bA | apply bN | apply bD) | exact HB.out)) (Nat.le_refl _) ?_; intro w8 ho8 hb8 hkeep; clear HB HO hkeep; have HB := Aside0.mk hb8; have HO := Aside0.mk ho8; clear hb8 ho8) | (go_at_call 36; (with_reducible refine (slot_Check.calls k A cc l true _ (Kd.C_below HR0.out (by repeat (first | (with_reducible first | exact HB.out | apply bA | apply bN | apply bD) | exact HB.out))) HC0.out HK.out).mono ?_); rintro e w9 ⟨rfl, hb⟩; have n0_ := Aside0.mk (below_step (by repeat (first | (with_reducible first | exact HB.out | apply bA | apply bN | apply bD) | exact HB.out)) hb); have n1_ := Aside0.mk (Kd.R_below (by (with_reducible repeat (first | apply Kd.R_alloc | apply Kd.R_drewN | apply Kd.R_drew)); exact HO.out) hb); clear HB HO; have HB := n0_; have HO := n1_; clear n0_ n1_ hb) | ((with_reducible refine gate_callee (f := 38) rfl ?_); refine goesL_ (some 29) rfl rfl Try.func38 (by kernel_rfl) rfl #[.slice A l.length cc, .int .i64 p] rfl (by (try simp only [List.map_toArray, List.map_cons, List.map_nil]); first | done | rfl) ?_; (with_reducible refine (slot_Ready.calls k A cc l p false _ (Kd.C_below HR0.out (by repeat (first | (with_reducible first | exact HB.out | apply bA | apply bN | apply bD) | exact HB.out))) HC0.out HY.out).mono ?_); rintro e w10 ⟨rfl, hb⟩; refine ⟨_, rfl, ?_⟩; have n0_ := Aside0.mk (below_step (by repeat (first | (with_reducible first | exact HB.out | apply bA | apply bN | apply bD) | exact HB.out)) hb); have n1_ := Aside0.mk (Kd.R_below (by (with_reducible repeat (first | apply Kd.R_alloc | apply Kd.R_drewN | apply Kd.R_drew)); exact HO.out) hb); clear HB HO; have HB := n0_; have HO := n1_; clear n0_ n1_ hb))
     go_ret2
     exact ⟨_, rfl, (by (with_reducible repeat (first | apply Kd.R_alloc | apply Kd.R_drewN | apply Kd.R_drew)); exact HO.out), (by repeat (first | (with_reducible first | exact HB.out | apply bA | apply bN | apply bD) | exact HB.out))⟩
theorem slot_change.calls_yes (k : Nat) (A : Option Addr) (cc : Nat) (l : List S49) (p er : Int) (F : FuncId) (caps : Array Value) (w : World) (hr0 : Kd.C k49 w A l.length l) (hc0 : l.length ≤ cc) (hlen : l.length ≤ 17592186044416)
  (hp : 0 ≤ p) (hk : slot_Check.f k l = some true) (hy : slot_Ready.f k l p = some true) (i : Int) (hi : pos_Place.f p (l.length : Int) = some i) (h0 : 0 ≤ i) (h1 : i < (l.length : Int))
  (fn : Func) (hf : Try.prog.funcs[F]? = some fn) (hname : (fn.name == "runtime.NumGoroutine") = false) (hbody : fn.body.isSome = true) (Post : Nat → Nat → World → World → Prop)
  (hF : ∀ g cap W, w.heap.size ≤ g → Kd.R k49 49 W w.heap.size (fun _ => True) (.slice (some ⟨g, 0, none⟩) l.length cap) l → Below w.heap.size w W → Calls Try.prog F (#[.pointer (some ⟨g, i.toNat * 2, none⟩)] ++ caps) W fun e' w' => ∃ v, e' = .returned v ∧ Post g cap W w') :
  Calls Try.prog 42 #[.slice A l.length cc, .int .i64 p, .int .i64 er, .func (.func F) #[] caps] w fun e w' => ∃ g cap W, e = .returned (.tuple #[.slice (some ⟨g, 0, none⟩) l.length cap, .int .i64 0]) ∧ w.heap.size ≤ g ∧ Kd.R k49 49 W w.heap.size (fun _ => True) (.slice (some ⟨g, 0, none⟩) l.length cap) l ∧ Below w.heap.size w W ∧ Post g cap W w' := by
 have HB := Aside0.mk (Below.refl w.heap.size w)
 have hu49 := Try.underlying49
 have HR0 := Aside0.mk hr0
 have HC0 := Aside0.mk hc0
 have hlen := Aside0.mk hlen
 have HK := Aside0.mk hk
 have HY := Aside0.mk hy
 have HI := Aside0.mk hi
 have HF := Aside0.mk hf
 have HN := Aside0.mk hname
 have HBD := Aside0.mk hbody
 have hpos := Aside0.mk (by omega : 0 < l.length)
 have cb : decide (p < 0) = false := decide_eq_false (by omega)
 clear hr0 hc0 hk hy hi hf hname hbody hp
 go_enter Try.func42, Try.ntmps42
 go_wp2_with (first | ((with_reducible refine gate_dst (N := 13) rfl ?_); refine Kd.R_make k49 _ 49 rfl (N := 13) rfl 36 _ _ rfl (l.length : Int) rfl rfl Try.underlying36 (.agg #[(.int .i64 0), (.int .i64 0)]) 16 info49 rfl (by decide) (by omega) z49 (ok := fun _ => True) (okp := fun _ => True) (k49_mkM _ _ _ z49 ) (fun _ hk => hk) trivial (Int.natCast_nonneg _) (by rw [Int.toNat_natCast]; have := hlen.out; omega) (Below.refl _ _) (Nat.le_refl _) ?_; intro v199 w7 ho8 hb hg_ hnew_; clear hg_ hnew_; rw [Int.toNat_natCast] at ho8; have n0_ := Aside0.mk (below_step (by repeat (first | (with_reducible first | exact HB.out | apply bA | apply bN | apply bD) | exact HB.out)) hb); have n1_ := Aside0.mk (Kd.R_lower ho8 (below_size (by repeat (first | (with_reducible first | exact HB.out | apply bA | apply bN | apply bD) | exact HB.out)))); clear HB; have HB := n0_; have HO := n1_; clear n0_ n1_ hb ho8; obtain ⟨Ao9, co9, eo9⟩ := Kd.R_slice HO.out; rw [List.length_replicate] at eo9; subst eo9) | ((with_reducible refine gate_dst (N := 16) rfl ?_); refine copy_whole k49 rfl _ _ 36 49 rfl Try.underlying36 (by kernel_rfl) (fun h w2 b ok => by obtain rfl := k49_open h; exact k49_mkM _ _ _ _) (A := A) (c := cc) (l := l) (xs := List.replicate l.length z49) (w0 := w) (base := w.heap.size) (ok := fun _ => True) rfl rfl (by (with_reducible repeat (first | apply Kd.R_alloc | apply Kd.R_drewN | apply Kd.R_drew)); exact HO.out) (Kd.C_below HR0.out (by repeat (first | (with_reducible first | exact HB.out | apply bA | apply bN | apply bD) | exact HB.out))) (by simp) (by repeat (first | (with_reducible first | exact HB.out | apply bA | apply bN | apply bD) | exact HB.out)) (Nat.le_refl _) ?_; intro w8 ho8 hb8 hkeep; clear HB HO hkeep; have HB := Aside0.mk hb8; have HO := Aside0.mk ho8; clear hb8 ho8; obtain ⟨gx, ex, hgx⟩ := row_addr HO.out hpos.out; subst ex; have GX := Aside0.mk hgx; clear hgx) | (go_at_call 36; (with_reducible refine (slot_Check.calls k A cc l true _ (Kd.C_below HR0.out (by repeat (first | (with_reducible first | exact HB.out | apply bA | apply bN | apply bD) | exact HB.out))) HC0.out HK.out).mono ?_); rintro e w9 ⟨rfl, hb⟩; have n0_ := Aside0.mk (below_step (by repeat (first | (with_reducible first | exact HB.out | apply bA | apply bN | apply bD) | exact HB.out)) hb); have n1_ := Aside0.mk (Kd.R_below (by (with_reducible repeat (first | apply Kd.R_alloc | apply Kd.R_drewN | apply Kd.R_drew)); exact HO.out) hb); clear HB HO; have HB := n0_; have HO := n1_; clear n0_ n1_ hb) | ((with_reducible refine gate_callee (f := 38) rfl ?_); refine goesL_ (some 29) rfl rfl Try.func38 (by kernel_rfl) rfl #[.slice A l.length cc, .int .i64 p] rfl (by (try simp only [List.map_toArray, List.map_cons, List.map_nil]); first | done | rfl) ?_; (with_reducible refine (slot_Ready.calls k A cc l p true _ (Kd.C_below HR0.out (by repeat (first | (with_reducible first | exact HB.out | apply bA | apply bN | apply bD) | exact HB.out))) HC0.out HY.out).mono ?_); rintro e w10 ⟨rfl, hb⟩; refine ⟨_, rfl, ?_⟩; have n0_ := Aside0.mk (below_step (by repeat (first | (with_reducible first | exact HB.out | apply bA | apply bN | apply bD) | exact HB.out)) hb); have n1_ := Aside0.mk (Kd.R_below (by (with_reducible repeat (first | apply Kd.R_alloc | apply Kd.R_drewN | apply Kd.R_drew)); exact HO.out) hb); clear HB HO; have HB := n0_; have HO := n1_; clear n0_ n1_ hb) | ((with_reducible refine gate_callee (f := 20) rfl ?_); refine goesL_ (some 38) rfl rfl Try.func20 (by kernel_rfl) rfl #[.int .i64 p, .int .i64 (l.length : Int)] rfl (by (try simp only [List.map_toArray, List.map_cons, List.map_nil]); first | done | rfl) ?_; (with_reducible refine (pos_Place.calls p (l.length : Int) i _ HI.out).mono ?_); rintro e w' ⟨rfl, ⟨nd, rfl⟩⟩; refine ⟨_, rfl, ?_⟩) | ((with_reducible refine gate_dst (N := 40) rfl ?_); refine goesV_ (some 40) rfl rfl rfl #[] caps rfl HF.out HN.out HBD.out (#[.pointer (some ⟨gx, i.toNat * 2, none⟩)] ++ caps) (by first | rfl | (simp only [List.map_toArray, List.map_cons, List.map_nil]; first | rfl | (congr 1)) | simp) ?_; refine (hF gx co9 _ GX.out (by (with_reducible repeat (first | apply Kd.R_alloc | apply Kd.R_drewN | apply Kd.R_drew)); exact HO.out) (by repeat (first | (with_reducible first | exact HB.out | apply bA | apply bN | apply bD) | exact HB.out))).mono ?_; rintro e w11 ⟨vr, rfl, hpost⟩; refine ⟨_, rfl, ?_⟩; have PO := Aside0.mk hpost; clear hpost))

 go_ret2
 exact ⟨gx, co9, _, rfl, GX.out, (by (with_reducible repeat (first | apply Kd.R_alloc | apply Kd.R_drewN | apply Kd.R_drew)); exact HO.out), (by repeat (first | (with_reducible first | exact HB.out | apply bA | apply bN | apply bD) | exact HB.out)), PO.out⟩
/-- What 'change' does: the place that is changed, if any, and the error. -/
def slot_change.w (k : Nat) (l : List S49) (p er : Int) : Option (Option Int × Int) :=
  if l.length ≤ 17592186044416 then
    (if p < 0 then some (none, 40) else (slot_Check.f k l).bind fun c => if c = false then some (none, 40) else (slot_Ready.f k l p).bind fun y => if y = false then some (none, er) else (pos_Place.f p (l.length : Int)).bind fun i => if 0 ≤ i then (if i < (l.length : Int) then some (some i, 0) else none) else none)
  else none
theorem slot_change.mono_w (l : List S49) (p er : Int) (k : Nat) : LeO (slot_change.w k l p er) (slot_change.w (k + 1) l p er) := by
  unfold slot_change.w
  refine LeO.ite ?_ (LeO.none _)
  refine LeO.ite (LeO.refl _) ?_
  refine LeO.bind (slot_Check.mono _ _) (fun c => ?_)
  refine LeO.ite (LeO.refl _) ?_
  refine LeO.bind (slot_Ready.mono _ _ _) (fun y => ?_)
  exact LeO.refl _
theorem slot_change.none_ {k : Nat} {l : List S49} {p er e2 : Int} (h : slot_change.w k l p er = some (none, e2)) : l.length ≤ 17592186044416 ∧ ∃ c y, (0 ≤ p → slot_Check.f k l = some c) ∧ (c = true → slot_Ready.f k l p = some y) ∧ (p < 0 ∨ c = false ∨ y = false) ∧ e2 = if p < 0 ∨ c = false then 40 else er := by
  unfold slot_change.w at h
  by_cases hl : l.length ≤ 17592186044416
  · rw [if_pos hl] at h
    refine ⟨hl, ?_⟩
    by_cases hp : p < 0
    · rw [if_pos hp] at h
      injection h with h
      injection h with _ h
      exact ⟨false, false, fun h0 => absurd h0 (by omega), (fun h0 => nomatch h0), .inl hp, by rw [if_pos (.inl hp)]; exact h.symm⟩
    · rw [if_neg hp] at h
      obtain ⟨c, hc, h⟩ := Option.bind_eq_some_iff.1 h
      cases c
      · rw [if_pos rfl] at h
        injection h with h
        injection h with _ h
        exact ⟨false, false, fun _ => hc, (fun h0 => nomatch h0), .inr (.inl rfl), by rw [if_pos (.inr rfl)]; exact h.symm⟩
      · rw [if_neg (by simp)] at h
        obtain ⟨y, hy, h⟩ := Option.bind_eq_some_iff.1 h
        cases y
        · rw [if_pos rfl] at h
          injection h with h
          injection h with _ h
          exact ⟨true, false, fun _ => hc, fun _ => hy, .inr (.inr rfl), by rw [if_neg (by simp; omega)]; exact h.symm⟩
        · rw [if_neg (by simp)] at h
          obtain ⟨i, hi, h⟩ := Option.bind_eq_some_iff.1 h
          split at h
          · split at h
            · injection h with h
              injection h with h _
              cases h
            · cases h
          · cases h
  · rw [if_neg hl] at h
    cases h
theorem slot_change.some_ {k : Nat} {l : List S49} {p er e2 i : Int} (h : slot_change.w k l p er = some (some i, e2)) : l.length ≤ 17592186044416 ∧ e2 = 0 ∧ 0 ≤ p ∧ slot_Check.f k l = some true ∧ slot_Ready.f k l p = some true ∧ pos_Place.f p (l.length : Int) = some i ∧ 0 ≤ i ∧ i < (l.length : Int) := by
  unfold slot_change.w at h
  by_cases hl : l.length ≤ 17592186044416
  · rw [if_pos hl] at h
    refine ⟨hl, ?_⟩
    by_cases hp : p < 0
    · rw [if_pos hp] at h
      injection h with h
      injection h with h _
      cases h
    · rw [if_neg hp] at h
      obtain ⟨c, hc, h⟩ := Option.bind_eq_some_iff.1 h
      cases c
      · rw [if_pos rfl] at h
        injection h with h
        injection h with h _
        cases h
      · rw [if_neg (by simp)] at h
        obtain ⟨y, hy, h⟩ := Option.bind_eq_some_iff.1 h
        cases y
        · rw [if_pos rfl] at h
          injection h with h
          injection h with h _
          cases h
        · rw [if_neg (by simp)] at h
          obtain ⟨j, hj, h⟩ := Option.bind_eq_some_iff.1 h
          split at h
          · split at h
            · injection h with h
              injection h with h h2
              injection h with h
              subst h
              exact ⟨h2.symm, by omega, hc, hy, hj, by assumption, by assumption⟩
            · cases h
          · cases h
  · rw [if_neg hl] at h
    cases h
theorem slot_change.elem {w : World} {base g n cap : Nat} {ok : Nat → Prop} {l : List S49} (h : Kd.R k49 49 w base ok (.slice (some ⟨g, 0, none⟩) n cap) l) (i : Int) (h0 : 0 ≤ i) (h1 : i < n) :
    w.cell? ⟨g, i.toNat * 2, none⟩ = some (.int .i64 (rd_T49 l i).f0) ∧ w.cell? ⟨g, i.toNat * 2 + 1, none⟩ = some (.int .i64 (rd_T49 l i).f1) ∧ w.frozen? ⟨g, i.toNat * 2, none⟩ = false ∧ w.frozen? ⟨g, i.toNat * 2 + 1, none⟩ = false := by
  obtain ⟨ce, hcl, hM, hcc, hfr⟩ := Kd.R_elem h z49 i h0 h1
  obtain rfl := k49_openM hM
  exact ⟨hcc 0 _ rfl, hcc 1 _ rfl, hfr 0, hfr 1⟩
theorem slot_change.set0 {w : World} {base g n cap : Nat} {ok : Nat → Prop} {l : List S49} (h : Kd.R k49 49 w base ok (.slice (some ⟨g, 0, none⟩) n cap) l) (i : Int) (h0 : 0 ≤ i) (h1 : i < n) (x : Int) :
    Kd.R k49 49 (w.setCell ⟨g, i.toNat * 2, none⟩ (.int .i64 x)) base ok (.slice (some ⟨g, 0, none⟩) n cap) (l.set i.toNat ⟨x, (rd_T49 l i).f1⟩) := by
  obtain ⟨ce, hcl, hM, hcc, hfr⟩ := Kd.R_elem h z49 i h0 h1
  obtain rfl := k49_openM hM
  exact (Kd.R_seg h i h0 h1 (okp := fun k => ok k ∧ k ≠ g) (seg := [.int .i64 x]) (j := 0) hcl hcc (show 1 ≤ 2 from by decide) (x' := (⟨x, (rd_T49 l i).f1⟩ : S49)) (k49_mkM _ _ _ (⟨x, (rd_T49 l i).f1⟩ : S49)) (fun _ hk => hk)).1
theorem slot_change.set1 {w : World} {base g n cap : Nat} {ok : Nat → Prop} {l : List S49} (h : Kd.R k49 49 w base ok (.slice (some ⟨g, 0, none⟩) n cap) l) (i : Int) (h0 : 0 ≤ i) (h1 : i < n) (x : Int) :
    Kd.R k49 49 (w.setCell ⟨g, i.toNat * 2 + 1, none⟩ (.int .i64 x)) base ok (.slice (some ⟨g, 0, none⟩) n cap) (l.set i.toNat ⟨(rd_T49 l i).f0, x⟩) := by
  obtain ⟨ce, hcl, hM, hcc, hfr⟩ := Kd.R_elem h z49 i h0 h1
  obtain rfl := k49_openM hM
  exact (Kd.R_seg h i h0 h1 (okp := fun k => ok k ∧ k ≠ g) (seg := [.int .i64 x]) (j := 1) hcl hcc (show 1 + 1 ≤ 2 from by decide) (x' := (⟨(rd_T49 l i).f0, x⟩ : S49)) (k49_mkM _ _ _ (⟨(rd_T49 l i).f0, x⟩ : S49)) (fun _ hk => hk)).1

-- NOT PRINTED: function 43 (slot_Write_1)

/-! ### slot_Write: function 27 -/
def slot_Write.f (k : Nat) (l : List S49) (p val : Int) : Option (List S49 × Int) :=
  (slot_change.w k l p 30).bind fun r => match r.1 with | none => some (l, r.2) | some i => some (l.set i.toNat ⟨(rd_T49 l i).f0, val⟩, r.2)
theorem slot_Write.mono : ∀ (l : List S49) (p val : Int) (k : Nat), LeO (slot_Write.f k l p val) (slot_Write.f (k + 1) l p val) := fun l p val k => LeO.bind (slot_change.mono_w l p 30 k) (fun _ => LeO.refl _)
set_option maxHeartbeats 8000000 in
set_option maxRecDepth 100000 in
theorem slot_Write_1.calls (g j gv : Nat) (val x y : Int) (w : World) (hb : w.heap[gv]? = some (.cells #[.int .i64 val] 3 (0, 0))) (h0 : w.cell? ⟨g, j, none⟩ = some (.int .i64 x)) (h1 : w.cell? ⟨g, j + 1, none⟩ = some (.int .i64 y)) (hf : w.frozen? ⟨g, j + 1, none⟩ = false) :
  Calls Try.prog 43 #[.pointer (some ⟨g, j, none⟩), .pointer (some ⟨gv, 0, none⟩)] w fun e w' => ∃ v, e = .returned v ∧ w' = w.setCell ⟨g, j + 1, none⟩ (.int .i64 val) := by
  have hu49 := Try.underlying49
  have hc : w.cell? ⟨gv, 0, none⟩ = some (.int .i64 val) := (blk_cell hb 0).trans rfl
  go_enter Try.func43, Try.ntmps43
  go_wp2
  exact bodyPost_end (v := .tuple #[]) (by simp [results, show Try.f43.results = #[] from rfl]) rfl ⟨_, rfl, rfl⟩
theorem slot_Write.at (k : Nat) (A0 : Option Addr) (c0 : Nat) (l0 : List S49) (a1 a2 : Int) (r1 : List S49) (r2 : Int) (gv : Nat) (w : World) (hb : w.heap[gv]? = some (.cells #[.int .i64 a2] 3 (0, 0))) (hr0 : Kd.C k49 w A0 l0.length l0) (hc0 : l0.length ≤ c0) (h : slot_Write.f k l0 a1 a2 = some (r1, r2)) :
  Calls Try.prog 42 #[.slice A0 l0.length c0, .int .i64 a1, .int .i64 30, .func (.func 43) #[] #[.pointer (some ⟨gv, 0, none⟩)]] w fun e w' => ∃ v0_ : Value, e = .returned (.tuple #[v0_, .int .i64 r2]) ∧ Kd.R k49 49 w' w.heap.size (fun _ => True) v0_ r1 ∧ Below w.heap.size w w' := by
  obtain ⟨⟨o, e2⟩, hw, h⟩ := Option.bind_eq_some_iff.1 h
  cases o with
  | none =>
    injection h with h
    injection h with ha hb2
    subst ha; subst hb2
    obtain ⟨hl, c, y, h1, h2, h3, rfl⟩ := slot_change.none_ hw
    exact slot_change.calls_no k A0 c0 l0 a1 30 43 #[.pointer (some ⟨gv, 0, none⟩)] w hr0 hc0 hl c h1 y h2 h3
  | some i =>
    injection h with h
    injection h with ha hb2
    subst ha; subst hb2
    obtain ⟨hl, rfl, hp, h1, h2, h3, h4, h5⟩ := slot_change.some_ hw
    refine (slot_change.calls_yes k A0 c0 l0 a1 30 43 #[.pointer (some ⟨gv, 0, none⟩)] w hr0 hc0 hl hp h1 h2 i h3 h4 h5 _ Try.func43 (by kernel_rfl) rfl
      (fun g cap W w' => Kd.R k49 49 w' w.heap.size (fun _ => True) (.slice (some ⟨g, 0, none⟩) l0.length cap) (l0.set i.toNat ⟨(rd_T49 l0 i).f0, a2⟩) ∧ Below w.heap.size w w') (fun g cap W hg hR hB => ?_)).mono ?_
    · obtain ⟨q0, q1, q2, q3⟩ := slot_change.elem hR i h4 h5
      refine (slot_Write_1.calls g (i.toNat * 2) gv a2 _ _ W (blk_below hb hB) q0 q1 q3).mono ?_
      rintro e' w' ⟨v, rfl, rfl⟩
      exact ⟨v, rfl, slot_change.set1 hR i h4 h5 a2, below_set hB hg⟩
    · rintro e w' ⟨g, cap, W, rfl, hg, hR, hB, hP1, hP2⟩
      exact ⟨_, rfl, hP1, hP2⟩
set_option maxHeartbeats 8000000 in
set_option maxRecDepth 100000 in
theorem slot_Write.calls (k : Nat) (A0 : Option Addr) (c0 : Nat) (l0 : List S49) (a1 a2 : Int) (r1 : List S49) (r2 : Int) (w : World) (hr0 : Kd.C k49 w A0 l0.length l0) (hc0 : l0.length ≤ c0) (h : slot_Write.f k l0 a1 a2 = some (r1, r2)) :
  Calls Try.prog 27 #[.slice A0 l0.length c0, .int .i64 a1, .int .i64 a2] w fun e w' => ∃ v0_ : Value, e = .returned (.tuple #[v0_, .int .i64 r2]) ∧ Kd.R k49 49 w' w.heap.size (fun _ => True) v0_ r1 ∧ Below w.heap.size w w' := by
 have HB := Aside0.mk (Below.refl w.heap.size w)
 have hu3 := Try.underlying3
 have hmf : ∀ (fn : Fn) (first cap : Array Value) (w : World), (Instr.makeFunc fn first cap).run Try.prog w = .ok (.func fn first cap) w := fun _ _ _ _ => rfl
 have HR0 := Aside0.mk hr0
 have HC0 := Aside0.mk hc0
 have H := Aside0.mk h
 clear hr0 hc0 h
 go_enter Try.func27, Try.ntmps27
 go_wp2_with (first | ((with_reducible refine gate_dst (N := 5) rfl ?_); refine box_event ?hg (N := 5) ?hd (cs := #[.int .i64 a2]) (t := 3) ?hr ?_; (case hd => rfl); (case hg => rfl); (case hr => first | (go_simp; done) | (go_simp; rfl)); intro gb hg wb hbox hb; have n0_ := Aside0.mk (below_step (by repeat (first | (with_reducible first | exact HB.out | apply bA | apply bN | apply bD) | exact HB.out)) hb); have BKb := Aside0.mk hbox; have GEb := Aside0.mk (Nat.le_trans (below_size (by repeat (first | (with_reducible first | exact HB.out | apply bA | apply bN | apply bD) | exact HB.out))) (Nat.le_of_eq hg.symm) : w.heap.size ≤ gb); clear HB; have HB := n0_; clear n0_ hb hbox hg) | (go_at_call 42; refine (slot_Write.at k A0 c0 l0 a1 a2 r1 r2 gb _ (by (with_reducible repeat (first | apply blk_drewN | apply blk_drew | apply blk_alloc)); exact BKb.out) (Kd.C_below HR0.out (by repeat (first | (with_reducible first | exact HB.out | apply bA | apply bN | apply bD) | exact HB.out))) HC0.out H.out).mono ?_; rintro e w9 ⟨v0, rfl, hR, hb⟩; have n0_ := Aside0.mk (below_step (by repeat (first | (with_reducible first | exact HB.out | apply bA | apply bN | apply bD) | exact HB.out)) hb); have HO := Aside0.mk (Kd.R_lower hR (below_size (by repeat (first | (with_reducible first | exact HB.out | apply bA | apply bN | apply bD) | exact HB.out)))); clear HB; have HB := n0_; clear n0_ hb hR))
 go_ret2
 exact ⟨_, rfl, by (with_reducible repeat (first | apply Kd.R_alloc | apply Kd.R_drewN | apply Kd.R_drew)); exact HO.out, (by repeat (first | (with_reducible first | exact HB.out | apply bA | apply bN | apply bD) | exact HB.out))⟩

-- NOT PRINTED: function 45 (slot_Read_1)

/-! ### slot_Read: function 29 -/
def slot_Read.f (k : Nat) (l : List S49) (p : Int) : Option (Int × Int) :=
  (slot_change.w k l p 40).bind fun r => match r.1 with | none => some (0, r.2) | some i => some ((rd_T49 l i).f1, r.2)
theorem slot_Read.mono : ∀ (l : List S49) (p : Int) (k : Nat), LeO (slot_Read.f k l p) (slot_Read.f (k + 1) l p) := fun l p k => LeO.bind (slot_change.mono_w l p 40 k) (fun _ => LeO.refl _)
set_option maxHeartbeats 8000000 in
set_option maxRecDepth 100000 in
theorem slot_Read.results1 {P : Program} {fn : Func} {p u : Tmp} {ty : TypeId} {k : IntKind} (h : fn.results = #[.cell p ty, .tmp u]) (tmps : Array Value) (w : World) (g : Nat) (v : Value) (hp : tmps.getD p undef = .pointer (some ⟨g, 0, none⟩)) (hc : w.cell? ⟨g, 0, none⟩ = some v) (hu : P.underlying ty = some (.int k)) :
    (results fn tmps).run P w = .ok (.tuple #[v, tmps.getD u undef]) w := by
  have hp' : tmps[p]?.getD undef = .pointer (some ⟨g, 0, none⟩) := by simpa using hp
  have hagg : (isAgg ty).run P w = .ok false w := by
    unfold isAgg
    rw [Sem.run_bind, run_underlying hu w]
    rfl
  simp [results, h, hp', asAddr, loadVar, Sem.run_bind, hagg, run_load, hc]
set_option maxHeartbeats 8000000 in
set_option maxRecDepth 100000 in
theorem slot_Read_1.calls (g j gv : Nat) (val x y : Int) (w : World) (hb : w.heap[gv]? = some (.cells #[.int .i64 val] 3 (0, 0))) (h0 : w.cell? ⟨g, j, none⟩ = some (.int .i64 x)) (h1 : w.cell? ⟨g, j + 1, none⟩ = some (.int .i64 y)) :
  Calls Try.prog 45 #[.pointer (some ⟨g, j, none⟩), .pointer (some ⟨gv, 0, none⟩)] w fun e w' => ∃ v, e = .returned v ∧ w' = w.setCell ⟨gv, 0, none⟩ (.int .i64 y) := by
  have hu49 := Try.underlying49
  have hc : w.cell? ⟨gv, 0, none⟩ = some (.int .i64 val) := (blk_cell hb 0).trans rfl
  have hf := blk_frozen hb 0
  go_enter Try.func45, Try.ntmps45
  go_wp2
  exact bodyPost_end (v := .tuple #[]) (by simp [results, show Try.f45.results = #[] from rfl]) rfl ⟨_, rfl, rfl⟩
theorem slot_Read.at (k : Nat) (A0 : Option Addr) (c0 : Nat) (l0 : List S49) (a1 : Int) (r1 r2 : Int) (gv B : Nat) (w : World) (hb : w.heap[gv]? = some (.cells #[.int .i64 0] 3 (0, 0))) (hB0 : B ≤ gv) (hr0 : Kd.C k49 w A0 l0.length l0) (hc0 : l0.length ≤ c0) (h : slot_Read.f k l0 a1 = some (r1, r2)) :
  Calls Try.prog 42 #[.slice A0 l0.length c0, .int .i64 a1, .int .i64 40, .func (.func 45) #[] #[.pointer (some ⟨gv, 0, none⟩)]] w fun e w' => ∃ v0_ : Value, e = .returned (.tuple #[v0_, .int .i64 r2]) ∧ w'.heap[gv]? = some (.cells #[.int .i64 r1] 3 (0, 0)) ∧ Below B w w' := by
  have hBw : B ≤ w.heap.size := Nat.le_trans hB0 (Nat.le_of_lt (blk_lt hb))
  obtain ⟨⟨o, e2⟩, hw, h⟩ := Option.bind_eq_some_iff.1 h
  cases o with
  | none =>
    injection h with h
    injection h with ha hb2
    subst ha; subst hb2
    obtain ⟨hl, c, y, h1, h2, h3, rfl⟩ := slot_change.none_ hw
    refine (slot_change.calls_no k A0 c0 l0 a1 40 45 #[.pointer (some ⟨gv, 0, none⟩)] w hr0 hc0 hl c h1 y h2 h3).mono ?_
    rintro e w' ⟨v, rfl, _, hB⟩
    exact ⟨v, rfl, blk_below hb hB, hB.mono hBw⟩
  | some i =>
    injection h with h
    injection h with ha hb2
    subst ha; subst hb2
    obtain ⟨hl, rfl, hp, h1, h2, h3, h4, h5⟩ := slot_change.some_ hw
    refine (slot_change.calls_yes k A0 c0 l0 a1 40 45 #[.pointer (some ⟨gv, 0, none⟩)] w hr0 hc0 hl hp h1 h2 i h3 h4 h5 _ Try.func45 (by kernel_rfl) rfl
      (fun g cap W w' => w'.heap[gv]? = some (.cells #[.int .i64 (rd_T49 l0 i).f1] 3 (0, 0)) ∧ Below B w w') (fun g cap W hg hR hB => ?_)).mono ?_
    · obtain ⟨q0, q1, q2, q3⟩ := slot_change.elem hR i h4 h5
      refine (slot_Read_1.calls g (i.toNat * 2) gv 0 _ _ W (blk_below hb hB) q0 q1).mono ?_
      rintro e' w' ⟨v, rfl, rfl⟩
      exact ⟨v, rfl, blk_put (blk_below hb hB) 0 _ rfl, (hB.mono hBw).setCell hB0 _⟩
    · rintro e w' ⟨g, cap, W, rfl, hg, hR, hB, hP1, hP2⟩
      exact ⟨_, rfl, hP1, hP2⟩
set_option maxHeartbeats 8000000 in
set_option maxRecDepth 100000 in
theorem slot_Read.calls (k : Nat) (A0 : Option Addr) (c0 : Nat) (l0 : List S49) (a1 : Int) (r1 : Int) (r2 : Int) (w : World) (hr0 : Kd.C k49 w A0 l0.length l0) (hc0 : l0.length ≤ c0) (h : slot_Read.f k l0 a1 = some (r1, r2)) :
  Calls Try.prog 29 #[.slice A0 l0.length c0, .int .i64 a1] w fun e w' => e = .returned (.tuple #[.int .i64 r1, .int .i64 r2]) ∧ Below w.heap.size w w' := by
 have HB := Aside0.mk (Below.refl w.heap.size w)
 have hu3 := Try.underlying3
 have hmf : ∀ (fn : Fn) (first cap : Array Value) (w : World), (Instr.makeFunc fn first cap).run Try.prog w = .ok (.func fn first cap) w := fun _ _ _ _ => rfl
 have HR0 := Aside0.mk hr0
 have HC0 := Aside0.mk hc0
 have H := Aside0.mk h
 clear hr0 hc0 h
 go_enter Try.func29, Try.ntmps29
 go_wp2_with (first | ((with_reducible refine gate_dst (N := 4) rfl ?_); refine box_event ?hg (N := 4) ?hd (cs := #[.int .i64 0]) (t := 3) ?hr ?_; (case hd => rfl); (case hg => rfl); (case hr => first | (go_simp; done) | (go_simp; rfl)); intro gb hg wb hbox hb; have n0_ := Aside0.mk (below_step (by repeat (first | (with_reducible first | exact HB.out | apply bA | apply bN | apply bD) | exact HB.out)) hb); have BKb := Aside0.mk hbox; have GEb := Aside0.mk (Nat.le_trans (below_size (by repeat (first | (with_reducible first | exact HB.out | apply bA | apply bN | apply bD) | exact HB.out))) (Nat.le_of_eq hg.symm) : w.heap.size ≤ gb); clear HB; have HB := n0_; clear n0_ hb hbox hg) | (go_at_call 42; refine (slot_Read.at k A0 c0 l0 a1 r1 r2 gb w.heap.size _ (by (with_reducible repeat (first | apply blk_drewN | apply blk_drew | apply blk_alloc)); exact BKb.out) GEb.out (Kd.C_below HR0.out (by repeat (first | (with_reducible first | exact HB.out | apply bA | apply bN | apply bD) | exact HB.out))) HC0.out H.out).mono ?_; rintro e w9 ⟨v0, rfl, hbk, hb⟩; have n0_ := Aside0.mk (Below.trans (by repeat (first | (with_reducible first | exact HB.out | apply bA | apply bN | apply bD) | exact HB.out)) hb); have BK9 := Aside0.mk hbk; have hc9 : w9.cell? ⟨gb, 0, none⟩ = some (.int .i64 r1) := (blk_cell hbk 0).trans rfl; have hf9 := blk_frozen hbk 0; clear HB; have HB := n0_; clear n0_ hb hbk))
 refine bodyPost_ret (slot_Read.results1 rfl _ _ gb (.int .i64 r1) rfl (by first | exact (blk_cell (blk_put BK9.out 0 _ rfl) 0) | exact hc9) Try.underlying3) rfl ?_
 exact ⟨rfl, by first | exact below_set HB.out GEb.out | exact HB.out⟩

-- NOT PRINTED: function 46 (slot_Release_1)

/-! ### slot_Release: function 31 -/
def slot_Release.g (k : Nat) (l : List S49) (p : Int) : Option (List S49 × Int × Int) :=
  (slot_change.w k l p 40).bind fun r => match r.1 with | none => some (l, 0, r.2) | some i => if p > 1099511627776 then some (l, 40, r.2) else some (l.set i.toNat ⟨wrap64 ((rd_T49 l i).f0 + (l.length : Int)), (rd_T49 l i).f1⟩, 0, r.2)
def slot_Release.f (k : Nat) (l : List S49) (p : Int) : Option (List S49 × Int) := (slot_Release.g k l p).bind fun r => some (r.1, mx r.2.1 r.2.2)
theorem slot_Release.mono : ∀ (l : List S49) (p : Int) (k : Nat), LeO (slot_Release.f k l p) (slot_Release.f (k + 1) l p) := fun l p k => LeO.bind (LeO.bind (slot_change.mono_w l p 40 k) (fun _ => LeO.refl _)) (fun _ => LeO.refl _)
set_option maxHeartbeats 8000000 in
set_option maxRecDepth 100000 in
theorem slot_Release_1.calls_big (g j gp ge gl : Nat) (p : Int) (w : World) (hp : w.heap[gp]? = some (.cells #[.int .i64 p] 3 (0, 0))) (he : w.heap[ge]? = some (.cells #[.int .i64 0] 37 (0, 0))) (hbig : p > 1099511627776) :
  Calls Try.prog 46 #[.pointer (some ⟨g, j, none⟩), .pointer (some ⟨gp, 0, none⟩), .pointer (some ⟨ge, 0, none⟩), .pointer (some ⟨gl, 0, none⟩)] w fun e w' => ∃ v, e = .returned v ∧ w' = w.setCell ⟨ge, 0, none⟩ (.int .i64 40) := by
  have hu37 := Try.underlying37
  have hc : w.cell? ⟨gp, 0, none⟩ = some (.int .i64 p) := (blk_cell hp 0).trans rfl
  have hce : w.cell? ⟨ge, 0, none⟩ = some (.int .i64 0) := (blk_cell he 0).trans rfl
  have hfe := blk_frozen he 0
  have cb : decide (1099511627776 < p) = true := decide_eq_true hbig
  go_enter Try.func46, Try.ntmps46
  go_wp2
  exact bodyPost_ret (v := .tuple #[]) (by simp [results, show Try.f46.results = #[] from rfl]) rfl ⟨_, rfl, rfl⟩
set_option maxHeartbeats 8000000 in
set_option maxRecDepth 100000 in
theorem slot_Release_1.calls (g j gp ge gl n c : Nat) (A : Option Addr) (p x y : Int) (w : World) (hp : w.heap[gp]? = some (.cells #[.int .i64 p] 3 (0, 0))) (hl : w.heap[gl]? = some (.cells #[.slice A n c] 36 (0, 0))) (hbig : ¬ p > 1099511627776) (h0 : w.cell? ⟨g, j, none⟩ = some (.int .i64 x)) (hf : w.frozen? ⟨g, j, none⟩ = false) :
  Calls Try.prog 46 #[.pointer (some ⟨g, j, none⟩), .pointer (some ⟨gp, 0, none⟩), .pointer (some ⟨ge, 0, none⟩), .pointer (some ⟨gl, 0, none⟩)] w fun e w' => ∃ v, e = .returned v ∧ ∃ m, w' = (w.setCell ⟨g, j, none⟩ (.int .i64 (wrap64 (x + (n : Int))))).drewN m := by
  have hu49 := Try.underlying49
  have hc : w.cell? ⟨gp, 0, none⟩ = some (.int .i64 p) := (blk_cell hp 0).trans rfl
  have hcl : w.cell? ⟨gl, 0, none⟩ = some (.slice A n c) := (blk_cell hl 0).trans rfl
  have cb : decide (1099511627776 < p) = false := decide_eq_false hbig
  go_enter Try.func46, Try.ntmps46
  go_wp2
  go_region
  all_goals (go_wp2)
  all_goals exact bodyPost_end (v := .tuple #[]) (by simp [results, show Try.f46.results = #[] from rfl]) rfl ⟨_, rfl, _, rfl⟩
theorem slot_Release.at (k : Nat) (A0 : Option Addr) (c0 : Nat) (l0 : List S49) (a1 : Int) (r1 : List S49) (e1 e2 : Int) (gp ge gl B : Nat) (w : World) (hp : w.heap[gp]? = some (.cells #[.int .i64 a1] 3 (0, 0))) (he : w.heap[ge]? = some (.cells #[.int .i64 0] 37 (0, 0))) (hl : w.heap[gl]? = some (.cells #[.slice A0 l0.length c0] 36 (0, 0))) (hBe : B ≤ ge) (hr0 : Kd.C k49 w A0 l0.length l0) (hc0 : l0.length ≤ c0) (h : slot_Release.g k l0 a1 = some (r1, e1, e2)) :
  Calls Try.prog 42 #[.slice A0 l0.length c0, .int .i64 a1, .int .i64 40, .func (.func 46) #[] #[.pointer (some ⟨gp, 0, none⟩), .pointer (some ⟨ge, 0, none⟩), .pointer (some ⟨gl, 0, none⟩)]] w fun e w' => ∃ v0_ : Value, e = .returned (.tuple #[v0_, .int .i64 e2]) ∧ w'.heap[ge]? = some (.cells #[.int .i64 e1] 37 (0, 0)) ∧ Kd.R k49 49 w' w.heap.size (fun _ => True) v0_ r1 ∧ Below B w w' := by
  have hBw : B ≤ w.heap.size := Nat.le_trans hBe (Nat.le_of_lt (blk_lt he))
  obtain ⟨⟨o, e3⟩, hw, h⟩ := Option.bind_eq_some_iff.1 h
  cases o with
  | none =>
    injection h with h
    injection h with ha h
    injection h with hb2 hb3
    subst ha; subst hb2; subst hb3
    obtain ⟨hlen, c, y, h1, h2, h3, rfl⟩ := slot_change.none_ hw
    refine (slot_change.calls_no k A0 c0 l0 a1 40 46 _ w hr0 hc0 hlen c h1 y h2 h3).mono ?_
    rintro e w' ⟨v, rfl, hR, hB⟩
    exact ⟨v, rfl, blk_below he hB, hR, hB.mono hBw⟩
  | some i =>
    obtain ⟨hlen, rfl, hp0, h1, h2, h3, h4, h5⟩ := slot_change.some_ hw
    have hlt : ge < w.heap.size := blk_lt he
    by_cases hbig : a1 > 1099511627776
    · have h := (if_pos hbig).symm.trans h
      injection h with h
      injection h with ha h
      injection h with hb2 hb3
      subst ha; subst hb2; subst hb3
      refine (slot_change.calls_yes k A0 c0 l0 a1 40 46 _ w hr0 hc0 hlen hp0 h1 h2 i h3 h4 h5 _ Try.func46 (by kernel_rfl) rfl
        (fun g cap W w' => w'.heap[ge]? = some (.cells #[.int .i64 40] 37 (0, 0)) ∧ Kd.R k49 49 w' w.heap.size (fun _ => True) (.slice (some ⟨g, 0, none⟩) l0.length cap) l0 ∧ Below B w w') (fun g cap W hg hR hB => ?_)).mono ?_
      · refine (slot_Release_1.calls_big g (i.toNat * 2) gp ge gl a1 W (blk_below hp hB) (blk_below he hB) hbig).mono ?_
        rintro e' w' ⟨v, rfl, rfl⟩
        exact ⟨v, rfl, blk_put (blk_below he hB) 0 _ rfl, Kd.R_set hR (blk_below he hB) (by decide) 0 _, (hB.mono hBw).setCell hBe _⟩
      · rintro e w' ⟨g, cap, W, rfl, hg, hR, hB, hP1, hP2, hP3⟩
        exact ⟨_, rfl, hP1, hP2, hP3⟩
    · have h := (if_neg hbig).symm.trans h
      injection h with h
      injection h with ha h
      injection h with hb2 hb3
      subst ha; subst hb2; subst hb3
      refine (slot_change.calls_yes k A0 c0 l0 a1 40 46 _ w hr0 hc0 hlen hp0 h1 h2 i h3 h4 h5 _ Try.func46 (by kernel_rfl) rfl
        (fun g cap W w' => w'.heap[ge]? = some (.cells #[.int .i64 0] 37 (0, 0)) ∧ Kd.R k49 49 w' w.heap.size (fun _ => True) (.slice (some ⟨g, 0, none⟩) l0.length cap) (l0.set i.toNat ⟨wrap64 ((rd_T49 l0 i).f0 + (l0.length : Int)), (rd_T49 l0 i).f1⟩) ∧ Below B w w') (fun g cap W hg hR hB => ?_)).mono ?_
      · obtain ⟨q0, q1, q2, q3⟩ := slot_change.elem hR i h4 h5
        refine (slot_Release_1.calls g (i.toNat * 2) gp ge gl l0.length c0 A0 a1 _ 0 W (blk_below hp hB) (blk_below hl hB) hbig q0 q2).mono ?_
        rintro e' w' ⟨v, rfl, m, rfl⟩
        exact ⟨v, rfl, blk_drewN (blk_far (blk_below he hB) (p := ⟨g, i.toNat * 2, none⟩) (by show ge ≠ g; omega) _) m, Kd.R_drewN (slot_change.set0 hR i h4 h5 _) m, bN ((hB.mono hBw).setCell (Nat.le_trans hBw hg) _) m⟩
      · rintro e w' ⟨g, cap, W, rfl, hg, hR, hB, hP1, hP2, hP3⟩
        exact ⟨_, rfl, hP1, hP2, hP3⟩
set_option maxHeartbeats 8000000 in
set_option maxRecDepth 100000 in
theorem slot_Release.calls (k : Nat) (A0 : Option Addr) (c0 : Nat) (l0 : List S49) (a1 : Int) (r1 : List S49) (r2 : Int) (w : World) (hr0 : Kd.C k49 w A0 l0.length l0) (hc0 : l0.length ≤ c0) (h : slot_Release.f k l0 a1 = some (r1, r2)) :
  Calls Try.prog 31 #[.slice A0 l0.length c0, .int .i64 a1] w fun e w' => ∃ v0_ : Value, e = .returned (.tuple #[v0_, .int .i64 r2]) ∧ Kd.R k49 49 w' w.heap.size (fun _ => True) v0_ r1 ∧ Below w.heap.size w w' := by
 obtain ⟨⟨r1', e1, e2⟩, hg0, h'⟩ := Option.bind_eq_some_iff.1 h
 injection h' with h'
 injection h' with ha hb
 subst ha; subst hb
 clear h
 have HB := Aside0.mk (Below.refl w.heap.size w)
 have hu3 := Try.underlying3
 have hu36 := Try.underlying36
 have hu37 := Try.underlying37
 have hmf : ∀ (fn : Fn) (first cap : Array Value) (w : World), (Instr.makeFunc fn first cap).run Try.prog w = .ok (.func fn first cap) w := fun _ _ _ _ => rfl
 have HR0 := Aside0.mk hr0
 have HC0 := Aside0.mk hc0
 have H := Aside0.mk hg0
 clear hr0 hc0 hg0
 go_enter Try.func31, Try.ntmps31
 go_upto_region 2 with (first | ((with_reducible refine gate_dst (N := 2) rfl ?_); refine box_event ?hg (N := 2) ?hd (cs := #[.slice A0 l0.length c0]) (t := 36) ?hr ?_; (case hd => rfl); (case hg => rfl); (case hr => first | (go_simp; done) | (go_simp; rfl)); intro gl hg wl hbox hb; have n0_ := Aside0.mk (below_step (by repeat (first | (with_reducible first | exact HB.out | apply bA | apply bN | apply bD) | exact HB.out)) hb);  have BKl := Aside0.mk hbox; have hcl : wl.cell? ⟨gl, 0, none⟩ = some (.slice A0 l0.length c0) := (blk_cell hbox 0).trans rfl; have hfl := blk_frozen hbox 0; have GEl := Aside0.mk (Nat.le_trans (below_size (by repeat (first | (with_reducible first | exact HB.out | apply bA | apply bN | apply bD) | exact HB.out))) (Nat.le_of_eq hg.symm) : w.heap.size ≤ gl); clear HB; have HB := n0_; clear n0_ hb hbox hg) | ((with_reducible refine gate_dst (N := 3) rfl ?_); refine box_event ?hg (N := 3) ?hd (cs := #[.int .i64 a1]) (t := 3) ?hr ?_; (case hd => rfl); (case hg => rfl); (case hr => first | (go_simp; done) | (go_simp; rfl)); intro gp hg wp hbox hb; have n0_ := Aside0.mk (below_step (by repeat (first | (with_reducible first | exact HB.out | apply bA | apply bN | apply bD) | exact HB.out)) hb); have m0_ := Aside0.mk (blk_below (by (with_reducible repeat (first | apply blk_drewN | apply blk_drew | apply blk_alloc)); exact BKl.out) hb); clear BKl; have BKl := m0_; clear m0_ hcl; have hcl : wp.cell? ⟨gl, 0, none⟩ = some (.slice A0 l0.length c0) := (blk_cell BKl.out 0).trans rfl; clear hfl; have hfl := blk_frozen BKl.out 0; have BKp := Aside0.mk hbox; have hcp : wp.cell? ⟨gp, 0, none⟩ = some (.int .i64 a1) := (blk_cell hbox 0).trans rfl; have hfp := blk_frozen hbox 0; have GEp := Aside0.mk (Nat.le_trans (below_size (by repeat (first | (with_reducible first | exact HB.out | apply bA | apply bN | apply bD) | exact HB.out))) (Nat.le_of_eq hg.symm) : w.heap.size ≤ gp); clear HB; have HB := n0_; clear n0_ hb hbox hg) | ((with_reducible refine gate_dst (N := 6) rfl ?_); refine box_event ?hg (N := 6) ?hd (cs := #[.int .i64 0]) (t := 37) ?hr ?_; (case hd => rfl); (case hg => rfl); (case hr => first | (go_simp; done) | (go_simp; rfl)); intro ge hg we hbox hb; have n0_ := Aside0.mk (below_step (by repeat (first | (with_reducible first | exact HB.out | apply bA | apply bN | apply bD) | exact HB.out)) hb); have m0_ := Aside0.mk (blk_below (by (with_reducible repeat (first | apply blk_drewN | apply blk_drew | apply blk_alloc)); exact BKl.out) hb); clear BKl; have BKl := m0_; clear m0_ hcl; have hcl : we.cell? ⟨gl, 0, none⟩ = some (.slice A0 l0.length c0) := (blk_cell BKl.out 0).trans rfl; clear hfl; have hfl := blk_frozen BKl.out 0; have m0_ := Aside0.mk (blk_below (by (with_reducible repeat (first | apply blk_drewN | apply blk_drew | apply blk_alloc)); exact BKp.out) hb); clear BKp; have BKp := m0_; clear m0_ hcp; have hcp : we.cell? ⟨gp, 0, none⟩ = some (.int .i64 a1) := (blk_cell BKp.out 0).trans rfl; clear hfp; have hfp := blk_frozen BKp.out 0; have BKe := Aside0.mk hbox; have hce : we.cell? ⟨ge, 0, none⟩ = some (.int .i64 0) := (blk_cell hbox 0).trans rfl; have hfe := blk_frozen hbox 0; have GEe := Aside0.mk (Nat.le_trans (below_size (by repeat (first | (with_reducible first | exact HB.out | apply bA | apply bN | apply bD) | exact HB.out))) (Nat.le_of_eq hg.symm) : w.heap.size ≤ ge); clear HB; have HB := n0_; clear n0_ hb hbox hg))
 have d1 : gl ≠ ge := blk_ne BKl.out BKe.out (by decide)
 have d2 : gp ≠ ge := blk_ne BKp.out BKe.out (by decide)
 have hE := blk_put BKe.out 0 (.int .i64 0) rfl
 have hL := blk_far BKl.out (p := ⟨ge, 0, none⟩) d1 (.int .i64 0)
 have hP := blk_far BKp.out (p := ⟨ge, 0, none⟩) d2 (.int .i64 0)
 have hb2 := below_set HB.out GEe.out (j := 0) (v := .int .i64 0)
 have hR2 := Kd.C_below HR0.out hb2
 clear BKl BKp BKe hcl hcp hce hfl hfp hfe HB HR0 d1 d2
 generalize we.setCell ⟨ge, 0, none⟩ (.int .i64 0) = wf at hE hL hP hb2 hR2 ⊢
 have hcl : wf.cell? ⟨gl, 0, none⟩ = some (.slice A0 l0.length c0) := (blk_cell hL 0).trans rfl
 have hcp : wf.cell? ⟨gp, 0, none⟩ = some (.int .i64 a1) := (blk_cell hP 0).trans rfl
 have HE := Aside0.mk hE
 have HL := Aside0.mk hL
 have HP := Aside0.mk hP
 have HB := Aside0.mk hb2
 have HR := Aside0.mk hR2
 clear hE hL hP hb2 hR2
 go_wp2_with (first | (go_at_call 42; refine (slot_Release.at k A0 c0 l0 a1 r1' e1 e2 gp ge gl w.heap.size wf HP.out HE.out HL.out GEe.out HR.out HC0.out H.out).mono ?_; rintro e w9 ⟨v0, rfl, hbk, hR, hb⟩; have n0_ := Aside0.mk (Below.trans HB.out hb); have n1_ := Aside0.mk (Kd.R_lower hR (below_size HB.out)); have hc9 : w9.cell? ⟨ge, 0, none⟩ = some (.int .i64 e1) := (blk_cell hbk 0).trans rfl; clear HB; have HB := n0_; have HO := n1_; clear n0_ n1_ hb hbk hR))
 go_quiet (fail)
 all_goals go_wp2
 all_goals (go_ret2; exact ⟨v0, by first | (rw [show mx e1 e2 = e2 from if_pos (by omega)]; rfl) | (rw [show mx e1 e2 = e1 from if_neg (by omega)]; rfl), by (with_reducible repeat (first | apply Kd.R_alloc | apply Kd.R_drewN | apply Kd.R_drew)); exact HO.out, (by repeat (first | (with_reducible first | exact HB.out | apply bA | apply bN | apply bD) | exact HB.out))⟩)

end Go.Proofs.Ytlpeklhejjidfaa.PL
