-- written by this repo's pp.py (the kit's print, turned by wip/patches.py)
import Derived.Test.YtlhaghkepnfajaaMapLib
import Derived.Test.YtlhaghkepnfajaaPLx0
import Derived.Test.YtlhaghkepnfajaaPLx2
import Derived.Test.YtlhaghkepnfajaaPLx3
namespace Go.Proofs.Ytlhaghkepnfajaa.PL
open Go.RowKit Go.Proofs.YtlhaghkepnfajaaW.PrintWords Go.Proofs.YtlhaghkepnfajaaW.PrintLast Go.Proofs.YtlhaghkepnfajaaW.PrintMore
attribute [local go_sem] max2_int min2_int max_two min_two max_three min_three max_four min_four   -- for this text's walks alone
set_option linter.unusedVariables false
set_option linter.unusedSimpArgs false

/-! ### op_Ends: function 25 -/
set_option maxHeartbeats 8000000
set_option maxRecDepth 100000
theorem op_Ends_1.calls (g : Nat) (a0 : Int) (w : World) :
  Calls Try.prog 45 #[.int .i64 a0, .pointer (some ⟨g, 0, none⟩)] w fun e w' => ∃ gk, e = .returned (.func (.func 46) #[] #[.pointer (some ⟨g, 0, none⟩), .pointer (some ⟨gk, 0, none⟩)]) ∧ w.heap.size ≤ gk ∧ w'.heap[gk]? = some (.cells #[.int .i64 a0] 3 (0, 0)) ∧ Below w.heap.size w w' := by
  have HB := Aside0.mk (Below.refl w.heap.size w)
  have hu3 := Try.underlying3
  go_enter Try.func45, Try.ntmps45
  go_wp2_with (first | ((with_reducible refine gate_dst (N := 2) rfl ?_); refine box_event ?hg (N := 2) ?hd (cs := #[.int .i64 a0]) (t := 3) ?hr ?_; (case hd => rfl); (case hg => rfl); (case hr => first | (go_simp; done) | (go_simp; rfl)); intro gb hg w5 hbox hb; have n0_ := Aside0.mk (below_step HB.out hb); have n1_ := Aside0.mk (hbox); have n2_ := Aside0.mk (hg); clear HB; have HB := n0_; have BK102 := n1_; have GW102 := n2_; clear n0_ n1_ n2_; clear hb hbox hg))
  go_ret
  exact ⟨gb, rfl, Nat.le_of_eq GW102.out.symm, by (with_reducible repeat (first | apply blk_drewN | apply blk_drew | apply blk_alloc)); exact BK102.out, by repeat (first | exact HB.out | apply below_alloc | apply pw_below_drewN | apply below_drew1)⟩
def op_Ends.g (k : Nat) (a0 : Int) (a1 : Int) : Option (Bool) := if a1 = 6 ∨ a1 = 7 then (op_Side.f k a0).bind fun s => some (!(s == 3)) else (if a1 = 1 then some true else (if a1 = 2 then op_Ends_1_1.f a0 2 else (if a1 = 4 then op_Ends_1_1.f a0 5 else (if a1 = 3 then op_Ends_2.f k a0 else (if a1 = 5 then op_Ends_3.f a0 else some false)))))
def op_Ends.f (k : Nat) (a0 : Int) (a1 : Int) : Option (Bool) := (op_Check.f k a0).bind fun c => if c = false then some false else op_Ends.g k a0 a1
theorem op_Ends.calls_no (k : Nat) (a0 : Int) (a1 : Int) (w : World) (hc : op_Check.f k a0 = some false) :
  Calls Try.prog 25 #[.int .i64 a0, .int .i64 a1] w fun e w' => e = .returned (.bool false) ∧ Below w.heap.size w w' := by
 have HB := Aside0.mk (Below.refl w.heap.size w)
 have hu3 := Try.underlying3
 have HC := Aside0.mk hc
 clear hc
 go_enter Try.func25, Try.ntmps25
 go_wp2_with (first | ((with_reducible refine gate_dst (N := 2) rfl ?_); refine box_event ?hg (N := 2) ?hd (cs := #[.int .i64 a0]) (t := 3) ?hr ?_; (case hd => rfl); (case hg => rfl); (case hr => first | (go_simp; done) | (go_simp; rfl)); intro gb hg w5 hbox hb; have n0_ := Aside0.mk (below_step HB.out hb); have n1_ := Aside0.mk (hbox); have n2_ := Aside0.mk (Nat.le_of_eq hg.symm : w.heap.size ≤ gb); clear HB; have HB := n0_; have BK := n1_; have GE := n2_; have hcz : w5.cell? ⟨gb, 0, none⟩ = some (.int .i64 a0) := (blk_cell BK.out 0).trans rfl; have hfz := blk_frozen BK.out 0; clear n0_ n1_ n2_; clear hb hbox hg) | ((with_reducible refine gate_callee (f := 15) rfl ?_); refine goesL_ (some 10) rfl rfl Try.func15 (by kernel_rfl) rfl #[.int .i64 a0] rfl (by (try simp only [List.map_toArray, List.map_cons, List.map_nil]); first | done | rfl) ?_; (with_reducible refine (op_Check.calls k a0 _ _ HC.out).mono ?_); rintro e w' ⟨rfl, ⟨nd, rfl⟩⟩; refine ⟨_, rfl, ?_⟩))
 go_ret
 exact ⟨by first | rfl | (simp; done) | (simp [*]; done), by repeat (first | exact HB.out | apply below_alloc | apply pw_below_drewN | apply below_drew1)⟩

theorem op_Ends.g67 (k : Nat) (a0 a1 : Int) (h : a1 = 6 ∨ a1 = 7) : op_Ends.g k a0 a1 = (op_Side.f k a0).bind fun s => some (!(s == 3)) := if_pos h
theorem op_Ends.g0 (k : Nat) (a0 a1 : Int) (h6 : a1 ≠ 6) (h7 : a1 ≠ 7) (h1 : a1 ≠ 1) (h2 : a1 ≠ 2) (h4 : a1 ≠ 4) (h3 : a1 ≠ 3) (h5 : a1 ≠ 5) : op_Ends.g k a0 a1 = some false := by
 unfold op_Ends.g
 rw [if_neg (by omega), if_neg h1, if_neg h2, if_neg h4, if_neg h3, if_neg h5]
theorem zero24 (w : World) : (zeroValue 24).run Try.prog w = .ok .nilFunc w := by kernel_rfl

theorem op_Ends.calls_yes (k : Nat) (a0 : Int) (a1 : Int) (r : Bool) (w : World) (hc : op_Check.f k a0 = some true) (h : op_Ends.g k a0 a1 = some r) :
  Calls Try.prog 25 #[.int .i64 a0, .int .i64 a1] w fun e w' => e = .returned (.bool r) ∧ Below w.heap.size w w' := by
 have HB := Aside0.mk (Below.refl w.heap.size w)
 have hu3 := Try.underlying3
 have HC := Aside0.mk hc
 have H := Aside0.mk h
 clear hc h
 go_enter Try.func25, Try.ntmps25
 go_upto_region 5 with (first | ((with_reducible refine gate_dst (N := 2) rfl ?_); refine box_event ?hg (N := 2) ?hd (cs := #[.int .i64 a0]) (t := 3) ?hr ?_; (case hd => rfl); (case hg => rfl); (case hr => first | (go_simp; done) | (go_simp; rfl)); intro gb hg w5 hbox hb; have n0_ := Aside0.mk (below_step HB.out hb); have n1_ := Aside0.mk (hbox); have n2_ := Aside0.mk (Nat.le_of_eq hg.symm : w.heap.size ≤ gb); clear HB; have HB := n0_; have BK := n1_; have GE := n2_; have hcz : w5.cell? ⟨gb, 0, none⟩ = some (.int .i64 a0) := (blk_cell BK.out 0).trans rfl; have hfz := blk_frozen BK.out 0; clear n0_ n1_ n2_; clear hb hbox hg) | ((with_reducible refine gate_callee (f := 15) rfl ?_); refine goesL_ (some 10) rfl rfl Try.func15 (by kernel_rfl) rfl #[.int .i64 a0] rfl (by (try simp only [List.map_toArray, List.map_cons, List.map_nil]); first | done | rfl) ?_; (with_reducible refine (op_Check.calls k a0 true _ HC.out).mono ?_); rintro e w' ⟨rfl, ⟨nd, rfl⟩⟩; refine ⟨_, rfl, ?_⟩) | ((with_reducible refine gate_dst (N := 13) rfl ?_); refine made_own rfl 55 rfl 3 ?_; intro b hb w6 hmb hbel; have n1_ := Aside0.mk (ml_below hbel BK.out); have n2_ := Aside0.mk (below_step (by repeat (first | exact HB.out | apply below_alloc | apply pw_below_drewN | apply below_drew1)) hbel); have MB := Aside0.mk hmb; have GB := Aside0.mk ((by rw [hb]; exact ml_lt BK.out) : gb < b); have GW := Aside0.mk ((by rw [hb]; exact HB.out.size) : w.heap.size ≤ b); clear BK HB; have BK := n1_; have HB := n2_; clear n1_ n2_; clear hb hmb hbel) | ((with_reducible refine gate_dst (N := 15) rfl ?_); refine goesV_ (some 15) rfl rfl rfl #[] #[.pointer (some ⟨gb, 0, none⟩)] rfl Try.func45 (by kernel_rfl) rfl #[.int .i64 2, .pointer (some ⟨gb, 0, none⟩)] (by (try simp only [List.map_toArray, List.map_cons, List.map_nil, List.append_toArray, List.cons_append, List.nil_append]); first | done | rfl) ?_; refine (op_Ends_1.calls gb 2 _).mono ?_; rintro e w7 ⟨g0, rfl, hge, hbk, hbel⟩; refine ⟨_, rfl, ?_⟩; have n1_ := Aside0.mk (ml_below hbel BK.out); have n2_ := Aside0.mk (below_step (by repeat (first | exact HB.out | apply below_alloc | apply pw_below_drewN | apply below_drew1)) hbel); have n3_ := Aside0.mk (ml_map_below hbel MB.out); have G0 := Aside0.mk (Nat.lt_of_lt_of_le (ml_map_lt MB.out) hge); clear BK HB MB; have BK := n1_; have HB := n2_; have MB := n3_; have B0 := Aside0.mk hbk; clear n1_ n2_ n3_; clear hbel hbk hge) | ((with_reducible refine gate_dst (N := 17) rfl ?_); refine goesV_ (some 17) rfl rfl rfl #[] #[.pointer (some ⟨gb, 0, none⟩)] rfl Try.func45 (by kernel_rfl) rfl #[.int .i64 5, .pointer (some ⟨gb, 0, none⟩)] (by (try simp only [List.map_toArray, List.map_cons, List.map_nil, List.append_toArray, List.cons_append, List.nil_append]); first | done | rfl) ?_; refine (op_Ends_1.calls gb 5 _).mono ?_; rintro e w7 ⟨g1, rfl, hge, hbk, hbel⟩; refine ⟨_, rfl, ?_⟩; have n1_ := Aside0.mk (ml_below hbel BK.out); have n2_ := Aside0.mk (below_step (by repeat (first | exact HB.out | apply below_alloc | apply pw_below_drewN | apply below_drew1)) hbel); have n3_ := Aside0.mk (ml_map_below hbel MB.out); have G1 := Aside0.mk (Nat.lt_of_lt_of_le (ml_map_lt MB.out) hge); have m0_ := Aside0.mk (ml_below hbel B0.out); clear B0; have B0 := m0_; clear m0_; clear BK HB MB; have BK := n1_; have HB := n2_; have MB := n3_; have B1 := Aside0.mk hbk; clear n1_ n2_ n3_; clear hbel hbk hge) | (refine insert_own rfl _ _ _ 55 rfl 3 24 (Go.Maps.int_keyed Try.underlying3) Try.underlying55 b 0 _ rfl MB.out (by unfold maxLen; omega) (.int .i64 2) (Value.func (.func 46) #[] #[.pointer (some ⟨gb, 0, none⟩), .pointer (some ⟨g0, 0, none⟩)]) (.int .i64 2) rfl rfl (Go.Maps.keyOf_int_mk Try.underlying3 rfl) ?_; intro w8 hmb hgr; have n1_ := Aside0.mk (ml_grown hgr BK.out (Nat.ne_of_lt GB.out)); have n2_ := Aside0.mk (ml_into HB.out hgr GW.out); have m0_ := Aside0.mk (ml_grown hgr B0.out (Nat.ne_of_gt G0.out)); clear B0; have B0 := m0_; clear m0_; clear BK HB MB; have BK := n1_; have HB := n2_; have MB := Aside0.mk hmb; clear n1_ n2_; clear hmb hgr) | (refine insert_own rfl _ _ _ 55 rfl 3 24 (Go.Maps.int_keyed Try.underlying3) Try.underlying55 b 1 _ rfl MB.out (by unfold maxLen; omega) (.int .i64 4) (Value.func (.func 46) #[] #[.pointer (some ⟨gb, 0, none⟩), .pointer (some ⟨g1, 0, none⟩)]) (.int .i64 4) rfl rfl (Go.Maps.keyOf_int_mk Try.underlying3 rfl) ?_; intro w8 hmb hgr; have n1_ := Aside0.mk (ml_grown hgr BK.out (Nat.ne_of_lt GB.out)); have n2_ := Aside0.mk (ml_into HB.out hgr GW.out); have m0_ := Aside0.mk (ml_grown hgr B0.out (Nat.ne_of_gt G0.out)); clear B0; have B0 := m0_; clear m0_; have m1_ := Aside0.mk (ml_grown hgr B1.out (Nat.ne_of_gt G1.out)); clear B1; have B1 := m1_; clear m1_; clear BK HB MB; have BK := n1_; have HB := n2_; have MB := Aside0.mk hmb; clear n1_ n2_; clear hmb hgr) | (refine insert_own rfl _ _ _ 55 rfl 3 24 (Go.Maps.int_keyed Try.underlying3) Try.underlying55 b 2 _ rfl MB.out (by unfold maxLen; omega) (.int .i64 3) (Value.func (.func 47) #[] #[.pointer (some ⟨gb, 0, none⟩)]) (.int .i64 3) rfl rfl (Go.Maps.keyOf_int_mk Try.underlying3 rfl) ?_; intro w8 hmb hgr; have n1_ := Aside0.mk (ml_grown hgr BK.out (Nat.ne_of_lt GB.out)); have n2_ := Aside0.mk (ml_into HB.out hgr GW.out); have m0_ := Aside0.mk (ml_grown hgr B0.out (Nat.ne_of_gt G0.out)); clear B0; have B0 := m0_; clear m0_; have m1_ := Aside0.mk (ml_grown hgr B1.out (Nat.ne_of_gt G1.out)); clear B1; have B1 := m1_; clear m1_; clear BK HB MB; have BK := n1_; have HB := n2_; have MB := Aside0.mk hmb; clear n1_ n2_; clear hmb hgr) | (refine insert_own rfl _ _ _ 55 rfl 3 24 (Go.Maps.int_keyed Try.underlying3) Try.underlying55 b 3 _ rfl MB.out (by unfold maxLen; omega) (.int .i64 5) (Value.func (.func 48) #[] #[.pointer (some ⟨gb, 0, none⟩)]) (.int .i64 5) rfl rfl (Go.Maps.keyOf_int_mk Try.underlying3 rfl) ?_; intro w8 hmb hgr; have n1_ := Aside0.mk (ml_grown hgr BK.out (Nat.ne_of_lt GB.out)); have n2_ := Aside0.mk (ml_into HB.out hgr GW.out); have m0_ := Aside0.mk (ml_grown hgr B0.out (Nat.ne_of_gt G0.out)); clear B0; have B0 := m0_; clear m0_; have m1_ := Aside0.mk (ml_grown hgr B1.out (Nat.ne_of_gt G1.out)); clear B1; have B1 := m1_; clear m1_; clear BK HB MB; have BK := n1_; have HB := n2_; have MB := Aside0.mk hmb; clear n1_ n2_; clear hmb hgr))


 by_cases e6 : a1 = 6
 · subst e6
   obtain ⟨s, hs, h⟩ := Option.bind_eq_some_iff.1 ((op_Ends.g67 k a0 6 (by decide)).symm.trans H.out)
   have HS := Aside0.mk hs
   clear hs H
   obtain rfl := Option.some.inj h
   have hcy : w8.cell? ⟨gb, 0, none⟩ = some (.int .i64 a0) := (blk_cell BK.out 0).trans rfl
   have hfy := blk_frozen BK.out 0
   by_cases s3 : s = 3
   · subst s3
     go_wp2_with (first | ((with_reducible refine gate_callee (f := 17) rfl ?_); refine goesL_ (some 28) rfl rfl Try.func17 (by kernel_rfl) rfl #[.int .i64 a0] rfl (by (try simp only [List.map_toArray, List.map_cons, List.map_nil]); first | done | rfl) ?_; (with_reducible refine (op_Side.calls k a0 _ _ HS.out).mono ?_); rintro e w' ⟨rfl, ⟨nd, rfl⟩⟩; refine ⟨_, rfl, ?_⟩))
     go_ret
     exact ⟨by first | rfl | (simp; done), (by repeat (first | exact HB.out | apply below_alloc | apply pw_below_drewN | apply below_drew1))⟩
   · have s3b : (s == 3) = false := beq_eq_false_iff_ne.2 s3
     clear s3
     go_wp2_with (first | ((with_reducible refine gate_callee (f := 17) rfl ?_); refine goesL_ (some 28) rfl rfl Try.func17 (by kernel_rfl) rfl #[.int .i64 a0] rfl (by (try simp only [List.map_toArray, List.map_cons, List.map_nil]); first | done | rfl) ?_; (with_reducible refine (op_Side.calls k a0 _ _ HS.out).mono ?_); rintro e w' ⟨rfl, ⟨nd, rfl⟩⟩; refine ⟨_, rfl, ?_⟩))
     go_ret
     exact ⟨by first | rfl | (simp [s3b]; done), (by repeat (first | exact HB.out | apply below_alloc | apply pw_below_drewN | apply below_drew1))⟩
 have e6b : (a1 == 6) = false := beq_eq_false_iff_ne.2 e6

 by_cases e7 : a1 = 7
 · subst e7
   obtain ⟨s, hs, h⟩ := Option.bind_eq_some_iff.1 ((op_Ends.g67 k a0 7 (by decide)).symm.trans H.out)
   have HS := Aside0.mk hs
   clear hs H
   obtain rfl := Option.some.inj h
   have hcy : w8.cell? ⟨gb, 0, none⟩ = some (.int .i64 a0) := (blk_cell BK.out 0).trans rfl
   have hfy := blk_frozen BK.out 0
   by_cases s3 : s = 3
   · subst s3
     go_wp2_with (first | ((with_reducible refine gate_callee (f := 17) rfl ?_); refine goesL_ (some 28) rfl rfl Try.func17 (by kernel_rfl) rfl #[.int .i64 a0] rfl (by (try simp only [List.map_toArray, List.map_cons, List.map_nil]); first | done | rfl) ?_; (with_reducible refine (op_Side.calls k a0 _ _ HS.out).mono ?_); rintro e w' ⟨rfl, ⟨nd, rfl⟩⟩; refine ⟨_, rfl, ?_⟩))
     go_ret
     exact ⟨by first | rfl | (simp; done), (by repeat (first | exact HB.out | apply below_alloc | apply pw_below_drewN | apply below_drew1))⟩
   · have s3b : (s == 3) = false := beq_eq_false_iff_ne.2 s3
     clear s3
     go_wp2_with (first | ((with_reducible refine gate_callee (f := 17) rfl ?_); refine goesL_ (some 28) rfl rfl Try.func17 (by kernel_rfl) rfl #[.int .i64 a0] rfl (by (try simp only [List.map_toArray, List.map_cons, List.map_nil]); first | done | rfl) ?_; (with_reducible refine (op_Side.calls k a0 _ _ HS.out).mono ?_); rintro e w' ⟨rfl, ⟨nd, rfl⟩⟩; refine ⟨_, rfl, ?_⟩))
     go_ret
     exact ⟨by first | rfl | (simp [s3b]; done), (by repeat (first | exact HB.out | apply below_alloc | apply pw_below_drewN | apply below_drew1))⟩
 have e7b : (a1 == 7) = false := beq_eq_false_iff_ne.2 e7
 by_cases e1 : a1 = 1
 · subst e1
   obtain rfl : true = r := Option.some.inj ((rfl : op_Ends.g k a0 1 = some true).symm.trans H.out)
   go_wp2
   go_ret
   exact ⟨rfl, (by repeat (first | exact HB.out | apply below_alloc | apply pw_below_drewN | apply below_drew1))⟩
 have e1b : (a1 == 1) = false := beq_eq_false_iff_ne.2 e1

 by_cases e2 : a1 = 2
 · subst e2
   have HG := Aside0.mk H.out
   clear H
   go_upto_region 13 with (first | (refine lookup_own rfl _ _ 55 rfl 3 24 (Go.Maps.int_keyed Try.underlying3) Try.underlying55 (zero24 _) b 4 _ rfl MB.out _ (.int .i64 2) rfl (Go.Maps.keyOf_int_mk Try.underlying3 rfl) (Value.func (.func 46) #[] #[.pointer (some ⟨gb, 0, none⟩), .pointer (some ⟨g0, 0, none⟩)]) true rfl rfl ?_))
   (try simp only [Act.put, List.setIfInBounds_toArray, List.set_cons_zero, List.set_cons_succ])
   go_wp2_with (first | (refine (op_Ends_1_1.calls gb a0 g0 2 r _ BK.out B0.out HG.out).mono ?_; rintro e w' ⟨rfl, ⟨nd, rfl⟩⟩; dsimp only))
   go_ret
   exact ⟨by first | rfl | (simp; done), (by repeat (first | exact HB.out | apply below_alloc | apply pw_below_drewN | apply below_drew1))⟩
 have e2b : (a1 == 2) = false := beq_eq_false_iff_ne.2 e2
 by_cases e4 : a1 = 4
 · subst e4
   have HG := Aside0.mk H.out
   clear H
   go_upto_region 13 with (first | (refine lookup_own rfl _ _ 55 rfl 3 24 (Go.Maps.int_keyed Try.underlying3) Try.underlying55 (zero24 _) b 4 _ rfl MB.out _ (.int .i64 4) rfl (Go.Maps.keyOf_int_mk Try.underlying3 rfl) (Value.func (.func 46) #[] #[.pointer (some ⟨gb, 0, none⟩), .pointer (some ⟨g1, 0, none⟩)]) true rfl rfl ?_))
   (try simp only [Act.put, List.setIfInBounds_toArray, List.set_cons_zero, List.set_cons_succ])
   go_wp2_with (first | (refine (op_Ends_1_1.calls gb a0 g1 5 r _ BK.out B1.out HG.out).mono ?_; rintro e w' ⟨rfl, ⟨nd, rfl⟩⟩; dsimp only))
   go_ret
   exact ⟨by first | rfl | (simp; done), (by repeat (first | exact HB.out | apply below_alloc | apply pw_below_drewN | apply below_drew1))⟩
 have e4b : (a1 == 4) = false := beq_eq_false_iff_ne.2 e4
 by_cases e3 : a1 = 3
 · subst e3
   have HG := Aside0.mk H.out
   clear H
   go_upto_region 13 with (first | (refine lookup_own rfl _ _ 55 rfl 3 24 (Go.Maps.int_keyed Try.underlying3) Try.underlying55 (zero24 _) b 4 _ rfl MB.out _ (.int .i64 3) rfl (Go.Maps.keyOf_int_mk Try.underlying3 rfl) (Value.func (.func 47) #[] #[.pointer (some ⟨gb, 0, none⟩)]) true rfl rfl ?_))
   (try simp only [Act.put, List.setIfInBounds_toArray, List.set_cons_zero, List.set_cons_succ])
   go_wp2_with (first | (refine (op_Ends_2.calls k gb a0 r _ BK.out HG.out).mono ?_; rintro e w' ⟨rfl, ⟨nd, rfl⟩⟩; dsimp only))
   go_ret
   exact ⟨by first | rfl | (simp; done), (by repeat (first | exact HB.out | apply below_alloc | apply pw_below_drewN | apply below_drew1))⟩
 have e3b : (a1 == 3) = false := beq_eq_false_iff_ne.2 e3
 by_cases e5 : a1 = 5
 · subst e5
   have HG := Aside0.mk H.out
   clear H
   go_upto_region 13 with (first | (refine lookup_own rfl _ _ 55 rfl 3 24 (Go.Maps.int_keyed Try.underlying3) Try.underlying55 (zero24 _) b 4 _ rfl MB.out _ (.int .i64 5) rfl (Go.Maps.keyOf_int_mk Try.underlying3 rfl) (Value.func (.func 48) #[] #[.pointer (some ⟨gb, 0, none⟩)]) true rfl rfl ?_))
   (try simp only [Act.put, List.setIfInBounds_toArray, List.set_cons_zero, List.set_cons_succ])
   go_wp2_with (first | (refine (op_Ends_3.calls gb a0 r _ BK.out HG.out).mono ?_; rintro e w' ⟨rfl, ⟨nd, rfl⟩⟩; dsimp only))
   go_ret
   exact ⟨by first | rfl | (simp; done), (by repeat (first | exact HB.out | apply below_alloc | apply pw_below_drewN | apply below_drew1))⟩
 have e5b : (a1 == 5) = false := beq_eq_false_iff_ne.2 e5
 obtain rfl : false = r := Option.some.inj ((op_Ends.g0 k a0 a1 e6 e7 e1 e2 e4 e3 e5).symm.trans H.out)
 have ML : w8.ownsMap Try.prog 3 heldE b 4 (.map [(Lit.int .i64 2, DataW.held (Value.func (.func 46) #[] #[.pointer (some ⟨gb, 0, none⟩), .pointer (some ⟨g0, 0, none⟩)])), (Lit.int .i64 3, DataW.held (Value.func (.func 47) #[] #[.pointer (some ⟨gb, 0, none⟩)])), (Lit.int .i64 4, DataW.held (Value.func (.func 46) #[] #[.pointer (some ⟨gb, 0, none⟩), .pointer (some ⟨g1, 0, none⟩)])), (Lit.int .i64 5, DataW.held (Value.func (.func 48) #[] #[.pointer (some ⟨gb, 0, none⟩)]))]) := MB.out
 have HL : (Instr.lookup 55 (.map (some b)) (.int .i64 a1) true).run Try.prog w8 = .ok (.tuple #[.nilFunc, .bool false]) w8 := run_lookup_none Try.underlying3 Try.underlying55 (zero24 _) ML a1 (by
  intro p hp hk
  simp only [List.mem_cons, List.not_mem_nil, or_false] at hp
  rcases hp with rfl | rfl | rfl | rfl <;> (injection hk with _ hk2; omega))
 clear ML
 go_wp2_with (first | (refine lookup_run rfl _ _ 55 true rfl _ _ _ rfl rfl HL ?_))
 go_ret
 exact ⟨rfl, (by repeat (first | exact HB.out | apply below_alloc | apply pw_below_drewN | apply below_drew1))⟩
theorem op_Ends.mono : ∀ a0 a1 k, LeO (op_Ends.f k a0 a1) (op_Ends.f (k + 1) a0 a1) := by
 intro a0 a1 k
 unfold op_Ends.f op_Ends.g
 repeat' first
   | (with_reducible exact op_Check.mono _ _)
   | (with_reducible exact op_Side.mono _ _)
   | (with_reducible exact op_Ends_2.mono _ _)
   | (with_reducible exact LeO.refl _)
   | (with_reducible exact LeO.none _)
   | (with_reducible refine LeO.ite ?_ ?_)
   | (with_reducible refine LeO.bind ?_ (fun _ => ?_))
   | exact op_Check.mono _ _
   | exact LeO.none _
   | refine LeO.ite ?_ ?_
   | refine LeO.bind ?_ (fun _ => ?_)
theorem op_Ends.calls (k : Nat) (a0 : Int) (a1 : Int) (r : Bool) (w : World) (h : op_Ends.f k a0 a1 = some r) :
  Calls Try.prog 25 #[.int .i64 a0, .int .i64 a1] w fun e w' => e = .returned (.bool r) ∧ Below w.heap.size w w' := by
 obtain ⟨c, hc, h⟩ := Option.bind_eq_some_iff.1 h
 cases c
 · obtain rfl := Option.some.inj h
   exact op_Ends.calls_no k a0 a1 w hc
 · exact op_Ends.calls_yes k a0 a1 r w hc h

end Go.Proofs.Ytlhaghkepnfajaa.PL
