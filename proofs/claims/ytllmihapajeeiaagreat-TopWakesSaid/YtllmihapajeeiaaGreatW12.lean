/- What stands behind it, part 12. -/
import Derived.Test.YtllmihapajeeiaaGreatW11
set_option linter.unusedVariables false
set_option linter.unusedSimpArgs false
section
namespace Go.Own
open Go Go.Proofs
set_option maxRecDepth 100000
set_option maxHeartbeats 4000000
def SR.duesA (s : SR) : List Int := if s.ok then pa (dueP s.st s.kd s.un s.lt s.nt 0 []) else []
def SR.duesI (s : SR) : List Int := if s.ok then pi (dueP s.st s.kd s.un s.lt s.nt 0 []) else []
def SR.late1 (s : SR) (id : Int) : SR :=
 if s.st.getD id.toNat 0 = 2 then { s with lt := s.lt.set id.toNat true, n3 := lenI (cancelL s.fe s.l3 id), l3 := cancelL s.fe s.l3 id, n4 := lenI (cancelL s.ee s.l4 id), l4 := cancelL s.ee s.l4 id, st := s.st.set id.toNat 1 }
 else { s with lt := s.lt.set id.toNat true }
def SR.lates (s : SR) (l : List Int) (i : Nat) : SR := (l.drop i).foldl SR.late1 s
def SR.tickE (s : SR) (n : Int) : Int := if s.ok then (if n < 0 ∨ 1099511627776 - s.now < n then 50 else 0) else 20
def SR.lateI (s : SR) (n : Int) : List Int := if s.tickE n = 0 then lateL s.duesA s.duesI (s.now + n) else []
def SR.tick (s : SR) (n : Int) : SR := if s.tickE n = 0 then SR.lates { s with now := s.now + n } (s.lateI n) 0 else s
def inIds (l : List Int) (n : Nat) : Bool := l.all fun x => decide (0 ≤ x ∧ x < n)
def SR.boxL (s : SR) (k : Nat) : List AV := [.int .i64 s.lg, .int .i64 s.th, .int .i64 s.po, .int .i64 s.wt, .int .i64 s.sp, .int .i64 s.yi, .bool s.sg, .int .i64 s.hd, .int .i64 s.tl, .int .i64 s.md, .full k, .full (k + 1), .full (k + 2), .int .i64 s.fe, .full (k + 3), .int .i64 s.ee, .full (k + 4), .int .i64 s.now, .full (k + 5), .full (k + 6)]
def tickIn (z s : SR) (n : Nat) (l : List Int) : Heap := [some (.var z.cells), some (.var (s.boxL 2)), some (.row 88 s.ns [.int .i64 s.ss, .int .i64 s.sv]), some (.row 3 s.n1 [.int .i64 s.l1]), some (.row 3 s.n2 [.int .i64 s.l2]), some (.row 3 s.n3 [.int .i64 s.l3]), some (.row 3 s.n4 [.int .i64 s.l4]), some (.row 51 s.nt [.int .i64 s.st, .int .i64 s.kd, .int .i64 s.vl, .int .i64 s.un, .int .i64 s.pc, .int .i64 s.rg, .int .i64 s.sn, .int .i64 s.tr, .bool s.lt, .int .i64 s.rs, .int .i64 s.gt]), some (.row 53 s.nl [.int .i64 s.c0, .int .i64 s.ks, .int .i64 s.vs, .int .i64 s.rr, .int .i64 s.gs]), some (.row 3 n [.int .i64 l])]
def asTick : Heap → Option (SR × SR × Nat × List Int)
 | [some (.var c_z), some (.var [a0, a1, a2, a3, a4, a5, a6, a7, a8, a9, .full 2, .full 3, .full 4, a13, .full 5, a15, .full 6, a17, .full 7, .full 8]), some (.row 88 m0 q0), some (.row 3 m1 q1), some (.row 3 m2 q2), some (.row 3 m3 q3), some (.row 3 m4 q4), some (.row 51 m5 q5), some (.row 53 m6 q6), some (.row 3 n [.int .i64 l])] =>
  (match asSR (.agg c_z) with
  | some z => (match asSR (.agg [a0, a1, a2, a3, a4, a5, a6, a7, a8, a9, .sl m0 q0, .sl m1 q1, .sl m2 q2, a13, .sl m3 q3, a15, .sl m4 q4, a17, .sl m5 q5, .sl m6 q6]) with
   | some s => some (z, s, n, l)
   | none => none)
  | none => none)
 | _ => none
theorem asTick_some {os : Heap} {z s : SR} {n : Nat} {l : List Int} (h : asTick os = some (z, s, n, l)) : os = tickIn z s n l := by
 unfold asTick at h
 split at h
 ·split at h
  ·rename_i z' hz
   split at h
   ·rename_i s' hs
    cases h
    have := asSR_some hs
    have hz2 := asSR_some hz
    simp only [SR.av, AV.agg.injEq] at hz2
    subst hz2
    simp only [SR.av, SR.cells, AV.agg.injEq, List.cons.injEq, AV.sl.injEq, and_true] at this
    obtain ⟨rfl, rfl, rfl, rfl, rfl, rfl, rfl, rfl, rfl, rfl, ⟨rfl, rfl⟩, ⟨rfl, rfl⟩, ⟨rfl, rfl⟩, rfl, ⟨rfl, rfl⟩, rfl, ⟨rfl, rfl⟩, rfl, ⟨rfl, rfl⟩, rfl, rfl⟩ := this
    rfl
   ·cases h
  ·cases h
 ·cases h
def Fdues : Pure1 := fun
 | a_s => (match a_s with
  | [a] => (match asSR a with
   | some s => some (some (SR.fit s), .own 172 (lenI (SR.duesA s)) [.int .i64 (SR.duesA s), .int .i64 (SR.duesI s)])
   | none => none)
  | _ => none)
theorem ok_dues : PureOK Tryz.prog 96 Fdues := by
 refine ⟨enters_of (by kernel_rfl), fun c xs vs b r h1 h2 h3 h4 h5 => ?_⟩
 match xs, h3, h4 with
 | [], h3, h4 => cases h4
 | _ :: _ :: _, h3, h4 => cases h4
 | [a], h3, h4 =>
  have h4' : (match asSR a with
   | some s => some (some (SR.fit s), AV.own 172 (lenI (SR.duesA s)) [.int .i64 (SR.duesA s), .int .i64 (SR.duesI s)])
   | none => none) = some (b, r) := h4
  clear h4
  split at h4'
  ·rename_i s hs
   obtain rfl := asSR_some hs
   cases h4'
   have hf : s.fit = true := by
    cases h : s.fit with
    | true => rfl
    | false => exact absurd (by rw [h]) h5
   obtain ⟨vs⟩ := vs
   match vs, h3 with
   | [v], h3 =>
    have hv : Rel c s.av v := by
     simp only [RelL] at h3
     exact h3.1
    have hn : s.ok = true → s.nt ≤ 900000 := by
     intro h
     have e1 := SR.ok_nt h
     have e2 := confE_th (SR.ok_conf h)
     omega
    refine Calls.mono (dues_calls s c v h1 hv (SR.fitW_fit hf) hn h2) ?_
    rintro e w' ⟨u, rfl, hk, hs', hr, p, ax, rfl, q1, q2, q3⟩
    refine ⟨_, ⟨w', c.π, c.S⟩, [p], rfl, rfl, ⟨fun _ _ h => h, fun _ h => h, fun x hx => hk x (h1 x hx), hs', hr⟩, hk, fun x hx => ⟨.inl hx, Nat.lt_of_lt_of_le (h1 x hx) hs'⟩, ?_, ?_, ?_⟩
    ·have e : lenI s.duesA = (if s.ok then dueTo s s.nt else []).length ∧ s.duesA = pa (if s.ok then dueTo s s.nt else []) ∧ s.duesI = pi (if s.ok then dueTo s s.nt else []) := by
      unfold SR.duesA SR.duesI
      cases s.ok
      ·exact ⟨rfl, rfl, rfl⟩
      ·simp only [if_true, dueTo_dueP, lenI_e, pa_len, and_self]
     rw [e.1, e.2.1, e.2.2]
     refine ⟨p, ax, rfl, rfl, q1, ?_⟩
     exact row_move two_ints q2 fun _ => rfl
    ·simp [Apart]
    ·intro p' hp' hc
     simp only [List.mem_cons, List.not_mem_nil, or_false] at hp'
     subst hp'
     obtain ⟨g1, g2⟩ := q3 hc
     exact ⟨g1, g2, fun h => by have := h1 _ h; omega⟩
   | [], h3 => simp [RelL] at h3
   | _ :: _ :: _, h3 => simp [RelL] at h3
  ·cases h4'
def tabT9 : List (FuncId × Pure1) := [(96, Fdues), (95, Flate), (98, Fcancel), (53, FthWake)] ++ tabX0
theorem ok_tabT9 : ∀ p ∈ tabT9, PureOK Tryz.prog p.1 p.2 := by
 intro p hp
 simp only [tabT9, List.mem_append, List.mem_cons, List.not_mem_nil, or_false] at hp
 rcases hp with (rfl | rfl | rfl | rfl) | hp
 ·exact ok_dues
 ·exact ok_late
 ·exact ok_cancel
 ·exact ok_thWake
 ·exact ok_tabX0 p hp
def spec_tick : LoopSpec := { n := 57, keep := [4, 7, 8, 10, 45, 46, 47], srcs := [.tmp 4, .tmp 7, .cell 1 10, .cell 1 11, .cell 1 12, .cell 1 14, .cell 1 16, .cell 1 18, .cell 1 19, .tmp 8], keepE := [4, 7, 8], srcsE := [.tmp 4, .tmp 7, .cell 1 10, .cell 1 11, .cell 1 12, .cell 1 14, .cell 1 16, .cell 1 18, .cell 1 19, .tmp 8], goes := fun vals objs Q => match vals with
 | [.ptr 0 0 0, .ptr 1 0 0, .full 9, .fn (.func 97) [] [.ptr 1 0 0], .full 9, .int .i64 m, .int .i64 i] => (match asTick objs with
  | some (z, s, n, l) => asrt (band (SR.fit s) (band (nle n 1000000) (band (ieq m (ofN n)) (band (ile 0 i) (band (ile i (ofN n)) (inIds l s.nt)))))) (Q (.exit 1) [.ptr 0 0 0, .ptr 1 0 0, .full 9] (tickIn z (SR.lates s l (nOf i)) n l))
  | none => False)
 | _ => False }
def zq122 (i : Int) (l : List Int) : Nat :=
 nOf (gI l (nOf i))
def zq123 (s : SR) (i : Int) (l : List Int) : List Bool :=
 put (put s.34 (zq122 i l) true) (zq122 i l) (gB (put s.34 (zq122 i l) true) (zq122 i l))
def zq124 (s : SR) (i : Int) (l : List Int) : List Int :=
 put s.26 (zq122 i l) (iite (ieq (gI s.26 (zq122 i l)) 2) 1 (gI s.26 (zq122 i l)))
def zq125 (z : SR) (s : SR) (n : Nat) (l : List Int) : Heap :=
 [some (AObj.var (SR.cl z)), some (AObj.var [AV.int .i64 s.1, AV.int .i64 s.2, AV.int .i64 s.3, AV.int .i64 s.4, AV.int .i64 s.5, AV.int .i64 s.6, AV.bool s.7, AV.int .i64 s.8,
 AV.int .i64 s.9, AV.int .i64 s.10, AV.full 2, AV.full 3, AV.full 4, AV.int .i64 s.18, AV.full 5, AV.int .i64 s.21, AV.full 6, AV.int .i64 s.24, AV.full 7, AV.full 8]), some
 (AObj.row 88 s.11 [.int .i64 s.12, .int .i64 s.13]), some (AObj.row 3 s.14 [.int .i64 s.15]), some (AObj.row 3 s.16 [.int .i64 s.17]), some (AObj.row 3 s.19 [.int .i64 s.20]), some
 (AObj.row 3 s.22 [.int .i64 s.23]), some (AObj.row 51 s.25 [.int .i64 s.26, .int .i64 s.27, .int .i64 s.28, .int .i64 s.29, .int .i64 s.30, .int .i64 s.31, .int .i64 s.32, .int .i64
 s.33, Col.bool s.34, .int .i64 s.35, .int .i64 s.36]), some (AObj.row 53 s.37 [.int .i64 s.38, .int .i64 s.39, .int .i64 s.40, .int .i64 s.41, .int .i64 s.42]), some (AObj.row 3 n
 [.int .i64 l])]
def zq126 (s : SR) (i : Int) (l : List Int) : List Int :=
 cancelL s.18 s.20 (gI l (nOf i))
def zq127 (s : SR) (i : Int) (l : List Int) : List Int :=
 cancelL s.21 s.23 (gI l (nOf i))
def zq128 (s : SR) (i : Int) (l : List Int) : List Int :=
 put s.27 (zq122 i l) (gI s.27 (zq122 i l))
def zq129 (s : SR) (i : Int) (l : List Int) : List Int :=
 put s.28 (zq122 i l) (gI s.28 (zq122 i l))
def zq130 (s : SR) (i : Int) (l : List Int) : List Int :=
 put s.29 (zq122 i l) (gI s.29 (zq122 i l))
def zq131 (s : SR) (i : Int) (l : List Int) : List Int :=
 put s.30 (zq122 i l) (gI s.30 (zq122 i l))
def zq132 (s : SR) (i : Int) (l : List Int) : List Int :=
 put s.31 (zq122 i l) (gI s.31 (zq122 i l))
def zq133 (s : SR) (i : Int) (l : List Int) : List Int :=
 put s.32 (zq122 i l) (gI s.32 (zq122 i l))
def zq134 (s : SR) (i : Int) (l : List Int) : List Int :=
 put s.33 (zq122 i l) (gI s.33 (zq122 i l))
def zq135 (s : SR) (i : Int) (l : List Int) : List Int :=
 put s.35 (zq122 i l) (gI s.35 (zq122 i l))
def zq136 (s : SR) (i : Int) (l : List Int) : List Int :=
 put s.36 (zq122 i l) (gI s.36 (zq122 i l))
def zq137 (i : Int) : Nat :=
 nOf (iadd .i64 i 1)
def zq138 (s : SR) : AObj :=
 AObj.var [AV.int .i64 s.1, AV.int .i64 s.2, AV.int .i64 s.3, AV.int .i64 s.4, AV.int .i64 s.5, AV.int .i64 s.6, AV.bool s.7, AV.int .i64 s.8, AV.int .i64 s.9, AV.int .i64 s.10,
 AV.full 2, AV.full 3, AV.full 4, AV.int .i64 s.18, AV.full 5, AV.int .i64 s.21, AV.full 6, AV.int .i64 s.24, AV.full 7, AV.full 8]
def zq139 (s : SR) (i : Int) (l : List Int) : Nat :=
 lenI (zq126 s i l)
def zq140 (s : SR) (i : Int) (l : List Int) : Nat :=
 lenI (zq127 s i l)
def zq141 (m : Int) (i : Int) : List AV :=
 [AV.ptr 0 0 0, AV.ptr 1 0 0, AV.full 9, AV.fn (Fn.func 97) [] [AV.ptr 1 0 0], AV.full 9, AV.int .i64 m, AV.int .i64 (iadd .i64 i 1)]
def zq142 (s : SR) : AObj :=
 AObj.row 53 s.37 [.int .i64 s.38, .int .i64 s.39, .int .i64 s.40, .int .i64 s.41, .int .i64 s.42]
def zq143 (s : SR) (m : Int) (i : Int) (n : Nat) (l : List Int) : Bool :=
 band (nle n 1000000) (band (ieq m (ofN n)) (band (ile 0 (iadd .i64 i 1)) (band (ile (iadd .i64 i 1) (ofN n)) (inIds l s.25))))
def zq144 (m : Int) (i : Int) : List AV :=
 [AV.ptr 0 0 0, AV.ptr 1 0 0, AV.full 9, AV.fn (Fn.func 97) [] [AV.ptr 1 0 0], AV.full 9, AV.int .i64 m, AV.int .i64 i]
def zq145 (n : Nat) (l : List Int) : AObj :=
 AObj.row 3 n [.int .i64 l]
theorem lp_tick (z s : SR) (m i : Int) (n : Nat) (l : List Int) (mu : List AV → Heap → Nat) (Q : Ex → List AV → Heap → Prop) : runCode Tryz.prog (tabS tabT9) (callN Tryz.prog (tabS tabT9) noL 11) (fun _ => none) (bodyOf Tryz.prog 79 1) 1 ⟨mkT (spec_tick).keep [.ptr 0 0 0, .ptr 1 0 0, .full 9, .fn (.func 97) [] [.ptr 1 0 0], .full 9, .int .i64 m, .int .i64 i] (spec_tick).n 0, tickIn z s n l⟩ ((spec_tick).ends mu [.ptr 0 0 0, .ptr 1 0 0, .full 9, .fn (.func 97) [] [.ptr 1 0 0], .full 9, .int .i64 m, .int .i64 i] (tickIn z s n l) Q) = (
 br (ilt i m) (asrt (band (ile 0 i) (ilt i (ofN n))) (asrt (nlt (nOf i) n) (asrt (band (ile 0 (gI l (nOf i))) (ilt (gI l (nOf i)) (ofN s.25))) (asrt (nlt (zq122 i l) s.25) (asrt (nlt
 (zq122 i l) s.25) (br (ine (gI s.26 (zq122 i l)) 2) ((mu (zq141 m i) [some (AObj.var (SR.cl z)), some (zq138 s), some (AObj.row 88 s.11 [.int .i64 s.12, .int .i64 s.13]), some
 (AObj.row 3 s.14 [.int .i64 s.15]), some (AObj.row 3 s.16 [.int .i64 s.17]), some (AObj.row 3 s.19 [.int .i64 s.20]), some (AObj.row 3 s.22 [.int .i64 s.23]), some (AObj.row 51 s.25
 [.int .i64 s.26, .int .i64 s.27, .int .i64 s.28, .int .i64 s.29, .int .i64 s.30, .int .i64 s.31, .int .i64 s.32, .int .i64 s.33, Col.bool (put s.34 (zq122 i l) true), .int .i64
 s.35, .int .i64 s.36]), some (zq142 s), some (zq145 n l)]).succ.le (mu (zq144 m i) (zq125 z s n l)) ∧ asrt (band { s with lt := put s.34 (zq122 i l) true }.fit (zq143 s m i n l)) (Q
 (Ex.exit 1) [AV.ptr 0 0 0, AV.ptr 1 0 0, AV.full 9] [some (AObj.var (SR.cl z)), some (AObj.var [AV.int .i64 ({ s with lt := put s.34 (zq122 i l) true }.lates l (zq137 i)).1, AV.int
 .i64 ({ s with lt := put s.34 (zq122 i l) true }.lates l (zq137 i)).2, AV.int .i64 ({ s with lt := put s.34 (zq122 i l) true }.lates l (zq137 i)).3, AV.int .i64
 ({ s with lt := put s.34 (zq122 i l) true }.lates l (zq137 i)).4, AV.int .i64 ({ s with lt := put s.34 (zq122 i l) true }.lates l (zq137 i)).5, AV.int .i64
 ({ s with lt := put s.34 (zq122 i l) true }.lates l (zq137 i)).6, AV.bool ({ s with lt := put s.34 (zq122 i l) true }.lates l (zq137 i)).7, AV.int .i64
 ({ s with lt := put s.34 (zq122 i l) true }.lates l (zq137 i)).8, AV.int .i64 ({ s with lt := put s.34 (zq122 i l) true }.lates l (zq137 i)).9, AV.int .i64
 ({ s with lt := put s.34 (zq122 i l) true }.lates l (zq137 i)).10, AV.full 2, AV.full 3, AV.full 4, AV.int .i64 ({ s with lt := put s.34 (zq122 i l) true }.lates l (zq137 i)).18,
 AV.full 5, AV.int .i64 ({ s with lt := put s.34 (zq122 i l) true }.lates l (zq137 i)).21, AV.full 6, AV.int .i64 ({ s with lt := put s.34 (zq122 i l) true }.lates l (zq137 i)).24,
 AV.full 7, AV.full 8]), some (AObj.row 88 ({ s with lt := put s.34 (zq122 i l) true }.lates l (zq137 i)).11 [.int .i64 ({ s with lt := put s.34 (zq122 i l) true }.lates l (zq137
 i)).12, .int .i64 ({ s with lt := put s.34 (zq122 i l) true }.lates l (zq137 i)).13]), some (AObj.row 3 ({ s with lt := put s.34 (zq122 i l) true }.lates l (zq137 i)).14 [.int .i64
 ({ s with lt := put s.34 (zq122 i l) true }.lates l (zq137 i)).15]), some (AObj.row 3 ({ s with lt := put s.34 (zq122 i l) true }.lates l (zq137 i)).16 [.int .i64
 ({ s with lt := put s.34 (zq122 i l) true }.lates l (zq137 i)).17]), some (AObj.row 3 ({ s with lt := put s.34 (zq122 i l) true }.lates l (zq137 i)).19 [.int .i64
 ({ s with lt := put s.34 (zq122 i l) true }.lates l (zq137 i)).20]), some (AObj.row 3 ({ s with lt := put s.34 (zq122 i l) true }.lates l (zq137 i)).22 [.int .i64
 ({ s with lt := put s.34 (zq122 i l) true }.lates l (zq137 i)).23]), some (AObj.row 51 ({ s with lt := put s.34 (zq122 i l) true }.lates l (zq137 i)).25 [.int .i64
 ({ s with lt := put s.34 (zq122 i l) true }.lates l (zq137 i)).26, .int .i64 ({ s with lt := put s.34 (zq122 i l) true }.lates l (zq137 i)).27, .int .i64
 ({ s with lt := put s.34 (zq122 i l) true }.lates l (zq137 i)).28, .int .i64 ({ s with lt := put s.34 (zq122 i l) true }.lates l (zq137 i)).29, .int .i64
 ({ s with lt := put s.34 (zq122 i l) true }.lates l (zq137 i)).30, .int .i64 ({ s with lt := put s.34 (zq122 i l) true }.lates l (zq137 i)).31, .int .i64
 ({ s with lt := put s.34 (zq122 i l) true }.lates l (zq137 i)).32, .int .i64 ({ s with lt := put s.34 (zq122 i l) true }.lates l (zq137 i)).33, Col.bool
 ({ s with lt := put s.34 (zq122 i l) true }.lates l (zq137 i)).34, .int .i64 ({ s with lt := put s.34 (zq122 i l) true }.lates l (zq137 i)).35, .int .i64
 ({ s with lt := put s.34 (zq122 i l) true }.lates l (zq137 i)).36]), some (AObj.row 53 ({ s with lt := put s.34 (zq122 i l) true }.lates l (zq137 i)).37 [.int .i64
 ({ s with lt := put s.34 (zq122 i l) true }.lates l (zq137 i)).38, .int .i64 ({ s with lt := put s.34 (zq122 i l) true }.lates l (zq137 i)).39, .int .i64
 ({ s with lt := put s.34 (zq122 i l) true }.lates l (zq137 i)).40, .int .i64 ({ s with lt := put s.34 (zq122 i l) true }.lates l (zq137 i)).41, .int .i64
 ({ s with lt := put s.34 (zq122 i l) true }.lates l (zq137 i)).42]), some (zq145 n l)])) (asrt (nle s.19 1073741824) (asrt (nle s.22 1073741824) (asrt (nlt (zq122 i l) s.25) (asrt
 (nlt (zq122 i l) s.25) ((mu (zq141 m i) [some (AObj.var (SR.cl z)), some (zq138 s), some (AObj.row 88 s.11 [.int .i64 s.12, .int .i64 s.13]), some (AObj.row 3 s.14 [.int .i64
 s.15]), some (AObj.row 3 s.16 [.int .i64 s.17]), some (AObj.row 3 (zq139 s i l) [.int .i64 (zq126 s i l)]), some (AObj.row 3 (zq140 s i l) [.int .i64 (zq127 s i l)]), some (AObj.row
 51 s.25 [.int .i64 (zq124 s i l), .int .i64 (zq128 s i l), .int .i64 (zq129 s i l), .int .i64 (zq130 s i l), .int .i64 (zq131 s i l), .int .i64 (zq132 s i l), .int .i64 (zq133 s i
 l), .int .i64 (zq134 s i l), Col.bool (zq123 s i l), .int .i64 (zq135 s i l), .int .i64 (zq136 s i l)]), some (zq142 s), some (zq145 n l)]).succ.le (mu (zq144 m i) (zq125 z s n l))
 ∧ asrt (band (SR.mk (s.1) (s.2) (s.3) (s.4) (s.5) (s.6) (s.7) (s.8) (s.9) (s.10) (s.11) (s.12) (s.13) (s.14) (s.15) (s.16) (s.17) (s.18) (zq139 s i l) (zq126 s i l) (s.21) (zq140 s
 i l) (zq127 s i l) (s.24) (s.25) (zq124 s i l) (zq128 s i l) (zq129 s i l) (zq130 s i l) (zq131 s i l) (zq132 s i l) (zq133 s i l) (zq134 s i l) (zq123 s i l) (zq135 s i l) (zq136 s
 i l) (s.37) (s.38) (s.39) (s.40) (s.41) (s.42)).fit (zq143 s m i n l)) (Q (Ex.exit 1) [AV.ptr 0 0 0, AV.ptr 1 0 0, AV.full 9] [some (AObj.var (SR.cl z)), some (AObj.var [AV.int .i64
 ((SR.mk (s.1) (s.2) (s.3) (s.4) (s.5) (s.6) (s.7) (s.8) (s.9) (s.10) (s.11) (s.12) (s.13) (s.14) (s.15) (s.16) (s.17) (s.18) (zq139 s i l) (zq126 s i l) (s.21) (zq140 s i l) (zq127
 s i l) (s.24) (s.25) (zq124 s i l) (zq128 s i l) (zq129 s i l) (zq130 s i l) (zq131 s i l) (zq132 s i l) (zq133 s i l) (zq134 s i l) (zq123 s i l) (zq135 s i l) (zq136 s i l) (s.37)
 (s.38) (s.39) (s.40) (s.41) (s.42)).lates l (zq137 i)).1, AV.int .i64 ((SR.mk (s.1) (s.2) (s.3) (s.4) (s.5) (s.6) (s.7) (s.8) (s.9) (s.10) (s.11) (s.12) (s.13) (s.14) (s.15) (s.16)
 (s.17) (s.18) (zq139 s i l) (zq126 s i l) (s.21) (zq140 s i l) (zq127 s i l) (s.24) (s.25) (zq124 s i l) (zq128 s i l) (zq129 s i l) (zq130 s i l) (zq131 s i l) (zq132 s i l) (zq133
 s i l) (zq134 s i l) (zq123 s i l) (zq135 s i l) (zq136 s i l) (s.37) (s.38) (s.39) (s.40) (s.41) (s.42)).lates l (zq137 i)).2, AV.int .i64 ((SR.mk (s.1) (s.2) (s.3) (s.4) (s.5)
 (s.6) (s.7) (s.8) (s.9) (s.10) (s.11) (s.12) (s.13) (s.14) (s.15) (s.16) (s.17) (s.18) (zq139 s i l) (zq126 s i l) (s.21) (zq140 s i l) (zq127 s i l) (s.24) (s.25) (zq124 s i l)
 (zq128 s i l) (zq129 s i l) (zq130 s i l) (zq131 s i l) (zq132 s i l) (zq133 s i l) (zq134 s i l) (zq123 s i l) (zq135 s i l) (zq136 s i l) (s.37) (s.38) (s.39) (s.40) (s.41)
 (s.42)).lates l (zq137 i)).3, AV.int .i64 ((SR.mk (s.1) (s.2) (s.3) (s.4) (s.5) (s.6) (s.7) (s.8) (s.9) (s.10) (s.11) (s.12) (s.13) (s.14) (s.15) (s.16) (s.17) (s.18) (zq139 s i l)
 (zq126 s i l) (s.21) (zq140 s i l) (zq127 s i l) (s.24) (s.25) (zq124 s i l) (zq128 s i l) (zq129 s i l) (zq130 s i l) (zq131 s i l) (zq132 s i l) (zq133 s i l) (zq134 s i l) (zq123
 s i l) (zq135 s i l) (zq136 s i l) (s.37) (s.38) (s.39) (s.40) (s.41) (s.42)).lates l (zq137 i)).4, AV.int .i64 ((SR.mk (s.1) (s.2) (s.3) (s.4) (s.5) (s.6) (s.7) (s.8) (s.9) (s.10)
 (s.11) (s.12) (s.13) (s.14) (s.15) (s.16) (s.17) (s.18) (zq139 s i l) (zq126 s i l) (s.21) (zq140 s i l) (zq127 s i l) (s.24) (s.25) (zq124 s i l) (zq128 s i l) (zq129 s i l) (zq130
 s i l) (zq131 s i l) (zq132 s i l) (zq133 s i l) (zq134 s i l) (zq123 s i l) (zq135 s i l) (zq136 s i l) (s.37) (s.38) (s.39) (s.40) (s.41) (s.42)).lates l (zq137 i)).5, AV.int .i64
 ((SR.mk (s.1) (s.2) (s.3) (s.4) (s.5) (s.6) (s.7) (s.8) (s.9) (s.10) (s.11) (s.12) (s.13) (s.14) (s.15) (s.16) (s.17) (s.18) (zq139 s i l) (zq126 s i l) (s.21) (zq140 s i l) (zq127
 s i l) (s.24) (s.25) (zq124 s i l) (zq128 s i l) (zq129 s i l) (zq130 s i l) (zq131 s i l) (zq132 s i l) (zq133 s i l) (zq134 s i l) (zq123 s i l) (zq135 s i l) (zq136 s i l) (s.37)
 (s.38) (s.39) (s.40) (s.41) (s.42)).lates l (zq137 i)).6, AV.bool ((SR.mk (s.1) (s.2) (s.3) (s.4) (s.5) (s.6) (s.7) (s.8) (s.9) (s.10) (s.11) (s.12) (s.13) (s.14) (s.15) (s.16)
 (s.17) (s.18) (zq139 s i l) (zq126 s i l) (s.21) (zq140 s i l) (zq127 s i l) (s.24) (s.25) (zq124 s i l) (zq128 s i l) (zq129 s i l) (zq130 s i l) (zq131 s i l) (zq132 s i l) (zq133
 s i l) (zq134 s i l) (zq123 s i l) (zq135 s i l) (zq136 s i l) (s.37) (s.38) (s.39) (s.40) (s.41) (s.42)).lates l (zq137 i)).7, AV.int .i64 ((SR.mk (s.1) (s.2) (s.3) (s.4) (s.5)
 (s.6) (s.7) (s.8) (s.9) (s.10) (s.11) (s.12) (s.13) (s.14) (s.15) (s.16) (s.17) (s.18) (zq139 s i l) (zq126 s i l) (s.21) (zq140 s i l) (zq127 s i l) (s.24) (s.25) (zq124 s i l)
 (zq128 s i l) (zq129 s i l) (zq130 s i l) (zq131 s i l) (zq132 s i l) (zq133 s i l) (zq134 s i l) (zq123 s i l) (zq135 s i l) (zq136 s i l) (s.37) (s.38) (s.39) (s.40) (s.41)
 (s.42)).lates l (zq137 i)).8, AV.int .i64 ((SR.mk (s.1) (s.2) (s.3) (s.4) (s.5) (s.6) (s.7) (s.8) (s.9) (s.10) (s.11) (s.12) (s.13) (s.14) (s.15) (s.16) (s.17) (s.18) (zq139 s i l)
 (zq126 s i l) (s.21) (zq140 s i l) (zq127 s i l) (s.24) (s.25) (zq124 s i l) (zq128 s i l) (zq129 s i l) (zq130 s i l) (zq131 s i l) (zq132 s i l) (zq133 s i l) (zq134 s i l) (zq123
 s i l) (zq135 s i l) (zq136 s i l) (s.37) (s.38) (s.39) (s.40) (s.41) (s.42)).lates l (zq137 i)).9, AV.int .i64 ((SR.mk (s.1) (s.2) (s.3) (s.4) (s.5) (s.6) (s.7) (s.8) (s.9) (s.10)
 (s.11) (s.12) (s.13) (s.14) (s.15) (s.16) (s.17) (s.18) (zq139 s i l) (zq126 s i l) (s.21) (zq140 s i l) (zq127 s i l) (s.24) (s.25) (zq124 s i l) (zq128 s i l) (zq129 s i l) (zq130
 s i l) (zq131 s i l) (zq132 s i l) (zq133 s i l) (zq134 s i l) (zq123 s i l) (zq135 s i l) (zq136 s i l) (s.37) (s.38) (s.39) (s.40) (s.41) (s.42)).lates l (zq137 i)).10, AV.full 2,
 AV.full 3, AV.full 4, AV.int .i64 ((SR.mk (s.1) (s.2) (s.3) (s.4) (s.5) (s.6) (s.7) (s.8) (s.9) (s.10) (s.11) (s.12) (s.13) (s.14) (s.15) (s.16) (s.17) (s.18) (zq139 s i l) (zq126 s
 i l) (s.21) (zq140 s i l) (zq127 s i l) (s.24) (s.25) (zq124 s i l) (zq128 s i l) (zq129 s i l) (zq130 s i l) (zq131 s i l) (zq132 s i l) (zq133 s i l) (zq134 s i l) (zq123 s i l)
 (zq135 s i l) (zq136 s i l) (s.37) (s.38) (s.39) (s.40) (s.41) (s.42)).lates l (zq137 i)).18, AV.full 5, AV.int .i64 ((SR.mk (s.1) (s.2) (s.3) (s.4) (s.5) (s.6) (s.7) (s.8) (s.9)
 (s.10) (s.11) (s.12) (s.13) (s.14) (s.15) (s.16) (s.17) (s.18) (zq139 s i l) (zq126 s i l) (s.21) (zq140 s i l) (zq127 s i l) (s.24) (s.25) (zq124 s i l) (zq128 s i l) (zq129 s i l)
 (zq130 s i l) (zq131 s i l) (zq132 s i l) (zq133 s i l) (zq134 s i l) (zq123 s i l) (zq135 s i l) (zq136 s i l) (s.37) (s.38) (s.39) (s.40) (s.41) (s.42)).lates l (zq137 i)).21,
 AV.full 6, AV.int .i64 ((SR.mk (s.1) (s.2) (s.3) (s.4) (s.5) (s.6) (s.7) (s.8) (s.9) (s.10) (s.11) (s.12) (s.13) (s.14) (s.15) (s.16) (s.17) (s.18) (zq139 s i l) (zq126 s i l)
 (s.21) (zq140 s i l) (zq127 s i l) (s.24) (s.25) (zq124 s i l) (zq128 s i l) (zq129 s i l) (zq130 s i l) (zq131 s i l) (zq132 s i l) (zq133 s i l) (zq134 s i l) (zq123 s i l) (zq135
 s i l) (zq136 s i l) (s.37) (s.38) (s.39) (s.40) (s.41) (s.42)).lates l (zq137 i)).24, AV.full 7, AV.full 8]), some (AObj.row 88 ((SR.mk (s.1) (s.2) (s.3) (s.4) (s.5) (s.6) (s.7)
 (s.8) (s.9) (s.10) (s.11) (s.12) (s.13) (s.14) (s.15) (s.16) (s.17) (s.18) (zq139 s i l) (zq126 s i l) (s.21) (zq140 s i l) (zq127 s i l) (s.24) (s.25) (zq124 s i l) (zq128 s i l)
 (zq129 s i l) (zq130 s i l) (zq131 s i l) (zq132 s i l) (zq133 s i l) (zq134 s i l) (zq123 s i l) (zq135 s i l) (zq136 s i l) (s.37) (s.38) (s.39) (s.40) (s.41) (s.42)).lates l
 (zq137 i)).11 [.int .i64 ((SR.mk (s.1) (s.2) (s.3) (s.4) (s.5) (s.6) (s.7) (s.8) (s.9) (s.10) (s.11) (s.12) (s.13) (s.14) (s.15) (s.16) (s.17) (s.18) (zq139 s i l) (zq126 s i l)
 (s.21) (zq140 s i l) (zq127 s i l) (s.24) (s.25) (zq124 s i l) (zq128 s i l) (zq129 s i l) (zq130 s i l) (zq131 s i l) (zq132 s i l) (zq133 s i l) (zq134 s i l) (zq123 s i l) (zq135
 s i l) (zq136 s i l) (s.37) (s.38) (s.39) (s.40) (s.41) (s.42)).lates l (zq137 i)).12, .int .i64 ((SR.mk (s.1) (s.2) (s.3) (s.4) (s.5) (s.6) (s.7) (s.8) (s.9) (s.10) (s.11) (s.12)
 (s.13) (s.14) (s.15) (s.16) (s.17) (s.18) (zq139 s i l) (zq126 s i l) (s.21) (zq140 s i l) (zq127 s i l) (s.24) (s.25) (zq124 s i l) (zq128 s i l) (zq129 s i l) (zq130 s i l) (zq131
 s i l) (zq132 s i l) (zq133 s i l) (zq134 s i l) (zq123 s i l) (zq135 s i l) (zq136 s i l) (s.37) (s.38) (s.39) (s.40) (s.41) (s.42)).lates l (zq137 i)).13]), some (AObj.row 3
 ((SR.mk (s.1) (s.2) (s.3) (s.4) (s.5) (s.6) (s.7) (s.8) (s.9) (s.10) (s.11) (s.12) (s.13) (s.14) (s.15) (s.16) (s.17) (s.18) (zq139 s i l) (zq126 s i l) (s.21) (zq140 s i l) (zq127
 s i l) (s.24) (s.25) (zq124 s i l) (zq128 s i l) (zq129 s i l) (zq130 s i l) (zq131 s i l) (zq132 s i l) (zq133 s i l) (zq134 s i l) (zq123 s i l) (zq135 s i l) (zq136 s i l) (s.37)
 (s.38) (s.39) (s.40) (s.41) (s.42)).lates l (zq137 i)).14 [.int .i64 ((SR.mk (s.1) (s.2) (s.3) (s.4) (s.5) (s.6) (s.7) (s.8) (s.9) (s.10) (s.11) (s.12) (s.13) (s.14) (s.15) (s.16)
 (s.17) (s.18) (zq139 s i l) (zq126 s i l) (s.21) (zq140 s i l) (zq127 s i l) (s.24) (s.25) (zq124 s i l) (zq128 s i l) (zq129 s i l) (zq130 s i l) (zq131 s i l) (zq132 s i l) (zq133
 s i l) (zq134 s i l) (zq123 s i l) (zq135 s i l) (zq136 s i l) (s.37) (s.38) (s.39) (s.40) (s.41) (s.42)).lates l (zq137 i)).15]), some (AObj.row 3 ((SR.mk (s.1) (s.2) (s.3) (s.4)
 (s.5) (s.6) (s.7) (s.8) (s.9) (s.10) (s.11) (s.12) (s.13) (s.14) (s.15) (s.16) (s.17) (s.18) (zq139 s i l) (zq126 s i l) (s.21) (zq140 s i l) (zq127 s i l) (s.24) (s.25) (zq124 s i
 l) (zq128 s i l) (zq129 s i l) (zq130 s i l) (zq131 s i l) (zq132 s i l) (zq133 s i l) (zq134 s i l) (zq123 s i l) (zq135 s i l) (zq136 s i l) (s.37) (s.38) (s.39) (s.40) (s.41)
 (s.42)).lates l (zq137 i)).16 [.int .i64 ((SR.mk (s.1) (s.2) (s.3) (s.4) (s.5) (s.6) (s.7) (s.8) (s.9) (s.10) (s.11) (s.12) (s.13) (s.14) (s.15) (s.16) (s.17) (s.18) (zq139 s i l)
 (zq126 s i l) (s.21) (zq140 s i l) (zq127 s i l) (s.24) (s.25) (zq124 s i l) (zq128 s i l) (zq129 s i l) (zq130 s i l) (zq131 s i l) (zq132 s i l) (zq133 s i l) (zq134 s i l) (zq123
 s i l) (zq135 s i l) (zq136 s i l) (s.37) (s.38) (s.39) (s.40) (s.41) (s.42)).lates l (zq137 i)).17]), some (AObj.row 3 ((SR.mk (s.1) (s.2) (s.3) (s.4) (s.5) (s.6) (s.7) (s.8) (s.9)
 (s.10) (s.11) (s.12) (s.13) (s.14) (s.15) (s.16) (s.17) (s.18) (zq139 s i l) (zq126 s i l) (s.21) (zq140 s i l) (zq127 s i l) (s.24) (s.25) (zq124 s i l) (zq128 s i l) (zq129 s i l)
 (zq130 s i l) (zq131 s i l) (zq132 s i l) (zq133 s i l) (zq134 s i l) (zq123 s i l) (zq135 s i l) (zq136 s i l) (s.37) (s.38) (s.39) (s.40) (s.41) (s.42)).lates l (zq137 i)).19
 [.int .i64 ((SR.mk (s.1) (s.2) (s.3) (s.4) (s.5) (s.6) (s.7) (s.8) (s.9) (s.10) (s.11) (s.12) (s.13) (s.14) (s.15) (s.16) (s.17) (s.18) (zq139 s i l) (zq126 s i l) (s.21) (zq140 s i
 l) (zq127 s i l) (s.24) (s.25) (zq124 s i l) (zq128 s i l) (zq129 s i l) (zq130 s i l) (zq131 s i l) (zq132 s i l) (zq133 s i l) (zq134 s i l) (zq123 s i l) (zq135 s i l) (zq136 s i
 l) (s.37) (s.38) (s.39) (s.40) (s.41) (s.42)).lates l (zq137 i)).20]), some (AObj.row 3 ((SR.mk (s.1) (s.2) (s.3) (s.4) (s.5) (s.6) (s.7) (s.8) (s.9) (s.10) (s.11) (s.12) (s.13)
 (s.14) (s.15) (s.16) (s.17) (s.18) (zq139 s i l) (zq126 s i l) (s.21) (zq140 s i l) (zq127 s i l) (s.24) (s.25) (zq124 s i l) (zq128 s i l) (zq129 s i l) (zq130 s i l) (zq131 s i l)
 (zq132 s i l) (zq133 s i l) (zq134 s i l) (zq123 s i l) (zq135 s i l) (zq136 s i l) (s.37) (s.38) (s.39) (s.40) (s.41) (s.42)).lates l (zq137 i)).22 [.int .i64 ((SR.mk (s.1) (s.2)
 (s.3) (s.4) (s.5) (s.6) (s.7) (s.8) (s.9) (s.10) (s.11) (s.12) (s.13) (s.14) (s.15) (s.16) (s.17) (s.18) (zq139 s i l) (zq126 s i l) (s.21) (zq140 s i l) (zq127 s i l) (s.24) (s.25)
 (zq124 s i l) (zq128 s i l) (zq129 s i l) (zq130 s i l) (zq131 s i l) (zq132 s i l) (zq133 s i l) (zq134 s i l) (zq123 s i l) (zq135 s i l) (zq136 s i l) (s.37) (s.38) (s.39) (s.40)
 (s.41) (s.42)).lates l (zq137 i)).23]), some (AObj.row 51 ((SR.mk (s.1) (s.2) (s.3) (s.4) (s.5) (s.6) (s.7) (s.8) (s.9) (s.10) (s.11) (s.12) (s.13) (s.14) (s.15) (s.16) (s.17)
 (s.18) (zq139 s i l) (zq126 s i l) (s.21) (zq140 s i l) (zq127 s i l) (s.24) (s.25) (zq124 s i l) (zq128 s i l) (zq129 s i l) (zq130 s i l) (zq131 s i l) (zq132 s i l) (zq133 s i l)
 (zq134 s i l) (zq123 s i l) (zq135 s i l) (zq136 s i l) (s.37) (s.38) (s.39) (s.40) (s.41) (s.42)).lates l (zq137 i)).25 [.int .i64 ((SR.mk (s.1) (s.2) (s.3) (s.4) (s.5) (s.6) (s.7)
 (s.8) (s.9) (s.10) (s.11) (s.12) (s.13) (s.14) (s.15) (s.16) (s.17) (s.18) (zq139 s i l) (zq126 s i l) (s.21) (zq140 s i l) (zq127 s i l) (s.24) (s.25) (zq124 s i l) (zq128 s i l)
 (zq129 s i l) (zq130 s i l) (zq131 s i l) (zq132 s i l) (zq133 s i l) (zq134 s i l) (zq123 s i l) (zq135 s i l) (zq136 s i l) (s.37) (s.38) (s.39) (s.40) (s.41) (s.42)).lates l
 (zq137 i)).26, .int .i64 ((SR.mk (s.1) (s.2) (s.3) (s.4) (s.5) (s.6) (s.7) (s.8) (s.9) (s.10) (s.11) (s.12) (s.13) (s.14) (s.15) (s.16) (s.17) (s.18) (zq139 s i l) (zq126 s i l)
 (s.21) (zq140 s i l) (zq127 s i l) (s.24) (s.25) (zq124 s i l) (zq128 s i l) (zq129 s i l) (zq130 s i l) (zq131 s i l) (zq132 s i l) (zq133 s i l) (zq134 s i l) (zq123 s i l) (zq135
 s i l) (zq136 s i l) (s.37) (s.38) (s.39) (s.40) (s.41) (s.42)).lates l (zq137 i)).27, .int .i64 ((SR.mk (s.1) (s.2) (s.3) (s.4) (s.5) (s.6) (s.7) (s.8) (s.9) (s.10) (s.11) (s.12)
 (s.13) (s.14) (s.15) (s.16) (s.17) (s.18) (zq139 s i l) (zq126 s i l) (s.21) (zq140 s i l) (zq127 s i l) (s.24) (s.25) (zq124 s i l) (zq128 s i l) (zq129 s i l) (zq130 s i l) (zq131
 s i l) (zq132 s i l) (zq133 s i l) (zq134 s i l) (zq123 s i l) (zq135 s i l) (zq136 s i l) (s.37) (s.38) (s.39) (s.40) (s.41) (s.42)).lates l (zq137 i)).28, .int .i64 ((SR.mk (s.1)
 (s.2) (s.3) (s.4) (s.5) (s.6) (s.7) (s.8) (s.9) (s.10) (s.11) (s.12) (s.13) (s.14) (s.15) (s.16) (s.17) (s.18) (zq139 s i l) (zq126 s i l) (s.21) (zq140 s i l) (zq127 s i l) (s.24)
 (s.25) (zq124 s i l) (zq128 s i l) (zq129 s i l) (zq130 s i l) (zq131 s i l) (zq132 s i l) (zq133 s i l) (zq134 s i l) (zq123 s i l) (zq135 s i l) (zq136 s i l) (s.37) (s.38) (s.39)
 (s.40) (s.41) (s.42)).lates l (zq137 i)).29, .int .i64 ((SR.mk (s.1) (s.2) (s.3) (s.4) (s.5) (s.6) (s.7) (s.8) (s.9) (s.10) (s.11) (s.12) (s.13) (s.14) (s.15) (s.16) (s.17) (s.18)
 (zq139 s i l) (zq126 s i l) (s.21) (zq140 s i l) (zq127 s i l) (s.24) (s.25) (zq124 s i l) (zq128 s i l) (zq129 s i l) (zq130 s i l) (zq131 s i l) (zq132 s i l) (zq133 s i l) (zq134
 s i l) (zq123 s i l) (zq135 s i l) (zq136 s i l) (s.37) (s.38) (s.39) (s.40) (s.41) (s.42)).lates l (zq137 i)).30, .int .i64 ((SR.mk (s.1) (s.2) (s.3) (s.4) (s.5) (s.6) (s.7) (s.8)
 (s.9) (s.10) (s.11) (s.12) (s.13) (s.14) (s.15) (s.16) (s.17) (s.18) (zq139 s i l) (zq126 s i l) (s.21) (zq140 s i l) (zq127 s i l) (s.24) (s.25) (zq124 s i l) (zq128 s i l) (zq129
 s i l) (zq130 s i l) (zq131 s i l) (zq132 s i l) (zq133 s i l) (zq134 s i l) (zq123 s i l) (zq135 s i l) (zq136 s i l) (s.37) (s.38) (s.39) (s.40) (s.41) (s.42)).lates l (zq137
 i)).31, .int .i64 ((SR.mk (s.1) (s.2) (s.3) (s.4) (s.5) (s.6) (s.7) (s.8) (s.9) (s.10) (s.11) (s.12) (s.13) (s.14) (s.15) (s.16) (s.17) (s.18) (zq139 s i l) (zq126 s i l) (s.21)
 (zq140 s i l) (zq127 s i l) (s.24) (s.25) (zq124 s i l) (zq128 s i l) (zq129 s i l) (zq130 s i l) (zq131 s i l) (zq132 s i l) (zq133 s i l) (zq134 s i l) (zq123 s i l) (zq135 s i l)
 (zq136 s i l) (s.37) (s.38) (s.39) (s.40) (s.41) (s.42)).lates l (zq137 i)).32, .int .i64 ((SR.mk (s.1) (s.2) (s.3) (s.4) (s.5) (s.6) (s.7) (s.8) (s.9) (s.10) (s.11) (s.12) (s.13)
 (s.14) (s.15) (s.16) (s.17) (s.18) (zq139 s i l) (zq126 s i l) (s.21) (zq140 s i l) (zq127 s i l) (s.24) (s.25) (zq124 s i l) (zq128 s i l) (zq129 s i l) (zq130 s i l) (zq131 s i l)
 (zq132 s i l) (zq133 s i l) (zq134 s i l) (zq123 s i l) (zq135 s i l) (zq136 s i l) (s.37) (s.38) (s.39) (s.40) (s.41) (s.42)).lates l (zq137 i)).33, Col.bool ((SR.mk (s.1) (s.2)
 (s.3) (s.4) (s.5) (s.6) (s.7) (s.8) (s.9) (s.10) (s.11) (s.12) (s.13) (s.14) (s.15) (s.16) (s.17) (s.18) (zq139 s i l) (zq126 s i l) (s.21) (zq140 s i l) (zq127 s i l) (s.24) (s.25)
 (zq124 s i l) (zq128 s i l) (zq129 s i l) (zq130 s i l) (zq131 s i l) (zq132 s i l) (zq133 s i l) (zq134 s i l) (zq123 s i l) (zq135 s i l) (zq136 s i l) (s.37) (s.38) (s.39) (s.40)
 (s.41) (s.42)).lates l (zq137 i)).34, .int .i64 ((SR.mk (s.1) (s.2) (s.3) (s.4) (s.5) (s.6) (s.7) (s.8) (s.9) (s.10) (s.11) (s.12) (s.13) (s.14) (s.15) (s.16) (s.17) (s.18) (zq139 s
 i l) (zq126 s i l) (s.21) (zq140 s i l) (zq127 s i l) (s.24) (s.25) (zq124 s i l) (zq128 s i l) (zq129 s i l) (zq130 s i l) (zq131 s i l) (zq132 s i l) (zq133 s i l) (zq134 s i l)
 (zq123 s i l) (zq135 s i l) (zq136 s i l) (s.37) (s.38) (s.39) (s.40) (s.41) (s.42)).lates l (zq137 i)).35, .int .i64 ((SR.mk (s.1) (s.2) (s.3) (s.4) (s.5) (s.6) (s.7) (s.8) (s.9)
 (s.10) (s.11) (s.12) (s.13) (s.14) (s.15) (s.16) (s.17) (s.18) (zq139 s i l) (zq126 s i l) (s.21) (zq140 s i l) (zq127 s i l) (s.24) (s.25) (zq124 s i l) (zq128 s i l) (zq129 s i l)
 (zq130 s i l) (zq131 s i l) (zq132 s i l) (zq133 s i l) (zq134 s i l) (zq123 s i l) (zq135 s i l) (zq136 s i l) (s.37) (s.38) (s.39) (s.40) (s.41) (s.42)).lates l (zq137 i)).36]),
 some (AObj.row 53 ((SR.mk (s.1) (s.2) (s.3) (s.4) (s.5) (s.6) (s.7) (s.8) (s.9) (s.10) (s.11) (s.12) (s.13) (s.14) (s.15) (s.16) (s.17) (s.18) (zq139 s i l) (zq126 s i l) (s.21)
 (zq140 s i l) (zq127 s i l) (s.24) (s.25) (zq124 s i l) (zq128 s i l) (zq129 s i l) (zq130 s i l) (zq131 s i l) (zq132 s i l) (zq133 s i l) (zq134 s i l) (zq123 s i l) (zq135 s i l)
 (zq136 s i l) (s.37) (s.38) (s.39) (s.40) (s.41) (s.42)).lates l (zq137 i)).37 [.int .i64 ((SR.mk (s.1) (s.2) (s.3) (s.4) (s.5) (s.6) (s.7) (s.8) (s.9) (s.10) (s.11) (s.12) (s.13)
 (s.14) (s.15) (s.16) (s.17) (s.18) (zq139 s i l) (zq126 s i l) (s.21) (zq140 s i l) (zq127 s i l) (s.24) (s.25) (zq124 s i l) (zq128 s i l) (zq129 s i l) (zq130 s i l) (zq131 s i l)
 (zq132 s i l) (zq133 s i l) (zq134 s i l) (zq123 s i l) (zq135 s i l) (zq136 s i l) (s.37) (s.38) (s.39) (s.40) (s.41) (s.42)).lates l (zq137 i)).38, .int .i64 ((SR.mk (s.1) (s.2)
 (s.3) (s.4) (s.5) (s.6) (s.7) (s.8) (s.9) (s.10) (s.11) (s.12) (s.13) (s.14) (s.15) (s.16) (s.17) (s.18) (zq139 s i l) (zq126 s i l) (s.21) (zq140 s i l) (zq127 s i l) (s.24) (s.25)
 (zq124 s i l) (zq128 s i l) (zq129 s i l) (zq130 s i l) (zq131 s i l) (zq132 s i l) (zq133 s i l) (zq134 s i l) (zq123 s i l) (zq135 s i l) (zq136 s i l) (s.37) (s.38) (s.39) (s.40)
 (s.41) (s.42)).lates l (zq137 i)).39, .int .i64 ((SR.mk (s.1) (s.2) (s.3) (s.4) (s.5) (s.6) (s.7) (s.8) (s.9) (s.10) (s.11) (s.12) (s.13) (s.14) (s.15) (s.16) (s.17) (s.18) (zq139 s
 i l) (zq126 s i l) (s.21) (zq140 s i l) (zq127 s i l) (s.24) (s.25) (zq124 s i l) (zq128 s i l) (zq129 s i l) (zq130 s i l) (zq131 s i l) (zq132 s i l) (zq133 s i l) (zq134 s i l)
 (zq123 s i l) (zq135 s i l) (zq136 s i l) (s.37) (s.38) (s.39) (s.40) (s.41) (s.42)).lates l (zq137 i)).40, .int .i64 ((SR.mk (s.1) (s.2) (s.3) (s.4) (s.5) (s.6) (s.7) (s.8) (s.9)
 (s.10) (s.11) (s.12) (s.13) (s.14) (s.15) (s.16) (s.17) (s.18) (zq139 s i l) (zq126 s i l) (s.21) (zq140 s i l) (zq127 s i l) (s.24) (s.25) (zq124 s i l) (zq128 s i l) (zq129 s i l)
 (zq130 s i l) (zq131 s i l) (zq132 s i l) (zq133 s i l) (zq134 s i l) (zq123 s i l) (zq135 s i l) (zq136 s i l) (s.37) (s.38) (s.39) (s.40) (s.41) (s.42)).lates l (zq137 i)).41,
 .int .i64 ((SR.mk (s.1) (s.2) (s.3) (s.4) (s.5) (s.6) (s.7) (s.8) (s.9) (s.10) (s.11) (s.12) (s.13) (s.14) (s.15) (s.16) (s.17) (s.18) (zq139 s i l) (zq126 s i l) (s.21) (zq140 s i
 l) (zq127 s i l) (s.24) (s.25) (zq124 s i l) (zq128 s i l) (zq129 s i l) (zq130 s i l) (zq131 s i l) (zq132 s i l) (zq133 s i l) (zq134 s i l) (zq123 s i l) (zq135 s i l) (zq136 s i
 l) (s.37) (s.38) (s.39) (s.40) (s.41) (s.42)).lates l (zq137 i)).42]), some (zq145 n l)])))))))))))) (Q (Ex.exit 1) [AV.ptr 0 0 0, AV.ptr 1 0 0, AV.full 9] (zq125 z s n l))) := by kernel_rfl
theorem SR.lates_lt (s : SR) (l : List Int) {i : Nat} (h : i < l.length) : s.lates l i = (s.late1 (l.getD i 0)).lates l (i + 1) := by
 unfold SR.lates
 rw [List.drop_eq_getElem_cons h, List.foldl_cons]
 simp [h]
theorem SR.lates_ge (s : SR) (l : List Int) {i : Nat} (h : l.length ≤ i) : s.lates l i = s := by
 unfold SR.lates
 rw [List.drop_eq_nil_of_le h]
 rfl
theorem cancelL_len (e : Int) (l : List Int) (x : Int) : (cancelL e l x).length ≤ l.length := by
 unfold cancelL
 split
 ·exact List.length_eraseIdx_le _ _
 ·exact Nat.le_refl _
theorem inIds_at {l : List Int} {n i : Nat} (h : inIds l n = true) (hi : i < l.length) : 0 ≤ l.getD i 0 ∧ l.getD i 0 < n := by
 unfold inIds at h
 have := List.all_eq_true.1 h (l.getD i 0) (by simp [hi])
 simpa using this
theorem loop_tick : LoopOK Tryz.prog (bodyOf Tryz.prog 79 1) spec_tick.summ := by
 refine tab_loop mixed (l := tabT9) ok_tabT9 (i := 1) spec_tick (fun vals objs => match vals with
  | [.ptr 0 0 0, .ptr 1 0 0, .full 9, .fn (.func 97) [] [.ptr 1 0 0], .full 9, .int .i64 m, .int .i64 i] => (m - i).toNat
  | _ => 0) fun vals objs Q h1 h2 wf wo hg => ?_
 unfold spec_tick at hg
 simp only at hg
 split at hg
 ·rename_i m i
  clear h1 h2
  split at hg
  ·rename_i z s n l hx
   have e := asTick_some hx
   subst e
   clear hx
   rw [lp_tick]
   dsimp only [SR.cl, zq122, zq123, zq124, zq125, zq126, zq127, zq128, zq129, zq130, zq131, zq132, zq133, zq134, zq135, zq136, zq137, zq138, zq139, zq140, zq141, zq142, zq143, zq144, zq145]
   have wl : l.length = n := by simpa [WFO, Col.len] using wo (some (.row 3 n [.int .i64 l])) (by simp [tickIn]) _ rfl
   have w3 : s.l3.length = s.n3 := by simpa [WFO, Col.len] using wo (some (.row 3 s.n3 [.int .i64 s.l3])) (by simp [tickIn]) _ rfl
   have w4 : s.l4.length = s.n4 := by simpa [WFO, Col.len] using wo (some (.row 3 s.n4 [.int .i64 s.l4])) (by simp [tickIn]) _ rfl
   simp only [asrt_iff, band_t, nle_t, ieq_t, ile_t, ofN_e] at hg
   obtain ⟨⟨hf, hn, rfl, h0, hi, hids⟩, hg⟩ := hg
   obtain ⟨k, rfl⟩ := Int.eq_ofNat_of_zero_le h0
   have hw : IntKind.i64.wrap ((k : Int) + 1) = (k : Int) + 1 := wr (by omega) (by omega)
   have e4 : nOf (iadd .i64 (k : Int) 1) = k + 1 := by rw [iadd_e, hw, nOf_e]; omega
   have e6 : nOf (k : Int) = k := by rw [nOf_e]; omega
   rw [e6] at hg
   rw [br_iff, ilt_t, ilt_f]
   refine ⟨fun hk => ?_, fun hk => ?_⟩
   ·have hk' : k < l.length := by omega
    obtain ⟨x1, x2⟩ := inIds_at hids hk'
    rw [SR.lates_lt s l hk'] at hg
    simp only [e6, e4]
    have g0 : gI l k = l.getD k 0 := rfl
    rw [g0]
    generalize l.getD k 0 = x at x1 x2 hg ⊢
    have q1 : band (ile 0 (k : Int)) (ilt (k : Int) (ofN n)) = true := by simp only [band_t, ile_t, ilt_t, ofN_e]; omega
    have q2 : nlt k n = true := by simp only [nlt_t]; omega
    have q3 : band (ile 0 x) (ilt x (ofN s.nt)) = true := by simp only [band_t, ile_t, ilt_t, ofN_e]; omega
    have q4 : nlt (nOf x) s.nt = true := by simp only [nlt_t, nOf_e]; omega
    obtain ⟨f1, f2⟩ := (SR.fit_iff s).1 hf
    have q5 : nle s.n3 1073741824 = true := by simp only [nle_t]; omega
    have q6 : nle s.n4 1073741824 = true := by simp only [nle_t]; omega
    have hmu : ((n : Int) - iadd .i64 (k : Int) 1).toNat.succ.le ((n : Int) - (k : Int)).toNat := by
     rw [iadd_e, hw]
     exact Nat.succ_le_of_lt (by omega)
    simp only [q1, q2, q3, q4, q5, q6, asrt_tt]
    have hgd : ∀ t : SR, t.fit = true → band t.fit (band (nle n 1000000) (band (ieq (n : Int) (ofN n)) (band (ile 0 (iadd .i64 (k : Int) 1)) (band (ile (iadd .i64 (k : Int) 1) (ofN n)) (inIds l s.nt))))) = true := by
     intro t ht
     simp only [band_t, nle_t, ieq_t, ile_t, ofN_e, iadd_e, hw]
     exact ⟨ht, hn, trivial, by omega, by omega, hids⟩
    rw [br_iff, ine_t, ine_f]
    simp only [gI_d, gB_d, nOf_e, put_self, putB_self]
    refine ⟨fun hs => ?_, fun hs => ?_⟩
    ·have e : s.late1 x = { s with lt := put s.lt x.toNat true } := by unfold SR.late1; rw [if_neg hs]; rfl
     rw [e] at hg
     exact ⟨hmu, asrt_iff.2 ⟨hgd _ hf, hg⟩⟩
    ·simp only [hs, ieq_d, decide_true]
     have e : s.late1 x = { s with lt := put s.lt x.toNat true, n3 := lenI (cancelL s.fe s.l3 x), l3 := cancelL s.fe s.l3 x, n4 := lenI (cancelL s.ee s.l4 x), l4 := cancelL s.ee s.l4 x, st := put s.st x.toNat 1 } := by unfold SR.late1; rw [if_pos hs]; rfl
     rw [e] at hg
     have c3 := cancelL_len s.fe s.l3 x
     have c4 := cancelL_len s.ee s.l4 x
     exact ⟨hmu, asrt_iff.2 ⟨hgd _ ((SR.fit_iff _).2 ⟨f1, by dsimp only [lenI]; omega⟩), hg⟩⟩
   ·rw [SR.lates_ge s l (by omega)] at hg
    exact hg
  ·exact hg.elim
 ·exact hg.elim
theorem putP_mem {P : Prs} {p q : Int × Int} (h : q ∈ putP P p) : q ∈ P ∨ q = p := by
 unfold putP at h
 split at h
 ·have := (srt_perm (P ++ [p])).mem_iff.1 h
  simpa using this
 ·exact .inl h
theorem putP_len (P : Prs) (p : Int × Int) : (putP P p).length ≤ P.length + 1 := by
 unfold putP
 split
 ·rw [(srt_perm (P ++ [p])).length_eq]
  simp
 ·omega
theorem dueP_mem {st kd un : List Int} {lt : List Bool} {q : Int × Int} : ∀ (l : List Nat) (P : Prs), q ∈ l.foldl (fun P j => if st.getD j 0 ≠ 0 ∧ opTimed (kd.getD j 0) = true ∧ lt.getD j false = false then putP P (un.getD j 0, (j : Int)) else P) P → q ∈ P ∨ ∃ j ∈ l, (st.getD j 0 ≠ 0 ∧ opTimed (kd.getD j 0) = true ∧ lt.getD j false = false) ∧ q = (un.getD j 0, (j : Int))
 | [], P, h => .inl h
 | j :: l, P, h => by
  rw [List.foldl_cons] at h
  rcases dueP_mem l _ h with h | ⟨k, h1, h2⟩
  ·split at h
   ·rename_i hc
    rcases putP_mem h with h | h
    ·exact .inl h
    ·exact .inr ⟨j, by simp, hc, h⟩
   ·exact .inl h
  ·exact .inr ⟨k, by simp [h1], h2⟩
theorem dueP_len {st kd un : List Int} {lt : List Bool} : ∀ (l : List Nat) (P : Prs), (l.foldl (fun P j => if st.getD j 0 ≠ 0 ∧ opTimed (kd.getD j 0) = true ∧ lt.getD j false = false then putP P (un.getD j 0, (j : Int)) else P) P).length ≤ P.length + l.length
 | [], P => by simp
 | j :: l, P => by
  rw [List.foldl_cons]
  have h1 := dueP_len (st := st) (kd := kd) (un := un) (lt := lt) l (if st.getD j 0 ≠ 0 ∧ opTimed (kd.getD j 0) = true ∧ lt.getD j false = false then putP P (un.getD j 0, (j : Int)) else P)
  have h2 : (if st.getD j 0 ≠ 0 ∧ opTimed (kd.getD j 0) = true ∧ lt.getD j false = false then putP P (un.getD j 0, (j : Int)) else P).length ≤ P.length + 1 := by
   split
   ·exact putP_len _ _
   ·omega
  simp only [List.length_cons]
  omega
def SR.dues (s : SR) : Prs := if s.ok then dueP s.st s.kd s.un s.lt s.nt 0 [] else []
theorem SR.duesA_P (s : SR) : s.duesA = pa s.dues := by unfold SR.duesA SR.dues; split <;> rfl
theorem SR.duesI_P (s : SR) : s.duesI = pi s.dues := by unfold SR.duesI SR.dues; split <;> rfl
theorem SR.dues_mem {s : SR} {q : Int × Int} (h : q ∈ s.dues) : ∃ j, j < s.nt ∧ (s.st.getD j 0 ≠ 0 ∧ opTimed (s.kd.getD j 0) = true ∧ s.lt.getD j false = false) ∧ q = (s.un.getD j 0, (j : Int)) := by
 unfold SR.dues dueP at h
 split at h
 ·rcases dueP_mem _ _ h with h | ⟨j, h1, h2⟩
  ·cases h
  ·exact ⟨j, by simpa using h1, h2⟩
 ·cases h
theorem SR.dues_len (s : SR) : s.duesA.length ≤ s.nt := by
 rw [SR.duesA_P, pa_len]
 unfold SR.dues dueP
 split
 ·have := dueP_len (st := s.st) (kd := s.kd) (un := s.un) (lt := s.lt) ((List.range s.nt).drop 0) []
  simpa using this
 ·simp
theorem SR.late_mem {s : SR} {t x : Int} (h : x ∈ lateL s.duesA s.duesI t) : ∃ j, j < s.nt ∧ (s.st.getD j 0 ≠ 0 ∧ opTimed (s.kd.getD j 0) = true ∧ s.lt.getD j false = false) ∧ s.un.getD j 0 ≤ t ∧ x = (j : Int) := by
 rw [SR.duesA_P, SR.duesI_P, lateL_P] at h
 unfold lateP at h
 split at h
 ·unfold pi at h
  obtain ⟨q, h1, h2⟩ := List.mem_map.1 h
  obtain ⟨h3, h4⟩ := List.mem_filter.1 h1
  obtain ⟨j, g1, g2, g3⟩ := SR.dues_mem h3
  subst g3
  exact ⟨j, g1, g2, by simpa using h4, h2.symm⟩
 ·cases h
theorem SR.late_ids (s : SR) (t : Int) : (lateL s.duesA s.duesI t).length ≤ s.nt ∧ inIds (lateL s.duesA s.duesI t) s.nt = true := by
 constructor
 ·have := s.dues_len
  rw [SR.duesA_P, pa_len] at this
  rw [SR.duesA_P, SR.duesI_P, lateL_P]
  unfold lateP
  split
  ·rw [pi_len]
   have := List.length_filter_le (fun p : Int × Int => decide (p.1 ≤ t)) s.dues
   omega
  ·simp
 ·unfold inIds
  rw [List.all_eq_true]
  intro x hx
  obtain ⟨j, g1, _, _, rfl⟩ := SR.late_mem hx
  simp only [decide_eq_true_eq]
  omega
def Ltick : Nat → Option LoopS := fun i => match i with
 | 1 => some (.summ spec_tick.summ)
 | _ => none
theorem ok_Ltick : ∀ i x, Ltick i = some x → LoopHyp Tryz.prog 79 i x := by
 intro i s h
 unfold Ltick at h
 split at h
 ·cases h; exact ⟨by kernel_rfl, loop_tick⟩
 ·cases h
def Ftick : Pure1 := fun
 | [a_s, .int .i64 n] => (match asSR a_s with | some s => some (some (SR.fit s), .tup [SR.new (SR.tick s n), .own 3 (lenI (SR.lateI s n)) [.int .i64 (SR.lateI s n)], .int .i64 (SR.tickE s n)]) | none => none)
 | _ => none
def zq146 (s : SR) (n : Int) : Nat :=
 lenI (lateL s.duesA s.duesI (iadd .i64 (s.wake (-1)).24 n))
theorem vc_tick (s : SR) (n : Int) (r : AV) : VC Tryz.prog (tabS tabT9) (oneL 79 Ltick) true 79 [s.av, .int .i64 n] r = (
 asrt s.fit (asrt s.fitW (br (bnot s.ok) (some (AV.tup [AV.agg (SR.nw (s.wake (-1))), AV.own 3 0 [.int .i64 []], AV.int .i64 20]) = some r) (br (bite (ilt n 0) true (igt n (isub .i64
 1099511627776 s.24))) (some (AV.tup [AV.agg (SR.nw (s.wake (-1))), AV.own 3 0 [.int .i64 []], AV.int .i64 50]) = some r) (asrt s.fit (asrt (nle (lenI s.duesA) 900000) (asrt (band
 { (s.wake (-1)) with now := iadd .i64 (s.wake (-1)).24 n }.fit (band (nle (zq146 s n) 1000000) (band (ieq (ofN (zq146 s n)) (ofN (zq146 s n))) (band (ile 0 (ofN (zq146 s n))) (inIds
 (lateL s.duesA s.duesI (iadd .i64 (s.wake (-1)).24 n)) (s.wake (-1)).25))))) (some (AV.tup [AV.agg (SR.nw ({ (s.wake (-1)) with now := iadd .i64 (s.wake (-1)).24 n }.lates (lateL
 s.duesA s.duesI (iadd .i64 (s.wake (-1)).24 n)) 0)), AV.own 3 (zq146 s n) [.int .i64 (lateL s.duesA s.duesI (iadd .i64 (s.wake (-1)).24 n))], AV.int .i64 0]) = some r)))))))) := by kernel_rfl
theorem ok_tick : PureOK Tryz.prog 79 Ftick := by
 refine tab_loops mixed (l := tabT9) ok_tabT9 true Ltick (by kernel_rfl) ok_Ltick fun xs b r h hb wf => ?_
 unfold Ftick at h
 split at h
 ·rename_i a_s n
  split at h
  ·rename_i s h_s
   obtain rfl := asSR_some h_s
   cases h
   try rw [some_f] at hb
   simp only [WFL, WF, List.mem_cons, List.not_mem_nil, or_false, forall_eq_or_imp, forall_eq, Col.len, and_true, true_and, wf_av] at wf
   rw [vc_tick]
   dsimp only [SR.nw, zq146]
   simp only [SR.wake_neg]
   have hw : s.fitW = true := by simp [SR.fitW_fit, hb]
   rw [hb, hw]
   simp only [asrt_tt]
   cases c1 : s.ok with
   | false =>
    have e1 : s.tickE n = 20 := by unfold SR.tickE; rw [c1]; rfl
    have e2 : s.tick n = s := by unfold SR.tick; rw [e1]; rfl
    have e3 : s.lateI n = [] := by unfold SR.lateI; rw [e1]; rfl
    rw [e1, e2, e3]
    rfl
   | true =>
    have nn : bnot true = false := rfl
    simp only [nn, br_ff]
    obtain ⟨k1, k2⟩ := (SR.ok_iff2 s).1 c1
    obtain ⟨n1, n2, n3⟩ := k1.2.2.2.2.2.2.2
    obtain ⟨f1, f2⟩ := (SR.fit_iff s).1 hb
    have hsub : isub .i64 1099511627776 s.now = 1099511627776 - s.now := by rw [isub_e, wr (by omega) (by omega)]
    by_cases c2 : n < 0 ∨ 1099511627776 - s.now < n
    ·have hc : bite (ilt n 0) true (igt n (isub .i64 1099511627776 s.now)) = true := by
      simp only [bite_t, igt_t, ilt_f, hsub]
      exact ⟨fun _ => trivial, fun h => by omega⟩
     have e1 : s.tickE n = 50 := by unfold SR.tickE; rw [if_pos c1, if_pos c2]
     have e2 : s.tick n = s := by unfold SR.tick; rw [e1]; rfl
     have e3 : s.lateI n = [] := by unfold SR.lateI; rw [e1]; rfl
     rw [hc, e1, e2, e3]
     rfl
    ·have hc : bite (ilt n 0) true (igt n (isub .i64 1099511627776 s.now)) = false := by
      simp only [bite_f, igt_f, ilt_t, hsub]
      exact ⟨fun h => by omega, fun _ => by omega⟩
     have ha : iadd .i64 s.now n = s.now + n := by rw [iadd_e, wr (by omega) (by omega)]
     have e1 : s.tickE n = 0 := by unfold SR.tickE; rw [if_pos c1, if_neg c2]
     have e3 : s.lateI n = lateL s.duesA s.duesI (s.now + n) := by unfold SR.lateI; rw [e1]; rfl
     have e2 : s.tick n = SR.lates { s with now := s.now + n } (lateL s.duesA s.duesI (s.now + n)) 0 := by unfold SR.tick; rw [e1, e3]; rfl
     have hl := s.dues_len
     have h16 : s.nt ≤ 16 := by have q1 := SR.ok_nt c1; have q2 := confE_th (SR.ok_conf c1); omega
     obtain ⟨hl2, hl3⟩ := s.late_ids (s.now + n)
     have hg1 : nle (lenI s.duesA) 900000 = true := by simp only [nle_t, lenI_e]; omega
     have hg2 : ∀ t : SR, t.fit = true → band t.fit (band (nle (lenI (lateL s.duesA s.duesI (s.now + n))) 1000000) (band (ieq (ofN (lenI (lateL s.duesA s.duesI (s.now + n)))) (ofN (lenI (lateL s.duesA s.duesI (s.now + n))))) (band (ile 0 (ofN (lenI (lateL s.duesA s.duesI (s.now + n))))) (inIds (lateL s.duesA s.duesI (s.now + n)) s.nt)))) = true := by
      intro t ht
      simp only [band_t, nle_t, ieq_t, ile_t, ofN_e, lenI_e]
      exact ⟨ht, by omega, trivial, by omega, hl3⟩
     simp only [hc, ha, br_ff, hg1, asrt_tt]
     rw [hg2 { s with now := s.now + n } hb, e1, e2, e3]
     rfl
  ·cases h
 ·cases h
def rnear (pc : Int) : Int := if pc = 3 then 3 else if pc = 4 then 2 else if pc = 6 then 1 else 0
def snear (pc : Int) : Int := if pc = 4 then 2 else if pc = 6 then 1 else 0
def wayN (sd own pc : Int) : Int :=
 if sd = 1 ∧ own = 2 ∧ rnear pc < 3 then rnear pc
 else if sd = 2 ∧ own = 1 ∧ snear pc < 2 then snear pc
 else if sd = 1 ∧ own = 3 then near1 pc
 else if sd = 2 ∧ own = 3 then near2 pc
 else 0
def SR.parkedB (s : SR) (id : Int) : Bool := s.is id && decide (s.st.getD id.toNat 0 = 2)
def SR.waitsB (s : SR) (id : Int) : Bool := s.parkedB id && decide (opSide (s.kd.getD id.toNat 0) = 1 ∧ s.accR = 2 ∨ opSide (s.kd.getD id.toNat 0) = 2 ∧ s.takR = 4)
def wayS (sd : Int) (st kd pc : List Int) (k : Nat) : Int := wayN sd (opSide (kd.getD k 0)) (pc.getD k 0)
def wakeB (sd : Int) (st kd pc : List Int) (k : Nat) : Bool := decide (thRuns (st.getD k 0) = 0 ∧ 0 < wayS sd st kd pc k)
def wakL (n : Nat) (sd : Int) (st kd pc : List Int) (out : List Int) (i : Nat) : List Int := out ++ (((List.range n).drop i).filter (wakeB sd st kd pc)).map Int.ofNat
def SR.wakersL (s : SR) (id : Int) : List Int := if s.parkedB id then wakL s.nt (opSide (s.kd.getD id.toNat 0)) s.st s.kd s.pc [] 0 else []
def Frnear : Pure1 := fun
 | [.int .i64 pc] => some (none, .int .i64 (rnear pc))
 | _ => none
theorem vc_rnear (pc : Int) (r : AV) : VC Tryz.prog (tabS tab0) noL false 105 [.int .i64 pc] r = (
 some (AV.int .i64 (mI (mkey (mkey (mkey [] 3) 4) 6) (mput (mkey (mkey [] 3) 4) (mput (mkey [] 3) (mput [] [] 3 3) 4 2) 6 1) pc)) = some r) := by kernel_rfl
theorem ok_rnear : PureOK Tryz.prog 105 Frnear := by
 refine tab_plain mixed (l := tab0) ok_tab0 false (by kernel_rfl) fun xs b r h hb wf => ?_
 unfold Frnear at h
 split at h
 ·rename_i pc
  cases h
  try rw [some_f] at hb
  try simp only [WFL, WF, List.mem_cons, List.not_mem_nil, or_false, forall_eq_or_imp, forall_eq, Col.len, and_true, true_and] at wf
  rw [vc_rnear]
  by_cases c1 : pc = 3
  ·subst c1; rfl
  ·by_cases c2 : pc = 4
   ·subst c2; rfl
   ·by_cases c3 : pc = 6
    ·subst c3; rfl
    ·have e : rnear pc = 0 := by unfold rnear; rw [if_neg c1, if_neg c2, if_neg c3]
     rw [e]
     show some (AV.int .i64 (mI [3, 4, 6] [3, 2, 1] pc)) = _
     have a3 : List.idxOf pc [3, 4, 6] = 3 := by
      have b1 : ((3 : Int) == pc) = false := by simpa using Ne.symm c1
      have b2 : ((4 : Int) == pc) = false := by simpa using Ne.symm c2
      have b3 : ((6 : Int) == pc) = false := by simpa using Ne.symm c3
      simp [List.idxOf_cons, b1, b2, b3]
     unfold mI
     rw [a3]
     rfl
 ·cases h
def Fsnear : Pure1 := fun
 | [.int .i64 pc] => some (none, .int .i64 (snear pc))
 | _ => none
theorem vc_snear (pc : Int) (r : AV) : VC Tryz.prog (tabS tab0) noL false 106 [.int .i64 pc] r = (
 br (ieq pc 4) (some (AV.int .i64 2) = some r) (br (ieq pc 6) (some (AV.int .i64 1) = some r) (some (AV.int .i64 0) = some r))) := by kernel_rfl
theorem ok_snear : PureOK Tryz.prog 106 Fsnear := by
 refine tab_plain mixed (l := tab0) ok_tab0 false (by kernel_rfl) fun xs b r h hb wf => ?_
 unfold Fsnear at h
 split at h
 ·rename_i pc
  cases h
  try rw [some_f] at hb
  try simp only [WFL, WF, List.mem_cons, List.not_mem_nil, or_false, forall_eq_or_imp, forall_eq, Col.len, and_true, true_and] at wf
  rw [vc_snear]
  unfold snear
  by_cases c1 : pc = 4
  ·simp [owl, c1]
  ·by_cases c2 : pc = 6 <;> simp [owl, c1, c2]
 ·cases h
def tabSa : List (FuncId × Pure1) := [(105, Frnear), (106, Fsnear), (104, Fnear)] ++ tabX0
theorem ok_tabSa : ∀ p ∈ tabSa, PureOK Tryz.prog p.1 p.2 := by
 intro p hp
 simp only [tabSa, List.mem_append, List.mem_cons, List.not_mem_nil, or_false] at hp
 rcases hp with (rfl | rfl | rfl) | hp
 ·exact ok_rnear
 ·exact ok_snear
 ·exact ok_near
 ·exact ok_tabX0 p hp
def FparkedB : Pure1 := fun
 | [a_s, .int .i64 id] => (match asSR a_s with | some s => some (some (SR.fit s), .bool (SR.parkedB s id)) | none => none)
 | _ => none
theorem vc_parkedB (s : SR) (id : Int) (r : AV) : VC Tryz.prog (tabS tabSa) noL false 28 [s.av, .int .i64 id] r = (
 asrt s.fitW (asrt (bimp (bite (bite s.ok (ige id 0) false) (ilt id (ofN s.25)) false) (band (ile 0 id) (ilt id (ofN s.25)))) (some (AV.bool (bite (bite (bite s.ok (ige id 0) false)
 (ilt id (ofN s.25)) false) (ieq (gI s.26 (nOf id)) 2) false)) = some r))) := by kernel_rfl
theorem ok_parkedB : PureOK Tryz.prog 28 FparkedB := by
 refine tab_plain mixed (l := tabSa) ok_tabSa false (by kernel_rfl) fun xs b r h hb wf => ?_
 unfold FparkedB at h
 split at h
 ·rename_i a_s id
  split at h
  ·rename_i s h_s
   obtain rfl := asSR_some h_s
   cases h
   try rw [some_f] at hb
   simp only [WFL, WF, List.mem_cons, List.not_mem_nil, or_false, forall_eq_or_imp, forall_eq, Col.len, and_true, true_and, wf_av] at wf
   rw [vc_parkedB]
   simp only [bite_and]
   have hw : s.fitW = true := by simp [SR.fitW_fit, hb]
   rw [hw]
   have e : s.parkedB id = (s.ok && ige id 0 && ilt id (ofN s.nt) && ieq (gI s.st (nOf id)) 2) := by
    unfold SR.parkedB SR.is
    rw [Bool.eq_iff_iff]
    simp [owl, and_assoc]
   rw [e]
   simp only [asrt_tt, asrt_iff, bimp_t, band_t, Bool.and_eq_true, ige_t, ilt_t, ile_t, ofN_e]
   simp only [and_true, and_imp]
   exact ⟨trivial, fun _ h1 h2 => ⟨h1, h2⟩⟩
  ·cases h
 ·cases h
def tabSb : List (FuncId × Pure1) := [(28, FparkedB)] ++ tabSa
theorem ok_tabSb : ∀ p ∈ tabSb, PureOK Tryz.prog p.1 p.2 := by
 intro p hp
 simp only [tabSb, List.mem_append, List.mem_cons, List.not_mem_nil, or_false] at hp
 rcases hp with (rfl) | hp
 ·exact ok_parkedB
 ·exact ok_tabSa p hp
def FwaitsB : Pure1 := fun
 | [a_s, .int .i64 id] => (match asSR a_s with | some s => some (some (SR.fit s), .bool (SR.waitsB s id)) | none => none)
 | _ => none
theorem vc_waitsB (s : SR) (id : Int) (r : AV) : VC Tryz.prog (tabS tabSb) noL false 29 [s.av, .int .i64 id] r = (
 asrt s.fit (br (bnot (s.parkedB id)) (some (AV.bool false) = some r) (asrt (in64 s.8 s.9) (asrt (band (ile 0 id) (ilt id (ofN s.25))) (br (ieq (opSide (gI s.27 (nOf id))) 1) (some
 (AV.bool (ieq (accR s.8 s.9 s.10 (ofN s.11)) 2)) = some r) (br (ieq (opSide (gI s.27 (nOf id))) 2) (some (AV.bool (ieq (takR s.8 s.9 s.10 (ofN s.11)) 4)) = some r) (some (AV.bool
 false) = some r))))))) := by kernel_rfl
theorem ok_waitsB : PureOK Tryz.prog 29 FwaitsB := by
 refine tab_plain mixed (l := tabSb) ok_tabSb false (by kernel_rfl) fun xs b r h hb wf => ?_
 unfold FwaitsB at h
 split at h
 ·rename_i a_s id
  split at h
  ·rename_i s h_s
   obtain rfl := asSR_some h_s
   cases h
   try rw [some_f] at hb
   simp only [WFL, WF, List.mem_cons, List.not_mem_nil, or_false, forall_eq_or_imp, forall_eq, Col.len, and_true, true_and, wf_av] at wf
   rw [vc_waitsB]
   rw [hb]
   obtain ⟨hi, _⟩ := (SR.fit_iff s).1 hb
   rw [hi]
   simp only [asrt_tt]
   cases c : s.parkedB id with
   | false =>
    have e : s.waitsB id = false := by unfold SR.waitsB; rw [c]; rfl
    rw [e]
    rfl
   | true =>
    have hc := c
    simp only [SR.parkedB, SR.is, Bool.and_eq_true, decide_eq_true_eq] at hc
    have b1 : band (ile 0 id) (ilt id (ofN s.nt)) = true := by simp only [band_t, ile_t, ilt_t, ofN_e]; exact hc.1.2
    have nn : bnot true = false := rfl
    have e : s.waitsB id = decide (opSide (s.kd.getD id.toNat 0) = 1 ∧ s.accR = 2 ∨ opSide (s.kd.getD id.toNat 0) = 2 ∧ s.takR = 4) := by
     unfold SR.waitsB
     rw [c]
     rfl
    have ha : accR s.hd s.tl s.md (ofN s.ns) = s.accR := rfl
    have hb : takR s.hd s.tl s.md (ofN s.ns) = s.takR := rfl
    have hk : gI s.kd (nOf id) = s.kd.getD id.toNat 0 := rfl
    rw [e, ha, hb, hk, b1]
    simp only [nn, br_ff, asrt_tt]
    by_cases c1 : opSide (s.kd.getD id.toNat 0) = 1
    ·simp only [c1, ieq_d, decide_true, br_tt, true_and, Int.reduceEq, false_and, or_false]
    ·by_cases c2 : opSide (s.kd.getD id.toNat 0) = 2
     ·simp only [c2, ieq_d, decide_true, decide_false, br_tt, br_ff, true_and, Int.reduceEq, false_and, false_or]
     ·simp only [c1, c2, ieq_d, decide_false, br_ff, false_and, false_or]
  ·cases h
 ·cases h
theorem wakL_step {n : Nat} {sd : Int} {st kd pc out : List Int} {i : Nat} (h : i < n) : wakL n sd st kd pc out i = wakL n sd st kd pc (if wakeB sd st kd pc i then out ++ [(i : Int)] else out) (i + 1) := by
 unfold wakL
 rw [List.drop_eq_getElem_cons (by simpa using h)]
 simp only [List.getElem_range, List.filter_cons]
 cases wakeB sd st kd pc i <;> simp
theorem wakL_end {n : Nat} {sd : Int} {st kd pc out : List Int} {i : Nat} (h : n ≤ i) : wakL n sd st kd pc out i = out := by
 unfold wakL
 rw [List.drop_eq_nil_of_le (by simpa using h)]
 simp
def spec_each : LoopSpec := { n := 49, keep := [2, 3, 6, 24, 25], srcs := [.tmp 2, .cell 0 0, .tmp 3, .tmp 6, .cell 3 0], keepE := [], srcsE := [.tmp 2, .cell 0 0], goes := fun vals objs Q => match vals, objs with
 | [.fn (.func 59) [] [.ptr 0 0 0], .ptr 2 0 0, .ptr 3 0 0, .int .i64 m, .int .i64 i], [some (.var [.full 1]), some (.row 3 k [.int .i64 out]), some (.var c_s), some (.var [.fn (.func 103) [] [.ptr 4 0 0]]), some (.var [.int .i64 sd])] => (match asSR (.agg c_s) with | some s => asrt (band (nle s.nt 1000000) (band (ieq m (ofN s.nt)) (band (ile 0 i) (band (ile i (ofN s.nt)) (nle k (nOf i)))))) (Q (.exit 0) [] [some (.var [.full 1]), some (.row 3 (lenI (wakL s.nt sd s.st s.kd s.pc out (nOf i))) [.int .i64 (wakL s.nt sd s.st s.kd s.pc out (nOf i))])]) | none => False)
 | _, _ => False }
def zq147 (k : Nat) (out : List Int) (s : SR) (sd : Int) : Heap :=
 [some (AObj.var [AV.full 1]), some (AObj.row 3 k [.int .i64 out]), some (AObj.var (SR.cells s)), some (AObj.var [AV.fn (Fn.func 103) [] [AV.ptr 4 0 0]]), some (AObj.var [AV.int .i64
 sd])]
def zq148 (m : Int) (i : Int) : List AV :=
 [AV.fn (Fn.func 59) [] [AV.ptr 0 0 0], AV.ptr 2 0 0, AV.ptr 3 0 0, AV.int .i64 m, AV.int .i64 (iadd .i64 i 1)]
def zq149 (m : Int) (i : Int) : List AV :=
 [AV.fn (Fn.func 59) [] [AV.ptr 0 0 0], AV.ptr 2 0 0, AV.ptr 3 0 0, AV.int .i64 m, AV.int .i64 i]
def zq150 (k : Nat) (out : List Int) (s : SR) (sd : Int) (i : Int) : Heap :=
 [some (AObj.var [AV.full 1]), some (AObj.row 3 (nAdd k 1) [.int .i64 (cat out [i])]), some (AObj.var (SR.cells s)), some (AObj.var [AV.fn (Fn.func 103) [] [AV.ptr 4 0 0]]), some
 (AObj.var [AV.int .i64 sd])]
def zq151 (out : List Int) (s : SR) (sd : Int) (i : Int) : Heap :=
 [some (AObj.var [AV.full 1]), some (AObj.row 3 (lenI (wakL s.25 sd s.26 s.27 s.30 (cat out [i]) (nOf (iadd .i64 i 1)))) [.int .i64 (wakL s.25 sd s.26 s.27 s.30 (cat out [i]) (nOf
 (iadd .i64 i 1)))])]
def zq152 (out : List Int) (s : SR) (sd : Int) (i : Int) : Heap :=
 [some (AObj.var [AV.full 1]), some (AObj.row 3 (lenI (wakL s.25 sd s.26 s.27 s.30 out (nOf (iadd .i64 i 1)))) [.int .i64 (wakL s.25 sd s.26 s.27 s.30 out (nOf (iadd .i64 i 1)))])]
def zq153 (k : Nat) (s : SR) (m : Int) (i : Int) : Bool :=
 band (nle s.25 1000000) (band (ieq m (ofN s.25)) (band (ile 0 (iadd .i64 i 1)) (band (ile (iadd .i64 i 1) (ofN s.25)) (nle (nAdd k 1) (nOf (iadd .i64 i 1))))))
def zq154 (k : Nat) (s : SR) (m : Int) (i : Int) : Bool :=
 band (nle s.25 1000000) (band (ieq m (ofN s.25)) (band (ile 0 (iadd .i64 i 1)) (band (ile (iadd .i64 i 1) (ofN s.25)) (nle k (nOf (iadd .i64 i 1))))))
def zq155 (s : SR) (i : Int) : Bool :=
 ieq (thRuns (gI s.26 (nOf i))) 0
theorem lp_each (k : Nat) (out : List Int) (s : SR) (sd : Int) (m i : Int) (mu : List AV → Heap → Nat) (Q : Ex → List AV → Heap → Prop) : runCode Tryz.prog (tabS tabSb) (callN Tryz.prog (tabS tabSb) noL 11) (fun _ => none) (bodyOf Tryz.prog 58 0) 0 ⟨mkT (spec_each).keep [.fn (.func 59) [] [.ptr 0 0 0], .ptr 2 0 0, .ptr 3 0 0, .int .i64 m, .int .i64 i] (spec_each).n 0, [some (.var [.full 1]), some (.row 3 k [.int .i64 out]), some (.var s.cells), some (.var [.fn (.func 103) [] [.ptr 4 0 0]]), some (.var [.int .i64 sd])]⟩ ((spec_each).endsA mu [.fn (.func 59) [] [.ptr 0 0 0], .ptr 2 0 0, .ptr 3 0 0, .int .i64 m, .int .i64 i] ([some (.var [.full 1]), some (.row 3 k [.int .i64 out]), some (.var s.cells), some (.var [.fn (.func 103) [] [.ptr 4 0 0]]), some (.var [.int .i64 sd])]) Q) = (
 br (ilt i m) (asrt (band (ile 0 i) (ilt i (ofN s.25))) (br (bite (bite (ieq sd 1) (ieq (opSide (gI s.27 (nOf i))) 2) false) (ilt (rnear (gI s.30 (nOf i))) 3) false) (br (bite (zq155
 s i) (igt (rnear (gI s.30 (nOf i))) 0) false) (asrt (nle (nAdd k 1) 17592186044416) ((mu (zq148 m i) (zq150 k out s sd i)).succ.le (mu (zq149 m i) (zq147 k out s sd)) ∧ asrt (zq153
 k s m i) (Q (Ex.exit 0) [] (zq151 out s sd i)))) ((mu (zq148 m i) (zq147 k out s sd)).succ.le (mu (zq149 m i) (zq147 k out s sd)) ∧ asrt (zq154 k s m i) (Q (Ex.exit 0) [] (zq152 out
 s sd i)))) (br (bite (bite (ieq sd 2) (ieq (opSide (gI s.27 (nOf i))) 1) false) (ilt (snear (gI s.30 (nOf i))) 2) false) (br (bite (zq155 s i) (igt (snear (gI s.30 (nOf i))) 0)
 false) (asrt (nle (nAdd k 1) 17592186044416) ((mu (zq148 m i) (zq150 k out s sd i)).succ.le (mu (zq149 m i) (zq147 k out s sd)) ∧ asrt (zq153 k s m i) (Q (Ex.exit 0) [] (zq151 out s
 sd i)))) ((mu (zq148 m i) (zq147 k out s sd)).succ.le (mu (zq149 m i) (zq147 k out s sd)) ∧ asrt (zq154 k s m i) (Q (Ex.exit 0) [] (zq152 out s sd i)))) (br (bite (ieq sd 1) (ieq
 (opSide (gI s.27 (nOf i))) 3) false) (br (bite (zq155 s i) (igt (near1 (gI s.30 (nOf i))) 0) false) (asrt (nle (nAdd k 1) 17592186044416) ((mu (zq148 m i) (zq150 k out s sd
 i)).succ.le (mu (zq149 m i) (zq147 k out s sd)) ∧ asrt (zq153 k s m i) (Q (Ex.exit 0) [] (zq151 out s sd i)))) ((mu (zq148 m i) (zq147 k out s sd)).succ.le (mu (zq149 m i) (zq147 k
 out s sd)) ∧ asrt (zq154 k s m i) (Q (Ex.exit 0) [] (zq152 out s sd i)))) (br (bite (ieq sd 2) (ieq (opSide (gI s.27 (nOf i))) 3) false) (br (bite (zq155 s i) (igt (near2 (gI s.30
 (nOf i))) 0) false) (asrt (nle (nAdd k 1) 17592186044416) ((mu (zq148 m i) (zq150 k out s sd i)).succ.le (mu (zq149 m i) (zq147 k out s sd)) ∧ asrt (zq153 k s m i) (Q (Ex.exit 0) []
 (zq151 out s sd i)))) ((mu (zq148 m i) (zq147 k out s sd)).succ.le (mu (zq149 m i) (zq147 k out s sd)) ∧ asrt (zq154 k s m i) (Q (Ex.exit 0) [] (zq152 out s sd i)))) (br (bite
 (zq155 s i) false false) (asrt (nle (nAdd k 1) 17592186044416) ((mu (zq148 m i) (zq150 k out s sd i)).succ.le (mu (zq149 m i) (zq147 k out s sd)) ∧ asrt (zq153 k s m i) (Q (Ex.exit
 0) [] (zq151 out s sd i)))) ((mu (zq148 m i) (zq147 k out s sd)).succ.le (mu (zq149 m i) (zq147 k out s sd)) ∧ asrt (zq154 k s m i) (Q (Ex.exit 0) [] (zq152 out s sd i))))))))) (Q
 (Ex.exit 0) [] [some (AObj.var [AV.full 1]), some (AObj.row 3 k [.int .i64 out])])) := by kernel_rfl
theorem loop_each : LoopFr Tryz.prog (bodyOf Tryz.prog 58 0) spec_each.framed := by
 refine tab_loopA mixed (l := tabSb) ok_tabSb (i := 0) spec_each (fun vals objs => match vals, objs with
  | [.fn (.func 59) [] [.ptr 0 0 0], .ptr 2 0 0, .ptr 3 0 0, .int .i64 m, .int .i64 i], [some (.var [.full 1]), some (.row 3 k [.int .i64 out]), some (.var c_s), some (.var [.fn (.func 103) [] [.ptr 4 0 0]]), some (.var [.int .i64 sd])] => (m - i).toNat
  | _, _ => 0) fun vals objs Q h1 h2 wf wo hg => ?_
 unfold spec_each at hg
 simp only at hg
 split at hg
 ·rename_i m i k out c_s sd
  clear h1 h2
  have h_s := asSR_cases hg
  obtain ⟨s, h_s⟩ := h_s
  obtain rfl := cells_of h_s
  rw [h_s] at hg
  simp only at hg
  try simp only [WFL, WF, List.mem_cons, List.not_mem_nil, or_false, forall_eq_or_imp, forall_eq, Col.len, and_true, true_and] at wf
  rw [lp_each]
  dsimp only [zq147, zq148, zq149, zq150, zq151, zq152, zq153, zq154, zq155]
  have wl : out.length = k := by simpa [WFO, Col.len] using wo (some (.row 3 k [.int .i64 out])) (by simp) _ rfl
  simp only [asrt_iff, band_t, nle_t, ieq_t, ile_t, ofN_e] at hg
  obtain ⟨⟨hn, rfl, h0, hi, hk⟩, hg⟩ := hg
  obtain ⟨j, rfl⟩ := Int.eq_ofNat_of_zero_le h0
  have hw : IntKind.i64.wrap ((j : Int) + 1) = (j : Int) + 1 := wr (by omega) (by omega)
  have e2 : ((j : Int) + 1).toNat = j + 1 := by omega
  have e3 : (j : Int).toNat = j := by omega
  have e4 : nOf (iadd .i64 (j : Int) 1) = j + 1 := by rw [iadd_e, hw, nOf_e, e2]
  have e6 : nOf (j : Int) = j := by rw [nOf_e, e3]
  rw [e6] at hk hg
  rw [br_iff, ilt_t, ilt_f]
  refine ⟨fun hj => ?_, fun hj => ?_⟩
  ·have hj' : j < s.nt := by omega
   rw [wakL_step hj'] at hg
   rw [asrt_iff]
   refine ⟨by simp only [band_t, ile_t, ilt_t, ofN_e]; omega, ?_⟩
   simp only [e6, e4]
   have g1 : gI s.kd j = s.kd.getD j 0 := rfl
   have g2 : gI s.pc j = s.pc.getD j 0 := rfl
   have g3 : gI s.st j = s.st.getD j 0 := rfl
   simp only [g1, g2, g3]
   simp only [br_iff, asrt_iff]
   have hb0 : band (nle s.nt 1000000) (band (ieq (s.nt : Int) (ofN s.nt)) (band (ile 0 (iadd .i64 (j : Int) 1)) (band (ile (iadd .i64 (j : Int) 1) (ofN s.nt)) (nle k (j + 1))))) = true := by
    simp only [band_t, nle_t, ieq_t, ile_t, ofN_e, iadd_e, hw]
    refine ⟨hn, trivial, by omega, by omega, by omega⟩
   have hb1 : band (nle s.nt 1000000) (band (ieq (s.nt : Int) (ofN s.nt)) (band (ile 0 (iadd .i64 (j : Int) 1)) (band (ile (iadd .i64 (j : Int) 1) (ofN s.nt)) (nle (nAdd k 1) (j + 1))))) = true := by
    simp only [band_t, nle_t, ieq_t, ile_t, ofN_e, iadd_e, hw, nAdd_e]
    refine ⟨hn, trivial, by omega, by omega, by omega⟩
   have hb2 : nle (nAdd k 1) 17592186044416 = true := by simp only [nle_t, nAdd_e]; omega
   have hmu : ((s.nt : Int) - iadd .i64 (j : Int) 1).toNat.succ.le ((s.nt : Int) - (j : Int)).toNat := by
    rw [iadd_e, hw]
    exact Nat.succ_le_of_lt (by omega)
   simp only [hb0, hb1, hb2, true_and]
   simp only [bite_and, Bool.and_eq_true, Bool.and_eq_false_iff, ieq_t, ieq_f, ilt_t, ilt_f, igt_t, igt_f, hmu, true_and]
   have q1 : wakeB sd s.st s.kd s.pc j = true → ∀ T : AV → Prop, T (.int .i64 0) → True := fun _ _ _ => trivial
   have r1 : wakeB sd s.st s.kd s.pc j = true → Q (.exit 0) [] [some (.var [.full 1]), some (.row 3 (lenI (wakL s.nt sd s.st s.kd s.pc (cat out [(j : Int)]) (j + 1))) [.int .i64 (wakL s.nt sd s.st s.kd s.pc (cat out [(j : Int)]) (j + 1))])] := by
    intro h
    rw [if_pos h] at hg
    exact hg
   have r0 : wakeB sd s.st s.kd s.pc j = false → Q (.exit 0) [] [some (.var [.full 1]), some (.row 3 (lenI (wakL s.nt sd s.st s.kd s.pc out (j + 1))) [.int .i64 (wakL s.nt sd s.st s.kd s.pc out (j + 1))])] := by
    intro h
    rw [if_neg (by rw [h]; simp)] at hg
    exact hg
   clear hg
   generalize Q (.exit 0) [] [some (.var [.full 1]), some (.row 3 (lenI (wakL s.nt sd s.st s.kd s.pc (cat out [(j : Int)]) (j + 1))) [.int .i64 (wakL s.nt sd s.st s.kd s.pc (cat out [(j : Int)]) (j + 1))])] = A at r1 ⊢
   generalize Q (.exit 0) [] [some (.var [.full 1]), some (.row 3 (lenI (wakL s.nt sd s.st s.kd s.pc out (j + 1))) [.int .i64 (wakL s.nt sd s.st s.kd s.pc out (j + 1))])] = B at r0 ⊢
   have hd : (wakeB sd s.st s.kd s.pc j = true) = (thRuns (s.st.getD j 0) = 0 ∧ 0 < wayN sd (opSide (s.kd.getD j 0)) (s.pc.getD j 0)) := by
    unfold wakeB wayS
    simp only [decide_eq_true_eq]
   have hd0 : (wakeB sd s.st s.kd s.pc j = false) = ¬ (thRuns (s.st.getD j 0) = 0 ∧ 0 < wayN sd (opSide (s.kd.getD j 0)) (s.pc.getD j 0)) := by
    unfold wakeB wayS
    simp only [decide_eq_false_iff_not]
   rw [hd] at r1
   rw [hd0] at r0
   clear q1 hd hd0 hb0 hb1 hb2 hmu g1 g2 g3
   unfold wayN at r1 r0
   generalize thRuns (s.st.getD j 0) = u at *
   generalize opSide (s.kd.getD j 0) = ow at *
   generalize rnear (s.pc.getD j 0) = w1 at *
   generalize snear (s.pc.getD j 0) = w2 at *
   generalize near1 (s.pc.getD j 0) = w3 at *
   generalize near2 (s.pc.getD j 0) = w4 at *
   clear h0 hi hj hj' hn wo hk hw e2 e3 e4 e6 wl h_s
   by_cases p1 : sd = 1 ∧ ow = 2 ∧ w1 < 3
   ·rw [if_pos p1] at r1 r0
    grind
   ·rw [if_neg p1] at r1 r0
    by_cases p2 : sd = 2 ∧ ow = 1 ∧ w2 < 2
    ·rw [if_pos p2] at r1 r0
     grind
    ·rw [if_neg p2] at r1 r0
     by_cases p3 : sd = 1 ∧ ow = 3
     ·rw [if_pos p3] at r1 r0
      grind
     ·rw [if_neg p3] at r1 r0
      by_cases p4 : sd = 2 ∧ ow = 3
      ·rw [if_pos p4] at r1 r0
       grind
      ·rw [if_neg p4] at r1 r0
       grind
  ·have hj' : s.nt ≤ j := by omega
   rw [wakL_end hj', lenI_e, wl] at hg
   exact hg
 ·exact hg.elim
def Leach : Nat → Option LoopS := fun i => match i with
 | 0 => some (.frame spec_each.framed)
 | _ => none
theorem ok_Leach : ∀ i x, Leach i = some x → LoopHyp Tryz.prog 58 i x := by
 intro i s h
 unfold Leach at h
 split at h
 ·cases h; exact ⟨by kernel_rfl, loop_each⟩
 ·cases h
def Fwakers : Pure1 := fun
 | [a_s, .int .i64 id] => (match asSR a_s with | some s => some (some (SR.fit s), .own 3 (lenI (SR.wakersL s id)) [.int .i64 (SR.wakersL s id)]) | none => none)
 | _ => none
theorem vc_wakers (s : SR) (id : Int) (r : AV) : VC Tryz.prog (tabS tabSb) (oneL 58 Leach) true 30 [s.av, .int .i64 id] r = (
 asrt s.fit (br (bnot (s.parkedB id)) (some (AV.own 3 0 [.int .i64 []]) = some r) (asrt (band (ile 0 id) (ilt id (ofN s.25))) (asrt (band (nle s.25 1000000) (band (ieq (ofN s.25)
 (ofN s.25)) (band (ile 0 (ofN s.25)) true))) (some (AV.own 3 (lenI (wakL s.25 (opSide (gI s.27 (nOf id))) s.26 s.27 s.30 [] 0)) [.int .i64 (wakL s.25 (opSide (gI s.27 (nOf id)))
 s.26 s.27 s.30 [] 0)]) = some r))))) := by kernel_rfl
theorem ok_wakers : PureOK Tryz.prog 30 Fwakers := by
 refine tab_loopsAt mixed (l := tabSb) ok_tabSb true 58 Leach (by kernel_rfl) ok_Leach fun xs b r h hb wf => ?_
 unfold Fwakers at h
 split at h
 ·rename_i a_s id
  split at h
  ·rename_i s h_s
   obtain rfl := asSR_some h_s
   cases h
   try rw [some_f] at hb
   simp only [WFL, WF, List.mem_cons, List.not_mem_nil, or_false, forall_eq_or_imp, forall_eq, Col.len, and_true, true_and, wf_av] at wf
   rw [vc_wakers]
   rw [hb, asrt_tt]
   cases c : s.parkedB id with
   | false =>
    have e : s.wakersL id = [] := by unfold SR.wakersL; rw [c]; rfl
    rw [e]
    rfl
   | true =>
    have hc := c
    simp only [SR.parkedB, SR.is, Bool.and_eq_true, decide_eq_true_eq] at hc
    have b1 : band (ile 0 id) (ilt id (ofN s.nt)) = true := by simp only [band_t, ile_t, ilt_t, ofN_e]; exact hc.1.2
    have e : s.wakersL id = wakL s.nt (opSide (s.kd.getD id.toNat 0)) s.st s.kd s.pc [] 0 := by unfold SR.wakersL; rw [c]; rfl
    have hn := ((SR.fit_iff s).1 hb).2.2.2.2.2.2.1
    have b2 : band (nle s.nt 1000000) (band (ieq (ofN s.nt) (ofN s.nt)) (band (ile 0 (ofN s.nt)) true)) = true := by
     simp only [band_t, nle_t, ieq_t, ile_t, ofN_e, and_true]
     exact ⟨hn, trivial, by omega⟩
    rw [e, b1, b2]
    rfl
  ·cases h
 ·cases h
def SR.calm (s : SR) (i : Nat) : Bool := !(s.parkedB i && !s.waitsB i && decide ((s.wakersL i).length = 0))
def SR.safeFrom (s : SR) (i : Nat) : Bool := ((List.range s.nt).drop i).all s.calm
def tabSc : List (FuncId × Pure1) := [(29, FwaitsB), (30, Fwakers)] ++ tabSb
theorem ok_tabSc : ∀ p ∈ tabSc, PureOK Tryz.prog p.1 p.2 := by
 intro p hp
 simp only [tabSc, List.mem_append, List.mem_cons, List.not_mem_nil, or_false] at hp
 rcases hp with (rfl | rfl) | hp
 ·exact ok_waitsB
 ·exact ok_wakers
 ·exact ok_tabSb p hp
def spec_safe : LoopSpec := { n := 27, keep := [1, 6, 7], srcs := [.tmp 1], keepE := [2], srcsE := [], goes := fun vals objs Q => match vals, objs with
 | [.ptr 0 0 0, .int .i64 m, .int .i64 i], [some (.var c_s)] => (match asSR (.agg c_s) with | some s => asrt (band (SR.fit s) (band (ieq m (ofN s.nt)) (band (ile 0 i) (ile i (ofN s.nt))))) (br (SR.safeFrom s (nOf i)) (Q (.exit 0) [.top] []) (Q .ret [.bool false] [])) | none => False)
 | _, _ => False }
def zq156 (s : SR) (m : Int) (i : Int) : Bool :=
 band s.fit (band (ieq m (ofN s.25)) (band (ile 0 (iadd .i64 i 1)) (ile (iadd .i64 i 1) (ofN s.25))))
def zq157 (m : Int) (i : Int) : List AV :=
 [AV.ptr 0 0 0, AV.int .i64 m, AV.int .i64 (iadd .i64 i 1)]
theorem lp_safe (s : SR) (m i : Int) (mu : List AV → Heap → Nat) (Q : Ex → List AV → Heap → Prop) : runCode Tryz.prog (tabS tabSc) (callN Tryz.prog (tabS tabSc) noL 11) (fun _ => none) (bodyOf Tryz.prog 11 0) 0 ⟨mkT (spec_safe).keep [.ptr 0 0 0, .int .i64 m, .int .i64 i] (spec_safe).n 0, [some (.var s.cells)]⟩ ((spec_safe).ends mu [.ptr 0 0 0, .int .i64 m, .int .i64 i] ([some (.var s.cells)]) Q) = (
 br (ilt i m) (asrt s.fit (asrt (bimp (s.parkedB i) s.fit) (br (bite (s.parkedB i) (bnot (s.waitsB i)) false) (asrt s.fit (br (ieq (ofN (lenI (s.wakersL i))) 0) (Q Ex.ret [AV.bool
 false] []) ((mu (zq157 m i) [some (AObj.var (SR.cells s))]).succ.le (mu [AV.ptr 0 0 0, AV.int .i64 m, AV.int .i64 i] [some (AObj.var (SR.cells s))]) ∧ asrt (zq156 s m i) (br
 (s.safeFrom (nOf (iadd .i64 i 1))) (Q (Ex.exit 0) [AV.top] []) (Q Ex.ret [AV.bool false] []))))) ((mu (zq157 m i) [some (AObj.var (SR.cells s))]).succ.le (mu [AV.ptr 0 0 0, AV.int
 .i64 m, AV.int .i64 i] [some (AObj.var (SR.cells s))]) ∧ asrt (zq156 s m i) (br (s.safeFrom (nOf (iadd .i64 i 1))) (Q (Ex.exit 0) [AV.top] []) (Q Ex.ret [AV.bool false] [])))))) (Q
 (Ex.exit 0) [AV.top] [])) := by kernel_rfl
theorem loop_safe : LoopOK Tryz.prog (bodyOf Tryz.prog 11 0) spec_safe.summ := by
 refine tab_loop mixed (l := tabSc) ok_tabSc (i := 0) spec_safe (fun vals objs => match vals, objs with
  | [.ptr 0 0 0, .int .i64 m, .int .i64 i], [some (.var c_s)] => (m - i).toNat
  | _, _ => 0) fun vals objs Q h1 h2 wf wo hg => ?_
 unfold spec_safe at hg
 simp only at hg
 split at hg
 ·rename_i m i c_s
  clear h1 h2
  have h_s := asSR_cases hg
  obtain ⟨s, h_s⟩ := h_s
  obtain rfl := cells_of h_s
  rw [h_s] at hg
  simp only at hg
  try simp only [WFL, WF, List.mem_cons, List.not_mem_nil, or_false, forall_eq_or_imp, forall_eq, Col.len, and_true, true_and] at wf
  rw [lp_safe]
  dsimp only [zq156, zq157]
  simp only [asrt_iff, band_t, ieq_t, ile_t, ofN_e] at hg
  obtain ⟨⟨hf, rfl, h0, hi⟩, hg⟩ := hg
  obtain ⟨j, rfl⟩ := Int.eq_ofNat_of_zero_le h0
  have hnt := ((SR.fit_iff s).1 hf).2.2.2.2.2.2.1
  have hw : IntKind.i64.wrap ((j : Int) + 1) = (j : Int) + 1 := wr (by omega) (by omega)
  have e2 : ((j : Int) + 1).toNat = j + 1 := by omega
  have e4 : nOf (iadd .i64 (j : Int) 1) = j + 1 := by rw [iadd_e, hw, nOf_e, e2]
  have e6 : nOf (j : Int) = j := by rw [nOf_e]; omega
  rw [e6] at hg
  rw [br_iff, ilt_t, ilt_f]
  refine ⟨fun hj => ?_, fun hj => ?_⟩
  ·have hj' : j < s.nt := by omega
   have hs : s.safeFrom j = (s.calm j && s.safeFrom (j + 1)) := by
    unfold SR.safeFrom
    rw [List.drop_eq_getElem_cons (by simpa using hj')]
    simp
   have hb0 : band s.fit (band (ieq (s.nt : Int) (ofN s.nt)) (band (ile 0 (iadd .i64 (j : Int) 1)) (ile (iadd .i64 (j : Int) 1) (ofN s.nt)))) = true := by
    simp only [band_t, ieq_t, ile_t, ofN_e, iadd_e, hw]
    exact ⟨hf, trivial, by omega, by omega⟩
   have hmu : ((s.nt : Int) - iadd .i64 (j : Int) 1).toNat.succ.le ((s.nt : Int) - (j : Int)).toNat := by
    rw [iadd_e, hw]
    exact Nat.succ_le_of_lt (by omega)
   have go : s.calm j = true → ((s.nt : Int) - iadd .i64 (j : Int) 1).toNat.succ.le ((s.nt : Int) - (j : Int)).toNat ∧ asrt (band s.fit (band (ieq (s.nt : Int) (ofN s.nt)) (band (ile 0 (iadd .i64 (j : Int) 1)) (ile (iadd .i64 (j : Int) 1) (ofN s.nt))))) (br (s.safeFrom (nOf (iadd .i64 (j : Int) 1))) (Q (.exit 0) [.top] []) (Q .ret [.bool false] [])) := by
    intro hc
    rw [hs, hc, Bool.true_and] at hg
    rw [hb0, e4]
    exact ⟨hmu, hg⟩
   rw [hf] at go ⊢
   simp only [asrt_tt]
   cases h1 : s.parkedB (j : Int) with
   | false =>
    have hc : s.calm j = true := by simp [SR.calm, h1]
    exact go hc
   | true =>
    cases h2 : s.waitsB (j : Int) with
    | true =>
     have hc : s.calm j = true := by simp [SR.calm, h2]
     exact go hc
    | false =>
     simp only [bimp_tt, bite_tt, show bnot false = true from rfl, asrt_tt, br_tt]
     by_cases h3 : (s.wakersL (j : Int)).length = 0
     ·have hc : s.calm j = false := by simp [SR.calm, h1, h2, h3]
      have e7 : ieq (ofN (lenI (s.wakersL (j : Int)))) 0 = true := by rw [ieq_t, ofN_e, lenI_e, h3]; rfl
      rw [hs, hc, Bool.false_and] at hg
      rw [e7]
      exact hg
     ·have hc : s.calm j = true := by simp [SR.calm, h3]
      have e7 : ieq (ofN (lenI (s.wakersL (j : Int)))) 0 = false := by rw [ieq_f, ofN_e, lenI_e]; omega
      rw [e7]
      exact go hc
  ·have hj' : s.nt ≤ j := by omega
   have e : s.safeFrom j = true := by unfold SR.safeFrom; rw [List.drop_eq_nil_of_le (by simpa using hj')]; rfl
   rw [e] at hg
   exact hg
 ·exact hg.elim
def Lsafe : Nat → Option LoopS := fun i => match i with
 | 0 => some (.summ spec_safe.summ)
 | _ => none
theorem ok_Lsafe : ∀ i x, Lsafe i = some x → LoopHyp Tryz.prog 11 i x := by
 intro i s h
 unfold Lsafe at h
 split at h
 ·cases h; exact ⟨by kernel_rfl, loop_safe⟩
 ·cases h
def Fsafe : Pure1 := fun
 | [a_s] => (match asSR a_s with | some s => some (some (SR.fit s), .bool (SR.safeFrom s 0)) | none => none)
 | _ => none
theorem vc_safe (s : SR) (r : AV) : VC Tryz.prog (tabS tabSc) (oneL 11 Lsafe) false 11 [s.av] r = (
 asrt (band s.fit (band (ieq (ofN s.25) (ofN s.25)) (ile 0 (ofN s.25)))) (br (s.safeFrom 0) (some (AV.bool true) = some r) (some (AV.bool false) = some r))) := by kernel_rfl
theorem ok_safe : PureOK Tryz.prog 11 Fsafe := by
 refine tab_loops mixed (l := tabSc) ok_tabSc false Lsafe (by kernel_rfl) ok_Lsafe fun xs b r h hb wf => ?_
 unfold Fsafe at h
 split at h
 ·rename_i a_s
  split at h
  ·rename_i s h_s
   obtain rfl := asSR_some h_s
   cases h
   try rw [some_f] at hb
   simp only [WFL, WF, List.mem_cons, List.not_mem_nil, or_false, forall_eq_or_imp, forall_eq, Col.len, and_true, true_and, wf_av] at wf
   rw [vc_safe]
   have b2 : band s.fit (band (ieq (ofN s.nt) (ofN s.nt)) (ile 0 (ofN s.nt))) = true := by
    simp only [band_t, ieq_t, ile_t, ofN_e]
    exact ⟨hb, trivial, by omega⟩
   rw [b2, asrt_tt]
   cases s.safeFrom 0 <;> rfl
  ·cases h
 ·cases h
end Go.Own
end
section
namespace Go.Own
open Go Go.Proofs
set_option maxRecDepth 100000
set_option maxHeartbeats 1000000
theorem setD (l : List Int) (i : Nat) : l.set i (l.getD i 0) = l := by
 rw [List.getD_eq_getElem?_getD]
 exact setI_any l i
theorem SR.th_ok {s t : SR} (h : s.ok = true) (hA : t.okA) (hn : t.nt = s.nt) (i : Nat) (hj : ∀ j, j ≠ i → t.thok j = s.thok j) (hi : s.thok i = true → t.thok i = true) : t.ok = true := by
 obtain ⟨_, h2⟩ := (SR.ok_iff2 s).1 h
 refine (SR.ok_iff2 t).2 ⟨hA, fun j hj' => ?_⟩
 rw [hn] at hj'
 by_cases e : j = i
 ·subst e; exact hi (h2 j hj')
 ·rw [hj j e]; exact h2 j hj'
theorem getD_ne {l : List Int} {i j : Nat} {x : Int} (h : j ≠ i) : (l.set i x).getD j 0 = l.getD j 0 := by
 rw [getD_set, if_neg (fun e => h e.1.symm)]
theorem getD_is {l : List Int} {i : Nat} {x : Int} (h : i < l.length) : (l.set i x).getD i 0 = x := by
 rw [getD_set, if_pos ⟨rfl, h⟩]
theorem getD_in {l : List Int} {i : Nat} {x : Int} {Q : Int → Prop} (h1 : Q x) (h2 : Q (l.getD i 0)) : Q ((l.set i x).getD i 0) := by
 rw [getD_set]
 split
 ·exact h1
 ·exact h2
theorem SR.th4_ok {s : SR} (h : s.ok = true) (i : Nat) (p r v q : Int) (hp : 0 ≤ p ∧ p ≤ 11) (hr : 0 ≤ r ∧ r ≤ 1099511627776) (hv : -1 ≤ v ∧ v ≤ 1099511627776) (hq : 0 ≤ q ∧ q ≤ 1099511627776) (hst : s.st.getD i 0 ≠ 0) :
  ({ s with pc := s.pc.set i p, rg := s.rg.set i r, sn := s.sn.set i v, tr := s.tr.set i q } : SR).ok = true := by
 refine SR.th_ok h ((SR.ok_iff2 s).1 h).1 rfl i (fun j hj => ?_) (fun hi => ?_)
 ·unfold SR.thok
  simp only [getD_ne hj]
 ·unfold SR.thok at hi ⊢
  dsimp only
  rw [thOk_iff] at hi ⊢
  obtain ⟨a1, a2, a3, a4, a5, ⟨a6, a7, a8, a9, b1, b2, b3, b4⟩, a10⟩ := hi
  have e1 : 0 ≤ (s.pc.set i p).getD i 0 ∧ (s.pc.set i p).getD i 0 ≤ 11 := getD_in (Q := fun x => 0 ≤ x ∧ x ≤ 11) hp ⟨a6, a7⟩
  have e2 : 0 ≤ (s.rg.set i r).getD i 0 ∧ (s.rg.set i r).getD i 0 ≤ 1099511627776 := getD_in (Q := fun x => 0 ≤ x ∧ x ≤ 1099511627776) hr ⟨b1, b2⟩
  have e3 : -1 ≤ (s.sn.set i v).getD i 0 ∧ (s.sn.set i v).getD i 0 ≤ 1099511627776 := getD_in (Q := fun x => -1 ≤ x ∧ x ≤ 1099511627776) hv ⟨b3, b4⟩
  have e4 : 0 ≤ (s.tr.set i q).getD i 0 ∧ (s.tr.set i q).getD i 0 ≤ 1099511627776 := getD_in (Q := fun x => 0 ≤ x ∧ x ≤ 1099511627776) hq ⟨a8, a9⟩
  exact ⟨a1, a2, a3, a4, a5, ⟨e1.1, e1.2, e4.1, e4.2, e2.1, e2.2, e3.1, e3.2⟩, .inl hst⟩
theorem SR.th_in {s : SR} (h : s.ok = true) {i : Nat} (hi : i < s.nt) : (0 ≤ s.pc.getD i 0 ∧ s.pc.getD i 0 ≤ 11) ∧ (0 ≤ s.rg.getD i 0 ∧ s.rg.getD i 0 ≤ 1099511627776) ∧ (-1 ≤ s.sn.getD i 0 ∧ s.sn.getD i 0 ≤ 1099511627776) ∧ (0 ≤ s.tr.getD i 0 ∧ s.tr.getD i 0 ≤ 1099511627776) := by
 have := thOk_iff.1 (((SR.ok_iff2 s).1 h).2 i hi)
 obtain ⟨a1, a2, a3, a4, a5, ⟨a6, a7, a8, a9, b1, b2, b3, b4⟩, a10⟩ := this
 exact ⟨⟨a6, a7⟩, ⟨b1, b2⟩, ⟨b3, b4⟩, ⟨a8, a9⟩⟩
def okL (th : Int) (l : List Int) : Prop := (∀ x ∈ l, 0 ≤ x ∧ x < th) ∧ l.Nodup
theorem amBad_iff {th : Int} {l : List Int} : amBadAt th l 0 < 0 ↔ ∀ x ∈ l, 0 ≤ x ∧ x < th := by
 unfold amBadAt
 rw [List.drop_zero]
 cases h : l.findIdx? (amBad th) with
 | none =>
  have := List.findIdx?_eq_none_iff.1 h
  simp only [Int.reduceNeg, Int.reduceLT, true_iff]
  intro x hx
  have := this x hx
  simp only [amBad, decide_eq_false_iff_not] at this
  omega
 | some j =>
  simp only
  constructor
  ·intro hlt; omega
  ·intro hall
   have hn : l.findIdx? (amBad th) = none := List.findIdx?_eq_none_iff.2 fun x hx => by
    have := hall x hx
    simp only [amBad, decide_eq_false_iff_not]
    omega
   rw [hn] at h
   cases h
theorem amOk_iff {th : Int} (h16 : th ≤ 16) (ll : List (List Int)) : amOk th ll = true ↔ ∀ l ∈ ll, okL th l := by
 unfold amOk
 rw [List.all_eq_true]
 constructor
 ·intro h l hl
  have := h l hl
  simp only [Bool.and_eq_true, decide_eq_true_eq] at this
  exact ⟨amBad_iff.1 this.2, ((lineOk_iff l).1 this.1).2⟩
 ·intro h l hl
  obtain ⟨h1, h2⟩ := h l hl
  simp only [Bool.and_eq_true, decide_eq_true_eq]
  exact ⟨(lineOk_iff l).2 ⟨fun x hx => by have := h1 x hx; omega, h2⟩, amBad_iff.2 h1⟩
theorem okL_line {th : Int} (h16 : th ≤ 16) {l : List Int} (h : okL th l) : lineOk l = true :=
 (lineOk_iff l).2 ⟨fun x hx => by have := h.1 x hx; omega, h.2⟩
theorem SR.ok_16 {s : SR} (h : s.ok = true) : 1 ≤ s.th ∧ s.th ≤ 16 ∧ (s.nt : Int) = s.th := by
 have := confE_th (SR.ok_conf h)
 exact ⟨this.2.2.1, this.2.2.2, SR.ok_nt h⟩
theorem SR.ok_lines {s : SR} (h : s.ok = true) : okL s.th s.l1 ∧ okL s.th s.l2 ∧ okL s.th s.l3 ∧ okL s.th s.l4 := by
 have h1 := ((SR.ok_iff2 s).1 h).1.2.2.2.2.1
 have := (amOk_iff (SR.ok_16 h).2.1 _).1 h1
 exact ⟨this _ (by simp), this _ (by simp), this _ (by simp), this _ (by simp)⟩
theorem evOk_of {th e e' : Int} (h16 : th ≤ 16) {l l' : List Int} (h : evOk e l = true) (he : 0 ≤ e' ∧ e' ≤ 1099511627776) (hl : okL th l') : evOk e' l' = true := by
 unfold evOk
 simp only [Bool.and_eq_true, decide_eq_true_eq]
 exact ⟨he, okL_line h16 hl⟩
theorem evOk_in {e : Int} {l : List Int} (h : evOk e l = true) : 0 ≤ e ∧ e ≤ 1099511627776 := (evOk_line h).2
theorem SR.lines_ok {s : SR} (h : s.ok = true) {n1 n2 n3 n4 : Nat} {l1 l2 l3 l4 : List Int} {fe ee : Int} (h1 : okL s.th l1) (h2 : okL s.th l2) (h3 : okL s.th l3) (h4 : okL s.th l4) (hf : 0 ≤ fe ∧ fe ≤ 1099511627776) (he : 0 ≤ ee ∧ ee ≤ 1099511627776) :
  ({ s with n1 := n1, l1 := l1, n2 := n2, l2 := l2, fe := fe, n3 := n3, l3 := l3, ee := ee, n4 := n4, l4 := l4 } : SR).ok = true := by
 have h16 := (SR.ok_16 h).2.1
 obtain ⟨⟨q1, q2, q3, q4, q5, q6, q7, q8⟩, k2⟩ := (SR.ok_iff2 s).1 h
 refine (SR.ok_iff2 _).2 ⟨⟨q1, q2, q3, q4, ?_, evOk_of h16 q6 hf h3, evOk_of h16 q7 he h4, q8⟩, k2⟩
 refine (amOk_iff h16 _).2 ?_
 intro l hl
 simp only [List.mem_cons, List.not_mem_nil, or_false] at hl
 rcases hl with rfl | rfl | rfl | rfl
 ·exact h1
 ·exact h2
 ·exact h3
 ·exact h4
theorem SR.ok_ev {s : SR} (h : s.ok = true) : (0 ≤ s.fe ∧ s.fe ≤ 1099511627776) ∧ (0 ≤ s.ee ∧ s.ee ≤ 1099511627776) ∧ evOk s.fe s.l3 = true ∧ evOk s.ee s.l4 = true := by
 obtain ⟨⟨q1, q2, q3, q4, q5, q6, q7, q8⟩, k2⟩ := (SR.ok_iff2 s).1 h
 exact ⟨evOk_in q6, evOk_in q7, q6, q7⟩
theorem okL_enter {th id : Int} {l : List Int} (h : okL th l) (hi : 0 ≤ id ∧ id < th) : okL th (enterL l id) := by
 unfold enterL
 split
 ·rename_i hc
  simp only [enterOk, Bool.and_eq_true, Bool.not_eq_true'] at hc
  have hn : id ∉ l := by
   have := hc.2
   simpa using this
  refine ⟨fun x hx => ?_, ?_⟩
  ·rcases List.mem_append.1 hx with hx | hx
   ·exact h.1 x hx
   ·simp at hx; subst hx; exact hi
  ·rw [List.nodup_append]
   refine ⟨h.2, by simp, ?_⟩
   intro a ha b hb
   simp at hb
   subst hb
   exact fun e => hn (e ▸ ha)
 ·exact h
theorem okL_sub {th : Int} {l l' : List Int} (h : okL th l) (hs : l'.Sublist l) : okL th l' := ⟨fun x hx => h.1 x (hs.subset hx), h.2.sublist hs⟩
theorem okL_leave {th id : Int} {l : List Int} (h : okL th l) : okL th (leaveL l id) := by
 unfold leaveL
 split
 ·exact h
 ·exact okL_sub h (List.eraseIdx_sublist _ _)
theorem okL_cancel {th e id : Int} {l : List Int} (h : okL th l) : okL th (cancelL e l id) := by
 unfold cancelL
 split
 ·exact okL_sub h (List.eraseIdx_sublist _ _)
 ·exact h
theorem okL_one {th e : Int} {l : List Int} (h : okL th l) : okL th (oneL1 e l) := by
 unfold oneL1
 split
 ·exact okL_sub h (List.tail_sublist _)
 ·exact h
theorem okL_commit {th e v id : Int} {l : List Int} (h : okL th l) (hi : 0 ≤ id ∧ id < th) : okL th (commitL e l v id) := by
 have := okL_enter h hi
 unfold commitL
 split
 ·rename_i hc
  unfold enterL at this
  simp only [commitB, Bool.and_eq_true] at hc
  rw [if_pos hc.1.2] at this
  exact this
 ·exact h
theorem comeE_in {e : Int} {l : List Int} (h : 0 ≤ e ∧ e ≤ 1099511627776) : 0 ≤ comeE e l ∧ comeE e l ≤ 1099511627776 := by
 unfold comeE
 split
 ·rw [imin_e]; omega
 ·exact h
theorem prepE_in {e : Int} {l : List Int} (h : 0 ≤ e ∧ e ≤ 1099511627776) : -1 ≤ prepE e l ∧ prepE e l ≤ 1099511627776 := by
 unfold prepE
 split <;> omega
theorem wlen_in {hd tl : Int} (h0 : 0 ≤ hd) : wlen hd tl = if tl ≤ hd then 0 else tl - hd := by
 unfold wlen
 split
 ·rfl
 ·rw [if_neg (by omega)]
theorem SR.ok_wd {s : SR} (h : s.ok = true) : 0 ≤ s.hd ∧ s.hd ≤ s.tl ∧ s.tl ≤ 1099511627776 ∧ s.tl - s.hd ≤ s.ns ∧ 0 ≤ s.md ∧ s.md ≤ 2 := by
 obtain ⟨⟨q1, q2, q3, _⟩, _⟩ := (SR.ok_iff2 s).1 h
 simp only [wordOk, decide_eq_true_eq] at q2
 obtain ⟨a1, a2, a3, a4, a5, a6⟩ := q2
 rw [wlen_in a3] at a4
 split at a4 <;> omega
theorem SR.word_ok {s : SR} (h : s.ok = true) {hd tl : Int} (h1 : 0 ≤ hd) (h2 : hd ≤ tl) (h3 : tl ≤ 1099511627776) (h4 : tl - hd ≤ s.ns) : ({ s with hd := hd, tl := tl } : SR).ok = true := by
 obtain ⟨⟨q1, q2, q3, q4⟩, k2⟩ := (SR.ok_iff2 s).1 h
 have hw := SR.ok_wd h
 refine (SR.ok_iff2 _).2 ⟨⟨q1, ?_, q3, q4⟩, k2⟩
 dsimp only
 simp only [wordOk, decide_eq_true_eq]
 rw [wlen_in h1, ← q3]
 split <;> omega
theorem SR.halt_no {s : SR} (h : s.ok = true) : haltB s.hd s.tl s.md s.ns = decide (s.md = 2) := by
 obtain ⟨⟨q1, q2, q3, q4⟩, k2⟩ := (SR.ok_iff2 s).1 h
 unfold haltB
 rw [q3, q2]
 simp
theorem SR.accR_ok {s : SR} (h : s.ok = true) : s.accR = if s.md = 2 then 7 else if s.md = 1 then 6 else if s.tl - s.hd = s.ns ∨ s.tl = 1099511627776 then 2 else 1 := by
 have hw := SR.ok_wd h
 unfold SR.accR Go.Own.accR
 rw [SR.halt_no h, wlen_in hw.1]
 have hns := SR.ok_ns h
 by_cases c1 : s.md = 2
 ·simp [c1]
 ·by_cases c2 : s.md = 1
  ·simp [c2]
  ·simp only [c1, c2, decide_false, Bool.false_eq_true, if_false]
   by_cases c3 : s.tl ≤ s.hd
   ·rw [if_pos c3]
    by_cases c4 : s.tl = 1099511627776
    ·rw [if_pos (.inr c4), if_pos (.inr c4)]
    ·rw [if_neg (by omega), if_neg (by omega)]
   ·rw [if_neg c3]
    by_cases c4 : s.tl = 1099511627776
    ·rw [if_pos (.inr c4), if_pos (.inr c4)]
    ·by_cases c5 : s.tl - s.hd = s.ns
     ·rw [if_pos (.inl (by omega)), if_pos (.inl c5)]
     ·rw [if_neg (by omega), if_neg (by omega)]
theorem SR.takR_ok {s : SR} (h : s.ok = true) : s.takR = if s.md = 2 then 7 else if s.hd < s.tl then 1 else if s.md = 1 then 6 else 4 := by
 have hw := SR.ok_wd h
 unfold SR.takR Go.Own.takR
 rw [SR.halt_no h, wlen_in hw.1]
 by_cases c1 : s.md = 2
 ·simp [c1]
 ·simp only [c1, decide_false, Bool.false_eq_true, if_false]
  by_cases c3 : s.tl ≤ s.hd
  ·have c4 : ¬ s.hd < s.tl := by omega
   simp [c3, c4]
  ·have c4 : s.hd < s.tl := by omega
   have c5 : 0 < s.tl - s.hd := by omega
   simp [c3, c4, c5]
theorem SR.evB_ok {s : SR} (h : s.ok = true) {r : Int} : evB s.hd s.tl s.md s.ns r = true ↔ s.hd = r ∧ s.md = 0 ∧ s.tl - s.hd = s.ns := by
 have hw := SR.ok_wd h
 have hns := SR.ok_ns h
 unfold evB
 rw [SR.halt_no h, wlen_in hw.1]
 simp only [decide_eq_true_eq, decide_eq_false_iff_not]
 constructor
 ·rintro ⟨h1, h2, h3, h4, h5⟩
  split at h4 <;> omega
 ·rintro ⟨h1, h2, h3⟩
  refine ⟨h1, h2, by omega, ?_, ?_⟩ <;> split <;> omega
theorem SR.acc_ok {s : SR} (h : s.ok = true) : ({ s with tl := accT s.hd s.tl s.md s.ns } : SR).ok = true := by
 have hw := SR.ok_wd h
 unfold accT
 split
 ·rename_i hc
  have h1 := SR.accR_ok h
  have hc : s.accR = 1 := hc
  rw [hc] at h1
  have : ({ s with hd := s.hd, tl := s.tl + 1 } : SR).ok = true := SR.word_ok h hw.1 (by omega) (by
   split at h1
   ·omega
   ·split at h1
    ·omega
    ·split at h1 <;> omega) (by
   split at h1
   ·omega
   ·split at h1
    ·omega
    ·split at h1 <;> omega)
  exact this
 ·exact h
theorem SR.tak_ok {s : SR} (h : s.ok = true) : ({ s with hd := takH s.hd s.tl s.md s.ns } : SR).ok = true := by
 have hw := SR.ok_wd h
 unfold takH
 split
 ·rename_i hc
  have h1 := SR.takR_ok h
  have hc : s.takR = 1 := hc
  rw [hc] at h1
  have : ({ s with hd := s.hd + 1, tl := s.tl } : SR).ok = true := SR.word_ok h (by omega) (by
   split at h1
   ·omega
   ·split at h1
    ·omega
    ·split at h1 <;> omega) hw.2.2.1 (by omega)
  exact this
 ·exact h
theorem SR.ev_ok {s : SR} (h : s.ok = true) (r : Int) : ({ s with hd := evH s.hd s.tl s.md s.ns r } : SR).ok = true := by
 have hw := SR.ok_wd h
 have hns := SR.ok_ns h
 unfold evH
 split
 ·rename_i hc
  have h1 := (SR.evB_ok h).1 hc
  have : ({ s with hd := s.hd + 1, tl := s.tl } : SR).ok = true := SR.word_ok h (by omega) (by omega) hw.2.2.1 (by omega)
  exact this
 ·exact h
theorem stamps_iff {n : Nat} {l : List Int} : stampsFrom l n 0 = true ↔ ∀ i, i < l.length → stampOk (l.getD i 0) n i = true := by
 unfold stampsFrom
 rw [List.all_eq_true]
 constructor
 ·intro h i hi
  have := h (l[i], i) (by
   show (l[i], i) ∈ l.zipIdx.drop 0
   rw [List.drop_zero, List.mem_zipIdx_iff_getElem?]
   simp [hi])
  simpa [hi] using this
 ·intro h p hp
  have hp : p ∈ l.zipIdx.drop 0 := hp
  rw [List.drop_zero, List.mem_zipIdx_iff_getElem?] at hp
  obtain ⟨h1, h2⟩ := List.getElem?_eq_some_iff.1 hp
  have := h p.2 h1
  rw [List.getD_eq_getElem?_getD, List.getElem?_eq_getElem h1, h2] at this
  exact this
theorem rel_slots {n : Nat} {l : List Int} (p : Int) (h : slotsOk n l = true) (hl : l.length = n) : slotsOk n (relS n l p) = true := by
 unfold relS
 split
 ·rename_i hb
  have hn := slots_n h
  simp only [slotsOk, Bool.and_eq_true] at h ⊢
  refine ⟨stamps_iff.2 fun i hi => ?_, h.2⟩
  rw [List.length_set] at hi
  have h1 := stamps_iff.1 h.1 i hi
  rw [getD_set]
  split
  ·rename_i he
   rw [he.1]
   simp only [relB, readyB, Bool.and_eq_true, decide_eq_true_eq] at hb
   rw [he.1] at hb
   obtain ⟨⟨b1, b2, b3⟩, b4⟩ := hb
   simp only [stampOk, decide_eq_true_eq] at h1 ⊢
   obtain ⟨c1, c2, c3⟩ := h1
   refine ⟨by omega, by omega, ?_⟩
   rw [Int.add_emod_right]
   exact c3
  ·exact h1
 ·exact h
theorem SR.slots_ok {s : SR} (h : s.ok = true) (hr : s.rows) (p : Int) : ({ s with ss := relS s.ns s.ss p } : SR).ok = true := by
 obtain ⟨⟨q1, q2, q3, q4, q5⟩, k2⟩ := (SR.ok_iff2 s).1 h
 exact (SR.ok_iff2 _).2 ⟨⟨q1, q2, q3, rel_slots p q4 hr.ss, q5⟩, k2⟩
structure SR.Keep (k : Nat) (s t : SR) : Prop where
 rows : s.rows → t.rows
 nl : t.nl ≤ s.nl + k
 lg : t.lg = s.lg
 th : t.th = s.th
 po : t.po = s.po
 wt : t.wt = s.wt
 sp : t.sp = s.sp
 yi : t.yi = s.yi
 sg : t.sg = s.sg
 ns : t.ns = s.ns
 nt : t.nt = s.nt
 now : t.now = s.now
 kd : t.kd = s.kd
 vl : t.vl = s.vl
 un : t.un = s.un
theorem SR.Keep.trans {a b : Nat} {s t u : SR} (h : SR.Keep a s t) (g : SR.Keep b t u) : SR.Keep (a + b) s u :=
 ⟨fun hr => g.rows (h.rows hr), by have := h.nl; have := g.nl; omega, g.lg.trans h.lg, g.th.trans h.th, g.po.trans h.po, g.wt.trans h.wt, g.sp.trans h.sp, g.yi.trans h.yi, g.sg.trans h.sg, g.ns.trans h.ns, g.nt.trans h.nt, g.now.trans h.now, g.kd.trans h.kd, g.vl.trans h.vl, g.un.trans h.un⟩
theorem SR.Keep.refl (s : SR) : SR.Keep 0 s s := ⟨fun h => h, Nat.le_refl _, rfl, rfl, rfl, rfl, rfl, rfl, rfl, rfl, rfl, rfl, rfl, rfl, rfl⟩
theorem SR.Keep.up {a b : Nat} {s t : SR} (h : SR.Keep a s t) (hab : a ≤ b) : SR.Keep b s t := ⟨h.rows, by have := h.nl; omega, h.lg, h.th, h.po, h.wt, h.sp, h.yi, h.sg, h.ns, h.nt, h.now, h.kd, h.vl, h.un⟩
theorem SR.at_keep (s : SR) (id q : Int) : SR.Keep 0 s (s.at id q) := by
 refine ⟨fun h => ?_, Nat.le_refl _, rfl, rfl, rfl, rfl, rfl, rfl, rfl, rfl, rfl, rfl, rfl, rfl, rfl⟩
 constructor <;> simp [SR.at, h.ss, h.sv, h.l1, h.l2, h.l3, h.l4, h.st, h.kd, h.vl, h.un, h.pc, h.rg, h.sn, h.tr, h.lt, h.rs, h.gt, h.c0, h.ks, h.vs, h.rr, h.gs]
theorem SR.tries_keep (s : SR) (id : Int) : SR.Keep 0 s (s.tries id) := by
 refine ⟨fun h => ?_, Nat.le_refl _, rfl, rfl, rfl, rfl, rfl, rfl, rfl, rfl, rfl, rfl, rfl, rfl, rfl⟩
 constructor <;> simp [SR.tries, h.ss, h.sv, h.l1, h.l2, h.l3, h.l4, h.st, h.kd, h.vl, h.un, h.pc, h.rg, h.sn, h.tr, h.lt, h.rs, h.gt, h.c0, h.ks, h.vs, h.rr, h.gs]
theorem SR.park_keep (s : SR) (id q : Int) : SR.Keep 0 s (s.park id q) := by
 refine ⟨fun h => ?_, Nat.le_refl _, rfl, rfl, rfl, rfl, rfl, rfl, rfl, rfl, rfl, rfl, rfl, rfl, rfl⟩
 constructor <;> simp [SR.park, h.ss, h.sv, h.l1, h.l2, h.l3, h.l4, h.st, h.kd, h.vl, h.un, h.pc, h.rg, h.sn, h.tr, h.lt, h.rs, h.gt, h.c0, h.ks, h.vs, h.rr, h.gs]
theorem SR.done_keep (s : SR) (id : Int) : SR.Keep 0 s (s.done id) := by
 refine ⟨fun h => ?_, Nat.le_refl _, rfl, rfl, rfl, rfl, rfl, rfl, rfl, rfl, rfl, rfl, rfl, rfl, rfl⟩
 constructor <;> simp [SR.done, h.ss, h.sv, h.l1, h.l2, h.l3, h.l4, h.st, h.kd, h.vl, h.un, h.pc, h.rg, h.sn, h.tr, h.lt, h.rs, h.gt, h.c0, h.ks, h.vs, h.rr, h.gs]
theorem SR.pr_keep (s : SR) (i : Nat) (p r : Int) : SR.Keep 0 s (({ s with rg := s.rg.set i r, pc := s.pc.set i p } : SR)) := by
 refine ⟨fun h => ?_, Nat.le_refl _, rfl, rfl, rfl, rfl, rfl, rfl, rfl, rfl, rfl, rfl, rfl, rfl, rfl⟩
 constructor <;> simp [h.ss, h.sv, h.l1, h.l2, h.l3, h.l4, h.st, h.kd, h.vl, h.un, h.pc, h.rg, h.sn, h.tr, h.lt, h.rs, h.gt, h.c0, h.ks, h.vs, h.rr, h.gs]
theorem SR.ps_keep (s : SR) (i : Nat) (p v : Int) : SR.Keep 0 s (({ s with sn := s.sn.set i v, pc := s.pc.set i p } : SR)) := by
 refine ⟨fun h => ?_, Nat.le_refl _, rfl, rfl, rfl, rfl, rfl, rfl, rfl, rfl, rfl, rfl, rfl, rfl, rfl⟩
 constructor <;> simp [h.ss, h.sv, h.l1, h.l2, h.l3, h.l4, h.st, h.kd, h.vl, h.un, h.pc, h.rg, h.sn, h.tr, h.lt, h.rs, h.gt, h.c0, h.ks, h.vs, h.rr, h.gs]
theorem SR.l1_keep (s : SR) (l : List Int) : SR.Keep 0 s (({ s with n1 := lenI l, l1 := l } : SR)) := by
 refine ⟨fun h => ?_, Nat.le_refl _, rfl, rfl, rfl, rfl, rfl, rfl, rfl, rfl, rfl, rfl, rfl, rfl, rfl⟩
 constructor <;> simp [lenI, h.ss, h.sv, h.l1, h.l2, h.l3, h.l4, h.st, h.kd, h.vl, h.un, h.pc, h.rg, h.sn, h.tr, h.lt, h.rs, h.gt, h.c0, h.ks, h.vs, h.rr, h.gs]
theorem SR.l2_keep (s : SR) (l : List Int) : SR.Keep 0 s (({ s with n2 := lenI l, l2 := l } : SR)) := by
 refine ⟨fun h => ?_, Nat.le_refl _, rfl, rfl, rfl, rfl, rfl, rfl, rfl, rfl, rfl, rfl, rfl, rfl, rfl⟩
 constructor <;> simp [lenI, h.ss, h.sv, h.l1, h.l2, h.l3, h.l4, h.st, h.kd, h.vl, h.un, h.pc, h.rg, h.sn, h.tr, h.lt, h.rs, h.gt, h.c0, h.ks, h.vs, h.rr, h.gs]
theorem SR.f3_keep (s : SR) (e : Int) (l : List Int) : SR.Keep 0 s (({ s with fe := e, n3 := lenI l, l3 := l } : SR)) := by
 refine ⟨fun h => ?_, Nat.le_refl _, rfl, rfl, rfl, rfl, rfl, rfl, rfl, rfl, rfl, rfl, rfl, rfl, rfl⟩
 constructor <;> simp [lenI, h.ss, h.sv, h.l1, h.l2, h.l3, h.l4, h.st, h.kd, h.vl, h.un, h.pc, h.rg, h.sn, h.tr, h.lt, h.rs, h.gt, h.c0, h.ks, h.vs, h.rr, h.gs]
theorem SR.f4_keep (s : SR) (e : Int) (l : List Int) : SR.Keep 0 s (({ s with ee := e, n4 := lenI l, l4 := l } : SR)) := by
 refine ⟨fun h => ?_, Nat.le_refl _, rfl, rfl, rfl, rfl, rfl, rfl, rfl, rfl, rfl, rfl, rfl, rfl, rfl⟩
 constructor <;> simp [lenI, h.ss, h.sv, h.l1, h.l2, h.l3, h.l4, h.st, h.kd, h.vl, h.un, h.pc, h.rg, h.sn, h.tr, h.lt, h.rs, h.gt, h.c0, h.ks, h.vs, h.rr, h.gs]
theorem SR.wd_keep (s : SR) (a b c : Int) : SR.Keep 0 s (({ s with hd := a, tl := b, md := c } : SR)) := by
 refine ⟨fun h => ?_, Nat.le_refl _, rfl, rfl, rfl, rfl, rfl, rfl, rfl, rfl, rfl, rfl, rfl, rfl, rfl⟩
 constructor <;> simp [h.ss, h.sv, h.l1, h.l2, h.l3, h.l4, h.st, h.kd, h.vl, h.un, h.pc, h.rg, h.sn, h.tr, h.lt, h.rs, h.gt, h.c0, h.ks, h.vs, h.rr, h.gs]
theorem SR.rg_keep (s : SR) (i : Nat) (r : Int) : SR.Keep 0 s (({ s with rg := s.rg.set i r } : SR)) := by
 refine ⟨fun h => ?_, Nat.le_refl _, rfl, rfl, rfl, rfl, rfl, rfl, rfl, rfl, rfl, rfl, rfl, rfl, rfl⟩
 constructor <;> simp [h.ss, h.sv, h.l1, h.l2, h.l3, h.l4, h.st, h.kd, h.vl, h.un, h.pc, h.rg, h.sn, h.tr, h.lt, h.rs, h.gt, h.c0, h.ks, h.vs, h.rr, h.gs]
theorem SR.gt_keep (s : SR) (i : Nat) (r : Int) : SR.Keep 0 s (({ s with gt := s.gt.set i r } : SR)) := by
 refine ⟨fun h => ?_, Nat.le_refl _, rfl, rfl, rfl, rfl, rfl, rfl, rfl, rfl, rfl, rfl, rfl, rfl, rfl⟩
 constructor <;> simp [h.ss, h.sv, h.l1, h.l2, h.l3, h.l4, h.st, h.kd, h.vl, h.un, h.pc, h.rg, h.sn, h.tr, h.lt, h.rs, h.gt, h.c0, h.ks, h.vs, h.rr, h.gs]
theorem SR.lt_keep (s : SR) (i : Nat) (b : Bool) : SR.Keep 0 s (({ s with lt := s.lt.set i b } : SR)) := by
 refine ⟨fun h => ?_, Nat.le_refl _, rfl, rfl, rfl, rfl, rfl, rfl, rfl, rfl, rfl, rfl, rfl, rfl, rfl⟩
 constructor <;> simp [h.ss, h.sv, h.l1, h.l2, h.l3, h.l4, h.st, h.kd, h.vl, h.un, h.pc, h.rg, h.sn, h.tr, h.lt, h.rs, h.gt, h.c0, h.ks, h.vs, h.rr, h.gs]
theorem SR.st_keep (s : SR) (i : Nat) (r : Int) : SR.Keep 0 s (({ s with st := s.st.set i r } : SR)) := by
 refine ⟨fun h => ?_, Nat.le_refl _, rfl, rfl, rfl, rfl, rfl, rfl, rfl, rfl, rfl, rfl, rfl, rfl, rfl⟩
 constructor <;> simp [h.ss, h.sv, h.l1, h.l2, h.l3, h.l4, h.st, h.kd, h.vl, h.un, h.pc, h.rg, h.sn, h.tr, h.lt, h.rs, h.gt, h.c0, h.ks, h.vs, h.rr, h.gs]
theorem SR.ss_keep (s : SR) (p : Int) : SR.Keep 0 s ({ s with ss := relS s.ns s.ss p } : SR) := by
 refine ⟨fun h => ?_, Nat.le_refl _, rfl, rfl, rfl, rfl, rfl, rfl, rfl, rfl, rfl, rfl, rfl, rfl, rfl⟩
 have e : (relS s.ns s.ss p).length = s.ns := by
  unfold relS
  split
  ·rw [List.length_set]; exact h.ss
  ·exact h.ss
 constructor <;> simp [e, h.ss, h.sv, h.l1, h.l2, h.l3, h.l4, h.st, h.kd, h.vl, h.un, h.pc, h.rg, h.sn, h.tr, h.lt, h.rs, h.gt, h.c0, h.ks, h.vs, h.rr, h.gs]
theorem SR.sv_keep (s : SR) (p x : Int) : SR.Keep 0 s ({ s with sv := wrV s.ns s.ss s.sv p x } : SR) := by
 refine ⟨fun h => ?_, Nat.le_refl _, rfl, rfl, rfl, rfl, rfl, rfl, rfl, rfl, rfl, rfl, rfl, rfl, rfl⟩
 have e : (wrV s.ns s.ss s.sv p x).length = s.ns := by
  unfold wrV
  split
  ·rw [List.length_set]; exact h.sv
  ·exact h.sv
 constructor <;> simp [e, h.ss, h.sv, h.l1, h.l2, h.l3, h.l4, h.st, h.kd, h.vl, h.un, h.pc, h.rg, h.sn, h.tr, h.lt, h.rs, h.gt, h.c0, h.ks, h.vs, h.rr, h.gs]
theorem SR.tell_keep (s : SR) (a b c d : Int) : SR.Keep 1 s (s.tell a b c d) := by
 unfold SR.tell
 split
 ·refine ⟨fun h => ?_, Nat.le_refl _, rfl, rfl, rfl, rfl, rfl, rfl, rfl, rfl, rfl, rfl, rfl, rfl, rfl⟩
  by_cases hb : b = 9
  ·constructor <;> simp [hb, h.ss, h.sv, h.l1, h.l2, h.l3, h.l4, h.st, h.kd, h.vl, h.un, h.pc, h.rg, h.sn, h.tr, h.lt, h.rs, h.gt, h.c0, h.ks, h.vs, h.rr, h.gs]
  ·constructor <;> simp [hb, h.ss, h.sv, h.l1, h.l2, h.l3, h.l4, h.st, h.kd, h.vl, h.un, h.pc, h.rg, h.sn, h.tr, h.lt, h.rs, h.gt, h.c0, h.ks, h.vs, h.rr, h.gs]
 ·exact (SR.Keep.refl s).up (by omega)
theorem SR.wake_keep (s : SR) (x : Int) : SR.Keep 0 s (s.wake x) := by
 unfold SR.wake
 split
 ·exact SR.st_keep s _ _
 ·exact SR.Keep.refl s
theorem SR.wakes_keep (l : List Int) (i : Nat) (s : SR) : SR.Keep 0 s (s.wakes l i) := by
 unfold SR.wakes
 generalize l.drop i = m
 induction m generalizing s with
 | nil => exact SR.Keep.refl s
 | cons x m ih => exact (SR.wake_keep s x).trans (ih _)
theorem SR.ends_keep (s : SR) (id r : Int) : SR.Keep 1 s (s.ends id r) := (SR.tell_keep s _ _ _ _).trans (SR.at_keep _ _ _)
theorem SR.send_keep (s : SR) (id : Int) : SR.Keep 1 s (s.send id) := by
 unfold SR.send
 split
 ·split
  ·exact ((SR.l1_keep s _).trans (SR.at_keep _ id 1)).up (by omega)
  ·unfold SR.sFirst
   split
   ·exact (SR.at_keep s _ _).up (by omega)
   ·split
    ·exact SR.ends_keep s _ _
    ·exact (SR.tries_keep s _).up (by omega)
  ·unfold SR.sLook
   split
   ·exact (SR.pr_keep s _ _ _).up (by omega)
   ·split
    ·unfold SR.sFull
     split
     ·exact SR.ends_keep s _ _
     ·split
      ·exact (SR.pr_keep s _ _ _).up (by omega)
      ·split
       ·exact SR.ends_keep s _ _
       ·split
        ·exact SR.ends_keep s _ _
        ·split
         ·exact (SR.at_keep s _ _).up (by omega)
         ·exact (SR.tries_keep s _).up (by omega)
    ·exact SR.ends_keep s _ _
  ·unfold SR.sWrite
   split
   ·exact ((SR.sv_keep s _ _).trans (SR.at_keep _ id 4)).up (by omega)
   ·exact (SR.Keep.refl s).up (by omega)
  ·unfold SR.sAccept
   split
   ·exact ((SR.wd_keep s s.hd _ s.md).trans ((SR.tell_keep _ _ _ _ _).trans (SR.at_keep _ _ _))).up (by omega)
   ·split
    ·exact (SR.at_keep s _ _).up (by omega)
    ·exact SR.ends_keep s _ _
  ·exact (SR.ps_keep s _ _ _).up (by omega)
  ·unfold SR.sNotify SR.rungE
   split
   ·exact ((SR.f4_keep s _ _).trans ((SR.wake_keep _ _).trans (SR.at_keep _ _ _))).up (by omega)
   ·exact ((SR.f4_keep s _ _).trans (SR.at_keep _ _ _)).up (by omega)
  ·unfold SR.sAgain
   split
   ·exact (SR.at_keep s _ _).up (by omega)
   ·exact (SR.at_keep s _ _).up (by omega)
  ·unfold SR.sCommit
   split
   ·exact (SR.at_keep s _ _).up (by omega)
   ·dsimp only
    split
    ·exact (((SR.f3_keep s s.fe _).trans (SR.at_keep _ id 2)).trans (SR.park_keep _ _ _)).up (by omega)
    ·exact ((SR.f3_keep s s.fe _).trans (SR.at_keep _ id 2)).up (by omega)
  ·exact ((SR.l1_keep s _).trans (SR.done_keep _ id)).up (by omega)
  ·unfold SR.sEvict
   split
   ·exact ((SR.wd_keep s _ s.tl s.md).trans ((SR.tell_keep _ _ _ _ _).trans (SR.at_keep _ _ _))).up (by omega)
   ·exact (SR.at_keep s _ _).up (by omega)
  ·unfold SR.sRelease
   split
   ·exact ((SR.ss_keep s _).trans (SR.at_keep _ id 2)).up (by omega)
   ·exact (SR.at_keep s _ _).up (by omega)
  ·exact (SR.Keep.refl s).up (by omega)
 ·exact (SR.Keep.refl s).up (by omega)
theorem SR.recv_keep (s : SR) (id : Int) : SR.Keep 1 s (s.recv id) := by
 unfold SR.recv
 split
 ·split
  ·exact ((SR.l2_keep s _).trans (SR.at_keep _ id 1)).up (by omega)
  ·unfold SR.rFirst
   split
   ·exact (SR.at_keep s _ _).up (by omega)
   ·split
    ·exact SR.ends_keep s _ _
    ·exact (SR.tries_keep s _).up (by omega)
  ·unfold SR.rLook
   split
   ·exact (SR.at_keep s _ _).up (by omega)
   ·split
    ·unfold SR.rVain
     split
     ·exact SR.ends_keep s _ _
     ·split
      ·exact SR.ends_keep s _ _
      ·split
       ·exact (SR.at_keep s _ _).up (by omega)
       ·exact (SR.tries_keep s _).up (by omega)
    ·exact SR.ends_keep s _ _
  ·unfold SR.rTake
   split
   ·have h1 : SR.Keep 0 s { s with hd := Go.Own.takH s.hd s.tl s.md s.ns, rg := s.rg.set id.toNat (Go.Own.takP s.hd s.tl s.md s.ns) } := (SR.wd_keep s (Go.Own.takH s.hd s.tl s.md s.ns) s.tl s.md).trans (SR.rg_keep _ id.toNat (Go.Own.takP s.hd s.tl s.md s.ns))
    exact (h1.trans ((SR.tell_keep _ _ _ _ _).trans (SR.at_keep _ _ _))).up (by omega)
   ·split
    ·exact (SR.at_keep s _ _).up (by omega)
    ·exact SR.ends_keep s _ _
  ·have h1 : SR.Keep 0 s { s with gt := s.gt.set id.toNat (rdV s.ns s.ss s.sv (s.rg.getD id.toNat 0)), ss := relS s.ns s.ss (s.rg.getD id.toNat 0) } := (SR.ss_keep s (s.rg.getD id.toNat 0)).trans (SR.gt_keep _ id.toNat (rdV s.ns s.ss s.sv (s.rg.getD id.toNat 0)))
   exact (h1.trans (SR.at_keep _ id 6)).up (by omega)
  ·exact (SR.ps_keep s _ _ _).up (by omega)
  ·unfold SR.rNotify SR.rungF
   split
   ·exact ((SR.f3_keep s _ _).trans ((SR.wake_keep _ _).trans (SR.at_keep _ _ _))).up (by omega)
   ·exact ((SR.f3_keep s _ _).trans (SR.at_keep _ _ _)).up (by omega)
  ·unfold SR.rAgain
   split
   ·exact (SR.at_keep s _ _).up (by omega)
   ·exact (SR.at_keep s _ _).up (by omega)
  ·unfold SR.rCommit
   split
   ·exact (SR.at_keep s _ _).up (by omega)
   ·dsimp only
    split
    ·exact (((SR.f4_keep s s.ee _).trans (SR.at_keep _ id 2)).trans (SR.park_keep _ _ _)).up (by omega)
    ·exact ((SR.f4_keep s s.ee _).trans (SR.at_keep _ id 2)).up (by omega)
  ·exact ((SR.l2_keep s _).trans (SR.done_keep _ id)).up (by omega)
 ·exact (SR.Keep.refl s).up (by omega)
theorem SR.step_keep (s : SR) (id : Int) : SR.Keep 1 s (s.step id) := by
 unfold SR.step
 split
 ·split
  ·exact ((SR.wd_keep s s.hd s.tl _).trans ((SR.tell_keep _ _ _ _ _).trans (SR.at_keep _ id 1))).up (by omega)
  ·split
   ·exact ((SR.f3_keep s _ _).trans ((SR.wakes_keep _ _ _).trans (SR.at_keep _ id 2))).up (by omega)
   ·exact ((SR.f4_keep s _ _).trans ((SR.wakes_keep _ _ _).trans (SR.done_keep _ id))).up (by omega)
 ·exact (SR.Keep.refl s).up (by omega)
theorem SR.pick_keep (s : SR) (id : Int) : SR.Keep 1 s (s.pick id) := by
 unfold SR.pick
 split
 ·unfold SR.turn
  split
  ·exact SR.send_keep s id
  ·split
   ·exact SR.recv_keep s id
   ·exact SR.step_keep s id
 ·exact (SR.Keep.refl s).up (by omega)
theorem SR.does_is {s : SR} {id k : Int} (h : s.does id k = true) : s.ok = true ∧ 0 ≤ id ∧ id < s.nt ∧ id.toNat < s.nt ∧ s.st.getD id.toNat 0 = 1 ∧ opSide (s.kd.getD id.toNat 0) = k := by
 simp only [SR.does, SR.is, Bool.and_eq_true, decide_eq_true_eq] at h
 obtain ⟨⟨c1, c2, c3⟩, c4, c5⟩ := h
 have q : id.toNat < s.nt := by omega
 have := (thOk_iff.1 (((SR.ok_iff2 s).1 c1).2 id.toNat q)).1
 refine ⟨c1, c2, c3, q, ?_, c5⟩
 unfold thRuns at c4
 split at c4
 ·omega
 ·split at c4 <;> omega
theorem SR.at_ok {s : SR} (h : s.ok = true) {id q : Int} (hq : 0 ≤ q ∧ q ≤ 11) (hst : s.st.getD id.toNat 0 ≠ 0) : (s.at id q).ok = true := SR.pc_ok h _ _ hq hst
theorem SR.ends_ok {s : SR} (h : s.ok = true) {id r : Int} (hr : 0 ≤ r ∧ r ≤ 7) (hst : s.st.getD id.toNat 0 ≠ 0) : (s.ends id r).ok = true :=
 SR.at_ok (SR.tell_ok h _ _ _ _ hr) (by omega) (by rw [SR.tell_st]; exact hst)
theorem SR.tries_ok {s : SR} (h : s.ok = true) {id : Int} (hi : id.toNat < s.nt) (hst : s.st.getD id.toNat 0 ≠ 0) : (s.tries id).ok = true := by
 obtain ⟨a1, a2, a3, a4⟩ := SR.th_in h hi
 have := SR.th4_ok h id.toNat (s.pc.getD id.toNat 0) (s.rg.getD id.toNat 0) (s.sn.getD id.toNat 0) (imin (s.tr.getD id.toNat 0 + 1) 1099511627776) a1 a2 a3 (by rw [imin_e]; omega) hst
 rw [setD, setD, setD] at this
 exact this
theorem SR.pr_ok {s : SR} (h : s.ok = true) {id : Int} {p r : Int} (hi : id.toNat < s.nt) (hp : 0 ≤ p ∧ p ≤ 11) (hr : 0 ≤ r ∧ r ≤ 1099511627776) (hst : s.st.getD id.toNat 0 ≠ 0) : ({ s with rg := s.rg.set id.toNat r, pc := s.pc.set id.toNat p } : SR).ok = true := by
 obtain ⟨a1, a2, a3, a4⟩ := SR.th_in h hi
 have := SR.th4_ok h id.toNat p r (s.sn.getD id.toNat 0) (s.tr.getD id.toNat 0) hp hr a3 a4 hst
 rw [setD, setD] at this
 exact this
theorem SR.rg_ok {s : SR} (h : s.ok = true) {id : Int} {r : Int} (hi : id.toNat < s.nt) (hr : 0 ≤ r ∧ r ≤ 1099511627776) (hst : s.st.getD id.toNat 0 ≠ 0) : ({ s with rg := s.rg.set id.toNat r } : SR).ok = true := by
 obtain ⟨a1, a2, a3, a4⟩ := SR.th_in h hi
 have := SR.pr_ok h (p := s.pc.getD id.toNat 0) hi a1 hr hst
 rw [setD] at this
 exact this
theorem SR.ps_ok {s : SR} (h : s.ok = true) {id : Int} {p v : Int} (hi : id.toNat < s.nt) (hp : 0 ≤ p ∧ p ≤ 11) (hv : -1 ≤ v ∧ v ≤ 1099511627776) (hst : s.st.getD id.toNat 0 ≠ 0) : ({ s with sn := s.sn.set id.toNat v, pc := s.pc.set id.toNat p } : SR).ok = true := by
 obtain ⟨a1, a2, a3, a4⟩ := SR.th_in h hi
 have := SR.th4_ok h id.toNat p (s.rg.getD id.toNat 0) v (s.tr.getD id.toNat 0) hp a2 hv a4 hst
 rw [setD, setD] at this
 exact this
theorem SR.park_ok {s : SR} (h : s.ok = true) (hr : s.rows) {id q : Int} (hq : 0 ≤ q ∧ q ≤ 11) (hi : id.toNat < s.nt) (hst : s.st.getD id.toNat 0 = 1) (hs : 0 < opSide (s.kd.getD id.toNat 0)) : (s.park id q).ok = true := by
 have hz : thRuns (s.st.getD id.toNat 0) = 0 := by rw [hst]; rfl
 unfold SR.park
 simp only [hz, invI, if_true]
 refine SR.th_ok h ((SR.ok_iff2 s).1 h).1 rfl id.toNat (fun j hj => ?_) (fun hh => ?_)
 ·unfold SR.thok
  simp only [getD_ne hj]
 ·unfold SR.thok at hh ⊢
  dsimp only
  rw [thOk_iff] at hh ⊢
  rw [getD_is (by rw [hr.st]; exact hi), getD_is (by rw [hr.pc]; exact hi), getD_is (by rw [hr.tr]; exact hi)]
  obtain ⟨a1, a2, a3, a4, a5, a6, a10⟩ := hh
  exact ⟨by omega, a2, .inl hs, a4, a5, by omega, .inl (by omega)⟩
theorem accR_in {hd tl md room : Int} : 1 ≤ Go.Own.accR hd tl md room ∧ Go.Own.accR hd tl md room ≤ 7 := by
 unfold Go.Own.accR
 repeat' split
 all_goals omega
theorem takR_in {hd tl md room : Int} : 1 ≤ Go.Own.takR hd tl md room ∧ Go.Own.takR hd tl md room ≤ 7 := by
 unfold Go.Own.takR
 repeat' split
 all_goals omega
theorem SR.sv_ok {s : SR} (h : s.ok = true) (l : List Int) : ({ s with sv := l } : SR).ok = true := h
theorem SR.gt_ok {s : SR} (h : s.ok = true) (l : List Int) : ({ s with gt := l } : SR).ok = true := h
theorem SR.send_ok {s : SR} (h : s.ok = true) (hr : s.rows) (id : Int) : (s.send id).ok = true := by
 unfold SR.send
 split
 ·rename_i hd
  obtain ⟨_, c2, c3, q, hst1, hsd⟩ := SR.does_is hd
  have hst : s.st.getD id.toNat 0 ≠ 0 := by omega
  obtain ⟨L1, L2, L3, L4⟩ := SR.ok_lines h
  obtain ⟨E1, E2, E3, E4⟩ := SR.ok_ev h
  have hid : 0 ≤ id ∧ id < s.th := by have := (SR.ok_16 h).2.2; omega
  have hw := SR.ok_wd h
  have ha := @accR_in s.hd s.tl s.md s.ns
  split
  ·exact SR.at_ok (s := { s with n1 := lenI (enterL s.l1 id), l1 := enterL s.l1 id }) (SR.lines_ok h (okL_enter L1 hid) L2 L3 L4 E1 E2) (by omega) hst
  ·unfold SR.sFirst
   split
   ·exact SR.at_ok h (by omega) hst
   ·split
    ·exact SR.ends_ok h (by omega) hst
    ·exact SR.tries_ok h q hst
  ·unfold SR.sLook
   split
   ·exact SR.pr_ok h q (by omega) (by omega) hst
   ·split
    ·unfold SR.sFull
     split
     ·exact SR.ends_ok h (by omega) hst
     ·split
      ·exact SR.pr_ok h q (by omega) (by omega) hst
      ·split
       ·exact SR.ends_ok h (by omega) hst
       ·split
        ·exact SR.ends_ok h (by omega) hst
        ·split
         ·exact SR.at_ok h (by omega) hst
         ·exact SR.tries_ok h q hst
    ·exact SR.ends_ok h ⟨by show 0 ≤ s.accR; unfold SR.accR; omega, by show s.accR ≤ 7; unfold SR.accR; omega⟩ hst
  ·unfold SR.sWrite
   split
   ·exact SR.at_ok (SR.sv_ok h _) (by omega) hst
   ·exact h
  ·unfold SR.sAccept
   split
   ·exact SR.at_ok (SR.tell_ok (SR.acc_ok h) _ _ _ _ (by omega)) (by omega) (by rw [SR.tell_st]; exact hst)
   ·split
    ·exact SR.at_ok h (by omega) hst
    ·exact SR.ends_ok h ⟨by show 0 ≤ s.accR; unfold SR.accR; omega, by show s.accR ≤ 7; unfold SR.accR; omega⟩ hst
  ·exact SR.ps_ok h q (by omega) (prepE_in E1) hst
  ·have hx : s.rungE.ok = true := SR.lines_ok h L1 L2 L3 (okL_one L4) E1 (comeE_in E2)
   unfold SR.sNotify
   split
   ·refine SR.at_ok (SR.wake_ok hx _) (by omega) ?_
    have := SR.wake_st s.rungE (Go.Own.tellV s.ee s.l4) id.toNat (by show s.st.getD id.toNat 0 ≠ 2; omega)
    rw [this]
    exact hst
   ·exact SR.at_ok hx (by omega) hst
  ·unfold SR.sAgain
   split
   ·exact SR.at_ok h (by omega) hst
   ·exact SR.at_ok h (by omega) hst
  ·unfold SR.sCommit
   split
   ·exact SR.at_ok h (by omega) hst
   ·have hx : ({ s with n3 := lenI (commitL s.fe s.l3 (s.sn.getD id.toNat 0) id), l3 := commitL s.fe s.l3 (s.sn.getD id.toNat 0) id, pc := s.pc.set id.toNat 2 } : SR).ok = true :=
     SR.at_ok (s := { s with n3 := lenI (commitL s.fe s.l3 (s.sn.getD id.toNat 0) id), l3 := commitL s.fe s.l3 (s.sn.getD id.toNat 0) id }) (SR.lines_ok h L1 L2 (okL_commit L3 hid) L4 E1 E2) (by omega) hst
    have hrx : ({ s with n3 := lenI (commitL s.fe s.l3 (s.sn.getD id.toNat 0) id), l3 := commitL s.fe s.l3 (s.sn.getD id.toNat 0) id, pc := s.pc.set id.toNat 2 } : SR).rows := ((SR.f3_keep s s.fe _).trans (SR.at_keep _ id 2)).rows hr
    dsimp only
    split
    ·exact SR.park_ok hx hrx (by omega) q hst1 (by rw [hsd]; omega)
    ·exact hx
  ·exact SR.done_ok (s := { s with n1 := lenI (leaveL s.l1 id), l1 := leaveL s.l1 id }) (SR.lines_ok h (okL_leave L1) L2 L3 L4 E1 E2) ((SR.l1_keep s _).rows hr) id
  ·unfold SR.sEvict
   split
   ·exact SR.at_ok (SR.tell_ok (SR.ev_ok h _) _ _ _ _ (by omega)) (by omega) (by rw [SR.tell_st]; exact hst)
   ·exact SR.at_ok h (by omega) hst
  ·unfold SR.sRelease
   split
   ·exact SR.at_ok (SR.slots_ok h hr _) (by omega) hst
   ·exact SR.at_ok h (by omega) hst
  ·exact h
 ·exact h
theorem takP_in {hd tl md room : Int} (h : 0 ≤ hd ∧ hd ≤ 1099511627776) : 0 ≤ Go.Own.takP hd tl md room ∧ Go.Own.takP hd tl md room ≤ 1099511627776 := by
 unfold Go.Own.takP
 split <;> omega
theorem SR.recv_ok {s : SR} (h : s.ok = true) (hr : s.rows) (id : Int) : (s.recv id).ok = true := by
 unfold SR.recv
 split
 ·rename_i hd
  obtain ⟨_, c2, c3, q, hst1, hsd⟩ := SR.does_is hd
  have hst : s.st.getD id.toNat 0 ≠ 0 := by omega
  obtain ⟨L1, L2, L3, L4⟩ := SR.ok_lines h
  obtain ⟨E1, E2, E3, E4⟩ := SR.ok_ev h
  have hid : 0 ≤ id ∧ id < s.th := by have := (SR.ok_16 h).2.2; omega
  have hw := SR.ok_wd h
  have ha := @takR_in s.hd s.tl s.md s.ns
  split
  ·exact SR.at_ok (s := { s with n2 := lenI (enterL s.l2 id), l2 := enterL s.l2 id }) (SR.lines_ok h L1 (okL_enter L2 hid) L3 L4 E1 E2) (by omega) hst
  ·unfold SR.rFirst
   split
   ·exact SR.at_ok h (by omega) hst
   ·split
    ·exact SR.ends_ok h (by omega) hst
    ·exact SR.tries_ok h q hst
  ·unfold SR.rLook
   split
   ·exact SR.at_ok h (by omega) hst
   ·split
    ·unfold SR.rVain
     split
     ·exact SR.ends_ok h (by omega) hst
     ·split
      ·exact SR.ends_ok h (by omega) hst
      ·split
       ·exact SR.at_ok h (by omega) hst
       ·exact SR.tries_ok h q hst
    ·exact SR.ends_ok h ⟨by show 0 ≤ s.takR; unfold SR.takR; omega, by show s.takR ≤ 7; unfold SR.takR; omega⟩ hst
  ·unfold SR.rTake
   split
   ·exact SR.at_ok (SR.tell_ok (SR.rg_ok (s := { s with hd := Go.Own.takH s.hd s.tl s.md s.ns }) (SR.tak_ok h) q (takP_in (by omega)) hst) _ _ _ _ (by omega)) (by omega) (by rw [SR.tell_st]; exact hst)
   ·split
    ·exact SR.at_ok h (by omega) hst
    ·exact SR.ends_ok h ⟨by show 0 ≤ s.takR; unfold SR.takR; omega, by show s.takR ≤ 7; unfold SR.takR; omega⟩ hst
  ·exact SR.at_ok (SR.gt_ok (SR.slots_ok h hr _) _) (by omega) hst
  ·exact SR.ps_ok h q (by omega) (prepE_in E2) hst
  ·have hx : s.rungF.ok = true := SR.lines_ok h L1 L2 (okL_one L3) L4 (comeE_in E1) E2
   unfold SR.rNotify
   split
   ·refine SR.at_ok (SR.wake_ok hx _) (by omega) ?_
    have := SR.wake_st s.rungF (Go.Own.tellV s.fe s.l3) id.toNat (by show s.st.getD id.toNat 0 ≠ 2; omega)
    rw [this]
    exact hst
   ·exact SR.at_ok hx (by omega) hst
  ·unfold SR.rAgain
   split
   ·exact SR.at_ok h (by omega) hst
   ·exact SR.at_ok h (by omega) hst
  ·unfold SR.rCommit
   split
   ·exact SR.at_ok h (by omega) hst
   ·have hx : ({ s with n4 := lenI (commitL s.ee s.l4 (s.sn.getD id.toNat 0) id), l4 := commitL s.ee s.l4 (s.sn.getD id.toNat 0) id, pc := s.pc.set id.toNat 2 } : SR).ok = true :=
     SR.at_ok (s := { s with n4 := lenI (commitL s.ee s.l4 (s.sn.getD id.toNat 0) id), l4 := commitL s.ee s.l4 (s.sn.getD id.toNat 0) id }) (SR.lines_ok h L1 L2 L3 (okL_commit L4 hid) E1 E2) (by omega) hst
    have hrx : ({ s with n4 := lenI (commitL s.ee s.l4 (s.sn.getD id.toNat 0) id), l4 := commitL s.ee s.l4 (s.sn.getD id.toNat 0) id, pc := s.pc.set id.toNat 2 } : SR).rows := ((SR.f4_keep s s.ee _).trans (SR.at_keep _ id 2)).rows hr
    dsimp only
    split
    ·exact SR.park_ok hx hrx (by omega) q hst1 (by rw [hsd]; omega)
    ·exact hx
  ·exact SR.done_ok (s := { s with n2 := lenI (leaveL s.l2 id), l2 := leaveL s.l2 id }) (SR.lines_ok h L1 (okL_leave L2) L3 L4 E1 E2) ((SR.l2_keep s _).rows hr) id
 ·exact h
theorem SR.pick_ok {s : SR} (h : s.ok = true) (hr : s.rows) (id : Int) : (s.pick id).ok = true := by
 unfold SR.pick
 split
 ·unfold SR.turn
  split
  ·exact SR.send_ok h hr id
  ·split
   ·exact SR.recv_ok h hr id
   ·exact SR.step_ok h hr id
 ·exact h
theorem SR.ok_fit {s : SR} (h : s.ok = true) (hr : s.rows) (hn : s.nl ≤ 1000000) : s.fit = true := by
 obtain ⟨L1, L2, L3, L4⟩ := SR.ok_lines h
 obtain ⟨q1, q2, q3⟩ := SR.ok_16 h
 have hw := SR.ok_wd h
 have hns := SR.ok_ns h
 have hl : ∀ l, okL s.th l → l.length ≤ 16 := by
  intro l hl
  exact nodup_le 16 l hl.2 (fun x hx => by have := hl.1 x hx; omega)
 have e1 := hl _ L1
 have e2 := hl _ L2
 have e3 := hl _ L3
 have e4 := hl _ L4
 rw [hr.l1] at e1
 rw [hr.l2] at e2
 rw [hr.l3] at e3
 rw [hr.l4] at e4
 refine (SR.fit_iff s).2 ⟨?_, by omega⟩
 simp only [in64, Bool.and_eq_true, decide_eq_true_eq]
 omega
theorem SR.pick_not {s : SR} (h : s.ok = false) (id : Int) : s.pick id = s := by
 unfold SR.pick SR.pickE
 rw [h]
 rfl
theorem SR.pick_fit {s : SR} (hr : s.rows) (hf : s.fit = true) (hn : s.nl + 1 ≤ 1000000) (id : Int) : (s.pick id).fit = true := by
 cases h : s.ok with
 | true =>
  have hk := SR.pick_keep s id
  exact SR.ok_fit (SR.pick_ok h hr id) (hk.rows hr) (by have := hk.nl; omega)
 | false => rw [SR.pick_not h]; exact hf
end Go.Own
end
