/- What stands behind it, part 13. -/
import Derived.Test.YtllmihapajeeiaaGreatW12
set_option linter.unusedVariables false
set_option linter.unusedSimpArgs false
section
namespace Go.Own
open Go Go.Proofs
set_option maxRecDepth 100000
set_option maxHeartbeats 4000000
def SR.callS (s : SR) (k th v u : Int) : SR := if callE k th v u = 0 then (if k = 11 then s.tick v else if k = 10 then s.pick th else s.inv th k v (iadd .i64 s.now u)) else s
def SR.callR (s : SR) (k th v u : Int) : Int := if callE k th v u = 0 then (if k = 11 then s.tickE v else if k = 10 then s.pickE th else s.invE th k (iadd .i64 s.now u)) else callE k th v u
def SR.somes (s : SR) (l : List Int) (i : Nat) : SR := (l.drop i).foldl SR.pick s
def SR.someN : List Int → SR → Int → Int
 | [], _, n => n
 | x :: l, s, n => SR.someN l (s.pick x) (if s.pickE x = 0 then n + 1 else n)
def SR.countN (s : SR) (l : List Int) (i : Nat) (n : Int) : Int := SR.someN (l.drop i) s n
def runsB (st : List Int) (k : Nat) : Bool := decide (thRuns (st.getD k 0) = 0)
def actL (n : Nat) (st : List Int) (out : List Int) (i : Nat) : List Int := out ++ (((List.range n).drop i).filter (runsB st)).map Int.ofNat
def SR.actives (s : SR) : List Int := if s.ok then actL s.nt s.st [] 0 else []
def upTo (out : List Int) (n i : Nat) : List Int := out ++ ((List.range n).drop i).map Int.ofNat
def SR.roundF : Nat → SR → Int → SR × Int
 | 0, s, k => (s, k)
 | f + 1, s, k => if lenI s.actives = 0 then (s, k) else SR.roundF f (s.somes (upTo [] s.nt 0) 0) (k + 1)
def SR.rounds (s : SR) (many : Int) : SR × Int := SR.roundF (nOf (imin (imax many 0) 200)) s 0
def tabF0 : List (FuncId × Pure1) := [(79, Ftick)] ++ tabX4
theorem ok_tabF0 : ∀ p ∈ tabF0, PureOK Tryz.prog p.1 p.2 := by
 intro p hp
 simp only [tabF0, List.mem_append, List.mem_cons, List.not_mem_nil, or_false] at hp
 rcases hp with (rfl) | hp
 ·exact ok_tick
 ·exact ok_tabX4 p hp
def Fwtick : Pure1 := fun
 | [.agg [.int .i64 k, .int .i64 th, .int .i64 v, .int .i64 u], a_s] => (match asSR a_s with | some s => some (some (SR.fit s), .tup [SR.new (SR.tick s v), .int .i64 (SR.tickE s v)]) | none => none)
 | _ => none
theorem vc_wtick (k th v u : Int) (s : SR) (r : AV) : VC Tryz.prog (tabS tabF0) noL true 54 [.agg [.int .i64 k, .int .i64 th, .int .i64 v, .int .i64 u], s.av] r = (
 asrt s.fit (some (AV.tup [AV.agg (SR.nw (s.tick v)), AV.int .i64 (s.tickE v)]) = some r)) := by kernel_rfl
theorem ok_wtick : PureOK Tryz.prog 54 Fwtick := by
 refine tab_plain mixed (l := tabF0) ok_tabF0 true (by kernel_rfl) fun xs b r h hb wf => ?_
 unfold Fwtick at h
 split at h
 ·rename_i k th v u a_s
  split at h
  ·rename_i s h_s
   obtain rfl := asSR_some h_s
   cases h
   try rw [some_f] at hb
   simp only [WFL, WF, List.mem_cons, List.not_mem_nil, or_false, forall_eq_or_imp, forall_eq, Col.len, and_true, true_and, wf_av] at wf
   rw [vc_wtick]
   dsimp only [SR.nw]
   rw [hb]; rfl
  ·cases h
 ·cases h
def tabF1 : List (FuncId × Pure1) := [(54, Fwtick), (55, Fwpick), (27, Fwinvoke), (24, FcallE)] ++ tabF0
theorem ok_tabF1 : ∀ p ∈ tabF1, PureOK Tryz.prog p.1 p.2 := by
 intro p hp
 simp only [tabF1, List.mem_append, List.mem_cons, List.not_mem_nil, or_false] at hp
 rcases hp with (rfl | rfl | rfl | rfl) | hp
 ·exact ok_wtick
 ·exact ok_wpick
 ·exact ok_winvoke
 ·exact ok_callE
 ·exact ok_tabF0 p hp
def Fdocall : Pure1 := fun
 | [a_s, .agg [.int .i64 k, .int .i64 th, .int .i64 v, .int .i64 u]] => (match asSR a_s with | some s => some (some (SR.fit s), .tup [SR.new (SR.callS s k th v u), .int .i64 (SR.callR s k th v u)]) | none => none)
 | _ => none
theorem vc_docall (s : SR) (k th v u : Int) (r : AV) : VC Tryz.prog (bornTab [(26, byE)] (tabS tabF1)) noL true 10 [s.av, .agg [.int .i64 k, .int .i64 th, .int .i64 v, .int .i64 u]] r = (
 br (ine (callE k th v u) 0) (asrt s.fit (some (AV.tup [AV.agg (SR.nw (s.wake (-1))), AV.int .i64 (callE k th v u)]) = some r)) (br (ieq k 11) (asrt s.fit (some (AV.tup [AV.agg
 (SR.nw (s.tick v)), AV.int .i64 (s.tickE v)]) = some r)) (br (ieq k 10) (asrt s.fit (some (AV.tup [AV.agg (SR.nw (s.pick th)), AV.int .i64 (s.pickE th)]) = some r)) (asrt s.fitW
 (some (AV.tup [AV.agg (SR.nw (s.inv th k v (iadd .i64 s.24 u))), AV.int .i64 (s.invE th k (iadd .i64 s.24 u))]) = some r))))) := by kernel_rfl
theorem ok_docall : PureOK Tryz.prog 10 Fdocall := by
 refine bornTab_plain mixed (l := tabF1) ok_tabF1 (ms := [(26, byE)]) (fun m hm => by simp only [List.mem_cons, List.not_mem_nil, or_false] at hm; subst hm; exact ok_byE) true (by kernel_rfl) fun xs b r h hb wf => ?_
 unfold Fdocall at h
 split at h
 ·rename_i a_s k th v u
  split at h
  ·rename_i s h_s
   obtain rfl := asSR_some h_s
   cases h
   try rw [some_f] at hb
   simp only [WFL, WF, List.mem_cons, List.not_mem_nil, or_false, forall_eq_or_imp, forall_eq, Col.len, and_true, true_and, wf_av] at wf
   rw [vc_docall]
   dsimp only [SR.nw]
   simp only [SR.wake_neg]
   have hw : s.fitW = true := by simp [SR.fitW_fit, hb]
   rw [hb, hw]
   simp only [asrt_tt]
   unfold SR.callS SR.callR
   by_cases c0 : callE k th v u = 0
   ·have hc : ine (callE k th v u) 0 = false := by rw [ine_f]; exact c0
    rw [hc, br_ff, if_pos c0, if_pos c0]
    by_cases c1 : k = 11
    ·simp only [c1, ieq_d, decide_true, br_tt, if_true]; rfl
    ·by_cases c2 : k = 10
     ·simp only [c1, c2, ieq_d, Int.reduceEq, decide_true, decide_false, br_tt, br_ff, if_true, if_false]; rfl
     ·simp only [c1, c2, ieq_d, decide_false, br_ff, if_false]; rfl
   ·have hc : ine (callE k th v u) 0 = true := by rw [ine_t]; exact c0
    rw [hc, br_tt, if_neg c0, if_neg c0]
    rfl
  ·cases h
 ·cases h
theorem actL_step {n : Nat} {st out : List Int} {i : Nat} (h : i < n) : actL n st out i = actL n st (if runsB st i then out ++ [(i : Int)] else out) (i + 1) := by
 unfold actL
 rw [List.drop_eq_getElem_cons (by simpa using h)]
 simp only [List.getElem_range, List.filter_cons]
 cases runsB st i <;> simp
theorem actL_end {n : Nat} {st out : List Int} {i : Nat} (h : n ≤ i) : actL n st out i = out := by
 unfold actL
 rw [List.drop_eq_nil_of_le (by simpa using h)]
 simp
def spec_active : LoopSpec := { n := 25, keep := [2, 9, 10, 11], srcs := [.tmp 2], keepE := [2], srcsE := [.tmp 2], goes := fun vals objs Q => match vals, objs with
 | [.full 0, .sl n [.int .i64 st, .int .i64 kd, .int .i64 vl, .int .i64 un, .int .i64 pc, .int .i64 rg, .int .i64 sn, .int .i64 tr, .bool lt, .int .i64 rs, .int .i64 gt], .int .i64 m, .int .i64 i], [some (.row 3 k [.int .i64 out])] => asrt (band (nle n 1000000) (band (ieq m (ofN n)) (band (ile 0 i) (band (ile i (ofN n)) (nle k (nOf i)))))) (Q (.exit 0) [.full 0] [some (.row 3 (lenI (actL n st out (nOf i))) [.int .i64 (actL n st out (nOf i))])])
 | _, _ => False }
def zq158 (st : List Int) (kd : List Int) (vl : List Int) (un : List Int) (pc : List Int) (rg : List Int) (sn : List Int) (tr : List Int) (lt : List Bool) (rs : List Int) (gt : List Int) : List Col :=
 [.int .i64 st, .int .i64 kd, .int .i64 vl, .int .i64 un, .int .i64 pc, .int .i64 rg, .int .i64 sn, .int .i64 tr, Col.bool lt, .int .i64 rs, .int .i64 gt]
def zq159 (n : Nat) (st : List Int) (kd : List Int) (vl : List Int) (un : List Int) (pc : List Int) (rg : List Int) (sn : List Int) (tr : List Int) (lt : List Bool) (rs : List Int) (gt : List Int) (m : Int) (i : Int) : List AV :=
 [AV.full 0, AV.sl n (zq158 st kd vl un pc rg sn tr lt rs gt), AV.int .i64 m, AV.int .i64 (iadd .i64 i 1)]
def zq160 (k : Nat) (out : List Int) : Heap :=
 [some (AObj.row 3 k [.int .i64 out])]
def zq161 (n : Nat) (st : List Int) (kd : List Int) (vl : List Int) (un : List Int) (pc : List Int) (rg : List Int) (sn : List Int) (tr : List Int) (lt : List Bool) (rs : List Int) (gt : List Int) (m : Int) (i : Int) : List AV :=
 [AV.full 0, AV.sl n (zq158 st kd vl un pc rg sn tr lt rs gt), AV.int .i64 m, AV.int .i64 i]
def zq162 (i : Int) : Int :=
 iadd .i64 i 1
theorem lp_active (n : Nat) (st kd vl un pc rg sn tr : List Int) (lt : List Bool) (rs gt : List Int) (m i : Int) (k : Nat) (out : List Int) (mu : List AV → Heap → Nat) (Q : Ex → List AV → Heap → Prop) : runCode Tryz.prog (tabS tabSa) (callN Tryz.prog (tabS tabSa) noL 11) (fun _ => none) (bodyOf Tryz.prog 47 0) 0 ⟨mkT (spec_active).keep [.full 0, .sl n [.int .i64 st, .int .i64 kd, .int .i64 vl, .int .i64 un, .int .i64 pc, .int .i64 rg, .int .i64 sn, .int .i64 tr, .bool lt, .int .i64 rs, .int .i64 gt], .int .i64 m, .int .i64 i] (spec_active).n 0, [some (.row 3 k [.int .i64 out])]⟩ ((spec_active).ends mu [.full 0, .sl n [.int .i64 st, .int .i64 kd, .int .i64 vl, .int .i64 un, .int .i64 pc, .int .i64 rg, .int .i64 sn, .int .i64 tr, .bool lt, .int .i64 rs, .int .i64 gt], .int .i64 m, .int .i64 i] ([some (.row 3 k [.int .i64 out])]) Q) = (
 br (ilt i m) (asrt (band (ile 0 i) (ilt i (ofN n))) (br (ieq (thRuns (gI st (nOf i))) 0) (asrt (nle (nAdd k 1) 17592186044416) ((mu (zq159 n st kd vl un pc rg sn tr lt rs gt m i)
 [some (AObj.row 3 (nAdd k 1) [.int .i64 (cat out [i])])]).succ.le (mu (zq161 n st kd vl un pc rg sn tr lt rs gt m i) (zq160 k out)) ∧ asrt (band (nle n 1000000) (band (ieq m (ofN
 n)) (band (ile 0 (zq162 i)) (band (ile (zq162 i) (ofN n)) (nle (nAdd k 1) (nOf (zq162 i))))))) (Q (Ex.exit 0) [AV.full 0] [some (AObj.row 3 (lenI (actL n st (cat out [i]) (nOf
 (zq162 i)))) [.int .i64 (actL n st (cat out [i]) (nOf (zq162 i)))])]))) ((mu (zq159 n st kd vl un pc rg sn tr lt rs gt m i) (zq160 k out)).succ.le (mu (zq161 n st kd vl un pc rg sn
 tr lt rs gt m i) (zq160 k out)) ∧ asrt (band (nle n 1000000) (band (ieq m (ofN n)) (band (ile 0 (zq162 i)) (band (ile (zq162 i) (ofN n)) (nle k (nOf (zq162 i))))))) (Q (Ex.exit 0)
 [AV.full 0] [some (AObj.row 3 (lenI (actL n st out (nOf (zq162 i)))) [.int .i64 (actL n st out (nOf (zq162 i)))])])))) (Q (Ex.exit 0) [AV.full 0] (zq160 k out))) := by kernel_rfl
theorem loop_active : LoopOK Tryz.prog (bodyOf Tryz.prog 47 0) spec_active.summ := by
 refine tab_loop mixed (l := tabSa) ok_tabSa (i := 0) spec_active (fun vals objs => match vals, objs with
  | [.full 0, .sl n [.int .i64 st, .int .i64 kd, .int .i64 vl, .int .i64 un, .int .i64 pc, .int .i64 rg, .int .i64 sn, .int .i64 tr, .bool lt, .int .i64 rs, .int .i64 gt], .int .i64 m, .int .i64 i], [some (.row 3 k [.int .i64 out])] => (m - i).toNat
  | _, _ => 0) fun vals objs Q h1 h2 wf wo hg => ?_
 unfold spec_active at hg
 simp only at hg
 split at hg
 ·rename_i n st kd vl un pc rg sn tr lt rs gt m i k out
  clear h1 h2
  try simp only [WFL, WF, List.mem_cons, List.not_mem_nil, or_false, forall_eq_or_imp, forall_eq, Col.len, and_true, true_and] at wf
  rw [lp_active]
  dsimp only [zq158, zq159, zq160, zq161, zq162]
  have wl : out.length = k := by simpa [WFO, Col.len] using wo (some (.row 3 k [.int .i64 out])) (by simp) _ rfl
  simp only [asrt_iff, band_t, nle_t, ieq_t, ile_t, ofN_e] at hg
  obtain ⟨⟨hn, rfl, h0, hi, hk⟩, hg⟩ := hg
  obtain ⟨j, rfl⟩ := Int.eq_ofNat_of_zero_le h0
  have hw : IntKind.i64.wrap ((j : Int) + 1) = (j : Int) + 1 := wr (by omega) (by omega)
  have e4 : nOf (iadd .i64 (j : Int) 1) = j + 1 := by rw [iadd_e, hw, nOf_e]; omega
  have e6 : nOf (j : Int) = j := by rw [nOf_e]; omega
  rw [e6] at hk hg
  rw [br_iff, ilt_t, ilt_f]
  refine ⟨fun hj => ?_, fun hj => ?_⟩
  ·have hj' : j < n := by omega
   rw [actL_step hj'] at hg
   have hmu : ((n : Int) - iadd .i64 (j : Int) 1).toNat.succ.le ((n : Int) - (j : Int)).toNat := by
    rw [iadd_e, hw]
    exact Nat.succ_le_of_lt (by omega)
   have b1 : band (ile 0 (j : Int)) (ilt (j : Int) (ofN n)) = true := by simp only [band_t, ile_t, ilt_t, ofN_e]; omega
   have hb0 : ∀ p : Nat, p ≤ j + 1 → band (nle n 1000000) (band (ieq (n : Int) (ofN n)) (band (ile 0 (iadd .i64 (j : Int) 1)) (band (ile (iadd .i64 (j : Int) 1) (ofN n)) (nle p (j + 1))))) = true := by
    intro p hp
    simp only [band_t, nle_t, ieq_t, ile_t, ofN_e, iadd_e, hw]
    exact ⟨hn, trivial, by omega, by omega, hp⟩
   have b2 : nle (nAdd k 1) 17592186044416 = true := by simp only [nle_t, nAdd_e]; omega
   simp only [b1, b2, e6, e4, asrt_tt, hb0 k (by omega), hb0 (nAdd k 1) (by rw [nAdd_e]; omega)]
   cases hr : runsB st j with
   | true =>
    have e7 : ieq (thRuns (gI st j)) 0 = true := by rw [ieq_t]; simpa [runsB, gI_d] using hr
    rw [if_pos hr] at hg
    rw [e7, br_tt]
    exact ⟨hmu, hg⟩
   | false =>
    have e7 : ieq (thRuns (gI st j)) 0 = false := by rw [ieq_f]; simpa [runsB, gI_d] using hr
    rw [if_neg (by rw [hr]; simp)] at hg
    rw [e7, br_ff]
    exact ⟨hmu, hg⟩
  ·have hj' : n ≤ j := by omega
   rw [actL_end hj', lenI_e, wl] at hg
   exact hg
 ·exact hg.elim
def Lactive : Nat → Option LoopS := fun i => match i with
 | 0 => some (.summ spec_active.summ)
 | _ => none
theorem ok_Lactive : ∀ i x, Lactive i = some x → LoopHyp Tryz.prog 47 i x := by
 intro i s h
 unfold Lactive at h
 split at h
 ·cases h; exact ⟨by kernel_rfl, loop_active⟩
 ·cases h
def Factive : Pure1 := fun
 | [a_s] => (match asSR a_s with | some s => some (some (SR.fit s), .own 3 (lenI (SR.actives s)) [.int .i64 (SR.actives s)]) | none => none)
 | _ => none
theorem vc_active (s : SR) (r : AV) : VC Tryz.prog (tabS tabSa) (oneL 47 Lactive) true 47 [s.av] r = (
 asrt s.fitW (br (bnot s.ok) (some (AV.own 3 0 [.int .i64 []]) = some r) (asrt (band (nle s.25 1000000) (band (ieq (ofN s.25) (ofN s.25)) (band (ile 0 (ofN s.25)) true))) (some
 (AV.own 3 (lenI (actL s.25 s.26 [] 0)) [.int .i64 (actL s.25 s.26 [] 0)]) = some r)))) := by kernel_rfl
theorem ok_active : PureOK Tryz.prog 47 Factive := by
 refine tab_loops mixed (l := tabSa) ok_tabSa true Lactive (by kernel_rfl) ok_Lactive fun xs b r h hb wf => ?_
 unfold Factive at h
 split at h
 ·rename_i a_s
  split at h
  ·rename_i s h_s
   obtain rfl := asSR_some h_s
   cases h
   try rw [some_f] at hb
   simp only [WFL, WF, List.mem_cons, List.not_mem_nil, or_false, forall_eq_or_imp, forall_eq, Col.len, and_true, true_and, wf_av] at wf
   rw [vc_active]
   have hw : s.fitW = true := by simp [SR.fitW_fit, hb]
   have hn := ((SR.fit_iff s).1 hb).2.2.2.2.2.2.1
   have b2 : band (nle s.nt 1000000) (band (ieq (ofN s.nt) (ofN s.nt)) (band (ile 0 (ofN s.nt)) true)) = true := by
    simp only [band_t, nle_t, ieq_t, ile_t, ofN_e, and_true]
    exact ⟨hn, trivial, by omega⟩
   rw [hw, b2]
   unfold SR.actives
   cases c : s.ok <;> rfl
  ·cases h
 ·cases h
def tabF2 : List (FuncId × Pure1) := [(47, Factive)] ++ tabF1
theorem ok_tabF2 : ∀ p ∈ tabF2, PureOK Tryz.prog p.1 p.2 := by
 intro p hp
 simp only [tabF2, List.mem_append, List.mem_cons, List.not_mem_nil, or_false] at hp
 rcases hp with (rfl) | hp
 ·exact ok_active
 ·exact ok_tabF1 p hp
def Fquiet : Pure1 := fun
 | [a_s] => (match asSR a_s with | some s => some (some (SR.fit s), .bool (ieq (ofN (lenI (SR.actives s))) 0)) | none => none)
 | _ => none
theorem vc_quiet (s : SR) (r : AV) : VC Tryz.prog (tabS tabF2) noL false 20 [s.av] r = (
asrt s.fit (some (AV.bool (ieq (ofN (lenI s.actives)) 0)) = some r)) := by kernel_rfl
theorem ok_quiet : PureOK Tryz.prog 20 Fquiet := by
 refine tab_plain mixed (l := tabF2) ok_tabF2 false (by kernel_rfl) fun xs b r h hb wf => ?_
 unfold Fquiet at h
 split at h
 ·rename_i a_s
  split at h
  ·rename_i s h_s
   obtain rfl := asSR_some h_s
   cases h
   try rw [some_f] at hb
   simp only [WFL, WF, List.mem_cons, List.not_mem_nil, or_false, forall_eq_or_imp, forall_eq, Col.len, and_true, true_and, wf_av] at wf
   rw [vc_quiet]
   rw [hb]; rfl
  ·cases h
 ·cases h
def somOk (s : SR) (n : Nat) (m i c : Int) : Bool := s.fit && decide (m = n ∧ 0 ≤ i ∧ i ≤ n ∧ n ≤ 1000000 ∧ s.nl + (n - i.toNat) ≤ 1000000 ∧ 0 ≤ c ∧ c ≤ i)
def somG (s : SR) (n : Nat) : Bool := s.fit && decide (s.nl + n ≤ 1000000)
def SR.quietIn : Nat → SR → Bool
 | 0, _ => false
 | f + 1, s => if lenI s.actives = 0 then true else SR.quietIn f (s.somes (upTo [] s.nt 0) 0)
def rndOk (s : SR) (n : Nat) (l : List Int) (lim k : Int) : Bool := s.fit && decide (s.nl + 16 * (lim - k).toNat ≤ 1000000 ∧ s.nt ≤ 16 ∧ n = s.nt ∧ l = upTo [] s.nt 0 ∧ 0 ≤ k ∧ k ≤ lim ∧ lim ≤ 200)
def rndG (s : SR) : Bool := s.fit && decide (s.nl + 4000 ≤ 1000000 ∧ s.nt ≤ 16)
def rowsR (s : SR) : Heap := [some (.row 88 s.ns [.int .i64 s.ss, .int .i64 s.sv]), some (.row 3 s.n1 [.int .i64 s.l1]), some (.row 3 s.n2 [.int .i64 s.l2]), some (.row 3 s.n3 [.int .i64 s.l3]), some (.row 3 s.n4 [.int .i64 s.l4]), some (.row 51 s.nt [.int .i64 s.st, .int .i64 s.kd, .int .i64 s.vl, .int .i64 s.un, .int .i64 s.pc, .int .i64 s.rg, .int .i64 s.sn, .int .i64 s.tr, .bool s.lt, .int .i64 s.rs, .int .i64 s.gt]), some (.row 53 s.nl [.int .i64 s.c0, .int .i64 s.ks, .int .i64 s.vs, .int .i64 s.rr, .int .i64 s.gs])]
def rndIn (z s : SR) : Heap := some (.var z.cells) :: some (.var (s.boxL 2)) :: rowsR s
def rndOut (s : SR) : Heap := some (.var (s.boxL 2)) :: some (.var (s.boxL 2)) :: rowsR s
def asRnd : Heap → Option (SR × SR)
 | [some (.var c_z), some (.var [a0, a1, a2, a3, a4, a5, a6, a7, a8, a9, .full 2, .full 3, .full 4, a13, .full 5, a15, .full 6, a17, .full 7, .full 8]), some (.row 88 m0 q0), some (.row 3 m1 q1), some (.row 3 m2 q2), some (.row 3 m3 q3), some (.row 3 m4 q4), some (.row 51 m5 q5), some (.row 53 m6 q6)] =>
  (match asSR (.agg c_z) with
  | some z => (match asSR (.agg [a0, a1, a2, a3, a4, a5, a6, a7, a8, a9, .sl m0 q0, .sl m1 q1, .sl m2 q2, a13, .sl m3 q3, a15, .sl m4 q4, a17, .sl m5 q5, .sl m6 q6]) with
   | some s => some (z, s)
   | none => none)
  | none => none)
 | _ => none
theorem asRnd_some {os : Heap} {z s : SR} (h : asRnd os = some (z, s)) : os = rndIn z s := by
 unfold asRnd at h
 split at h
 ·split at h
  ·rename_i z' hz
   split at h
   ·rename_i s' hs
    cases h
    have := asSR_some hs
    have hz2 := asSR_some hz
    simp only [SR.av, AV.agg.injEq] at hz2
    subst hz2
    simp only [SR.av, SR.cells, AV.agg.injEq, List.cons.injEq, AV.sl.injEq, and_true] at this
    obtain ⟨rfl, rfl, rfl, rfl, rfl, rfl, rfl, rfl, rfl, rfl, ⟨rfl, rfl⟩, ⟨rfl, rfl⟩, ⟨rfl, rfl⟩, rfl, ⟨rfl, rfl⟩, rfl, ⟨rfl, rfl⟩, rfl, ⟨rfl, rfl⟩, rfl, rfl⟩ := this
    rfl
   ·cases h
  ·cases h
 ·cases h
theorem rows_of {s : SR} {H : Heap} (wo : WFH H) (hs : ∀ o ∈ rowsR s, o ∈ H) : s.rows := by
 have h0 := wo (some (.row 88 s.ns [.int .i64 s.ss, .int .i64 s.sv])) (hs _ (by simp [rowsR])) _ rfl
 have h1 := wo (some (.row 3 s.n1 [.int .i64 s.l1])) (hs _ (by simp [rowsR])) _ rfl
 have h2 := wo (some (.row 3 s.n2 [.int .i64 s.l2])) (hs _ (by simp [rowsR])) _ rfl
 have h3 := wo (some (.row 3 s.n3 [.int .i64 s.l3])) (hs _ (by simp [rowsR])) _ rfl
 have h4 := wo (some (.row 3 s.n4 [.int .i64 s.l4])) (hs _ (by simp [rowsR])) _ rfl
 have h5 := wo (some (.row 51 s.nt [.int .i64 s.st, .int .i64 s.kd, .int .i64 s.vl, .int .i64 s.un, .int .i64 s.pc, .int .i64 s.rg, .int .i64 s.sn, .int .i64 s.tr, .bool s.lt, .int .i64 s.rs, .int .i64 s.gt])) (hs _ (by simp [rowsR])) _ rfl
 have h6 := wo (some (.row 53 s.nl [.int .i64 s.c0, .int .i64 s.ks, .int .i64 s.vs, .int .i64 s.rr, .int .i64 s.gs])) (hs _ (by simp [rowsR])) _ rfl
 simp only [WFO, List.mem_cons, List.not_mem_nil, or_false, forall_eq_or_imp, forall_eq, Col.len] at h0 h1 h2 h3 h4 h5 h6
 exact ⟨h0.1, h0.2, h1, h2, h3, h4, h5.1, h5.2.1, h5.2.2.1, h5.2.2.2.1, h5.2.2.2.2.1, h5.2.2.2.2.2.1, h5.2.2.2.2.2.2.1, h5.2.2.2.2.2.2.2.1, h5.2.2.2.2.2.2.2.2.1, h5.2.2.2.2.2.2.2.2.2.1, h5.2.2.2.2.2.2.2.2.2.2, h6.1, h6.2.1, h6.2.2.1, h6.2.2.2.1, h6.2.2.2.2⟩
theorem SR.somes_lt (s : SR) (l : List Int) {i : Nat} (h : i < l.length) : s.somes l i = (s.pick (l.getD i 0)).somes l (i + 1) := by
 unfold SR.somes
 rw [List.drop_eq_getElem_cons h, List.foldl_cons]
 simp [h]
theorem SR.somes_ge (s : SR) (l : List Int) {i : Nat} (h : l.length ≤ i) : s.somes l i = s := by
 unfold SR.somes
 rw [List.drop_eq_nil_of_le h]
 rfl
theorem SR.count_lt (s : SR) (l : List Int) (n : Int) {i : Nat} (h : i < l.length) : s.countN l i n = (s.pick (l.getD i 0)).countN l (i + 1) (if s.pickE (l.getD i 0) = 0 then n + 1 else n) := by
 unfold SR.countN
 rw [List.drop_eq_getElem_cons h]
 simp [SR.someN, h]
theorem SR.count_ge (s : SR) (l : List Int) (n : Int) {i : Nat} (h : l.length ≤ i) : s.countN l i n = n := by
 unfold SR.countN
 rw [List.drop_eq_nil_of_le h]
 rfl
def tabG0 : List (FuncId × Pure1) := [(39, Fpick)] ++ tabF2
theorem ok_tabG0 : ∀ p ∈ tabG0, PureOK Tryz.prog p.1 p.2 := by
 intro p hp
 simp only [tabG0, List.mem_append, List.mem_cons, List.not_mem_nil, or_false] at hp
 rcases hp with (rfl) | hp
 ·exact ok_pick
 ·exact ok_tabF2 p hp
def spec_some : LoopSpec := { n := 34, keep := [4, 6, 7, 14, 15, 16], srcs := [.tmp 4, .tmp 6, .cell 1 10, .cell 1 11, .cell 1 12, .cell 1 14, .cell 1 16, .cell 1 18, .cell 1 19], keepE := [4, 6, 7], srcsE := [.tmp 4, .tmp 6, .cell 1 10, .cell 1 11, .cell 1 12, .cell 1 14, .cell 1 16, .cell 1 18, .cell 1 19], goes := fun vals objs Q => match vals with
 | [.ptr 0 0 0, .ptr 1 0 0, .int .i64 c, .sl n [.int .i64 l], .int .i64 m, .int .i64 i] => (match asRnd objs with
  | some (z, s) => asrt (somOk s n m i c) (Q (.exit 0) [.ptr 0 0 0, .ptr 1 0 0, .int .i64 (SR.countN s l (nOf i) c)] (rndIn z (SR.somes s l (nOf i))))
  | none => False)
 | _ => False }
def zq163 (z : SR) (s : SR) : Heap :=
 [some (AObj.var (SR.cl z)), some (AObj.var [AV.int .i64 s.1, AV.int .i64 s.2, AV.int .i64 s.3, AV.int .i64 s.4, AV.int .i64 s.5, AV.int .i64 s.6, AV.bool s.7, AV.int .i64 s.8,
 AV.int .i64 s.9, AV.int .i64 s.10, AV.full 2, AV.full 3, AV.full 4, AV.int .i64 s.18, AV.full 5, AV.int .i64 s.21, AV.full 6, AV.int .i64 s.24, AV.full 7, AV.full 8]), some
 (AObj.row 88 s.11 [.int .i64 s.12, .int .i64 s.13]), some (AObj.row 3 s.14 [.int .i64 s.15]), some (AObj.row 3 s.16 [.int .i64 s.17]), some (AObj.row 3 s.19 [.int .i64 s.20]), some
 (AObj.row 3 s.22 [.int .i64 s.23]), some (AObj.row 51 s.25 [.int .i64 s.26, .int .i64 s.27, .int .i64 s.28, .int .i64 s.29, .int .i64 s.30, .int .i64 s.31, .int .i64 s.32, .int .i64
 s.33, Col.bool s.34, .int .i64 s.35, .int .i64 s.36]), some (AObj.row 53 s.37 [.int .i64 s.38, .int .i64 s.39, .int .i64 s.40, .int .i64 s.41, .int .i64 s.42])]
def zq164 (i : Int) : Nat :=
 nOf (iadd .i64 i 1)
def zq165 (c : Int) (n : Nat) (l : List Int) (m : Int) (i : Int) : List AV :=
 [AV.ptr 0 0 0, AV.ptr 1 0 0, AV.int .i64 c, AV.sl n [.int .i64 l], AV.int .i64 m, AV.int .i64 i]
theorem lp_some (z s : SR) (c : Int) (n : Nat) (l : List Int) (m i : Int) (mu : List AV → Heap → Nat) (Q : Ex → List AV → Heap → Prop) : runCode Tryz.prog (tabS tabG0) (callN Tryz.prog (tabS tabG0) noL 11) (fun _ => none) (bodyOf Tryz.prog 16 0) 0 ⟨mkT (spec_some).keep [.ptr 0 0 0, .ptr 1 0 0, .int .i64 c, .sl n [.int .i64 l], .int .i64 m, .int .i64 i] (spec_some).n 0, rndIn z s⟩ ((spec_some).ends mu [.ptr 0 0 0, .ptr 1 0 0, .int .i64 c, .sl n [.int .i64 l], .int .i64 m, .int .i64 i] (rndIn z s) Q) = (
 br (ilt i m) (asrt (band (ile 0 i) (ilt i (ofN n))) (asrt s.fit (br (ieq (s.pickE (gI l (nOf i))) 0) ((mu [AV.ptr 0 0 0, AV.ptr 1 0 0, AV.int .i64 (iadd .i64 c 1), AV.sl n [.int
 .i64 l], AV.int .i64 m, AV.int .i64 (iadd .i64 i 1)] [some (AObj.var (SR.cl z)), some (AObj.var [AV.int .i64 (s.pick (gI l (nOf i))).1, AV.int .i64 (s.pick (gI l (nOf i))).2, AV.int
 .i64 (s.pick (gI l (nOf i))).3, AV.int .i64 (s.pick (gI l (nOf i))).4, AV.int .i64 (s.pick (gI l (nOf i))).5, AV.int .i64 (s.pick (gI l (nOf i))).6, AV.bool (s.pick (gI l (nOf
 i))).7, AV.int .i64 (s.pick (gI l (nOf i))).8, AV.int .i64 (s.pick (gI l (nOf i))).9, AV.int .i64 (s.pick (gI l (nOf i))).10, AV.full 2, AV.full 3, AV.full 4, AV.int .i64 (s.pick
 (gI l (nOf i))).18, AV.full 5, AV.int .i64 (s.pick (gI l (nOf i))).21, AV.full 6, AV.int .i64 (s.pick (gI l (nOf i))).24, AV.full 7, AV.full 8]), some (AObj.row 88 (s.pick (gI l
 (nOf i))).11 [.int .i64 (s.pick (gI l (nOf i))).12, .int .i64 (s.pick (gI l (nOf i))).13]), some (AObj.row 3 (s.pick (gI l (nOf i))).14 [.int .i64 (s.pick (gI l (nOf i))).15]), some
 (AObj.row 3 (s.pick (gI l (nOf i))).16 [.int .i64 (s.pick (gI l (nOf i))).17]), some (AObj.row 3 (s.pick (gI l (nOf i))).19 [.int .i64 (s.pick (gI l (nOf i))).20]), some (AObj.row 3
 (s.pick (gI l (nOf i))).22 [.int .i64 (s.pick (gI l (nOf i))).23]), some (AObj.row 51 (s.pick (gI l (nOf i))).25 [.int .i64 (s.pick (gI l (nOf i))).26, .int .i64 (s.pick (gI l (nOf
 i))).27, .int .i64 (s.pick (gI l (nOf i))).28, .int .i64 (s.pick (gI l (nOf i))).29, .int .i64 (s.pick (gI l (nOf i))).30, .int .i64 (s.pick (gI l (nOf i))).31, .int .i64 (s.pick
 (gI l (nOf i))).32, .int .i64 (s.pick (gI l (nOf i))).33, Col.bool (s.pick (gI l (nOf i))).34, .int .i64 (s.pick (gI l (nOf i))).35, .int .i64 (s.pick (gI l (nOf i))).36]), some
 (AObj.row 53 (s.pick (gI l (nOf i))).37 [.int .i64 (s.pick (gI l (nOf i))).38, .int .i64 (s.pick (gI l (nOf i))).39, .int .i64 (s.pick (gI l (nOf i))).40, .int .i64 (s.pick (gI l
 (nOf i))).41, .int .i64 (s.pick (gI l (nOf i))).42])]).succ.le (mu (zq165 c n l m i) (zq163 z s)) ∧ asrt (somOk (s.pick (gI l (nOf i))) n m (iadd .i64 i 1) (iadd .i64 c 1)) (Q
 (Ex.exit 0) [AV.ptr 0 0 0, AV.ptr 1 0 0, AV.int .i64 ((s.pick (gI l (nOf i))).countN l (zq164 i) (iadd .i64 c 1))] [some (AObj.var (SR.cl z)), some (AObj.var [AV.int .i64 ((s.pick
 (gI l (nOf i))).somes l (zq164 i)).1, AV.int .i64 ((s.pick (gI l (nOf i))).somes l (zq164 i)).2, AV.int .i64 ((s.pick (gI l (nOf i))).somes l (zq164 i)).3, AV.int .i64 ((s.pick (gI
 l (nOf i))).somes l (zq164 i)).4, AV.int .i64 ((s.pick (gI l (nOf i))).somes l (zq164 i)).5, AV.int .i64 ((s.pick (gI l (nOf i))).somes l (zq164 i)).6, AV.bool ((s.pick (gI l (nOf
 i))).somes l (zq164 i)).7, AV.int .i64 ((s.pick (gI l (nOf i))).somes l (zq164 i)).8, AV.int .i64 ((s.pick (gI l (nOf i))).somes l (zq164 i)).9, AV.int .i64 ((s.pick (gI l (nOf
 i))).somes l (zq164 i)).10, AV.full 2, AV.full 3, AV.full 4, AV.int .i64 ((s.pick (gI l (nOf i))).somes l (zq164 i)).18, AV.full 5, AV.int .i64 ((s.pick (gI l (nOf i))).somes l
 (zq164 i)).21, AV.full 6, AV.int .i64 ((s.pick (gI l (nOf i))).somes l (zq164 i)).24, AV.full 7, AV.full 8]), some (AObj.row 88 ((s.pick (gI l (nOf i))).somes l (zq164 i)).11 [.int
 .i64 ((s.pick (gI l (nOf i))).somes l (zq164 i)).12, .int .i64 ((s.pick (gI l (nOf i))).somes l (zq164 i)).13]), some (AObj.row 3 ((s.pick (gI l (nOf i))).somes l (zq164 i)).14
 [.int .i64 ((s.pick (gI l (nOf i))).somes l (zq164 i)).15]), some (AObj.row 3 ((s.pick (gI l (nOf i))).somes l (zq164 i)).16 [.int .i64 ((s.pick (gI l (nOf i))).somes l (zq164
 i)).17]), some (AObj.row 3 ((s.pick (gI l (nOf i))).somes l (zq164 i)).19 [.int .i64 ((s.pick (gI l (nOf i))).somes l (zq164 i)).20]), some (AObj.row 3 ((s.pick (gI l (nOf
 i))).somes l (zq164 i)).22 [.int .i64 ((s.pick (gI l (nOf i))).somes l (zq164 i)).23]), some (AObj.row 51 ((s.pick (gI l (nOf i))).somes l (zq164 i)).25 [.int .i64 ((s.pick (gI l
 (nOf i))).somes l (zq164 i)).26, .int .i64 ((s.pick (gI l (nOf i))).somes l (zq164 i)).27, .int .i64 ((s.pick (gI l (nOf i))).somes l (zq164 i)).28, .int .i64 ((s.pick (gI l (nOf
 i))).somes l (zq164 i)).29, .int .i64 ((s.pick (gI l (nOf i))).somes l (zq164 i)).30, .int .i64 ((s.pick (gI l (nOf i))).somes l (zq164 i)).31, .int .i64 ((s.pick (gI l (nOf
 i))).somes l (zq164 i)).32, .int .i64 ((s.pick (gI l (nOf i))).somes l (zq164 i)).33, Col.bool ((s.pick (gI l (nOf i))).somes l (zq164 i)).34, .int .i64 ((s.pick (gI l (nOf
 i))).somes l (zq164 i)).35, .int .i64 ((s.pick (gI l (nOf i))).somes l (zq164 i)).36]), some (AObj.row 53 ((s.pick (gI l (nOf i))).somes l (zq164 i)).37 [.int .i64 ((s.pick (gI l
 (nOf i))).somes l (zq164 i)).38, .int .i64 ((s.pick (gI l (nOf i))).somes l (zq164 i)).39, .int .i64 ((s.pick (gI l (nOf i))).somes l (zq164 i)).40, .int .i64 ((s.pick (gI l (nOf
 i))).somes l (zq164 i)).41, .int .i64 ((s.pick (gI l (nOf i))).somes l (zq164 i)).42])])) ((mu [AV.ptr 0 0 0, AV.ptr 1 0 0, AV.int .i64 c, AV.sl n [.int .i64 l], AV.int .i64 m,
 AV.int .i64 (iadd .i64 i 1)] (zq163 z s)).succ.le (mu (zq165 c n l m i) (zq163 z s)) ∧ asrt (somOk s n m (iadd .i64 i 1) c) (Q (Ex.exit 0) [AV.ptr 0 0 0, AV.ptr 1 0 0, AV.int .i64
 (s.countN l (zq164 i) c)] [some (AObj.var (SR.cl z)), some (AObj.var [AV.int .i64 (s.somes l (zq164 i)).1, AV.int .i64 (s.somes l (zq164 i)).2, AV.int .i64 (s.somes l (zq164 i)).3,
 AV.int .i64 (s.somes l (zq164 i)).4, AV.int .i64 (s.somes l (zq164 i)).5, AV.int .i64 (s.somes l (zq164 i)).6, AV.bool (s.somes l (zq164 i)).7, AV.int .i64 (s.somes l (zq164 i)).8,
 AV.int .i64 (s.somes l (zq164 i)).9, AV.int .i64 (s.somes l (zq164 i)).10, AV.full 2, AV.full 3, AV.full 4, AV.int .i64 (s.somes l (zq164 i)).18, AV.full 5, AV.int .i64 (s.somes l
 (zq164 i)).21, AV.full 6, AV.int .i64 (s.somes l (zq164 i)).24, AV.full 7, AV.full 8]), some (AObj.row 88 (s.somes l (zq164 i)).11 [.int .i64 (s.somes l (zq164 i)).12, .int .i64
 (s.somes l (zq164 i)).13]), some (AObj.row 3 (s.somes l (zq164 i)).14 [.int .i64 (s.somes l (zq164 i)).15]), some (AObj.row 3 (s.somes l (zq164 i)).16 [.int .i64 (s.somes l (zq164
 i)).17]), some (AObj.row 3 (s.somes l (zq164 i)).19 [.int .i64 (s.somes l (zq164 i)).20]), some (AObj.row 3 (s.somes l (zq164 i)).22 [.int .i64 (s.somes l (zq164 i)).23]), some
 (AObj.row 51 (s.somes l (zq164 i)).25 [.int .i64 (s.somes l (zq164 i)).26, .int .i64 (s.somes l (zq164 i)).27, .int .i64 (s.somes l (zq164 i)).28, .int .i64 (s.somes l (zq164
 i)).29, .int .i64 (s.somes l (zq164 i)).30, .int .i64 (s.somes l (zq164 i)).31, .int .i64 (s.somes l (zq164 i)).32, .int .i64 (s.somes l (zq164 i)).33, Col.bool (s.somes l (zq164
 i)).34, .int .i64 (s.somes l (zq164 i)).35, .int .i64 (s.somes l (zq164 i)).36]), some (AObj.row 53 (s.somes l (zq164 i)).37 [.int .i64 (s.somes l (zq164 i)).38, .int .i64 (s.somes
 l (zq164 i)).39, .int .i64 (s.somes l (zq164 i)).40, .int .i64 (s.somes l (zq164 i)).41, .int .i64 (s.somes l (zq164 i)).42])]))))) (Q (Ex.exit 0) [AV.ptr 0 0 0, AV.ptr 1 0 0,
 AV.int .i64 c] (zq163 z s))) := by kernel_rfl
theorem loop_some : LoopOK Tryz.prog (bodyOf Tryz.prog 16 0) spec_some.summ := by
 refine tab_loop mixed (l := tabG0) ok_tabG0 (i := 0) spec_some (fun vals objs => match vals with
  | [.ptr 0 0 0, .ptr 1 0 0, .int .i64 c, .sl n [.int .i64 l], .int .i64 m, .int .i64 i] => (m - i).toNat
  | _ => 0) fun vals objs Q h1 h2 wf wo hg => ?_
 unfold spec_some at hg
 simp only at hg
 split at hg
 ·rename_i c n l m i
  clear h1 h2
  split at hg
  ·rename_i z s hx
   have e := asRnd_some hx
   subst e
   clear hx
   rw [lp_some]
   dsimp only [SR.cl, zq163, zq164, zq165]
   have hr : s.rows := rows_of wo (fun o ho => by simp only [rndIn, List.mem_cons]; exact .inr (.inr ho))
   simp only [WFL, WF, List.mem_cons, List.not_mem_nil, or_false, forall_eq_or_imp, forall_eq, Col.len, and_true, true_and] at wf
   rw [asrt_iff] at hg
   obtain ⟨hgd, hg⟩ := hg
   simp only [somOk, Bool.and_eq_true, decide_eq_true_eq] at hgd
   obtain ⟨hf, rfl, h0, hi, hn, hnl, hc0, hci⟩ := hgd
   obtain ⟨k, rfl⟩ := Int.eq_ofNat_of_zero_le h0
   have hw : IntKind.i64.wrap ((k : Int) + 1) = (k : Int) + 1 := wr (by omega) (by omega)
   have hwc : iadd .i64 c 1 = c + 1 := by rw [iadd_e, wr (by omega) (by omega)]
   have e4 : nOf (iadd .i64 (k : Int) 1) = k + 1 := by rw [iadd_e, hw, nOf_e]; omega
   have e6 : nOf (k : Int) = k := by rw [nOf_e]; omega
   rw [e6] at hg
   rw [br_iff, ilt_t, ilt_f]
   refine ⟨fun hk => ?_, fun hk => ?_⟩
   ·have hk' : k < l.length := by omega
    rw [SR.somes_lt s l hk', SR.count_lt s l c hk'] at hg
    have g0 : gI l k = l.getD k 0 := rfl
    simp only [e6, e4, g0, hwc]
    generalize hx : l.getD k 0 = x at hg ⊢
    have q1 : band (ile 0 (k : Int)) (ilt (k : Int) (ofN n)) = true := by simp only [band_t, ile_t, ilt_t, ofN_e]; omega
    have hmu : ((n : Int) - iadd .i64 (k : Int) 1).toNat.succ.le ((n : Int) - (k : Int)).toNat := by
     rw [iadd_e, hw]
     exact Nat.succ_le_of_lt (by omega)
    have hpk := SR.pick_keep s x
    have hpf := SR.pick_fit hr hf (by omega) x
    rw [q1, hf]
    simp only [asrt_tt]
    by_cases c0 : s.pickE x = 0
    ·rw [if_pos c0] at hg
     have g1 : somOk (s.pick x) n (n : Int) (iadd .i64 (k : Int) 1) (c + 1) = true := by
      simp only [somOk, Bool.and_eq_true, decide_eq_true_eq, iadd_e, hw]
      have := hpk.nl
      exact ⟨hpf, trivial, by omega, by omega, hn, by omega, by omega, by omega⟩
     rw [c0]
     exact ⟨hmu, asrt_iff.2 ⟨g1, hg⟩⟩
    ·rw [if_neg c0] at hg
     have g1 : somOk s n (n : Int) (iadd .i64 (k : Int) 1) c = true := by
      simp only [somOk, Bool.and_eq_true, decide_eq_true_eq, iadd_e, hw]
      exact ⟨hf, trivial, by omega, by omega, hn, by omega, by omega, by omega⟩
     have e8 : ieq (s.pickE x) 0 = false := by rw [ieq_f]; exact c0
     have e9 : s.pick x = s := by unfold SR.pick; rw [if_neg c0]
     rw [e9] at hg
     rw [e8]
     exact ⟨hmu, asrt_iff.2 ⟨g1, hg⟩⟩
   ·rw [SR.somes_ge s l (by omega), SR.count_ge s l c (by omega)] at hg
    exact hg
  ·exact hg.elim
 ·exact hg.elim
def Lsome : Nat → Option LoopS := fun i => match i with
 | 0 => some (.summ spec_some.summ)
 | _ => none
theorem ok_Lsome : ∀ i x, Lsome i = some x → LoopHyp Tryz.prog 16 i x := by
 intro i s h
 unfold Lsome at h
 split at h
 ·cases h; exact ⟨by kernel_rfl, loop_some⟩
 ·cases h
def Fsome : Pure1 := fun
 | [a_s, .sl n [.int .i64 l]] => (match asSR a_s with | some s => some (some (somG s n), .tup [SR.new (SR.somes s l 0), .int .i64 (SR.countN s l 0 0)]) | none => none)
 | _ => none
theorem vc_some (s : SR) (n : Nat) (l : List Int) (r : AV) : VC Tryz.prog (tabS tabG0) (oneL 16 Lsome) true 16 [s.av, .sl n [.int .i64 l]] r = (
 asrt s.fit (asrt (somOk (s.wake (-1)) n (ofN n) 0 0) (some (AV.tup [AV.agg (SR.nw ((s.wake (-1)).somes l 0)), AV.int .i64 ((s.wake (-1)).countN l 0 0)]) = some r))) := by kernel_rfl
theorem ok_some : PureOK Tryz.prog 16 Fsome := by
 refine tab_loops mixed (l := tabG0) ok_tabG0 true Lsome (by kernel_rfl) ok_Lsome fun xs b r h hb wf => ?_
 unfold Fsome at h
 split at h
 ·rename_i a_s n l
  split at h
  ·rename_i s h_s
   obtain rfl := asSR_some h_s
   cases h
   try rw [some_f] at hb
   simp only [WFL, WF, List.mem_cons, List.not_mem_nil, or_false, forall_eq_or_imp, forall_eq, Col.len, and_true, true_and, wf_av] at wf
   rw [vc_some]
   dsimp only [SR.nw]
   simp only [SR.wake_neg]
   simp only [somG, Bool.and_eq_true, decide_eq_true_eq] at hb
   have g1 : somOk s n (ofN n) 0 0 = true := by
    simp only [somOk, Bool.and_eq_true, decide_eq_true_eq, ofN_e]
    exact ⟨hb.1, trivial, by omega, by omega, by omega, by omega, by omega, by omega⟩
   rw [hb.1, g1]
   rfl
  ·cases h
 ·cases h
theorem upTo_step {out : List Int} {n i : Nat} (h : i < n) : upTo out n i = upTo (out ++ [(i : Int)]) n (i + 1) := by
 unfold upTo
 rw [List.drop_eq_getElem_cons (by simpa using h)]
 simp
theorem upTo_end {out : List Int} {n i : Nat} (h : n ≤ i) : upTo out n i = out := by
 unfold upTo
 rw [List.drop_eq_nil_of_le (by simpa using h)]
 simp
def spec_rndA : LoopSpec := { n := 44, keep := [1, 4, 6, 7, 14, 15], srcs := [.tmp 4, .tmp 6, .cell 1 10, .cell 1 11, .cell 1 12, .cell 1 14, .cell 1 16, .cell 1 18, .cell 1 19, .tmp 7], keepE := [1, 4, 6, 7], srcsE := [.tmp 4, .tmp 6, .cell 1 10, .cell 1 11, .cell 1 12, .cell 1 14, .cell 1 16, .cell 1 18, .cell 1 19, .tmp 7], goes := fun vals objs Q => match vals with
 | [.int .i64 many, .ptr 0 0 0, .ptr 1 0 0, .full 9, .int .i64 m, .int .i64 i] => (match asTick objs with
  | some (z, s, k, out) => asrt (band (nle (nOf m) 1000000) (band (ile 0 i) (band (ile i m) (nle k (nOf i))))) (Q (.exit 0) [.int .i64 many, .ptr 0 0 0, .ptr 1 0 0, .full 9] (tickIn z s (lenI (upTo out (nOf m) (nOf i))) (upTo out (nOf m) (nOf i))))
  | none => False)
 | _ => False }
def zq166 (z : SR) (s : SR) (k : Nat) (out : List Int) : Heap :=
 [some (AObj.var (SR.cl z)), some (AObj.var [AV.int .i64 s.1, AV.int .i64 s.2, AV.int .i64 s.3, AV.int .i64 s.4, AV.int .i64 s.5, AV.int .i64 s.6, AV.bool s.7, AV.int .i64 s.8,
 AV.int .i64 s.9, AV.int .i64 s.10, AV.full 2, AV.full 3, AV.full 4, AV.int .i64 s.18, AV.full 5, AV.int .i64 s.21, AV.full 6, AV.int .i64 s.24, AV.full 7, AV.full 8]), some
 (AObj.row 88 s.11 [.int .i64 s.12, .int .i64 s.13]), some (AObj.row 3 s.14 [.int .i64 s.15]), some (AObj.row 3 s.16 [.int .i64 s.17]), some (AObj.row 3 s.19 [.int .i64 s.20]), some
 (AObj.row 3 s.22 [.int .i64 s.23]), some (AObj.row 51 s.25 [.int .i64 s.26, .int .i64 s.27, .int .i64 s.28, .int .i64 s.29, .int .i64 s.30, .int .i64 s.31, .int .i64 s.32, .int .i64
 s.33, Col.bool s.34, .int .i64 s.35, .int .i64 s.36]), some (AObj.row 53 s.37 [.int .i64 s.38, .int .i64 s.39, .int .i64 s.40, .int .i64 s.41, .int .i64 s.42]), some (AObj.row 3 k
 [.int .i64 out])]
def zq167 (s : SR) : AObj :=
 AObj.var [AV.int .i64 s.1, AV.int .i64 s.2, AV.int .i64 s.3, AV.int .i64 s.4, AV.int .i64 s.5, AV.int .i64 s.6, AV.bool s.7, AV.int .i64 s.8, AV.int .i64 s.9, AV.int .i64 s.10,
 AV.full 2, AV.full 3, AV.full 4, AV.int .i64 s.18, AV.full 5, AV.int .i64 s.21, AV.full 6, AV.int .i64 s.24, AV.full 7, AV.full 8]
def zq168 (s : SR) : AObj :=
 AObj.row 51 s.25 [.int .i64 s.26, .int .i64 s.27, .int .i64 s.28, .int .i64 s.29, .int .i64 s.30, .int .i64 s.31, .int .i64 s.32, .int .i64 s.33, Col.bool s.34, .int .i64 s.35, .int
 .i64 s.36]
def zq169 (s : SR) : AObj :=
 AObj.row 53 s.37 [.int .i64 s.38, .int .i64 s.39, .int .i64 s.40, .int .i64 s.41, .int .i64 s.42]
theorem lp_rndA (z s : SR) (many : Int) (m i : Int) (k : Nat) (out : List Int) (mu : List AV → Heap → Nat) (Q : Ex → List AV → Heap → Prop) : runCode Tryz.prog (tabS tabG0) (callN Tryz.prog (tabS tabG0) noL 11) (fun _ => none) (bodyOf Tryz.prog 13 0) 0 ⟨mkT (spec_rndA).keep [.int .i64 many, .ptr 0 0 0, .ptr 1 0 0, .full 9, .int .i64 m, .int .i64 i] (spec_rndA).n 0, tickIn z s k out⟩ ((spec_rndA).ends mu [.int .i64 many, .ptr 0 0 0, .ptr 1 0 0, .full 9, .int .i64 m, .int .i64 i] (tickIn z s k out) Q) = (
 br (ilt i m) (asrt (nle (nAdd k 1) 17592186044416) ((mu [AV.int .i64 many, AV.ptr 0 0 0, AV.ptr 1 0 0, AV.full 9, AV.int .i64 m, AV.int .i64 (iadd .i64 i 1)] [some (AObj.var (SR.cl
 z)), some (zq167 s), some (AObj.row 88 s.11 [.int .i64 s.12, .int .i64 s.13]), some (AObj.row 3 s.14 [.int .i64 s.15]), some (AObj.row 3 s.16 [.int .i64 s.17]), some (AObj.row 3
 s.19 [.int .i64 s.20]), some (AObj.row 3 s.22 [.int .i64 s.23]), some (zq168 s), some (zq169 s), some (AObj.row 3 (nAdd k 1) [.int .i64 (cat out [i])])]).succ.le (mu [AV.int .i64
 many, AV.ptr 0 0 0, AV.ptr 1 0 0, AV.full 9, AV.int .i64 m, AV.int .i64 i] (zq166 z s k out)) ∧ asrt (band (nle (nOf m) 1000000) (band (ile 0 (iadd .i64 i 1)) (band (ile (iadd .i64
 i 1) m) (nle (nAdd k 1) (nOf (iadd .i64 i 1)))))) (Q (Ex.exit 0) [AV.int .i64 many, AV.ptr 0 0 0, AV.ptr 1 0 0, AV.full 9] [some (AObj.var (SR.cl z)), some (zq167 s), some (AObj.row
 88 s.11 [.int .i64 s.12, .int .i64 s.13]), some (AObj.row 3 s.14 [.int .i64 s.15]), some (AObj.row 3 s.16 [.int .i64 s.17]), some (AObj.row 3 s.19 [.int .i64 s.20]), some (AObj.row
 3 s.22 [.int .i64 s.23]), some (zq168 s), some (zq169 s), some (AObj.row 3 (lenI (upTo (cat out [i]) (nOf m) (nOf (iadd .i64 i 1)))) [.int .i64 (upTo (cat out [i]) (nOf m) (nOf
 (iadd .i64 i 1)))])]))) (Q (Ex.exit 0) [AV.int .i64 many, AV.ptr 0 0 0, AV.ptr 1 0 0, AV.full 9] (zq166 z s k out))) := by kernel_rfl
def tabG1 : List (FuncId × Pure1) := [(16, Fsome), (20, Fquiet)] ++ tabG0
theorem ok_tabG1 : ∀ p ∈ tabG1, PureOK Tryz.prog p.1 p.2 := by
 intro p hp
 simp only [tabG1, List.mem_append, List.mem_cons, List.not_mem_nil, or_false] at hp
 rcases hp with (rfl | rfl) | hp
 ·exact ok_some
 ·exact ok_quiet
 ·exact ok_tabG0 p hp
def spec_rndB : LoopSpec := { n := 44, keep := [1, 4, 6, 7, 25, 26], srcs := [.tmp 4, .tmp 6, .cell 1 10, .cell 1 11, .cell 1 12, .cell 1 14, .cell 1 16, .cell 1 18, .cell 1 19], keepE := [1, 4, 6, 5], srcsE := [.tmp 4, .tmp 6, .cell 1 10, .cell 1 11, .cell 1 12, .cell 1 14, .cell 1 16, .cell 1 18, .cell 1 19], goes := fun vals objs Q => match vals with
 | [.int .i64 many, .ptr 0 0 0, .ptr 1 0 0, .sl n [.int .i64 l], .int .i64 lim, .int .i64 k] => (match asRnd objs with
  | some (z, s) => asrt (rndOk s n l lim k) (br (SR.quietIn (nDiff lim k) s) (Q .ret [.int .i64 many, .ptr 0 0 0, .ptr 1 0 0, .int .i64 (SR.roundF (nDiff lim k) s k).2] (rndOut (SR.roundF (nDiff lim k) s k).1)) (Q (.exit 2) [.int .i64 many, .ptr 0 0 0, .ptr 1 0 0, .top] (rndIn z (SR.roundF (nDiff lim k) s k).1)))
  | none => False)
 | _ => False }
def zq170 (s : SR) (l : List Int) (lim : Int) (k : Int) : AObj :=
 AObj.var [AV.int .i64 (SR.roundF (nDiff lim (iadd .i64 k 1)) (s.somes l 0) (iadd .i64 k 1)).1.1, AV.int .i64 (SR.roundF (nDiff lim (iadd .i64 k 1)) (s.somes l 0) (iadd .i64 k
 1)).1.2, AV.int .i64 (SR.roundF (nDiff lim (iadd .i64 k 1)) (s.somes l 0) (iadd .i64 k 1)).1.3, AV.int .i64 (SR.roundF (nDiff lim (iadd .i64 k 1)) (s.somes l 0) (iadd .i64 k
 1)).1.4, AV.int .i64 (SR.roundF (nDiff lim (iadd .i64 k 1)) (s.somes l 0) (iadd .i64 k 1)).1.5, AV.int .i64 (SR.roundF (nDiff lim (iadd .i64 k 1)) (s.somes l 0) (iadd .i64 k
 1)).1.6, AV.bool (SR.roundF (nDiff lim (iadd .i64 k 1)) (s.somes l 0) (iadd .i64 k 1)).1.7, AV.int .i64 (SR.roundF (nDiff lim (iadd .i64 k 1)) (s.somes l 0) (iadd .i64 k 1)).1.8,
 AV.int .i64 (SR.roundF (nDiff lim (iadd .i64 k 1)) (s.somes l 0) (iadd .i64 k 1)).1.9, AV.int .i64 (SR.roundF (nDiff lim (iadd .i64 k 1)) (s.somes l 0) (iadd .i64 k 1)).1.10,
 AV.full 2, AV.full 3, AV.full 4, AV.int .i64 (SR.roundF (nDiff lim (iadd .i64 k 1)) (s.somes l 0) (iadd .i64 k 1)).1.18, AV.full 5, AV.int .i64 (SR.roundF (nDiff lim (iadd .i64 k
 1)) (s.somes l 0) (iadd .i64 k 1)).1.21, AV.full 6, AV.int .i64 (SR.roundF (nDiff lim (iadd .i64 k 1)) (s.somes l 0) (iadd .i64 k 1)).1.24, AV.full 7, AV.full 8]
def zq171 (s : SR) (l : List Int) (lim : Int) (k : Int) : AObj :=
 AObj.row 51 (SR.roundF (nDiff lim (iadd .i64 k 1)) (s.somes l 0) (iadd .i64 k 1)).1.25 [.int .i64 (SR.roundF (nDiff lim (iadd .i64 k 1)) (s.somes l 0) (iadd .i64 k 1)).1.26, .int
 .i64 (SR.roundF (nDiff lim (iadd .i64 k 1)) (s.somes l 0) (iadd .i64 k 1)).1.27, .int .i64 (SR.roundF (nDiff lim (iadd .i64 k 1)) (s.somes l 0) (iadd .i64 k 1)).1.28, .int .i64
 (SR.roundF (nDiff lim (iadd .i64 k 1)) (s.somes l 0) (iadd .i64 k 1)).1.29, .int .i64 (SR.roundF (nDiff lim (iadd .i64 k 1)) (s.somes l 0) (iadd .i64 k 1)).1.30, .int .i64
 (SR.roundF (nDiff lim (iadd .i64 k 1)) (s.somes l 0) (iadd .i64 k 1)).1.31, .int .i64 (SR.roundF (nDiff lim (iadd .i64 k 1)) (s.somes l 0) (iadd .i64 k 1)).1.32, .int .i64
 (SR.roundF (nDiff lim (iadd .i64 k 1)) (s.somes l 0) (iadd .i64 k 1)).1.33, Col.bool (SR.roundF (nDiff lim (iadd .i64 k 1)) (s.somes l 0) (iadd .i64 k 1)).1.34, .int .i64 (SR.roundF
 (nDiff lim (iadd .i64 k 1)) (s.somes l 0) (iadd .i64 k 1)).1.35, .int .i64 (SR.roundF (nDiff lim (iadd .i64 k 1)) (s.somes l 0) (iadd .i64 k 1)).1.36]
def zq172 (z : SR) (s : SR) : Heap :=
 [some (AObj.var (SR.cl z)), some (AObj.var [AV.int .i64 s.1, AV.int .i64 s.2, AV.int .i64 s.3, AV.int .i64 s.4, AV.int .i64 s.5, AV.int .i64 s.6, AV.bool s.7, AV.int .i64 s.8,
 AV.int .i64 s.9, AV.int .i64 s.10, AV.full 2, AV.full 3, AV.full 4, AV.int .i64 s.18, AV.full 5, AV.int .i64 s.21, AV.full 6, AV.int .i64 s.24, AV.full 7, AV.full 8]), some
 (AObj.row 88 s.11 [.int .i64 s.12, .int .i64 s.13]), some (AObj.row 3 s.14 [.int .i64 s.15]), some (AObj.row 3 s.16 [.int .i64 s.17]), some (AObj.row 3 s.19 [.int .i64 s.20]), some
 (AObj.row 3 s.22 [.int .i64 s.23]), some (AObj.row 51 s.25 [.int .i64 s.26, .int .i64 s.27, .int .i64 s.28, .int .i64 s.29, .int .i64 s.30, .int .i64 s.31, .int .i64 s.32, .int .i64
 s.33, Col.bool s.34, .int .i64 s.35, .int .i64 s.36]), some (AObj.row 53 s.37 [.int .i64 s.38, .int .i64 s.39, .int .i64 s.40, .int .i64 s.41, .int .i64 s.42])]
def zq173 (k : Int) : Int :=
 iadd .i64 k 1
def zq174 (s : SR) (l : List Int) (lim : Int) (k : Int) : AObj :=
 AObj.row 53 (SR.roundF (nDiff lim (zq173 k)) (s.somes l 0) (zq173 k)).1.37 [.int .i64 (SR.roundF (nDiff lim (zq173 k)) (s.somes l 0) (zq173 k)).1.38, .int .i64 (SR.roundF (nDiff lim
 (zq173 k)) (s.somes l 0) (zq173 k)).1.39, .int .i64 (SR.roundF (nDiff lim (zq173 k)) (s.somes l 0) (zq173 k)).1.40, .int .i64 (SR.roundF (nDiff lim (zq173 k)) (s.somes l 0) (zq173
 k)).1.41, .int .i64 (SR.roundF (nDiff lim (zq173 k)) (s.somes l 0) (zq173 k)).1.42]
def zq175 (s : SR) : AObj :=
 AObj.var [AV.int .i64 s.1, AV.int .i64 s.2, AV.int .i64 s.3, AV.int .i64 s.4, AV.int .i64 s.5, AV.int .i64 s.6, AV.bool s.7, AV.int .i64 s.8, AV.int .i64 s.9, AV.int .i64 s.10,
 AV.full 2, AV.full 3, AV.full 4, AV.int .i64 s.18, AV.full 5, AV.int .i64 s.21, AV.full 6, AV.int .i64 s.24, AV.full 7, AV.full 8]
def zq176 (s : SR) (l : List Int) (lim : Int) (k : Int) : AObj :=
 AObj.row 88 (SR.roundF (nDiff lim (zq173 k)) (s.somes l 0) (zq173 k)).1.11 [.int .i64 (SR.roundF (nDiff lim (zq173 k)) (s.somes l 0) (zq173 k)).1.12, .int .i64 (SR.roundF (nDiff lim
 (zq173 k)) (s.somes l 0) (zq173 k)).1.13]
def zq177 (s : SR) (l : List Int) (lim : Int) (k : Int) : AObj :=
 AObj.row 3 (SR.roundF (nDiff lim (zq173 k)) (s.somes l 0) (zq173 k)).1.14 [.int .i64 (SR.roundF (nDiff lim (zq173 k)) (s.somes l 0) (zq173 k)).1.15]
def zq178 (s : SR) (l : List Int) (lim : Int) (k : Int) : AObj :=
 AObj.row 3 (SR.roundF (nDiff lim (zq173 k)) (s.somes l 0) (zq173 k)).1.16 [.int .i64 (SR.roundF (nDiff lim (zq173 k)) (s.somes l 0) (zq173 k)).1.17]
def zq179 (s : SR) (l : List Int) (lim : Int) (k : Int) : AObj :=
 AObj.row 3 (SR.roundF (nDiff lim (zq173 k)) (s.somes l 0) (zq173 k)).1.19 [.int .i64 (SR.roundF (nDiff lim (zq173 k)) (s.somes l 0) (zq173 k)).1.20]
def zq180 (s : SR) (l : List Int) (lim : Int) (k : Int) : AObj :=
 AObj.row 3 (SR.roundF (nDiff lim (zq173 k)) (s.somes l 0) (zq173 k)).1.22 [.int .i64 (SR.roundF (nDiff lim (zq173 k)) (s.somes l 0) (zq173 k)).1.23]
theorem lp_rndB (z s : SR) (many : Int) (n : Nat) (l : List Int) (lim k : Int) (mu : List AV → Heap → Nat) (Q : Ex → List AV → Heap → Prop) : runCode Tryz.prog (tabS tabG1) (callN Tryz.prog (tabS tabG1) noL 11) (fun _ => none) (bodyOf Tryz.prog 13 2) 2 ⟨mkT (spec_rndB).keep [.int .i64 many, .ptr 0 0 0, .ptr 1 0 0, .sl n [.int .i64 l], .int .i64 lim, .int .i64 k] (spec_rndB).n 0, rndIn z s⟩ ((spec_rndB).ends mu [.int .i64 many, .ptr 0 0 0, .ptr 1 0 0, .sl n [.int .i64 l], .int .i64 lim, .int .i64 k] (rndIn z s) Q) = (
 br (ilt k lim) (asrt s.fit (br (ieq (ofN (lenI s.actives)) 0) (Q Ex.ret [AV.int .i64 many, AV.ptr 0 0 0, AV.ptr 1 0 0, AV.int .i64 k] [some (zq175 s), some (zq175 s), some (AObj.row
 88 s.11 [.int .i64 s.12, .int .i64 s.13]), some (AObj.row 3 s.14 [.int .i64 s.15]), some (AObj.row 3 s.16 [.int .i64 s.17]), some (AObj.row 3 s.19 [.int .i64 s.20]), some (AObj.row
 3 s.22 [.int .i64 s.23]), some (AObj.row 51 s.25 [.int .i64 s.26, .int .i64 s.27, .int .i64 s.28, .int .i64 s.29, .int .i64 s.30, .int .i64 s.31, .int .i64 s.32, .int .i64 s.33,
 Col.bool s.34, .int .i64 s.35, .int .i64 s.36]), some (AObj.row 53 s.37 [.int .i64 s.38, .int .i64 s.39, .int .i64 s.40, .int .i64 s.41, .int .i64 s.42])]) (asrt (somG s n) ((mu
 [AV.int .i64 many, AV.ptr 0 0 0, AV.ptr 1 0 0, AV.sl n [.int .i64 l], AV.int .i64 lim, AV.int .i64 (zq173 k)] [some (AObj.var (SR.cl z)), some (AObj.var [AV.int .i64 (s.somes l
 0).1, AV.int .i64 (s.somes l 0).2, AV.int .i64 (s.somes l 0).3, AV.int .i64 (s.somes l 0).4, AV.int .i64 (s.somes l 0).5, AV.int .i64 (s.somes l 0).6, AV.bool (s.somes l 0).7,
 AV.int .i64 (s.somes l 0).8, AV.int .i64 (s.somes l 0).9, AV.int .i64 (s.somes l 0).10, AV.full 2, AV.full 3, AV.full 4, AV.int .i64 (s.somes l 0).18, AV.full 5, AV.int .i64
 (s.somes l 0).21, AV.full 6, AV.int .i64 (s.somes l 0).24, AV.full 7, AV.full 8]), some (AObj.row 88 (s.somes l 0).11 [.int .i64 (s.somes l 0).12, .int .i64 (s.somes l 0).13]), some
 (AObj.row 3 (s.somes l 0).14 [.int .i64 (s.somes l 0).15]), some (AObj.row 3 (s.somes l 0).16 [.int .i64 (s.somes l 0).17]), some (AObj.row 3 (s.somes l 0).19 [.int .i64 (s.somes l
 0).20]), some (AObj.row 3 (s.somes l 0).22 [.int .i64 (s.somes l 0).23]), some (AObj.row 51 (s.somes l 0).25 [.int .i64 (s.somes l 0).26, .int .i64 (s.somes l 0).27, .int .i64
 (s.somes l 0).28, .int .i64 (s.somes l 0).29, .int .i64 (s.somes l 0).30, .int .i64 (s.somes l 0).31, .int .i64 (s.somes l 0).32, .int .i64 (s.somes l 0).33, Col.bool (s.somes l
 0).34, .int .i64 (s.somes l 0).35, .int .i64 (s.somes l 0).36]), some (AObj.row 53 (s.somes l 0).37 [.int .i64 (s.somes l 0).38, .int .i64 (s.somes l 0).39, .int .i64 (s.somes l
 0).40, .int .i64 (s.somes l 0).41, .int .i64 (s.somes l 0).42])]).succ.le (mu [AV.int .i64 many, AV.ptr 0 0 0, AV.ptr 1 0 0, AV.sl n [.int .i64 l], AV.int .i64 lim, AV.int .i64 k]
 (zq172 z s)) ∧ asrt (rndOk (s.somes l 0) n l lim (zq173 k)) (br (SR.quietIn (nDiff lim (zq173 k)) (s.somes l 0)) (Q Ex.ret [AV.int .i64 many, AV.ptr 0 0 0, AV.ptr 1 0 0, AV.int .i64
 (SR.roundF (nDiff lim (zq173 k)) (s.somes l 0) (zq173 k)).2] [some (zq170 s l lim k), some (zq170 s l lim k), some (zq176 s l lim k), some (zq177 s l lim k), some (zq178 s l lim k),
 some (zq179 s l lim k), some (zq180 s l lim k), some (zq171 s l lim k), some (zq174 s l lim k)]) (Q (Ex.exit 2) [AV.int .i64 many, AV.ptr 0 0 0, AV.ptr 1 0 0, AV.top] [some
 (AObj.var (SR.cl z)), some (zq170 s l lim k), some (zq176 s l lim k), some (zq177 s l lim k), some (zq178 s l lim k), some (zq179 s l lim k), some (zq180 s l lim k), some (zq171 s l
 lim k), some (zq174 s l lim k)])))))) (Q (Ex.exit 2) [AV.int .i64 many, AV.ptr 0 0 0, AV.ptr 1 0 0, AV.top] (zq172 z s))) := by kernel_rfl
theorem loop_rndA : LoopOK Tryz.prog (bodyOf Tryz.prog 13 0) spec_rndA.summ := by
 refine tab_loop mixed (l := tabG0) ok_tabG0 (i := 0) spec_rndA (fun vals objs => match vals with
  | [.int .i64 many, .ptr 0 0 0, .ptr 1 0 0, .full 9, .int .i64 m, .int .i64 i] => (m - i).toNat
  | _ => 0) fun vals objs Q h1 h2 wf wo hg => ?_
 unfold spec_rndA at hg
 simp only at hg
 split at hg
 ·rename_i many m i
  clear h1 h2
  split at hg
  ·rename_i z s k out hx
   have e := asTick_some hx
   subst e
   clear hx
   rw [lp_rndA]
   dsimp only [SR.cl, zq166, zq167, zq168, zq169]
   have wl : out.length = k := by simpa [WFO, Col.len] using wo (some (.row 3 k [.int .i64 out])) (by simp [tickIn]) _ rfl
   simp only [asrt_iff, band_t, nle_t, ile_t] at hg
   obtain ⟨⟨hm, h0, hi, hk⟩, hg⟩ := hg
   obtain ⟨j, rfl⟩ := Int.eq_ofNat_of_zero_le h0
   obtain ⟨n, rfl⟩ := Int.eq_ofNat_of_zero_le (show 0 ≤ m by omega)
   have em : nOf (n : Int) = n := by rw [nOf_e]; omega
   have e6 : nOf (j : Int) = j := by rw [nOf_e]; omega
   rw [em] at hm
   rw [em, e6] at hg
   rw [e6] at hk
   have hw : IntKind.i64.wrap ((j : Int) + 1) = (j : Int) + 1 := wr (by omega) (by omega)
   have e4 : nOf (iadd .i64 (j : Int) 1) = j + 1 := by rw [iadd_e, hw, nOf_e]; omega
   rw [br_iff, ilt_t, ilt_f]
   refine ⟨fun hj => ?_, fun hj => ?_⟩
   ·have hj' : j < n := by omega
    rw [upTo_step hj'] at hg
    have hmu : ((n : Int) - iadd .i64 (j : Int) 1).toNat.succ.le ((n : Int) - (j : Int)).toNat := by
     rw [iadd_e, hw]
     exact Nat.succ_le_of_lt (by omega)
    simp only [em, e4]
    refine asrt_iff.2 ⟨by simp only [nle_t, nAdd_e]; omega, hmu, asrt_iff.2 ⟨?_, hg⟩⟩
    simp only [band_t, nle_t, ile_t, iadd_e, hw, nAdd_e]
    exact ⟨hm, by omega, by omega, by omega⟩
   ·have hj' : n ≤ j := by omega
    rw [upTo_end hj', lenI_e, wl] at hg
    exact hg
  ·exact hg.elim
 ·exact hg.elim
theorem SR.somes_all : ∀ (l : List Int) (s : SR), s.rows → s.fit = true → s.nl + l.length ≤ 1000000 → (s.somes l 0).fit = true ∧ SR.Keep l.length s (s.somes l 0)
 | [], s, hr, hf, hn => ⟨hf, SR.Keep.refl s⟩
 | x :: l, s, hr, hf, hn => by
  have hk := SR.pick_keep s x
  have h1 := hk.nl
  simp only [List.length_cons] at hn
  obtain ⟨g1, g2⟩ := SR.somes_all l (s.pick x) (hk.rows hr) (SR.pick_fit hr hf (by omega) x) (by omega)
  have g3 := hk.trans g2
  refine ⟨g1, ?_⟩
  rw [List.length_cons, Nat.add_comm]
  exact g3
theorem loop_rndB : LoopOK Tryz.prog (bodyOf Tryz.prog 13 2) spec_rndB.summ := by
 refine tab_loop mixed (l := tabG1) ok_tabG1 (i := 2) spec_rndB (fun vals objs => match vals with
  | [.int .i64 many, .ptr 0 0 0, .ptr 1 0 0, .sl n [.int .i64 l], .int .i64 lim, .int .i64 k] => (lim - k).toNat
  | _ => 0) fun vals objs Q h1 h2 wf wo hg => ?_
 unfold spec_rndB at hg
 simp only at hg
 split at hg
 ·rename_i many n l lim k
  clear h1 h2
  split at hg
  ·rename_i z s hx
   have e := asRnd_some hx
   subst e
   clear hx
   rw [lp_rndB]
   dsimp only [SR.cl, zq170, zq171, zq172, zq173, zq174, zq175, zq176, zq177, zq178, zq179, zq180]
   have hr : s.rows := rows_of wo (fun o ho => by simp only [rndIn, List.mem_cons]; exact .inr (.inr ho))
   rw [asrt_iff] at hg
   obtain ⟨hgd, hg⟩ := hg
   simp only [rndOk, Bool.and_eq_true, decide_eq_true_eq] at hgd
   obtain ⟨hf, hnl, h16, rfl, rfl, h0, hk, hlim⟩ := hgd
   rw [br_iff, ilt_t, ilt_f]
   refine ⟨fun hlt => ?_, fun hge => ?_⟩
   ·have hwk : iadd .i64 k 1 = k + 1 := by rw [iadd_e, wr (by omega) (by omega)]
    obtain ⟨f, hfu⟩ : ∃ f, (lim - k).toNat = f + 1 := ⟨(lim - k).toNat - 1, by omega⟩
    have e1 : nDiff lim k = f + 1 := hfu
    have e2 : nDiff lim (k + 1) = f := by rw [nDiff_e]; omega
    rw [e1] at hg
    unfold SR.quietIn SR.roundF at hg
    rw [hf, hwk, e2]
    simp only [asrt_tt]
    by_cases c : lenI s.actives = 0
    ·rw [if_pos c, if_pos c] at hg
     have e3 : ieq (ofN (lenI s.actives)) 0 = true := by rw [ieq_t, ofN_e, c]; rfl
     rw [e3]
     exact hg
    ·rw [if_neg c, if_neg c] at hg
     have e3 : ieq (ofN (lenI s.actives)) 0 = false := by rw [ieq_f, ofN_e]; omega
     have hl : (upTo [] s.nt 0).length = s.nt := by simp [upTo]
     obtain ⟨g1, g2⟩ := SR.somes_all (upTo [] s.nt 0) s hr hf (by rw [hl]; omega)
     rw [hl] at g2
     have hsg : somG s s.nt = true := by
      simp only [somG, Bool.and_eq_true, decide_eq_true_eq]
      exact ⟨hf, by omega⟩
     have hrk : rndOk (s.somes (upTo [] s.nt 0) 0) s.nt (upTo [] s.nt 0) lim (k + 1) = true := by
      simp only [rndOk, Bool.and_eq_true, decide_eq_true_eq]
      have q1 := g2.nl
      have q2 := g2.nt
      exact ⟨g1, by omega, by omega, by omega, by rw [q2], by omega, by omega, hlim⟩
     have hmu : (lim - (k + 1)).toNat.succ.le (lim - k).toNat := Nat.succ_le_of_lt (by omega)
     rw [e3, hsg]
     exact ⟨hmu, asrt_iff.2 ⟨hrk, hg⟩⟩
   ·have e1 : nDiff lim k = 0 := by rw [nDiff_e]; omega
    rw [e1] at hg
    exact hg
  ·exact hg.elim
 ·exact hg.elim
theorem SR.round_end : ∀ (f : Nat) (s : SR) (k : Int), SR.quietIn f s = false → (SR.roundF f s k).2 = k + f
 | 0, s, k, _ => by simp [SR.roundF]
 | f + 1, s, k, h => by
  unfold SR.quietIn at h
  unfold SR.roundF
  split at h
  ·cases h
  ·rename_i c
   rw [if_neg c, SR.round_end f _ (k + 1) h]
   omega
def Lrounds : Nat → Option LoopS := fun i => match i with
 | 0 => some (.summ spec_rndA.summ)
 | 2 => some (.summ spec_rndB.summ)
 | _ => none
theorem ok_Lrounds : ∀ i x, Lrounds i = some x → LoopHyp Tryz.prog 13 i x := by
 intro i s h
 unfold Lrounds at h
 split at h
 ·cases h; exact ⟨by kernel_rfl, loop_rndA⟩
 ·cases h; exact ⟨by kernel_rfl, loop_rndB⟩
 ·cases h
def Frounds : Pure1 := fun
 | [a_s, .int .i64 many] => (match asSR a_s with | some s => some (some (rndG s), .tup [SR.new (SR.rounds s many).1, .int .i64 (SR.rounds s many).2]) | none => none)
 | _ => none
def zq181 (s : SR) (many : Int) : List AV :=
 [AV.int .i64 (SR.roundF (nDiff (imin (imax many 0) 200) 0) (s.wake (-1)) 0).1.1, AV.int .i64 (SR.roundF (nDiff (imin (imax many 0) 200) 0) (s.wake (-1)) 0).1.2, AV.int .i64
 (SR.roundF (nDiff (imin (imax many 0) 200) 0) (s.wake (-1)) 0).1.3, AV.int .i64 (SR.roundF (nDiff (imin (imax many 0) 200) 0) (s.wake (-1)) 0).1.4, AV.int .i64 (SR.roundF (nDiff
 (imin (imax many 0) 200) 0) (s.wake (-1)) 0).1.5, AV.int .i64 (SR.roundF (nDiff (imin (imax many 0) 200) 0) (s.wake (-1)) 0).1.6, AV.bool (SR.roundF (nDiff (imin (imax many 0) 200)
 0) (s.wake (-1)) 0).1.7, AV.int .i64 (SR.roundF (nDiff (imin (imax many 0) 200) 0) (s.wake (-1)) 0).1.8, AV.int .i64 (SR.roundF (nDiff (imin (imax many 0) 200) 0) (s.wake (-1))
 0).1.9, AV.int .i64 (SR.roundF (nDiff (imin (imax many 0) 200) 0) (s.wake (-1)) 0).1.10, AV.own 88 (SR.roundF (nDiff (imin (imax many 0) 200) 0) (s.wake (-1)) 0).1.11 [.int .i64
 (SR.roundF (nDiff (imin (imax many 0) 200) 0) (s.wake (-1)) 0).1.12, .int .i64 (SR.roundF (nDiff (imin (imax many 0) 200) 0) (s.wake (-1)) 0).1.13], AV.own 3 (SR.roundF (nDiff (imin
 (imax many 0) 200) 0) (s.wake (-1)) 0).1.14 [.int .i64 (SR.roundF (nDiff (imin (imax many 0) 200) 0) (s.wake (-1)) 0).1.15], AV.own 3 (SR.roundF (nDiff (imin (imax many 0) 200) 0)
 (s.wake (-1)) 0).1.16 [.int .i64 (SR.roundF (nDiff (imin (imax many 0) 200) 0) (s.wake (-1)) 0).1.17], AV.int .i64 (SR.roundF (nDiff (imin (imax many 0) 200) 0) (s.wake (-1))
 0).1.18, AV.own 3 (SR.roundF (nDiff (imin (imax many 0) 200) 0) (s.wake (-1)) 0).1.19 [.int .i64 (SR.roundF (nDiff (imin (imax many 0) 200) 0) (s.wake (-1)) 0).1.20], AV.int .i64
 (SR.roundF (nDiff (imin (imax many 0) 200) 0) (s.wake (-1)) 0).1.21, AV.own 3 (SR.roundF (nDiff (imin (imax many 0) 200) 0) (s.wake (-1)) 0).1.22 [.int .i64 (SR.roundF (nDiff (imin
 (imax many 0) 200) 0) (s.wake (-1)) 0).1.23], AV.int .i64 (SR.roundF (nDiff (imin (imax many 0) 200) 0) (s.wake (-1)) 0).1.24, AV.own 51 (SR.roundF (nDiff (imin (imax many 0) 200)
 0) (s.wake (-1)) 0).1.25 [.int .i64 (SR.roundF (nDiff (imin (imax many 0) 200) 0) (s.wake (-1)) 0).1.26, .int .i64 (SR.roundF (nDiff (imin (imax many 0) 200) 0) (s.wake (-1))
 0).1.27, .int .i64 (SR.roundF (nDiff (imin (imax many 0) 200) 0) (s.wake (-1)) 0).1.28, .int .i64 (SR.roundF (nDiff (imin (imax many 0) 200) 0) (s.wake (-1)) 0).1.29, .int .i64
 (SR.roundF (nDiff (imin (imax many 0) 200) 0) (s.wake (-1)) 0).1.30, .int .i64 (SR.roundF (nDiff (imin (imax many 0) 200) 0) (s.wake (-1)) 0).1.31, .int .i64 (SR.roundF (nDiff (imin
 (imax many 0) 200) 0) (s.wake (-1)) 0).1.32, .int .i64 (SR.roundF (nDiff (imin (imax many 0) 200) 0) (s.wake (-1)) 0).1.33, Col.bool (SR.roundF (nDiff (imin (imax many 0) 200) 0)
 (s.wake (-1)) 0).1.34, .int .i64 (SR.roundF (nDiff (imin (imax many 0) 200) 0) (s.wake (-1)) 0).1.35, .int .i64 (SR.roundF (nDiff (imin (imax many 0) 200) 0) (s.wake (-1)) 0).1.36],
 AV.own 53 (SR.roundF (nDiff (imin (imax many 0) 200) 0) (s.wake (-1)) 0).1.37 [.int .i64 (SR.roundF (nDiff (imin (imax many 0) 200) 0) (s.wake (-1)) 0).1.38, .int .i64 (SR.roundF
 (nDiff (imin (imax many 0) 200) 0) (s.wake (-1)) 0).1.39, .int .i64 (SR.roundF (nDiff (imin (imax many 0) 200) 0) (s.wake (-1)) 0).1.40, .int .i64 (SR.roundF (nDiff (imin (imax many
 0) 200) 0) (s.wake (-1)) 0).1.41, .int .i64 (SR.roundF (nDiff (imin (imax many 0) 200) 0) (s.wake (-1)) 0).1.42]]
theorem vc_rounds (s : SR) (many : Int) (r : AV) : VC Tryz.prog (tabS tabG1) (oneL 13 Lrounds) true 13 [s.av, .int .i64 many] r = (
 asrt s.fit (asrt (band (nle (nOf (ofN s.25)) 1000000) (band (ile 0 (ofN s.25)) true)) (asrt (rndOk (s.wake (-1)) (lenI (upTo [] (nOf (ofN s.25)) 0)) (upTo [] (nOf (ofN s.25)) 0)
 (imin (imax many 0) 200) 0) (br (SR.quietIn (nDiff (imin (imax many 0) 200) 0) (s.wake (-1))) (some (AV.tup [AV.agg (zq181 s many), AV.int .i64 (SR.roundF (nDiff (imin (imax many 0)
 200) 0) (s.wake (-1)) 0).2]) = some r) (some (AV.tup [AV.agg (zq181 s many), AV.int .i64 (imin (imax many 0) 200)]) = some r))))) := by kernel_rfl
theorem ok_rounds : PureOK Tryz.prog 13 Frounds := by
 refine tab_loops mixed (l := tabG1) ok_tabG1 true Lrounds (by kernel_rfl) ok_Lrounds fun xs b r h hb wf => ?_
 unfold Frounds at h
 split at h
 ·rename_i a_s many
  split at h
  ·rename_i s h_s
   obtain rfl := asSR_some h_s
   cases h
   try rw [some_f] at hb
   simp only [WFL, WF, List.mem_cons, List.not_mem_nil, or_false, forall_eq_or_imp, forall_eq, Col.len, and_true, true_and, wf_av] at wf
   rw [vc_rounds]
   dsimp only [zq181]
   simp only [SR.wake_neg]
   simp only [rndG, Bool.and_eq_true, decide_eq_true_eq] at hb
   obtain ⟨hf, hnl, h16⟩ := hb
   have en : nOf (ofN s.nt) = s.nt := by rw [nOf_e, ofN_e]; omega
   have hl : (upTo [] s.nt 0).length = s.nt := by simp [upTo]
   have b1 : band (nle (nOf (ofN s.nt)) 1000000) (band (ile 0 (ofN s.nt)) true) = true := by
    simp only [band_t, nle_t, ile_t, and_true]
    rw [en, ofN_e]
    omega
   have hlim : 0 ≤ imin (imax many 0) 200 ∧ imin (imax many 0) 200 ≤ 200 := by rw [imin_e, imax_e]; omega
   have b2 : rndOk s (lenI (upTo [] (nOf (ofN s.nt)) 0)) (upTo [] (nOf (ofN s.nt)) 0) (imin (imax many 0) 200) 0 = true := by
    simp only [rndOk, Bool.and_eq_true, decide_eq_true_eq, en, lenI_e, hl]
    exact ⟨hf, by omega, h16, trivial, trivial, by omega, by omega, by omega⟩
   rw [hf, b1, b2]
   simp only [asrt_tt]
   have ef : nDiff (imin (imax many 0) 200) 0 = nOf (imin (imax many 0) 200) := by rw [nDiff_e, nOf_e]; omega
   rw [ef]
   unfold SR.rounds
   cases hq : SR.quietIn (nOf (imin (imax many 0) 200)) s with
   | true => rfl
   | false =>
    have := SR.round_end _ s 0 hq
    have e3 : (SR.roundF (nOf (imin (imax many 0) 200)) s 0).2 = imin (imax many 0) 200 := by rw [this, nOf_e]; omega
    rw [br_ff, e3]
    rfl
  ·cases h
 ·cases h
end Go.Own
end
section
namespace Go.Own
open Go Go.Proofs
set_option maxRecDepth 100000
theorem op_23 : OpA Tryz.prog 23 (fun e : Int × Int × Int × Int × Int × Int × Bool => [.int .i64 e.1, .int .i64 e.2.1, .int .i64 e.2.2.1, .int .i64 e.2.2.2.1, .int .i64 e.2.2.2.2.1, .int .i64 e.2.2.2.2.2.1, .bool e.2.2.2.2.2.2]) (fun _ => True) := by
 have h := opA_struct (n := 7) Tryz.underlying23 (by kernel_rfl) (opF_cons (n := 1) rfl (by kernel_rfl) (opA_int Tryz.underlying3) (opF_cons (n := 1) rfl (by kernel_rfl) (opA_int Tryz.underlying3) (opF_cons (n := 1) rfl (by kernel_rfl) (opA_int Tryz.underlying3) (opF_cons (n := 1) rfl (by kernel_rfl) (opA_int Tryz.underlying3) (opF_cons (n := 1) rfl (by kernel_rfl) (opA_int Tryz.underlying3) (opF_cons (n := 1) rfl (by kernel_rfl) (opA_int Tryz.underlying3) (opF_last (n := 1) rfl (by kernel_rfl) (opA_bool Tryz.underlying4))))))))
 intro w H enc base spare held fuel cs x hx
 obtain ⟨a, h1, _⟩ := h w H enc base spare held fuel cs x hx
 exact ⟨a, h1, trivial⟩
end Go.Own
end
section
namespace Go.Own
open Go Go.Proofs
set_option maxRecDepth 100000
set_option maxHeartbeats 4000000
def fewFrom (ll : List (List Int)) (i : Nat) : Bool := (ll.drop i).all fun l => decide (l.length ≤ 10)
def fewRaw (n : Nat) (ll : List (List Int)) (most : Int) : Bool := fewFrom ll 0 && decide ((n : Int) ≤ most)
def maxB (n : Nat) : Bool := decide (n ≤ 9223372036854775807)
def spec_few19 : LoopSpec := { n := 22, keep := [0, 1, 5], srcs := [], keepE := [0, 1, 4], srcsE := [], goes := fun vals objs Q => match vals, objs with
 | [.sl n [.ints .i64 ll], .int .i64 most, .int .i64 i], [] => asrt (band (maxB n) (band (ile 0 i) (ile i (ofN n)))) (br (fewFrom ll (nOf i)) (Q (.exit 0) [.sl n [.ints .i64 ll], .int .i64 most, .top] []) (Q .ret [.sl n [.ints .i64 ll], .int .i64 most, .bool false] []))
 | _, _ => False }
theorem lp_few19 (n : Nat) (ll : List (List Int)) (most i : Int) (mu : List AV → Heap → Nat) (Q : Ex → List AV → Heap → Prop) : runCode Tryz.prog (tabS tab0) (callN Tryz.prog (tabS tab0) noL 11) (fun _ => none) (bodyOf Tryz.prog 7 0) 0 ⟨mkT (spec_few19).keep [.sl n [.ints .i64 ll], .int .i64 most, .int .i64 i] (spec_few19).n 0, []⟩ ((spec_few19).ends mu [.sl n [.ints .i64 ll], .int .i64 most, .int .i64 i] ([]) Q) = (
 br (ilt i (ofN n)) (asrt (band (ile 0 i) (ilt i (ofN n))) (br (igt (ofN (lenI (gL ll (nOf i)))) 10) (Q Ex.ret [AV.sl n [Col.ints .i64 ll], AV.int .i64 most, AV.bool false] []) ((mu
 [AV.sl n [Col.ints .i64 ll], AV.int .i64 most, AV.int .i64 (iadd .i64 i 1)] []).succ.le (mu [AV.sl n [Col.ints .i64 ll], AV.int .i64 most, AV.int .i64 i] []) ∧ asrt (band (maxB n)
 (band (ile 0 (iadd .i64 i 1)) (ile (iadd .i64 i 1) (ofN n)))) (br (fewFrom ll (nOf (iadd .i64 i 1))) (Q (Ex.exit 0) [AV.sl n [Col.ints .i64 ll], AV.int .i64 most, AV.top] []) (Q
 Ex.ret [AV.sl n [Col.ints .i64 ll], AV.int .i64 most, AV.bool false] []))))) (Q (Ex.exit 0) [AV.sl n [Col.ints .i64 ll], AV.int .i64 most, AV.top] [])) := by kernel_rfl
theorem loop_few19 : LoopOK Tryz.prog (bodyOf Tryz.prog 7 0) spec_few19.summ := by
 refine tab_loop mixed (l := tab0) ok_tab0 (i := 0) spec_few19 (fun vals objs => match vals, objs with
  | [.sl n [.ints .i64 ll], .int .i64 most, .int .i64 i], [] => (n - i).toNat
  | _, _ => 0) fun vals objs Q h1 h2 wf wo hg => ?_
 unfold spec_few19 at hg
 simp only at hg
 split at hg
 ·rename_i n ll most i
  clear h1 h2
  try simp only [WFL, WF, List.mem_cons, List.not_mem_nil, or_false, forall_eq_or_imp, forall_eq, Col.len, and_true, true_and] at wf
  rw [lp_few19]
  simp only [asrt_iff, band_t, ile_t, ofN_e] at hg
  obtain ⟨⟨hn, h0, hi⟩, hg⟩ := hg
  have hn' : n ≤ 9223372036854775807 := by simpa [maxB] using hn
  obtain ⟨j, rfl⟩ := Int.eq_ofNat_of_zero_le h0
  have e6 : nOf (j : Int) = j := by rw [nOf_e]; omega
  rw [e6] at hg
  rw [br_iff, ilt_t, ilt_f]
  refine ⟨fun hj => ?_, fun hj => ?_⟩
  ·rw [ofN_e] at hj
   have hj' : j < n := by omega
   have hw : iadd .i64 (j : Int) 1 = (j : Int) + 1 := by rw [iadd_e]; exact IntWalk.i64_in _ (by omega)
   have e4 : nOf ((j : Int) + 1) = j + 1 := by rw [nOf_e]; omega
   have hl : j < ll.length := by omega
   have hs : fewFrom ll j = (decide ((gL ll j).length ≤ 10) && fewFrom ll (j + 1)) := by
    unfold fewFrom
    rw [List.drop_eq_getElem_cons hl, List.all_cons]
    simp [gL, hl]
   rw [hs] at hg
   have hmu : ((n : Int) - ((j : Int) + 1)).toNat.succ.le ((n : Int) - (j : Int)).toNat := Nat.succ_le_of_lt (by omega)
   have b1 : band (ile 0 (j : Int)) (ilt (j : Int) (ofN n)) = true := by simp only [band_t, ile_t, ilt_t, ofN_e]; omega
   have b2 : band (maxB n) (band (ile 0 ((j : Int) + 1)) (ile ((j : Int) + 1) (ofN n))) = true := by
    simp only [band_t, ile_t, ofN_e]
    exact ⟨hn, by omega, by omega⟩
   rw [hw, b1, e6, e4, b2]
   simp only [asrt_tt]
   by_cases c : (gL ll j).length ≤ 10
   ·have e7 : igt (ofN (lenI (gL ll j))) 10 = false := by rw [igt_f, ofN_e, lenI_e]; omega
    rw [e7]
    simp only [c, decide_true, Bool.true_and] at hg
    exact ⟨hmu, hg⟩
   ·have e7 : igt (ofN (lenI (gL ll j))) 10 = true := by rw [igt_t, ofN_e, lenI_e]; omega
    rw [e7]
    simp only [c, decide_false, Bool.false_and] at hg
    exact hg
  ·rw [ofN_e] at hj
   have hj' : n ≤ j := by omega
   have e : fewFrom ll j = true := by
    unfold fewFrom
    rw [List.drop_eq_nil_of_le (by omega)]
    rfl
   rw [e] at hg
   exact hg
 ·exact hg.elim
def Lfew19 : Nat → Option LoopS := fun i => match i with
 | 0 => some (.summ spec_few19.summ)
 | _ => none
theorem ok_Lfew19 : ∀ i x, Lfew19 i = some x → LoopHyp Tryz.prog 7 i x := by
 intro i s h
 unfold Lfew19 at h
 split at h
 ·cases h; exact ⟨by kernel_rfl, loop_few19⟩
 ·cases h
def Ffew19 : Pure1 := fun
 | [.sl n [.ints .i64 ll], .int .i64 most] => some (some (maxB n), .bool (fewRaw n ll most))
 | _ => none
theorem vc_few19 (n : Nat) (ll : List (List Int)) (most : Int) (r : AV) : VC Tryz.prog (tabS tab0) (oneL 7 Lfew19) false 7 [.sl n [.ints .i64 ll], .int .i64 most] r = (
 asrt (band (maxB n) (ile 0 (ofN n))) (br (fewFrom ll 0) (some (AV.bool (ile (ofN n) most)) = some r) (some (AV.bool false) = some r))) := by kernel_rfl
theorem ok_few19 : PureOK Tryz.prog 7 Ffew19 := by
 refine tab_loops mixed (l := tab0) ok_tab0 false Lfew19 (by kernel_rfl) ok_Lfew19 fun xs b r h hb wf => ?_
 unfold Ffew19 at h
 split at h
 ·rename_i n ll most
  cases h
  try rw [some_f] at hb
  try simp only [WFL, WF, List.mem_cons, List.not_mem_nil, or_false, forall_eq_or_imp, forall_eq, Col.len, and_true, true_and] at wf
  rw [vc_few19]
  have b1 : band (maxB n) (ile 0 (ofN n)) = true := by simp only [band_t, ile_t, ofN_e]; exact ⟨hb, by omega⟩
  rw [b1, asrt_tt]
  unfold fewRaw
  cases fewFrom ll 0 <;> rfl
 ·cases h
def tabI0 : List (FuncId × Pure1) := [(8, Ffnew), (13, Frounds), (11, Fsafe), (7, Ffew19), (9, Fdecode), (10, Fdocall)] ++ tabG1
theorem ok_tabI0 : ∀ p ∈ tabI0, PureOK Tryz.prog p.1 p.2 := by
 intro p hp
 simp only [tabI0, List.mem_append, List.mem_cons, List.not_mem_nil, or_false] at hp
 rcases hp with (rfl | rfl | rfl | rfl | rfl | rfl) | hp
 ·exact ok_fnew
 ·exact ok_rounds
 ·exact ok_safe
 ·exact ok_few19
 ·exact ok_decode
 ·exact ok_docall
 ·exact ok_tabG1 p hp
def Fawake24 : Pure1 := fun
 | [] => some (none, .bool true)
 | _ => none
theorem ok_awake24 : PureOK Tryz.prog 6 Fawake24 := by
 refine tab_plain mixed (l := tabI0) ok_tabI0 false (by kernel_rfl) fun xs b r h hb wf => ?_
 unfold Fawake24 at h
 split at h
 ·cases h
  have e : VC Tryz.prog (tabS tabI0) noL false 6 [] (.bool true) = (some (AV.bool true) = some (AV.bool true)) := by kernel_rfl
  rw [e]
 ·cases h
theorem op_30' : OpA Tryz.prog 30 (fun l : List Int => [.sl l.length [.int .i64 l]]) (fun l => l.length ≤ maxLen ∧ ∀ x ∈ l, (Lit.int .i64 x).wf = true) := opA_ints Tryz.underlying30 Tryz.underlying3 (by kernel_rfl)
theorem op_24 : OpA Tryz.prog 24 (fun l : List (List Int) => [.sl l.length [.ints .i64 l]]) (fun l => l.length ≤ maxLen ∧ ∀ x ∈ l, x.length ≤ maxLen ∧ ∀ y ∈ x, (Lit.int .i64 y).wf = true) := by
 have h := opA_rows [Fld.ints .i64 (fun l : List Int => l)] Tryz.underlying24 (by kernel_rfl) (by simp) op_30'
 intro w H enc base spare held fuel cs x hx
 obtain ⟨a, h1, h2⟩ := h w H enc base spare held fuel cs x hx
 exact ⟨a, by simpa [Fld.col] using h1, h2⟩
end Go.Own
end
section
namespace Go.Own
structure Vw where
 st : Nat → Int
 pc : Nat → Int
 sd : Nat → Int
 sn : Nat → Int
 l1 : List Int
 l2 : List Int
 l3 : List Int
 l4 : List Int
 fe : Int
 ee : Int
 full : Prop
 empty : Prop
def upd (f : Nat → Int) (i : Nat) (v : Int) : Nat → Int := fun j => if j = i then v else f j
theorem upd_at (f : Nat → Int) (i j : Nat) (v : Int) : upd f i v j = if j = i then v else f j := rfl
def Vw.wF (s : Vw) (k : Nat) : Prop := s.st k = 1 ∧ (s.sd k = 2 ∧ (s.pc k = 4 ∨ s.pc k = 6) ∨ s.sd k = 3 ∧ s.pc k = 1)
def Vw.wE (s : Vw) (k : Nat) : Prop := s.st k = 1 ∧ (s.sd k = 1 ∧ s.pc k = 6 ∨ s.sd k = 3 ∧ (s.pc k = 1 ∨ s.pc k = 2))
def Vw.nF (s : Vw) (i : Nat) : Prop := s.sd i = 1 ∧ (s.st i = 2 ∨ s.st i = 1 ∧ s.pc i = 8 ∧ s.sn i = s.fe)
def Vw.nE (s : Vw) (i : Nat) : Prop := s.sd i = 2 ∧ (s.st i = 2 ∨ s.st i = 1 ∧ s.pc i = 8 ∧ s.sn i = s.ee)
structure Vw.Inv (s : Vw) : Prop where
 stR : ∀ i, s.st i = 0 ∨ s.st i = 1 ∨ s.st i = 2
 headS : ∀ i, s.st i ≠ 0 → s.sd i = 1 → 2 ≤ s.pc i → s.pc i ≠ 9 → s.l1.head? = some (i : Int)
 headR : ∀ i, s.st i ≠ 0 → s.sd i = 2 → 2 ≤ s.pc i → s.pc i ≤ 8 → s.l2.head? = some (i : Int)
 park : ∀ i, s.st i = 2 → s.pc i = 2 ∧ (s.sd i = 1 ∨ s.sd i = 2)
 ndF : s.l3.Nodup
 ndE : s.l4.Nodup
 inF : ∀ x, x ∈ s.l3 ↔ ∃ i : Nat, x = i ∧ s.st i = 2 ∧ s.sd i = 1
 inE : ∀ x, x ∈ s.l4 ↔ ∃ i : Nat, x = i ∧ s.st i = 2 ∧ s.sd i = 2
 seenS : ∀ i, s.st i ≠ 0 → s.sd i = 1 → (s.pc i = 7 ∨ s.pc i = 8) → s.sn i ≤ s.fe
 seenR : ∀ i, s.st i ≠ 0 → s.sd i = 2 → (s.pc i = 7 ∨ s.pc i = 8) → s.sn i ≤ s.ee
 qS : ∀ i, s.nF i → s.full ∨ ∃ k, s.wF k
 qR : ∀ i, s.nE i → s.empty ∨ ∃ k, s.wE k
namespace Vw
variable {s : Vw} {i : Nat}
theorem oneS (h : s.Inv) {j : Nat} (h1 : s.st i ≠ 0) (h2 : s.sd i = 1) (h3 : 2 ≤ s.pc i) (h4 : s.pc i ≠ 9) (g1 : s.st j ≠ 0) (g2 : s.sd j = 1) (g3 : 2 ≤ s.pc j) (g4 : s.pc j ≠ 9) : i = j := by
 have a := h.headS i h1 h2 h3 h4
 have b := h.headS j g1 g2 g3 g4
 rw [a] at b
 simp only [Option.some.injEq] at b
 omega
theorem oneR (h : s.Inv) {j : Nat} (h1 : s.st i ≠ 0) (h2 : s.sd i = 2) (h3 : 2 ≤ s.pc i) (h4 : s.pc i ≤ 8) (g1 : s.st j ≠ 0) (g2 : s.sd j = 2) (g3 : 2 ≤ s.pc j) (g4 : s.pc j ≤ 8) : i = j := by
 have a := h.headR i h1 h2 h3 h4
 have b := h.headR j g1 g2 g3 g4
 rw [a] at b
 simp only [Option.some.injEq] at b
 omega
theorem nF_at (h : s.Inv) (hn : s.nF i) : s.st i ≠ 0 ∧ s.sd i = 1 ∧ 2 ≤ s.pc i ∧ s.pc i ≠ 9 := by
 obtain ⟨h1, h2⟩ := hn
 have := h.park i
 omega
theorem nE_at (h : s.Inv) (hn : s.nE i) : s.st i ≠ 0 ∧ s.sd i = 2 ∧ 2 ≤ s.pc i ∧ s.pc i ≤ 8 := by
 obtain ⟨h1, h2⟩ := hn
 have := h.park i
 omega
def move (s : Vw) (i : Nat) (p v : Int) (f e : Prop) : Vw := { s with pc := upd s.pc i p, sn := upd s.sn i v, full := f, empty := e }
theorem move_inv (h : s.Inv) {p v : Int} {f e : Prop} (hi : s.st i = 1)
  (c1 : s.sd i = 1 → 2 ≤ p → p ≠ 9 → s.l1.head? = some (i : Int))
  (c2 : s.sd i = 2 → 2 ≤ p → p ≤ 8 → s.l2.head? = some (i : Int))
  (c3 : s.sd i = 1 → (p = 7 ∨ p = 8) → v ≤ s.fe)
  (c4 : s.sd i = 2 → (p = 7 ∨ p = 8) → v ≤ s.ee)
  (c5 : s.sd i = 1 → p = 8 → f)
  (c6 : s.sd i = 2 → p = 8 → e)
  (dF : ∀ j, j ≠ i → s.nF j → (s.full → f ∨ (s.move i p v f e).wF i) ∧ (s.wF i → f ∨ (s.move i p v f e).wF i))
  (dE : ∀ j, j ≠ i → s.nE j → (s.empty → e ∨ (s.move i p v f e).wE i) ∧ (s.wE i → e ∨ (s.move i p v f e).wE i)) : (s.move i p v f e).Inv := by
 refine ⟨h.stR, ?_, ?_, ?_, h.ndF, h.ndE, h.inF, h.inE, ?_, ?_, ?_, ?_⟩
 ·intro j a1 a2 a3 a4
  by_cases e : j = i
  ·subst e
   simp only [move, upd_at, if_true] at a3 a4
   exact c1 a2 a3 a4
  ·simp only [move, upd_at, if_neg e] at a3 a4
   exact h.headS j a1 a2 a3 a4
 ·intro j a1 a2 a3 a4
  by_cases e : j = i
  ·subst e
   simp only [move, upd_at, if_true] at a3 a4
   exact c2 a2 a3 a4
  ·simp only [move, upd_at, if_neg e] at a3 a4
   exact h.headR j a1 a2 a3 a4
 ·intro j a1
  by_cases e : j = i
  ·subst e
   have a1 : s.st j = 2 := a1
   omega
  ·simp only [move, upd_at, if_neg e]
   exact h.park j a1
 ·intro j a1 a2 a3
  by_cases e : j = i
  ·subst e
   simp only [move, upd_at, if_true] at a3 ⊢
   exact c3 a2 a3
  ·simp only [move, upd_at, if_neg e] at a3 ⊢
   exact h.seenS j a1 a2 a3
 ·intro j a1 a2 a3
  by_cases e : j = i
  ·subst e
   simp only [move, upd_at, if_true] at a3 ⊢
   exact c4 a2 a3
  ·simp only [move, upd_at, if_neg e] at a3 ⊢
   exact h.seenR j a1 a2 a3
 ·intro j hn
  by_cases e' : j = i
  ·subst e'
   obtain ⟨n1, n2⟩ := hn
   simp only [move, upd_at, if_true] at n1 n2
   rcases n2 with n2 | ⟨_, n2, _⟩
   ·omega
   ·exact .inl (c5 n1 n2)
  ·have hn' : s.nF j := by
    unfold nF at hn ⊢
    simpa only [move, upd_at, if_neg e'] using hn
   obtain ⟨d1, d2⟩ := dF j e' hn'
   rcases h.qS j hn' with q | ⟨k, q⟩
   ·rcases d1 q with q | q
    ·exact .inl q
    ·exact .inr ⟨i, q⟩
   ·by_cases ek : k = i
    ·subst ek
     rcases d2 q with q | q
     ·exact .inl q
     ·exact .inr ⟨k, q⟩
    ·refine .inr ⟨k, ?_⟩
     unfold wF at q ⊢
     simpa only [move, upd_at, if_neg ek] using q
 ·intro j hn
  by_cases e' : j = i
  ·subst e'
   obtain ⟨n1, n2⟩ := hn
   simp only [move, upd_at, if_true] at n1 n2
   rcases n2 with n2 | ⟨_, n2, _⟩
   ·omega
   ·exact .inl (c6 n1 n2)
  ·have hn' : s.nE j := by
    unfold nE at hn ⊢
    simpa only [move, upd_at, if_neg e'] using hn
   obtain ⟨d1, d2⟩ := dE j e' hn'
   rcases h.qR j hn' with q | ⟨k, q⟩
   ·rcases d1 q with q | q
    ·exact .inl q
    ·exact .inr ⟨i, q⟩
   ·by_cases ek : k = i
    ·subst ek
     rcases d2 q with q | q
     ·exact .inl q
     ·exact .inr ⟨k, q⟩
    ·refine .inr ⟨k, ?_⟩
     unfold wE at q ⊢
     simpa only [move, upd_at, if_neg ek] using q
def rest (s : Vw) (i : Nat) (p v : Int) (l1 l2 : List Int) : Vw := { s with st := upd s.st i 0, pc := upd s.pc i p, sn := upd s.sn i v, l1 := l1, l2 := l2 }
theorem rest_inv (h : s.Inv) {p v : Int} {l1 l2 : List Int} (hi : s.st i = 1)
  (c1 : ∀ j, j ≠ i → s.l1.head? = some (j : Int) → l1.head? = some (j : Int))
  (c2 : ∀ j, j ≠ i → s.l2.head? = some (j : Int) → l2.head? = some (j : Int))
  (dF : (∃ j, s.nF j) → ¬ s.wF i) (dE : (∃ j, s.nE j) → ¬ s.wE i) : (s.rest i p v l1 l2).Inv := by
 have q : ∀ j, (s.rest i p v l1 l2).st j ≠ 0 → j ≠ i ∧ (s.rest i p v l1 l2).st j = s.st j ∧ (s.rest i p v l1 l2).pc j = s.pc j ∧ (s.rest i p v l1 l2).sn j = s.sn j := by
  intro j hj
  by_cases e : j = i
  ·subst e
   simp [rest, upd_at] at hj
  ·simp [rest, upd_at, e]
 refine ⟨?_, ?_, ?_, ?_, h.ndF, h.ndE, ?_, ?_, ?_, ?_, ?_, ?_⟩
 ·intro j
  have := h.stR j
  simp only [rest, upd_at]
  split <;> omega
 ·intro j a1 a2 a3 a4
  obtain ⟨q1, q2, q3, q4⟩ := q j a1
  rw [q2] at a1
  rw [q3] at a3 a4
  exact c1 j q1 (h.headS j a1 a2 a3 a4)
 ·intro j a1 a2 a3 a4
  obtain ⟨q1, q2, q3, q4⟩ := q j a1
  rw [q2] at a1
  rw [q3] at a3 a4
  exact c2 j q1 (h.headR j a1 a2 a3 a4)
 ·intro j a1
  obtain ⟨q1, q2, q3, q4⟩ := q j (by omega)
  rw [q2] at a1
  rw [q3]
  exact h.park j a1
 ·intro x
  refine (h.inF x).trans ⟨?_, ?_⟩
  ·rintro ⟨j, rfl, g1, g2⟩
   have : j ≠ i := by rintro rfl; omega
   exact ⟨j, rfl, by simp only [rest, upd_at, if_neg this]; exact g1, g2⟩
  ·rintro ⟨j, rfl, g1, g2⟩
   obtain ⟨q1, q2, q3, q4⟩ := q j (by omega)
   exact ⟨j, rfl, q2 ▸ g1, g2⟩
 ·intro x
  refine (h.inE x).trans ⟨?_, ?_⟩
  ·rintro ⟨j, rfl, g1, g2⟩
   have : j ≠ i := by rintro rfl; omega
   exact ⟨j, rfl, by simp only [rest, upd_at, if_neg this]; exact g1, g2⟩
  ·rintro ⟨j, rfl, g1, g2⟩
   obtain ⟨q1, q2, q3, q4⟩ := q j (by omega)
   exact ⟨j, rfl, q2 ▸ g1, g2⟩
 ·intro j a1 a2 a3
  obtain ⟨q1, q2, q3, q4⟩ := q j a1
  rw [q2] at a1
  rw [q3] at a3
  rw [q4]
  exact h.seenS j a1 a2 a3
 ·intro j a1 a2 a3
  obtain ⟨q1, q2, q3, q4⟩ := q j a1
  rw [q2] at a1
  rw [q3] at a3
  rw [q4]
  exact h.seenR j a1 a2 a3
 ·intro j hn
  obtain ⟨q1, q2, q3, q4⟩ := q j (by have := hn.2; omega)
  have hn' : s.nF j := by
   unfold nF at hn ⊢
   rw [q2, q3, q4] at hn
   exact hn
  rcases h.qS j hn' with g | ⟨k, g⟩
  ·exact .inl g
  ·have ek : k ≠ i := by rintro rfl; exact dF ⟨j, hn'⟩ g
   refine .inr ⟨k, ?_⟩
   unfold wF at g ⊢
   simpa only [rest, upd_at, if_neg ek] using g
 ·intro j hn
  obtain ⟨q1, q2, q3, q4⟩ := q j (by have := hn.2; omega)
  have hn' : s.nE j := by
   unfold nE at hn ⊢
   rw [q2, q3, q4] at hn
   exact hn
  rcases h.qR j hn' with g | ⟨k, g⟩
  ·exact .inl g
  ·have ek : k ≠ i := by rintro rfl; exact dE ⟨j, hn'⟩ g
   refine .inr ⟨k, ?_⟩
   unfold wE at g ⊢
   simpa only [rest, upd_at, if_neg ek] using g
def lines (s : Vw) (l1 l2 : List Int) : Vw := { s with l1 := l1, l2 := l2 }
theorem lines_inv (h : s.Inv) {l1 l2 : List Int} (c1 : ∀ j : Nat, s.l1.head? = some (j : Int) → l1.head? = some (j : Int)) (c2 : ∀ j : Nat, s.l2.head? = some (j : Int) → l2.head? = some (j : Int)) : (s.lines l1 l2).Inv :=
 ⟨h.stR, fun j a1 a2 a3 a4 => c1 j (h.headS j a1 a2 a3 a4), fun j a1 a2 a3 a4 => c2 j (h.headR j a1 a2 a3 a4), h.park, h.ndF, h.ndE, h.inF, h.inE, h.seenS, h.seenR, h.qS, h.qR⟩
def parkF (s : Vw) (i : Nat) : Vw := { s with st := upd s.st i 2, pc := upd s.pc i 2, l3 := s.l3 ++ [(i : Int)] }
def parkE (s : Vw) (i : Nat) : Vw := { s with st := upd s.st i 2, pc := upd s.pc i 2, l4 := s.l4 ++ [(i : Int)] }
theorem parkF_inv (h : s.Inv) (hi : s.st i = 1) (hd : s.sd i = 1) (hp : s.pc i = 8) (hs : s.sn i = s.fe) : (s.parkF i).Inv := by
 have hh := h.headS i (by omega) hd (by omega) (by omega)
 have q : ∀ j, j ≠ i → (s.parkF i).st j = s.st j ∧ (s.parkF i).pc j = s.pc j := by
  intro j e
  simp [parkF, upd_at, e]
 have q0 : (s.parkF i).st i = 2 ∧ (s.parkF i).pc i = 2 := by simp [parkF, upd_at]
 have hnot : (i : Int) ∉ s.l3 := by
  intro hm
  obtain ⟨j, e, g, _⟩ := (h.inF _).1 hm
  have : j = i := by omega
  subst this
  omega
 have hw : ∀ k, s.wF k → (s.parkF i).wF k := by
  intro k g
  have ek : k ≠ i := by
   rintro rfl
   have := g.2
   omega
  unfold wF at g ⊢
  rw [(q k ek).1, (q k ek).2]
  exact g
 have hw2 : ∀ k, s.wE k → (s.parkF i).wE k := by
  intro k g
  have ek : k ≠ i := by
   rintro rfl
   have := g.2
   omega
  unfold wE at g ⊢
  rw [(q k ek).1, (q k ek).2]
  exact g
 refine ⟨?_, ?_, ?_, ?_, ?_, h.ndE, ?_, ?_, ?_, ?_, ?_, ?_⟩
 ·intro j
  by_cases e : j = i
  ·subst e; omega
  ·rw [(q j e).1]; exact h.stR j
 ·intro j a1 a2 a3 a4
  by_cases e : j = i
  ·subst e; exact hh
  ·rw [(q j e).1] at a1
   rw [(q j e).2] at a3 a4
   exact h.headS j a1 a2 a3 a4
 ·intro j a1 a2 a3 a4
  by_cases e : j = i
  ·subst e
   have a2 : s.sd j = 2 := a2
   omega
  ·rw [(q j e).1] at a1
   rw [(q j e).2] at a3 a4
   exact h.headR j a1 a2 a3 a4
 ·intro j a1
  by_cases e : j = i
  ·subst e; exact ⟨q0.2, .inl hd⟩
  ·rw [(q j e).1] at a1
   rw [(q j e).2]
   exact h.park j a1
 ·show (s.l3 ++ [(i : Int)]).Nodup
  rw [List.nodup_append]
  refine ⟨h.ndF, by simp, ?_⟩
  intro a ha b hb
  simp at hb
  subst hb
  exact fun e => hnot (e ▸ ha)
 ·intro x
  show x ∈ s.l3 ++ [(i : Int)] ↔ _
  rw [List.mem_append, List.mem_singleton, h.inF x]
  constructor
  ·rintro (⟨j, rfl, g1, g2⟩ | rfl)
   ·have e : j ≠ i := by rintro rfl; omega
    exact ⟨j, rfl, by rw [(q j e).1]; exact g1, g2⟩
   ·exact ⟨i, rfl, q0.1, hd⟩
  ·rintro ⟨j, rfl, g1, g2⟩
   by_cases e : j = i
   ·subst e; exact .inr rfl
   ·exact .inl ⟨j, rfl, by rw [(q j e).1] at g1; exact g1, g2⟩
 ·intro x
  show x ∈ s.l4 ↔ _
  rw [h.inE x]
  constructor
  ·rintro ⟨j, rfl, g1, g2⟩
   have e : j ≠ i := by rintro rfl; omega
   exact ⟨j, rfl, by rw [(q j e).1]; exact g1, g2⟩
  ·rintro ⟨j, rfl, g1, g2⟩
   have e : j ≠ i := by
    rintro rfl
    have g2 : s.sd j = 2 := g2
    omega
   exact ⟨j, rfl, by rw [(q j e).1] at g1; exact g1, g2⟩
 ·intro j a1 a2 a3
  by_cases e : j = i
  ·subst e; omega
  ·rw [(q j e).1] at a1
   rw [(q j e).2] at a3
   exact h.seenS j a1 a2 a3
 ·intro j a1 a2 a3
  by_cases e : j = i
  ·subst e; omega
  ·rw [(q j e).1] at a1
   rw [(q j e).2] at a3
   exact h.seenR j a1 a2 a3
 ·intro j hn
  have hn' : s.nF j := by
   by_cases e : j = i
   ·subst e; exact ⟨hd, .inr ⟨hi, hp, hs⟩⟩
   ·unfold nF at hn ⊢
    rw [(q j e).1, (q j e).2] at hn
    exact hn
  rcases h.qS j hn' with g | ⟨k, g⟩
  ·exact .inl g
  ·exact .inr ⟨k, hw k g⟩
 ·intro j hn
  have e : j ≠ i := by
   rintro rfl
   have : s.sd j = 2 := hn.1
   omega
  have hn' : s.nE j := by
   unfold nE at hn ⊢
   rw [(q j e).1, (q j e).2] at hn
   exact hn
  rcases h.qR j hn' with g | ⟨k, g⟩
  ·exact .inl g
  ·exact .inr ⟨k, hw2 k g⟩
theorem parkE_inv (h : s.Inv) (hi : s.st i = 1) (hd : s.sd i = 2) (hp : s.pc i = 8) (hs : s.sn i = s.ee) : (s.parkE i).Inv := by
 have hh := h.headR i (by omega) hd (by omega) (by omega)
 have q : ∀ j, j ≠ i → (s.parkE i).st j = s.st j ∧ (s.parkE i).pc j = s.pc j := by
  intro j e
  simp [parkE, upd_at, e]
 have q0 : (s.parkE i).st i = 2 ∧ (s.parkE i).pc i = 2 := by simp [parkE, upd_at]
 have hnot : (i : Int) ∉ s.l4 := by
  intro hm
  obtain ⟨j, e, g, _⟩ := (h.inE _).1 hm
  have : j = i := by omega
  subst this
  omega
 have hw : ∀ k, s.wF k → (s.parkE i).wF k := by
  intro k g
  have ek : k ≠ i := by
   rintro rfl
   have := g.2
   omega
  unfold wF at g ⊢
  rw [(q k ek).1, (q k ek).2]
  exact g
 have hw2 : ∀ k, s.wE k → (s.parkE i).wE k := by
  intro k g
  have ek : k ≠ i := by
   rintro rfl
   have := g.2
   omega
  unfold wE at g ⊢
  rw [(q k ek).1, (q k ek).2]
  exact g
 refine ⟨?_, ?_, ?_, ?_, h.ndF, ?_, ?_, ?_, ?_, ?_, ?_, ?_⟩
 ·intro j
  by_cases e : j = i
  ·subst e; omega
  ·rw [(q j e).1]; exact h.stR j
 ·intro j a1 a2 a3 a4
  by_cases e : j = i
  ·subst e
   have a2 : s.sd j = 1 := a2
   omega
  ·rw [(q j e).1] at a1
   rw [(q j e).2] at a3 a4
   exact h.headS j a1 a2 a3 a4
 ·intro j a1 a2 a3 a4
  by_cases e : j = i
  ·subst e; exact hh
  ·rw [(q j e).1] at a1
   rw [(q j e).2] at a3 a4
   exact h.headR j a1 a2 a3 a4
 ·intro j a1
  by_cases e : j = i
  ·subst e; exact ⟨q0.2, .inr hd⟩
  ·rw [(q j e).1] at a1
   rw [(q j e).2]
   exact h.park j a1
 ·show (s.l4 ++ [(i : Int)]).Nodup
  rw [List.nodup_append]
  refine ⟨h.ndE, by simp, ?_⟩
  intro a ha b hb
  simp at hb
  subst hb
  exact fun e => hnot (e ▸ ha)
 ·intro x
  show x ∈ s.l3 ↔ _
  rw [h.inF x]
  constructor
  ·rintro ⟨j, rfl, g1, g2⟩
   have e : j ≠ i := by rintro rfl; omega
   exact ⟨j, rfl, by rw [(q j e).1]; exact g1, g2⟩
  ·rintro ⟨j, rfl, g1, g2⟩
   have e : j ≠ i := by
    rintro rfl
    have g2 : s.sd j = 1 := g2
    omega
   exact ⟨j, rfl, by rw [(q j e).1] at g1; exact g1, g2⟩
 ·intro x
  show x ∈ s.l4 ++ [(i : Int)] ↔ _
  rw [List.mem_append, List.mem_singleton, h.inE x]
  constructor
  ·rintro (⟨j, rfl, g1, g2⟩ | rfl)
   ·have e : j ≠ i := by rintro rfl; omega
    exact ⟨j, rfl, by rw [(q j e).1]; exact g1, g2⟩
   ·exact ⟨i, rfl, q0.1, hd⟩
  ·rintro ⟨j, rfl, g1, g2⟩
   by_cases e : j = i
   ·subst e; exact .inr rfl
   ·exact .inl ⟨j, rfl, by rw [(q j e).1] at g1; exact g1, g2⟩
 ·intro j a1 a2 a3
  by_cases e : j = i
  ·subst e; omega
  ·rw [(q j e).1] at a1
   rw [(q j e).2] at a3
   exact h.seenS j a1 a2 a3
 ·intro j a1 a2 a3
  by_cases e : j = i
  ·subst e; omega
  ·rw [(q j e).1] at a1
   rw [(q j e).2] at a3
   exact h.seenR j a1 a2 a3
 ·intro j hn
  have e : j ≠ i := by
   rintro rfl
   have : s.sd j = 1 := hn.1
   omega
  have hn' : s.nF j := by
   unfold nF at hn ⊢
   rw [(q j e).1, (q j e).2] at hn
   exact hn
  rcases h.qS j hn' with g | ⟨k, g⟩
  ·exact .inl g
  ·exact .inr ⟨k, hw k g⟩
 ·intro j hn
  have hn' : s.nE j := by
   by_cases e : j = i
   ·subst e; exact ⟨hd, .inr ⟨hi, hp, hs⟩⟩
   ·unfold nE at hn ⊢
    rw [(q j e).1, (q j e).2] at hn
    exact hn
  rcases h.qR j hn' with g | ⟨k, g⟩
  ·exact .inl g
  ·exact .inr ⟨k, hw2 k g⟩
def ringF (s : Vw) : Vw := { s with st := fun j => if s.st j = 2 ∧ s.sd j = 1 then 1 else s.st j, l3 := [], fe := s.fe + 1 }
def ringE (s : Vw) : Vw := { s with st := fun j => if s.st j = 2 ∧ s.sd j = 2 then 1 else s.st j, l4 := [], ee := s.ee + 1 }
theorem ringF_none (h : s.Inv) (j : Nat) : ¬ s.ringF.nF j := by
 rintro ⟨h1, h2⟩
 have h1 : s.sd j = 1 := h1
 have a := h.seenS j
 rcases h2 with h2 | ⟨h2, h3, h4⟩
 ·simp only [ringF] at h2
  split at h2 <;> omega
 ·have h3 : s.pc j = 8 := h3
  have h4 : s.sn j = s.fe + 1 := h4
  have : s.st j ≠ 0 := by
   intro e
   simp only [ringF] at h2
   split at h2 <;> omega
  have := a this h1 (.inr h3)
  omega
theorem ringE_none (h : s.Inv) (j : Nat) : ¬ s.ringE.nE j := by
 rintro ⟨h1, h2⟩
 have h1 : s.sd j = 2 := h1
 have a := h.seenR j
 rcases h2 with h2 | ⟨h2, h3, h4⟩
 ·simp only [ringE] at h2
  split at h2 <;> omega
 ·have h3 : s.pc j = 8 := h3
  have h4 : s.sn j = s.ee + 1 := h4
  have : s.st j ≠ 0 := by
   intro e
   simp only [ringE] at h2
   split at h2 <;> omega
  have := a this h1 (.inr h3)
  omega
theorem ringF_inv (h : s.Inv) : s.ringF.Inv := by
 have q0 : ∀ j, s.ringF.st j ≠ 0 → s.st j ≠ 0 := by
  intro j hj e
  apply hj
  simp [ringF, e]
 have q1 : ∀ j, s.st j = 1 → s.ringF.st j = 1 := by
  intro j hj
  simp [ringF, hj]
 have q2 : ∀ j, s.ringF.st j = 2 ↔ s.st j = 2 ∧ s.sd j ≠ 1 := by
  intro j
  simp only [ringF]
  split <;> omega
 refine ⟨?_, ?_, ?_, ?_, List.nodup_nil, h.ndE, ?_, ?_, ?_, ?_, ?_, ?_⟩
 ·intro j
  have := h.stR j
  simp only [ringF]
  split <;> omega
 ·exact fun j a1 a2 a3 a4 => h.headS j (q0 j a1) a2 a3 a4
 ·exact fun j a1 a2 a3 a4 => h.headR j (q0 j a1) a2 a3 a4
 ·exact fun j a1 => h.park j ((q2 j).1 a1).1
 ·intro x
  refine ⟨fun hx => (List.not_mem_nil hx).elim, ?_⟩
  rintro ⟨j, rfl, g1, g2⟩
  exact absurd g2 ((q2 j).1 g1).2
 ·intro x
  refine (h.inE x).trans ⟨?_, ?_⟩
  ·rintro ⟨j, rfl, g1, g2⟩
   exact ⟨j, rfl, (q2 j).2 ⟨g1, by omega⟩, g2⟩
  ·rintro ⟨j, rfl, g1, g2⟩
   exact ⟨j, rfl, ((q2 j).1 g1).1, g2⟩
 ·intro j a1 a2 a3
  have := h.seenS j (q0 j a1) a2 a3
  show s.sn j ≤ s.fe + 1
  omega
 ·exact fun j a1 a2 a3 => h.seenR j (q0 j a1) a2 a3
 ·exact fun j hn => absurd hn (ringF_none h j)
 ·intro j hn
  have hn' : s.nE j := by
   obtain ⟨n1, n2⟩ := hn
   have n1 : s.sd j = 2 := n1
   refine ⟨n1, ?_⟩
   rcases n2 with n2 | ⟨n2, n3, n4⟩
   ·exact .inl ((q2 j).1 n2).1
   ·refine .inr ⟨?_, n3, n4⟩
    simp only [ringF] at n2
    split at n2 <;> omega
  rcases h.qR j hn' with g | ⟨k, g⟩
  ·exact .inl g
  ·exact .inr ⟨k, q1 k g.1, g.2⟩
theorem ringE_inv (h : s.Inv) : s.ringE.Inv := by
 have q0 : ∀ j, s.ringE.st j ≠ 0 → s.st j ≠ 0 := by
  intro j hj e
  apply hj
  simp [ringE, e]
 have q1 : ∀ j, s.st j = 1 → s.ringE.st j = 1 := by
  intro j hj
  simp [ringE, hj]
 have q2 : ∀ j, s.ringE.st j = 2 ↔ s.st j = 2 ∧ s.sd j ≠ 2 := by
  intro j
  simp only [ringE]
  split <;> omega
 refine ⟨?_, ?_, ?_, ?_, h.ndF, List.nodup_nil, ?_, ?_, ?_, ?_, ?_, ?_⟩
 ·intro j
  have := h.stR j
  simp only [ringE]
  split <;> omega
 ·exact fun j a1 a2 a3 a4 => h.headS j (q0 j a1) a2 a3 a4
 ·exact fun j a1 a2 a3 a4 => h.headR j (q0 j a1) a2 a3 a4
 ·exact fun j a1 => h.park j ((q2 j).1 a1).1
 ·intro x
  refine (h.inF x).trans ⟨?_, ?_⟩
  ·rintro ⟨j, rfl, g1, g2⟩
   exact ⟨j, rfl, (q2 j).2 ⟨g1, by omega⟩, g2⟩
  ·rintro ⟨j, rfl, g1, g2⟩
   exact ⟨j, rfl, ((q2 j).1 g1).1, g2⟩
 ·intro x
  refine ⟨fun hx => (List.not_mem_nil hx).elim, ?_⟩
  rintro ⟨j, rfl, g1, g2⟩
  exact absurd g2 ((q2 j).1 g1).2
 ·exact fun j a1 a2 a3 => h.seenS j (q0 j a1) a2 a3
 ·intro j a1 a2 a3
  have := h.seenR j (q0 j a1) a2 a3
  show s.sn j ≤ s.ee + 1
  omega
 ·intro j hn
  have hn' : s.nF j := by
   obtain ⟨n1, n2⟩ := hn
   have n1 : s.sd j = 1 := n1
   refine ⟨n1, ?_⟩
   rcases n2 with n2 | ⟨n2, n3, n4⟩
   ·exact .inl ((q2 j).1 n2).1
   ·refine .inr ⟨?_, n3, n4⟩
    simp only [ringE] at n2
    split at n2 <;> omega
  rcases h.qS j hn' with g | ⟨k, g⟩
  ·exact .inl g
  ·exact .inr ⟨k, q1 k g.1, g.2⟩
 ·exact fun j hn => absurd hn (ringE_none h j)
def start (s : Vw) (i : Nat) (d : Int) : Vw := { s with st := upd s.st i 1, pc := upd s.pc i 0, sd := upd s.sd i d, sn := upd s.sn i 0 }
theorem start_inv (h : s.Inv) {d : Int} (hi : s.st i = 0) : (s.start i d).Inv := by
 have q : ∀ j, j ≠ i → (s.start i d).st j = s.st j ∧ (s.start i d).pc j = s.pc j ∧ (s.start i d).sd j = s.sd j ∧ (s.start i d).sn j = s.sn j := by
  intro j e
  simp [start, upd_at, e]
 have q0 : (s.start i d).st i = 1 ∧ (s.start i d).pc i = 0 := by simp [start, upd_at]
 have hw : ∀ k, s.st k = 1 → k ≠ i := by
  rintro k g rfl
  omega
 refine ⟨?_, ?_, ?_, ?_, h.ndF, h.ndE, ?_, ?_, ?_, ?_, ?_, ?_⟩
 ·intro j
  by_cases e : j = i
  ·subst e; omega
  ·rw [(q j e).1]; exact h.stR j
 ·intro j a1 a2 a3 a4
  by_cases e : j = i
  ·subst e; omega
  ·obtain ⟨e1, e2, e3, e4⟩ := q j e
   rw [e1] at a1; rw [e3] at a2; rw [e2] at a3 a4
   exact h.headS j a1 a2 a3 a4
 ·intro j a1 a2 a3 a4
  by_cases e : j = i
  ·subst e; omega
  ·obtain ⟨e1, e2, e3, e4⟩ := q j e
   rw [e1] at a1; rw [e3] at a2; rw [e2] at a3 a4
   exact h.headR j a1 a2 a3 a4
 ·intro j a1
  by_cases e : j = i
  ·subst e; omega
  ·obtain ⟨e1, e2, e3, e4⟩ := q j e
   rw [e1] at a1; rw [e2, e3]
   exact h.park j a1
 ·intro x
  refine (h.inF x).trans ⟨?_, ?_⟩
  ·rintro ⟨j, rfl, g1, g2⟩
   have e : j ≠ i := by rintro rfl; omega
   exact ⟨j, rfl, by rw [(q j e).1]; exact g1, by rw [(q j e).2.2.1]; exact g2⟩
  ·rintro ⟨j, rfl, g1, g2⟩
   have e : j ≠ i := by rintro rfl; omega
   exact ⟨j, rfl, by rw [(q j e).1] at g1; exact g1, by rw [(q j e).2.2.1] at g2; exact g2⟩
 ·intro x
  refine (h.inE x).trans ⟨?_, ?_⟩
  ·rintro ⟨j, rfl, g1, g2⟩
   have e : j ≠ i := by rintro rfl; omega
   exact ⟨j, rfl, by rw [(q j e).1]; exact g1, by rw [(q j e).2.2.1]; exact g2⟩
  ·rintro ⟨j, rfl, g1, g2⟩
   have e : j ≠ i := by rintro rfl; omega
   exact ⟨j, rfl, by rw [(q j e).1] at g1; exact g1, by rw [(q j e).2.2.1] at g2; exact g2⟩
 ·intro j a1 a2 a3
  by_cases e : j = i
  ·subst e; omega
  ·obtain ⟨e1, e2, e3, e4⟩ := q j e
   rw [e1] at a1; rw [e3] at a2; rw [e2] at a3; rw [e4]
   exact h.seenS j a1 a2 a3
 ·intro j a1 a2 a3
  by_cases e : j = i
  ·subst e; omega
  ·obtain ⟨e1, e2, e3, e4⟩ := q j e
   rw [e1] at a1; rw [e3] at a2; rw [e2] at a3; rw [e4]
   exact h.seenR j a1 a2 a3
 ·intro j hn
  have e : j ≠ i := by
   rintro rfl
   have := hn.2
   omega
  obtain ⟨e1, e2, e3, e4⟩ := q j e
  have hn' : s.nF j := by
   unfold nF at hn ⊢
   rw [e1, e2, e3, e4] at hn
   exact hn
  rcases h.qS j hn' with g | ⟨k, g⟩
  ·exact .inl g
  ·obtain ⟨f1, f2, f3, f4⟩ := q k (hw k g.1)
   refine .inr ⟨k, ?_⟩
   unfold wF at g ⊢
   rw [f1, f2, f3]
   exact g
 ·intro j hn
  have e : j ≠ i := by
   rintro rfl
   have := hn.2
   omega
  obtain ⟨e1, e2, e3, e4⟩ := q j e
  have hn' : s.nE j := by
   unfold nE at hn ⊢
   rw [e1, e2, e3, e4] at hn
   exact hn
  rcases h.qR j hn' with g | ⟨k, g⟩
  ·exact .inl g
  ·obtain ⟨f1, f2, f3, f4⟩ := q k (hw k g.1)
   refine .inr ⟨k, ?_⟩
   unfold wE at g ⊢
   rw [f1, f2, f3]
   exact g
def stir (s : Vw) (i : Nat) (l3 l4 : List Int) : Vw := { s with st := upd s.st i 1, l3 := l3, l4 := l4 }
theorem stir_inv (h : s.Inv) {l3 l4 : List Int} (hi : s.st i = 2) (n3 : l3.Nodup) (n4 : l4.Nodup) (m3 : ∀ x, x ∈ l3 ↔ x ∈ s.l3 ∧ x ≠ (i : Int)) (m4 : ∀ x, x ∈ l4 ↔ x ∈ s.l4 ∧ x ≠ (i : Int)) : (s.stir i l3 l4).Inv := by
 have q : ∀ j, j ≠ i → (s.stir i l3 l4).st j = s.st j := by
  intro j e
  simp [stir, upd_at, e]
 have q0 : (s.stir i l3 l4).st i = 1 := by simp [stir, upd_at]
 have hp := (h.park i hi).1
 have q1 : ∀ j, (s.stir i l3 l4).st j ≠ 0 → s.st j ≠ 0 := by
  intro j hj
  by_cases e : j = i
  ·subst e; omega
  ·rw [q j e] at hj; exact hj
 have q2 : ∀ j, s.st j = 1 → (s.stir i l3 l4).st j = 1 := by
  intro j hj
  have e : j ≠ i := by rintro rfl; omega
  rw [q j e]; exact hj
 refine ⟨?_, ?_, ?_, ?_, n3, n4, ?_, ?_, ?_, ?_, ?_, ?_⟩
 ·intro j
  by_cases e : j = i
  ·subst e; omega
  ·rw [q j e]; exact h.stR j
 ·exact fun j a1 a2 a3 a4 => h.headS j (q1 j a1) a2 a3 a4
 ·exact fun j a1 a2 a3 a4 => h.headR j (q1 j a1) a2 a3 a4
 ·intro j a1
  have e : j ≠ i := by rintro rfl; omega
  rw [q j e] at a1
  exact h.park j a1
 ·intro x
  refine (m3 x).trans ?_
  rw [h.inF x]
  constructor
  ·rintro ⟨⟨j, rfl, g1, g2⟩, g3⟩
   have e : j ≠ i := by rintro rfl; exact g3 rfl
   exact ⟨j, rfl, by rw [q j e]; exact g1, g2⟩
  ·rintro ⟨j, rfl, g1, g2⟩
   have e : j ≠ i := by rintro rfl; omega
   exact ⟨⟨j, rfl, by rw [q j e] at g1; exact g1, g2⟩, by omega⟩
 ·intro x
  refine (m4 x).trans ?_
  rw [h.inE x]
  constructor
  ·rintro ⟨⟨j, rfl, g1, g2⟩, g3⟩
   have e : j ≠ i := by rintro rfl; exact g3 rfl
   exact ⟨j, rfl, by rw [q j e]; exact g1, g2⟩
  ·rintro ⟨j, rfl, g1, g2⟩
   have e : j ≠ i := by rintro rfl; omega
   exact ⟨⟨j, rfl, by rw [q j e] at g1; exact g1, g2⟩, by omega⟩
 ·exact fun j a1 a2 a3 => h.seenS j (q1 j a1) a2 a3
 ·exact fun j a1 a2 a3 => h.seenR j (q1 j a1) a2 a3
 ·intro j hn
  have hn' : s.nF j := by
   obtain ⟨n1, n2⟩ := hn
   refine ⟨n1, ?_⟩
   by_cases e : j = i
   ·subst e
    rcases n2 with n2 | ⟨_, n2, _⟩
    ·omega
    ·have n2 : s.pc j = 8 := n2
     omega
   ·rw [q j e] at n2
    exact n2
  rcases h.qS j hn' with g | ⟨k, g⟩
  ·exact .inl g
  ·exact .inr ⟨k, q2 k g.1, g.2⟩
 ·intro j hn
  have hn' : s.nE j := by
   obtain ⟨n1, n2⟩ := hn
   refine ⟨n1, ?_⟩
   by_cases e : j = i
   ·subst e
    rcases n2 with n2 | ⟨_, n2, _⟩
    ·omega
    ·have n2 : s.pc j = 8 := n2
     omega
   ·rw [q j e] at n2
    exact n2
  rcases h.qR j hn' with g | ⟨k, g⟩
  ·exact .inl g
  ·exact .inr ⟨k, q2 k g.1, g.2⟩
end Vw
end Go.Own
end
section
namespace Go.Own
open Go Go.Proofs
set_option maxRecDepth 100000
theorem stamps0_ok {n : Nat} (h1 : 1 ≤ n) (h2 : n ≤ 64) : slotsOk n (stamps0 n) = true := by
 unfold slotsOk stampsFrom
 simp only [Bool.and_eq_true, List.all_eq_true, decide_eq_true_eq]
 refine ⟨fun p hp => ?_, h1, h2⟩
 have hp := List.mem_of_mem_drop hp
 obtain ⟨x, i⟩ := p
 have h3 := List.mem_zipIdx_iff_getElem?.1 hp
 simp only [stamps0, List.getElem?_map, Option.map_eq_some_iff] at h3
 obtain ⟨y, hy, rfl⟩ := h3
 obtain ⟨hl, rfl⟩ := List.getElem?_eq_some_iff.1 hy
 simp only [List.getElem_range, List.length_range] at hl ⊢
 unfold stampOk
 simp only [decide_eq_true_eq, Int.ofNat_eq_natCast]
 refine ⟨by omega, by omega, Int.emod_eq_of_lt (by omega) (by omega)⟩
theorem room_of {lg th po wt sp yi : Int} (h : confE lg th po wt sp yi = 0) : 2 ≤ roomOf lg th po wt sp yi ∧ roomOf lg th po wt sp yi ≤ 64 := by
 obtain ⟨k1, k2, _⟩ := confE_th h
 unfold roomOf
 rw [if_pos h]
 have : lg = 1 ∨ lg = 2 ∨ lg = 3 ∨ lg = 4 ∨ lg = 5 ∨ lg = 6 := by omega
 rcases this with rfl | rfl | rfl | rfl | rfl | rfl <;> decide
theorem newSR_ok {lg th po wt sp yi : Int} {sg : Bool} (h : confE lg th po wt sp yi = 0) :
  (newSR lg th po wt sp yi sg).fit = true ∧ (newSR lg th po wt sp yi sg).ok = true ∧ (newSR lg th po wt sp yi sg).qv = [] ∧ (newSR lg th po wt sp yi sg).po = po ∧ (newSR lg th po wt sp yi sg).md = 0 ∧ ((newSR lg th po wt sp yi sg).nt : Int) = th ∧ (newSR lg th po wt sp yi sg).sg = sg ∧
   ∀ i, 0 ≤ i → i < th → (newSR lg th po wt sp yi sg).invE i 1 0 = 0 := by
 obtain ⟨k1, k2, k3, k4⟩ := confE_th h
 obtain ⟨r1, r2⟩ := room_of h
 have hs : (slotN (roomOf lg th po wt sp yi) : Int) = roomOf lg th po wt sp yi := by
  unfold slotN
  rw [if_pos (by omega)]
  omega
 have e : ∀ i, 0 ≤ i → i < th → (rI th.toNat).getD i.toNat 0 = 0 := by
  intro i h1 h2
  unfold rI
  simp [List.getElem?_replicate]
  split <;> rfl
 have hok : (newSR lg th po wt sp yi sg).ok = true := by
  rw [SR.ok_iff]
  unfold newSR
  rw [if_pos h]
  have n1 : 1 ≤ slotN (roomOf lg th po wt sp yi) := by omega
  have n2 : slotN (roomOf lg th po wt sp yi) ≤ 64 := by omega
  have l0 : lineOk [] = true := by decide +kernel
  have v0 : evOk 0 [] = true := by decide +kernel
  have m0 : amOk th [[], [], [], []] = true := by simp [amOk, l0, amBadAt]
  refine ⟨by show roomOf lg th po wt sp yi ≠ 0; omega, ?_, hs, stamps0_ok n1 n2, m0, v0, v0, ⟨Int.le_refl _, by show (0 : Int) ≤ 1099511627776; omega, ?_⟩, ?_⟩
  ·show wordOk 0 0 0 (roomOf lg th po wt sp yi) = true
   simp [wordOk, wlen]
   omega
  ·show ((th.toNat : Nat) : Int) = th
   omega
  ·show badThAt th.toNat (rI th.toNat) (rI th.toNat) (rI th.toNat) (rI th.toNat) (rI th.toNat) (rI th.toNat) (rI th.toNat) (rB th.toNat) (rI th.toNat) 0 < 0
   have : th = 1 ∨ th = 2 ∨ th = 3 ∨ th = 4 ∨ th = 5 ∨ th = 6 ∨ th = 7 ∨ th = 8 ∨ th = 9 ∨ th = 10 ∨ th = 11 ∨ th = 12 ∨ th = 13 ∨ th = 14 ∨ th = 15 ∨ th = 16 := by omega
   rcases this with rfl | rfl | rfl | rfl | rfl | rfl | rfl | rfl | rfl | rfl | rfl | rfl | rfl | rfl | rfl | rfl <;> decide +kernel
 refine ⟨?_, hok, ?_, ?_, ?_, ?_, ?_, ?_⟩
 ·unfold newSR
  rw [if_pos h]
  simp only [SR.fit, in64, fewB, Bool.and_eq_true, decide_eq_true_eq]
  omega
 ·unfold SR.qv
  rw [if_pos hok]
  unfold newSR
  rw [if_pos h]
  rfl
 ·unfold newSR; rw [if_pos h]
 ·unfold newSR; rw [if_pos h]
 ·unfold newSR; rw [if_pos h]; show ((th.toNat : Nat) : Int) = th; omega
 ·unfold newSR; rw [if_pos h]
 ·intro i h1 h2
  unfold SR.invE
  rw [if_pos hok]
  unfold newSR
  rw [if_pos h]
  have hm : mayE th sg i 1 = 0 := by
   unfold mayE
   rw [if_neg (by omega), if_neg (by decide), if_neg (by simp [opSide])]
  show (if mayE th sg i 1 = 0 then Go.Own.invE ((rI th.toNat).getD i.toNat 0) 1 0 else _) = 0
  rw [if_pos hm, e i h1 h2]
  decide
theorem SR.inv_same (s : SR) (id kind val ut : Int) : (s.inv id kind val ut).fit = s.fit ∧ (s.inv id kind val ut).nl = s.nl ∧ (s.inv id kind val ut).md = s.md ∧ (s.inv id kind val ut).fe = s.fe ∧ (s.inv id kind val ut).ee = s.ee ∧ (s.inv id kind val ut).l3 = s.l3 ∧ (s.inv id kind val ut).l4 = s.l4 ∧ (s.inv id kind val ut).nt = s.nt ∧ (s.inv id kind val ut).tl = s.tl ∧ (s.inv id kind val ut).th = s.th ∧ (s.inv id kind val ut).sg = s.sg := by
 unfold SR.inv
 split <;> exact ⟨rfl, rfl, rfl, rfl, rfl, rfl, rfl, rfl, rfl, rfl, rfl⟩
theorem newSR_rows {lg th po wt sp yi : Int} {sg : Bool} : (newSR lg th po wt sp yi sg).rows := by
 unfold newSR
 split
 ·constructor <;> simp [stamps0, rI, rB]
 ·unfold zeroSR
  constructor <;> rfl
end Go.Own
end
