/- What stands behind it, part 10. -/
import Derived.Test.YtllmihapajeeiaaGreatW9
set_option linter.unusedVariables false
set_option linter.unusedSimpArgs false
section
namespace Go.Own
open Go Go.Proofs
set_option maxRecDepth 100000
set_option maxHeartbeats 4000000
theorem nil_closed {c c' : Cx} {l : List Value} (h : RelL c [] l) : RelL c' [] l := by
 cases l with
 | nil => trivial
 | cons _ _ => exact h.elim
theorem fn_closed {c c' : Cx} {f : Fn} {v : Value} (h : Rel c (.fn f [] []) v) : Rel c' (.fn f [] []) v := by
 simp only [Rel] at h ⊢
 obtain ⟨xs, ys, h1, h2, h3⟩ := h
 exact ⟨xs, ys, h1, nil_closed h2, nil_closed h3⟩
theorem agg_closed {c c' : Cx} {f : Fn} {v : Value} (h : Rel c (.agg [.fn f [] []]) v) : Rel c' (.agg [.fn f [] []]) v := by
 simp only [Rel] at h ⊢
 obtain ⟨⟨vs⟩, h1, h2⟩ := h
 refine ⟨⟨vs⟩, h1, ?_⟩
 match vs, h2 with
 | [x], h2 => exact ⟨fn_closed h2.1, trivial⟩
def sidesE : List (Int × AV) := [(1, .agg [.fn (.func 92) [] []]), (2, .agg [.fn (.func 93) [] []]), (3, .agg [.fn (.func 94) [] []])]
def byE : List (Int × AV) := [(11, .fn (.func 54) [] []), (10, .fn (.func 55) [] [])]
theorem ok_sidesE : SummOK Tryz.prog 76 (bornSumm sidesE) := by
 refine bornSumm_ok mixed (enters_of (by kernel_rfl)) ?_ ?_
 ·intro c c' ms h
  match ms, h with
  | [m1, m2, m3], ⟨a1, b1, a2, b2, a3, b3, _⟩ => exact ⟨a1, agg_closed b1, a2, agg_closed b2, a3, agg_closed b3, trivial⟩
 ·have e : callN Tryz.prog (fun _ => none) noL 2 76 [] [] (fun v H => v = .mp 0 ∧ H = [some (.map sidesE)]) = (AV.mp 0 = AV.mp 0 ∧ [some (AObj.map sidesE)] = [some (AObj.map sidesE)]) := by kernel_rfl
  rw [e]
  exact ⟨rfl, rfl⟩
theorem ok_byE : SummOK Tryz.prog 26 (bornSumm byE) := by
 refine bornSumm_ok mixed (enters_of (by kernel_rfl)) ?_ ?_
 ·intro c c' ms h
  match ms, h with
  | [m1, m2], ⟨a1, b1, a2, b2, _⟩ => exact ⟨a1, fn_closed b1, a2, fn_closed b2, trivial⟩
 ·have e : callN Tryz.prog (fun _ => none) noL 2 26 [] [] (fun v H => v = .mp 0 ∧ H = [some (.map byE)]) = (AV.mp 0 = AV.mp 0 ∧ [some (AObj.map byE)] = [some (AObj.map byE)]) := by kernel_rfl
  rw [e]
  exact ⟨rfl, rfl⟩
def SR.pickE (s : SR) (id : Int) : Int := if s.ok then (if id < 0 ∨ s.nt ≤ id then 123 else thRuns (s.st.getD id.toNat 0)) else 20
def SR.turn (s : SR) (id : Int) : SR := if opSide (s.kd.getD id.toNat 0) = 1 then s.send id else if opSide (s.kd.getD id.toNat 0) = 2 then s.recv id else s.step id
def SR.pick (s : SR) (id : Int) : SR := if s.pickE id = 0 then s.turn id else s
def bareT (k th : Int) : Int := if k = 11 then 0 else th
def bareV (k v : Int) : Int := if k = 11 ∨ opSide k = 1 then v else 0
def bareU (k u : Int) : Int := if opTimed k then u else 0
def timeB (n : Int) : Bool := decide (0 ≤ n ∧ n ≤ 1099511627776)
def callE (k th v u : Int) : Int :=
 if (k ≠ 11 ∧ k ≠ 10 ∧ ¬ 0 < opSide k) ∨ ¬ (bareT k th = th ∧ bareV k v = v ∧ bareU k u = u) ∨ th < 0 ∨ 16 ≤ th then 190
 else if timeB u = false ∨ k = 11 ∧ timeB v = false then 50 else 0
def decE (n : Nat) (l : List Int) : Int := if n = 4 then callE (gI l 0) (gI l 1) (gI l 2) (gI l 3) else 190
def decI (n : Nat) (l : List Int) (i : Nat) : Int := if decE n l = 0 then gI l i else 0
theorem opSide_in (k : Int) : opSide k = 0 ∨ opSide k = 1 ∨ opSide k = 2 ∨ opSide k = 3 := by
 unfold opSide
 split
 ·simp
 ·split
  ·simp
  ·split <;> simp
def tabX3 : List (FuncId × Pure1) := [(92, Fsend), (93, Frecv), (94, Fstep)] ++ tabX2
theorem ok_tabX3 : ∀ p ∈ tabX3, PureOK Tryz.prog p.1 p.2 := by
 intro p hp
 simp only [tabX3, List.mem_append, List.mem_cons, List.not_mem_nil, or_false] at hp
 rcases hp with (rfl | rfl | rfl) | hp
 ·exact ok_send
 ·exact ok_recv
 ·exact ok_step
 ·exact ok_tabX2 p hp
def Fpick : Pure1 := fun
 | [a_s, .int .i64 id] => (match asSR a_s with | some s => some (some (SR.fit s), .tup [SR.new (SR.pick s id), .int .i64 (SR.pickE s id)]) | none => none)
 | _ => none
theorem vc_pick (s : SR) (id : Int) (r : AV) : VC Tryz.prog (bornTab [(76, sidesE)] (tabS tabX3)) noL true 39 [s.av, .int .i64 id] r = (
 asrt s.fitW (br (bnot s.ok) (asrt s.fit (some (AV.tup [AV.agg (SR.nw (s.wake (-1))), AV.int .i64 20]) = some r)) (br (bite (ilt id 0) true (ige id (ofN s.25))) (asrt s.fit (some
 (AV.tup [AV.agg (SR.nw (s.wake (-1))), AV.int .i64 123]) = some r)) (asrt (band (ile 0 id) (ilt id (ofN s.25))) (br (ine (thRuns (gI s.26 (nOf id))) 0) (asrt s.fit (some (AV.tup
 [AV.agg (SR.nw (s.wake (-1))), AV.int .i64 (thRuns (gI s.26 (nOf id)))]) = some r)) (br (ieq (opSide (gI s.27 (nOf id))) 1) (asrt s.fit (some (AV.tup [AV.agg (SR.nw (s.send id)),
 AV.int .i64 0]) = some r)) (br (ieq (opSide (gI s.27 (nOf id))) 2) (asrt s.fit (some (AV.tup [AV.agg (SR.nw (s.recv id)), AV.int .i64 0]) = some r)) (br (ieq (opSide (gI s.27 (nOf
 id))) 3) (asrt s.fit (some (AV.tup [AV.agg (SR.nw (s.step id)), AV.int .i64 0]) = some r)) False)))))))) := by kernel_rfl
theorem ok_pick : PureOK Tryz.prog 39 Fpick := by
 refine bornTab_plain mixed (l := tabX3) ok_tabX3 (ms := [(76, sidesE)]) (fun m hm => by simp only [List.mem_cons, List.not_mem_nil, or_false] at hm; subst hm; exact ok_sidesE) true (by kernel_rfl) fun xs b r h hb wf => ?_
 unfold Fpick at h
 split at h
 ·rename_i a_s id
  split at h
  ·rename_i s h_s
   obtain rfl := asSR_some h_s
   cases h
   try rw [some_f] at hb
   simp only [WFL, WF, List.mem_cons, List.not_mem_nil, or_false, forall_eq_or_imp, forall_eq, Col.len, and_true, true_and, wf_av] at wf
   rw [vc_pick]
   dsimp only [SR.nw]
   simp only [SR.wake_neg]
   have hw : s.fitW = true := by simp [SR.fitW_fit, hb]
   rw [hb, hw]
   cases c1 : s.ok with
   | false =>
    have e : s.pickE id = 20 := by unfold SR.pickE; rw [c1]; rfl
    have e2 : s.pick id = s := by unfold SR.pick; rw [e]; rfl
    rw [e, e2]
    rfl
   | true =>
    have nn : bnot true = false := rfl
    simp only [nn, asrt_tt, br_ff]
    by_cases c2 : id < 0 ∨ (s.nt : Int) ≤ id
    ·have e : s.pickE id = 123 := by unfold SR.pickE; rw [if_pos c1, if_pos c2]
     have e2 : s.pick id = s := by unfold SR.pick; rw [e]; rfl
     have hc : bite (ilt id 0) true (ige id (ofN s.nt)) = true := by simp only [bite_t, ige_t, ilt_f, ofN_e]; exact ⟨fun _ => trivial, fun h => by omega⟩
     rw [e, e2, hc]
     rfl
    ·have hc : bite (ilt id 0) true (ige id (ofN s.nt)) = false := by
      cases hx : bite (ilt id 0) true (ige id (ofN s.nt)) with
      | false => rfl
      | true =>
       simp only [bite_t, ige_t, ilt_t, ilt_f, ofN_e] at hx
       exact absurd (by
        by_cases hl : id < 0
        ·exact .inl hl
        ·exact .inr (hx.2 (by omega))) c2
     have b1 : band (ile 0 id) (ilt id (ofN s.nt)) = true := by simp only [band_t, ile_t, ilt_t, ofN_e]; omega
     have q : id.toNat < s.nt := by omega
     rw [hc, b1]
     simp only [asrt_tt, br_ff]
     have hg : gI s.st (nOf id) = s.st.getD id.toNat 0 := rfl
     have hk : gI s.kd (nOf id) = s.kd.getD id.toNat 0 := rfl
     rw [hg, hk]
     have ep : s.pickE id = thRuns (s.st.getD id.toNat 0) := by unfold SR.pickE; rw [if_pos c1, if_neg c2]
     by_cases c3 : thRuns (s.st.getD id.toNat 0) = 0
     ·have hn : ine (thRuns (s.st.getD id.toNat 0)) 0 = false := by rw [ine_f]; exact c3
      rw [hn, br_ff]
      have e2 : s.pick id = s.turn id := by unfold SR.pick; rw [ep, if_pos c3]
      rw [e2, ep, c3]
      have ht := thOk_iff.1 (((SR.ok_iff2 s).1 c1).2 id.toNat q)
      have h0 : s.st.getD id.toNat 0 ≠ 0 := by intro h0; rw [h0] at c3; simp [thRuns] at c3
      have hs : opSide (s.kd.getD id.toNat 0) = 1 ∨ opSide (s.kd.getD id.toNat 0) = 2 ∨ opSide (s.kd.getD id.toNat 0) = 3 := by
       have h1 : 0 < opSide (s.kd.getD id.toNat 0) := by
        rcases ht.2.2.1 with h | h
        ·exact h
        ·exact absurd h.2 h0
       have := opSide_in (s.kd.getD id.toNat 0)
       omega
      unfold SR.turn
      rcases hs with hs | hs | hs
      ·simp only [hs, ieq_d, Int.reduceEq, decide_true, decide_false, br_tt, br_ff, if_true]; rfl
      ·simp only [hs, ieq_d, Int.reduceEq, decide_true, decide_false, br_tt, br_ff, if_true, if_false]; rfl
      ·simp only [hs, ieq_d, Int.reduceEq, decide_true, decide_false, br_tt, br_ff, if_true, if_false]; rfl
     ·have hn : ine (thRuns (s.st.getD id.toNat 0)) 0 = true := by rw [ine_t]; exact c3
      rw [hn, br_tt]
      have e2 : s.pick id = s := by unfold SR.pick; rw [ep, if_neg c3]
      rw [e2, ep]
      rfl
  ·cases h
 ·cases h
def Fctime : Pure1 := fun
 | [.int .i64 n] => some (none, .bool (timeB n))
 | _ => none
theorem vc_ctime (n : Int) (r : AV) : VC Tryz.prog (tabS tab0) noL false 51 [.int .i64 n] r = (
some (AV.bool (bite (ige n 0) (ile n 1099511627776) false)) = some r) := by kernel_rfl
theorem ok_ctime : PureOK Tryz.prog 51 Fctime := by
 refine tab_plain mixed (l := tab0) ok_tab0 false (by kernel_rfl) fun xs b r h hb wf => ?_
 unfold Fctime at h
 split at h
 ·rename_i n
  cases h
  try rw [some_f] at hb
  try simp only [WFL, WF, List.mem_cons, List.not_mem_nil, or_false, forall_eq_or_imp, forall_eq, Col.len, and_true, true_and] at wf
  rw [vc_ctime]
  simp only [bite_and]
  simp [owl, timeB]
  rw [Bool.eq_iff_iff]
  simp [owl]
 ·cases h
def Fbare : Pure1 := fun
 | [.agg [.int .i64 k, .int .i64 th, .int .i64 v, .int .i64 u]] => some (none, .agg [.int .i64 k, .int .i64 (bareT k th), .int .i64 (bareV k v), .int .i64 (bareU k u)])
 | _ => none
theorem vc_bare (k th v u : Int) (r : AV) : VC Tryz.prog (tabS tabT1) noL false 50 [.agg [.int .i64 k, .int .i64 th, .int .i64 v, .int .i64 u]] r = (
 br (ine k 11) (br (bite (ieq k 11) true (ieq (opSide k) 1)) (br (opTimed k) (some (AV.agg [AV.int .i64 k, AV.int .i64 th, AV.int .i64 v, AV.int .i64 u]) = some r) (some (AV.agg
 [AV.int .i64 k, AV.int .i64 th, AV.int .i64 v, AV.int .i64 0]) = some r)) (br (opTimed k) (some (AV.agg [AV.int .i64 k, AV.int .i64 th, AV.int .i64 0, AV.int .i64 u]) = some r)
 (some (AV.agg [AV.int .i64 k, AV.int .i64 th, AV.int .i64 0, AV.int .i64 0]) = some r))) (br (bite (ieq k 11) true (ieq (opSide k) 1)) (br (opTimed k) (some (AV.agg [AV.int .i64 k,
 AV.int .i64 0, AV.int .i64 v, AV.int .i64 u]) = some r) (some (AV.agg [AV.int .i64 k, AV.int .i64 0, AV.int .i64 v, AV.int .i64 0]) = some r)) (br (opTimed k) (some (AV.agg [AV.int
 .i64 k, AV.int .i64 0, AV.int .i64 0, AV.int .i64 u]) = some r) (some (AV.agg [AV.int .i64 k, AV.int .i64 0, AV.int .i64 0, AV.int .i64 0]) = some r)))) := by kernel_rfl
theorem ok_bare : PureOK Tryz.prog 50 Fbare := by
 refine tab_plain mixed (l := tabT1) ok_tabT1 false (by kernel_rfl) fun xs b r h hb wf => ?_
 unfold Fbare at h
 split at h
 ·rename_i k th v u
  cases h
  try rw [some_f] at hb
  try simp only [WFL, WF, List.mem_cons, List.not_mem_nil, or_false, forall_eq_or_imp, forall_eq, Col.len, and_true, true_and] at wf
  rw [vc_bare]
  by_cases c1 : k = 11
  ·subst c1
   have c3 : opTimed 11 = false := by decide
   simp [owl, bareT, bareV, bareU, c3]
  ·by_cases c2 : opSide k = 1 <;> cases c3 : opTimed k <;> simp [owl, bareT, bareV, bareU, c1, c2, c3]
 ·cases h
def tabCa : List (FuncId × Pure1) := [(51, Fctime), (50, Fbare)] ++ tabT1
theorem ok_tabCa : ∀ p ∈ tabCa, PureOK Tryz.prog p.1 p.2 := by
 intro p hp
 simp only [tabCa, List.mem_append, List.mem_cons, List.not_mem_nil, or_false] at hp
 rcases hp with (rfl | rfl) | hp
 ·exact ok_ctime
 ·exact ok_bare
 ·exact ok_tabT1 p hp
def FcallE : Pure1 := fun
 | [.agg [.int .i64 k, .int .i64 th, .int .i64 v, .int .i64 u]] => some (none, .int .i64 (callE k th v u))
 | _ => none
def zq69 (k : Int) (th : Int) (v : Int) (u : Int) : Bool :=
 band (ieq k k) (band (ieq th (bareT k th)) (band (ieq v (bareV k v)) (band (ieq u (bareU k u)) true)))
theorem vc_callE (k th v u : Int) (r : AV) : VC Tryz.prog (bornTab [(26, byE)] (tabS tabCa)) noL false 24 [.agg [.int .i64 k, .int .i64 th, .int .i64 v, .int .i64 u]] r = (
 br (ieq k 11) (br (bnot (zq69 k th v u)) (some (AV.int .i64 190) = some r) (br (ilt th 0) (some (AV.int .i64 190) = some r) (br (ige th 16) (some (AV.int .i64 190) = some r) (br
 (bnot (timeB u)) (some (AV.int .i64 50) = some r) (br (bite (ieq k 11) (bnot (timeB v)) false) (some (AV.int .i64 50) = some r) (some (AV.int .i64 0) = some r)))))) (br (ieq k 10)
 (br (bnot (zq69 k th v u)) (some (AV.int .i64 190) = some r) (br (ilt th 0) (some (AV.int .i64 190) = some r) (br (ige th 16) (some (AV.int .i64 190) = some r) (br (bnot (timeB u))
 (some (AV.int .i64 50) = some r) (br (bite (ieq k 11) (bnot (timeB v)) false) (some (AV.int .i64 50) = some r) (some (AV.int .i64 0) = some r)))))) (br (bnot (igt (opSide k) 0))
 (some (AV.int .i64 190) = some r) (br (bnot (zq69 k th v u)) (some (AV.int .i64 190) = some r) (br (ilt th 0) (some (AV.int .i64 190) = some r) (br (ige th 16) (some (AV.int .i64
 190) = some r) (br (bnot (timeB u)) (some (AV.int .i64 50) = some r) (br (bite (ieq k 11) (bnot (timeB v)) false) (some (AV.int .i64 50) = some r) (some (AV.int .i64 0) = some
 r))))))))) := by kernel_rfl
theorem ok_callE : PureOK Tryz.prog 24 FcallE := by
 refine bornTab_plain mixed (l := tabCa) ok_tabCa (ms := [(26, byE)]) (fun m hm => by simp only [List.mem_cons, List.not_mem_nil, or_false] at hm; subst hm; exact ok_byE) false (by kernel_rfl) fun xs b r h hb wf => ?_
 unfold FcallE at h
 split at h
 ·rename_i k th v u
  cases h
  try rw [some_f] at hb
  try simp only [WFL, WF, List.mem_cons, List.not_mem_nil, or_false, forall_eq_or_imp, forall_eq, Col.len, and_true, true_and] at wf
  rw [vc_callE]
  dsimp only [zq69]
  unfold callE
  have hb : (bnot (band (ieq k k) (band (ieq th (bareT k th)) (band (ieq v (bareV k v)) (band (ieq u (bareU k u)) true))))) = decide (¬ (bareT k th = th ∧ bareV k v = v ∧ bareU k u = u)) := by
   rw [Bool.eq_iff_iff]
   simp only [bnot_t, decide_eq_true_eq, band_f, ieq_t, ieq_f]
   constructor
   ·rintro h ⟨h1, h2, h3⟩
    have := h trivial h1.symm h2.symm h3.symm
    cases this
   ·intro h _ h1 h2 h3
    exact absurd ⟨h1.symm, h2.symm, h3.symm⟩ h
  rw [hb]
  simp only [br_iff, ieq_t, ieq_f, decide_eq_true_eq, decide_eq_false_iff_not, ilt_t, ilt_f, ige_t, ige_f, bnot_t, bnot_f, igt_t, igt_f, bite_t, bite_f, Option.some.injEq, AV.int.injEq, true_and]
  grind
 ·cases h
def tabCb : List (FuncId × Pure1) := [(24, FcallE)] ++ tabCa
theorem ok_tabCb : ∀ p ∈ tabCb, PureOK Tryz.prog p.1 p.2 := by
 intro p hp
 simp only [tabCb, List.mem_append, List.mem_cons, List.not_mem_nil, or_false] at hp
 rcases hp with (rfl) | hp
 ·exact ok_callE
 ·exact ok_tabCa p hp
def Fdecode : Pure1 := fun
 | [.sl n [.int .i64 l]] => some (none, .tup [.agg [.int .i64 (decI n l 0), .int .i64 (decI n l 1), .int .i64 (decI n l 2), .int .i64 (decI n l 3)], .int .i64 (decE n l)])
 | _ => none
theorem vc_decode (n : Nat) (l : List Int) (r : AV) : VC Tryz.prog (tabS tabCb) noL false 9 [.sl n [.int .i64 l]] r = (
 br (ine (ofN n) 4) (some (AV.tup [AV.agg [AV.int .i64 0, AV.int .i64 0, AV.int .i64 0, AV.int .i64 0], AV.int .i64 190]) = some r) (asrt (ilt 0 (ofN n)) (asrt (ilt 1 (ofN n)) (asrt
 (ilt 2 (ofN n)) (asrt (ilt 3 (ofN n)) (br (ine (callE (gI l 0) (gI l 1) (gI l 2) (gI l 3)) 0) (some (AV.tup [AV.agg [AV.int .i64 0, AV.int .i64 0, AV.int .i64 0, AV.int .i64 0],
 AV.int .i64 (callE (gI l 0) (gI l 1) (gI l 2) (gI l 3))]) = some r) (some (AV.tup [AV.agg [AV.int .i64 (gI l 0), AV.int .i64 (gI l 1), AV.int .i64 (gI l 2), AV.int .i64 (gI l 3)],
 AV.int .i64 0]) = some r))))))) := by kernel_rfl
theorem ok_decode : PureOK Tryz.prog 9 Fdecode := by
 refine tab_plain mixed (l := tabCb) ok_tabCb false (by kernel_rfl) fun xs b r h hb wf => ?_
 unfold Fdecode at h
 split at h
 ·rename_i n l
  cases h
  try rw [some_f] at hb
  try simp only [WFL, WF, List.mem_cons, List.not_mem_nil, or_false, forall_eq_or_imp, forall_eq, Col.len, and_true, true_and] at wf
  rw [vc_decode]
  simp only [br_iff, asrt_iff, ine_t, ine_f, ilt_t, ofN_e]
  unfold decI decE
  refine ⟨fun h => ?_, fun h => ⟨by omega, by omega, by omega, by omega, fun h2 => ?_, fun h2 => ?_⟩⟩
  ·rw [if_neg (show ¬ n = 4 by omega)]; rfl
  ·rw [if_pos (show n = 4 by omega), if_neg h2, if_neg h2, if_neg h2, if_neg h2]
  ·rw [if_pos (show n = 4 by omega), if_pos h2, if_pos h2, if_pos h2, if_pos h2, h2]
 ·cases h
def tabX4 : List (FuncId × Pure1) := [(39, Fpick), (15, Ffinvoke)] ++ tabX3
theorem ok_tabX4 : ∀ p ∈ tabX4, PureOK Tryz.prog p.1 p.2 := by
 intro p hp
 simp only [tabX4, List.mem_append, List.mem_cons, List.not_mem_nil, or_false] at hp
 rcases hp with (rfl | rfl) | hp
 ·exact ok_pick
 ·exact ok_finvoke
 ·exact ok_tabX3 p hp
def Fwpick : Pure1 := fun
 | [.agg [.int .i64 k, .int .i64 th, .int .i64 v, .int .i64 u], a_s] => (match asSR a_s with | some s => some (some (SR.fit s), .tup [SR.new (SR.pick s th), .int .i64 (SR.pickE s th)]) | none => none)
 | _ => none
theorem vc_wpick (k th v u : Int) (s : SR) (r : AV) : VC Tryz.prog (tabS tabX4) noL true 55 [.agg [.int .i64 k, .int .i64 th, .int .i64 v, .int .i64 u], s.av] r = (
 asrt s.fit (some (AV.tup [AV.agg (SR.nw (s.pick th)), AV.int .i64 (s.pickE th)]) = some r)) := by kernel_rfl
theorem ok_wpick : PureOK Tryz.prog 55 Fwpick := by
 refine tab_plain mixed (l := tabX4) ok_tabX4 true (by kernel_rfl) fun xs b r h hb wf => ?_
 unfold Fwpick at h
 split at h
 ·rename_i k th v u a_s
  split at h
  ·rename_i s h_s
   obtain rfl := asSR_some h_s
   cases h
   try rw [some_f] at hb
   simp only [WFL, WF, List.mem_cons, List.not_mem_nil, or_false, forall_eq_or_imp, forall_eq, Col.len, and_true, true_and, wf_av] at wf
   rw [vc_wpick]
   dsimp only [SR.nw]
   rw [hb]; rfl
  ·cases h
 ·cases h
def Fwinvoke : Pure1 := fun
 | [.agg [.int .i64 k, .int .i64 th, .int .i64 v, .int .i64 u], a_s] => (match asSR a_s with | some s => some (some (SR.fitW s), .tup [SR.new (SR.inv s th k v (iadd .i64 s.now u)), .int .i64 (SR.invE s th k (iadd .i64 s.now u))]) | none => none)
 | _ => none
theorem vc_winvoke (k th v u : Int) (s : SR) (r : AV) : VC Tryz.prog (tabS tabX4) noL true 27 [.agg [.int .i64 k, .int .i64 th, .int .i64 v, .int .i64 u], s.av] r = (
 asrt s.fitW (some (AV.tup [AV.agg (SR.nw (s.inv th k v (iadd .i64 s.24 u))), AV.int .i64 (s.invE th k (iadd .i64 s.24 u))]) = some r)) := by kernel_rfl
theorem ok_winvoke : PureOK Tryz.prog 27 Fwinvoke := by
 refine tab_plain mixed (l := tabX4) ok_tabX4 true (by kernel_rfl) fun xs b r h hb wf => ?_
 unfold Fwinvoke at h
 split at h
 ·rename_i k th v u a_s
  split at h
  ·rename_i s h_s
   obtain rfl := asSR_some h_s
   cases h
   try rw [some_f] at hb
   simp only [WFL, WF, List.mem_cons, List.not_mem_nil, or_false, forall_eq_or_imp, forall_eq, Col.len, and_true, true_and, wf_av] at wf
   rw [vc_winvoke]
   dsimp only [SR.nw]
   rw [hb]; rfl
  ·cases h
 ·cases h
end Go.Own
end
section
namespace Go.Own
open Go Go.Proofs
set_option maxRecDepth 100000
def aheadB (a i b j : Int) : Bool := decide (a < b ∨ (a = b ∧ i < j))
def dtime (x : Int) : Bool := decide (0 ≤ x ∧ x ≤ 1099511627776)
def did (x : Int) : Bool := decide (0 ≤ x ∧ x < 16)
def byK (ks id : List Int) (i : Nat) : List Int := (id.drop i).foldl mkey ks
def byC (ks id l xs : List Int) (i : Nat) : List Int := (((id.zip xs).drop i).foldl (fun (p : List Int × List Int) kx => (mkey p.1 kx.1, mput p.1 p.2 kx.1 kx.2)) (ks, l)).2
def dueFrom (at_ id : List Int) : Nat → Nat → List Int → List Bool → Bool
 | 0, _, _, _ => true
 | f + 1, j, ks, bs => dtime (at_.getD j 0) && did (id.getD j 0) && !mB ks bs (id.getD j 0) && (decide (j = 0) || aheadB (at_.getD (j - 1) 0) (id.getD (j - 1) 0) (at_.getD j 0) (id.getD j 0)) && dueFrom at_ id f (j + 1) (mkey ks (id.getD j 0)) (mput ks bs (id.getD j 0) true)
def dueOk (at_ id : List Int) : Bool := dueFrom at_ id at_.length 0 [] []
theorem byK_lt {ks id : List Int} {i : Nat} (h : i < id.length) : byK ks id i = byK (mkey ks (id.getD i 0)) id (i + 1) := by
 unfold byK
 rw [List.drop_eq_getElem_cons h, List.foldl_cons]
 simp [h]
theorem byK_ge {ks id : List Int} {i : Nat} (h : id.length ≤ i) : byK ks id i = ks := by
 unfold byK
 rw [List.drop_eq_nil_of_le h]
 rfl
theorem byC_lt {ks id l xs : List Int} {i : Nat} (h : i < id.length) (h2 : i < xs.length) : byC ks id l xs i = byC (mkey ks (id.getD i 0)) id (mput ks l (id.getD i 0) (xs.getD i 0)) xs (i + 1) := by
 unfold byC
 have hz : i < (id.zip xs).length := by simp; omega
 rw [List.drop_eq_getElem_cons hz, List.foldl_cons]
 simp [h, h2]
theorem byC_ge {ks id l xs : List Int} {i : Nat} (h : id.length ≤ i) : byC ks id l xs i = l := by
 unfold byC
 rw [List.drop_eq_nil_of_le (by simp; omega)]
 rfl
def Fdtime : Pure1 := fun
 | [.int .i64 x] => some (none, .bool (dtime x))
 | _ => none
theorem vc_dtime (x : Int) (r : AV) : VC Tryz.prog (tabS tab0) noL false 178 [.int .i64 x] r = (
some (AV.bool (bite (ige x 0) (ile x 1099511627776) false)) = some r) := by kernel_rfl
theorem ok_dtime : PureOK Tryz.prog 178 Fdtime := by
 refine tab_plain mixed (l := tab0) ok_tab0 false (by kernel_rfl) fun xs b r h hb wf => ?_
 unfold Fdtime at h
 split at h
 ·rename_i x
  cases h
  try rw [some_f] at hb
  try simp only [WFL, WF, List.mem_cons, List.not_mem_nil, or_false, forall_eq_or_imp, forall_eq, Col.len, and_true, true_and] at wf
  rw [vc_dtime]
  simp only [bite_and, bite_or]
  refine congrArg (fun b => some (AV.bool b)) ?_
  rw [Bool.eq_iff_iff]
  simp [owl, dtime]
 ·cases h
def Fdid : Pure1 := fun
 | [.int .i64 x] => some (none, .bool (did x))
 | _ => none
theorem vc_did (x : Int) (r : AV) : VC Tryz.prog (tabS tab0) noL false 179 [.int .i64 x] r = (
some (AV.bool (bite (ige x 0) (ilt x 16) false)) = some r) := by kernel_rfl
theorem ok_did : PureOK Tryz.prog 179 Fdid := by
 refine tab_plain mixed (l := tab0) ok_tab0 false (by kernel_rfl) fun xs b r h hb wf => ?_
 unfold Fdid at h
 split at h
 ·rename_i x
  cases h
  try rw [some_f] at hb
  try simp only [WFL, WF, List.mem_cons, List.not_mem_nil, or_false, forall_eq_or_imp, forall_eq, Col.len, and_true, true_and] at wf
  rw [vc_did]
  simp only [bite_and, bite_or]
  refine congrArg (fun b => some (AV.bool b)) ?_
  rw [Bool.eq_iff_iff]
  simp [owl, did]
 ·cases h
def Fdahead : Pure1 := fun
 | [.agg [.int .i64 a, .int .i64 i], .agg [.int .i64 b, .int .i64 j]] => some (none, .bool (aheadB a i b j))
 | _ => none
theorem vc_dahead (a i b j : Int) (r : AV) : VC Tryz.prog (tabS tab0) noL false 180 [.agg [.int .i64 a, .int .i64 i], .agg [.int .i64 b, .int .i64 j]] r = (
some (AV.bool (bite (ilt a b) true (bite (ieq a b) (ilt i j) false))) = some r) := by kernel_rfl
theorem ok_dahead : PureOK Tryz.prog 180 Fdahead := by
 refine tab_plain mixed (l := tab0) ok_tab0 false (by kernel_rfl) fun xs b r h hb wf => ?_
 unfold Fdahead at h
 split at h
 ·rename_i a i b j
  cases h
  try rw [some_f] at hb
  try simp only [WFL, WF, List.mem_cons, List.not_mem_nil, or_false, forall_eq_or_imp, forall_eq, Col.len, and_true, true_and] at wf
  rw [vc_dahead]
  simp only [bite_and, bite_or]
  refine congrArg (fun b => some (AV.bool b)) ?_
  rw [Bool.eq_iff_iff]
  simp [owl, aheadB]
 ·cases h
def Fdclone : Pure1 := fun
 | [.sl n [.int .i64 a, .int .i64 i]] => some (some (nle n 1000000), .own 172 n [.int .i64 a, .int .i64 i])
 | _ => none
theorem vc_dclone (n : Nat) (a i : List Int) (r : AV) : VC Tryz.prog (tabS tab0) noL true 134 [.sl n [.int .i64 a, .int .i64 i]] r = (
 ∀ (b : Bool), (b = true → n = 0) → br b (some (AV.own 172 0 [.int .i64 [], .int .i64 []]) = some r) (asrt (nle (nAdd 0 n) 8796093022208) (some (AV.own 172 (nAdd 0 n) [.int .i64 (cat
 [] a), .int .i64 (cat [] i)]) = some r))) := by kernel_rfl
theorem ok_dclone : PureOK Tryz.prog 134 Fdclone := by
 refine tab_plain mixed (l := tab0) ok_tab0 true (by kernel_rfl) fun xs b r h hb wf => ?_
 unfold Fdclone at h
 split at h
 ·rename_i n a i
  cases h
  try rw [some_f] at hb
  try simp only [WFL, WF, List.mem_cons, List.not_mem_nil, or_false, forall_eq_or_imp, forall_eq, Col.len, and_true, true_and] at wf
  rw [vc_dclone]
  simp [owl] at hb ⊢
  grind
 ·cases h
def tabD0 : List (FuncId × Pure1) := [(178, Fdtime), (179, Fdid), (180, Fdahead), (134, Fdclone), (40, Fints)]
theorem ok_tabD0 : ∀ p ∈ tabD0, PureOK Tryz.prog p.1 p.2 := by
 intro p hp
 simp only [tabD0, List.mem_cons, List.not_mem_nil, or_false] at hp
 rcases hp with rfl | rfl | rfl | rfl | rfl
 ·exact ok_dtime
 ·exact ok_did
 ·exact ok_dahead
 ·exact ok_dclone
 ·exact ok_ints
def spec_by : LoopSpec := { n := 19, keep := [3, 7, 8, 9], srcs := [.tmp 3], keepE := [3], srcsE := [.tmp 3], goes := fun vals objs Q => match vals, objs with
 | [.mp 0, .sl n [.int .i64 a, .int .i64 d], .int .i64 m, .int .i64 i], [some (.tmap ks [.int .i64 A, .int .i64 I] false)] => asrt (band (nle n 1000000) (band (ieq m (ofN n)) (band (ile 0 i) (ile i (ofN n))))) (Q (.exit 0) [.mp 0] [some (.tmap (byK ks d (nOf i)) [.int .i64 (byC ks d A a (nOf i)), .int .i64 (byC ks d I d (nOf i))] false)])
 | _, _ => False }
def zq70 (ks : List Int) (A : List Int) (I : List Int) : Heap :=
 [some (AObj.tmap ks [.int .i64 A, .int .i64 I] false)]
theorem lp_by (n : Nat) (a d : List Int) (m i : Int) (ks A I : List Int) (mu : List AV → Heap → Nat) (Q : Ex → List AV → Heap → Prop) : runCode Tryz.prog (tabS tabD0) (callN Tryz.prog (tabS tabD0) noL 11) (fun _ => none) (bodyOf Tryz.prog 135 0) 0 ⟨mkT (spec_by).keep [.mp 0, .sl n [.int .i64 a, .int .i64 d], .int .i64 m, .int .i64 i] (spec_by).n 0, [some (.tmap ks [.int .i64 A, .int .i64 I] false)]⟩ ((spec_by).ends mu [.mp 0, .sl n [.int .i64 a, .int .i64 d], .int .i64 m, .int .i64 i] ([some (.tmap ks [.int .i64 A, .int .i64 I] false)]) Q) = (
 br (ilt i m) (asrt (band (ile 0 i) (ilt i (ofN n))) ((mu [AV.mp 0, AV.sl n [.int .i64 a, .int .i64 d], AV.int .i64 m, AV.int .i64 (iadd .i64 i 1)] [some (AObj.tmap (mkey ks (gI d
 (nOf i))) [.int .i64 (mput ks A (gI d (nOf i)) (gI a (nOf i))), .int .i64 (mput ks I (gI d (nOf i)) (gI d (nOf i)))] false)]).succ.le (mu [AV.mp 0, AV.sl n [.int .i64 a, .int .i64
 d], AV.int .i64 m, AV.int .i64 i] (zq70 ks A I)) ∧ asrt (band (nle n 1000000) (band (ieq m (ofN n)) (band (ile 0 (iadd .i64 i 1)) (ile (iadd .i64 i 1) (ofN n))))) (Q (Ex.exit 0)
 [AV.mp 0] [some (AObj.tmap (byK (mkey ks (gI d (nOf i))) d (nOf (iadd .i64 i 1))) [.int .i64 (byC (mkey ks (gI d (nOf i))) d (mput ks A (gI d (nOf i)) (gI a (nOf i))) a (nOf (iadd
 .i64 i 1))), .int .i64 (byC (mkey ks (gI d (nOf i))) d (mput ks I (gI d (nOf i)) (gI d (nOf i))) d (nOf (iadd .i64 i 1)))] false)]))) (Q (Ex.exit 0) [AV.mp 0] (zq70 ks A I))) := by kernel_rfl
theorem loop_by : LoopOK Tryz.prog (bodyOf Tryz.prog 135 0) spec_by.summ := by
 refine tab_loop mixed (l := tabD0) ok_tabD0 (i := 0) spec_by (fun vals objs => match vals, objs with
  | [.mp 0, .sl n [.int .i64 a, .int .i64 d], .int .i64 m, .int .i64 i], [some (.tmap ks [.int .i64 A, .int .i64 I] false)] => (m - i).toNat
  | _, _ => 0) fun vals objs Q h1 h2 wf wo hg => ?_
 unfold spec_by at hg
 simp only at hg
 split at hg
 ·rename_i n a d m i ks A I
  clear h1 h2
  try simp only [WFL, WF, List.mem_cons, List.not_mem_nil, or_false, forall_eq_or_imp, forall_eq, Col.len, and_true, true_and] at wf
  rw [lp_by]
  dsimp only [zq70]
  obtain ⟨wa, wd⟩ : a.length = n ∧ d.length = n := by simpa using wf
  simp only [asrt_iff, band_t, nle_t, ieq_t, ile_t, ofN_e] at hg
  obtain ⟨⟨hb, rfl, h0, hn⟩, hg⟩ := hg
  obtain ⟨k, rfl⟩ := Int.eq_ofNat_of_zero_le h0
  have hw : IntKind.i64.wrap ((k : Int) + 1) = (k : Int) + 1 := wr (by omega) (by omega)
  have e2 : ((k : Int) + 1).toNat = k + 1 := by omega
  have e3 : (k : Int).toNat = k := by omega
  have e4 : nOf (iadd .i64 (k : Int) 1) = k + 1 := by rw [iadd_e, hw, nOf_e, e2]
  have e6 : nOf (k : Int) = k := by rw [nOf_e, e3]
  rw [br_iff, ilt_t, ilt_f]
  refine ⟨fun hk => ?_, fun hk => ?_⟩
  ·rw [e6, byK_lt (by omega), byC_lt (l := A) (xs := a) (by omega) (by omega), byC_lt (l := I) (xs := d) (by omega) (by omega)] at hg
   simp only [asrt_iff]
   refine ⟨by simp [owl]; omega, ?_, ?_, ?_⟩
   ·simp [owl, hw]; omega
   ·simp [owl, hw, hb]; omega
   ·rw [e4, e6]
    exact hg
  ·rw [e6, byK_ge (by omega), byC_ge (by omega), byC_ge (by omega)] at hg
   exact hg
 ·exact hg.elim
def Lby : Nat → Option LoopS := fun i => match i with
 | 0 => some (.summ spec_by.summ)
 | _ => none
theorem ok_Lby : ∀ i x, Lby i = some x → LoopHyp Tryz.prog 135 i x := by
 intro i s h
 unfold Lby at h
 split at h
 ·cases h; exact ⟨by kernel_rfl, loop_by⟩
 ·cases h
def Fby : Pure1 := fun
 | [.sl n [.int .i64 a, .int .i64 d]] => some (some (nle n 1000000), .omap (byK [] d 0) [.int .i64 (byC [] d [] a 0), .int .i64 (byC [] d [] d 0)] false)
 | _ => none
theorem vc_by (n : Nat) (a d : List Int) (r : AV) : VC Tryz.prog (tabS tabD0) (oneL 135 Lby) true 135 [.sl n [.int .i64 a, .int .i64 d]] r = (
 asrt (band (nle n 1000000) (band (ieq (ofN n) (ofN n)) (ile 0 (ofN n)))) (some (AV.omap (byK [] d 0) [.int .i64 (byC [] d [] a 0), .int .i64 (byC [] d [] d 0)] false) = some r)) := by kernel_rfl
theorem ok_by : PureOK Tryz.prog 135 Fby := by
 refine tab_loops mixed (l := tabD0) ok_tabD0 true Lby (by kernel_rfl) ok_Lby fun xs b r h hb wf => ?_
 unfold Fby at h
 split at h
 ·rename_i n a d
  cases h
  try rw [some_f] at hb
  try simp only [WFL, WF, List.mem_cons, List.not_mem_nil, or_false, forall_eq_or_imp, forall_eq, Col.len, and_true, true_and] at wf
  rw [vc_by]
  simp [owl] at hb ⊢
  exact hb
 ·cases h
def spec_dchk : LoopSpec := { n := 48, keep := [0, 3, 7, 8, 9], srcs := [.tmp 3], keepE := [2], srcsE := [], goes := fun vals objs Q => match vals, objs with
 | [.sl n [.int .i64 a, .int .i64 d], .mp 0, .sl n2 [.int .i64 a2, .int .i64 d2], .int .i64 m, .int .i64 i], [some (.tmap ks [.bool bs] true)] => asrt (band (nle n 1000000) (band (band (neq n n2) (band (sameI a a2) (sameI d d2))) (band (ieq m (ofN n)) (band (ile 0 i) (ile i (ofN n)))))) (br (dueFrom a d (nDiff (ofN n) i) (nOf i) ks bs) (Q (.exit 0) [.top] []) (Q .ret [.bool false] []))
 | _, _ => False }
theorem lp_dchk (n : Nat) (a d : List Int) (n2 : Nat) (a2 d2 : List Int) (m i : Int) (ks : List Int) (bs : List Bool) (mu : List AV → Heap → Nat) (Q : Ex → List AV → Heap → Prop) : runCode Tryz.prog (tabS tabD0) (callN Tryz.prog (tabS tabD0) noL 11) (fun _ => none) (bodyOf Tryz.prog 133 0) 0 ⟨mkT (spec_dchk).keep [.sl n [.int .i64 a, .int .i64 d], .mp 0, .sl n2 [.int .i64 a2, .int .i64 d2], .int .i64 m, .int .i64 i] (spec_dchk).n 0, [some (.tmap ks [.bool bs] true)]⟩ ((spec_dchk).ends mu [.sl n [.int .i64 a, .int .i64 d], .mp 0, .sl n2 [.int .i64 a2, .int .i64 d2], .int .i64 m, .int .i64 i] ([some (.tmap ks [.bool bs] true)]) Q) = (
 br (ilt i m) (asrt (band (ile 0 i) (ilt i (ofN n2))) (asrt (bimp (band (bnot (bite (bite (bnot (dtime (gI a2 (nOf i)))) true (bnot (did (gI d2 (nOf i))))) true (mB ks bs (gI d2 (nOf
 i))))) (igt i 0)) (band (ile 0 (isub .i64 i 1)) (ilt (isub .i64 i 1) (ofN n)))) (br (bite (bite (bite (bnot (dtime (gI a2 (nOf i)))) true (bnot (did (gI d2 (nOf i))))) true (mB ks
 bs (gI d2 (nOf i)))) true (bite (igt i 0) (bnot (aheadB (gI a (nOf (isub .i64 i 1))) (gI d (nOf (isub .i64 i 1))) (gI a2 (nOf i)) (gI d2 (nOf i)))) false)) (Q Ex.ret [AV.bool false]
 []) ((mu [AV.sl n [.int .i64 a, .int .i64 d], AV.mp 0, AV.sl n2 [.int .i64 a2, .int .i64 d2], AV.int .i64 m, AV.int .i64 (iadd .i64 i 1)] [some (AObj.tmap (mkey ks (gI d2 (nOf i)))
 [Col.bool (mput ks bs (gI d2 (nOf i)) true)] true)]).succ.le (mu [AV.sl n [.int .i64 a, .int .i64 d], AV.mp 0, AV.sl n2 [.int .i64 a2, .int .i64 d2], AV.int .i64 m, AV.int .i64 i]
 [some (AObj.tmap ks [Col.bool bs] true)]) ∧ asrt (band (nle n 1000000) (band (band (neq n n2) (band (sameI a a2) (sameI d d2))) (band (ieq m (ofN n)) (band (ile 0 (iadd .i64 i 1))
 (ile (iadd .i64 i 1) (ofN n)))))) (br (dueFrom a d (nDiff (ofN n) (iadd .i64 i 1)) (nOf (iadd .i64 i 1)) (mkey ks (gI d2 (nOf i))) (mput ks bs (gI d2 (nOf i)) true)) (Q (Ex.exit 0)
 [AV.top] []) (Q Ex.ret [AV.bool false] [])))))) (Q (Ex.exit 0) [AV.top] [])) := by kernel_rfl
theorem loop_dchk : LoopOK Tryz.prog (bodyOf Tryz.prog 133 0) spec_dchk.summ := by
 refine tab_loop mixed (l := tabD0) ok_tabD0 (i := 0) spec_dchk (fun vals objs => match vals, objs with
  | [.sl n [.int .i64 a, .int .i64 d], .mp 0, .sl n2 [.int .i64 a2, .int .i64 d2], .int .i64 m, .int .i64 i], [some (.tmap ks [.bool bs] true)] => (m - i).toNat
  | _, _ => 0) fun vals objs Q h1 h2 wf wo hg => ?_
 unfold spec_dchk at hg
 simp only at hg
 split at hg
 ·rename_i n a d n2 a2 d2 m i ks bs
  clear h1 h2
  try simp only [WFL, WF, List.mem_cons, List.not_mem_nil, or_false, forall_eq_or_imp, forall_eq, Col.len, and_true, true_and] at wf
  rw [lp_dchk]
  obtain ⟨⟨wa, wd⟩, _⟩ : (a.length = n ∧ d.length = n) ∧ _ := by simpa using wf
  simp only [asrt_iff, band_t, nle_t, ieq_t, ile_t, ofN_e, neq_t, sameI, beq_iff_eq] at hg
  obtain ⟨⟨hb, ⟨rfl, rfl, rfl⟩, rfl, h0, hn⟩, hg⟩ := hg
  obtain ⟨k, rfl⟩ := Int.eq_ofNat_of_zero_le h0
  have hw : IntKind.i64.wrap ((k : Int) + 1) = (k : Int) + 1 := wr (by omega) (by omega)
  have e2 : ((k : Int) + 1).toNat = k + 1 := by omega
  have e3 : (k : Int).toNat = k := by omega
  have e4 : nOf (iadd .i64 (k : Int) 1) = k + 1 := by rw [iadd_e, hw, nOf_e, e2]
  have e6 : nOf (k : Int) = k := by rw [nOf_e, e3]
  rw [br_iff, ilt_t, ilt_f]
  refine ⟨fun hk => ?_, fun hk => ?_⟩
  ·have w1 : 0 < k → IntKind.i64.wrap ((k : Int) - 1) = (k : Int) - 1 := fun _ => wr (by omega) (by omega)
   have e7 : 0 < k → nOf (isub .i64 (k : Int) 1) = k - 1 := fun h => by rw [isub_e, w1 h, nOf_e]; omega
   obtain ⟨f, hf⟩ : ∃ f, nDiff (n : Int) (k : Int) = f + 1 := ⟨n - k - 1, by rw [nDiff_e]; omega⟩
   have hf2 : nDiff (n : Int) ((k : Int) + 1) = f := by rw [nDiff_e] at hf ⊢; omega
   rw [e6, hf, dueFrom] at hg
   have key : bite (bite (bite (bnot (dtime (gI a k))) true (bnot (did (gI d k)))) true (mB ks bs (gI d k))) true (bite (igt (k : Int) 0) (bnot (aheadB (gI a (nOf (isub .i64 (k : Int) 1))) (gI d (nOf (isub .i64 (k : Int) 1))) (gI a k) (gI d k))) false) = !(dtime (a.getD k 0) && did (d.getD k 0) && !mB ks bs (d.getD k 0) && (decide (k = 0) || aheadB (a.getD (k - 1) 0) (d.getD (k - 1) 0) (a.getD k 0) (d.getD k 0))) := by
    show bite (bite (bite (bnot (dtime (a.getD k 0))) true (bnot (did (d.getD k 0)))) true (mB ks bs (d.getD k 0))) true _ = _
    by_cases hk0 : k = 0
    ·have h1 : igt (k : Int) 0 = false := by simp [igt, hk0]
     rw [h1, decide_eq_true hk0]
     cases dtime (a.getD k 0) <;> cases did (d.getD k 0) <;> cases mB ks bs (d.getD k 0) <;> rfl
    ·have h1 : igt (k : Int) 0 = true := by simp [igt]; omega
     rw [h1, decide_eq_false hk0, e7 (by omega)]
     show bite (bite (bite (bnot (dtime (a.getD k 0))) true (bnot (did (d.getD k 0)))) true (mB ks bs (d.getD k 0))) true (bnot (aheadB (a.getD (k - 1) 0) (d.getD (k - 1) 0) (a.getD k 0) (d.getD k 0))) = _
     cases dtime (a.getD k 0) <;> cases did (d.getD k 0) <;> cases mB ks bs (d.getD k 0) <;> cases aheadB (a.getD (k - 1) 0) (d.getD (k - 1) 0) (a.getD k 0) (d.getD k 0) <;> rfl
   rw [e6, key]
   simp only [asrt_iff]
   refine ⟨by simp [owl]; omega, ?_, ?_⟩
   ·by_cases hk0 : k = 0
    ·have h1 : igt (k : Int) 0 = false := by simp [igt, hk0]
     rw [h1]
     simp [owl]
    ·rw [isub_e, w1 (by omega)]
     simp [owl]
     omega
   ·rw [br_iff]
    refine ⟨fun hc => ?_, fun hc => ?_⟩
    ·rw [Bool.not_eq_true'] at hc
     rw [hc, Bool.false_and] at hg
     exact hg
    ·rw [Bool.not_eq_false'] at hc
     rw [hc, Bool.true_and] at hg
     refine ⟨by simp [owl, hw]; omega, ?_, ?_⟩
     ·simp [owl, hw, hb, sameI]; omega
     ·rw [e4, iadd_e, hw, ofN_e, hf2]
      exact hg
  ·have hf : nDiff (n : Int) (k : Int) = 0 := by rw [nDiff_e]; omega
   rw [hf, dueFrom] at hg
   exact hg
 ·exact hg.elim
def Ldchk : Nat → Option LoopS := fun i => match i with
 | 0 => some (.summ spec_dchk.summ)
 | _ => none
theorem ok_Ldchk : ∀ i x, Ldchk i = some x → LoopHyp Tryz.prog 133 i x := by
 intro i s h
 unfold Ldchk at h
 split at h
 ·cases h; exact ⟨by kernel_rfl, loop_dchk⟩
 ·cases h
def Fdchk : Pure1 := fun
 | [.sl n [.int .i64 a, .int .i64 d]] => some (some (nle n 1000000), .bool (dueOk a d))
 | _ => none
theorem vc_dchk (n : Nat) (a d : List Int) (r : AV) : VC Tryz.prog (tabS tabD0) (oneL 133 Ldchk) false 133 [.sl n [.int .i64 a, .int .i64 d]] r = (
 asrt (band (nle n 1000000) (band (band (neq n n) (band (sameI a a) (sameI d d))) (band (ieq (ofN n) (ofN n)) (ile 0 (ofN n))))) (br (dueFrom a d (nDiff (ofN n) 0) 0 [] []) (some
 (AV.bool true) = some r) (some (AV.bool false) = some r))) := by kernel_rfl
theorem ok_dchk : PureOK Tryz.prog 133 Fdchk := by
 refine tab_loops mixed (l := tabD0) ok_tabD0 false Ldchk (by kernel_rfl) ok_Ldchk fun xs b r h hb wf => ?_
 unfold Fdchk at h
 split at h
 ·rename_i n a d
  cases h
  try rw [some_f] at hb
  try simp only [WFL, WF, List.mem_cons, List.not_mem_nil, or_false, forall_eq_or_imp, forall_eq, Col.len, and_true, true_and] at wf
  rw [vc_dchk]
  obtain ⟨wa, wd⟩ : a.length = n ∧ d.length = n := by simpa using wf
  have e1 : nDiff (ofN n) 0 = a.length := by rw [nDiff_e, ofN_e, wa]; omega
  have e2 : nOf 0 = 0 := rfl
  simp only [nle_t] at hb
  simp only [asrt_iff, e1, e2]
  refine ⟨by simp [owl, sameI, hb], ?_⟩
  unfold dueOk
  cases dueFrom a d a.length 0 [] [] <;> rfl
 ·cases h
def permD (a i a' i' : List Int) : Prop := a'.length = a.length ∧ i'.length = i.length ∧ (a'.zip i').Perm (a.zip i)
def el (a i : List Int) (k : Nat) : Int × Int := (a.getD k 0, i.getD k 0)
def lt2 (p q : Int × Int) : Prop := p.1 < q.1 ∨ (p.1 = q.1 ∧ p.2 < q.2)
def hpFrom (a i : List Int) (base n : Nat) : Prop := ∀ k, 0 < k → k < n → base ≤ (k - 1) / 2 → ¬ lt2 (el a i k) (el a i ((k - 1) / 2))
def hpPre (a i : List Int) (base j n : Nat) : Prop := (∀ k, 0 < k → k < n → base ≤ (k - 1) / 2 → (k - 1) / 2 ≠ j → ¬ lt2 (el a i k) (el a i ((k - 1) / 2))) ∧ (0 < j → base ≤ (j - 1) / 2 → ∀ k, 0 < k → k < n → (k - 1) / 2 = j → ¬ lt2 (el a i k) (el a i ((j - 1) / 2)))
def downD (a i : List Int) (j n : Int) (a' i' : List Int) : Prop := permD a i a' i' ∧ (∀ k, n.toNat ≤ k → el a' i' k = el a i k) ∧ ∀ base, hpPre a i base j.toNat n.toNat → hpFrom a' i' base n.toNat
def sw (l : List Int) (j k : Nat) : List Int := (l.set j (l.getD k 0)).set k (l.getD j 0)
theorem ahead_lt {a i b j : Int} : aheadB a i b j = true ↔ lt2 (a, i) (b, j) := by simp [aheadB, lt2]
theorem lt2_asymm {p q : Int × Int} (h : lt2 p q) : ¬ lt2 q p := by unfold lt2 at *; omega
theorem lt2_trans {p q r : Int × Int} (h : lt2 p q) (h' : lt2 q r) : lt2 p r := by unfold lt2 at *; omega
theorem lt2_total {p q : Int × Int} (h : ¬ lt2 p q) (h' : ¬ lt2 q p) : p = q := by
 unfold lt2 at *
 have h1 : p.1 = q.1 := by omega
 have h2 : p.2 = q.2 := by omega
 exact Prod.ext h1 h2
theorem lt2_le {p q r : Int × Int} (h : ¬ lt2 q p) (h' : lt2 q r) : lt2 p r := by unfold lt2 at *; omega
theorem permD_refl (a i : List Int) : permD a i a i := ⟨rfl, rfl, List.Perm.refl _⟩
theorem permD_trans {a i b j c k : List Int} (h : permD a i b j) (h' : permD b j c k) : permD a i c k := ⟨h'.1.trans h.1, h'.2.1.trans h.2.1, h'.2.2.trans h.2.2⟩
theorem zip_set {a i : List Int} {j : Nat} {x y : Int} : (a.set j x).zip (i.set j y) = (a.zip i).set j (x, y) := by
 apply List.ext_getElem?
 intro k
 simp only [List.getElem?_zip_eq_some, List.getElem?_set, List.length_zip]
 induction a generalizing i j k with
 | nil => simp
 | cons z a ih =>
  cases i with
  | nil => simp
  | cons w i =>
   cases j with
   | zero => cases k <;> simp
   | succ j =>
    cases k with
    | zero => simp
    | succ k => simpa using ih (i := i) (j := j) k
theorem sw_perm {a i : List Int} {j k : Nat} (hj : j < a.length) (hk : k < a.length) (hl : i.length = a.length) : permD a i (sw a j k) (sw i j k) := by
 refine ⟨by simp [sw], by simp [sw], ?_⟩
 unfold sw
 rw [zip_set, zip_set]
 have h1 : j < (a.zip i).length := by simp; omega
 have h2 : k < (a.zip i).length := by simp; omega
 have e1 : (a.getD k 0, i.getD k 0) = (a.zip i)[k] := by simp [List.getD_eq_getElem?_getD, hk, show k < i.length by omega]
 have e2 : (a.getD j 0, i.getD j 0) = (a.zip i)[j] := by simp [List.getD_eq_getElem?_getD, hj, show j < i.length by omega]
 rw [e1, e2]
 exact List.set_set_perm h1 h2
theorem getI_set (l : List Int) (i j : Nat) (x : Int) : (l.set i x).getD j 0 = if i = j ∧ i < l.length then x else l.getD j 0 := by
 simp only [List.getD_eq_getElem?_getD, List.getElem?_set]
 by_cases h : i = j
 ·subst h
  by_cases h2 : i < l.length
  ·simp [h2]
  ·simp [h2]
 ·simp [h]
theorem el_sw {a i : List Int} {j k : Nat} (hj : j < a.length) (hk : k < a.length) (hl : i.length = a.length) (x : Nat) : el (sw a j k) (sw i j k) x = if x = k then el a i j else if x = j then el a i k else el a i x := by
 unfold el sw
 rw [getI_set, getI_set, getI_set, getI_set]
 simp only [List.length_set]
 by_cases h1 : x = k
 ·subst h1
  simp [hk, hl]
 ·by_cases h2 : x = j
  ·subst h2
   simp [h1, hj, hl, Ne.symm h1]
  ·simp [h1, h2, Ne.symm h1, Ne.symm h2]
theorem down_stop {a i : List Int} {j n : Nat} (h : ∀ k, 0 < k → k < n → (k - 1) / 2 = j → ¬ lt2 (el a i k) (el a i j)) : downD a i j n a i := by
 refine ⟨permD_refl a i, fun _ _ => rfl, fun base hp k h0 hk hb => ?_⟩
 simp only [Int.toNat_natCast] at hp hk
 by_cases he : (k - 1) / 2 = j
 ·rw [he]
  exact h k h0 hk he
 ·exact hp.1 k h0 hk hb he
theorem down_step {a i a' i' : List Int} {j s n : Nat} (hn : n ≤ a.length) (hl : i.length = a.length) (hs : (s - 1) / 2 = j) (h0 : 0 < s) (hsn : s < n) (hlt : lt2 (el a i s) (el a i j)) (hmin : ∀ k, 0 < k → k < n → (k - 1) / 2 = j → ¬ lt2 (el a i k) (el a i s))
  (h : downD (sw a j s) (sw i j s) s n a' i') : downD a i j n a' i' := by
 have hjs : j < s := by omega
 have hj : j < a.length := by omega
 have hsl : s < a.length := by omega
 obtain ⟨h1, h2, h3⟩ := h
 have E := el_sw hj hsl hl
 refine ⟨permD_trans (sw_perm hj hsl hl) h1, fun k hk => ?_, fun base hp => h3 base ?_⟩
 ·simp only [Int.toNat_natCast] at hk
  rw [h2 k (by simpa using hk), E, if_neg (by omega), if_neg (by omega)]
 ·simp only [Int.toNat_natCast] at hp ⊢
  obtain ⟨p1, p2⟩ := hp
  refine ⟨fun k k0 kn kb kne => ?_, fun _ kb k k0 kn kp => ?_⟩
  ·rw [E k, E ((k - 1) / 2)]
   by_cases e1 : k = s
   ·subst e1
    rw [if_pos rfl, if_neg (by omega), if_pos hs]
    exact lt2_asymm hlt
   ·rw [if_neg e1]
    by_cases e2 : k = j
    ·subst e2
     rw [if_pos rfl, if_neg kne, if_neg (by omega)]
     exact p2 k0 kb s h0 hsn hs
    ·rw [if_neg e2, if_neg kne]
     by_cases e3 : (k - 1) / 2 = j
     ·rw [if_pos e3]
      exact hmin k k0 kn e3
     ·rw [if_neg e3]
      exact p1 k k0 kn kb e3
  ·rw [hs] at kb ⊢
   rw [E k, E j, if_neg (by omega), if_neg (by omega), if_neg (by omega), if_pos rfl]
   have := p1 k k0 kn (by omega) (by omega)
   rw [kp] at this
   exact this
def pileIn (full : Bool) (n m : Nat) (a i : List Int) : Heap := match full with
 | true => [some (.var [.full 1]), some (.row 172 m [.int .i64 a, .int .i64 i])]
 | false => [some (.var [.osl 1 0 n]), some (.row 172 m [.int .i64 a, .int .i64 i])]
def asPile : Heap → Option (TypeId × Bool × Nat × Nat × List Int × List Int)
 | [some (.var [.full 1]), some (.row e m [.int .i64 a, .int .i64 i])] => some (e, true, m, m, a, i)
 | [some (.var [.osl 1 0 n]), some (.row e m [.int .i64 a, .int .i64 i])] => some (e, false, n, m, a, i)
 | _ => none
def spec_up : LoopSpec := { n := 23, keep := [0, 1], srcs := [.tmp 0, .cell 0 0], keepE := [0], srcsE := [.tmp 0, .cell 0 0], goes := fun vals objs Q => match vals, objs with
 | [.ifc t (.ptr 0 0 0), .int .i64 j], [some (.var [.full 1]), some (.row e m [.int .i64 a, .int .i64 i])] => asrt (band (neq t 206) (neq e 172)) (asrt (band (nle m 1000000) (band (ile 0 j) (ilt j (ofN m)))) (∀ a' i' : List Int, permD a i a' i' → Q (.exit 0) [.ifc 206 (.ptr 0 0 0)] [some (.var [.full 1]), some (.row 172 m [.int .i64 a', .int .i64 i'])]))
 | _, _ => False }
def zq71 (j : Int) : Nat :=
 nOf (iquo .i64 (isub .i64 j 1) 2)
def zq72 (m : Nat) (j : Int) : Bool :=
 band (ile 0 (iquo .i64 (isub .i64 j 1) 2)) (ilt (iquo .i64 (isub .i64 j 1) 2) (ofN m))
def zq73 (m : Nat) (a : List Int) (i : List Int) : Heap :=
 [some (AObj.var [AV.full 1]), some (AObj.row 172 m [.int .i64 a, .int .i64 i])]
theorem lp_up (m : Nat) (a i : List Int) (j : Int) (mu : List AV → Heap → Nat) (Q : Ex → List AV → Heap → Prop) : runCode Tryz.prog (tabS tabD0) (callN Tryz.prog (tabS tabD0) noL 11) (fun _ => none) (bodyOf Tryz.prog 197 0) 0 ⟨mkT (spec_up).keep [.ifc 206 (.ptr 0 0 0), .int .i64 j] (spec_up).n 0, [some (.var [.full 1]), some (.row 172 m [.int .i64 a, .int .i64 i])]⟩ ((spec_up).endsA mu [.ifc 206 (.ptr 0 0 0), .int .i64 j] ([some (.var [.full 1]), some (.row 172 m [.int .i64 a, .int .i64 i])]) Q) = (
 br (bnot (ieq (iquo .i64 (isub .i64 j 1) 2) j)) (asrt (band (ile 0 j) (ilt j (ofN m))) (asrt (nlt (nOf j) m) (asrt (zq72 m j) (asrt (nlt (zq71 j) m) (br (bnot (aheadB (gI a (nOf j))
 (gI i (nOf j)) (gI a (zq71 j)) (gI i (zq71 j)))) (Q (Ex.exit 0) [AV.ifc 206 (AV.ptr 0 0 0)] (zq73 m a i)) (asrt (band (ile 0 j) (ilt j (ofN m))) (asrt (nlt (nOf j) m) (asrt (zq72 m
 j) (asrt (nlt (zq71 j) m) (asrt (zq72 m j) (asrt (nlt (zq71 j) m) (asrt (band (ile 0 j) (ilt j (ofN m))) (asrt (nlt (nOf j) m) ((mu [AV.ifc 206 (AV.ptr 0 0 0), AV.int .i64 (iquo
 .i64 (isub .i64 j 1) 2)] [some (AObj.var [AV.full 1]), some (AObj.row 172 m [.int .i64 (put (put a (zq71 j) (gI a (nOf j))) (nOf j) (gI a (zq71 j))), .int .i64 (put (put i (zq71 j)
 (gI i (nOf j))) (nOf j) (gI i (zq71 j)))])]).succ.le (mu [AV.ifc 206 (AV.ptr 0 0 0), AV.int .i64 j] (zq73 m a i)) ∧ asrt (band (nle m 1000000) (zq72 m j)) (∀ (a' i' : List Int),
 permD (put (put a (zq71 j) (gI a (nOf j))) (nOf j) (gI a (zq71 j))) (put (put i (zq71 j) (gI i (nOf j))) (nOf j) (gI i (zq71 j))) a' i' → Q (Ex.exit 0) [AV.ifc 206 (AV.ptr 0 0 0)]
 [some (AObj.var [AV.full 1]), some (AObj.row 172 m [.int .i64 a', .int .i64 i'])]))))))))))))))) (Q (Ex.exit 0) [AV.ifc 206 (AV.ptr 0 0 0)] (zq73 m a i))) := by kernel_rfl
theorem loop_up : LoopFr Tryz.prog (bodyOf Tryz.prog 197 0) spec_up.framed := by
 refine tab_loopA mixed (l := tabD0) ok_tabD0 (i := 0) spec_up (fun vals objs => match vals with
  | [_, .int .i64 j] => j.toNat
  | _ => 0) fun vals objs Q h1 h2 wf wo hg => ?_
 unfold spec_up at hg
 simp only at hg
 split at hg
 ·rename_i ty j e m a i
  clear h1 h2
  have r := (asrt_iff.1 hg).1
  rw [band_t, neq_t, neq_t] at r
  have r1 := r.1
  have r2 := r.2
  subst r1
  subst r2
  rw [lp_up]
  dsimp only [zq71, zq72, zq73]
  replace hg := (asrt_iff.1 hg).2
  obtain ⟨wa, wi⟩ : a.length = m ∧ i.length = m := by simpa [WFO, Col.len] using wo (some (.row 172 m [.int .i64 a, .int .i64 i])) (by simp) _ rfl
  simp only [asrt_iff, band_t, nle_t, ile_t, ilt_t, ofN_e] at hg
  obtain ⟨⟨hm, h0, hj⟩, hg⟩ := hg
  rw [br_iff]
  refine ⟨fun h => ?_, fun h => hg a i (permD_refl a i)⟩
  obtain ⟨k, rfl⟩ := Int.eq_ofNat_of_zero_le h0
  have hk0 : 0 < k := by
   apply Classical.byContradiction
   intro hk
   have : k = 0 := by omega
   subst this
   have e : iquo .i64 (isub .i64 ((0 : Nat) : Int) 1) 2 = 0 := rfl
   rw [e] at h
   simp [owl] at h
  have hp : iquo .i64 (isub .i64 (k : Int) 1) 2 = (((k - 1) / 2 : Nat) : Int) := by
   unfold iquo
   rw [isub_e, wr (a := (k : Int) - 1) (by omega) (by omega), Int.tdiv_eq_ediv_of_nonneg (by omega), wr (by omega) (by omega)]
   omega
  rw [hp]
  have e1 : nOf (k : Int) = k := Int.toNat_natCast k
  have e2 : nOf (((k - 1) / 2 : Nat) : Int) = (k - 1) / 2 := Int.toNat_natCast _
  rw [e1, e2]
  have c1 : band (ile 0 (k : Int)) (ilt (k : Int) (ofN m)) = true := by simp [owl]; omega
  have c2 : nlt k m = true := by simp [owl]; omega
  have c3 : band (ile 0 (((k - 1) / 2 : Nat) : Int)) (ilt (((k - 1) / 2 : Nat) : Int) (ofN m)) = true := by simp [owl]; omega
  have c4 : nlt ((k - 1) / 2) m = true := by simp [owl]; omega
  simp only [asrt_iff, c1, c2, c3, c4, true_and]
  rw [br_iff]
  refine ⟨fun h => hg a i (permD_refl a i), fun _ => ⟨?_, ?_, fun a' i' hperm => ?_⟩⟩
  ·simp
   omega
  ·simp [owl]
   omega
  ·exact hg a' i' (permD_trans (sw_perm (j := (k - 1) / 2) (k := k) (by omega) (by omega) (by omega)) hperm)
 ·exact hg.elim
def spec_down : LoopSpec := { n := 48, keep := [0, 1, 2, 7], srcs := [.tmp 0, .cell 0 0], keepE := [1, 7], srcsE := [.tmp 0, .cell 0 0], goes := fun vals objs Q => match vals, asPile objs with
 | [.ifc t (.ptr 0 0 0), .int .i64 j0, .int .i64 c, .int .i64 j], some (e, full, n, m, a, i) => asrt (band (neq t 206) (neq e 172)) (asrt (band (nle m 1000000) (band (nle n m) (band (ile 0 j) (band (ile j (ofN n)) (band (ile 0 c) (ile c (ofN n))))))) (∀ (a' i' : List Int) (j' : Int), downD a i j c a' i' → Q (.exit 0) [.int .i64 j0, .int .i64 j'] (pileIn full n m a' i')))
 | _, _ => False }
def zq74 (j : Int) : Int :=
 iadd .i64 (imul .i64 2 j) 1
def zq75 (m : Nat) (a : List Int) (i : List Int) : Heap :=
 [some (AObj.var [AV.full 1]), some (AObj.row 172 m [.int .i64 a, .int .i64 i])]
def zq76 (j : Int) : Int :=
 iadd .i64 (zq74 j) 1
def zq77 (m : Nat) (a : List Int) (i : List Int) (j : Int) : Heap :=
 [some (AObj.var [AV.full 1]), some (AObj.row 172 m [.int .i64 (put (put a (nOf j) (gI a (nOf (zq74 j)))) (nOf (zq74 j)) (gI a (nOf j))), .int .i64 (put (put i (nOf j) (gI i (nOf
 (zq74 j)))) (nOf (zq74 j)) (gI i (nOf j)))])]
def zq78 (m : Nat) (j : Int) : Bool :=
 band (ile 0 (zq74 j)) (ilt (zq74 j) (ofN m))
def zq79 (j0 : Int) (c : Int) (j : Int) : List AV :=
 [AV.ifc 206 (AV.ptr 0 0 0), AV.int .i64 j0, AV.int .i64 c, AV.int .i64 j]
def zq80 (m : Nat) (j : Int) : Bool :=
 band (ile 0 j) (ilt j (ofN m))
def zq81 (m : Nat) (c : Int) (j : Int) : Bool :=
 band (nle m 1000000) (band (nle m m) (band (ile 0 (zq74 j)) (band (ile (zq74 j) (ofN m)) (band (ile 0 c) (ile c (ofN m))))))
def zq82 (m : Nat) (j : Int) : Bool :=
 band (ile 0 (zq76 j)) (ilt (zq76 j) (ofN m))
def zq83 (j0 : Int) (j : Int) : List AV :=
 [AV.int .i64 j0, AV.int .i64 j]
def zq84 (j0 : Int) (c : Int) (j : Int) : List AV :=
 [AV.ifc 206 (AV.ptr 0 0 0), AV.int .i64 j0, AV.int .i64 c, AV.int .i64 (zq74 j)]
def zq85 (a : List Int) (j : Int) : List Int :=
 put (put a (nOf j) (gI a (nOf (zq76 j)))) (nOf (zq76 j)) (gI a (nOf j))
def zq86 (i : List Int) (j : Int) : List Int :=
 put (put i (nOf j) (gI i (nOf (zq76 j)))) (nOf (zq76 j)) (gI i (nOf j))
def zq87 (a : List Int) (j : Int) : List Int :=
 put (put a (nOf j) (gI a (nOf (zq74 j)))) (nOf (zq74 j)) (gI a (nOf j))
def zq88 (i : List Int) (j : Int) : List Int :=
 put (put i (nOf j) (gI i (nOf (zq74 j)))) (nOf (zq74 j)) (gI i (nOf j))
theorem lp_downF (m : Nat) (a i : List Int) (j0 c j : Int) (mu : List AV → Heap → Nat) (Q : Ex → List AV → Heap → Prop) : runCode Tryz.prog (tabS tabD0) (callN Tryz.prog (tabS tabD0) noL 11) (fun _ => none) (bodyOf Tryz.prog 206 0) 0 ⟨mkT (spec_down).keep [.ifc 206 (.ptr 0 0 0), .int .i64 j0, .int .i64 c, .int .i64 j] (spec_down).n 0, pileIn true m m a i⟩ ((spec_down).endsA mu [.ifc 206 (.ptr 0 0 0), .int .i64 j0, .int .i64 c, .int .i64 j] (pileIn true m m a i) Q) = (
 br (bite (ige (zq74 j) c) true (ilt (zq74 j) 0)) (Q (Ex.exit 0) (zq83 j0 j) (zq75 m a i)) (br (ilt (zq76 j) c) (asrt (zq82 m j) (asrt (nlt (nOf (zq76 j)) m) (asrt (zq78 m j) (asrt
 (nlt (nOf (zq74 j)) m) (br (aheadB (gI a (nOf (zq76 j))) (gI i (nOf (zq76 j))) (gI a (nOf (zq74 j))) (gI i (nOf (zq74 j)))) (asrt (zq82 m j) (asrt (nlt (nOf (zq76 j)) m) (asrt (zq80
 m j) (asrt (nlt (nOf j) m) (br (bnot (aheadB (gI a (nOf (zq76 j))) (gI i (nOf (zq76 j))) (gI a (nOf j)) (gI i (nOf j)))) (Q (Ex.exit 0) (zq83 j0 j) (zq75 m a i)) (asrt (zq82 m j)
 (asrt (nlt (nOf (zq76 j)) m) (asrt (zq80 m j) (asrt (nlt (nOf j) m) (asrt (zq80 m j) (asrt (nlt (nOf j) m) (asrt (zq82 m j) (asrt (nlt (nOf (zq76 j)) m) ((mu [AV.ifc 206 (AV.ptr 0 0
 0), AV.int .i64 j0, AV.int .i64 c, AV.int .i64 (zq76 j)] [some (AObj.var [AV.full 1]), some (AObj.row 172 m [.int .i64 (zq85 a j), .int .i64 (zq86 i j)])]).succ.le (mu (zq79 j0 c j)
 (zq75 m a i)) ∧ asrt (band (nle m 1000000) (band (nle m m) (band (ile 0 (zq76 j)) (band (ile (zq76 j) (ofN m)) (band (ile 0 c) (ile c (ofN m))))))) (∀ (a' i' : List Int) (j' : Int),
 downD (zq85 a j) (zq86 i j) (zq76 j) c a' i' → Q (Ex.exit 0) [AV.int .i64 j0, AV.int .i64 j'] [some (AObj.var [AV.full 1]), some (AObj.row 172 m [.int .i64 a', .int .i64
 i'])]))))))))))))))) (asrt (zq78 m j) (asrt (nlt (nOf (zq74 j)) m) (asrt (zq80 m j) (asrt (nlt (nOf j) m) (br (bnot (aheadB (gI a (nOf (zq74 j))) (gI i (nOf (zq74 j))) (gI a (nOf
 j)) (gI i (nOf j)))) (Q (Ex.exit 0) (zq83 j0 j) (zq75 m a i)) (asrt (zq78 m j) (asrt (nlt (nOf (zq74 j)) m) (asrt (zq80 m j) (asrt (nlt (nOf j) m) (asrt (zq80 m j) (asrt (nlt (nOf
 j) m) (asrt (zq78 m j) (asrt (nlt (nOf (zq74 j)) m) ((mu (zq84 j0 c j) (zq77 m a i j)).succ.le (mu (zq79 j0 c j) (zq75 m a i)) ∧ asrt (zq81 m c j) (∀ (a' i' : List Int) (j' : Int),
 downD (zq87 a j) (zq88 i j) (zq74 j) c a' i' → Q (Ex.exit 0) [AV.int .i64 j0, AV.int .i64 j'] [some (AObj.var [AV.full 1]), some (AObj.row 172 m [.int .i64 a', .int .i64
 i'])])))))))))))))))))))) (asrt (zq78 m j) (asrt (nlt (nOf (zq74 j)) m) (asrt (zq80 m j) (asrt (nlt (nOf j) m) (br (bnot (aheadB (gI a (nOf (zq74 j))) (gI i (nOf (zq74 j))) (gI a
 (nOf j)) (gI i (nOf j)))) (Q (Ex.exit 0) (zq83 j0 j) (zq75 m a i)) (asrt (zq78 m j) (asrt (nlt (nOf (zq74 j)) m) (asrt (zq80 m j) (asrt (nlt (nOf j) m) (asrt (zq80 m j) (asrt (nlt
 (nOf j) m) (asrt (zq78 m j) (asrt (nlt (nOf (zq74 j)) m) ((mu (zq84 j0 c j) (zq77 m a i j)).succ.le (mu (zq79 j0 c j) (zq75 m a i)) ∧ asrt (zq81 m c j) (∀ (a' i' : List Int) (j' :
 Int), downD (zq87 a j) (zq88 i j) (zq74 j) c a' i' → Q (Ex.exit 0) [AV.int .i64 j0, AV.int .i64 j'] [some (AObj.var [AV.full 1]), some (AObj.row 172 m [.int .i64 a', .int .i64
 i'])]))))))))))))))))) := by kernel_rfl
def zq89 (j : Int) : Int :=
 iadd .i64 (imul .i64 2 j) 1
def zq90 (n : Nat) (m : Nat) (a : List Int) (i : List Int) : Heap :=
 [some (AObj.var [AV.osl 1 0 n]), some (AObj.row 172 m [.int .i64 a, .int .i64 i])]
def zq91 (j : Int) : Int :=
 iadd .i64 (zq89 j) 1
def zq92 (n : Nat) (m : Nat) (a : List Int) (i : List Int) (j : Int) : Heap :=
 [some (AObj.var [AV.osl 1 0 n]), some (AObj.row 172 m [.int .i64 (put (put a (nAdd 0 (nOf j)) (gI a (nAdd 0 (nOf (zq89 j))))) (nAdd 0 (nOf (zq89 j))) (gI a (nAdd 0 (nOf j)))), .int
 .i64 (put (put i (nAdd 0 (nOf j)) (gI i (nAdd 0 (nOf (zq89 j))))) (nAdd 0 (nOf (zq89 j))) (gI i (nAdd 0 (nOf j))))])]
def zq93 (n : Nat) (j : Int) : Bool :=
 band (ile 0 (zq89 j)) (ilt (zq89 j) (ofN n))
def zq94 (j0 : Int) (c : Int) (j : Int) : List AV :=
 [AV.ifc 206 (AV.ptr 0 0 0), AV.int .i64 j0, AV.int .i64 c, AV.int .i64 j]
def zq95 (n : Nat) (j : Int) : Bool :=
 band (ile 0 j) (ilt j (ofN n))
def zq96 (m : Nat) (j : Int) : Bool :=
 nlt (nAdd 0 (nOf (zq89 j))) m
def zq97 (n : Nat) (m : Nat) (c : Int) (j : Int) : Bool :=
 band (nle m 1000000) (band (nle n m) (band (ile 0 (zq89 j)) (band (ile (zq89 j) (ofN n)) (band (ile 0 c) (ile c (ofN n))))))
def zq98 (n : Nat) (j : Int) : Bool :=
 band (ile 0 (zq91 j)) (ilt (zq91 j) (ofN n))
def zq99 (j0 : Int) (j : Int) : List AV :=
 [AV.int .i64 j0, AV.int .i64 j]
def zq100 (a : List Int) (j : Int) : List Int :=
 put (put a (nAdd 0 (nOf j)) (gI a (nAdd 0 (nOf (zq91 j))))) (nAdd 0 (nOf (zq91 j))) (gI a (nAdd 0 (nOf j)))
def zq101 (i : List Int) (j : Int) : List Int :=
 put (put i (nAdd 0 (nOf j)) (gI i (nAdd 0 (nOf (zq91 j))))) (nAdd 0 (nOf (zq91 j))) (gI i (nAdd 0 (nOf j)))
def zq102 (a : List Int) (j : Int) : List Int :=
 put (put a (nAdd 0 (nOf j)) (gI a (nAdd 0 (nOf (zq89 j))))) (nAdd 0 (nOf (zq89 j))) (gI a (nAdd 0 (nOf j)))
def zq103 (i : List Int) (j : Int) : List Int :=
 put (put i (nAdd 0 (nOf j)) (gI i (nAdd 0 (nOf (zq89 j))))) (nAdd 0 (nOf (zq89 j))) (gI i (nAdd 0 (nOf j)))
def zq104 (m : Nat) (j : Int) : Bool :=
 nlt (nAdd 0 (nOf j)) m
def zq105 (j0 : Int) (c : Int) (j : Int) : List AV :=
 [AV.ifc 206 (AV.ptr 0 0 0), AV.int .i64 j0, AV.int .i64 c, AV.int .i64 (zq89 j)]
theorem lp_downO (n m : Nat) (a i : List Int) (j0 c j : Int) (mu : List AV → Heap → Nat) (Q : Ex → List AV → Heap → Prop) : runCode Tryz.prog (tabS tabD0) (callN Tryz.prog (tabS tabD0) noL 11) (fun _ => none) (bodyOf Tryz.prog 206 0) 0 ⟨mkT (spec_down).keep [.ifc 206 (.ptr 0 0 0), .int .i64 j0, .int .i64 c, .int .i64 j] (spec_down).n 0, pileIn false n m a i⟩ ((spec_down).endsA mu [.ifc 206 (.ptr 0 0 0), .int .i64 j0, .int .i64 c, .int .i64 j] (pileIn false n m a i) Q) = (
 br (bite (ige (zq89 j) c) true (ilt (zq89 j) 0)) (Q (Ex.exit 0) (zq99 j0 j) (zq90 n m a i)) (br (ilt (zq91 j) c) (asrt (zq98 n j) (asrt (nlt (nAdd 0 (nOf (zq91 j))) m) (asrt (zq93 n
 j) (asrt (zq96 m j) (br (aheadB (gI a (nAdd 0 (nOf (zq91 j)))) (gI i (nAdd 0 (nOf (zq91 j)))) (gI a (nAdd 0 (nOf (zq89 j)))) (gI i (nAdd 0 (nOf (zq89 j))))) (asrt (zq98 n j) (asrt
 (nlt (nAdd 0 (nOf (zq91 j))) m) (asrt (zq95 n j) (asrt (zq104 m j) (br (bnot (aheadB (gI a (nAdd 0 (nOf (zq91 j)))) (gI i (nAdd 0 (nOf (zq91 j)))) (gI a (nAdd 0 (nOf j))) (gI i
 (nAdd 0 (nOf j))))) (Q (Ex.exit 0) (zq99 j0 j) (zq90 n m a i)) (asrt (zq98 n j) (asrt (nlt (nAdd 0 (nOf (zq91 j))) m) (asrt (zq95 n j) (asrt (zq104 m j) (asrt (zq95 n j) (asrt
 (zq104 m j) (asrt (zq98 n j) (asrt (nlt (nAdd 0 (nOf (zq91 j))) m) ((mu [AV.ifc 206 (AV.ptr 0 0 0), AV.int .i64 j0, AV.int .i64 c, AV.int .i64 (zq91 j)] [some (AObj.var [AV.osl 1 0
 n]), some (AObj.row 172 m [.int .i64 (zq100 a j), .int .i64 (zq101 i j)])]).succ.le (mu (zq94 j0 c j) (zq90 n m a i)) ∧ asrt (band (nle m 1000000) (band (nle n m) (band (ile 0 (zq91
 j)) (band (ile (zq91 j) (ofN n)) (band (ile 0 c) (ile c (ofN n))))))) (∀ (a' i' : List Int) (j' : Int), downD (zq100 a j) (zq101 i j) (zq91 j) c a' i' → Q (Ex.exit 0) [AV.int .i64
 j0, AV.int .i64 j'] [some (AObj.var [AV.osl 1 0 n]), some (AObj.row 172 m [.int .i64 a', .int .i64 i'])]))))))))))))))) (asrt (zq93 n j) (asrt (zq96 m j) (asrt (zq95 n j) (asrt
 (zq104 m j) (br (bnot (aheadB (gI a (nAdd 0 (nOf (zq89 j)))) (gI i (nAdd 0 (nOf (zq89 j)))) (gI a (nAdd 0 (nOf j))) (gI i (nAdd 0 (nOf j))))) (Q (Ex.exit 0) (zq99 j0 j) (zq90 n m a
 i)) (asrt (zq93 n j) (asrt (zq96 m j) (asrt (zq95 n j) (asrt (zq104 m j) (asrt (zq95 n j) (asrt (zq104 m j) (asrt (zq93 n j) (asrt (zq96 m j) ((mu (zq105 j0 c j) (zq92 n m a i
 j)).succ.le (mu (zq94 j0 c j) (zq90 n m a i)) ∧ asrt (zq97 n m c j) (∀ (a' i' : List Int) (j' : Int), downD (zq102 a j) (zq103 i j) (zq89 j) c a' i' → Q (Ex.exit 0) [AV.int .i64 j0,
 AV.int .i64 j'] [some (AObj.var [AV.osl 1 0 n]), some (AObj.row 172 m [.int .i64 a', .int .i64 i'])])))))))))))))))))))) (asrt (zq93 n j) (asrt (zq96 m j) (asrt (zq95 n j) (asrt
 (zq104 m j) (br (bnot (aheadB (gI a (nAdd 0 (nOf (zq89 j)))) (gI i (nAdd 0 (nOf (zq89 j)))) (gI a (nAdd 0 (nOf j))) (gI i (nAdd 0 (nOf j))))) (Q (Ex.exit 0) (zq99 j0 j) (zq90 n m a
 i)) (asrt (zq93 n j) (asrt (zq96 m j) (asrt (zq95 n j) (asrt (zq104 m j) (asrt (zq95 n j) (asrt (zq104 m j) (asrt (zq93 n j) (asrt (zq96 m j) ((mu (zq105 j0 c j) (zq92 n m a i
 j)).succ.le (mu (zq94 j0 c j) (zq90 n m a i)) ∧ asrt (zq97 n m c j) (∀ (a' i' : List Int) (j' : Int), downD (zq102 a j) (zq103 i j) (zq89 j) c a' i' → Q (Ex.exit 0) [AV.int .i64 j0,
 AV.int .i64 j'] [some (AObj.var [AV.osl 1 0 n]), some (AObj.row 172 m [.int .i64 a', .int .i64 i'])]))))))))))))))))) := by kernel_rfl
theorem asPile_some {os : Heap} {e : TypeId} {full : Bool} {n m : Nat} {a i : List Int} (h : asPile os = some (e, full, n, m, a, i)) (he : e = 172) : os = pileIn full n m a i ∧ (full = true → n = m) := by
 subst he
 unfold asPile at h
 split at h
 ·cases h
  exact ⟨rfl, fun _ => rfl⟩
 ·cases h
  exact ⟨rfl, fun h => by cases h⟩
 ·cases h
theorem child_min {a i : List Int} {j n : Nat} (hb : ¬ (2 * j + 2 < n ∧ lt2 (el a i (2 * j + 2)) (el a i (2 * j + 1)))) : ∀ k, 0 < k → k < n → (k - 1) / 2 = j → ¬ lt2 (el a i k) (el a i (2 * j + 1)) := by
 intro k k0 kn hk
 have : k = 2 * j + 1 ∨ k = 2 * j + 2 := by omega
 rcases this with rfl | rfl
 ·exact fun h => lt2_asymm h h
 ·exact fun h => hb ⟨kn, h⟩
theorem child_min2 {a i : List Int} {j n : Nat} (h : lt2 (el a i (2 * j + 2)) (el a i (2 * j + 1))) : ∀ k, 0 < k → k < n → (k - 1) / 2 = j → ¬ lt2 (el a i k) (el a i (2 * j + 2)) := by
 intro k k0 kn hk
 have : k = 2 * j + 1 ∨ k = 2 * j + 2 := by omega
 rcases this with rfl | rfl
 ·exact lt2_asymm h
 ·exact fun h => lt2_asymm h h
theorem loop_down : LoopFr Tryz.prog (bodyOf Tryz.prog 206 0) spec_down.framed := by
 refine tab_loopA mixed (l := tabD0) ok_tabD0 (i := 0) spec_down (fun vals objs => match vals with
  | [_, _, .int .i64 c, .int .i64 j] => (c - j).toNat
  | _ => 0) fun vals objs Q h1 h2 wf wo hg => ?_
 unfold spec_down at hg
 simp only at hg
 split at hg
 ·rename_i ty j0 c j e full n m a i hx
  clear h1 h2
  have r := (asrt_iff.1 hg).1
  rw [band_t, neq_t, neq_t] at r
  have r1 := r.1
  have he := asPile_some hx r.2
  have r3 := he.1
  have hfm := he.2
  clear hx he
  subst r1
  subst r3
  replace hg := (asrt_iff.1 hg).2
  cases full with
  | true =>
   have hfm := hfm rfl
   subst hfm
   rw [lp_downF]
   dsimp only [zq74, zq75, zq76, zq77, zq78, zq79, zq80, zq81, zq82, zq83, zq84, zq85, zq86, zq87, zq88]
   obtain ⟨wa, wi⟩ : a.length = n ∧ i.length = n := by simpa [WFO, Col.len] using wo (some (.row 172 n [.int .i64 a, .int .i64 i])) (by simp [pileIn]) _ rfl
   simp only [asrt_iff, band_t, nle_t, ile_t, ilt_t, ofN_e] at hg
   obtain ⟨⟨hm, hnm, h0, hj, hc0, hc⟩, hg⟩ := hg
   obtain ⟨k, rfl⟩ := Int.eq_ofNat_of_zero_le h0
   obtain ⟨q, rfl⟩ := Int.eq_ofNat_of_zero_le hc0
   have w1 : iadd .i64 (imul .i64 2 (k : Int)) 1 = ((2 * k + 1 : Nat) : Int) := by
    rw [imul_e, wr (a := 2 * (k : Int)) (by omega) (by omega), iadd_e, wr (by omega) (by omega)]
    omega
   have w2 : iadd .i64 ((2 * k + 1 : Nat) : Int) 1 = ((2 * k + 2 : Nat) : Int) := by
    rw [iadd_e, wr (by omega) (by omega)]
    omega
   have e1 : nOf ((2 * k + 1 : Nat) : Int) = 2 * k + 1 := Int.toNat_natCast _
   have e2 : nOf ((2 * k + 2 : Nat) : Int) = 2 * k + 2 := Int.toNat_natCast _
   have e3 : nOf (k : Int) = k := Int.toNat_natCast _
   have stop : ∀ (h : ∀ x, 0 < x → x < q → (x - 1) / 2 = k → ¬ lt2 (el a i x) (el a i k)), Q (.exit 0) [.int .i64 j0, .int .i64 (k : Int)] (pileIn true n n a i) := fun h => hg a i k (down_stop h)
   have ah : ∀ x y : Nat, aheadB (gI a x) (gI i x) (gI a y) (gI i y) = true ↔ lt2 (el a i x) (el a i y) := fun x y => ahead_lt
   have anot : ∀ x y : Nat, bnot (aheadB (gI a x) (gI i x) (gI a y) (gI i y)) = true → ¬ lt2 (el a i x) (el a i y) := fun x y h hh => by rw [bnot_t] at h; rw [← ah, h] at hh; cases hh
   have ayes : ∀ x y : Nat, bnot (aheadB (gI a x) (gI i x) (gI a y) (gI i y)) = false → lt2 (el a i x) (el a i y) := fun x y h => by rw [bnot_f] at h; exact (ah x y).1 h
   rw [w1, w2, e1, e2, e3]
   rw [br_iff]
   refine ⟨fun h => stop fun x x0 xq hx => ?_, fun h => ?_⟩
   ·exfalso
    simp [owl] at h
    omega
   ·have hq : 2 * k + 1 < q := by
     simp [owl] at h
     omega
    have cj : band (ile 0 (k : Int)) (ilt (k : Int) (ofN n)) = true := by simp [owl]; omega
    have dj : nlt k n = true := by simp [owl]; omega
    have c1 : band (ile 0 ((2 * k + 1 : Nat) : Int)) (ilt ((2 * k + 1 : Nat) : Int) (ofN n)) = true := by simp [owl]; omega
    have d1 : nlt (2 * k + 1) n = true := by simp [owl]; omega
    have one : ∀ s : Nat, 0 < s → s < q → (s - 1) / 2 = k → (∀ x, 0 < x → x < q → (x - 1) / 2 = k → ¬ lt2 (el a i x) (el a i s)) → ¬ lt2 (el a i s) (el a i k) → Q (.exit 0) [.int .i64 j0, .int .i64 (k : Int)] (pileIn true n n a i) := fun s s0 sq sk hmin hns => stop fun x x0 xq hx hlt => hns (lt2_le (hmin x x0 xq hx) hlt)
    rw [br_iff]
    refine ⟨fun h2 => ?_, fun h2 => ?_⟩
    ·have hq2 : 2 * k + 2 < q := by
      simp [owl] at h2
      omega
     have c2 : band (ile 0 ((2 * k + 2 : Nat) : Int)) (ilt ((2 * k + 2 : Nat) : Int) (ofN n)) = true := by simp [owl]; omega
     have d2 : nlt (2 * k + 2) n = true := by simp [owl]; omega
     simp only [asrt_iff, cj, dj, c1, d1, c2, d2, true_and]
     rw [br_iff]
     refine ⟨fun h3 => ?_, fun h3 => ?_⟩
     ·have h3 := (ah _ _).1 h3
      rw [br_iff]
      refine ⟨fun h4 => one (2 * k + 2) (by omega) hq2 (by omega) (child_min2 h3) (anot _ _ h4), fun h4 => ⟨?_, ?_, fun a' i' j' hd => hg a' i' j' (down_step (n := q) (j := k) (s := 2 * k + 2) (by omega) (by omega) (by omega) (by omega) hq2 (ayes _ _ h4) (child_min2 h3) hd)⟩⟩
      ·simp
       omega
      ·simp [owl]
       omega
     ·have h3' : ¬ lt2 (el a i (2 * k + 2)) (el a i (2 * k + 1)) := fun hh => by rw [← ah, h3] at hh; cases hh
      have hmin := child_min (n := q) (fun hh : 2 * k + 2 < q ∧ lt2 (el a i (2 * k + 2)) (el a i (2 * k + 1)) => h3' hh.2)
      rw [br_iff]
      refine ⟨fun h4 => one (2 * k + 1) (by omega) hq (by omega) hmin (anot _ _ h4), fun h4 => ⟨?_, ?_, fun a' i' j' hd => hg a' i' j' (down_step (n := q) (j := k) (s := 2 * k + 1) (by omega) (by omega) (by omega) (by omega) hq (ayes _ _ h4) hmin hd)⟩⟩
      ·simp
       omega
      ·simp [owl]
       omega
    ·have hq2 : ¬ 2 * k + 2 < q := by
      simp [owl] at h2
      omega
     have hmin := child_min (n := q) (fun hh : 2 * k + 2 < q ∧ lt2 (el a i (2 * k + 2)) (el a i (2 * k + 1)) => hq2 hh.1)
     simp only [asrt_iff, cj, dj, c1, d1, true_and]
     rw [br_iff]
     refine ⟨fun h4 => one (2 * k + 1) (by omega) hq (by omega) hmin (anot _ _ h4), fun h4 => ⟨?_, ?_, fun a' i' j' hd => hg a' i' j' (down_step (n := q) (j := k) (s := 2 * k + 1) (by omega) (by omega) (by omega) (by omega) hq (ayes _ _ h4) hmin hd)⟩⟩
     ·simp
      omega
     ·simp [owl]
      omega
  | false =>
   rw [lp_downO]
   dsimp only [zq89, zq90, zq91, zq92, zq93, zq94, zq95, zq96, zq97, zq98, zq99, zq100, zq101, zq102, zq103, zq104, zq105]
   obtain ⟨wa, wi⟩ : a.length = m ∧ i.length = m := by simpa [WFO, Col.len] using wo (some (.row 172 m [.int .i64 a, .int .i64 i])) (by simp [pileIn]) _ rfl
   simp only [asrt_iff, band_t, nle_t, ile_t, ilt_t, ofN_e] at hg
   obtain ⟨⟨hm, hnm, h0, hj, hc0, hc⟩, hg⟩ := hg
   obtain ⟨k, rfl⟩ := Int.eq_ofNat_of_zero_le h0
   obtain ⟨q, rfl⟩ := Int.eq_ofNat_of_zero_le hc0
   have w1 : iadd .i64 (imul .i64 2 (k : Int)) 1 = ((2 * k + 1 : Nat) : Int) := by
    rw [imul_e, wr (a := 2 * (k : Int)) (by omega) (by omega), iadd_e, wr (by omega) (by omega)]
    omega
   have w2 : iadd .i64 ((2 * k + 1 : Nat) : Int) 1 = ((2 * k + 2 : Nat) : Int) := by
    rw [iadd_e, wr (by omega) (by omega)]
    omega
   have e1 : nOf ((2 * k + 1 : Nat) : Int) = 2 * k + 1 := Int.toNat_natCast _
   have e2 : nOf ((2 * k + 2 : Nat) : Int) = 2 * k + 2 := Int.toNat_natCast _
   have e3 : nOf (k : Int) = k := Int.toNat_natCast _
   have stop : ∀ (h : ∀ x, 0 < x → x < q → (x - 1) / 2 = k → ¬ lt2 (el a i x) (el a i k)), Q (.exit 0) [.int .i64 j0, .int .i64 (k : Int)] (pileIn false n m a i) := fun h => hg a i k (down_stop h)
   have ah : ∀ x y : Nat, aheadB (gI a x) (gI i x) (gI a y) (gI i y) = true ↔ lt2 (el a i x) (el a i y) := fun x y => ahead_lt
   have anot : ∀ x y : Nat, bnot (aheadB (gI a x) (gI i x) (gI a y) (gI i y)) = true → ¬ lt2 (el a i x) (el a i y) := fun x y h hh => by rw [bnot_t] at h; rw [← ah, h] at hh; cases hh
   have ayes : ∀ x y : Nat, bnot (aheadB (gI a x) (gI i x) (gI a y) (gI i y)) = false → lt2 (el a i x) (el a i y) := fun x y h => by rw [bnot_f] at h; exact (ah x y).1 h
   rw [w1, w2, e1, e2, e3]
   simp only [nAdd_e, Nat.zero_add]
   rw [br_iff]
   refine ⟨fun h => stop fun x x0 xq hx => ?_, fun h => ?_⟩
   ·exfalso
    simp [owl] at h
    omega
   ·have hq : 2 * k + 1 < q := by
     simp [owl] at h
     omega
    have cj : band (ile 0 (k : Int)) (ilt (k : Int) (ofN n)) = true := by simp [owl]; omega
    have dj : nlt k m = true := by simp [owl]; omega
    have c1 : band (ile 0 ((2 * k + 1 : Nat) : Int)) (ilt ((2 * k + 1 : Nat) : Int) (ofN n)) = true := by simp [owl]; omega
    have d1 : nlt (2 * k + 1) m = true := by simp [owl]; omega
    have one : ∀ s : Nat, 0 < s → s < q → (s - 1) / 2 = k → (∀ x, 0 < x → x < q → (x - 1) / 2 = k → ¬ lt2 (el a i x) (el a i s)) → ¬ lt2 (el a i s) (el a i k) → Q (.exit 0) [.int .i64 j0, .int .i64 (k : Int)] (pileIn false n m a i) := fun s s0 sq sk hmin hns => stop fun x x0 xq hx hlt => hns (lt2_le (hmin x x0 xq hx) hlt)
    rw [br_iff]
    refine ⟨fun h2 => ?_, fun h2 => ?_⟩
    ·have hq2 : 2 * k + 2 < q := by
      simp [owl] at h2
      omega
     have c2 : band (ile 0 ((2 * k + 2 : Nat) : Int)) (ilt ((2 * k + 2 : Nat) : Int) (ofN n)) = true := by simp [owl]; omega
     have d2 : nlt (2 * k + 2) m = true := by simp [owl]; omega
     simp only [asrt_iff, cj, dj, c1, d1, c2, d2, true_and]
     rw [br_iff]
     refine ⟨fun h3 => ?_, fun h3 => ?_⟩
     ·have h3 := (ah _ _).1 h3
      rw [br_iff]
      refine ⟨fun h4 => one (2 * k + 2) (by omega) hq2 (by omega) (child_min2 h3) (anot _ _ h4), fun h4 => ⟨?_, ?_, fun a' i' j' hd => hg a' i' j' (down_step (n := q) (j := k) (s := 2 * k + 2) (by omega) (by omega) (by omega) (by omega) hq2 (ayes _ _ h4) (child_min2 h3) hd)⟩⟩
      ·simp
       omega
      ·simp [owl]
       omega
     ·have h3' : ¬ lt2 (el a i (2 * k + 2)) (el a i (2 * k + 1)) := fun hh => by rw [← ah, h3] at hh; cases hh
      have hmin := child_min (n := q) (fun hh : 2 * k + 2 < q ∧ lt2 (el a i (2 * k + 2)) (el a i (2 * k + 1)) => h3' hh.2)
      rw [br_iff]
      refine ⟨fun h4 => one (2 * k + 1) (by omega) hq (by omega) hmin (anot _ _ h4), fun h4 => ⟨?_, ?_, fun a' i' j' hd => hg a' i' j' (down_step (n := q) (j := k) (s := 2 * k + 1) (by omega) (by omega) (by omega) (by omega) hq (ayes _ _ h4) hmin hd)⟩⟩
      ·simp
       omega
      ·simp [owl]
       omega
    ·have hq2 : ¬ 2 * k + 2 < q := by
      simp [owl] at h2
      omega
     have hmin := child_min (n := q) (fun hh : 2 * k + 2 < q ∧ lt2 (el a i (2 * k + 2)) (el a i (2 * k + 1)) => hq2 hh.1)
     simp only [asrt_iff, cj, dj, c1, d1, true_and]
     rw [br_iff]
     refine ⟨fun h4 => one (2 * k + 1) (by omega) hq (by omega) hmin (anot _ _ h4), fun h4 => ⟨?_, ?_, fun a' i' j' hd => hg a' i' j' (down_step (n := q) (j := k) (s := 2 * k + 1) (by omega) (by omega) (by omega) (by omega) hq (ayes _ _ h4) hmin hd)⟩⟩
     ·simp
      omega
     ·simp [owl]
      omega
 ·exact hg.elim
def initD (a d : List Int) (i : Int) (m : Nat) (a' d' : List Int) : Prop := permD a d a' d' ∧ (hpFrom a d (i + 1).toNat m → hpFrom a' d' 0 m)
def inOrder (l : List (Int × Int)) : Prop := l.Pairwise fun p q => ¬ lt2 q p
def sortD (a d : List Int) (n : Nat) (oa od oa' od' : List Int) : Prop := oa'.length = oa.length + n ∧ od'.length = od.length + n ∧ (hpFrom a d 0 n → ∃ S : List (Int × Int), oa'.zip od' = oa.zip od ++ S ∧ S.Perm ((a.zip d).take n) ∧ inOrder S)
def collD (a d A I : List Int) (left : List Nat) (a' d' : List Int) : Prop := a'.length = a.length + left.length ∧ d'.length = d.length + left.length ∧ (a'.zip d').Perm (a.zip d ++ left.map fun i => (A.getD i 0, I.getD i 0))
def nLen (l : List Nat) : Nat := l.length
def insP (x : Int × Int) : List (Int × Int) → List (Int × Int)
 | [] => [x]
 | y :: l => if aheadB y.1 y.2 x.1 x.2 then y :: insP x l else x :: y :: l
def srt (l : List (Int × Int)) : List (Int × Int) := l.foldr insP []
def dA (a d : List Int) : List Int := (srt (a.zip d)).map (·.1)
def dI (a d : List Int) : List Int := (srt (a.zip d)).map (·.2)
theorem insP_perm (x : Int × Int) : ∀ l, (insP x l).Perm (x :: l)
 | [] => List.Perm.refl _
 | y :: l => by
  unfold insP
  split
  ·exact ((insP_perm x l).cons y).trans (List.Perm.swap x y l)
  ·exact List.Perm.refl _
theorem srt_perm : ∀ l, (srt l).Perm l
 | [] => List.Perm.refl _
 | x :: l => (insP_perm x (srt l)).trans ((srt_perm l).cons x)
theorem lt2_not_trans {p q r : Int × Int} (h : ¬ lt2 q p) (h' : ¬ lt2 r q) : ¬ lt2 r p := by unfold lt2 at *; omega
theorem insP_order {x : Int × Int} : ∀ {l : List (Int × Int)}, inOrder l → inOrder (insP x l)
 | [], _ => by simp [insP, inOrder]
 | y :: l, h => by
  obtain ⟨h1, h2⟩ := List.pairwise_cons.1 h
  unfold insP
  split
  ·rename_i hy
   have hy : lt2 y x := ahead_lt.1 hy
   refine List.pairwise_cons.2 ⟨fun z hz => ?_, insP_order h2⟩
   rcases List.mem_cons.1 ((insP_perm x l).subset hz) with rfl | hz
   ·exact lt2_asymm hy
   ·exact h1 z hz
  ·rename_i hy
   have hy : ¬ lt2 y x := fun hh => hy (ahead_lt.2 hh)
   refine List.pairwise_cons.2 ⟨fun z hz => ?_, h⟩
   rcases List.mem_cons.1 hz with rfl | hz
   ·exact hy
   ·exact lt2_not_trans hy (h1 z hz)
theorem srt_order : ∀ l, inOrder (srt l)
 | [] => List.Pairwise.nil
 | _ :: l => insP_order (srt_order l)
theorem order_eq : ∀ {l k : List (Int × Int)}, inOrder l → inOrder k → l.Perm k → l = k
 | [], k, _, _, h => (List.nil_perm.1 h).symm
 | x :: l, [], _, _, h => absurd h.symm (by simp)
 | x :: l, y :: k, hl, hk, h => by
  obtain ⟨l1, l2⟩ := List.pairwise_cons.1 hl
  obtain ⟨k1, k2⟩ := List.pairwise_cons.1 hk
  have hxy : x = y := by
   have hx : x ∈ y :: k := h.subset (by simp)
   have hy : y ∈ x :: l := h.symm.subset (by simp)
   rcases List.mem_cons.1 hx with e | hx
   ·exact e
   ·rcases List.mem_cons.1 hy with e | hy
    ·exact e.symm
    ·exact lt2_total (k1 x hx) (l1 y hy)
  subst hxy
  rw [order_eq l2 k2 (List.Perm.cons_inv h)]
theorem srt_of {l k : List (Int × Int)} (h : inOrder l) (hp : l.Perm k) : srt k = l := order_eq (srt_order k) h ((srt_perm k).trans hp.symm)
theorem init_step {a d a1 d1 a' d' : List Int} {i m : Nat} (h : downD a d i m a1 d1) (h' : initD a1 d1 ((i : Int) - 1) m a' d') : initD a d i m a' d' := by
 obtain ⟨p1, _, p3⟩ := h
 obtain ⟨q1, q2⟩ := h'
 refine ⟨permD_trans p1 q1, fun hp => q2 ?_⟩
 have e : ((i : Int) - 1 + 1).toNat = i := by omega
 rw [e]
 have e2 : ((i : Int) + 1).toNat = i + 1 := by omega
 rw [e2] at hp
 have := p3 i
 simp only [Int.toNat_natCast] at this
 refine this ⟨fun k k0 km kb kne => hp k k0 km (by omega), fun i0 hb => ?_⟩
 omega
theorem root_min {a d : List Int} {n : Nat} (h : hpFrom a d 0 n) : ∀ k, k < n → ¬ lt2 (el a d k) (el a d 0) := by
 intro k
 induction k using Nat.strongRecOn with
 | ind k ih =>
  intro hk
  by_cases h0 : k = 0
  ·subst h0
   exact fun hh => lt2_asymm hh hh
  ·exact lt2_not_trans (ih ((k - 1) / 2) (by omega) (by omega)) (h k (by omega) hk (by omega))
theorem el_zip {a d : List Int} {k : Nat} (h : k < a.length) (h2 : d.length = a.length) : (a.zip d)[k]? = some (el a d k) := by
 rw [List.getElem?_eq_getElem (by simp; omega)]
 simp [el, List.getD_eq_getElem?_getD, h, show k < d.length by omega]
theorem sort_step {a d a1 d1 oa od oa' od' : List Int} {n : Nat} (hn : n + 1 ≤ a.length) (hl : d.length = a.length) (hlo : od.length = oa.length) (h : downD (sw a 0 n) (sw d 0 n) 0 n a1 d1)
  (h' : sortD a1 d1 n (oa ++ [a1.getD n 0]) (od ++ [d1.getD n 0]) oa' od') : sortD a d (n + 1) oa od oa' od' := by
 obtain ⟨q1, q2, q3⟩ := h'
 obtain ⟨p1, p2, p3⟩ := h
 simp only [Int.toNat_natCast] at p2 p3
 have E := el_sw (a := a) (i := d) (j := 0) (k := n) (by omega) (by omega) hl
 have hpm := permD_trans (sw_perm (a := a) (i := d) (j := 0) (k := n) (by omega) (by omega) hl) p1
 refine ⟨by rw [q1]; simp; omega, by rw [q2]; simp; omega, fun hp => ?_⟩
 have hx : el a1 d1 n = el a d 0 := by rw [p2 n (Nat.le_refl _), E, if_pos rfl]
 obtain ⟨S, s1, s2, s3⟩ := q3 (p3 0 ⟨fun k k0 kn _ kne => by
  have e0 : (0 : Int).toNat = 0 := rfl
  rw [e0] at kne
  rw [E k, E ((k - 1) / 2), if_neg (by omega), if_neg (by omega), if_neg (by omega), if_neg kne]
  exact hp k k0 (by omega) (by omega), fun h => by simp at h⟩)
 have l1 : a1.length = a.length := hpm.1
 have l2 : d1.length = a.length := by rw [hpm.2.1, hl]
 have htail : (a1.zip d1).drop (n + 1) = (a.zip d).drop (n + 1) := by
  apply List.ext_getElem?
  intro k
  rw [List.getElem?_drop, List.getElem?_drop]
  by_cases hk : n + 1 + k < a.length
  ·rw [el_zip (by omega) (by omega), el_zip hk hl, p2 _ (by omega), E, if_neg (by omega), if_neg (by omega)]
  ·rw [List.getElem?_eq_none (by simp; omega), List.getElem?_eq_none (by simp; omega)]
 have htake : (a1.zip d1).take (n + 1) = (a1.zip d1).take n ++ [el a d 0] := by
  rw [List.take_add_one, el_zip (by omega) (by omega), hx]
  rfl
 have hall : ((a1.zip d1).take (n + 1)).Perm ((a.zip d).take (n + 1)) := by
  have h1 := hpm.2.2
  rw [← List.take_append_drop (n + 1) (a1.zip d1), ← List.take_append_drop (n + 1) (a.zip d), htail] at h1
  exact (List.perm_append_right_iff _).1 h1
 rw [htake] at hall
 have hmem : ∀ y ∈ S, ¬ lt2 y (el a d 0) := by
  intro y hy
  have h1 : y ∈ (a.zip d).take (n + 1) := hall.subset (List.mem_append_left _ (s2.subset hy))
  obtain ⟨k, hk⟩ := List.getElem?_of_mem h1
  rw [List.getElem?_take] at hk
  split at hk
  ·rename_i hlt
   rw [el_zip (by omega) hl] at hk
   cases hk
   exact root_min hp k hlt
  ·cases hk
 refine ⟨el a d 0 :: S, ?_, ?_, List.pairwise_cons.2 ⟨hmem, s3⟩⟩
 ·rw [s1]
  have e : (oa ++ [a1.getD n 0]).zip (od ++ [d1.getD n 0]) = oa.zip od ++ [el a d 0] := by
   rw [List.zip_append hlo.symm]
   have : (a1.getD n 0, d1.getD n 0) = el a d 0 := hx
   simp only [List.zip_cons_cons, List.zip_nil_right, this]
  rw [e, List.append_assoc]
  rfl
 ·exact ((s2.cons _).trans (List.perm_append_singleton (el a d 0) ((a1.zip d1).take n)).symm).trans hall
theorem sort_none {a d oa od : List Int} : sortD a d 0 oa od oa od := ⟨rfl, rfl, fun _ => ⟨[], by simp, by simp, List.Pairwise.nil⟩⟩
def spec_init : LoopSpec := { n := 17, keep := [0, 2, 3], srcs := [.tmp 0, .cell 0 0], keepE := [0], srcsE := [.tmp 0, .cell 0 0], goes := fun vals objs Q => match vals, objs with
 | [.ifc t (.ptr 0 0 0), .int .i64 n, .int .i64 i], [some (.var [.full 1]), some (.row e m [.int .i64 a, .int .i64 d])] => asrt (band (neq t 206) (neq e 172)) (asrt (band (nle m 1000000) (band (ieq n (ofN m)) (band (ile (-1) i) (ile i (ofN m))))) (∀ a' d' : List Int, initD a d i m a' d' → Q (.exit 0) [.ifc 206 (.ptr 0 0 0)] [some (.var [.full 1]), some (.row 172 m [.int .i64 a', .int .i64 d'])]))
 | _, _ => False }
def Ldown : List (FuncId × Nat × LoopS) := [(206, 0, .frame spec_down.framed)]
theorem ok_Ldown : ∀ p ∈ Ldown, LoopHyp Tryz.prog p.1 p.2.1 p.2.2 := by
 intro p hp
 simp only [Ldown, List.mem_cons, List.not_mem_nil, or_false] at hp
 rcases hp with rfl
 ·exact ⟨by kernel_rfl, loop_down⟩
def zq106 (m : Nat) (a : List Int) (d : List Int) : Heap :=
 [some (AObj.var [AV.full 1]), some (AObj.row 172 m [.int .i64 a, .int .i64 d])]
theorem lp_init (m : Nat) (a d : List Int) (n i : Int) (mu : List AV → Heap → Nat) (Q : Ex → List AV → Heap → Prop) : runCode Tryz.prog (tabS tabD0) (callN Tryz.prog (tabS tabD0) (tabL Ldown) 11) (fun _ => none) (bodyOf Tryz.prog 198 0) 0 ⟨mkT (spec_init).keep [.ifc 206 (.ptr 0 0 0), .int .i64 n, .int .i64 i] (spec_init).n 0, [some (.var [.full 1]), some (.row 172 m [.int .i64 a, .int .i64 d])]⟩ ((spec_init).endsA mu [.ifc 206 (.ptr 0 0 0), .int .i64 n, .int .i64 i] ([some (.var [.full 1]), some (.row 172 m [.int .i64 a, .int .i64 d])]) Q) = (
 br (ige i 0) (asrt (band (nle m 1000000) (band (nle m m) (band (ile 0 i) (band (ile i (ofN m)) (band (ile 0 n) (ile n (ofN m))))))) (∀ (a' i' : List Int) (j' : Int), downD a d i n
 a' i' → (mu [AV.ifc 206 (AV.ptr 0 0 0), AV.int .i64 n, AV.int .i64 (isub .i64 i 1)] [some (AObj.var [AV.full 1]), some (AObj.row 172 m [.int .i64 a', .int .i64 i'])]).succ.le (mu
 [AV.ifc 206 (AV.ptr 0 0 0), AV.int .i64 n, AV.int .i64 i] (zq106 m a d)) ∧ asrt (band (nle m 1000000) (band (ieq n (ofN m)) (band (ile (-1) (isub .i64 i 1)) (ile (isub .i64 i 1)
 (ofN m))))) (∀ (a'_1 d' : List Int), initD a' i' (isub .i64 i 1) m a'_1 d' → Q (Ex.exit 0) [AV.ifc 206 (AV.ptr 0 0 0)] [some (AObj.var [AV.full 1]), some (AObj.row 172 m [.int .i64
 a'_1, .int .i64 d'])]))) (Q (Ex.exit 0) [AV.ifc 206 (AV.ptr 0 0 0)] (zq106 m a d))) := by kernel_rfl
theorem loop_init : LoopFr Tryz.prog (bodyOf Tryz.prog 198 0) spec_init.framed := by
 refine tab_loopAV mixed (l := tabD0) ok_tabD0 (ll := Ldown) ok_Ldown (i := 0) spec_init (fun vals objs => match vals with
  | [_, _, .int .i64 i] => (i + 1).toNat
  | _ => 0) fun vals objs Q h1 h2 wf wo hg => ?_
 unfold spec_init at hg
 simp only at hg
 split at hg
 ·rename_i ty n i e m a d
  clear h1 h2
  have r := (asrt_iff.1 hg).1
  rw [band_t, neq_t, neq_t] at r
  have r1 := r.1
  have r2 := r.2
  subst r1
  subst r2
  rw [lp_init]
  dsimp only [zq106]
  replace hg := (asrt_iff.1 hg).2
  simp only [asrt_iff, band_t, nle_t, ile_t, ieq_t, ofN_e] at hg
  obtain ⟨⟨hm, rfl, h0, hi⟩, hg⟩ := hg
  rw [br_iff]
  refine ⟨fun h => ?_, fun h => ?_⟩
  ·have h0' : 0 ≤ i := by simpa [owl] using h
   obtain ⟨k, rfl⟩ := Int.eq_ofNat_of_zero_le h0'
   have w : isub .i64 (k : Int) 1 = (k : Int) - 1 := by rw [isub_e, wr (by omega) (by omega)]
   simp only [asrt_iff, w]
   refine ⟨by simp [owl]; omega, fun a1 d1 j' hd => ⟨?_, ?_, fun a' d' hi' => hg a' d' (init_step hd hi')⟩⟩
   ·show ((k : Int) - 1 + 1).toNat.succ ≤ ((k : Int) + 1).toNat
    omega
   ·simp [owl]
    omega
  ·have h0' : i < 0 := by simpa [owl] using h
   have : i = -1 := by omega
   subst this
   exact hg a d ⟨permD_refl a d, fun h => h⟩
 ·exact hg.elim
def asPile3 : Heap → Option (TypeId × TypeId × Nat × Bool × Nat × Nat × List Int × List Int × Nat × List Int × List Int)
 | [some (.var [.full 1]), some (.row e m [.int .i64 a, .int .i64 d]), some (.row e2 k [.int .i64 oa, .int .i64 od])] => some (e, e2, 0, true, m, m, a, d, k, oa, od)
 | [some (.var [.osl 1 o n]), some (.row e m [.int .i64 a, .int .i64 d]), some (.row e2 k [.int .i64 oa, .int .i64 od])] => some (e, e2, o, false, n, m, a, d, k, oa, od)
 | _ => none
def pile3 (full : Bool) (n m : Nat) (a d : List Int) (k : Nat) (oa od : List Int) : Heap := match full with
 | true => [some (.var [.full 1]), some (.row 172 m [.int .i64 a, .int .i64 d]), some (.row 172 k [.int .i64 oa, .int .i64 od])]
 | false => [some (.var [.osl 1 0 n]), some (.row 172 m [.int .i64 a, .int .i64 d]), some (.row 172 k [.int .i64 oa, .int .i64 od])]
def spec_sorted : LoopSpec := { n := 15, keep := [0, 2], srcs := [.tmp 0, .cell 0 0, .tmp 2], keepE := [0, 2], srcsE := [.tmp 0, .cell 0 0, .tmp 2], goes := fun vals objs Q => match vals, asPile3 objs with
 | [.ifc t (.ptr 0 0 0), .full 2], some (e, e2, o, full, n, m, a, d, k, oa, od) => asrt (band (neq t 206) (band (neq e 172) (band (neq e2 172) (neq o 0)))) (asrt (band (nle m 1000000) (band (nle n m) (nle (nAdd k n) 1000000))) (match full with
  | true => br (neq n 0) (Q (.exit 0) [.ifc 206 (.ptr 0 0 0), .full 2] (pile3 true m m a d k oa od)) (∀ a' d' oa' od' : List Int, sortD a d n oa od oa' od' → Q (.exit 0) [.ifc 206 (.ptr 0 0 0), .full 2] (pile3 false 0 m a' d' (lenI oa') oa' od'))
  | false => ∀ a' d' oa' od' : List Int, sortD a d n oa od oa' od' → Q (.exit 0) [.ifc 206 (.ptr 0 0 0), .full 2] (pile3 false 0 m a' d' (lenI oa') oa' od')))
 | _, _ => False }
def zq107 (m : Nat) : Nat :=
 nOf (isub .i64 (ofN m) 1)
def zq108 (m : Nat) (a : List Int) (d : List Int) (k : Nat) (oa : List Int) (od : List Int) : Heap :=
 [some (AObj.var [AV.full 1]), some (AObj.row 172 m [.int .i64 a, .int .i64 d]), some (AObj.row 172 k [.int .i64 oa, .int .i64 od])]
def zq109 (m : Nat) : Bool :=
 band (ile 0 (isub .i64 (ofN m) 1)) (ilt (isub .i64 (ofN m) 1) (ofN m))
def zq110 : List AV :=
 [AV.ifc 206 (AV.ptr 0 0 0), AV.full 2]
def zq111 (m : Nat) : Bool :=
 band (ile 0 (isub .i64 (ofN m) 1)) (ile (isub .i64 (ofN m) 1) (ofN m))
theorem lp_sortedF (m : Nat) (a d : List Int) (k : Nat) (oa od : List Int) (mu : List AV → Heap → Nat) (Q : Ex → List AV → Heap → Prop) : runCode Tryz.prog (tabS tabD0) (callN Tryz.prog (tabS tabD0) (tabL Ldown) 11) (fun _ => none) (bodyOf Tryz.prog 182 0) 0 ⟨mkT (spec_sorted).keep [.ifc 206 (.ptr 0 0 0), .full 2] (spec_sorted).n 0, pile3 true m m a d k oa od⟩ ((spec_sorted).endsA mu [.ifc 206 (.ptr 0 0 0), .full 2] (pile3 true m m a d k oa od) Q) = (
 br (igt (ofN m) 0) (asrt (zq109 m) (asrt (nlt (zq107 m) m) (asrt (ilt 0 (ofN m)) (asrt (nlt 0 m) (asrt (ilt 0 (ofN m)) (asrt (nlt 0 m) (asrt (zq109 m) (asrt (nlt (zq107 m) m) (asrt
 (band (nle m 1000000) (band (nle m m) (band (ile 0 (ofN m)) (zq111 m)))) (∀ (a' i' : List Int) (j' : Int), downD (put (put a (nOf 0) (gI a (zq107 m))) (zq107 m) (gI a (nOf 0))) (put
 (put d (nOf 0) (gI d (zq107 m))) (zq107 m) (gI d (nOf 0))) 0 (isub .i64 (ofN m) 1) a' i' → asrt (zq109 m) (asrt (nlt (zq107 m) m) (asrt (zq111 m) (asrt (nle (nAdd k 1)
 8796093022208) ((mu zq110 [some (AObj.var [AV.osl 1 0 (zq107 m)]), some (AObj.row 172 m [.int .i64 a', .int .i64 i']), some (AObj.row 172 (nAdd k 1) [.int .i64 (cat oa [gI a' (zq107
 m)]), .int .i64 (cat od [gI i' (zq107 m)])])]).succ.le (mu zq110 (zq108 m a d k oa od)) ∧ asrt (band (nle m 1000000) (band (nle (zq107 m) m) (nle (nAdd (nAdd k 1) (zq107 m))
 1000000))) (∀ (a'_1 d' oa' od' : List Int), sortD a' i' (zq107 m) (cat oa [gI a' (zq107 m)]) (cat od [gI i' (zq107 m)]) oa' od' → Q (Ex.exit 0) zq110 [some (AObj.var [AV.osl 1 0
 0]), some (AObj.row 172 m [.int .i64 a'_1, .int .i64 d']), some (AObj.row 172 (lenI oa') [.int .i64 oa', .int .i64 od'])]))))))))))))))) (Q (Ex.exit 0) zq110 (zq108 m a d k oa od))) := by kernel_rfl
def zq112 (n : Nat) : Nat :=
 nOf (isub .i64 (ofN n) 1)
def zq113 (n : Nat) (m : Nat) (a : List Int) (d : List Int) (k : Nat) (oa : List Int) (od : List Int) : Heap :=
 [some (AObj.var [AV.osl 1 0 n]), some (AObj.row 172 m [.int .i64 a, .int .i64 d]), some (AObj.row 172 k [.int .i64 oa, .int .i64 od])]
def zq114 (n : Nat) : Bool :=
 band (ile 0 (isub .i64 (ofN n) 1)) (ilt (isub .i64 (ofN n) 1) (ofN n))
def zq115 : List AV :=
 [AV.ifc 206 (AV.ptr 0 0 0), AV.full 2]
theorem lp_sortedO (n m : Nat) (a d : List Int) (k : Nat) (oa od : List Int) (mu : List AV → Heap → Nat) (Q : Ex → List AV → Heap → Prop) : runCode Tryz.prog (tabS tabD0) (callN Tryz.prog (tabS tabD0) (tabL Ldown) 11) (fun _ => none) (bodyOf Tryz.prog 182 0) 0 ⟨mkT (spec_sorted).keep [.ifc 206 (.ptr 0 0 0), .full 2] (spec_sorted).n 0, pile3 false n m a d k oa od⟩ ((spec_sorted).endsA mu [.ifc 206 (.ptr 0 0 0), .full 2] (pile3 false n m a d k oa od) Q) = (
 br (igt (ofN n) 0) (asrt (zq114 n) (asrt (nlt (nAdd 0 (zq112 n)) m) (asrt (ilt 0 (ofN n)) (asrt (nlt 0 m) (asrt (ilt 0 (ofN n)) (asrt (nlt 0 m) (asrt (zq114 n) (asrt (nlt (nAdd 0
 (zq112 n)) m) (asrt (band (nle m 1000000) (band (nle n m) (band (ile 0 (ofN n)) (band (ile 0 (isub .i64 (ofN n) 1)) (ile (isub .i64 (ofN n) 1) (ofN n)))))) (∀ (a' i' : List Int) (j'
 : Int), downD (put (put a (nAdd 0 (nOf 0)) (gI a (nAdd 0 (zq112 n)))) (nAdd 0 (zq112 n)) (gI a (nAdd 0 (nOf 0)))) (put (put d (nAdd 0 (nOf 0)) (gI d (nAdd 0 (zq112 n)))) (nAdd 0
 (zq112 n)) (gI d (nAdd 0 (nOf 0)))) 0 (isub .i64 (ofN n) 1) a' i' → asrt (zq114 n) (asrt (nlt (nAdd 0 (zq112 n)) m) (asrt (band (ile 0 (isub .i64 (ofN n) 1)) (nle (nAdd 0 (zq112 n))
 m)) (asrt (nle (nAdd k 1) 8796093022208) ((mu zq115 [some (AObj.var [AV.osl 1 0 (nDiff (isub .i64 (ofN n) 1) 0)]), some (AObj.row 172 m [.int .i64 a', .int .i64 i']), some (AObj.row
 172 (nAdd k 1) [.int .i64 (cat oa [gI a' (nAdd 0 (zq112 n))]), .int .i64 (cat od [gI i' (nAdd 0 (zq112 n))])])]).succ.le (mu zq115 (zq113 n m a d k oa od)) ∧ asrt (band (nle m
 1000000) (band (nle (nDiff (isub .i64 (ofN n) 1) 0) m) (nle (nAdd (nAdd k 1) (nDiff (isub .i64 (ofN n) 1) 0)) 1000000))) (∀ (a'_1 d' oa' od' : List Int), sortD a' i' (nDiff (isub
 .i64 (ofN n) 1) 0) (cat oa [gI a' (nAdd 0 (zq112 n))]) (cat od [gI i' (nAdd 0 (zq112 n))]) oa' od' → Q (Ex.exit 0) zq115 [some (AObj.var [AV.osl 1 0 0]), some (AObj.row 172 m [.int
 .i64 a'_1, .int .i64 d']), some (AObj.row 172 (lenI oa') [.int .i64 oa', .int .i64 od'])]))))))))))))))) (Q (Ex.exit 0) zq115 (zq113 n m a d k oa od))) := by kernel_rfl
theorem asPile3_some {os : Heap} {e e2 : TypeId} {o : Nat} {full : Bool} {n m : Nat} {a d : List Int} {k : Nat} {oa od : List Int} (h : asPile3 os = some (e, e2, o, full, n, m, a, d, k, oa, od)) (he : e = 172 ∧ e2 = 172 ∧ o = 0) : os = pile3 full n m a d k oa od ∧ (full = true → n = m) := by
 obtain ⟨rfl, rfl, rfl⟩ := he
 unfold asPile3 at h
 split at h
 ·cases h
  exact ⟨rfl, fun _ => rfl⟩
 ·cases h
  exact ⟨rfl, fun h => by cases h⟩
 ·cases h
theorem loop_sorted : LoopFr Tryz.prog (bodyOf Tryz.prog 182 0) spec_sorted.framed := by
 refine tab_loopAV mixed (l := tabD0) ok_tabD0 (ll := Ldown) ok_Ldown (i := 0) spec_sorted (fun vals objs => match asPile3 objs with
  | some (_, _, _, _, n, _) => n
  | none => 0) fun vals objs Q h1 h2 wf wo hg => ?_
 unfold spec_sorted at hg
 simp only at hg
 split at hg
 ·rename_i ty e e2 o full n m a d k oa od hx
  clear h1 h2
  have r := (asrt_iff.1 hg).1
  simp only [band_t, neq_t] at r
  have r1 := r.1
  have he := asPile3_some hx r.2
  have r3 := he.1
  have hfm := he.2
  clear hx he
  subst r1
  subst r3
  replace hg := (asrt_iff.1 hg).2
  cases full with
  | true =>
   have hfm := hfm rfl
   subst hfm
   rw [lp_sortedF]
   dsimp only [zq107, zq108, zq109, zq110, zq111]
   simp only at hg
   obtain ⟨⟨wa, wd⟩, wo1, wo2⟩ : (a.length = n ∧ d.length = n) ∧ oa.length = k ∧ od.length = k := by
    refine ⟨?_, ?_⟩
    ·simpa [WFO, Col.len] using wo (some (.row 172 n [.int .i64 a, .int .i64 d])) (by simp [pile3]) _ rfl
    ·simpa [WFO, Col.len] using wo (some (.row 172 k [.int .i64 oa, .int .i64 od])) (by simp [pile3]) _ rfl
   simp only [asrt_iff, band_t, nle_t, nAdd_e, br_iff] at hg
   obtain ⟨⟨hm, hnm, hkn⟩, hg⟩ := hg
   rw [br_iff]
   refine ⟨fun h => ?_, fun h => ?_⟩
   ·have hn0 : 0 < n := by
     simp [owl] at h
     omega
    obtain ⟨q, rfl⟩ : ∃ q, n = q + 1 := ⟨n - 1, by omega⟩
    have w : isub .i64 (ofN (q + 1)) 1 = (q : Int) := by
     rw [isub_e, ofN_e, wr (by omega) (by omega)]
     omega
    have e1 : nOf (q : Int) = q := Int.toNat_natCast q
    have e2 : nOf 0 = 0 := rfl
    have e3 : nDiff (q : Int) 0 = q := by rw [nDiff_e]; omega
    simp only [w, e1, e2, e3, nAdd_e, Nat.zero_add, asrt_iff, Nat.add_zero]
    refine ⟨?_, ?_, ?_, ?_, ?_, ?_, ?_, ?_, ?_, fun a1 d1 j' hd => ⟨?_, ?_, ?_, ?_, ?_, ?_, fun a' d' oa' od' hs => hg.2 (by simp [neq]) a' d' oa' od' (sort_step (n := q) (by omega) (by omega) (by omega) hd hs)⟩⟩
    case refine_14 =>
     show q.succ ≤ q + 1
     omega
    all_goals (simp [owl]; try omega)
   ·have hn0 : n = 0 := by
     simp [owl] at h
     omega
    subst hn0
    exact hg.1 (by simp [neq])
  | false =>
   rw [lp_sortedO]
   dsimp only [zq112, zq113, zq114, zq115]
   simp only at hg
   obtain ⟨⟨wa, wd⟩, wo1, wo2⟩ : (a.length = m ∧ d.length = m) ∧ oa.length = k ∧ od.length = k := by
    refine ⟨?_, ?_⟩
    ·simpa [WFO, Col.len] using wo (some (.row 172 m [.int .i64 a, .int .i64 d])) (by simp [pile3]) _ rfl
    ·simpa [WFO, Col.len] using wo (some (.row 172 k [.int .i64 oa, .int .i64 od])) (by simp [pile3]) _ rfl
   simp only [asrt_iff, band_t, nle_t, nAdd_e] at hg
   obtain ⟨⟨hm, hnm, hkn⟩, hg⟩ := hg
   rw [br_iff]
   refine ⟨fun h => ?_, fun h => ?_⟩
   ·have hn0 : 0 < n := by
     simp [owl] at h
     omega
    obtain ⟨q, rfl⟩ : ∃ q, n = q + 1 := ⟨n - 1, by omega⟩
    have w : isub .i64 (ofN (q + 1)) 1 = (q : Int) := by
     rw [isub_e, ofN_e, wr (by omega) (by omega)]
     omega
    have e1 : nOf (q : Int) = q := Int.toNat_natCast q
    have e2 : nOf 0 = 0 := rfl
    have e3 : nDiff (q : Int) 0 = q := by rw [nDiff_e]; omega
    simp only [w, e1, e2, e3, nAdd_e, Nat.zero_add, asrt_iff, Nat.add_zero]
    refine ⟨?_, ?_, ?_, ?_, ?_, ?_, ?_, ?_, ?_, fun a1 d1 j' hd => ⟨?_, ?_, ?_, ?_, ?_, ?_, fun a' d' oa' od' hs => hg a' d' oa' od' (sort_step (n := q) (by omega) (by omega) (by omega) hd hs)⟩⟩
    case refine_14 =>
     show q.succ ≤ q + 1
     omega
    all_goals (simp [owl]; try omega)
   ·have hn0 : n = 0 := by
     simp [owl] at h
     omega
    subst hn0
    exact hg a d oa od (by have := sort_none (a := a) (d := d) (oa := oa) (od := od); exact this) |> fun z => by rw [lenI_e, wo1] at z; exact z
 ·exact hg.elim
def Lpush : List (FuncId × Nat × LoopS) := [(197, 0, .frame spec_up.framed)]
theorem ok_Lpush : ∀ p ∈ Lpush, LoopHyp Tryz.prog p.1 p.2.1 p.2.2 := by
 intro p hp
 simp only [Lpush, List.mem_cons, List.not_mem_nil, or_false] at hp
 rcases hp with rfl
 ·exact ⟨by kernel_rfl, loop_up⟩
theorem coll_step {a d a1 d1 A I a' d' : List Int} {left : List Nat} {i : Nat} (hlen : d.length = a.length) (hn : left.Nodup) (hi : i ∈ left) (hp : permD (a ++ [A.getD i 0]) (d ++ [I.getD i 0]) a1 d1) (hc : collD a1 d1 A I (nDel left i) a' d') : collD a d A I left a' d' := by
 obtain ⟨p1, p2, p3⟩ := hp
 obtain ⟨c1, c2, c3⟩ := hc
 have he : nDel left i = left.erase i := by
  unfold nDel
  rw [hn.erase_eq_filter]
 have hl : left.length = (left.erase i).length + 1 := by
  rw [List.length_erase_of_mem hi]
  have := List.length_pos_of_mem hi
  omega
 rw [he] at c1 c2 c3
 refine ⟨by rw [c1, p1]; simp; omega, by rw [c2, p2]; simp; omega, c3.trans ?_⟩
 rw [List.zip_append hlen.symm] at p3
 refine (p3.append_right _).trans ?_
 rw [List.append_assoc]
 refine List.Perm.append_left _ ?_
 show ((A.getD i 0, I.getD i 0) :: (left.erase i).map fun i => (A.getD i 0, I.getD i 0)).Perm _
 exact ((List.perm_cons_erase hi).map (fun i => (A.getD i 0, I.getD i 0))).symm
theorem range_zip {A I : List Int} (h : I.length = A.length) : ((List.range A.length).map fun i => (A.getD i 0, I.getD i 0)) = A.zip I := by
 apply List.ext_getElem?
 intro k
 by_cases hk : k < A.length
 ·rw [List.getElem?_map, List.getElem?_range hk, el_zip hk h]
  rfl
 ·rw [List.getElem?_eq_none (by simp; omega), List.getElem?_eq_none (by simp; omega)]
theorem hp_half {a d : List Int} {n : Nat} : hpFrom a d (n / 2) n := by
 intro k h0 hk hb
 omega
def spec_told : LoopSpec := { n := 22, keep := [3, 9], srcs := [.tmp 3, .cell 0 0, .tmp 9], keepE := [3], srcsE := [.tmp 3, .cell 0 0], goes := fun vals objs Q => match vals, objs with
 | [.ptr 0 0 0, .it 2], [some (.var [.full 1]), some (.row 172 m [.int .i64 a, .int .i64 d]), some (.iter ks [.int .i64 A, .int .i64 I] false left cur)] => asrt (nle (nAdd m (nLen left)) 1000000) (∀ a' d' : List Int, collD a d A I left a' d' → Q (.exit 0) [.ptr 0 0 0] [some (.var [.full 1]), some (.row 172 (lenI a') [.int .i64 a', .int .i64 d'])])
 | _, _ => False }
theorem lp_told (m : Nat) (a d : List Int) (ks A I : List Int) (left : List Nat) (cur : Option Nat) (mu : List AV → Heap → Nat) (Q : Ex → List AV → Heap → Prop) : runCode Tryz.prog (tabS tabD0) (callN Tryz.prog (tabS tabD0) (tabL Lpush) 11) (fun _ => none) (bodyOf Tryz.prog 136 0) 0 ⟨mkT (spec_told).keep [.ptr 0 0 0, .it 2] (spec_told).n 0, [some (.var [.full 1]), some (.row 172 m [.int .i64 a, .int .i64 d]), some (.iter ks [.int .i64 A, .int .i64 I] false left cur)]⟩ ((spec_told).ends mu [.ptr 0 0 0, .it 2] ([some (.var [.full 1]), some (.row 172 m [.int .i64 a, .int .i64 d]), some (.iter ks [.int .i64 A, .int .i64 I] false left cur)]) Q) = (
 br (nNil left) (Q (Ex.exit 0) [AV.ptr 0 0 0] [some (AObj.var [AV.full 1]), some (AObj.row 172 m [.int .i64 a, .int .i64 d])]) (∀ (i : Nat), nIn i left = true → asrt (nle (nAdd m 1)
 8796093022208) (asrt (band (nle (nAdd m 1) 1000000) (band (ile 0 (isub .i64 (ofN (nAdd m 1)) 1)) (ilt (isub .i64 (ofN (nAdd m 1)) 1) (ofN (nAdd m 1))))) (∀ (a' i' : List Int), permD
 (cat a [gI A i]) (cat d [gI I i]) a' i' → (mu [AV.ptr 0 0 0, AV.it 2] [some (AObj.var [AV.full 1]), some (AObj.row 172 (nAdd m 1) [.int .i64 a', .int .i64 i']), some (AObj.iter ks
 [.int .i64 A, .int .i64 I] false (nDel left i) (some i))]).succ.le (mu [AV.ptr 0 0 0, AV.it 2] [some (AObj.var [AV.full 1]), some (AObj.row 172 m [.int .i64 a, .int .i64 d]), some
 (AObj.iter ks [.int .i64 A, .int .i64 I] false left cur)]) ∧ asrt (nle (nAdd (nAdd m 1) (nLen (nDel left i))) 1000000) (∀ (a'_1 d' : List Int), collD a' i' A I (nDel left i) a'_1 d'
 → Q (Ex.exit 0) [AV.ptr 0 0 0] [some (AObj.var [AV.full 1]), some (AObj.row 172 (lenI a'_1) [.int .i64 a'_1, .int .i64 d'])]))))) := by kernel_rfl
theorem loop_told : LoopOK Tryz.prog (bodyOf Tryz.prog 136 0) spec_told.summ := by
 refine tab_loopV mixed (l := tabD0) ok_tabD0 (ll := Lpush) ok_Lpush (i := 0) spec_told (fun vals objs => match vals, objs with
  | [.ptr 0 0 0, .it 2], [some (.var [.full 1]), some (.row 172 m [.int .i64 a, .int .i64 d]), some (.iter ks [.int .i64 A, .int .i64 I] false left cur)] => nLen left
  | _, _ => 0) fun vals objs Q h1 h2 wf wo hg => ?_
 unfold spec_told at hg
 simp only at hg
 split at hg
 ·rename_i m a d ks A I left cur
  clear h1 h2
  try simp only [WFL, WF, List.mem_cons, List.not_mem_nil, or_false, forall_eq_or_imp, forall_eq, Col.len, and_true, true_and] at wf
  rw [lp_told]
  obtain ⟨wa, wd⟩ : a.length = m ∧ d.length = m := by simpa [WFO, Col.len] using wo (some (.row 172 m [.int .i64 a, .int .i64 d])) (by simp) _ rfl
  have wi : (∀ col ∈ [Col.int .i64 A, Col.int .i64 I], col.len = ks.length) ∧ ks.Nodup ∧ left.Nodup ∧ ∀ i ∈ left, i < ks.length := wo (some (.iter ks [.int .i64 A, .int .i64 I] false left cur)) (by simp) _ rfl
  obtain ⟨_, _, hnd, _⟩ := wi
  simp only [asrt_iff, nle_t, nAdd_e] at hg
  obtain ⟨hm, hg⟩ := hg
  rw [br_iff]
  refine ⟨fun h => ?_, fun h i hi => ?_⟩
  ·have hl : left = [] := by simpa [nNil] using h
   subst hl
   have := hg a d ⟨rfl, rfl, by simp⟩
   rw [lenI_e, wa] at this
   exact this
  ·have hi' : i ∈ left := by simpa [nIn] using hi
   have hlen : (nDel left i).length + 1 = left.length := by
    unfold nDel
    rw [← hnd.erase_eq_filter, List.length_erase_of_mem hi']
    have := List.length_pos_of_mem hi'
    omega
   unfold nLen at hm
   have w : isub .i64 (ofN (nAdd m 1)) 1 = (m : Int) := by
    rw [isub_e, ofN_e, nAdd_e, wr (by omega) (by omega)]
    omega
   simp only [asrt_iff, w]
   refine ⟨by simp [owl]; omega, by simp [owl]; omega, fun a1 d1 hp => ⟨?_, ?_, fun a' d' hc => hg a' d' (coll_step (by omega) hnd hi' hp hc)⟩⟩
   ·show (nLen (nDel left i)).succ ≤ nLen left
    unfold nLen
    omega
   ·unfold nLen
    simp [owl]
    omega
 ·exact hg.elim
def Ltold : List (FuncId × Nat × LoopS) := [(136, 0, .summ spec_told.summ), (197, 0, .frame spec_up.framed), (198, 0, .frame spec_init.framed), (206, 0, .frame spec_down.framed), (182, 0, .frame spec_sorted.framed)]
theorem ok_Ltold : ∀ p ∈ Ltold, LoopHyp Tryz.prog p.1 p.2.1 p.2.2 := by
 intro p hp
 simp only [Ltold, List.mem_cons, List.not_mem_nil, or_false] at hp
 rcases hp with rfl | rfl | rfl | rfl | rfl
 ·exact ⟨by kernel_rfl, loop_told⟩
 ·exact ⟨by kernel_rfl, loop_up⟩
 ·exact ⟨by kernel_rfl, loop_init⟩
 ·exact ⟨by kernel_rfl, loop_down⟩
 ·exact ⟨by kernel_rfl, loop_sorted⟩
def Ftold : Pure1 := fun
 | [.mapv ks [.int .i64 A, .int .i64 I] false] => some (some (nle (lenI ks) 1000000), .own 172 (lenI ks) [.int .i64 (dA A I), .int .i64 (dI A I)])
 | _ => none
theorem vc_told (ks A I : List Int) (r : AV) : VC Tryz.prog (tabS tabD0) (tabL Ltold) true 136 [.mapv ks [.int .i64 A, .int .i64 I] false] r = (
 asrt (nle (nAdd 0 (nLen (nUp (lenI ks)))) 1000000) (∀ (a' d' : List Int), collD [] [] A I (nUp (lenI ks)) a' d' → asrt (band (nle (lenI a') 1000000) (band (ieq (ofN (lenI a')) (ofN
 (lenI a'))) (band (ile (-1) (isub .i64 (iquo .i64 (ofN (lenI a')) 2) 1)) (ile (isub .i64 (iquo .i64 (ofN (lenI a')) 2) 1) (ofN (lenI a')))))) (∀ (a'_1 d'_1 : List Int), initD a' d'
 (isub .i64 (iquo .i64 (ofN (lenI a')) 2) 1) (lenI a') a'_1 d'_1 → asrt (band (nle (lenI a') 1000000) (band (nle (lenI a') (lenI a')) (nle (nAdd 0 (lenI a')) 1000000))) (br (neq
 (lenI a') 0) (some (AV.own 172 0 [.int .i64 [], .int .i64 []]) = some r) (∀ (a'_2 d' oa' od' : List Int), sortD a'_1 d'_1 (lenI a') [] [] oa' od' → some (AV.own 172 (lenI oa') [.int
 .i64 oa', .int .i64 od']) = some r))))) := by kernel_rfl
theorem ok_told : PureOK Tryz.prog 136 Ftold := by
 refine tab_many mixed (l := tabD0) ok_tabD0 (ll := Ltold) ok_Ltold true (by kernel_rfl) fun xs b r h hb wf => ?_
 unfold Ftold at h
 split at h
 ·rename_i ks A I
  cases h
  try rw [some_f] at hb
  try simp only [WFL, WF, List.mem_cons, List.not_mem_nil, or_false, forall_eq_or_imp, forall_eq, Col.len, and_true, true_and] at wf
  rw [vc_told]
  obtain ⟨⟨wA, wI⟩, _⟩ := wf
  simp only [nle_t, lenI_e] at hb
  have hup : nLen (nUp (lenI ks)) = ks.length := by simp [nLen, nUp, lenI_e]
  simp only [asrt_iff, hup]
  refine ⟨by simp [owl]; omega, fun a1 d1 hc => ?_⟩
  obtain ⟨c1, c2, c3⟩ := hc
  have hn : a1.length = ks.length := by rw [c1]; simp [nUp, lenI_e]
  have hn2 : d1.length = ks.length := by rw [c2]; simp [nUp, lenI_e]
  have hzip : (a1.zip d1).Perm (A.zip I) := by
   have e : nUp (lenI ks) = List.range A.length := by rw [nUp, lenI_e, wA]
   rw [e, range_zip (by omega)] at c3
   simpa using c3
  have w : isub .i64 (iquo .i64 (ofN (lenI a1)) 2) 1 = ((ks.length / 2 : Nat) : Int) - 1 := by
   unfold iquo
   rw [ofN_e, lenI_e, hn, Int.tdiv_eq_ediv_of_nonneg (by omega), wr (a := (ks.length : Int) / 2) (by omega) (by omega), isub_e, wr (by omega) (by omega)]
   omega
  rw [w, lenI_e, hn]
  refine ⟨by simp [owl]; omega, fun a2 d2 hi => ?_⟩
  refine ⟨by simp [owl]; omega, ?_⟩
  rw [br_iff]
  refine ⟨fun h0 => ?_, fun h0 a3 d3 oa od hs => ?_⟩
  ·have h0 : ks.length = 0 := by simpa [owl] using h0
   have e1 : A = [] := List.eq_nil_of_length_eq_zero (by omega)
   have e2 : I = [] := List.eq_nil_of_length_eq_zero (by omega)
   subst e1 e2
   rw [lenI_e, h0]
   rfl
  ·obtain ⟨i1, i2⟩ := hi
   obtain ⟨s1, s2, s3⟩ := hs
   have hh : hpFrom a2 d2 0 ks.length := by
    refine i2 ?_
    have e : (((ks.length / 2 : Nat) : Int) - 1 + 1).toNat = ks.length / 2 := by omega
    rw [e]
    exact hp_half
   obtain ⟨S, t1, t2, t3⟩ := s3 hh
   simp only [List.length_nil, Nat.zero_add] at s1 s2
   have hl2 : (a2.zip d2).length = ks.length := by
    have := i1.1
    have := i1.2.1
    simp
    omega
   rw [List.take_of_length_le (by omega)] at t2
   have hS : srt (A.zip I) = S := srt_of t3 ((t2.trans i1.2.2).trans hzip)
   simp only [List.zip_nil_left, List.nil_append] at t1
   have hA : dA A I = oa := by
    unfold dA
    rw [hS, ← t1]
    exact List.map_fst_zip (by omega)
   have hI : dI A I = od := by
    unfold dI
    rw [hS, ← t1]
    exact List.map_snd_zip (by omega)
   rw [hA, hI, lenI_e, lenI_e, s1]
 ·cases h
def putE (a d : List Int) (x y : Int) : Int := if dueOk a d then if dtime x then if did y then if mhas (byK [] d 0) y then 60 else 0 else 40 else 50 else 40
def putN (n : Nat) (a d : List Int) (x y : Int) : Nat := if putE a d x y = 0 then lenI (mkey (byK [] d 0) y) else n
def putA (a d : List Int) (x y : Int) : List Int := if putE a d x y = 0 then dA (mput (byK [] d 0) (byC [] d [] a 0) y x) (mput (byK [] d 0) (byC [] d [] d 0) y y) else a
def putI (a d : List Int) (x y : Int) : List Int := if putE a d x y = 0 then dI (mput (byK [] d 0) (byC [] d [] a 0) y x) (mput (byK [] d 0) (byC [] d [] d 0) y y) else d
def lvL (a d : List Int) (t : Int) (i : Nat) (L : List Int) : List Int := ((a.zip d).drop i).foldl (fun L p => if p.1 ≤ t then L ++ [p.2] else L) L
def lvK (a d : List Int) (t : Int) (i : Nat) (K : List Int) : List Int := ((a.zip d).drop i).foldl (fun K p => if p.1 ≤ t then mdel K p.2 else K) K
def lvC (a d : List Int) (t : Int) (i : Nat) (K C : List Int) : List Int := (((a.zip d).drop i).foldl (fun (m : List Int × List Int) p => if p.1 ≤ t then (mdel m.1 p.2, mcut m.1 m.2 p.2) else m) (K, C)).2
def lateL (a d : List Int) (t : Int) : List Int := if dueOk a d then lvL a d t 0 [] else []
def lateN (n : Nat) (a d : List Int) (t : Int) : Nat := if dueOk a d then lenI (lvK a d t 0 (byK [] d 0)) else n
def lateA (a d : List Int) (t : Int) : List Int := if dueOk a d then dA (lvC a d t 0 (byK [] d 0) (byC [] d [] a 0)) (lvC a d t 0 (byK [] d 0) (byC [] d [] d 0)) else a
def lateI (a d : List Int) (t : Int) : List Int := if dueOk a d then dI (lvC a d t 0 (byK [] d 0) (byC [] d [] a 0)) (lvC a d t 0 (byK [] d 0) (byC [] d [] d 0)) else d
theorem zip_drop_lt {a d : List Int} {i : Nat} (h : i < a.length) (h2 : i < d.length) : (a.zip d).drop i = (a.getD i 0, d.getD i 0) :: (a.zip d).drop (i + 1) := by
 have hz : i < (a.zip d).length := by simp; omega
 rw [List.drop_eq_getElem_cons hz]
 simp [h, h2]
theorem lvL_lt {a d L : List Int} {t : Int} {i : Nat} (h : i < a.length) (h2 : i < d.length) : lvL a d t i L = lvL a d t (i + 1) (if a.getD i 0 ≤ t then L ++ [d.getD i 0] else L) := by
 unfold lvL
 rw [zip_drop_lt h h2, List.foldl_cons]
theorem lvK_lt {a d K : List Int} {t : Int} {i : Nat} (h : i < a.length) (h2 : i < d.length) : lvK a d t i K = lvK a d t (i + 1) (if a.getD i 0 ≤ t then mdel K (d.getD i 0) else K) := by
 unfold lvK
 rw [zip_drop_lt h h2, List.foldl_cons]
theorem lvC_lt {a d K C : List Int} {t : Int} {i : Nat} (h : i < a.length) (h2 : i < d.length) : lvC a d t i K C = lvC a d t (i + 1) (if a.getD i 0 ≤ t then mdel K (d.getD i 0) else K) (if a.getD i 0 ≤ t then mcut K C (d.getD i 0) else C) := by
 unfold lvC
 rw [zip_drop_lt h h2, List.foldl_cons]
 split <;> rfl
theorem zip_drop_ge {a d : List Int} {i : Nat} (h : a.length ≤ i) : (a.zip d).drop i = [] := List.drop_eq_nil_of_le (by simp; omega)
theorem mkey_le (ks : List Int) (y : Int) : lenI (mkey ks y) ≤ lenI ks + 1 := by
 unfold mkey
 simp only [lenI_e]
 split <;> simp
theorem mdel_le (ks : List Int) (y : Int) : lenI (mdel ks y) ≤ lenI ks := by
 unfold mdel
 simp only [lenI_e, List.length_eraseIdx]
 split <;> omega
theorem byK_le : ∀ {d ks : List Int} {i : Nat}, lenI (byK ks d i) ≤ lenI ks + (d.length - i) := by
 intro d ks i
 unfold byK
 have : ∀ (l ks : List Int), lenI (l.foldl mkey ks) ≤ lenI ks + l.length := by
  intro l
  induction l with
  | nil => intro ks; simp
  | cons x l ih =>
   intro ks
   rw [List.foldl_cons]
   have := ih (mkey ks x)
   have := mkey_le ks x
   simp
   omega
 have := this (d.drop i) ks
 simpa using this
theorem lvK_le {a d : List Int} {t : Int} : ∀ {K : List Int} {i : Nat}, lenI (lvK a d t i K) ≤ lenI K := by
 intro K i
 unfold lvK
 have : ∀ (l : List (Int × Int)) (K : List Int), lenI (l.foldl (fun K p => if p.1 ≤ t then mdel K p.2 else K) K) ≤ lenI K := by
  intro l
  induction l with
  | nil => intro ks; simp
  | cons x l ih =>
   intro ks
   rw [List.foldl_cons]
   refine Nat.le_trans (ih _) ?_
   split
   ·exact mdel_le _ _
   ·exact Nat.le_refl _
 exact this _ K
def tabD1 : List (FuncId × Pure1) := [(135, Fby), (133, Fdchk), (136, Ftold)] ++ tabD0
theorem ok_tabD1 : ∀ p ∈ tabD1, PureOK Tryz.prog p.1 p.2 := by
 intro p hp
 simp only [tabD1, List.mem_append, List.mem_cons, List.not_mem_nil, or_false] at hp
 rcases hp with (rfl | rfl | rfl) | hp
 ·exact ok_by
 ·exact ok_dchk
 ·exact ok_told
 ·exact ok_tabD0 p hp
def Fput : Pure1 := fun
 | [.sl n [.int .i64 a, .int .i64 d], .agg [.int .i64 x, .int .i64 y]] => some (some (nle n 900000), .tup [.own 172 (putN n a d x y) [.int .i64 (putA a d x y), .int .i64 (putI a d x y)], .int .i64 (putE a d x y)])
 | _ => none
def zq116 (a : List Int) (d : List Int) : List Col :=
 [.int .i64 a, .int .i64 d]
theorem vc_put (n : Nat) (a d : List Int) (x y : Int) (r : AV) : VC Tryz.prog (tabS tabD1) noL true 138 [.sl n [.int .i64 a, .int .i64 d], .agg [.int .i64 x, .int .i64 y]] r = (
 asrt (nle n 1000000) (asrt (nle n 1000000) (br (bnot (dueOk a d)) (asrt (nle n 1000000) (some (AV.tup [AV.own 172 n (zq116 a d), AV.int .i64 40]) = some r)) (br (bnot (dtime x))
 (asrt (nle n 1000000) (some (AV.tup [AV.own 172 n (zq116 a d), AV.int .i64 50]) = some r)) (br (bnot (did y)) (asrt (nle n 1000000) (some (AV.tup [AV.own 172 n (zq116 a d), AV.int
 .i64 40]) = some r)) (br (mhas (byK [] d 0) y) (asrt (nle n 1000000) (some (AV.tup [AV.own 172 n (zq116 a d), AV.int .i64 60]) = some r)) (asrt (nle (lenI (mkey (byK [] d 0) y))
 1000000) (some (AV.tup [AV.own 172 (lenI (mkey (byK [] d 0) y)) [.int .i64 (dA (mput (byK [] d 0) (byC [] d [] a 0) y x) (mput (byK [] d 0) (byC [] d [] d 0) y y)), .int .i64 (dI
 (mput (byK [] d 0) (byC [] d [] a 0) y x) (mput (byK [] d 0) (byC [] d [] d 0) y y))], AV.int .i64 0]) = some r)))))))) := by kernel_rfl
theorem ok_put : PureOK Tryz.prog 138 Fput := by
 refine tab_plain mixed (l := tabD1) ok_tabD1 true (by kernel_rfl) fun xs b r h hb wf => ?_
 unfold Fput at h
 split at h
 ·rename_i n a d x y
  cases h
  try rw [some_f] at hb
  try simp only [WFL, WF, List.mem_cons, List.not_mem_nil, or_false, forall_eq_or_imp, forall_eq, Col.len, and_true, true_and] at wf
  rw [vc_put]
  dsimp only [zq116]
  obtain ⟨wa, wd⟩ : a.length = n ∧ d.length = n := by simpa using wf
  have k1 := mkey_le (byK [] d 0) y
  have k2 := byK_le (d := d) (ks := []) (i := 0)
  have k3 : lenI ([] : List Int) = 0 := rfl
  simp only [nle_t] at hb
  have q1 : nle n 1000000 = true := by first | (rw [nle_t]; omega) | (rw [nlt_t]; omega)
  have q2 : nle (lenI (mkey (byK [] d 0) y)) 1000000 = true := by first | (rw [nle_t]; omega) | (rw [nlt_t]; omega)
  unfold putN putA putI putE
  rw [q1, q2]
  cases dueOk a d <;> cases dtime x <;> cases did y <;> cases mhas (byK [] d 0) y <;> rfl
 ·cases h
def spec_late : LoopSpec := { n := 38, keep := [1, 4, 6, 16, 17, 18], srcs := [.tmp 4, .tmp 6], keepE := [4, 6], srcsE := [.tmp 4, .tmp 6], goes := fun vals objs Q => match vals, objs with
 | [.int .i64 t, .full 0, .mp 1, .sl n [.int .i64 a, .int .i64 d], .int .i64 m, .int .i64 i], [some (.row 3 p [.int .i64 L]), some (.tmap ks [.int .i64 A, .int .i64 I] false)] => asrt (band (nle n 1000000) (band (nle p (nOf i)) (band (ieq m (ofN n)) (band (ile 0 i) (ile i (ofN n)))))) (Q (.exit 0) [.full 0, .mp 1] [some (.row 3 (lenI (lvL a d t (nOf i) L)) [.int .i64 (lvL a d t (nOf i) L)]), some (.tmap (lvK a d t (nOf i) ks) [.int .i64 (lvC a d t (nOf i) ks A), .int .i64 (lvC a d t (nOf i) ks I)] false)])
 | _, _ => False }
def zq117 (p : Nat) (L : List Int) (ks : List Int) (A : List Int) (I : List Int) : Heap :=
 [some (AObj.row 3 p [.int .i64 L]), some (AObj.tmap ks [.int .i64 A, .int .i64 I] false)]
def zq118 (i : Int) : Nat :=
 nOf (iadd .i64 i 1)
def zq119 (t : Int) (n : Nat) (a : List Int) (d : List Int) (m : Int) (i : Int) : List AV :=
 [AV.int .i64 t, AV.full 0, AV.mp 1, AV.sl n [.int .i64 a, .int .i64 d], AV.int .i64 m, AV.int .i64 (iadd .i64 i 1)]
def zq120 (t : Int) (n : Nat) (a : List Int) (d : List Int) (m : Int) (i : Int) : List AV :=
 [AV.int .i64 t, AV.full 0, AV.mp 1, AV.sl n [.int .i64 a, .int .i64 d], AV.int .i64 m, AV.int .i64 i]
def zq121 (n : Nat) (m : Int) (i : Int) : Bool :=
 band (ieq m (ofN n)) (band (ile 0 (iadd .i64 i 1)) (ile (iadd .i64 i 1) (ofN n)))
theorem lp_late (t : Int) (n : Nat) (a d : List Int) (m i : Int) (p : Nat) (L : List Int) (ks A I : List Int) (mu : List AV → Heap → Nat) (Q : Ex → List AV → Heap → Prop) : runCode Tryz.prog (tabS tabD1) (callN Tryz.prog (tabS tabD1) noL 11) (fun _ => none) (bodyOf Tryz.prog 95 0) 0 ⟨mkT (spec_late).keep [.int .i64 t, .full 0, .mp 1, .sl n [.int .i64 a, .int .i64 d], .int .i64 m, .int .i64 i] (spec_late).n 0, [some (.row 3 p [.int .i64 L]), some (.tmap ks [.int .i64 A, .int .i64 I] false)]⟩ ((spec_late).ends mu [.int .i64 t, .full 0, .mp 1, .sl n [.int .i64 a, .int .i64 d], .int .i64 m, .int .i64 i] ([some (.row 3 p [.int .i64 L]), some (.tmap ks [.int .i64 A, .int .i64 I] false)]) Q) = (
 br (ilt i m) (asrt (band (ile 0 i) (ilt i (ofN n))) (br (ile (gI a (nOf i)) t) (asrt (nle (nAdd p 1) 17592186044416) ((mu (zq119 t n a d m i) [some (AObj.row 3 (nAdd p 1) [.int .i64
 (cat L [gI d (nOf i)])]), some (AObj.tmap (mdel ks (gI d (nOf i))) [.int .i64 (mcut ks A (gI d (nOf i))), .int .i64 (mcut ks I (gI d (nOf i)))] false)]).succ.le (mu (zq120 t n a d m
 i) (zq117 p L ks A I)) ∧ asrt (band (nle n 1000000) (band (nle (nAdd p 1) (zq118 i)) (zq121 n m i))) (Q (Ex.exit 0) [AV.full 0, AV.mp 1] [some (AObj.row 3 (lenI (lvL a d t (zq118 i)
 (cat L [gI d (nOf i)]))) [.int .i64 (lvL a d t (zq118 i) (cat L [gI d (nOf i)]))]), some (AObj.tmap (lvK a d t (zq118 i) (mdel ks (gI d (nOf i)))) [.int .i64 (lvC a d t (zq118 i)
 (mdel ks (gI d (nOf i))) (mcut ks A (gI d (nOf i)))), .int .i64 (lvC a d t (zq118 i) (mdel ks (gI d (nOf i))) (mcut ks I (gI d (nOf i))))] false)]))) ((mu (zq119 t n a d m i) (zq117
 p L ks A I)).succ.le (mu (zq120 t n a d m i) (zq117 p L ks A I)) ∧ asrt (band (nle n 1000000) (band (nle p (zq118 i)) (zq121 n m i))) (Q (Ex.exit 0) [AV.full 0, AV.mp 1] [some
 (AObj.row 3 (lenI (lvL a d t (zq118 i) L)) [.int .i64 (lvL a d t (zq118 i) L)]), some (AObj.tmap (lvK a d t (zq118 i) ks) [.int .i64 (lvC a d t (zq118 i) ks A), .int .i64 (lvC a d t
 (zq118 i) ks I)] false)])))) (Q (Ex.exit 0) [AV.full 0, AV.mp 1] (zq117 p L ks A I))) := by kernel_rfl
theorem loop_late : LoopOK Tryz.prog (bodyOf Tryz.prog 95 0) spec_late.summ := by
 refine tab_loop mixed (l := tabD1) ok_tabD1 (i := 0) spec_late (fun vals objs => match vals, objs with
  | [.int .i64 t, .full 0, .mp 1, .sl n [.int .i64 a, .int .i64 d], .int .i64 m, .int .i64 i], [some (.row 3 p [.int .i64 L]), some (.tmap ks [.int .i64 A, .int .i64 I] false)] => (m - i).toNat
  | _, _ => 0) fun vals objs Q h1 h2 wf wo hg => ?_
 unfold spec_late at hg
 simp only at hg
 split at hg
 ·rename_i t n a d m i p L ks A I
  clear h1 h2
  try simp only [WFL, WF, List.mem_cons, List.not_mem_nil, or_false, forall_eq_or_imp, forall_eq, Col.len, and_true, true_and] at wf
  rw [lp_late]
  dsimp only [zq117, zq118, zq119, zq120, zq121]
  obtain ⟨wa, wd⟩ : a.length = n ∧ d.length = n := by simpa using wf
  have wL : L.length = p := by simpa [WFO, Col.len] using wo (some (.row 3 p [.int .i64 L])) (by simp) _ rfl
  simp only [asrt_iff, band_t, nle_t, ieq_t, ile_t, ofN_e] at hg
  obtain ⟨⟨hb, hp, rfl, h0, hn⟩, hg⟩ := hg
  obtain ⟨k, rfl⟩ := Int.eq_ofNat_of_zero_le h0
  have hw : IntKind.i64.wrap ((k : Int) + 1) = (k : Int) + 1 := wr (by omega) (by omega)
  have e4 : nOf (iadd .i64 (k : Int) 1) = k + 1 := by rw [iadd_e, hw, nOf_e]; omega
  have e6 : nOf (k : Int) = k := nOf_n
  rw [e6] at hp hg
  rw [e6, e4]
  have hm : ((k : Int) < n) → (((n : Int) - iadd .i64 (k : Int) 1).toNat).succ.le ((n : Int) - (k : Int)).toNat := by
   intro h
   show _ + 1 ≤ _
   rw [iadd_e, hw]
   omega
  rw [br_iff, ilt_t, ilt_f]
  refine ⟨fun hk => ?_, fun hk => ?_⟩
  ·have q1 : band (ile 0 (k : Int)) (ilt (k : Int) (ofN n)) = true := by rw [band_t, ile_t, ilt_t, ofN_e]; omega
   rw [lvL_lt (by omega) (by omega), lvK_lt (by omega) (by omega), lvC_lt (by omega) (by omega), lvC_lt (C := I) (by omega) (by omega)] at hg
   rw [asrt_iff]
   refine ⟨q1, ?_⟩
   rw [br_iff, ile_t, ile_f]
   refine ⟨fun ht => ?_, fun ht => ?_⟩
   ·have ht : a.getD k 0 ≤ t := ht
    simp only [if_pos ht] at hg
    simp only [asrt_iff]
    refine ⟨by rw [nle_t, nAdd_e]; omega, hm hk, ?_, hg⟩
    simp only [band_t, nle_t, ieq_t, ile_t, ofN_e, nAdd_e, iadd_e, hw, true_and]
    omega
   ·have ht : ¬ a.getD k 0 ≤ t := Int.not_le.2 ht
    simp only [if_neg ht] at hg
    simp only [asrt_iff]
    refine ⟨hm hk, ?_, hg⟩
    simp only [band_t, nle_t, ieq_t, ile_t, ofN_e, nAdd_e, iadd_e, hw, true_and]
    omega
  ·have z : (a.zip d).drop k = [] := zip_drop_ge (by omega)
   unfold lvL lvK lvC at hg
   rw [z] at hg
   simp only [List.foldl_nil, lenI_e, wL] at hg
   exact hg
 ·exact hg.elim
def Llate : Nat → Option LoopS := fun i => match i with
 | 0 => some (.summ spec_late.summ)
 | _ => none
theorem ok_Llate : ∀ i x, Llate i = some x → LoopHyp Tryz.prog 95 i x := by
 intro i s h
 unfold Llate at h
 split at h
 ·cases h; exact ⟨by kernel_rfl, loop_late⟩
 ·cases h
def Flate : Pure1 := fun
 | [.sl n [.int .i64 a, .int .i64 d], .int .i64 t] => some (some (nle n 900000), .tup [.own 3 (lenI (lateL a d t)) [.int .i64 (lateL a d t)], .own 172 (lateN n a d t) [.int .i64 (lateA a d t), .int .i64 (lateI a d t)]])
 | _ => none
theorem vc_late (n : Nat) (a d : List Int) (t : Int) (r : AV) : VC Tryz.prog (tabS tabD1) (oneL 95 Llate) true 95 [.sl n [.int .i64 a, .int .i64 d], .int .i64 t] r = (
 asrt (nle n 1000000) (br (bnot (dueOk a d)) (asrt (nle n 1000000) (some (AV.tup [AV.own 3 0 [.int .i64 []], AV.own 172 n [.int .i64 a, .int .i64 d]]) = some r)) (asrt (nle n
 1000000) (asrt (band (nle n 1000000) (band (ieq (ofN n) (ofN n)) (ile 0 (ofN n)))) (asrt (nle (lenI (lvK a d t 0 (byK [] d 0))) 1000000) (some (AV.tup [AV.own 3 (lenI (lvL a d t 0
 [])) [.int .i64 (lvL a d t 0 [])], AV.own 172 (lenI (lvK a d t 0 (byK [] d 0))) [.int .i64 (dA (lvC a d t 0 (byK [] d 0) (byC [] d [] a 0)) (lvC a d t 0 (byK [] d 0) (byC [] d [] d
 0))), .int .i64 (dI (lvC a d t 0 (byK [] d 0) (byC [] d [] a 0)) (lvC a d t 0 (byK [] d 0) (byC [] d [] d 0)))]]) = some r)))))) := by kernel_rfl
theorem ok_late : PureOK Tryz.prog 95 Flate := by
 refine tab_loops mixed (l := tabD1) ok_tabD1 true Llate (by kernel_rfl) ok_Llate fun xs b r h hb wf => ?_
 unfold Flate at h
 split at h
 ·rename_i n a d t
  cases h
  try rw [some_f] at hb
  try simp only [WFL, WF, List.mem_cons, List.not_mem_nil, or_false, forall_eq_or_imp, forall_eq, Col.len, and_true, true_and] at wf
  rw [vc_late]
  obtain ⟨wa, wd⟩ : a.length = n ∧ d.length = n := by simpa using wf
  have k2 := byK_le (d := d) (ks := []) (i := 0)
  have k4 := lvK_le (a := a) (d := d) (t := t) (K := byK [] d 0) (i := 0)
  have k3 : lenI ([] : List Int) = 0 := rfl
  simp only [nle_t] at hb
  have q1 : nle n 1000000 = true := by rw [nle_t]; omega
  have q2 : nle (lenI (lvK a d t 0 (byK [] d 0))) 1000000 = true := by rw [nle_t]; omega
  have q3 : band (nle n 1000000) (band (ieq (ofN n) (ofN n)) (ile 0 (ofN n))) = true := by simp only [band_t, nle_t, ieq_t, ile_t, ofN_e, true_and]; omega
  unfold lateL lateN lateA lateI
  rw [q3, q1, q2]
  cases dueOk a d <;> rfl
 ·cases h
end Go.Own
end
