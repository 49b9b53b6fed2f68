/- Dues of a map, in order; one is put, dropped; who is late; the first one. -/
import Derived.Test.YtmilniofdpgbnaaDueC
namespace Go.Own
open Go Go.Proofs
set_option maxRecDepth 100000
set_option linter.unusedVariables false
set_option linter.unusedSimpArgs false

def Lpush : List (FuncId × Nat × LoopS) := [(58, 0, .frame spec_up.framed)]

theorem ok_Lpush : ∀ p ∈ Lpush, LoopHyp Try.prog p.1 p.2.1 p.2.2 := by
  intro p hp
  simp only [Lpush, List.mem_cons, List.not_mem_nil, or_false] at hp
  rcases hp with rfl
  · exact ⟨by kernel_rfl, loop_up⟩


theorem coll_step {a d a1 d1 A I a' d' : List Int} {left : List Nat} {i : Nat} (hlen : d.length = a.length) (hn : left.Nodup) (hi : i ∈ left) (hp : permD (a ++ [A.getD i 0]) (d ++ [I.getD i 0]) a1 d1) (hc : collD a1 d1 A I (nDel left i) a' d') : collD a d A I left a' d' := by
  obtain ⟨p1, p2, p3⟩ := hp
  obtain ⟨c1, c2, c3⟩ := hc
  have he : nDel left i = left.erase i := by
    unfold nDel
    rw [hn.erase_eq_filter]
  have hl : left.length = (left.erase i).length + 1 := by
    rw [List.length_erase_of_mem hi]
    have := List.length_pos_of_mem hi
    omega
  rw [he] at c1 c2 c3
  refine ⟨by rw [c1, p1]; simp; omega, by rw [c2, p2]; simp; omega, c3.trans ?_⟩
  rw [List.zip_append hlen.symm] at p3
  refine (p3.append_right _).trans ?_
  rw [List.append_assoc]
  refine List.Perm.append_left _ ?_
  show ((A.getD i 0, I.getD i 0) :: (left.erase i).map fun i => (A.getD i 0, I.getD i 0)).Perm _
  exact ((List.perm_cons_erase hi).map (fun i => (A.getD i 0, I.getD i 0))).symm

theorem range_zip {A I : List Int} (h : I.length = A.length) : ((List.range A.length).map fun i => (A.getD i 0, I.getD i 0)) = A.zip I := by
  apply List.ext_getElem?
  intro k
  by_cases hk : k < A.length
  · rw [List.getElem?_map, List.getElem?_range hk, el_zip hk h]
    rfl
  · rw [List.getElem?_eq_none (by simp; omega), List.getElem?_eq_none (by simp; omega)]

theorem hp_half {a d : List Int} {n : Nat} : hpFrom a d (n / 2) n := by
  intro k h0 hk hb
  omega

def spec_told : LoopSpec := { n := 22, keep := [3, 9], srcs := [.tmp 3, .cell 0 0, .tmp 9], keepE := [3], srcsE := [.tmp 3, .cell 0 0], goes := fun vals objs Q => match vals, objs with
  | [.ptr 0 0 0, .it 2], [some (.var [.full 1]), some (.row 43 m [.int .i64 a, .int .i64 d]), some (.iter ks [.int .i64 A, .int .i64 I] false left cur)] => asrt (nle (nAdd m (nLen left)) 1000000) (∀ a' d' : List Int, collD a d A I left a' d' → Q (.exit 0) [.ptr 0 0 0] [some (.var [.full 1]), some (.row 43 (lenI a') [.int .i64 a', .int .i64 d'])])
  | _, _ => False }

theorem lp_told (m : Nat) (a d : List Int) (ks A I : List Int) (left : List Nat) (cur : Option Nat) (mu : List AV → Heap → Nat) (Q : Ex → List AV → Heap → Prop) : runCode Try.prog (tabS tabD0) (callN Try.prog (tabS tabD0) (tabL Lpush) 11) (fun _ => none) (bodyOf Try.prog 48 0) 0 ⟨mkT (spec_told).keep [.ptr 0 0 0, .it 2] (spec_told).n 0, [some (.var [.full 1]), some (.row 43 m [.int .i64 a, .int .i64 d]), some (.iter ks [.int .i64 A, .int .i64 I] false left cur)]⟩ ((spec_told).ends mu [.ptr 0 0 0, .it 2] ([some (.var [.full 1]), some (.row 43 m [.int .i64 a, .int .i64 d]), some (.iter ks [.int .i64 A, .int .i64 I] false left cur)]) Q) = (
  br (nNil left)
    (Q (Ex.exit 0) [AV.ptr 0 0 0]
      [some (AObj.var [AV.full 1]), some (AObj.row 43 m [Col.int IntKind.i64 a, Col.int IntKind.i64 d])])
    (∀ (i : Nat),
      nIn i left = true →
        asrt (nle (nAdd m 1) 8796093022208)
          (asrt
            (band (nle (nAdd m 1) 1000000)
              (band (ile 0 (isub IntKind.i64 (ofN (nAdd m 1)) 1))
                (ilt (isub IntKind.i64 (ofN (nAdd m 1)) 1) (ofN (nAdd m 1)))))
            (∀ (a' i' : List Int),
              permD (cat a [gI A i]) (cat d [gI I i]) a' i' →
                (mu [AV.ptr 0 0 0, AV.it 2]
                          [some (AObj.var [AV.full 1]),
                            some (AObj.row 43 (nAdd m 1) [Col.int IntKind.i64 a', Col.int IntKind.i64 i']),
                            some
                              (AObj.iter ks [Col.int IntKind.i64 A, Col.int IntKind.i64 I] false (nDel left i)
                                (some i))]).succ.le
                    (mu [AV.ptr 0 0 0, AV.it 2]
                      [some (AObj.var [AV.full 1]), some (AObj.row 43 m [Col.int IntKind.i64 a, Col.int IntKind.i64 d]),
                        some (AObj.iter ks [Col.int IntKind.i64 A, Col.int IntKind.i64 I] false left cur)]) ∧
                  asrt (nle (nAdd (nAdd m 1) (nLen (nDel left i))) 1000000)
                    (∀ (a'_1 d' : List Int),
                      collD a' i' A I (nDel left i) a'_1 d' →
                        Q (Ex.exit 0) [AV.ptr 0 0 0]
                          [some (AObj.var [AV.full 1]),
                            some (AObj.row 43 (lenI a'_1) [Col.int IntKind.i64 a'_1, Col.int IntKind.i64 d'])]))))) := by kernel_rfl

theorem loop_told : LoopOK Try.prog (bodyOf Try.prog 48 0) spec_told.summ := by
  refine tab_loopV mixed (l := tabD0) ok_tabD0 (ll := Lpush) ok_Lpush (i := 0) spec_told (fun vals objs => match vals, objs with
    | [.ptr 0 0 0, .it 2], [some (.var [.full 1]), some (.row 43 m [.int .i64 a, .int .i64 d]), some (.iter ks [.int .i64 A, .int .i64 I] false left cur)] => nLen left
    | _, _ => 0) fun vals objs Q h1 h2 wf wo hg => ?_
  unfold spec_told at hg
  simp only at hg
  split at hg
  · rename_i m a d ks A I left cur
    clear h1 h2
    try simp only [WFL, WF, List.mem_cons, List.not_mem_nil, or_false, forall_eq_or_imp, forall_eq, Col.len, and_true, true_and] at wf
    rw [lp_told]
    obtain ⟨wa, wd⟩ : a.length = m ∧ d.length = m := by simpa [WFO, Col.len] using wo (some (.row 43 m [.int .i64 a, .int .i64 d])) (by simp) _ rfl
    have wi : (∀ col ∈ [Col.int .i64 A, Col.int .i64 I], col.len = ks.length) ∧ ks.Nodup ∧ left.Nodup ∧ ∀ i ∈ left, i < ks.length := wo (some (.iter ks [.int .i64 A, .int .i64 I] false left cur)) (by simp) _ rfl
    obtain ⟨_, _, hnd, _⟩ := wi
    simp only [asrt_iff, nle_t, nAdd_e] at hg
    obtain ⟨hm, hg⟩ := hg
    rw [br_iff]
    refine ⟨fun h => ?_, fun h i hi => ?_⟩
    · have hl : left = [] := by simpa [nNil] using h
      subst hl
      have := hg a d ⟨rfl, rfl, by simp⟩
      rw [lenI_e, wa] at this
      exact this
    · have hi' : i ∈ left := by simpa [nIn] using hi
      have hlen : (nDel left i).length + 1 = left.length := by
        unfold nDel
        rw [← hnd.erase_eq_filter, List.length_erase_of_mem hi']
        have := List.length_pos_of_mem hi'
        omega
      unfold nLen at hm
      have w : isub .i64 (ofN (nAdd m 1)) 1 = (m : Int) := by
        rw [isub_e, ofN_e, nAdd_e, wr (by omega) (by omega)]
        omega
      simp only [asrt_iff, w]
      refine ⟨by simp [asrt_iff, br_iff, ieq_t, ieq_f, ine_t, ine_f, ilt_t, ilt_f, ile_t, ile_f, igt_t, igt_f, ige_t, ige_f, nlt_t, nlt_f, nle_t, nle_f, neq_t, neq_f, beq2_t, beq2_f, bnot_t, bnot_f, band_t, band_f, bite_t, bite_f, bimp_t, bimp_f, iadd_e, isub_e, imul_e, ofN_e, nOf_e, nAdd_e, nDiff_e, room_e, lenI_e, gI_e, gB_e, imin_e, imax_e, cat_e, pt_e, put_e, some_f]; omega, by simp [asrt_iff, br_iff, ieq_t, ieq_f, ine_t, ine_f, ilt_t, ilt_f, ile_t, ile_f, igt_t, igt_f, ige_t, ige_f, nlt_t, nlt_f, nle_t, nle_f, neq_t, neq_f, beq2_t, beq2_f, bnot_t, bnot_f, band_t, band_f, bite_t, bite_f, bimp_t, bimp_f, iadd_e, isub_e, imul_e, ofN_e, nOf_e, nAdd_e, nDiff_e, room_e, lenI_e, gI_e, gB_e, imin_e, imax_e, cat_e, pt_e, put_e, some_f]; omega, fun a1 d1 hp => ⟨?_, ?_, fun a' d' hc => hg a' d' (coll_step (by omega) hnd hi' hp hc)⟩⟩
      · show (nLen (nDel left i)).succ ≤ nLen left
        unfold nLen
        omega
      · unfold nLen
        simp [asrt_iff, br_iff, ieq_t, ieq_f, ine_t, ine_f, ilt_t, ilt_f, ile_t, ile_f, igt_t, igt_f, ige_t, ige_f, nlt_t, nlt_f, nle_t, nle_f, neq_t, neq_f, beq2_t, beq2_f, bnot_t, bnot_f, band_t, band_f, bite_t, bite_f, bimp_t, bimp_f, iadd_e, isub_e, imul_e, ofN_e, nOf_e, nAdd_e, nDiff_e, room_e, lenI_e, gI_e, gB_e, imin_e, imax_e, cat_e, pt_e, put_e, some_f]
        omega
  · exact hg.elim


def Ltold : List (FuncId × Nat × LoopS) := [(48, 0, .summ spec_told.summ), (58, 0, .frame spec_up.framed), (59, 0, .frame spec_init.framed), (61, 0, .frame spec_down.framed), (57, 0, .frame spec_sorted.framed)]

theorem ok_Ltold : ∀ p ∈ Ltold, LoopHyp Try.prog p.1 p.2.1 p.2.2 := by
  intro p hp
  simp only [Ltold, List.mem_cons, List.not_mem_nil, or_false] at hp
  rcases hp with rfl | rfl | rfl | rfl | rfl
  · exact ⟨by kernel_rfl, loop_told⟩
  · exact ⟨by kernel_rfl, loop_up⟩
  · exact ⟨by kernel_rfl, loop_init⟩
  · exact ⟨by kernel_rfl, loop_down⟩
  · exact ⟨by kernel_rfl, loop_sorted⟩


def Ftold : Pure1 := fun
  | [.mapv ks [.int .i64 A, .int .i64 I] false] => some (some (nle (lenI ks) 1000000), .own 43 (lenI ks) [.int .i64 (dA A I), .int .i64 (dI A I)])
  | _ => none

theorem vc_told (ks A I : List Int) (r : AV) : VC Try.prog (tabS tabD0) (tabL Ltold) true 48 [.mapv ks [.int .i64 A, .int .i64 I] false] r = (
  asrt (nle (nAdd 0 (nLen (nUp (lenI ks)))) 1000000)
    (∀ (a' d' : List Int),
      collD [] [] A I (nUp (lenI ks)) a' d' →
        asrt
          (band (nle (lenI a') 1000000)
            (band (ieq (ofN (lenI a')) (ofN (lenI a')))
              (band (ile (-1) (isub IntKind.i64 (iquo IntKind.i64 (ofN (lenI a')) 2) 1))
                (ile (isub IntKind.i64 (iquo IntKind.i64 (ofN (lenI a')) 2) 1) (ofN (lenI a'))))))
          (∀ (a'_1 d'_1 : List Int),
            initD a' d' (isub IntKind.i64 (iquo IntKind.i64 (ofN (lenI a')) 2) 1) (lenI a') a'_1 d'_1 →
              asrt (band (nle (lenI a') 1000000) (band (nle (lenI a') (lenI a')) (nle (nAdd 0 (lenI a')) 1000000)))
                (br (neq (lenI a') 0) (some (AV.own 43 0 [Col.int IntKind.i64 [], Col.int IntKind.i64 []]) = some r)
                  (∀ (a'_2 d' oa' od' : List Int),
                    sortD a'_1 d'_1 (lenI a') [] [] oa' od' →
                      some (AV.own 43 (lenI oa') [Col.int IntKind.i64 oa', Col.int IntKind.i64 od']) = some r))))) := by kernel_rfl

theorem ok_told : PureOK Try.prog 48 Ftold := by
  refine tab_many mixed (l := tabD0) ok_tabD0 (ll := Ltold) ok_Ltold true (by kernel_rfl) fun xs b r h hb wf => ?_
  unfold Ftold at h
  split at h
  · rename_i ks A I
    cases h
    try rw [some_f] at hb
    try simp only [WFL, WF, List.mem_cons, List.not_mem_nil, or_false, forall_eq_or_imp, forall_eq, Col.len, and_true, true_and] at wf
    rw [vc_told]
    obtain ⟨⟨wA, wI⟩, _⟩ := wf
    simp only [nle_t, lenI_e] at hb
    have hup : nLen (nUp (lenI ks)) = ks.length := by simp [nLen, nUp, lenI_e]
    simp only [asrt_iff, hup]
    refine ⟨by simp [asrt_iff, br_iff, ieq_t, ieq_f, ine_t, ine_f, ilt_t, ilt_f, ile_t, ile_f, igt_t, igt_f, ige_t, ige_f, nlt_t, nlt_f, nle_t, nle_f, neq_t, neq_f, beq2_t, beq2_f, bnot_t, bnot_f, band_t, band_f, bite_t, bite_f, bimp_t, bimp_f, iadd_e, isub_e, imul_e, ofN_e, nOf_e, nAdd_e, nDiff_e, room_e, lenI_e, gI_e, gB_e, imin_e, imax_e, cat_e, pt_e, put_e, some_f]; omega, fun a1 d1 hc => ?_⟩
    obtain ⟨c1, c2, c3⟩ := hc
    have hn : a1.length = ks.length := by rw [c1]; simp [nUp, lenI_e]
    have hn2 : d1.length = ks.length := by rw [c2]; simp [nUp, lenI_e]
    have hzip : (a1.zip d1).Perm (A.zip I) := by
      have e : nUp (lenI ks) = List.range A.length := by rw [nUp, lenI_e, wA]
      rw [e, range_zip (by omega)] at c3
      simpa using c3
    have w : isub .i64 (iquo .i64 (ofN (lenI a1)) 2) 1 = ((ks.length / 2 : Nat) : Int) - 1 := by
      unfold iquo
      rw [ofN_e, lenI_e, hn, Int.tdiv_eq_ediv_of_nonneg (by omega), wr (a := (ks.length : Int) / 2) (by omega) (by omega), isub_e, wr (by omega) (by omega)]
      omega
    rw [w, lenI_e, hn]
    refine ⟨by simp [asrt_iff, br_iff, ieq_t, ieq_f, ine_t, ine_f, ilt_t, ilt_f, ile_t, ile_f, igt_t, igt_f, ige_t, ige_f, nlt_t, nlt_f, nle_t, nle_f, neq_t, neq_f, beq2_t, beq2_f, bnot_t, bnot_f, band_t, band_f, bite_t, bite_f, bimp_t, bimp_f, iadd_e, isub_e, imul_e, ofN_e, nOf_e, nAdd_e, nDiff_e, room_e, lenI_e, gI_e, gB_e, imin_e, imax_e, cat_e, pt_e, put_e, some_f]; omega, fun a2 d2 hi => ?_⟩
    refine ⟨by simp [asrt_iff, br_iff, ieq_t, ieq_f, ine_t, ine_f, ilt_t, ilt_f, ile_t, ile_f, igt_t, igt_f, ige_t, ige_f, nlt_t, nlt_f, nle_t, nle_f, neq_t, neq_f, beq2_t, beq2_f, bnot_t, bnot_f, band_t, band_f, bite_t, bite_f, bimp_t, bimp_f, iadd_e, isub_e, imul_e, ofN_e, nOf_e, nAdd_e, nDiff_e, room_e, lenI_e, gI_e, gB_e, imin_e, imax_e, cat_e, pt_e, put_e, some_f]; omega, ?_⟩
    rw [br_iff]
    refine ⟨fun h0 => ?_, fun h0 a3 d3 oa od hs => ?_⟩
    · have h0 : ks.length = 0 := by simpa [asrt_iff, br_iff, ieq_t, ieq_f, ine_t, ine_f, ilt_t, ilt_f, ile_t, ile_f, igt_t, igt_f, ige_t, ige_f, nlt_t, nlt_f, nle_t, nle_f, neq_t, neq_f, beq2_t, beq2_f, bnot_t, bnot_f, band_t, band_f, bite_t, bite_f, bimp_t, bimp_f, iadd_e, isub_e, imul_e, ofN_e, nOf_e, nAdd_e, nDiff_e, room_e, lenI_e, gI_e, gB_e, imin_e, imax_e, cat_e, pt_e, put_e, some_f] using h0
      have e1 : A = [] := List.eq_nil_of_length_eq_zero (by omega)
      have e2 : I = [] := List.eq_nil_of_length_eq_zero (by omega)
      subst e1 e2
      rw [lenI_e, h0]
      rfl
    · obtain ⟨i1, i2⟩ := hi
      obtain ⟨s1, s2, s3⟩ := hs
      have hh : hpFrom a2 d2 0 ks.length := by
        refine i2 ?_
        have e : (((ks.length / 2 : Nat) : Int) - 1 + 1).toNat = ks.length / 2 := by omega
        rw [e]
        exact hp_half
      obtain ⟨S, t1, t2, t3⟩ := s3 hh
      simp only [List.length_nil, Nat.zero_add] at s1 s2
      have hl2 : (a2.zip d2).length = ks.length := by
        have := i1.1
        have := i1.2.1
        simp
        omega
      rw [List.take_of_length_le (by omega)] at t2
      have hS : srt (A.zip I) = S := srt_of t3 ((t2.trans i1.2.2).trans hzip)
      simp only [List.zip_nil_left, List.nil_append] at t1
      have hA : dA A I = oa := by
        unfold dA
        rw [hS, ← t1]
        exact List.map_fst_zip (by omega)
      have hI : dI A I = od := by
        unfold dI
        rw [hS, ← t1]
        exact List.map_snd_zip (by omega)
      rw [hA, hI, lenI_e, lenI_e, s1]
  · cases h


end Go.Own
