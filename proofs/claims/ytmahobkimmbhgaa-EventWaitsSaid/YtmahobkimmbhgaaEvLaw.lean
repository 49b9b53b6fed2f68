/- The laws of events. -/
import Derived.Test.YtmahobkimmbhgaaEvent
namespace Go.Own
open Go Go.Proofs
set_option maxRecDepth 100000
set_option linter.unusedVariables false
set_option linter.unusedSimpArgs false

def tabE4 : List (FuncId × Pure1) := [(11, Fprepare), (12, Fcommit), (17, Fcancel), (13, Fnotify), (14, FnotifyAll)] ++ tabE1

theorem ok_tabE4 : ∀ p ∈ tabE4, PureOK Try.prog p.1 p.2 := by
  intro p hp
  simp only [tabE4, List.mem_append, List.mem_cons, List.not_mem_nil, or_false] at hp
  rcases hp with (rfl | rfl | rfl | rfl | rfl) | hp
  · exact ok_prepare
  · exact ok_commit
  · exact ok_cancel
  · exact ok_notify
  · exact ok_notifyAll
  · exact ok_tabE1 p hp


def Fawake : Pure1 := fun
  | [] => some (none, .bool true)
  | _ => none

theorem ok_awake : PureOK Try.prog 9 Fawake := by
  refine tab_plain mixed (l := tabE4) ok_tabE4 false (by kernel_rfl) fun xs b r h hb wf => ?_
  unfold Fawake at h
  split at h
  · cases h
    have e : VC Try.prog (tabS tabE4) noL false 9 [] (.bool true) = (some (AV.bool true) = some (AV.bool true)) := by kernel_rfl
    rw [e]
  · cases h

def tabE5 : List (FuncId × Pure1) := [(9, Fawake)] ++ tabE4

theorem ok_tabE5 : ∀ p ∈ tabE5, PureOK Try.prog p.1 p.2 := by
  intro p hp
  simp only [tabE5, List.mem_append, List.mem_cons, List.not_mem_nil, or_false] at hp
  rcases hp with (rfl) | hp
  · exact ok_awake
  · exact ok_tabE4 p hp


theorem enterOk_iff (l : List Int) (id : Int) : enterOk l id = true ↔ lineOk l = true ∧ badId id = false ∧ id ∉ l := by
  simp [enterOk, and_assoc]

theorem lineOk_nil : lineOk [] = true := by rw [lineOk_iff]; simp

theorem lineOk_tail {l : List Int} (h : lineOk l = true) : lineOk l.tail = true := by
  rw [lineOk_iff] at h ⊢
  cases l with
  | nil => simp
  | cons x l => exact ⟨fun y hy => h.1 y (by simp at hy; simp [hy]), (List.nodup_cons.1 h.2).2⟩

theorem lineOk_snoc {l : List Int} {id : Int} (h : enterOk l id = true) : lineOk (l ++ [id]) = true := by
  obtain ⟨h1, h2, h3⟩ := (enterOk_iff l id).1 h
  rw [lineOk_iff] at h1 ⊢
  have hb : 0 ≤ id ∧ id < 16 := by simp [badId, ilt, ige] at h2; omega
  refine ⟨fun x hx => ?_, ?_⟩
  · rcases List.mem_append.1 hx with h | h
    · exact h1.1 x h
    · simp at h; subst h; exact hb
  · rw [List.nodup_append]
    refine ⟨h1.2, by simp, fun a ha b hb => ?_⟩
    simp at hb
    subst hb
    rintro rfl
    exact h3 ha

theorem place_snoc {l : List Int} {id : Int} (h : enterOk l id = true) : placeAt (l ++ [id]) id = l.length := by
  obtain ⟨h1, h2, h3⟩ := (enterOk_iff l id).1 h
  unfold placeAt
  rw [lineOk_snoc h, if_pos rfl]
  rcases idxAt_cases (l ++ [id]) id with ⟨_, h4⟩ | ⟨j, hj, h4, h5, h6⟩
  · exact absurd (by simp) h4
  · rw [h4]
    simp at hj
    by_cases hlt : j < l.length
    · rw [List.getElem_append_left hlt] at h5
      exact absurd (h5 ▸ List.getElem_mem hlt) h3
    · have : j = l.length := by omega
      rw [this]

theorem erase_snoc {l : List Int} {id : Int} (h : enterOk l id = true) : (l ++ [id]).eraseIdx (placeAt (l ++ [id]) id).toNat = l := by
  rw [place_snoc h, Int.toNat_natCast, List.eraseIdx_append_of_length_le (Nat.le_refl _)]
  simp

theorem evOk_of {ep : Int} {l : List Int} (h0 : 0 ≤ ep) (h1 : ep ≤ 1099511627776) (h : lineOk l = true) : evOk ep l = true := by
  simp [evOk, h0, h1, h]

def FLEventSeen : Pure1 := fun
  | [.agg [.int .i64 ep, .sl n [.int .i64 l]], .int .i64 id, .bool all] => some (none, .bool true)
  | _ => none

theorem vc_LEventSeen (ep : Int) (n : Nat) (l : List Int) (id : Int) (all : Bool) (r : AV) : VC Try.prog (tabS tabE5) noL false 3 [.agg [.int .i64 ep, .sl n [.int .i64 l]], .int .i64 id, .bool all] r = (
  asrt (bimp (bnot (igt (ofN n) 100)) (nle n 1073741824))
    (br (bite (bite (igt (ofN n) 100) true (bnot (evOk ep l))) true (ieq ep 1099511627776))
      (some (AV.bool true) = some r)
      (asrt (nle n 1073741824)
        (asrt (nlt n 1073741824)
          (asrt (nle n 1073741824)
            (br all
              (asrt (nle n 1073741824)
                (asrt (nlt (lenI (allL ep l)) 1073741824)
                  (asrt
                    (bimp
                      (band (bite true (beq2 (commitB ep l (prepE ep l) id) (ieq (commitE ep l id) 0)) false)
                        (bnot (bnot (commitB ep l (prepE ep l) id))))
                      (nle (lenI (commitL ep l (prepE ep l) id)) 1073741824))
                    (some
                        (AV.bool
                          (bite
                            (bite
                              (bite (bite true (beq2 (commitB ep l (prepE ep l) id) (ieq (commitE ep l id) 0)) false)
                                (bite (bnot (commitB ep l (prepE ep l) id)) true
                                  (ieq (placeAt (commitL ep l (prepE ep l) id) id) (ofN n)))
                                false)
                              (bnot (commitB (comeE ep l) (allL ep l) (prepE ep l) id)) false)
                            (bite (ine (commitE ep l id) 0) true (ieq (commitE (comeE ep l) (allL ep l) id) 0))
                            false)) =
                      some r))))
              (asrt (nlt (lenI (oneL1 ep l)) 1073741824)
                (asrt
                  (bimp
                    (band (bite true (beq2 (commitB ep l (prepE ep l) id) (ieq (commitE ep l id) 0)) false)
                      (bnot (bnot (commitB ep l (prepE ep l) id))))
                    (nle (lenI (commitL ep l (prepE ep l) id)) 1073741824))
                  (some
                      (AV.bool
                        (bite
                          (bite
                            (bite (bite true (beq2 (commitB ep l (prepE ep l) id) (ieq (commitE ep l id) 0)) false)
                              (bite (bnot (commitB ep l (prepE ep l) id)) true
                                (ieq (placeAt (commitL ep l (prepE ep l) id) id) (ofN n)))
                              false)
                            (bnot (commitB (comeE ep l) (oneL1 ep l) (prepE ep l) id)) false)
                          (bite (ine (commitE ep l id) 0) true (ieq (commitE (comeE ep l) (oneL1 ep l) id) 0)) false)) =
                    some r))))))))) := by kernel_rfl

theorem ok_LEventSeen : PureOK Try.prog 3 FLEventSeen := by
  refine tab_plain mixed (l := tabE5) ok_tabE5 false (by kernel_rfl) fun xs b r h hb wf => ?_
  unfold FLEventSeen at h
  split at h
  · rename_i ep n l id all
    cases h
    try rw [some_f] at hb
    try simp only [WFL, WF, List.mem_cons, List.not_mem_nil, or_false, forall_eq, Col.len, and_true, true_and] at wf
    rw [vc_LEventSeen]
    by_cases hn : n ≤ 100
    · have b1 : n ≤ 1073741824 := by omega
      have b2 : n < 1073741824 := by omega
      have b3 : ¬ (100 : Int) < (n : Int) := by omega
      have b0 : (n : Int) ≤ 100 := by omega
      cases hk : evOk ep l with
      | false => simp [asrt_iff, br_iff, ieq_t, ieq_f, ine_t, ine_f, ilt_t, ilt_f, ile_t, ile_f, igt_t, igt_f, ige_t, ige_f, nlt_t, nlt_f, nle_t, nle_f, neq_t, neq_f, beq2_t, beq2_f, bnot_t, bnot_f, band_t, band_f, bite_t, bite_f, bimp_t, bimp_f, iadd_e, isub_e, imul_e, ofN_e, nOf_e, nAdd_e, nDiff_e, room_e, lenI_e, gI_e, gB_e, imin_e, imax_e, cat_e, pt_e, put_e, some_f, hk, b1, b3, b0]
      | true =>
        obtain ⟨hl, h0, h1⟩ := evOk_line hk
        by_cases he : ep = 1099511627776
        · simp [asrt_iff, br_iff, ieq_t, ieq_f, ine_t, ine_f, ilt_t, ilt_f, ile_t, ile_f, igt_t, igt_f, ige_t, ige_f, nlt_t, nlt_f, nle_t, nle_f, neq_t, neq_f, beq2_t, beq2_f, bnot_t, bnot_f, band_t, band_f, bite_t, bite_f, bimp_t, bimp_f, iadd_e, isub_e, imul_e, ofN_e, nOf_e, nAdd_e, nDiff_e, room_e, lenI_e, gI_e, gB_e, imin_e, imax_e, cat_e, pt_e, put_e, some_f, hk, he, b1, b3, b0]
        · have p1 : prepE ep l = ep := by simp [prepE, hk]
          have c1 : commitB ep l ep id = enterOk l id := by simp [commitB, hk]
          have c2 : comeE ep l = ep + 1 := by simp only [comeE, hk, if_true, imin_e]; omega
          have c3 : ∀ m, commitB (ep + 1) m ep id = false := by intro m; simp [commitB]; intros; omega
          have c4 : commitE ep l id = enterE l id := by simp [commitE, hk]
          have a1 : allL ep l = [] := by simp [allL, hk]
          have a2 : oneL1 ep l = l.tail := by simp [oneL1, hk]
          have a3 : (l.tail).length < 1073741824 := by simp; omega
          have hz := enterE_zero l id
          cases ho : enterOk l id with
          | false =>
            have z1 : ¬ enterE l id = 0 := fun h => by rw [hz.1 h] at ho; cases ho
            have cl : commitL ep l ep id = l := by simp [commitL, c1, ho]
            simp [asrt_iff, br_iff, ieq_t, ieq_f, ine_t, ine_f, ilt_t, ilt_f, ile_t, ile_f, igt_t, igt_f, ige_t, ige_f, nlt_t, nlt_f, nle_t, nle_f, neq_t, neq_f, beq2_t, beq2_f, bnot_t, bnot_f, band_t, band_f, bite_t, bite_f, bimp_t, bimp_f, iadd_e, isub_e, imul_e, ofN_e, nOf_e, nAdd_e, nDiff_e, room_e, lenI_e, gI_e, gB_e, imin_e, imax_e, cat_e, pt_e, put_e, some_f, hk, he, b1, b2, b3, b0, p1, c1, c2, c3, c4, a1, a2, ho, z1, cl]
            omega
          | true =>
            obtain ⟨g1, g2, g3⟩ := (enterOk_iff l id).1 ho
            have z1 : enterE l id = 0 := hz.2 ho
            have cl : commitL ep l ep id = l ++ [id] := by simp [commitL, c1, ho]
            have d1 : commitE (ep + 1) [] id = 0 := by
              unfold commitE
              rw [evOk_of (by omega) (by omega) lineOk_nil, if_pos rfl, enterE_zero, enterOk_iff]
              exact ⟨lineOk_nil, g2, by simp⟩
            have d2 : commitE (ep + 1) l.tail id = 0 := by
              unfold commitE
              rw [evOk_of (by omega) (by omega) (lineOk_tail hl), if_pos rfl, enterE_zero, enterOk_iff]
              exact ⟨lineOk_tail hl, g2, fun h => g3 (List.mem_of_mem_tail h)⟩
            have e1 := place_snoc ho
            simp [asrt_iff, br_iff, ieq_t, ieq_f, ine_t, ine_f, ilt_t, ilt_f, ile_t, ile_f, igt_t, igt_f, ige_t, ige_f, nlt_t, nlt_f, nle_t, nle_f, neq_t, neq_f, beq2_t, beq2_f, bnot_t, bnot_f, band_t, band_f, bite_t, bite_f, bimp_t, bimp_f, iadd_e, isub_e, imul_e, ofN_e, nOf_e, nAdd_e, nDiff_e, room_e, lenI_e, gI_e, gB_e, imin_e, imax_e, cat_e, pt_e, put_e, some_f, hk, he, b1, b2, b3, b0, p1, c1, c2, c3, c4, a1, a2, ho, z1, cl, d1, d2, e1]
            omega
    · have b3 : (100 : Int) < (n : Int) := by omega
      have b0 : ¬ (n : Int) ≤ 100 := by omega
      simp [asrt_iff, br_iff, ieq_t, ieq_f, ine_t, ine_f, ilt_t, ilt_f, ile_t, ile_f, igt_t, igt_f, ige_t, ige_f, nlt_t, nlt_f, nle_t, nle_f, neq_t, neq_f, beq2_t, beq2_f, bnot_t, bnot_f, band_t, band_f, bite_t, bite_f, bimp_t, bimp_f, iadd_e, isub_e, imul_e, ofN_e, nOf_e, nAdd_e, nDiff_e, room_e, lenI_e, gI_e, gB_e, imin_e, imax_e, cat_e, pt_e, put_e, some_f, b3, b0]
  · cases h


theorem law_EventSeen (a0 : Int × List Int) (a1 : Int) (a2 : Bool) (_ : ((Lit.int .i64 a0.1).wf = true ∧ a0.2.length ≤ maxLen ∧ ∀ x ∈ a0.2, (Lit.int .i64 x).wf = true)) (_ : (Lit.int .i64 a1).wf = true) (_ : True) : ∃ b, FLEventSeen [.agg [.int .i64 a0.1, .sl a0.2.length [.int .i64 a0.2]], .int .i64 a1, .bool a2] = some (b, .bool true) ∧ b ≠ some false := ⟨none, rfl, by simp⟩

end Go.Own
