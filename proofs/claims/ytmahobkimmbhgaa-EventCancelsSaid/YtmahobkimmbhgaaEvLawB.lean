/- A law of events. -/
import Derived.Test.YtmahobkimmbhgaaEvLaw
namespace Go.Own
open Go Go.Proofs
set_option maxRecDepth 100000
set_option linter.unusedVariables false
set_option linter.unusedSimpArgs false

def FLEventCancels : Pure1 := fun
  | [.agg [.int .i64 ep, .sl n [.int .i64 l]], .int .i64 id] => some (none, .bool true)
  | _ => none

theorem vc_LEventCancels (ep : Int) (n : Nat) (l : List Int) (id : Int) (r : AV) : VC Try.prog (tabS tabE5) noL false 5 [.agg [.int .i64 ep, .sl n [.int .i64 l]], .int .i64 id] r = (
  asrt (bimp (bnot (igt (ofN n) 100)) (nle n 1073741824))
    (br (bite (igt (ofN n) 100) true (bnot (evOk ep l))) (some (AV.bool true) = some r)
      (asrt (nle n 1073741824)
        (asrt (nlt n 1073741824)
          (asrt (nle (lenI (commitL ep l (prepE ep l) id)) 1073741824)
            (asrt (nle (lenI (commitL ep l (prepE ep l) id)) 1073741824)
              (asrt (nle (lenI (commitL ep l (prepE ep l) id)) 1073741824)
                (asrt
                  (bimp
                    (band (band true (bnot (bnot (commitB ep l (prepE ep l) id))))
                      (cancelB ep (commitL ep l (prepE ep l) id) id))
                    (nle (lenI (cancelL ep (commitL ep l (prepE ep l) id) id)) big))
                  (asrt
                    (bimp
                      (bite true
                        (bite (bnot (commitB ep l (prepE ep l) id)) true
                          (bite (cancelB ep (commitL ep l (prepE ep l) id) id)
                            (band (sameI (cancelL ep (commitL ep l (prepE ep l) id) id) l) (ieq ep ep)) false))
                        false)
                      (nle (lenI (commitL ep l (prepE ep l) id)) 1073741824))
                    (asrt
                      (bimp
                        (bite
                          (bite true
                            (bite (bnot (commitB ep l (prepE ep l) id)) true
                              (bite (cancelB ep (commitL ep l (prepE ep l) id) id)
                                (band (sameI (cancelL ep (commitL ep l (prepE ep l) id) id) l) (ieq ep ep)) false))
                            false)
                          (evOk ep (commitL ep l (prepE ep l) id)) false)
                        (nle (lenI (cancelL ep (commitL ep l (prepE ep l) id) id)) 1073741824))
                      (asrt
                        (bimp
                          (bite
                            (bite
                              (bite true
                                (bite (bnot (commitB ep l (prepE ep l) id)) true
                                  (bite (cancelB ep (commitL ep l (prepE ep l) id) id)
                                    (band (sameI (cancelL ep (commitL ep l (prepE ep l) id) id) l) (ieq ep ep)) false))
                                false)
                              (evOk ep (commitL ep l (prepE ep l) id)) false)
                            (evOk ep (cancelL ep (commitL ep l (prepE ep l) id) id)) false)
                          (nle (lenI (oneL1 ep (commitL ep l (prepE ep l) id))) 1073741824))
                        (asrt
                          (bimp
                            (bite
                              (bite
                                (bite
                                  (bite true
                                    (bite (bnot (commitB ep l (prepE ep l) id)) true
                                      (bite (cancelB ep (commitL ep l (prepE ep l) id) id)
                                        (band (sameI (cancelL ep (commitL ep l (prepE ep l) id) id) l) (ieq ep ep))
                                        false))
                                    false)
                                  (evOk ep (commitL ep l (prepE ep l) id)) false)
                                (evOk ep (cancelL ep (commitL ep l (prepE ep l) id) id)) false)
                              (evOk (comeE ep (commitL ep l (prepE ep l) id)) (oneL1 ep (commitL ep l (prepE ep l) id)))
                              false)
                            (nle (lenI (allL ep (commitL ep l (prepE ep l) id))) 1073741824))
                          (some
                              (AV.bool
                                (bite
                                  (bite
                                    (bite
                                      (bite
                                        (bite true
                                          (bite (bnot (commitB ep l (prepE ep l) id)) true
                                            (bite (cancelB ep (commitL ep l (prepE ep l) id) id)
                                              (band (sameI (cancelL ep (commitL ep l (prepE ep l) id) id) l)
                                                (ieq ep ep))
                                              false))
                                          false)
                                        (evOk ep (commitL ep l (prepE ep l) id)) false)
                                      (evOk ep (cancelL ep (commitL ep l (prepE ep l) id) id)) false)
                                    (evOk (comeE ep (commitL ep l (prepE ep l) id))
                                      (oneL1 ep (commitL ep l (prepE ep l) id)))
                                    false)
                                  (evOk (comeE ep (commitL ep l (prepE ep l) id))
                                    (allL ep (commitL ep l (prepE ep l) id)))
                                  false)) =
                            some r))))))))))))) := by kernel_rfl

theorem ok_LEventCancels : PureOK Try.prog 5 FLEventCancels := by
  refine tab_plain mixed (l := tabE5) ok_tabE5 false (by kernel_rfl) fun xs b r h hb wf => ?_
  unfold FLEventCancels at h
  split at h
  · rename_i ep n l id
    cases h
    try rw [some_f] at hb
    try simp only [WFL, WF, List.mem_cons, List.not_mem_nil, or_false, forall_eq, Col.len, and_true, true_and] at wf
    rw [vc_LEventCancels]
    by_cases hn : n ≤ 100
    · have b1 : n ≤ 1073741824 := by omega
      have b2 : n < 1073741824 := by omega
      have b3 : ¬ (100 : Int) < (n : Int) := by omega
      have b0 : (n : Int) ≤ 100 := by omega
      have b4 : n ≤ big := le_big b1
      cases hk : evOk ep l with
      | false => simp [asrt_iff, br_iff, ieq_t, ieq_f, ine_t, ine_f, ilt_t, ilt_f, ile_t, ile_f, igt_t, igt_f, ige_t, ige_f, nlt_t, nlt_f, nle_t, nle_f, neq_t, neq_f, beq2_t, beq2_f, bnot_t, bnot_f, band_t, band_f, bite_t, bite_f, bimp_t, bimp_f, iadd_e, isub_e, imul_e, ofN_e, nOf_e, nAdd_e, nDiff_e, room_e, lenI_e, gI_e, gB_e, imin_e, imax_e, cat_e, pt_e, put_e, some_f, hk, b1, b3, b0]
      | true =>
        obtain ⟨hl, h0, h1⟩ := evOk_line hk
        have p1 : prepE ep l = ep := by simp [prepE, hk]
        have c1 : commitB ep l ep id = enterOk l id := by simp [commitB, hk]
        have ce : ∀ m, evOk ep m = true → 0 ≤ comeE ep m ∧ comeE ep m ≤ 1099511627776 := by
          intro m hm
          simp [comeE, hm, imin_e]
          omega
        have fin : ∀ m : List Int, lineOk m = true → m.length ≤ 1000 → evOk ep m = true ∧ evOk (comeE ep m) (oneL1 ep m) = true ∧ evOk (comeE ep m) (allL ep m) = true ∧ (oneL1 ep m).length ≤ 1073741824 ∧ (allL ep m).length ≤ 1073741824 := by
          intro m hm hle
          have hm2 := evOk_of h0 h1 hm
          obtain ⟨k1, k2⟩ := ce m hm2
          refine ⟨hm2, ?_, ?_, ?_, ?_⟩
          · rw [oneL1, if_pos hm2]; exact evOk_of k1 k2 (lineOk_tail hm)
          · rw [allL, if_pos hm2]; exact evOk_of k1 k2 lineOk_nil
          · rw [oneL1, if_pos hm2]; simp; omega
          · rw [allL, if_pos hm2]; simp
        cases ho : enterOk l id with
        | false =>
          have cl : commitL ep l ep id = l := by simp [commitL, c1, ho]
          obtain ⟨f1, f2, f3, f4, f5⟩ := fin l hl (by omega)
          have cc : lineOk (cancelL ep l id) = true ∧ (cancelL ep l id).length ≤ 1000 := by
            unfold cancelL
            split
            · refine ⟨?_, ?_⟩
              · rw [lineOk_iff] at hl ⊢
                exact ⟨fun x hx => hl.1 x (List.mem_of_mem_eraseIdx hx), hl.2.sublist (List.eraseIdx_sublist _ _)⟩
              · have := List.length_eraseIdx_le l (placeAt l id).toNat; omega
            · exact ⟨hl, by omega⟩
          have cd := evOk_of h0 h1 cc.1
          have c5 : (cancelL ep l id).length ≤ 1073741824 := by omega
          have c6 := le_big c5
          simp [asrt_iff, br_iff, ieq_t, ieq_f, ine_t, ine_f, ilt_t, ilt_f, ile_t, ile_f, igt_t, igt_f, ige_t, ige_f, nlt_t, nlt_f, nle_t, nle_f, neq_t, neq_f, beq2_t, beq2_f, bnot_t, bnot_f, band_t, band_f, bite_t, bite_f, bimp_t, bimp_f, iadd_e, isub_e, imul_e, ofN_e, nOf_e, nAdd_e, nDiff_e, room_e, lenI_e, gI_e, gB_e, imin_e, imax_e, cat_e, pt_e, put_e, some_f, hk, b1, b2, b3, b0, b4, p1, c1, ho, cl, wf, f1, f2, f3, f4, f5, cd, c5, c6]
        | true =>
          have cl : commitL ep l ep id = l ++ [id] := by simp [commitL, c1, ho]
          have hs := lineOk_snoc ho
          obtain ⟨f1, f2, f3, f4, f5⟩ := fin (l ++ [id]) hs (by simp; omega)
          have cB : cancelB ep (l ++ [id]) id = true := by simp [cancelB, f1]
          have cL : cancelL ep (l ++ [id]) id = l := by simp only [cancelL, cB, if_true]; exact erase_snoc ho
          have sI : sameI l l = true := by simp [sameI]
          have b5 : n + 1 ≤ 1073741824 := by omega
          simp [asrt_iff, br_iff, ieq_t, ieq_f, ine_t, ine_f, ilt_t, ilt_f, ile_t, ile_f, igt_t, igt_f, ige_t, ige_f, nlt_t, nlt_f, nle_t, nle_f, neq_t, neq_f, beq2_t, beq2_f, bnot_t, bnot_f, band_t, band_f, bite_t, bite_f, bimp_t, bimp_f, iadd_e, isub_e, imul_e, ofN_e, nOf_e, nAdd_e, nDiff_e, room_e, lenI_e, gI_e, gB_e, imin_e, imax_e, cat_e, pt_e, put_e, some_f, hk, b1, b2, b3, b0, b4, b5, p1, c1, ho, cl, wf, f1, f2, f3, f4, f5, cB, cL, sI]
    · have b3 : (100 : Int) < (n : Int) := by omega
      have b0 : ¬ (n : Int) ≤ 100 := by omega
      simp [asrt_iff, br_iff, ieq_t, ieq_f, ine_t, ine_f, ilt_t, ilt_f, ile_t, ile_f, igt_t, igt_f, ige_t, ige_f, nlt_t, nlt_f, nle_t, nle_f, neq_t, neq_f, beq2_t, beq2_f, bnot_t, bnot_f, band_t, band_f, bite_t, bite_f, bimp_t, bimp_f, iadd_e, isub_e, imul_e, ofN_e, nOf_e, nAdd_e, nDiff_e, room_e, lenI_e, gI_e, gB_e, imin_e, imax_e, cat_e, pt_e, put_e, some_f, b3, b0]
  · cases h


theorem law_EventCancels (a0 : Int × List Int) (a1 : Int) (_ : ((Lit.int .i64 a0.1).wf = true ∧ a0.2.length ≤ maxLen ∧ ∀ x ∈ a0.2, (Lit.int .i64 x).wf = true)) (_ : (Lit.int .i64 a1).wf = true) : ∃ b, FLEventCancels [.agg [.int .i64 a0.1, .sl a0.2.length [.int .i64 a0.2]], .int .i64 a1] = some (b, .bool true) ∧ b ≠ some false := ⟨none, rfl, by simp⟩

end Go.Own
