/- A pile: what lies deeper comes up, what lies on top goes down. -/
import Derived.Test.YtmilniofdpgbnaaDueA
namespace Go.Own
open Go Go.Proofs
set_option maxRecDepth 100000
set_option linter.unusedVariables false
set_option linter.unusedSimpArgs false

/-- Two rows hold the same pairs. -/
def permD (a i a' i' : List Int) : Prop := a'.length = a.length ∧ i'.length = i.length ∧ (a'.zip i').Perm (a.zip i)

/-- A pair of two rows. -/
def el (a i : List Int) (k : Nat) : Int × Int := (a.getD k 0, i.getD k 0)

def lt2 (p q : Int × Int) : Prop := p.1 < q.1 ∨ (p.1 = q.1 ∧ p.2 < q.2)

/-- Among the first n nobody is ahead of who lies above, from a base on. -/
def hpFrom (a i : List Int) (base n : Nat) : Prop := ∀ k, 0 < k → k < n → base ≤ (k - 1) / 2 → ¬ lt2 (el a i k) (el a i ((k - 1) / 2))

/-- The same, but for those right below j. -/
def hpPre (a i : List Int) (base j n : Nat) : Prop := (∀ k, 0 < k → k < n → base ≤ (k - 1) / 2 → (k - 1) / 2 ≠ j → ¬ lt2 (el a i k) (el a i ((k - 1) / 2))) ∧ (0 < j → base ≤ (j - 1) / 2 → ∀ k, 0 < k → k < n → (k - 1) / 2 = j → ¬ lt2 (el a i k) (el a i ((j - 1) / 2)))

/-- What comes of going down from a place among the first n. -/
def downD (a i : List Int) (j n : Int) (a' i' : List Int) : Prop := permD a i a' i' ∧ (∀ k, n.toNat ≤ k → el a' i' k = el a i k) ∧ ∀ base, hpPre a i base j.toNat n.toNat → hpFrom a' i' base n.toNat

def sw (l : List Int) (j k : Nat) : List Int := (l.set j (l.getD k 0)).set k (l.getD j 0)


theorem ahead_lt {a i b j : Int} : aheadB a i b j = true ↔ lt2 (a, i) (b, j) := by simp [aheadB, lt2]

theorem lt2_asymm {p q : Int × Int} (h : lt2 p q) : ¬ lt2 q p := by unfold lt2 at *; omega
theorem lt2_trans {p q r : Int × Int} (h : lt2 p q) (h' : lt2 q r) : lt2 p r := by unfold lt2 at *; omega
theorem lt2_total {p q : Int × Int} (h : ¬ lt2 p q) (h' : ¬ lt2 q p) : p = q := by
  unfold lt2 at *
  have h1 : p.1 = q.1 := by omega
  have h2 : p.2 = q.2 := by omega
  exact Prod.ext h1 h2
theorem lt2_le {p q r : Int × Int} (h : ¬ lt2 q p) (h' : lt2 q r) : lt2 p r := by unfold lt2 at *; omega

theorem permD_refl (a i : List Int) : permD a i a i := ⟨rfl, rfl, List.Perm.refl _⟩
theorem permD_trans {a i b j c k : List Int} (h : permD a i b j) (h' : permD b j c k) : permD a i c k := ⟨h'.1.trans h.1, h'.2.1.trans h.2.1, h'.2.2.trans h.2.2⟩

theorem zip_set {a i : List Int} {j : Nat} {x y : Int} : (a.set j x).zip (i.set j y) = (a.zip i).set j (x, y) := by
  apply List.ext_getElem?
  intro k
  simp only [List.getElem?_zip_eq_some, List.getElem?_set, List.length_zip]
  induction a generalizing i j k with
  | nil => simp
  | cons z a ih =>
    cases i with
    | nil => simp
    | cons w i =>
      cases j with
      | zero => cases k <;> simp
      | succ j =>
        cases k with
        | zero => simp
        | succ k => simpa using ih (i := i) (j := j) k

theorem sw_perm {a i : List Int} {j k : Nat} (hj : j < a.length) (hk : k < a.length) (hl : i.length = a.length) : permD a i (sw a j k) (sw i j k) := by
  refine ⟨by simp [sw], by simp [sw], ?_⟩
  unfold sw
  rw [zip_set, zip_set]
  have h1 : j < (a.zip i).length := by simp; omega
  have h2 : k < (a.zip i).length := by simp; omega
  have e1 : (a.getD k 0, i.getD k 0) = (a.zip i)[k] := by simp [List.getD_eq_getElem?_getD, hk, show k < i.length by omega]
  have e2 : (a.getD j 0, i.getD j 0) = (a.zip i)[j] := by simp [List.getD_eq_getElem?_getD, hj, show j < i.length by omega]
  rw [e1, e2]
  exact List.set_set_perm h1 h2

theorem getI_set (l : List Int) (i j : Nat) (x : Int) : (l.set i x).getD j 0 = if i = j ∧ i < l.length then x else l.getD j 0 := by
  simp only [List.getD_eq_getElem?_getD, List.getElem?_set]
  by_cases h : i = j
  · subst h
    by_cases h2 : i < l.length
    · simp [h2]
    · simp [h2]
  · simp [h]

theorem el_sw {a i : List Int} {j k : Nat} (hj : j < a.length) (hk : k < a.length) (hl : i.length = a.length) (x : Nat) : el (sw a j k) (sw i j k) x = if x = k then el a i j else if x = j then el a i k else el a i x := by
  unfold el sw
  rw [getI_set, getI_set, getI_set, getI_set]
  simp only [List.length_set]
  by_cases h1 : x = k
  · subst h1
    simp [hk, hl]
  · by_cases h2 : x = j
    · subst h2
      simp [h1, hj, hl, Ne.symm h1]
    · simp [h1, h2, Ne.symm h1, Ne.symm h2]

theorem down_stop {a i : List Int} {j n : Nat} (h : ∀ k, 0 < k → k < n → (k - 1) / 2 = j → ¬ lt2 (el a i k) (el a i j)) : downD a i j n a i := by
  refine ⟨permD_refl a i, fun _ _ => rfl, fun base hp k h0 hk hb => ?_⟩
  simp only [Int.toNat_natCast] at hp hk
  by_cases he : (k - 1) / 2 = j
  · rw [he]
    exact h k h0 hk he
  · exact hp.1 k h0 hk hb he

theorem down_step {a i a' i' : List Int} {j s n : Nat} (hn : n ≤ a.length) (hl : i.length = a.length) (hs : (s - 1) / 2 = j) (h0 : 0 < s) (hsn : s < n) (hlt : lt2 (el a i s) (el a i j)) (hmin : ∀ k, 0 < k → k < n → (k - 1) / 2 = j → ¬ lt2 (el a i k) (el a i s))
    (h : downD (sw a j s) (sw i j s) s n a' i') : downD a i j n a' i' := by
  have hjs : j < s := by omega
  have hj : j < a.length := by omega
  have hsl : s < a.length := by omega
  obtain ⟨h1, h2, h3⟩ := h
  have E := el_sw hj hsl hl
  refine ⟨permD_trans (sw_perm hj hsl hl) h1, fun k hk => ?_, fun base hp => h3 base ?_⟩
  · simp only [Int.toNat_natCast] at hk
    rw [h2 k (by simpa using hk), E, if_neg (by omega), if_neg (by omega)]
  · simp only [Int.toNat_natCast] at hp ⊢
    obtain ⟨p1, p2⟩ := hp
    refine ⟨fun k k0 kn kb kne => ?_, fun _ kb k k0 kn kp => ?_⟩
    · rw [E k, E ((k - 1) / 2)]
      by_cases e1 : k = s
      · subst e1
        rw [if_pos rfl, if_neg (by omega), if_pos hs]
        exact lt2_asymm hlt
      · rw [if_neg e1]
        by_cases e2 : k = j
        · subst e2
          rw [if_pos rfl, if_neg kne, if_neg (by omega)]
          exact p2 k0 kb s h0 hsn hs
        · rw [if_neg e2, if_neg kne]
          by_cases e3 : (k - 1) / 2 = j
          · rw [if_pos e3]
            exact hmin k k0 kn e3
          · rw [if_neg e3]
            exact p1 k k0 kn kb e3
    · rw [hs] at kb ⊢
      rw [E k, E j, if_neg (by omega), if_neg (by omega), if_neg (by omega), if_pos rfl]
      have := p1 k k0 kn (by omega) (by omega)
      rw [kp] at this
      exact this

def pileIn (full : Bool) (n m : Nat) (a i : List Int) : Heap := match full with
  | true => [some (.var [.full 1]), some (.row 43 m [.int .i64 a, .int .i64 i])]
  | false => [some (.var [.osl 1 0 n]), some (.row 43 m [.int .i64 a, .int .i64 i])]

def asPile : Heap → Option (TypeId × Bool × Nat × Nat × List Int × List Int)
  | [some (.var [.full 1]), some (.row e m [.int .i64 a, .int .i64 i])] => some (e, true, m, m, a, i)
  | [some (.var [.osl 1 0 n]), some (.row e m [.int .i64 a, .int .i64 i])] => some (e, false, n, m, a, i)
  | _ => none

def spec_up : LoopSpec := { n := 23, keep := [0, 1], srcs := [.tmp 0, .cell 0 0], keepE := [0], srcsE := [.tmp 0, .cell 0 0], goes := fun vals objs Q => match vals, objs with
  | [.ifc t (.ptr 0 0 0), .int .i64 j], [some (.var [.full 1]), some (.row e m [.int .i64 a, .int .i64 i])] => asrt (band (neq t 78) (neq e 43)) (asrt (band (nle m 1000000) (band (ile 0 j) (ilt j (ofN m)))) (∀ a' i' : List Int, permD a i a' i' → Q (.exit 0) [.ifc 78 (.ptr 0 0 0)] [some (.var [.full 1]), some (.row 43 m [.int .i64 a', .int .i64 i'])]))
  | _, _ => False }

theorem lp_up (m : Nat) (a i : List Int) (j : Int) (mu : List AV → Heap → Nat) (Q : Ex → List AV → Heap → Prop) : runCode Try.prog (tabS tabD0) (callN Try.prog (tabS tabD0) noL 11) (fun _ => none) (bodyOf Try.prog 58 0) 0 ⟨mkT (spec_up).keep [.ifc 78 (.ptr 0 0 0), .int .i64 j] (spec_up).n 0, [some (.var [.full 1]), some (.row 43 m [.int .i64 a, .int .i64 i])]⟩ ((spec_up).endsA mu [.ifc 78 (.ptr 0 0 0), .int .i64 j] ([some (.var [.full 1]), some (.row 43 m [.int .i64 a, .int .i64 i])]) Q) = (
  br (bnot (ieq (iquo IntKind.i64 (isub IntKind.i64 j 1) 2) j))
    (asrt (band (ile 0 j) (ilt j (ofN m)))
      (asrt (nlt (nOf j) m)
        (asrt
          (band (ile 0 (iquo IntKind.i64 (isub IntKind.i64 j 1) 2))
            (ilt (iquo IntKind.i64 (isub IntKind.i64 j 1) 2) (ofN m)))
          (asrt (nlt (nOf (iquo IntKind.i64 (isub IntKind.i64 j 1) 2)) m)
            (br
              (bnot
                (aheadB (gI a (nOf j)) (gI i (nOf j)) (gI a (nOf (iquo IntKind.i64 (isub IntKind.i64 j 1) 2)))
                  (gI i (nOf (iquo IntKind.i64 (isub IntKind.i64 j 1) 2)))))
              (Q (Ex.exit 0) [AV.ifc 78 (AV.ptr 0 0 0)]
                [some (AObj.var [AV.full 1]), some (AObj.row 43 m [Col.int IntKind.i64 a, Col.int IntKind.i64 i])])
              (asrt (band (ile 0 j) (ilt j (ofN m)))
                (asrt (nlt (nOf j) m)
                  (asrt
                    (band (ile 0 (iquo IntKind.i64 (isub IntKind.i64 j 1) 2))
                      (ilt (iquo IntKind.i64 (isub IntKind.i64 j 1) 2) (ofN m)))
                    (asrt (nlt (nOf (iquo IntKind.i64 (isub IntKind.i64 j 1) 2)) m)
                      (asrt
                        (band (ile 0 (iquo IntKind.i64 (isub IntKind.i64 j 1) 2))
                          (ilt (iquo IntKind.i64 (isub IntKind.i64 j 1) 2) (ofN m)))
                        (asrt (nlt (nOf (iquo IntKind.i64 (isub IntKind.i64 j 1) 2)) m)
                          (asrt (band (ile 0 j) (ilt j (ofN m)))
                            (asrt (nlt (nOf j) m)
                              ((mu
                                        [AV.ifc 78 (AV.ptr 0 0 0),
                                          AV.int IntKind.i64 (iquo IntKind.i64 (isub IntKind.i64 j 1) 2)]
                                        [some (AObj.var [AV.full 1]),
                                          some
                                            (AObj.row 43 m
                                              [Col.int IntKind.i64
                                                  (put
                                                    (put a (nOf (iquo IntKind.i64 (isub IntKind.i64 j 1) 2))
                                                      (gI a (nOf j)))
                                                    (nOf j) (gI a (nOf (iquo IntKind.i64 (isub IntKind.i64 j 1) 2)))),
                                                Col.int IntKind.i64
                                                  (put
                                                    (put i (nOf (iquo IntKind.i64 (isub IntKind.i64 j 1) 2))
                                                      (gI i (nOf j)))
                                                    (nOf j)
                                                    (gI i
                                                      (nOf (iquo IntKind.i64 (isub IntKind.i64 j 1) 2))))])]).succ.le
                                  (mu [AV.ifc 78 (AV.ptr 0 0 0), AV.int IntKind.i64 j]
                                    [some (AObj.var [AV.full 1]),
                                      some (AObj.row 43 m [Col.int IntKind.i64 a, Col.int IntKind.i64 i])]) ∧
                                asrt
                                  (band (nle m 1000000)
                                    (band (ile 0 (iquo IntKind.i64 (isub IntKind.i64 j 1) 2))
                                      (ilt (iquo IntKind.i64 (isub IntKind.i64 j 1) 2) (ofN m))))
                                  (∀ (a' i' : List Int),
                                    permD
                                        (put (put a (nOf (iquo IntKind.i64 (isub IntKind.i64 j 1) 2)) (gI a (nOf j)))
                                          (nOf j) (gI a (nOf (iquo IntKind.i64 (isub IntKind.i64 j 1) 2))))
                                        (put (put i (nOf (iquo IntKind.i64 (isub IntKind.i64 j 1) 2)) (gI i (nOf j)))
                                          (nOf j) (gI i (nOf (iquo IntKind.i64 (isub IntKind.i64 j 1) 2))))
                                        a' i' →
                                      Q (Ex.exit 0) [AV.ifc 78 (AV.ptr 0 0 0)]
                                        [some (AObj.var [AV.full 1]),
                                          some
                                            (AObj.row 43 m
                                              [Col.int IntKind.i64 a', Col.int IntKind.i64 i'])])))))))))))))))
    (Q (Ex.exit 0) [AV.ifc 78 (AV.ptr 0 0 0)]
      [some (AObj.var [AV.full 1]), some (AObj.row 43 m [Col.int IntKind.i64 a, Col.int IntKind.i64 i])])) := by kernel_rfl

theorem loop_up : LoopFr Try.prog (bodyOf Try.prog 58 0) spec_up.framed := by
  refine tab_loopA mixed (l := tabD0) ok_tabD0 (i := 0) spec_up (fun vals objs => match vals with
    | [_, .int .i64 j] => j.toNat
    | _ => 0) fun vals objs Q h1 h2 wf wo hg => ?_
  unfold spec_up at hg
  simp only at hg
  split at hg
  · rename_i ty j e m a i
    clear h1 h2
    have r := (asrt_iff.1 hg).1
    rw [band_t, neq_t, neq_t] at r
    have r1 := r.1
    have r2 := r.2
    subst r1
    subst r2
    rw [lp_up]
    replace hg := (asrt_iff.1 hg).2
    obtain ⟨wa, wi⟩ : a.length = m ∧ i.length = m := by simpa [WFO, Col.len] using wo (some (.row 43 m [.int .i64 a, .int .i64 i])) (by simp) _ rfl
    simp only [asrt_iff, band_t, nle_t, ile_t, ilt_t, ofN_e] at hg
    obtain ⟨⟨hm, h0, hj⟩, hg⟩ := hg
    rw [br_iff]
    refine ⟨fun h => ?_, fun h => hg a i (permD_refl a i)⟩
    obtain ⟨k, rfl⟩ := Int.eq_ofNat_of_zero_le h0
    have hk0 : 0 < k := by
      apply Classical.byContradiction
      intro hk
      have : k = 0 := by omega
      subst this
      have e : iquo .i64 (isub .i64 ((0 : Nat) : Int) 1) 2 = 0 := rfl
      rw [e] at h
      simp [asrt_iff, br_iff, ieq_t, ieq_f, ine_t, ine_f, ilt_t, ilt_f, ile_t, ile_f, igt_t, igt_f, ige_t, ige_f, nlt_t, nlt_f, nle_t, nle_f, neq_t, neq_f, beq2_t, beq2_f, bnot_t, bnot_f, band_t, band_f, bite_t, bite_f, bimp_t, bimp_f, iadd_e, isub_e, imul_e, ofN_e, nOf_e, nAdd_e, nDiff_e, room_e, lenI_e, gI_e, gB_e, imin_e, imax_e, cat_e, pt_e, put_e, some_f] at h
    have hp : iquo .i64 (isub .i64 (k : Int) 1) 2 = (((k - 1) / 2 : Nat) : Int) := by
      unfold iquo
      rw [isub_e, wr (a := (k : Int) - 1) (by omega) (by omega), Int.tdiv_eq_ediv_of_nonneg (by omega), wr (by omega) (by omega)]
      omega
    rw [hp]
    have e1 : nOf (k : Int) = k := Int.toNat_natCast k
    have e2 : nOf (((k - 1) / 2 : Nat) : Int) = (k - 1) / 2 := Int.toNat_natCast _
    rw [e1, e2]
    have c1 : band (ile 0 (k : Int)) (ilt (k : Int) (ofN m)) = true := by simp [asrt_iff, br_iff, ieq_t, ieq_f, ine_t, ine_f, ilt_t, ilt_f, ile_t, ile_f, igt_t, igt_f, ige_t, ige_f, nlt_t, nlt_f, nle_t, nle_f, neq_t, neq_f, beq2_t, beq2_f, bnot_t, bnot_f, band_t, band_f, bite_t, bite_f, bimp_t, bimp_f, iadd_e, isub_e, imul_e, ofN_e, nOf_e, nAdd_e, nDiff_e, room_e, lenI_e, gI_e, gB_e, imin_e, imax_e, cat_e, pt_e, put_e, some_f]; omega
    have c2 : nlt k m = true := by simp [asrt_iff, br_iff, ieq_t, ieq_f, ine_t, ine_f, ilt_t, ilt_f, ile_t, ile_f, igt_t, igt_f, ige_t, ige_f, nlt_t, nlt_f, nle_t, nle_f, neq_t, neq_f, beq2_t, beq2_f, bnot_t, bnot_f, band_t, band_f, bite_t, bite_f, bimp_t, bimp_f, iadd_e, isub_e, imul_e, ofN_e, nOf_e, nAdd_e, nDiff_e, room_e, lenI_e, gI_e, gB_e, imin_e, imax_e, cat_e, pt_e, put_e, some_f]; omega
    have c3 : band (ile 0 (((k - 1) / 2 : Nat) : Int)) (ilt (((k - 1) / 2 : Nat) : Int) (ofN m)) = true := by simp [asrt_iff, br_iff, ieq_t, ieq_f, ine_t, ine_f, ilt_t, ilt_f, ile_t, ile_f, igt_t, igt_f, ige_t, ige_f, nlt_t, nlt_f, nle_t, nle_f, neq_t, neq_f, beq2_t, beq2_f, bnot_t, bnot_f, band_t, band_f, bite_t, bite_f, bimp_t, bimp_f, iadd_e, isub_e, imul_e, ofN_e, nOf_e, nAdd_e, nDiff_e, room_e, lenI_e, gI_e, gB_e, imin_e, imax_e, cat_e, pt_e, put_e, some_f]; omega
    have c4 : nlt ((k - 1) / 2) m = true := by simp [asrt_iff, br_iff, ieq_t, ieq_f, ine_t, ine_f, ilt_t, ilt_f, ile_t, ile_f, igt_t, igt_f, ige_t, ige_f, nlt_t, nlt_f, nle_t, nle_f, neq_t, neq_f, beq2_t, beq2_f, bnot_t, bnot_f, band_t, band_f, bite_t, bite_f, bimp_t, bimp_f, iadd_e, isub_e, imul_e, ofN_e, nOf_e, nAdd_e, nDiff_e, room_e, lenI_e, gI_e, gB_e, imin_e, imax_e, cat_e, pt_e, put_e, some_f]; omega
    simp only [asrt_iff, c1, c2, c3, c4, true_and]
    rw [br_iff]
    refine ⟨fun h => hg a i (permD_refl a i), fun _ => ⟨?_, ?_, fun a' i' hperm => ?_⟩⟩
    · simp
      omega
    · simp [asrt_iff, br_iff, ieq_t, ieq_f, ine_t, ine_f, ilt_t, ilt_f, ile_t, ile_f, igt_t, igt_f, ige_t, ige_f, nlt_t, nlt_f, nle_t, nle_f, neq_t, neq_f, beq2_t, beq2_f, bnot_t, bnot_f, band_t, band_f, bite_t, bite_f, bimp_t, bimp_f, iadd_e, isub_e, imul_e, ofN_e, nOf_e, nAdd_e, nDiff_e, room_e, lenI_e, gI_e, gB_e, imin_e, imax_e, cat_e, pt_e, put_e, some_f]
      omega
    · exact hg a' i' (permD_trans (sw_perm (j := (k - 1) / 2) (k := k) (by omega) (by omega) (by omega)) hperm)
  · exact hg.elim

def spec_down : LoopSpec := { n := 48, keep := [0, 1, 2, 7], srcs := [.tmp 0, .cell 0 0], keepE := [1, 7], srcsE := [.tmp 0, .cell 0 0], goes := fun vals objs Q => match vals, asPile objs with
  | [.ifc t (.ptr 0 0 0), .int .i64 j0, .int .i64 c, .int .i64 j], some (e, full, n, m, a, i) => asrt (band (neq t 78) (neq e 43)) (asrt (band (nle m 1000000) (band (nle n m) (band (ile 0 j) (band (ile j (ofN n)) (band (ile 0 c) (ile c (ofN n))))))) (∀ (a' i' : List Int) (j' : Int), downD a i j c a' i' → Q (.exit 0) [.int .i64 j0, .int .i64 j'] (pileIn full n m a' i')))
  | _, _ => False }

theorem lp_downF (m : Nat) (a i : List Int) (j0 c j : Int) (mu : List AV → Heap → Nat) (Q : Ex → List AV → Heap → Prop) : runCode Try.prog (tabS tabD0) (callN Try.prog (tabS tabD0) noL 11) (fun _ => none) (bodyOf Try.prog 61 0) 0 ⟨mkT (spec_down).keep [.ifc 78 (.ptr 0 0 0), .int .i64 j0, .int .i64 c, .int .i64 j] (spec_down).n 0, pileIn true m m a i⟩ ((spec_down).endsA mu [.ifc 78 (.ptr 0 0 0), .int .i64 j0, .int .i64 c, .int .i64 j] (pileIn true m m a i) Q) = (
  br (bite (ige (iadd IntKind.i64 (imul IntKind.i64 2 j) 1) c) true (ilt (iadd IntKind.i64 (imul IntKind.i64 2 j) 1) 0))
    (Q (Ex.exit 0) [AV.int IntKind.i64 j0, AV.int IntKind.i64 j]
      [some (AObj.var [AV.full 1]), some (AObj.row 43 m [Col.int IntKind.i64 a, Col.int IntKind.i64 i])])
    (br (ilt (iadd IntKind.i64 (iadd IntKind.i64 (imul IntKind.i64 2 j) 1) 1) c)
      (asrt
        (band (ile 0 (iadd IntKind.i64 (iadd IntKind.i64 (imul IntKind.i64 2 j) 1) 1))
          (ilt (iadd IntKind.i64 (iadd IntKind.i64 (imul IntKind.i64 2 j) 1) 1) (ofN m)))
        (asrt (nlt (nOf (iadd IntKind.i64 (iadd IntKind.i64 (imul IntKind.i64 2 j) 1) 1)) m)
          (asrt
            (band (ile 0 (iadd IntKind.i64 (imul IntKind.i64 2 j) 1))
              (ilt (iadd IntKind.i64 (imul IntKind.i64 2 j) 1) (ofN m)))
            (asrt (nlt (nOf (iadd IntKind.i64 (imul IntKind.i64 2 j) 1)) m)
              (br
                (aheadB (gI a (nOf (iadd IntKind.i64 (iadd IntKind.i64 (imul IntKind.i64 2 j) 1) 1)))
                  (gI i (nOf (iadd IntKind.i64 (iadd IntKind.i64 (imul IntKind.i64 2 j) 1) 1)))
                  (gI a (nOf (iadd IntKind.i64 (imul IntKind.i64 2 j) 1)))
                  (gI i (nOf (iadd IntKind.i64 (imul IntKind.i64 2 j) 1))))
                (asrt
                  (band (ile 0 (iadd IntKind.i64 (iadd IntKind.i64 (imul IntKind.i64 2 j) 1) 1))
                    (ilt (iadd IntKind.i64 (iadd IntKind.i64 (imul IntKind.i64 2 j) 1) 1) (ofN m)))
                  (asrt (nlt (nOf (iadd IntKind.i64 (iadd IntKind.i64 (imul IntKind.i64 2 j) 1) 1)) m)
                    (asrt (band (ile 0 j) (ilt j (ofN m)))
                      (asrt (nlt (nOf j) m)
                        (br
                          (bnot
                            (aheadB (gI a (nOf (iadd IntKind.i64 (iadd IntKind.i64 (imul IntKind.i64 2 j) 1) 1)))
                              (gI i (nOf (iadd IntKind.i64 (iadd IntKind.i64 (imul IntKind.i64 2 j) 1) 1)))
                              (gI a (nOf j)) (gI i (nOf j))))
                          (Q (Ex.exit 0) [AV.int IntKind.i64 j0, AV.int IntKind.i64 j]
                            [some (AObj.var [AV.full 1]),
                              some (AObj.row 43 m [Col.int IntKind.i64 a, Col.int IntKind.i64 i])])
                          (asrt
                            (band (ile 0 (iadd IntKind.i64 (iadd IntKind.i64 (imul IntKind.i64 2 j) 1) 1))
                              (ilt (iadd IntKind.i64 (iadd IntKind.i64 (imul IntKind.i64 2 j) 1) 1) (ofN m)))
                            (asrt (nlt (nOf (iadd IntKind.i64 (iadd IntKind.i64 (imul IntKind.i64 2 j) 1) 1)) m)
                              (asrt (band (ile 0 j) (ilt j (ofN m)))
                                (asrt (nlt (nOf j) m)
                                  (asrt (band (ile 0 j) (ilt j (ofN m)))
                                    (asrt (nlt (nOf j) m)
                                      (asrt
                                        (band (ile 0 (iadd IntKind.i64 (iadd IntKind.i64 (imul IntKind.i64 2 j) 1) 1))
                                          (ilt (iadd IntKind.i64 (iadd IntKind.i64 (imul IntKind.i64 2 j) 1) 1)
                                            (ofN m)))
                                        (asrt
                                          (nlt (nOf (iadd IntKind.i64 (iadd IntKind.i64 (imul IntKind.i64 2 j) 1) 1)) m)
                                          ((mu
                                                    [AV.ifc 78 (AV.ptr 0 0 0), AV.int IntKind.i64 j0,
                                                      AV.int IntKind.i64 c,
                                                      AV.int IntKind.i64
                                                        (iadd IntKind.i64 (iadd IntKind.i64 (imul IntKind.i64 2 j) 1)
                                                          1)]
                                                    [some (AObj.var [AV.full 1]),
                                                      some
                                                        (AObj.row 43 m
                                                          [Col.int IntKind.i64
                                                              (put
                                                                (put a (nOf j)
                                                                  (gI a
                                                                    (nOf
                                                                      (iadd IntKind.i64
                                                                        (iadd IntKind.i64 (imul IntKind.i64 2 j) 1)
                                                                        1))))
                                                                (nOf
                                                                  (iadd IntKind.i64
                                                                    (iadd IntKind.i64 (imul IntKind.i64 2 j) 1) 1))
                                                                (gI a (nOf j))),
                                                            Col.int IntKind.i64
                                                              (put
                                                                (put i (nOf j)
                                                                  (gI i
                                                                    (nOf
                                                                      (iadd IntKind.i64
                                                                        (iadd IntKind.i64 (imul IntKind.i64 2 j) 1)
                                                                        1))))
                                                                (nOf
                                                                  (iadd IntKind.i64
                                                                    (iadd IntKind.i64 (imul IntKind.i64 2 j) 1) 1))
                                                                (gI i (nOf j)))])]).succ.le
                                              (mu
                                                [AV.ifc 78 (AV.ptr 0 0 0), AV.int IntKind.i64 j0, AV.int IntKind.i64 c,
                                                  AV.int IntKind.i64 j]
                                                [some (AObj.var [AV.full 1]),
                                                  some
                                                    (AObj.row 43 m [Col.int IntKind.i64 a, Col.int IntKind.i64 i])]) ∧
                                            asrt
                                              (band (nle m 1000000)
                                                (band (nle m m)
                                                  (band
                                                    (ile 0
                                                      (iadd IntKind.i64 (iadd IntKind.i64 (imul IntKind.i64 2 j) 1) 1))
                                                    (band
                                                      (ile
                                                        (iadd IntKind.i64 (iadd IntKind.i64 (imul IntKind.i64 2 j) 1) 1)
                                                        (ofN m))
                                                      (band (ile 0 c) (ile c (ofN m)))))))
                                              (∀ (a' i' : List Int) (j' : Int),
                                                downD
                                                    (put
                                                      (put a (nOf j)
                                                        (gI a
                                                          (nOf
                                                            (iadd IntKind.i64
                                                              (iadd IntKind.i64 (imul IntKind.i64 2 j) 1) 1))))
                                                      (nOf
                                                        (iadd IntKind.i64 (iadd IntKind.i64 (imul IntKind.i64 2 j) 1)
                                                          1))
                                                      (gI a (nOf j)))
                                                    (put
                                                      (put i (nOf j)
                                                        (gI i
                                                          (nOf
                                                            (iadd IntKind.i64
                                                              (iadd IntKind.i64 (imul IntKind.i64 2 j) 1) 1))))
                                                      (nOf
                                                        (iadd IntKind.i64 (iadd IntKind.i64 (imul IntKind.i64 2 j) 1)
                                                          1))
                                                      (gI i (nOf j)))
                                                    (iadd IntKind.i64 (iadd IntKind.i64 (imul IntKind.i64 2 j) 1) 1) c
                                                    a' i' →
                                                  Q (Ex.exit 0) [AV.int IntKind.i64 j0, AV.int IntKind.i64 j']
                                                    [some (AObj.var [AV.full 1]),
                                                      some
                                                        (AObj.row 43 m
                                                          [Col.int IntKind.i64 a',
                                                            Col.int IntKind.i64 i'])])))))))))))))))
                (asrt
                  (band (ile 0 (iadd IntKind.i64 (imul IntKind.i64 2 j) 1))
                    (ilt (iadd IntKind.i64 (imul IntKind.i64 2 j) 1) (ofN m)))
                  (asrt (nlt (nOf (iadd IntKind.i64 (imul IntKind.i64 2 j) 1)) m)
                    (asrt (band (ile 0 j) (ilt j (ofN m)))
                      (asrt (nlt (nOf j) m)
                        (br
                          (bnot
                            (aheadB (gI a (nOf (iadd IntKind.i64 (imul IntKind.i64 2 j) 1)))
                              (gI i (nOf (iadd IntKind.i64 (imul IntKind.i64 2 j) 1))) (gI a (nOf j)) (gI i (nOf j))))
                          (Q (Ex.exit 0) [AV.int IntKind.i64 j0, AV.int IntKind.i64 j]
                            [some (AObj.var [AV.full 1]),
                              some (AObj.row 43 m [Col.int IntKind.i64 a, Col.int IntKind.i64 i])])
                          (asrt
                            (band (ile 0 (iadd IntKind.i64 (imul IntKind.i64 2 j) 1))
                              (ilt (iadd IntKind.i64 (imul IntKind.i64 2 j) 1) (ofN m)))
                            (asrt (nlt (nOf (iadd IntKind.i64 (imul IntKind.i64 2 j) 1)) m)
                              (asrt (band (ile 0 j) (ilt j (ofN m)))
                                (asrt (nlt (nOf j) m)
                                  (asrt (band (ile 0 j) (ilt j (ofN m)))
                                    (asrt (nlt (nOf j) m)
                                      (asrt
                                        (band (ile 0 (iadd IntKind.i64 (imul IntKind.i64 2 j) 1))
                                          (ilt (iadd IntKind.i64 (imul IntKind.i64 2 j) 1) (ofN m)))
                                        (asrt (nlt (nOf (iadd IntKind.i64 (imul IntKind.i64 2 j) 1)) m)
                                          ((mu
                                                    [AV.ifc 78 (AV.ptr 0 0 0), AV.int IntKind.i64 j0,
                                                      AV.int IntKind.i64 c,
                                                      AV.int IntKind.i64 (iadd IntKind.i64 (imul IntKind.i64 2 j) 1)]
                                                    [some (AObj.var [AV.full 1]),
                                                      some
                                                        (AObj.row 43 m
                                                          [Col.int IntKind.i64
                                                              (put
                                                                (put a (nOf j)
                                                                  (gI a
                                                                    (nOf (iadd IntKind.i64 (imul IntKind.i64 2 j) 1))))
                                                                (nOf (iadd IntKind.i64 (imul IntKind.i64 2 j) 1))
                                                                (gI a (nOf j))),
                                                            Col.int IntKind.i64
                                                              (put
                                                                (put i (nOf j)
                                                                  (gI i
                                                                    (nOf (iadd IntKind.i64 (imul IntKind.i64 2 j) 1))))
                                                                (nOf (iadd IntKind.i64 (imul IntKind.i64 2 j) 1))
                                                                (gI i (nOf j)))])]).succ.le
                                              (mu
                                                [AV.ifc 78 (AV.ptr 0 0 0), AV.int IntKind.i64 j0, AV.int IntKind.i64 c,
                                                  AV.int IntKind.i64 j]
                                                [some (AObj.var [AV.full 1]),
                                                  some
                                                    (AObj.row 43 m [Col.int IntKind.i64 a, Col.int IntKind.i64 i])]) ∧
                                            asrt
                                              (band (nle m 1000000)
                                                (band (nle m m)
                                                  (band (ile 0 (iadd IntKind.i64 (imul IntKind.i64 2 j) 1))
                                                    (band (ile (iadd IntKind.i64 (imul IntKind.i64 2 j) 1) (ofN m))
                                                      (band (ile 0 c) (ile c (ofN m)))))))
                                              (∀ (a' i' : List Int) (j' : Int),
                                                downD
                                                    (put
                                                      (put a (nOf j)
                                                        (gI a (nOf (iadd IntKind.i64 (imul IntKind.i64 2 j) 1))))
                                                      (nOf (iadd IntKind.i64 (imul IntKind.i64 2 j) 1)) (gI a (nOf j)))
                                                    (put
                                                      (put i (nOf j)
                                                        (gI i (nOf (iadd IntKind.i64 (imul IntKind.i64 2 j) 1))))
                                                      (nOf (iadd IntKind.i64 (imul IntKind.i64 2 j) 1)) (gI i (nOf j)))
                                                    (iadd IntKind.i64 (imul IntKind.i64 2 j) 1) c a' i' →
                                                  Q (Ex.exit 0) [AV.int IntKind.i64 j0, AV.int IntKind.i64 j']
                                                    [some (AObj.var [AV.full 1]),
                                                      some
                                                        (AObj.row 43 m
                                                          [Col.int IntKind.i64 a',
                                                            Col.int IntKind.i64 i'])]))))))))))))))))))))
      (asrt
        (band (ile 0 (iadd IntKind.i64 (imul IntKind.i64 2 j) 1))
          (ilt (iadd IntKind.i64 (imul IntKind.i64 2 j) 1) (ofN m)))
        (asrt (nlt (nOf (iadd IntKind.i64 (imul IntKind.i64 2 j) 1)) m)
          (asrt (band (ile 0 j) (ilt j (ofN m)))
            (asrt (nlt (nOf j) m)
              (br
                (bnot
                  (aheadB (gI a (nOf (iadd IntKind.i64 (imul IntKind.i64 2 j) 1)))
                    (gI i (nOf (iadd IntKind.i64 (imul IntKind.i64 2 j) 1))) (gI a (nOf j)) (gI i (nOf j))))
                (Q (Ex.exit 0) [AV.int IntKind.i64 j0, AV.int IntKind.i64 j]
                  [some (AObj.var [AV.full 1]), some (AObj.row 43 m [Col.int IntKind.i64 a, Col.int IntKind.i64 i])])
                (asrt
                  (band (ile 0 (iadd IntKind.i64 (imul IntKind.i64 2 j) 1))
                    (ilt (iadd IntKind.i64 (imul IntKind.i64 2 j) 1) (ofN m)))
                  (asrt (nlt (nOf (iadd IntKind.i64 (imul IntKind.i64 2 j) 1)) m)
                    (asrt (band (ile 0 j) (ilt j (ofN m)))
                      (asrt (nlt (nOf j) m)
                        (asrt (band (ile 0 j) (ilt j (ofN m)))
                          (asrt (nlt (nOf j) m)
                            (asrt
                              (band (ile 0 (iadd IntKind.i64 (imul IntKind.i64 2 j) 1))
                                (ilt (iadd IntKind.i64 (imul IntKind.i64 2 j) 1) (ofN m)))
                              (asrt (nlt (nOf (iadd IntKind.i64 (imul IntKind.i64 2 j) 1)) m)
                                ((mu
                                          [AV.ifc 78 (AV.ptr 0 0 0), AV.int IntKind.i64 j0, AV.int IntKind.i64 c,
                                            AV.int IntKind.i64 (iadd IntKind.i64 (imul IntKind.i64 2 j) 1)]
                                          [some (AObj.var [AV.full 1]),
                                            some
                                              (AObj.row 43 m
                                                [Col.int IntKind.i64
                                                    (put
                                                      (put a (nOf j)
                                                        (gI a (nOf (iadd IntKind.i64 (imul IntKind.i64 2 j) 1))))
                                                      (nOf (iadd IntKind.i64 (imul IntKind.i64 2 j) 1)) (gI a (nOf j))),
                                                  Col.int IntKind.i64
                                                    (put
                                                      (put i (nOf j)
                                                        (gI i (nOf (iadd IntKind.i64 (imul IntKind.i64 2 j) 1))))
                                                      (nOf (iadd IntKind.i64 (imul IntKind.i64 2 j) 1))
                                                      (gI i (nOf j)))])]).succ.le
                                    (mu
                                      [AV.ifc 78 (AV.ptr 0 0 0), AV.int IntKind.i64 j0, AV.int IntKind.i64 c,
                                        AV.int IntKind.i64 j]
                                      [some (AObj.var [AV.full 1]),
                                        some (AObj.row 43 m [Col.int IntKind.i64 a, Col.int IntKind.i64 i])]) ∧
                                  asrt
                                    (band (nle m 1000000)
                                      (band (nle m m)
                                        (band (ile 0 (iadd IntKind.i64 (imul IntKind.i64 2 j) 1))
                                          (band (ile (iadd IntKind.i64 (imul IntKind.i64 2 j) 1) (ofN m))
                                            (band (ile 0 c) (ile c (ofN m)))))))
                                    (∀ (a' i' : List Int) (j' : Int),
                                      downD
                                          (put (put a (nOf j) (gI a (nOf (iadd IntKind.i64 (imul IntKind.i64 2 j) 1))))
                                            (nOf (iadd IntKind.i64 (imul IntKind.i64 2 j) 1)) (gI a (nOf j)))
                                          (put (put i (nOf j) (gI i (nOf (iadd IntKind.i64 (imul IntKind.i64 2 j) 1))))
                                            (nOf (iadd IntKind.i64 (imul IntKind.i64 2 j) 1)) (gI i (nOf j)))
                                          (iadd IntKind.i64 (imul IntKind.i64 2 j) 1) c a' i' →
                                        Q (Ex.exit 0) [AV.int IntKind.i64 j0, AV.int IntKind.i64 j']
                                          [some (AObj.var [AV.full 1]),
                                            some
                                              (AObj.row 43 m
                                                [Col.int IntKind.i64 a', Col.int IntKind.i64 i'])]))))))))))))))))) := by kernel_rfl

theorem lp_downO (n m : Nat) (a i : List Int) (j0 c j : Int) (mu : List AV → Heap → Nat) (Q : Ex → List AV → Heap → Prop) : runCode Try.prog (tabS tabD0) (callN Try.prog (tabS tabD0) noL 11) (fun _ => none) (bodyOf Try.prog 61 0) 0 ⟨mkT (spec_down).keep [.ifc 78 (.ptr 0 0 0), .int .i64 j0, .int .i64 c, .int .i64 j] (spec_down).n 0, pileIn false n m a i⟩ ((spec_down).endsA mu [.ifc 78 (.ptr 0 0 0), .int .i64 j0, .int .i64 c, .int .i64 j] (pileIn false n m a i) Q) = (
  br (bite (ige (iadd IntKind.i64 (imul IntKind.i64 2 j) 1) c) true (ilt (iadd IntKind.i64 (imul IntKind.i64 2 j) 1) 0))
    (Q (Ex.exit 0) [AV.int IntKind.i64 j0, AV.int IntKind.i64 j]
      [some (AObj.var [AV.osl 1 0 n]), some (AObj.row 43 m [Col.int IntKind.i64 a, Col.int IntKind.i64 i])])
    (br (ilt (iadd IntKind.i64 (iadd IntKind.i64 (imul IntKind.i64 2 j) 1) 1) c)
      (asrt
        (band (ile 0 (iadd IntKind.i64 (iadd IntKind.i64 (imul IntKind.i64 2 j) 1) 1))
          (ilt (iadd IntKind.i64 (iadd IntKind.i64 (imul IntKind.i64 2 j) 1) 1) (ofN n)))
        (asrt (nlt (nAdd 0 (nOf (iadd IntKind.i64 (iadd IntKind.i64 (imul IntKind.i64 2 j) 1) 1))) m)
          (asrt
            (band (ile 0 (iadd IntKind.i64 (imul IntKind.i64 2 j) 1))
              (ilt (iadd IntKind.i64 (imul IntKind.i64 2 j) 1) (ofN n)))
            (asrt (nlt (nAdd 0 (nOf (iadd IntKind.i64 (imul IntKind.i64 2 j) 1))) m)
              (br
                (aheadB (gI a (nAdd 0 (nOf (iadd IntKind.i64 (iadd IntKind.i64 (imul IntKind.i64 2 j) 1) 1))))
                  (gI i (nAdd 0 (nOf (iadd IntKind.i64 (iadd IntKind.i64 (imul IntKind.i64 2 j) 1) 1))))
                  (gI a (nAdd 0 (nOf (iadd IntKind.i64 (imul IntKind.i64 2 j) 1))))
                  (gI i (nAdd 0 (nOf (iadd IntKind.i64 (imul IntKind.i64 2 j) 1)))))
                (asrt
                  (band (ile 0 (iadd IntKind.i64 (iadd IntKind.i64 (imul IntKind.i64 2 j) 1) 1))
                    (ilt (iadd IntKind.i64 (iadd IntKind.i64 (imul IntKind.i64 2 j) 1) 1) (ofN n)))
                  (asrt (nlt (nAdd 0 (nOf (iadd IntKind.i64 (iadd IntKind.i64 (imul IntKind.i64 2 j) 1) 1))) m)
                    (asrt (band (ile 0 j) (ilt j (ofN n)))
                      (asrt (nlt (nAdd 0 (nOf j)) m)
                        (br
                          (bnot
                            (aheadB
                              (gI a (nAdd 0 (nOf (iadd IntKind.i64 (iadd IntKind.i64 (imul IntKind.i64 2 j) 1) 1))))
                              (gI i (nAdd 0 (nOf (iadd IntKind.i64 (iadd IntKind.i64 (imul IntKind.i64 2 j) 1) 1))))
                              (gI a (nAdd 0 (nOf j))) (gI i (nAdd 0 (nOf j)))))
                          (Q (Ex.exit 0) [AV.int IntKind.i64 j0, AV.int IntKind.i64 j]
                            [some (AObj.var [AV.osl 1 0 n]),
                              some (AObj.row 43 m [Col.int IntKind.i64 a, Col.int IntKind.i64 i])])
                          (asrt
                            (band (ile 0 (iadd IntKind.i64 (iadd IntKind.i64 (imul IntKind.i64 2 j) 1) 1))
                              (ilt (iadd IntKind.i64 (iadd IntKind.i64 (imul IntKind.i64 2 j) 1) 1) (ofN n)))
                            (asrt
                              (nlt (nAdd 0 (nOf (iadd IntKind.i64 (iadd IntKind.i64 (imul IntKind.i64 2 j) 1) 1))) m)
                              (asrt (band (ile 0 j) (ilt j (ofN n)))
                                (asrt (nlt (nAdd 0 (nOf j)) m)
                                  (asrt (band (ile 0 j) (ilt j (ofN n)))
                                    (asrt (nlt (nAdd 0 (nOf j)) m)
                                      (asrt
                                        (band (ile 0 (iadd IntKind.i64 (iadd IntKind.i64 (imul IntKind.i64 2 j) 1) 1))
                                          (ilt (iadd IntKind.i64 (iadd IntKind.i64 (imul IntKind.i64 2 j) 1) 1)
                                            (ofN n)))
                                        (asrt
                                          (nlt
                                            (nAdd 0
                                              (nOf (iadd IntKind.i64 (iadd IntKind.i64 (imul IntKind.i64 2 j) 1) 1)))
                                            m)
                                          ((mu
                                                    [AV.ifc 78 (AV.ptr 0 0 0), AV.int IntKind.i64 j0,
                                                      AV.int IntKind.i64 c,
                                                      AV.int IntKind.i64
                                                        (iadd IntKind.i64 (iadd IntKind.i64 (imul IntKind.i64 2 j) 1)
                                                          1)]
                                                    [some (AObj.var [AV.osl 1 0 n]),
                                                      some
                                                        (AObj.row 43 m
                                                          [Col.int IntKind.i64
                                                              (put
                                                                (put a (nAdd 0 (nOf j))
                                                                  (gI a
                                                                    (nAdd 0
                                                                      (nOf
                                                                        (iadd IntKind.i64
                                                                          (iadd IntKind.i64 (imul IntKind.i64 2 j) 1)
                                                                          1)))))
                                                                (nAdd 0
                                                                  (nOf
                                                                    (iadd IntKind.i64
                                                                      (iadd IntKind.i64 (imul IntKind.i64 2 j) 1) 1)))
                                                                (gI a (nAdd 0 (nOf j)))),
                                                            Col.int IntKind.i64
                                                              (put
                                                                (put i (nAdd 0 (nOf j))
                                                                  (gI i
                                                                    (nAdd 0
                                                                      (nOf
                                                                        (iadd IntKind.i64
                                                                          (iadd IntKind.i64 (imul IntKind.i64 2 j) 1)
                                                                          1)))))
                                                                (nAdd 0
                                                                  (nOf
                                                                    (iadd IntKind.i64
                                                                      (iadd IntKind.i64 (imul IntKind.i64 2 j) 1) 1)))
                                                                (gI i (nAdd 0 (nOf j))))])]).succ.le
                                              (mu
                                                [AV.ifc 78 (AV.ptr 0 0 0), AV.int IntKind.i64 j0, AV.int IntKind.i64 c,
                                                  AV.int IntKind.i64 j]
                                                [some (AObj.var [AV.osl 1 0 n]),
                                                  some
                                                    (AObj.row 43 m [Col.int IntKind.i64 a, Col.int IntKind.i64 i])]) ∧
                                            asrt
                                              (band (nle m 1000000)
                                                (band (nle n m)
                                                  (band
                                                    (ile 0
                                                      (iadd IntKind.i64 (iadd IntKind.i64 (imul IntKind.i64 2 j) 1) 1))
                                                    (band
                                                      (ile
                                                        (iadd IntKind.i64 (iadd IntKind.i64 (imul IntKind.i64 2 j) 1) 1)
                                                        (ofN n))
                                                      (band (ile 0 c) (ile c (ofN n)))))))
                                              (∀ (a' i' : List Int) (j' : Int),
                                                downD
                                                    (put
                                                      (put a (nAdd 0 (nOf j))
                                                        (gI a
                                                          (nAdd 0
                                                            (nOf
                                                              (iadd IntKind.i64
                                                                (iadd IntKind.i64 (imul IntKind.i64 2 j) 1) 1)))))
                                                      (nAdd 0
                                                        (nOf
                                                          (iadd IntKind.i64 (iadd IntKind.i64 (imul IntKind.i64 2 j) 1)
                                                            1)))
                                                      (gI a (nAdd 0 (nOf j))))
                                                    (put
                                                      (put i (nAdd 0 (nOf j))
                                                        (gI i
                                                          (nAdd 0
                                                            (nOf
                                                              (iadd IntKind.i64
                                                                (iadd IntKind.i64 (imul IntKind.i64 2 j) 1) 1)))))
                                                      (nAdd 0
                                                        (nOf
                                                          (iadd IntKind.i64 (iadd IntKind.i64 (imul IntKind.i64 2 j) 1)
                                                            1)))
                                                      (gI i (nAdd 0 (nOf j))))
                                                    (iadd IntKind.i64 (iadd IntKind.i64 (imul IntKind.i64 2 j) 1) 1) c
                                                    a' i' →
                                                  Q (Ex.exit 0) [AV.int IntKind.i64 j0, AV.int IntKind.i64 j']
                                                    [some (AObj.var [AV.osl 1 0 n]),
                                                      some
                                                        (AObj.row 43 m
                                                          [Col.int IntKind.i64 a',
                                                            Col.int IntKind.i64 i'])])))))))))))))))
                (asrt
                  (band (ile 0 (iadd IntKind.i64 (imul IntKind.i64 2 j) 1))
                    (ilt (iadd IntKind.i64 (imul IntKind.i64 2 j) 1) (ofN n)))
                  (asrt (nlt (nAdd 0 (nOf (iadd IntKind.i64 (imul IntKind.i64 2 j) 1))) m)
                    (asrt (band (ile 0 j) (ilt j (ofN n)))
                      (asrt (nlt (nAdd 0 (nOf j)) m)
                        (br
                          (bnot
                            (aheadB (gI a (nAdd 0 (nOf (iadd IntKind.i64 (imul IntKind.i64 2 j) 1))))
                              (gI i (nAdd 0 (nOf (iadd IntKind.i64 (imul IntKind.i64 2 j) 1)))) (gI a (nAdd 0 (nOf j)))
                              (gI i (nAdd 0 (nOf j)))))
                          (Q (Ex.exit 0) [AV.int IntKind.i64 j0, AV.int IntKind.i64 j]
                            [some (AObj.var [AV.osl 1 0 n]),
                              some (AObj.row 43 m [Col.int IntKind.i64 a, Col.int IntKind.i64 i])])
                          (asrt
                            (band (ile 0 (iadd IntKind.i64 (imul IntKind.i64 2 j) 1))
                              (ilt (iadd IntKind.i64 (imul IntKind.i64 2 j) 1) (ofN n)))
                            (asrt (nlt (nAdd 0 (nOf (iadd IntKind.i64 (imul IntKind.i64 2 j) 1))) m)
                              (asrt (band (ile 0 j) (ilt j (ofN n)))
                                (asrt (nlt (nAdd 0 (nOf j)) m)
                                  (asrt (band (ile 0 j) (ilt j (ofN n)))
                                    (asrt (nlt (nAdd 0 (nOf j)) m)
                                      (asrt
                                        (band (ile 0 (iadd IntKind.i64 (imul IntKind.i64 2 j) 1))
                                          (ilt (iadd IntKind.i64 (imul IntKind.i64 2 j) 1) (ofN n)))
                                        (asrt (nlt (nAdd 0 (nOf (iadd IntKind.i64 (imul IntKind.i64 2 j) 1))) m)
                                          ((mu
                                                    [AV.ifc 78 (AV.ptr 0 0 0), AV.int IntKind.i64 j0,
                                                      AV.int IntKind.i64 c,
                                                      AV.int IntKind.i64 (iadd IntKind.i64 (imul IntKind.i64 2 j) 1)]
                                                    [some (AObj.var [AV.osl 1 0 n]),
                                                      some
                                                        (AObj.row 43 m
                                                          [Col.int IntKind.i64
                                                              (put
                                                                (put a (nAdd 0 (nOf j))
                                                                  (gI a
                                                                    (nAdd 0
                                                                      (nOf
                                                                        (iadd IntKind.i64 (imul IntKind.i64 2 j) 1)))))
                                                                (nAdd 0
                                                                  (nOf (iadd IntKind.i64 (imul IntKind.i64 2 j) 1)))
                                                                (gI a (nAdd 0 (nOf j)))),
                                                            Col.int IntKind.i64
                                                              (put
                                                                (put i (nAdd 0 (nOf j))
                                                                  (gI i
                                                                    (nAdd 0
                                                                      (nOf
                                                                        (iadd IntKind.i64 (imul IntKind.i64 2 j) 1)))))
                                                                (nAdd 0
                                                                  (nOf (iadd IntKind.i64 (imul IntKind.i64 2 j) 1)))
                                                                (gI i (nAdd 0 (nOf j))))])]).succ.le
                                              (mu
                                                [AV.ifc 78 (AV.ptr 0 0 0), AV.int IntKind.i64 j0, AV.int IntKind.i64 c,
                                                  AV.int IntKind.i64 j]
                                                [some (AObj.var [AV.osl 1 0 n]),
                                                  some
                                                    (AObj.row 43 m [Col.int IntKind.i64 a, Col.int IntKind.i64 i])]) ∧
                                            asrt
                                              (band (nle m 1000000)
                                                (band (nle n m)
                                                  (band (ile 0 (iadd IntKind.i64 (imul IntKind.i64 2 j) 1))
                                                    (band (ile (iadd IntKind.i64 (imul IntKind.i64 2 j) 1) (ofN n))
                                                      (band (ile 0 c) (ile c (ofN n)))))))
                                              (∀ (a' i' : List Int) (j' : Int),
                                                downD
                                                    (put
                                                      (put a (nAdd 0 (nOf j))
                                                        (gI a
                                                          (nAdd 0 (nOf (iadd IntKind.i64 (imul IntKind.i64 2 j) 1)))))
                                                      (nAdd 0 (nOf (iadd IntKind.i64 (imul IntKind.i64 2 j) 1)))
                                                      (gI a (nAdd 0 (nOf j))))
                                                    (put
                                                      (put i (nAdd 0 (nOf j))
                                                        (gI i
                                                          (nAdd 0 (nOf (iadd IntKind.i64 (imul IntKind.i64 2 j) 1)))))
                                                      (nAdd 0 (nOf (iadd IntKind.i64 (imul IntKind.i64 2 j) 1)))
                                                      (gI i (nAdd 0 (nOf j))))
                                                    (iadd IntKind.i64 (imul IntKind.i64 2 j) 1) c a' i' →
                                                  Q (Ex.exit 0) [AV.int IntKind.i64 j0, AV.int IntKind.i64 j']
                                                    [some (AObj.var [AV.osl 1 0 n]),
                                                      some
                                                        (AObj.row 43 m
                                                          [Col.int IntKind.i64 a',
                                                            Col.int IntKind.i64 i'])]))))))))))))))))))))
      (asrt
        (band (ile 0 (iadd IntKind.i64 (imul IntKind.i64 2 j) 1))
          (ilt (iadd IntKind.i64 (imul IntKind.i64 2 j) 1) (ofN n)))
        (asrt (nlt (nAdd 0 (nOf (iadd IntKind.i64 (imul IntKind.i64 2 j) 1))) m)
          (asrt (band (ile 0 j) (ilt j (ofN n)))
            (asrt (nlt (nAdd 0 (nOf j)) m)
              (br
                (bnot
                  (aheadB (gI a (nAdd 0 (nOf (iadd IntKind.i64 (imul IntKind.i64 2 j) 1))))
                    (gI i (nAdd 0 (nOf (iadd IntKind.i64 (imul IntKind.i64 2 j) 1)))) (gI a (nAdd 0 (nOf j)))
                    (gI i (nAdd 0 (nOf j)))))
                (Q (Ex.exit 0) [AV.int IntKind.i64 j0, AV.int IntKind.i64 j]
                  [some (AObj.var [AV.osl 1 0 n]), some (AObj.row 43 m [Col.int IntKind.i64 a, Col.int IntKind.i64 i])])
                (asrt
                  (band (ile 0 (iadd IntKind.i64 (imul IntKind.i64 2 j) 1))
                    (ilt (iadd IntKind.i64 (imul IntKind.i64 2 j) 1) (ofN n)))
                  (asrt (nlt (nAdd 0 (nOf (iadd IntKind.i64 (imul IntKind.i64 2 j) 1))) m)
                    (asrt (band (ile 0 j) (ilt j (ofN n)))
                      (asrt (nlt (nAdd 0 (nOf j)) m)
                        (asrt (band (ile 0 j) (ilt j (ofN n)))
                          (asrt (nlt (nAdd 0 (nOf j)) m)
                            (asrt
                              (band (ile 0 (iadd IntKind.i64 (imul IntKind.i64 2 j) 1))
                                (ilt (iadd IntKind.i64 (imul IntKind.i64 2 j) 1) (ofN n)))
                              (asrt (nlt (nAdd 0 (nOf (iadd IntKind.i64 (imul IntKind.i64 2 j) 1))) m)
                                ((mu
                                          [AV.ifc 78 (AV.ptr 0 0 0), AV.int IntKind.i64 j0, AV.int IntKind.i64 c,
                                            AV.int IntKind.i64 (iadd IntKind.i64 (imul IntKind.i64 2 j) 1)]
                                          [some (AObj.var [AV.osl 1 0 n]),
                                            some
                                              (AObj.row 43 m
                                                [Col.int IntKind.i64
                                                    (put
                                                      (put a (nAdd 0 (nOf j))
                                                        (gI a
                                                          (nAdd 0 (nOf (iadd IntKind.i64 (imul IntKind.i64 2 j) 1)))))
                                                      (nAdd 0 (nOf (iadd IntKind.i64 (imul IntKind.i64 2 j) 1)))
                                                      (gI a (nAdd 0 (nOf j)))),
                                                  Col.int IntKind.i64
                                                    (put
                                                      (put i (nAdd 0 (nOf j))
                                                        (gI i
                                                          (nAdd 0 (nOf (iadd IntKind.i64 (imul IntKind.i64 2 j) 1)))))
                                                      (nAdd 0 (nOf (iadd IntKind.i64 (imul IntKind.i64 2 j) 1)))
                                                      (gI i (nAdd 0 (nOf j))))])]).succ.le
                                    (mu
                                      [AV.ifc 78 (AV.ptr 0 0 0), AV.int IntKind.i64 j0, AV.int IntKind.i64 c,
                                        AV.int IntKind.i64 j]
                                      [some (AObj.var [AV.osl 1 0 n]),
                                        some (AObj.row 43 m [Col.int IntKind.i64 a, Col.int IntKind.i64 i])]) ∧
                                  asrt
                                    (band (nle m 1000000)
                                      (band (nle n m)
                                        (band (ile 0 (iadd IntKind.i64 (imul IntKind.i64 2 j) 1))
                                          (band (ile (iadd IntKind.i64 (imul IntKind.i64 2 j) 1) (ofN n))
                                            (band (ile 0 c) (ile c (ofN n)))))))
                                    (∀ (a' i' : List Int) (j' : Int),
                                      downD
                                          (put
                                            (put a (nAdd 0 (nOf j))
                                              (gI a (nAdd 0 (nOf (iadd IntKind.i64 (imul IntKind.i64 2 j) 1)))))
                                            (nAdd 0 (nOf (iadd IntKind.i64 (imul IntKind.i64 2 j) 1)))
                                            (gI a (nAdd 0 (nOf j))))
                                          (put
                                            (put i (nAdd 0 (nOf j))
                                              (gI i (nAdd 0 (nOf (iadd IntKind.i64 (imul IntKind.i64 2 j) 1)))))
                                            (nAdd 0 (nOf (iadd IntKind.i64 (imul IntKind.i64 2 j) 1)))
                                            (gI i (nAdd 0 (nOf j))))
                                          (iadd IntKind.i64 (imul IntKind.i64 2 j) 1) c a' i' →
                                        Q (Ex.exit 0) [AV.int IntKind.i64 j0, AV.int IntKind.i64 j']
                                          [some (AObj.var [AV.osl 1 0 n]),
                                            some
                                              (AObj.row 43 m
                                                [Col.int IntKind.i64 a', Col.int IntKind.i64 i'])]))))))))))))))))) := by kernel_rfl

theorem asPile_some {os : Heap} {e : TypeId} {full : Bool} {n m : Nat} {a i : List Int} (h : asPile os = some (e, full, n, m, a, i)) (he : e = 43) : os = pileIn full n m a i ∧ (full = true → n = m) := by
  subst he
  unfold asPile at h
  split at h
  · cases h
    exact ⟨rfl, fun _ => rfl⟩
  · cases h
    exact ⟨rfl, fun h => by cases h⟩
  · cases h

/-- Of the two below a place one is the least. -/
theorem child_min {a i : List Int} {j n : Nat} (hb : ¬ (2 * j + 2 < n ∧ lt2 (el a i (2 * j + 2)) (el a i (2 * j + 1)))) : ∀ k, 0 < k → k < n → (k - 1) / 2 = j → ¬ lt2 (el a i k) (el a i (2 * j + 1)) := by
  intro k k0 kn hk
  have : k = 2 * j + 1 ∨ k = 2 * j + 2 := by omega
  rcases this with rfl | rfl
  · exact fun h => lt2_asymm h h
  · exact fun h => hb ⟨kn, h⟩

theorem child_min2 {a i : List Int} {j n : Nat} (h : lt2 (el a i (2 * j + 2)) (el a i (2 * j + 1))) : ∀ k, 0 < k → k < n → (k - 1) / 2 = j → ¬ lt2 (el a i k) (el a i (2 * j + 2)) := by
  intro k k0 kn hk
  have : k = 2 * j + 1 ∨ k = 2 * j + 2 := by omega
  rcases this with rfl | rfl
  · exact lt2_asymm h
  · exact fun h => lt2_asymm h h

theorem loop_down : LoopFr Try.prog (bodyOf Try.prog 61 0) spec_down.framed := by
  refine tab_loopA mixed (l := tabD0) ok_tabD0 (i := 0) spec_down (fun vals objs => match vals with
    | [_, _, .int .i64 c, .int .i64 j] => (c - j).toNat
    | _ => 0) fun vals objs Q h1 h2 wf wo hg => ?_
  unfold spec_down at hg
  simp only at hg
  split at hg
  · rename_i ty j0 c j e full n m a i hx
    clear h1 h2
    have r := (asrt_iff.1 hg).1
    rw [band_t, neq_t, neq_t] at r
    have r1 := r.1
    have he := asPile_some hx r.2
    have r3 := he.1
    have hfm := he.2
    clear hx he
    subst r1
    subst r3
    replace hg := (asrt_iff.1 hg).2
    cases full with
    | true =>
      have hfm := hfm rfl
      subst hfm
      rw [lp_downF]
      obtain ⟨wa, wi⟩ : a.length = n ∧ i.length = n := by simpa [WFO, Col.len] using wo (some (.row 43 n [.int .i64 a, .int .i64 i])) (by simp [pileIn]) _ rfl
      simp only [asrt_iff, band_t, nle_t, ile_t, ilt_t, ofN_e] at hg
      obtain ⟨⟨hm, hnm, h0, hj, hc0, hc⟩, hg⟩ := hg
      obtain ⟨k, rfl⟩ := Int.eq_ofNat_of_zero_le h0
      obtain ⟨q, rfl⟩ := Int.eq_ofNat_of_zero_le hc0
      have w1 : iadd .i64 (imul .i64 2 (k : Int)) 1 = ((2 * k + 1 : Nat) : Int) := by
        rw [imul_e, wr (a := 2 * (k : Int)) (by omega) (by omega), iadd_e, wr (by omega) (by omega)]
        omega
      have w2 : iadd .i64 ((2 * k + 1 : Nat) : Int) 1 = ((2 * k + 2 : Nat) : Int) := by
        rw [iadd_e, wr (by omega) (by omega)]
        omega
      have e1 : nOf ((2 * k + 1 : Nat) : Int) = 2 * k + 1 := Int.toNat_natCast _
      have e2 : nOf ((2 * k + 2 : Nat) : Int) = 2 * k + 2 := Int.toNat_natCast _
      have e3 : nOf (k : Int) = k := Int.toNat_natCast _
      have stop : ∀ (h : ∀ x, 0 < x → x < q → (x - 1) / 2 = k → ¬ lt2 (el a i x) (el a i k)), Q (.exit 0) [.int .i64 j0, .int .i64 (k : Int)] (pileIn true n n a i) := fun h => hg a i k (down_stop h)
      have ah : ∀ x y : Nat, aheadB (gI a x) (gI i x) (gI a y) (gI i y) = true ↔ lt2 (el a i x) (el a i y) := fun x y => ahead_lt
      have anot : ∀ x y : Nat, bnot (aheadB (gI a x) (gI i x) (gI a y) (gI i y)) = true → ¬ lt2 (el a i x) (el a i y) := fun x y h hh => by rw [bnot_t] at h; rw [← ah, h] at hh; cases hh
      have ayes : ∀ x y : Nat, bnot (aheadB (gI a x) (gI i x) (gI a y) (gI i y)) = false → lt2 (el a i x) (el a i y) := fun x y h => by rw [bnot_f] at h; exact (ah x y).1 h
      rw [w1, w2, e1, e2, e3]
      rw [br_iff]
      refine ⟨fun h => stop fun x x0 xq hx => ?_, fun h => ?_⟩
      · exfalso
        simp [asrt_iff, br_iff, ieq_t, ieq_f, ine_t, ine_f, ilt_t, ilt_f, ile_t, ile_f, igt_t, igt_f, ige_t, ige_f, nlt_t, nlt_f, nle_t, nle_f, neq_t, neq_f, beq2_t, beq2_f, bnot_t, bnot_f, band_t, band_f, bite_t, bite_f, bimp_t, bimp_f, iadd_e, isub_e, imul_e, ofN_e, nOf_e, nAdd_e, nDiff_e, room_e, lenI_e, gI_e, gB_e, imin_e, imax_e, cat_e, pt_e, put_e, some_f] at h
        omega
      · have hq : 2 * k + 1 < q := by
          simp [asrt_iff, br_iff, ieq_t, ieq_f, ine_t, ine_f, ilt_t, ilt_f, ile_t, ile_f, igt_t, igt_f, ige_t, ige_f, nlt_t, nlt_f, nle_t, nle_f, neq_t, neq_f, beq2_t, beq2_f, bnot_t, bnot_f, band_t, band_f, bite_t, bite_f, bimp_t, bimp_f, iadd_e, isub_e, imul_e, ofN_e, nOf_e, nAdd_e, nDiff_e, room_e, lenI_e, gI_e, gB_e, imin_e, imax_e, cat_e, pt_e, put_e, some_f] at h
          omega
        have cj : band (ile 0 (k : Int)) (ilt (k : Int) (ofN n)) = true := by simp [asrt_iff, br_iff, ieq_t, ieq_f, ine_t, ine_f, ilt_t, ilt_f, ile_t, ile_f, igt_t, igt_f, ige_t, ige_f, nlt_t, nlt_f, nle_t, nle_f, neq_t, neq_f, beq2_t, beq2_f, bnot_t, bnot_f, band_t, band_f, bite_t, bite_f, bimp_t, bimp_f, iadd_e, isub_e, imul_e, ofN_e, nOf_e, nAdd_e, nDiff_e, room_e, lenI_e, gI_e, gB_e, imin_e, imax_e, cat_e, pt_e, put_e, some_f]; omega
        have dj : nlt k n = true := by simp [asrt_iff, br_iff, ieq_t, ieq_f, ine_t, ine_f, ilt_t, ilt_f, ile_t, ile_f, igt_t, igt_f, ige_t, ige_f, nlt_t, nlt_f, nle_t, nle_f, neq_t, neq_f, beq2_t, beq2_f, bnot_t, bnot_f, band_t, band_f, bite_t, bite_f, bimp_t, bimp_f, iadd_e, isub_e, imul_e, ofN_e, nOf_e, nAdd_e, nDiff_e, room_e, lenI_e, gI_e, gB_e, imin_e, imax_e, cat_e, pt_e, put_e, some_f]; omega
        have c1 : band (ile 0 ((2 * k + 1 : Nat) : Int)) (ilt ((2 * k + 1 : Nat) : Int) (ofN n)) = true := by simp [asrt_iff, br_iff, ieq_t, ieq_f, ine_t, ine_f, ilt_t, ilt_f, ile_t, ile_f, igt_t, igt_f, ige_t, ige_f, nlt_t, nlt_f, nle_t, nle_f, neq_t, neq_f, beq2_t, beq2_f, bnot_t, bnot_f, band_t, band_f, bite_t, bite_f, bimp_t, bimp_f, iadd_e, isub_e, imul_e, ofN_e, nOf_e, nAdd_e, nDiff_e, room_e, lenI_e, gI_e, gB_e, imin_e, imax_e, cat_e, pt_e, put_e, some_f]; omega
        have d1 : nlt (2 * k + 1) n = true := by simp [asrt_iff, br_iff, ieq_t, ieq_f, ine_t, ine_f, ilt_t, ilt_f, ile_t, ile_f, igt_t, igt_f, ige_t, ige_f, nlt_t, nlt_f, nle_t, nle_f, neq_t, neq_f, beq2_t, beq2_f, bnot_t, bnot_f, band_t, band_f, bite_t, bite_f, bimp_t, bimp_f, iadd_e, isub_e, imul_e, ofN_e, nOf_e, nAdd_e, nDiff_e, room_e, lenI_e, gI_e, gB_e, imin_e, imax_e, cat_e, pt_e, put_e, some_f]; omega
        have one : ∀ s : Nat, 0 < s → s < q → (s - 1) / 2 = k → (∀ x, 0 < x → x < q → (x - 1) / 2 = k → ¬ lt2 (el a i x) (el a i s)) → ¬ lt2 (el a i s) (el a i k) → Q (.exit 0) [.int .i64 j0, .int .i64 (k : Int)] (pileIn true n n a i) := fun s s0 sq sk hmin hns => stop fun x x0 xq hx hlt => hns (lt2_le (hmin x x0 xq hx) hlt)
        rw [br_iff]
        refine ⟨fun h2 => ?_, fun h2 => ?_⟩
        · have hq2 : 2 * k + 2 < q := by
            simp [asrt_iff, br_iff, ieq_t, ieq_f, ine_t, ine_f, ilt_t, ilt_f, ile_t, ile_f, igt_t, igt_f, ige_t, ige_f, nlt_t, nlt_f, nle_t, nle_f, neq_t, neq_f, beq2_t, beq2_f, bnot_t, bnot_f, band_t, band_f, bite_t, bite_f, bimp_t, bimp_f, iadd_e, isub_e, imul_e, ofN_e, nOf_e, nAdd_e, nDiff_e, room_e, lenI_e, gI_e, gB_e, imin_e, imax_e, cat_e, pt_e, put_e, some_f] at h2
            omega
          have c2 : band (ile 0 ((2 * k + 2 : Nat) : Int)) (ilt ((2 * k + 2 : Nat) : Int) (ofN n)) = true := by simp [asrt_iff, br_iff, ieq_t, ieq_f, ine_t, ine_f, ilt_t, ilt_f, ile_t, ile_f, igt_t, igt_f, ige_t, ige_f, nlt_t, nlt_f, nle_t, nle_f, neq_t, neq_f, beq2_t, beq2_f, bnot_t, bnot_f, band_t, band_f, bite_t, bite_f, bimp_t, bimp_f, iadd_e, isub_e, imul_e, ofN_e, nOf_e, nAdd_e, nDiff_e, room_e, lenI_e, gI_e, gB_e, imin_e, imax_e, cat_e, pt_e, put_e, some_f]; omega
          have d2 : nlt (2 * k + 2) n = true := by simp [asrt_iff, br_iff, ieq_t, ieq_f, ine_t, ine_f, ilt_t, ilt_f, ile_t, ile_f, igt_t, igt_f, ige_t, ige_f, nlt_t, nlt_f, nle_t, nle_f, neq_t, neq_f, beq2_t, beq2_f, bnot_t, bnot_f, band_t, band_f, bite_t, bite_f, bimp_t, bimp_f, iadd_e, isub_e, imul_e, ofN_e, nOf_e, nAdd_e, nDiff_e, room_e, lenI_e, gI_e, gB_e, imin_e, imax_e, cat_e, pt_e, put_e, some_f]; omega
          simp only [asrt_iff, cj, dj, c1, d1, c2, d2, true_and]
          rw [br_iff]
          refine ⟨fun h3 => ?_, fun h3 => ?_⟩
          · have h3 := (ah _ _).1 h3
            rw [br_iff]
            refine ⟨fun h4 => one (2 * k + 2) (by omega) hq2 (by omega) (child_min2 h3) (anot _ _ h4), fun h4 => ⟨?_, ?_, fun a' i' j' hd => hg a' i' j' (down_step (n := q) (j := k) (s := 2 * k + 2) (by omega) (by omega) (by omega) (by omega) hq2 (ayes _ _ h4) (child_min2 h3) hd)⟩⟩
            · simp
              omega
            · simp [asrt_iff, br_iff, ieq_t, ieq_f, ine_t, ine_f, ilt_t, ilt_f, ile_t, ile_f, igt_t, igt_f, ige_t, ige_f, nlt_t, nlt_f, nle_t, nle_f, neq_t, neq_f, beq2_t, beq2_f, bnot_t, bnot_f, band_t, band_f, bite_t, bite_f, bimp_t, bimp_f, iadd_e, isub_e, imul_e, ofN_e, nOf_e, nAdd_e, nDiff_e, room_e, lenI_e, gI_e, gB_e, imin_e, imax_e, cat_e, pt_e, put_e, some_f]
              omega
          · have h3' : ¬ lt2 (el a i (2 * k + 2)) (el a i (2 * k + 1)) := fun hh => by rw [← ah, h3] at hh; cases hh
            have hmin := child_min (n := q) (fun hh : 2 * k + 2 < q ∧ lt2 (el a i (2 * k + 2)) (el a i (2 * k + 1)) => h3' hh.2)
            rw [br_iff]
            refine ⟨fun h4 => one (2 * k + 1) (by omega) hq (by omega) hmin (anot _ _ h4), fun h4 => ⟨?_, ?_, fun a' i' j' hd => hg a' i' j' (down_step (n := q) (j := k) (s := 2 * k + 1) (by omega) (by omega) (by omega) (by omega) hq (ayes _ _ h4) hmin hd)⟩⟩
            · simp
              omega
            · simp [asrt_iff, br_iff, ieq_t, ieq_f, ine_t, ine_f, ilt_t, ilt_f, ile_t, ile_f, igt_t, igt_f, ige_t, ige_f, nlt_t, nlt_f, nle_t, nle_f, neq_t, neq_f, beq2_t, beq2_f, bnot_t, bnot_f, band_t, band_f, bite_t, bite_f, bimp_t, bimp_f, iadd_e, isub_e, imul_e, ofN_e, nOf_e, nAdd_e, nDiff_e, room_e, lenI_e, gI_e, gB_e, imin_e, imax_e, cat_e, pt_e, put_e, some_f]
              omega
        · have hq2 : ¬ 2 * k + 2 < q := by
            simp [asrt_iff, br_iff, ieq_t, ieq_f, ine_t, ine_f, ilt_t, ilt_f, ile_t, ile_f, igt_t, igt_f, ige_t, ige_f, nlt_t, nlt_f, nle_t, nle_f, neq_t, neq_f, beq2_t, beq2_f, bnot_t, bnot_f, band_t, band_f, bite_t, bite_f, bimp_t, bimp_f, iadd_e, isub_e, imul_e, ofN_e, nOf_e, nAdd_e, nDiff_e, room_e, lenI_e, gI_e, gB_e, imin_e, imax_e, cat_e, pt_e, put_e, some_f] at h2
            omega
          have hmin := child_min (n := q) (fun hh : 2 * k + 2 < q ∧ lt2 (el a i (2 * k + 2)) (el a i (2 * k + 1)) => hq2 hh.1)
          simp only [asrt_iff, cj, dj, c1, d1, true_and]
          rw [br_iff]
          refine ⟨fun h4 => one (2 * k + 1) (by omega) hq (by omega) hmin (anot _ _ h4), fun h4 => ⟨?_, ?_, fun a' i' j' hd => hg a' i' j' (down_step (n := q) (j := k) (s := 2 * k + 1) (by omega) (by omega) (by omega) (by omega) hq (ayes _ _ h4) hmin hd)⟩⟩
          · simp
            omega
          · simp [asrt_iff, br_iff, ieq_t, ieq_f, ine_t, ine_f, ilt_t, ilt_f, ile_t, ile_f, igt_t, igt_f, ige_t, ige_f, nlt_t, nlt_f, nle_t, nle_f, neq_t, neq_f, beq2_t, beq2_f, bnot_t, bnot_f, band_t, band_f, bite_t, bite_f, bimp_t, bimp_f, iadd_e, isub_e, imul_e, ofN_e, nOf_e, nAdd_e, nDiff_e, room_e, lenI_e, gI_e, gB_e, imin_e, imax_e, cat_e, pt_e, put_e, some_f]
            omega
    | false =>
      rw [lp_downO]
      obtain ⟨wa, wi⟩ : a.length = m ∧ i.length = m := by simpa [WFO, Col.len] using wo (some (.row 43 m [.int .i64 a, .int .i64 i])) (by simp [pileIn]) _ rfl
      simp only [asrt_iff, band_t, nle_t, ile_t, ilt_t, ofN_e] at hg
      obtain ⟨⟨hm, hnm, h0, hj, hc0, hc⟩, hg⟩ := hg
      obtain ⟨k, rfl⟩ := Int.eq_ofNat_of_zero_le h0
      obtain ⟨q, rfl⟩ := Int.eq_ofNat_of_zero_le hc0
      have w1 : iadd .i64 (imul .i64 2 (k : Int)) 1 = ((2 * k + 1 : Nat) : Int) := by
        rw [imul_e, wr (a := 2 * (k : Int)) (by omega) (by omega), iadd_e, wr (by omega) (by omega)]
        omega
      have w2 : iadd .i64 ((2 * k + 1 : Nat) : Int) 1 = ((2 * k + 2 : Nat) : Int) := by
        rw [iadd_e, wr (by omega) (by omega)]
        omega
      have e1 : nOf ((2 * k + 1 : Nat) : Int) = 2 * k + 1 := Int.toNat_natCast _
      have e2 : nOf ((2 * k + 2 : Nat) : Int) = 2 * k + 2 := Int.toNat_natCast _
      have e3 : nOf (k : Int) = k := Int.toNat_natCast _
      have stop : ∀ (h : ∀ x, 0 < x → x < q → (x - 1) / 2 = k → ¬ lt2 (el a i x) (el a i k)), Q (.exit 0) [.int .i64 j0, .int .i64 (k : Int)] (pileIn false n m a i) := fun h => hg a i k (down_stop h)
      have ah : ∀ x y : Nat, aheadB (gI a x) (gI i x) (gI a y) (gI i y) = true ↔ lt2 (el a i x) (el a i y) := fun x y => ahead_lt
      have anot : ∀ x y : Nat, bnot (aheadB (gI a x) (gI i x) (gI a y) (gI i y)) = true → ¬ lt2 (el a i x) (el a i y) := fun x y h hh => by rw [bnot_t] at h; rw [← ah, h] at hh; cases hh
      have ayes : ∀ x y : Nat, bnot (aheadB (gI a x) (gI i x) (gI a y) (gI i y)) = false → lt2 (el a i x) (el a i y) := fun x y h => by rw [bnot_f] at h; exact (ah x y).1 h
      rw [w1, w2, e1, e2, e3]
      simp only [nAdd_e, Nat.zero_add]
      rw [br_iff]
      refine ⟨fun h => stop fun x x0 xq hx => ?_, fun h => ?_⟩
      · exfalso
        simp [asrt_iff, br_iff, ieq_t, ieq_f, ine_t, ine_f, ilt_t, ilt_f, ile_t, ile_f, igt_t, igt_f, ige_t, ige_f, nlt_t, nlt_f, nle_t, nle_f, neq_t, neq_f, beq2_t, beq2_f, bnot_t, bnot_f, band_t, band_f, bite_t, bite_f, bimp_t, bimp_f, iadd_e, isub_e, imul_e, ofN_e, nOf_e, nAdd_e, nDiff_e, room_e, lenI_e, gI_e, gB_e, imin_e, imax_e, cat_e, pt_e, put_e, some_f] at h
        omega
      · have hq : 2 * k + 1 < q := by
          simp [asrt_iff, br_iff, ieq_t, ieq_f, ine_t, ine_f, ilt_t, ilt_f, ile_t, ile_f, igt_t, igt_f, ige_t, ige_f, nlt_t, nlt_f, nle_t, nle_f, neq_t, neq_f, beq2_t, beq2_f, bnot_t, bnot_f, band_t, band_f, bite_t, bite_f, bimp_t, bimp_f, iadd_e, isub_e, imul_e, ofN_e, nOf_e, nAdd_e, nDiff_e, room_e, lenI_e, gI_e, gB_e, imin_e, imax_e, cat_e, pt_e, put_e, some_f] at h
          omega
        have cj : band (ile 0 (k : Int)) (ilt (k : Int) (ofN n)) = true := by simp [asrt_iff, br_iff, ieq_t, ieq_f, ine_t, ine_f, ilt_t, ilt_f, ile_t, ile_f, igt_t, igt_f, ige_t, ige_f, nlt_t, nlt_f, nle_t, nle_f, neq_t, neq_f, beq2_t, beq2_f, bnot_t, bnot_f, band_t, band_f, bite_t, bite_f, bimp_t, bimp_f, iadd_e, isub_e, imul_e, ofN_e, nOf_e, nAdd_e, nDiff_e, room_e, lenI_e, gI_e, gB_e, imin_e, imax_e, cat_e, pt_e, put_e, some_f]; omega
        have dj : nlt k m = true := by simp [asrt_iff, br_iff, ieq_t, ieq_f, ine_t, ine_f, ilt_t, ilt_f, ile_t, ile_f, igt_t, igt_f, ige_t, ige_f, nlt_t, nlt_f, nle_t, nle_f, neq_t, neq_f, beq2_t, beq2_f, bnot_t, bnot_f, band_t, band_f, bite_t, bite_f, bimp_t, bimp_f, iadd_e, isub_e, imul_e, ofN_e, nOf_e, nAdd_e, nDiff_e, room_e, lenI_e, gI_e, gB_e, imin_e, imax_e, cat_e, pt_e, put_e, some_f]; omega
        have c1 : band (ile 0 ((2 * k + 1 : Nat) : Int)) (ilt ((2 * k + 1 : Nat) : Int) (ofN n)) = true := by simp [asrt_iff, br_iff, ieq_t, ieq_f, ine_t, ine_f, ilt_t, ilt_f, ile_t, ile_f, igt_t, igt_f, ige_t, ige_f, nlt_t, nlt_f, nle_t, nle_f, neq_t, neq_f, beq2_t, beq2_f, bnot_t, bnot_f, band_t, band_f, bite_t, bite_f, bimp_t, bimp_f, iadd_e, isub_e, imul_e, ofN_e, nOf_e, nAdd_e, nDiff_e, room_e, lenI_e, gI_e, gB_e, imin_e, imax_e, cat_e, pt_e, put_e, some_f]; omega
        have d1 : nlt (2 * k + 1) m = true := by simp [asrt_iff, br_iff, ieq_t, ieq_f, ine_t, ine_f, ilt_t, ilt_f, ile_t, ile_f, igt_t, igt_f, ige_t, ige_f, nlt_t, nlt_f, nle_t, nle_f, neq_t, neq_f, beq2_t, beq2_f, bnot_t, bnot_f, band_t, band_f, bite_t, bite_f, bimp_t, bimp_f, iadd_e, isub_e, imul_e, ofN_e, nOf_e, nAdd_e, nDiff_e, room_e, lenI_e, gI_e, gB_e, imin_e, imax_e, cat_e, pt_e, put_e, some_f]; omega
        have one : ∀ s : Nat, 0 < s → s < q → (s - 1) / 2 = k → (∀ x, 0 < x → x < q → (x - 1) / 2 = k → ¬ lt2 (el a i x) (el a i s)) → ¬ lt2 (el a i s) (el a i k) → Q (.exit 0) [.int .i64 j0, .int .i64 (k : Int)] (pileIn false n m a i) := fun s s0 sq sk hmin hns => stop fun x x0 xq hx hlt => hns (lt2_le (hmin x x0 xq hx) hlt)
        rw [br_iff]
        refine ⟨fun h2 => ?_, fun h2 => ?_⟩
        · have hq2 : 2 * k + 2 < q := by
            simp [asrt_iff, br_iff, ieq_t, ieq_f, ine_t, ine_f, ilt_t, ilt_f, ile_t, ile_f, igt_t, igt_f, ige_t, ige_f, nlt_t, nlt_f, nle_t, nle_f, neq_t, neq_f, beq2_t, beq2_f, bnot_t, bnot_f, band_t, band_f, bite_t, bite_f, bimp_t, bimp_f, iadd_e, isub_e, imul_e, ofN_e, nOf_e, nAdd_e, nDiff_e, room_e, lenI_e, gI_e, gB_e, imin_e, imax_e, cat_e, pt_e, put_e, some_f] at h2
            omega
          have c2 : band (ile 0 ((2 * k + 2 : Nat) : Int)) (ilt ((2 * k + 2 : Nat) : Int) (ofN n)) = true := by simp [asrt_iff, br_iff, ieq_t, ieq_f, ine_t, ine_f, ilt_t, ilt_f, ile_t, ile_f, igt_t, igt_f, ige_t, ige_f, nlt_t, nlt_f, nle_t, nle_f, neq_t, neq_f, beq2_t, beq2_f, bnot_t, bnot_f, band_t, band_f, bite_t, bite_f, bimp_t, bimp_f, iadd_e, isub_e, imul_e, ofN_e, nOf_e, nAdd_e, nDiff_e, room_e, lenI_e, gI_e, gB_e, imin_e, imax_e, cat_e, pt_e, put_e, some_f]; omega
          have d2 : nlt (2 * k + 2) m = true := by simp [asrt_iff, br_iff, ieq_t, ieq_f, ine_t, ine_f, ilt_t, ilt_f, ile_t, ile_f, igt_t, igt_f, ige_t, ige_f, nlt_t, nlt_f, nle_t, nle_f, neq_t, neq_f, beq2_t, beq2_f, bnot_t, bnot_f, band_t, band_f, bite_t, bite_f, bimp_t, bimp_f, iadd_e, isub_e, imul_e, ofN_e, nOf_e, nAdd_e, nDiff_e, room_e, lenI_e, gI_e, gB_e, imin_e, imax_e, cat_e, pt_e, put_e, some_f]; omega
          simp only [asrt_iff, cj, dj, c1, d1, c2, d2, true_and]
          rw [br_iff]
          refine ⟨fun h3 => ?_, fun h3 => ?_⟩
          · have h3 := (ah _ _).1 h3
            rw [br_iff]
            refine ⟨fun h4 => one (2 * k + 2) (by omega) hq2 (by omega) (child_min2 h3) (anot _ _ h4), fun h4 => ⟨?_, ?_, fun a' i' j' hd => hg a' i' j' (down_step (n := q) (j := k) (s := 2 * k + 2) (by omega) (by omega) (by omega) (by omega) hq2 (ayes _ _ h4) (child_min2 h3) hd)⟩⟩
            · simp
              omega
            · simp [asrt_iff, br_iff, ieq_t, ieq_f, ine_t, ine_f, ilt_t, ilt_f, ile_t, ile_f, igt_t, igt_f, ige_t, ige_f, nlt_t, nlt_f, nle_t, nle_f, neq_t, neq_f, beq2_t, beq2_f, bnot_t, bnot_f, band_t, band_f, bite_t, bite_f, bimp_t, bimp_f, iadd_e, isub_e, imul_e, ofN_e, nOf_e, nAdd_e, nDiff_e, room_e, lenI_e, gI_e, gB_e, imin_e, imax_e, cat_e, pt_e, put_e, some_f]
              omega
          · have h3' : ¬ lt2 (el a i (2 * k + 2)) (el a i (2 * k + 1)) := fun hh => by rw [← ah, h3] at hh; cases hh
            have hmin := child_min (n := q) (fun hh : 2 * k + 2 < q ∧ lt2 (el a i (2 * k + 2)) (el a i (2 * k + 1)) => h3' hh.2)
            rw [br_iff]
            refine ⟨fun h4 => one (2 * k + 1) (by omega) hq (by omega) hmin (anot _ _ h4), fun h4 => ⟨?_, ?_, fun a' i' j' hd => hg a' i' j' (down_step (n := q) (j := k) (s := 2 * k + 1) (by omega) (by omega) (by omega) (by omega) hq (ayes _ _ h4) hmin hd)⟩⟩
            · simp
              omega
            · simp [asrt_iff, br_iff, ieq_t, ieq_f, ine_t, ine_f, ilt_t, ilt_f, ile_t, ile_f, igt_t, igt_f, ige_t, ige_f, nlt_t, nlt_f, nle_t, nle_f, neq_t, neq_f, beq2_t, beq2_f, bnot_t, bnot_f, band_t, band_f, bite_t, bite_f, bimp_t, bimp_f, iadd_e, isub_e, imul_e, ofN_e, nOf_e, nAdd_e, nDiff_e, room_e, lenI_e, gI_e, gB_e, imin_e, imax_e, cat_e, pt_e, put_e, some_f]
              omega
        · have hq2 : ¬ 2 * k + 2 < q := by
            simp [asrt_iff, br_iff, ieq_t, ieq_f, ine_t, ine_f, ilt_t, ilt_f, ile_t, ile_f, igt_t, igt_f, ige_t, ige_f, nlt_t, nlt_f, nle_t, nle_f, neq_t, neq_f, beq2_t, beq2_f, bnot_t, bnot_f, band_t, band_f, bite_t, bite_f, bimp_t, bimp_f, iadd_e, isub_e, imul_e, ofN_e, nOf_e, nAdd_e, nDiff_e, room_e, lenI_e, gI_e, gB_e, imin_e, imax_e, cat_e, pt_e, put_e, some_f] at h2
            omega
          have hmin := child_min (n := q) (fun hh : 2 * k + 2 < q ∧ lt2 (el a i (2 * k + 2)) (el a i (2 * k + 1)) => hq2 hh.1)
          simp only [asrt_iff, cj, dj, c1, d1, true_and]
          rw [br_iff]
          refine ⟨fun h4 => one (2 * k + 1) (by omega) hq (by omega) hmin (anot _ _ h4), fun h4 => ⟨?_, ?_, fun a' i' j' hd => hg a' i' j' (down_step (n := q) (j := k) (s := 2 * k + 1) (by omega) (by omega) (by omega) (by omega) hq (ayes _ _ h4) hmin hd)⟩⟩
          · simp
            omega
          · simp [asrt_iff, br_iff, ieq_t, ieq_f, ine_t, ine_f, ilt_t, ilt_f, ile_t, ile_f, igt_t, igt_f, ige_t, ige_f, nlt_t, nlt_f, nle_t, nle_f, neq_t, neq_f, beq2_t, beq2_f, bnot_t, bnot_f, band_t, band_f, bite_t, bite_f, bimp_t, bimp_f, iadd_e, isub_e, imul_e, ofN_e, nOf_e, nAdd_e, nDiff_e, room_e, lenI_e, gI_e, gB_e, imin_e, imax_e, cat_e, pt_e, put_e, some_f]
            omega
  · exact hg.elim

end Go.Own
