/- A pile is made, and emptied, in order. -/
import Derived.Test.YtmilniofdpgbnaaDueB
namespace Go.Own
open Go Go.Proofs
set_option maxRecDepth 100000
set_option linter.unusedVariables false
set_option linter.unusedSimpArgs false

/-- What comes of going through a pile from a place to the top. -/
def initD (a d : List Int) (i : Int) (m : Nat) (a' d' : List Int) : Prop := permD a d a' d' ∧ (hpFrom a d (i + 1).toNat m → hpFrom a' d' 0 m)

/-- In order: nobody is ahead of one ahead of it. -/
def inOrder (l : List (Int × Int)) : Prop := l.Pairwise fun p q => ¬ lt2 q p

/-- What comes of emptying a pile of n. -/
def sortD (a d : List Int) (n : Nat) (oa od oa' od' : List Int) : Prop := oa'.length = oa.length + n ∧ od'.length = od.length + n ∧ (hpFrom a d 0 n → ∃ S : List (Int × Int), oa'.zip od' = oa.zip od ++ S ∧ S.Perm ((a.zip d).take n) ∧ inOrder S)

/-- What comes of laying some of a map's on a pile. -/
def collD (a d A I : List Int) (left : List Nat) (a' d' : List Int) : Prop := a'.length = a.length + left.length ∧ d'.length = d.length + left.length ∧ (a'.zip d').Perm (a.zip d ++ left.map fun i => (A.getD i 0, I.getD i 0))

def nLen (l : List Nat) : Nat := l.length

def insP (x : Int × Int) : List (Int × Int) → List (Int × Int)
  | [] => [x]
  | y :: l => if aheadB y.1 y.2 x.1 x.2 then y :: insP x l else x :: y :: l

def srt (l : List (Int × Int)) : List (Int × Int) := l.foldr insP []

def dA (a d : List Int) : List Int := (srt (a.zip d)).map (·.1)

def dI (a d : List Int) : List Int := (srt (a.zip d)).map (·.2)


theorem insP_perm (x : Int × Int) : ∀ l, (insP x l).Perm (x :: l)
  | [] => List.Perm.refl _
  | y :: l => by
    unfold insP
    split
    · exact ((insP_perm x l).cons y).trans (List.Perm.swap x y l)
    · exact List.Perm.refl _

theorem srt_perm : ∀ l, (srt l).Perm l
  | [] => List.Perm.refl _
  | x :: l => (insP_perm x (srt l)).trans ((srt_perm l).cons x)

theorem lt2_not_trans {p q r : Int × Int} (h : ¬ lt2 q p) (h' : ¬ lt2 r q) : ¬ lt2 r p := by unfold lt2 at *; omega

theorem insP_order {x : Int × Int} : ∀ {l : List (Int × Int)}, inOrder l → inOrder (insP x l)
  | [], _ => by simp [insP, inOrder]
  | y :: l, h => by
    obtain ⟨h1, h2⟩ := List.pairwise_cons.1 h
    unfold insP
    split
    · rename_i hy
      have hy : lt2 y x := ahead_lt.1 hy
      refine List.pairwise_cons.2 ⟨fun z hz => ?_, insP_order h2⟩
      rcases List.mem_cons.1 ((insP_perm x l).subset hz) with rfl | hz
      · exact lt2_asymm hy
      · exact h1 z hz
    · rename_i hy
      have hy : ¬ lt2 y x := fun hh => hy (ahead_lt.2 hh)
      refine List.pairwise_cons.2 ⟨fun z hz => ?_, h⟩
      rcases List.mem_cons.1 hz with rfl | hz
      · exact hy
      · exact lt2_not_trans hy (h1 z hz)

theorem srt_order : ∀ l, inOrder (srt l)
  | [] => List.Pairwise.nil
  | _ :: l => insP_order (srt_order l)

/-- In order there is just one list of some. -/
theorem order_eq : ∀ {l k : List (Int × Int)}, inOrder l → inOrder k → l.Perm k → l = k
  | [], k, _, _, h => (List.nil_perm.1 h).symm
  | x :: l, [], _, _, h => absurd h.symm (by simp)
  | x :: l, y :: k, hl, hk, h => by
    obtain ⟨l1, l2⟩ := List.pairwise_cons.1 hl
    obtain ⟨k1, k2⟩ := List.pairwise_cons.1 hk
    have hxy : x = y := by
      have hx : x ∈ y :: k := h.subset (by simp)
      have hy : y ∈ x :: l := h.symm.subset (by simp)
      rcases List.mem_cons.1 hx with e | hx
      · exact e
      · rcases List.mem_cons.1 hy with e | hy
        · exact e.symm
        · exact lt2_total (k1 x hx) (l1 y hy)
    subst hxy
    rw [order_eq l2 k2 (List.Perm.cons_inv h)]

theorem srt_of {l k : List (Int × Int)} (h : inOrder l) (hp : l.Perm k) : srt k = l := order_eq (srt_order k) h ((srt_perm k).trans hp.symm)

theorem init_step {a d a1 d1 a' d' : List Int} {i m : Nat} (h : downD a d i m a1 d1) (h' : initD a1 d1 ((i : Int) - 1) m a' d') : initD a d i m a' d' := by
  obtain ⟨p1, _, p3⟩ := h
  obtain ⟨q1, q2⟩ := h'
  refine ⟨permD_trans p1 q1, fun hp => q2 ?_⟩
  have e : ((i : Int) - 1 + 1).toNat = i := by omega
  rw [e]
  have e2 : ((i : Int) + 1).toNat = i + 1 := by omega
  rw [e2] at hp
  have := p3 i
  simp only [Int.toNat_natCast] at this
  refine this ⟨fun k k0 km kb kne => hp k k0 km (by omega), fun i0 hb => ?_⟩
  omega

theorem root_min {a d : List Int} {n : Nat} (h : hpFrom a d 0 n) : ∀ k, k < n → ¬ lt2 (el a d k) (el a d 0) := by
  intro k
  induction k using Nat.strongRecOn with
  | ind k ih =>
    intro hk
    by_cases h0 : k = 0
    · subst h0
      exact fun hh => lt2_asymm hh hh
    · exact lt2_not_trans (ih ((k - 1) / 2) (by omega) (by omega)) (h k (by omega) hk (by omega))

theorem el_zip {a d : List Int} {k : Nat} (h : k < a.length) (h2 : d.length = a.length) : (a.zip d)[k]? = some (el a d k) := by
  rw [List.getElem?_eq_getElem (by simp; omega)]
  simp [el, List.getD_eq_getElem?_getD, h, show k < d.length by omega]

theorem sort_step {a d a1 d1 oa od oa' od' : List Int} {n : Nat} (hn : n + 1 ≤ a.length) (hl : d.length = a.length) (hlo : od.length = oa.length) (h : downD (sw a 0 n) (sw d 0 n) 0 n a1 d1)
    (h' : sortD a1 d1 n (oa ++ [a1.getD n 0]) (od ++ [d1.getD n 0]) oa' od') : sortD a d (n + 1) oa od oa' od' := by
  obtain ⟨q1, q2, q3⟩ := h'
  obtain ⟨p1, p2, p3⟩ := h
  simp only [Int.toNat_natCast] at p2 p3
  have E := el_sw (a := a) (i := d) (j := 0) (k := n) (by omega) (by omega) hl
  have hpm := permD_trans (sw_perm (a := a) (i := d) (j := 0) (k := n) (by omega) (by omega) hl) p1
  refine ⟨by rw [q1]; simp; omega, by rw [q2]; simp; omega, fun hp => ?_⟩
  have hx : el a1 d1 n = el a d 0 := by rw [p2 n (Nat.le_refl _), E, if_pos rfl]
  obtain ⟨S, s1, s2, s3⟩ := q3 (p3 0 ⟨fun k k0 kn _ kne => by
    have e0 : (0 : Int).toNat = 0 := rfl
    rw [e0] at kne
    rw [E k, E ((k - 1) / 2), if_neg (by omega), if_neg (by omega), if_neg (by omega), if_neg kne]
    exact hp k k0 (by omega) (by omega), fun h => by simp at h⟩)
  have l1 : a1.length = a.length := hpm.1
  have l2 : d1.length = a.length := by rw [hpm.2.1, hl]
  -- what is left, and the first one, are all of them
  have htail : (a1.zip d1).drop (n + 1) = (a.zip d).drop (n + 1) := by
    apply List.ext_getElem?
    intro k
    rw [List.getElem?_drop, List.getElem?_drop]
    by_cases hk : n + 1 + k < a.length
    · rw [el_zip (by omega) (by omega), el_zip hk hl, p2 _ (by omega), E, if_neg (by omega), if_neg (by omega)]
    · rw [List.getElem?_eq_none (by simp; omega), List.getElem?_eq_none (by simp; omega)]
  have htake : (a1.zip d1).take (n + 1) = (a1.zip d1).take n ++ [el a d 0] := by
    rw [List.take_add_one, el_zip (by omega) (by omega), hx]
    rfl
  have hall : ((a1.zip d1).take (n + 1)).Perm ((a.zip d).take (n + 1)) := by
    have h1 := hpm.2.2
    rw [← List.take_append_drop (n + 1) (a1.zip d1), ← List.take_append_drop (n + 1) (a.zip d), htail] at h1
    exact (List.perm_append_right_iff _).1 h1
  rw [htake] at hall
  have hmem : ∀ y ∈ S, ¬ lt2 y (el a d 0) := by
    intro y hy
    have h1 : y ∈ (a.zip d).take (n + 1) := hall.subset (List.mem_append_left _ (s2.subset hy))
    obtain ⟨k, hk⟩ := List.getElem?_of_mem h1
    rw [List.getElem?_take] at hk
    split at hk
    · rename_i hlt
      rw [el_zip (by omega) hl] at hk
      cases hk
      exact root_min hp k hlt
    · cases hk
  refine ⟨el a d 0 :: S, ?_, ?_, List.pairwise_cons.2 ⟨hmem, s3⟩⟩
  · rw [s1]
    have e : (oa ++ [a1.getD n 0]).zip (od ++ [d1.getD n 0]) = oa.zip od ++ [el a d 0] := by
      rw [List.zip_append hlo.symm]
      have : (a1.getD n 0, d1.getD n 0) = el a d 0 := hx
      simp only [List.zip_cons_cons, List.zip_nil_right, this]
    rw [e, List.append_assoc]
    rfl
  · exact ((s2.cons _).trans (List.perm_append_singleton (el a d 0) ((a1.zip d1).take n)).symm).trans hall

theorem sort_none {a d oa od : List Int} : sortD a d 0 oa od oa od := ⟨rfl, rfl, fun _ => ⟨[], by simp, by simp, List.Pairwise.nil⟩⟩

def spec_init : LoopSpec := { n := 17, keep := [0, 2, 3], srcs := [.tmp 0, .cell 0 0], keepE := [0], srcsE := [.tmp 0, .cell 0 0], goes := fun vals objs Q => match vals, objs with
  | [.ifc t (.ptr 0 0 0), .int .i64 n, .int .i64 i], [some (.var [.full 1]), some (.row e m [.int .i64 a, .int .i64 d])] => asrt (band (neq t 78) (neq e 43)) (asrt (band (nle m 1000000) (band (ieq n (ofN m)) (band (ile (-1) i) (ile i (ofN m))))) (∀ a' d' : List Int, initD a d i m a' d' → Q (.exit 0) [.ifc 78 (.ptr 0 0 0)] [some (.var [.full 1]), some (.row 43 m [.int .i64 a', .int .i64 d'])]))
  | _, _ => False }

def Ldown : List (FuncId × Nat × LoopS) := [(61, 0, .frame spec_down.framed)]

theorem ok_Ldown : ∀ p ∈ Ldown, LoopHyp Try.prog p.1 p.2.1 p.2.2 := by
  intro p hp
  simp only [Ldown, List.mem_cons, List.not_mem_nil, or_false] at hp
  rcases hp with rfl
  · exact ⟨by kernel_rfl, loop_down⟩


theorem lp_init (m : Nat) (a d : List Int) (n i : Int) (mu : List AV → Heap → Nat) (Q : Ex → List AV → Heap → Prop) : runCode Try.prog (tabS tabD0) (callN Try.prog (tabS tabD0) (tabL Ldown) 11) (fun _ => none) (bodyOf Try.prog 59 0) 0 ⟨mkT (spec_init).keep [.ifc 78 (.ptr 0 0 0), .int .i64 n, .int .i64 i] (spec_init).n 0, [some (.var [.full 1]), some (.row 43 m [.int .i64 a, .int .i64 d])]⟩ ((spec_init).endsA mu [.ifc 78 (.ptr 0 0 0), .int .i64 n, .int .i64 i] ([some (.var [.full 1]), some (.row 43 m [.int .i64 a, .int .i64 d])]) Q) = (
  br (ige i 0)
    (asrt
      (band (nle m 1000000) (band (nle m m) (band (ile 0 i) (band (ile i (ofN m)) (band (ile 0 n) (ile n (ofN m)))))))
      (∀ (a' i' : List Int) (j' : Int),
        downD a d i n a' i' →
          (mu [AV.ifc 78 (AV.ptr 0 0 0), AV.int IntKind.i64 n, AV.int IntKind.i64 (isub IntKind.i64 i 1)]
                    [some (AObj.var [AV.full 1]),
                      some (AObj.row 43 m [Col.int IntKind.i64 a', Col.int IntKind.i64 i'])]).succ.le
              (mu [AV.ifc 78 (AV.ptr 0 0 0), AV.int IntKind.i64 n, AV.int IntKind.i64 i]
                [some (AObj.var [AV.full 1]), some (AObj.row 43 m [Col.int IntKind.i64 a, Col.int IntKind.i64 d])]) ∧
            asrt
              (band (nle m 1000000)
                (band (ieq n (ofN m)) (band (ile (-1) (isub IntKind.i64 i 1)) (ile (isub IntKind.i64 i 1) (ofN m)))))
              (∀ (a'_1 d' : List Int),
                initD a' i' (isub IntKind.i64 i 1) m a'_1 d' →
                  Q (Ex.exit 0) [AV.ifc 78 (AV.ptr 0 0 0)]
                    [some (AObj.var [AV.full 1]),
                      some (AObj.row 43 m [Col.int IntKind.i64 a'_1, Col.int IntKind.i64 d'])])))
    (Q (Ex.exit 0) [AV.ifc 78 (AV.ptr 0 0 0)]
      [some (AObj.var [AV.full 1]), some (AObj.row 43 m [Col.int IntKind.i64 a, Col.int IntKind.i64 d])])) := by kernel_rfl

theorem loop_init : LoopFr Try.prog (bodyOf Try.prog 59 0) spec_init.framed := by
  refine tab_loopAV mixed (l := tabD0) ok_tabD0 (ll := Ldown) ok_Ldown (i := 0) spec_init (fun vals objs => match vals with
    | [_, _, .int .i64 i] => (i + 1).toNat
    | _ => 0) fun vals objs Q h1 h2 wf wo hg => ?_
  unfold spec_init at hg
  simp only at hg
  split at hg
  · rename_i ty n i e m a d
    clear h1 h2
    have r := (asrt_iff.1 hg).1
    rw [band_t, neq_t, neq_t] at r
    have r1 := r.1
    have r2 := r.2
    subst r1
    subst r2
    rw [lp_init]
    replace hg := (asrt_iff.1 hg).2
    simp only [asrt_iff, band_t, nle_t, ile_t, ieq_t, ofN_e] at hg
    obtain ⟨⟨hm, rfl, h0, hi⟩, hg⟩ := hg
    rw [br_iff]
    refine ⟨fun h => ?_, fun h => ?_⟩
    · have h0' : 0 ≤ i := by simpa [asrt_iff, br_iff, ieq_t, ieq_f, ine_t, ine_f, ilt_t, ilt_f, ile_t, ile_f, igt_t, igt_f, ige_t, ige_f, nlt_t, nlt_f, nle_t, nle_f, neq_t, neq_f, beq2_t, beq2_f, bnot_t, bnot_f, band_t, band_f, bite_t, bite_f, bimp_t, bimp_f, iadd_e, isub_e, imul_e, ofN_e, nOf_e, nAdd_e, nDiff_e, room_e, lenI_e, gI_e, gB_e, imin_e, imax_e, cat_e, pt_e, put_e, some_f] using h
      obtain ⟨k, rfl⟩ := Int.eq_ofNat_of_zero_le h0'
      have w : isub .i64 (k : Int) 1 = (k : Int) - 1 := by rw [isub_e, wr (by omega) (by omega)]
      simp only [asrt_iff, w]
      refine ⟨by simp [asrt_iff, br_iff, ieq_t, ieq_f, ine_t, ine_f, ilt_t, ilt_f, ile_t, ile_f, igt_t, igt_f, ige_t, ige_f, nlt_t, nlt_f, nle_t, nle_f, neq_t, neq_f, beq2_t, beq2_f, bnot_t, bnot_f, band_t, band_f, bite_t, bite_f, bimp_t, bimp_f, iadd_e, isub_e, imul_e, ofN_e, nOf_e, nAdd_e, nDiff_e, room_e, lenI_e, gI_e, gB_e, imin_e, imax_e, cat_e, pt_e, put_e, some_f]; omega, fun a1 d1 j' hd => ⟨?_, ?_, fun a' d' hi' => hg a' d' (init_step hd hi')⟩⟩
      · show ((k : Int) - 1 + 1).toNat.succ ≤ ((k : Int) + 1).toNat
        omega
      · simp [asrt_iff, br_iff, ieq_t, ieq_f, ine_t, ine_f, ilt_t, ilt_f, ile_t, ile_f, igt_t, igt_f, ige_t, ige_f, nlt_t, nlt_f, nle_t, nle_f, neq_t, neq_f, beq2_t, beq2_f, bnot_t, bnot_f, band_t, band_f, bite_t, bite_f, bimp_t, bimp_f, iadd_e, isub_e, imul_e, ofN_e, nOf_e, nAdd_e, nDiff_e, room_e, lenI_e, gI_e, gB_e, imin_e, imax_e, cat_e, pt_e, put_e, some_f]
        omega
    · have h0' : i < 0 := by simpa [asrt_iff, br_iff, ieq_t, ieq_f, ine_t, ine_f, ilt_t, ilt_f, ile_t, ile_f, igt_t, igt_f, ige_t, ige_f, nlt_t, nlt_f, nle_t, nle_f, neq_t, neq_f, beq2_t, beq2_f, bnot_t, bnot_f, band_t, band_f, bite_t, bite_f, bimp_t, bimp_f, iadd_e, isub_e, imul_e, ofN_e, nOf_e, nAdd_e, nDiff_e, room_e, lenI_e, gI_e, gB_e, imin_e, imax_e, cat_e, pt_e, put_e, some_f] using h
      have : i = -1 := by omega
      subst this
      exact hg a d ⟨permD_refl a d, fun h => h⟩
  · exact hg.elim

def asPile3 : Heap → Option (TypeId × TypeId × Nat × Bool × Nat × Nat × List Int × List Int × Nat × List Int × List Int)
  | [some (.var [.full 1]), some (.row e m [.int .i64 a, .int .i64 d]), some (.row e2 k [.int .i64 oa, .int .i64 od])] => some (e, e2, 0, true, m, m, a, d, k, oa, od)
  | [some (.var [.osl 1 o n]), some (.row e m [.int .i64 a, .int .i64 d]), some (.row e2 k [.int .i64 oa, .int .i64 od])] => some (e, e2, o, false, n, m, a, d, k, oa, od)
  | _ => none

def pile3 (full : Bool) (n m : Nat) (a d : List Int) (k : Nat) (oa od : List Int) : Heap := match full with
  | true => [some (.var [.full 1]), some (.row 43 m [.int .i64 a, .int .i64 d]), some (.row 43 k [.int .i64 oa, .int .i64 od])]
  | false => [some (.var [.osl 1 0 n]), some (.row 43 m [.int .i64 a, .int .i64 d]), some (.row 43 k [.int .i64 oa, .int .i64 od])]

def spec_sorted : LoopSpec := { n := 15, keep := [0, 2], srcs := [.tmp 0, .cell 0 0, .tmp 2], keepE := [0, 2], srcsE := [.tmp 0, .cell 0 0, .tmp 2], goes := fun vals objs Q => match vals, asPile3 objs with
  | [.ifc t (.ptr 0 0 0), .full 2], some (e, e2, o, full, n, m, a, d, k, oa, od) => asrt (band (neq t 78) (band (neq e 43) (band (neq e2 43) (neq o 0)))) (asrt (band (nle m 1000000) (band (nle n m) (nle (nAdd k n) 1000000))) (match full with
    | true => br (neq n 0) (Q (.exit 0) [.ifc 78 (.ptr 0 0 0), .full 2] (pile3 true m m a d k oa od)) (∀ a' d' oa' od' : List Int, sortD a d n oa od oa' od' → Q (.exit 0) [.ifc 78 (.ptr 0 0 0), .full 2] (pile3 false 0 m a' d' (lenI oa') oa' od'))
    | false => ∀ a' d' oa' od' : List Int, sortD a d n oa od oa' od' → Q (.exit 0) [.ifc 78 (.ptr 0 0 0), .full 2] (pile3 false 0 m a' d' (lenI oa') oa' od')))
  | _, _ => False }

theorem lp_sortedF (m : Nat) (a d : List Int) (k : Nat) (oa od : List Int) (mu : List AV → Heap → Nat) (Q : Ex → List AV → Heap → Prop) : runCode Try.prog (tabS tabD0) (callN Try.prog (tabS tabD0) (tabL Ldown) 11) (fun _ => none) (bodyOf Try.prog 57 0) 0 ⟨mkT (spec_sorted).keep [.ifc 78 (.ptr 0 0 0), .full 2] (spec_sorted).n 0, pile3 true m m a d k oa od⟩ ((spec_sorted).endsA mu [.ifc 78 (.ptr 0 0 0), .full 2] (pile3 true m m a d k oa od) Q) = (
  br (igt (ofN m) 0)
    (asrt (band (ile 0 (isub IntKind.i64 (ofN m) 1)) (ilt (isub IntKind.i64 (ofN m) 1) (ofN m)))
      (asrt (nlt (nOf (isub IntKind.i64 (ofN m) 1)) m)
        (asrt (ilt 0 (ofN m))
          (asrt (nlt 0 m)
            (asrt (ilt 0 (ofN m))
              (asrt (nlt 0 m)
                (asrt (band (ile 0 (isub IntKind.i64 (ofN m) 1)) (ilt (isub IntKind.i64 (ofN m) 1) (ofN m)))
                  (asrt (nlt (nOf (isub IntKind.i64 (ofN m) 1)) m)
                    (asrt
                      (band (nle m 1000000)
                        (band (nle m m)
                          (band (ile 0 (ofN m))
                            (band (ile 0 (isub IntKind.i64 (ofN m) 1)) (ile (isub IntKind.i64 (ofN m) 1) (ofN m))))))
                      (∀ (a' i' : List Int) (j' : Int),
                        downD
                            (put (put a (nOf 0) (gI a (nOf (isub IntKind.i64 (ofN m) 1))))
                              (nOf (isub IntKind.i64 (ofN m) 1)) (gI a (nOf 0)))
                            (put (put d (nOf 0) (gI d (nOf (isub IntKind.i64 (ofN m) 1))))
                              (nOf (isub IntKind.i64 (ofN m) 1)) (gI d (nOf 0)))
                            0 (isub IntKind.i64 (ofN m) 1) a' i' →
                          asrt (band (ile 0 (isub IntKind.i64 (ofN m) 1)) (ilt (isub IntKind.i64 (ofN m) 1) (ofN m)))
                            (asrt (nlt (nOf (isub IntKind.i64 (ofN m) 1)) m)
                              (asrt
                                (band (ile 0 (isub IntKind.i64 (ofN m) 1)) (ile (isub IntKind.i64 (ofN m) 1) (ofN m)))
                                (asrt (nle (nAdd k 1) 8796093022208)
                                  ((mu [AV.ifc 78 (AV.ptr 0 0 0), AV.full 2]
                                            [some (AObj.var [AV.osl 1 0 (nOf (isub IntKind.i64 (ofN m) 1))]),
                                              some (AObj.row 43 m [Col.int IntKind.i64 a', Col.int IntKind.i64 i']),
                                              some
                                                (AObj.row 43 (nAdd k 1)
                                                  [Col.int IntKind.i64
                                                      (cat oa [gI a' (nOf (isub IntKind.i64 (ofN m) 1))]),
                                                    Col.int IntKind.i64
                                                      (cat od [gI i' (nOf (isub IntKind.i64 (ofN m) 1))])])]).succ.le
                                      (mu [AV.ifc 78 (AV.ptr 0 0 0), AV.full 2]
                                        [some (AObj.var [AV.full 1]),
                                          some (AObj.row 43 m [Col.int IntKind.i64 a, Col.int IntKind.i64 d]),
                                          some (AObj.row 43 k [Col.int IntKind.i64 oa, Col.int IntKind.i64 od])]) ∧
                                    asrt
                                      (band (nle m 1000000)
                                        (band (nle (nOf (isub IntKind.i64 (ofN m) 1)) m)
                                          (nle (nAdd (nAdd k 1) (nOf (isub IntKind.i64 (ofN m) 1))) 1000000)))
                                      (∀ (a'_1 d' oa' od' : List Int),
                                        sortD a' i' (nOf (isub IntKind.i64 (ofN m) 1))
                                            (cat oa [gI a' (nOf (isub IntKind.i64 (ofN m) 1))])
                                            (cat od [gI i' (nOf (isub IntKind.i64 (ofN m) 1))]) oa' od' →
                                          Q (Ex.exit 0) [AV.ifc 78 (AV.ptr 0 0 0), AV.full 2]
                                            [some (AObj.var [AV.osl 1 0 0]),
                                              some (AObj.row 43 m [Col.int IntKind.i64 a'_1, Col.int IntKind.i64 d']),
                                              some
                                                (AObj.row 43 (lenI oa')
                                                  [Col.int IntKind.i64 oa', Col.int IntKind.i64 od'])])))))))))))))))
    (Q (Ex.exit 0) [AV.ifc 78 (AV.ptr 0 0 0), AV.full 2]
      [some (AObj.var [AV.full 1]), some (AObj.row 43 m [Col.int IntKind.i64 a, Col.int IntKind.i64 d]),
        some (AObj.row 43 k [Col.int IntKind.i64 oa, Col.int IntKind.i64 od])])) := by kernel_rfl

theorem lp_sortedO (n m : Nat) (a d : List Int) (k : Nat) (oa od : List Int) (mu : List AV → Heap → Nat) (Q : Ex → List AV → Heap → Prop) : runCode Try.prog (tabS tabD0) (callN Try.prog (tabS tabD0) (tabL Ldown) 11) (fun _ => none) (bodyOf Try.prog 57 0) 0 ⟨mkT (spec_sorted).keep [.ifc 78 (.ptr 0 0 0), .full 2] (spec_sorted).n 0, pile3 false n m a d k oa od⟩ ((spec_sorted).endsA mu [.ifc 78 (.ptr 0 0 0), .full 2] (pile3 false n m a d k oa od) Q) = (
  br (igt (ofN n) 0)
    (asrt (band (ile 0 (isub IntKind.i64 (ofN n) 1)) (ilt (isub IntKind.i64 (ofN n) 1) (ofN n)))
      (asrt (nlt (nAdd 0 (nOf (isub IntKind.i64 (ofN n) 1))) m)
        (asrt (ilt 0 (ofN n))
          (asrt (nlt 0 m)
            (asrt (ilt 0 (ofN n))
              (asrt (nlt 0 m)
                (asrt (band (ile 0 (isub IntKind.i64 (ofN n) 1)) (ilt (isub IntKind.i64 (ofN n) 1) (ofN n)))
                  (asrt (nlt (nAdd 0 (nOf (isub IntKind.i64 (ofN n) 1))) m)
                    (asrt
                      (band (nle m 1000000)
                        (band (nle n m)
                          (band (ile 0 (ofN n))
                            (band (ile 0 (isub IntKind.i64 (ofN n) 1)) (ile (isub IntKind.i64 (ofN n) 1) (ofN n))))))
                      (∀ (a' i' : List Int) (j' : Int),
                        downD
                            (put (put a (nAdd 0 (nOf 0)) (gI a (nAdd 0 (nOf (isub IntKind.i64 (ofN n) 1)))))
                              (nAdd 0 (nOf (isub IntKind.i64 (ofN n) 1))) (gI a (nAdd 0 (nOf 0))))
                            (put (put d (nAdd 0 (nOf 0)) (gI d (nAdd 0 (nOf (isub IntKind.i64 (ofN n) 1)))))
                              (nAdd 0 (nOf (isub IntKind.i64 (ofN n) 1))) (gI d (nAdd 0 (nOf 0))))
                            0 (isub IntKind.i64 (ofN n) 1) a' i' →
                          asrt (band (ile 0 (isub IntKind.i64 (ofN n) 1)) (ilt (isub IntKind.i64 (ofN n) 1) (ofN n)))
                            (asrt (nlt (nAdd 0 (nOf (isub IntKind.i64 (ofN n) 1))) m)
                              (asrt
                                (band (ile 0 (isub IntKind.i64 (ofN n) 1))
                                  (nle (nAdd 0 (nOf (isub IntKind.i64 (ofN n) 1))) m))
                                (asrt (nle (nAdd k 1) 8796093022208)
                                  ((mu [AV.ifc 78 (AV.ptr 0 0 0), AV.full 2]
                                            [some (AObj.var [AV.osl 1 0 (nDiff (isub IntKind.i64 (ofN n) 1) 0)]),
                                              some (AObj.row 43 m [Col.int IntKind.i64 a', Col.int IntKind.i64 i']),
                                              some
                                                (AObj.row 43 (nAdd k 1)
                                                  [Col.int IntKind.i64
                                                      (cat oa [gI a' (nAdd 0 (nOf (isub IntKind.i64 (ofN n) 1)))]),
                                                    Col.int IntKind.i64
                                                      (cat od
                                                        [gI i' (nAdd 0 (nOf (isub IntKind.i64 (ofN n) 1)))])])]).succ.le
                                      (mu [AV.ifc 78 (AV.ptr 0 0 0), AV.full 2]
                                        [some (AObj.var [AV.osl 1 0 n]),
                                          some (AObj.row 43 m [Col.int IntKind.i64 a, Col.int IntKind.i64 d]),
                                          some (AObj.row 43 k [Col.int IntKind.i64 oa, Col.int IntKind.i64 od])]) ∧
                                    asrt
                                      (band (nle m 1000000)
                                        (band (nle (nDiff (isub IntKind.i64 (ofN n) 1) 0) m)
                                          (nle (nAdd (nAdd k 1) (nDiff (isub IntKind.i64 (ofN n) 1) 0)) 1000000)))
                                      (∀ (a'_1 d' oa' od' : List Int),
                                        sortD a' i' (nDiff (isub IntKind.i64 (ofN n) 1) 0)
                                            (cat oa [gI a' (nAdd 0 (nOf (isub IntKind.i64 (ofN n) 1)))])
                                            (cat od [gI i' (nAdd 0 (nOf (isub IntKind.i64 (ofN n) 1)))]) oa' od' →
                                          Q (Ex.exit 0) [AV.ifc 78 (AV.ptr 0 0 0), AV.full 2]
                                            [some (AObj.var [AV.osl 1 0 0]),
                                              some (AObj.row 43 m [Col.int IntKind.i64 a'_1, Col.int IntKind.i64 d']),
                                              some
                                                (AObj.row 43 (lenI oa')
                                                  [Col.int IntKind.i64 oa', Col.int IntKind.i64 od'])])))))))))))))))
    (Q (Ex.exit 0) [AV.ifc 78 (AV.ptr 0 0 0), AV.full 2]
      [some (AObj.var [AV.osl 1 0 n]), some (AObj.row 43 m [Col.int IntKind.i64 a, Col.int IntKind.i64 d]),
        some (AObj.row 43 k [Col.int IntKind.i64 oa, Col.int IntKind.i64 od])])) := by kernel_rfl

theorem asPile3_some {os : Heap} {e e2 : TypeId} {o : Nat} {full : Bool} {n m : Nat} {a d : List Int} {k : Nat} {oa od : List Int} (h : asPile3 os = some (e, e2, o, full, n, m, a, d, k, oa, od)) (he : e = 43 ∧ e2 = 43 ∧ o = 0) : os = pile3 full n m a d k oa od ∧ (full = true → n = m) := by
  obtain ⟨rfl, rfl, rfl⟩ := he
  unfold asPile3 at h
  split at h
  · cases h
    exact ⟨rfl, fun _ => rfl⟩
  · cases h
    exact ⟨rfl, fun h => by cases h⟩
  · cases h

theorem loop_sorted : LoopFr Try.prog (bodyOf Try.prog 57 0) spec_sorted.framed := by
  refine tab_loopAV mixed (l := tabD0) ok_tabD0 (ll := Ldown) ok_Ldown (i := 0) spec_sorted (fun vals objs => match asPile3 objs with
    | some (_, _, _, _, n, _) => n
    | none => 0) fun vals objs Q h1 h2 wf wo hg => ?_
  unfold spec_sorted at hg
  simp only at hg
  split at hg
  · rename_i ty e e2 o full n m a d k oa od hx
    clear h1 h2
    have r := (asrt_iff.1 hg).1
    simp only [band_t, neq_t] at r
    have r1 := r.1
    have he := asPile3_some hx r.2
    have r3 := he.1
    have hfm := he.2
    clear hx he
    subst r1
    subst r3
    replace hg := (asrt_iff.1 hg).2
    cases full with
    | true =>
      have hfm := hfm rfl
      subst hfm
      rw [lp_sortedF]
      simp only at hg
      obtain ⟨⟨wa, wd⟩, wo1, wo2⟩ : (a.length = n ∧ d.length = n) ∧ oa.length = k ∧ od.length = k := by
        refine ⟨?_, ?_⟩
        · simpa [WFO, Col.len] using wo (some (.row 43 n [.int .i64 a, .int .i64 d])) (by simp [pile3]) _ rfl
        · simpa [WFO, Col.len] using wo (some (.row 43 k [.int .i64 oa, .int .i64 od])) (by simp [pile3]) _ rfl
      simp only [asrt_iff, band_t, nle_t, nAdd_e, br_iff] at hg
      obtain ⟨⟨hm, hnm, hkn⟩, hg⟩ := hg
      rw [br_iff]
      refine ⟨fun h => ?_, fun h => ?_⟩
      · have hn0 : 0 < n := by
          simp [asrt_iff, br_iff, ieq_t, ieq_f, ine_t, ine_f, ilt_t, ilt_f, ile_t, ile_f, igt_t, igt_f, ige_t, ige_f, nlt_t, nlt_f, nle_t, nle_f, neq_t, neq_f, beq2_t, beq2_f, bnot_t, bnot_f, band_t, band_f, bite_t, bite_f, bimp_t, bimp_f, iadd_e, isub_e, imul_e, ofN_e, nOf_e, nAdd_e, nDiff_e, room_e, lenI_e, gI_e, gB_e, imin_e, imax_e, cat_e, pt_e, put_e, some_f] at h
          omega
        obtain ⟨q, rfl⟩ : ∃ q, n = q + 1 := ⟨n - 1, by omega⟩
        have w : isub .i64 (ofN (q + 1)) 1 = (q : Int) := by
          rw [isub_e, ofN_e, wr (by omega) (by omega)]
          omega
        have e1 : nOf (q : Int) = q := Int.toNat_natCast q
        have e2 : nOf 0 = 0 := rfl
        have e3 : nDiff (q : Int) 0 = q := by rw [nDiff_e]; omega
        simp only [w, e1, e2, e3, nAdd_e, Nat.zero_add, asrt_iff, Nat.add_zero]
        refine ⟨?_, ?_, ?_, ?_, ?_, ?_, ?_, ?_, ?_, fun a1 d1 j' hd => ⟨?_, ?_, ?_, ?_, ?_, ?_, fun a' d' oa' od' hs => hg.2 (by simp [neq]) a' d' oa' od' (sort_step (n := q) (by omega) (by omega) (by omega) hd hs)⟩⟩
        case refine_14 =>
          show q.succ ≤ q + 1
          omega
        all_goals (simp [asrt_iff, br_iff, ieq_t, ieq_f, ine_t, ine_f, ilt_t, ilt_f, ile_t, ile_f, igt_t, igt_f, ige_t, ige_f, nlt_t, nlt_f, nle_t, nle_f, neq_t, neq_f, beq2_t, beq2_f, bnot_t, bnot_f, band_t, band_f, bite_t, bite_f, bimp_t, bimp_f, iadd_e, isub_e, imul_e, ofN_e, nOf_e, nAdd_e, nDiff_e, room_e, lenI_e, gI_e, gB_e, imin_e, imax_e, cat_e, pt_e, put_e, some_f]; try omega)
      · have hn0 : n = 0 := by
          simp [asrt_iff, br_iff, ieq_t, ieq_f, ine_t, ine_f, ilt_t, ilt_f, ile_t, ile_f, igt_t, igt_f, ige_t, ige_f, nlt_t, nlt_f, nle_t, nle_f, neq_t, neq_f, beq2_t, beq2_f, bnot_t, bnot_f, band_t, band_f, bite_t, bite_f, bimp_t, bimp_f, iadd_e, isub_e, imul_e, ofN_e, nOf_e, nAdd_e, nDiff_e, room_e, lenI_e, gI_e, gB_e, imin_e, imax_e, cat_e, pt_e, put_e, some_f] at h
          omega
        subst hn0
        exact hg.1 (by simp [neq])
    | false =>
      rw [lp_sortedO]
      simp only at hg
      obtain ⟨⟨wa, wd⟩, wo1, wo2⟩ : (a.length = m ∧ d.length = m) ∧ oa.length = k ∧ od.length = k := by
        refine ⟨?_, ?_⟩
        · simpa [WFO, Col.len] using wo (some (.row 43 m [.int .i64 a, .int .i64 d])) (by simp [pile3]) _ rfl
        · simpa [WFO, Col.len] using wo (some (.row 43 k [.int .i64 oa, .int .i64 od])) (by simp [pile3]) _ rfl
      simp only [asrt_iff, band_t, nle_t, nAdd_e] at hg
      obtain ⟨⟨hm, hnm, hkn⟩, hg⟩ := hg
      rw [br_iff]
      refine ⟨fun h => ?_, fun h => ?_⟩
      · have hn0 : 0 < n := by
          simp [asrt_iff, br_iff, ieq_t, ieq_f, ine_t, ine_f, ilt_t, ilt_f, ile_t, ile_f, igt_t, igt_f, ige_t, ige_f, nlt_t, nlt_f, nle_t, nle_f, neq_t, neq_f, beq2_t, beq2_f, bnot_t, bnot_f, band_t, band_f, bite_t, bite_f, bimp_t, bimp_f, iadd_e, isub_e, imul_e, ofN_e, nOf_e, nAdd_e, nDiff_e, room_e, lenI_e, gI_e, gB_e, imin_e, imax_e, cat_e, pt_e, put_e, some_f] at h
          omega
        obtain ⟨q, rfl⟩ : ∃ q, n = q + 1 := ⟨n - 1, by omega⟩
        have w : isub .i64 (ofN (q + 1)) 1 = (q : Int) := by
          rw [isub_e, ofN_e, wr (by omega) (by omega)]
          omega
        have e1 : nOf (q : Int) = q := Int.toNat_natCast q
        have e2 : nOf 0 = 0 := rfl
        have e3 : nDiff (q : Int) 0 = q := by rw [nDiff_e]; omega
        simp only [w, e1, e2, e3, nAdd_e, Nat.zero_add, asrt_iff, Nat.add_zero]
        refine ⟨?_, ?_, ?_, ?_, ?_, ?_, ?_, ?_, ?_, fun a1 d1 j' hd => ⟨?_, ?_, ?_, ?_, ?_, ?_, fun a' d' oa' od' hs => hg a' d' oa' od' (sort_step (n := q) (by omega) (by omega) (by omega) hd hs)⟩⟩
        case refine_14 =>
          show q.succ ≤ q + 1
          omega
        all_goals (simp [asrt_iff, br_iff, ieq_t, ieq_f, ine_t, ine_f, ilt_t, ilt_f, ile_t, ile_f, igt_t, igt_f, ige_t, ige_f, nlt_t, nlt_f, nle_t, nle_f, neq_t, neq_f, beq2_t, beq2_f, bnot_t, bnot_f, band_t, band_f, bite_t, bite_f, bimp_t, bimp_f, iadd_e, isub_e, imul_e, ofN_e, nOf_e, nAdd_e, nDiff_e, room_e, lenI_e, gI_e, gB_e, imin_e, imax_e, cat_e, pt_e, put_e, some_f]; try omega)
      · have hn0 : n = 0 := by
          simp [asrt_iff, br_iff, ieq_t, ieq_f, ine_t, ine_f, ilt_t, ilt_f, ile_t, ile_f, igt_t, igt_f, ige_t, ige_f, nlt_t, nlt_f, nle_t, nle_f, neq_t, neq_f, beq2_t, beq2_f, bnot_t, bnot_f, band_t, band_f, bite_t, bite_f, bimp_t, bimp_f, iadd_e, isub_e, imul_e, ofN_e, nOf_e, nAdd_e, nDiff_e, room_e, lenI_e, gI_e, gB_e, imin_e, imax_e, cat_e, pt_e, put_e, some_f] at h
          omega
        subst hn0
        exact hg a d oa od (by have := sort_none (a := a) (d := d) (oa := oa) (od := od); exact this) |> fun z => by rw [lenI_e, wo1] at z; exact z
  · exact hg.elim

end Go.Own
