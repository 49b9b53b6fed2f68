/- Dues: times, threads, which is ahead; by their threads; whether they may be. -/
import Derived.Test.YtmilniofdpgbnaaSeq
namespace Go.Own
open Go Go.Proofs
set_option maxRecDepth 100000
set_option linter.unusedVariables false
set_option linter.unusedSimpArgs false

def aheadB (a i b j : Int) : Bool := decide (a < b ∨ (a = b ∧ i < j))

def dtime (x : Int) : Bool := decide (0 ≤ x ∧ x ≤ 1099511627776)

def did (x : Int) : Bool := decide (0 ≤ x ∧ x < 16)

/-- By threads, from the i-th on. -/
def byK (ks id : List Int) (i : Nat) : List Int := (id.drop i).foldl mkey ks

def byC (ks id l xs : List Int) (i : Nat) : List Int := (((id.zip xs).drop i).foldl (fun (p : List Int × List Int) kx => (mkey p.1 kx.1, mput p.1 p.2 kx.1 kx.2)) (ks, l)).2

/-- Whether those from the j-th on may be, if these threads were seen. -/
def dueFrom (at_ id : List Int) : Nat → Nat → List Int → List Bool → Bool
  | 0, _, _, _ => true
  | f + 1, j, ks, bs => dtime (at_.getD j 0) && did (id.getD j 0) && !mB ks bs (id.getD j 0) && (decide (j = 0) || aheadB (at_.getD (j - 1) 0) (id.getD (j - 1) 0) (at_.getD j 0) (id.getD j 0)) && dueFrom at_ id f (j + 1) (mkey ks (id.getD j 0)) (mput ks bs (id.getD j 0) true)

def dueOk (at_ id : List Int) : Bool := dueFrom at_ id at_.length 0 [] []


theorem byK_lt {ks id : List Int} {i : Nat} (h : i < id.length) : byK ks id i = byK (mkey ks (id.getD i 0)) id (i + 1) := by
  unfold byK
  rw [List.drop_eq_getElem_cons h, List.foldl_cons]
  simp [h]

theorem byK_ge {ks id : List Int} {i : Nat} (h : id.length ≤ i) : byK ks id i = ks := by
  unfold byK
  rw [List.drop_eq_nil_of_le h]
  rfl

theorem byC_lt {ks id l xs : List Int} {i : Nat} (h : i < id.length) (h2 : i < xs.length) : byC ks id l xs i = byC (mkey ks (id.getD i 0)) id (mput ks l (id.getD i 0) (xs.getD i 0)) xs (i + 1) := by
  unfold byC
  have hz : i < (id.zip xs).length := by simp; omega
  rw [List.drop_eq_getElem_cons hz, List.foldl_cons]
  simp [h, h2]

theorem byC_ge {ks id l xs : List Int} {i : Nat} (h : id.length ≤ i) : byC ks id l xs i = l := by
  unfold byC
  rw [List.drop_eq_nil_of_le (by simp; omega)]
  rfl

def Fdtime : Pure1 := fun
  | [.int .i64 x] => some (none, .bool (dtime x))
  | _ => none

theorem vc_dtime (x : Int) (r : AV) : VC Try.prog (tabS tab0) noL false 43 [.int .i64 x] r = (
some (AV.bool (bite (ige x 0) (ile x 1099511627776) false)) = some r) := by kernel_rfl

theorem ok_dtime : PureOK Try.prog 43 Fdtime := by
  refine tab_plain mixed (l := tab0) ok_tab0 false (by kernel_rfl) fun xs b r h hb wf => ?_
  unfold Fdtime at h
  split at h
  · rename_i x
    cases h
    try rw [some_f] at hb
    try simp only [WFL, WF, List.mem_cons, List.not_mem_nil, or_false, forall_eq_or_imp, forall_eq, Col.len, and_true, true_and] at wf
    rw [vc_dtime]
    simp only [bite_and, bite_or]
    refine congrArg (fun b => some (AV.bool b)) ?_
    rw [Bool.eq_iff_iff]
    simp [asrt_iff, br_iff, ieq_t, ieq_f, ine_t, ine_f, ilt_t, ilt_f, ile_t, ile_f, igt_t, igt_f, ige_t, ige_f, nlt_t, nlt_f, nle_t, nle_f, neq_t, neq_f, beq2_t, beq2_f, bnot_t, bnot_f, band_t, band_f, bite_t, bite_f, bimp_t, bimp_f, iadd_e, isub_e, imul_e, ofN_e, nOf_e, nAdd_e, nDiff_e, room_e, lenI_e, gI_e, gB_e, imin_e, imax_e, cat_e, pt_e, put_e, some_f, dtime]
  · cases h


def Fdid : Pure1 := fun
  | [.int .i64 x] => some (none, .bool (did x))
  | _ => none

theorem vc_did (x : Int) (r : AV) : VC Try.prog (tabS tab0) noL false 44 [.int .i64 x] r = (
some (AV.bool (bite (ige x 0) (ilt x 16) false)) = some r) := by kernel_rfl

theorem ok_did : PureOK Try.prog 44 Fdid := by
  refine tab_plain mixed (l := tab0) ok_tab0 false (by kernel_rfl) fun xs b r h hb wf => ?_
  unfold Fdid at h
  split at h
  · rename_i x
    cases h
    try rw [some_f] at hb
    try simp only [WFL, WF, List.mem_cons, List.not_mem_nil, or_false, forall_eq_or_imp, forall_eq, Col.len, and_true, true_and] at wf
    rw [vc_did]
    simp only [bite_and, bite_or]
    refine congrArg (fun b => some (AV.bool b)) ?_
    rw [Bool.eq_iff_iff]
    simp [asrt_iff, br_iff, ieq_t, ieq_f, ine_t, ine_f, ilt_t, ilt_f, ile_t, ile_f, igt_t, igt_f, ige_t, ige_f, nlt_t, nlt_f, nle_t, nle_f, neq_t, neq_f, beq2_t, beq2_f, bnot_t, bnot_f, band_t, band_f, bite_t, bite_f, bimp_t, bimp_f, iadd_e, isub_e, imul_e, ofN_e, nOf_e, nAdd_e, nDiff_e, room_e, lenI_e, gI_e, gB_e, imin_e, imax_e, cat_e, pt_e, put_e, some_f, did]
  · cases h


def Fdahead : Pure1 := fun
  | [.agg [.int .i64 a, .int .i64 i], .agg [.int .i64 b, .int .i64 j]] => some (none, .bool (aheadB a i b j))
  | _ => none

theorem vc_dahead (a i b j : Int) (r : AV) : VC Try.prog (tabS tab0) noL false 45 [.agg [.int .i64 a, .int .i64 i], .agg [.int .i64 b, .int .i64 j]] r = (
some (AV.bool (bite (ilt a b) true (bite (ieq a b) (ilt i j) false))) = some r) := by kernel_rfl

theorem ok_dahead : PureOK Try.prog 45 Fdahead := by
  refine tab_plain mixed (l := tab0) ok_tab0 false (by kernel_rfl) fun xs b r h hb wf => ?_
  unfold Fdahead at h
  split at h
  · rename_i a i b j
    cases h
    try rw [some_f] at hb
    try simp only [WFL, WF, List.mem_cons, List.not_mem_nil, or_false, forall_eq_or_imp, forall_eq, Col.len, and_true, true_and] at wf
    rw [vc_dahead]
    simp only [bite_and, bite_or]
    refine congrArg (fun b => some (AV.bool b)) ?_
    rw [Bool.eq_iff_iff]
    simp [asrt_iff, br_iff, ieq_t, ieq_f, ine_t, ine_f, ilt_t, ilt_f, ile_t, ile_f, igt_t, igt_f, ige_t, ige_f, nlt_t, nlt_f, nle_t, nle_f, neq_t, neq_f, beq2_t, beq2_f, bnot_t, bnot_f, band_t, band_f, bite_t, bite_f, bimp_t, bimp_f, iadd_e, isub_e, imul_e, ofN_e, nOf_e, nAdd_e, nDiff_e, room_e, lenI_e, gI_e, gB_e, imin_e, imax_e, cat_e, pt_e, put_e, some_f, aheadB]
  · cases h


def Fdclone : Pure1 := fun
  | [.sl n [.int .i64 a, .int .i64 i]] => some (some (nle n 1000000), .own 43 n [.int .i64 a, .int .i64 i])
  | _ => none

theorem vc_dclone (n : Nat) (a i : List Int) (r : AV) : VC Try.prog (tabS tab0) noL true 47 [.sl n [.int .i64 a, .int .i64 i]] r = (
  ∀ (b : Bool),
    (b = true → n = 0) →
      br b (some (AV.own 43 0 [Col.int IntKind.i64 [], Col.int IntKind.i64 []]) = some r)
        (asrt (nle (nAdd 0 n) 8796093022208)
          (some (AV.own 43 (nAdd 0 n) [Col.int IntKind.i64 (cat [] a), Col.int IntKind.i64 (cat [] i)]) = some r))) := by kernel_rfl

theorem ok_dclone : PureOK Try.prog 47 Fdclone := by
  refine tab_plain mixed (l := tab0) ok_tab0 true (by kernel_rfl) fun xs b r h hb wf => ?_
  unfold Fdclone at h
  split at h
  · rename_i n a i
    cases h
    try rw [some_f] at hb
    try simp only [WFL, WF, List.mem_cons, List.not_mem_nil, or_false, forall_eq_or_imp, forall_eq, Col.len, and_true, true_and] at wf
    rw [vc_dclone]
    simp [asrt_iff, br_iff, ieq_t, ieq_f, ine_t, ine_f, ilt_t, ilt_f, ile_t, ile_f, igt_t, igt_f, ige_t, ige_f, nlt_t, nlt_f, nle_t, nle_f, neq_t, neq_f, beq2_t, beq2_f, bnot_t, bnot_f, band_t, band_f, bite_t, bite_f, bimp_t, bimp_f, iadd_e, isub_e, imul_e, ofN_e, nOf_e, nAdd_e, nDiff_e, room_e, lenI_e, gI_e, gB_e, imin_e, imax_e, cat_e, pt_e, put_e, some_f] at hb ⊢
    grind
  · cases h


def tabD0 : List (FuncId × Pure1) := [(43, Fdtime), (44, Fdid), (45, Fdahead), (47, Fdclone), (25, Fints)]

theorem ok_tabD0 : ∀ p ∈ tabD0, PureOK Try.prog p.1 p.2 := by
  intro p hp
  simp only [tabD0, List.mem_cons, List.not_mem_nil, or_false] at hp
  rcases hp with rfl | rfl | rfl | rfl | rfl
  · exact ok_dtime
  · exact ok_did
  · exact ok_dahead
  · exact ok_dclone
  · exact ok_ints


def spec_by : LoopSpec := { n := 19, keep := [3, 7, 8, 9], srcs := [.tmp 3], keepE := [3], srcsE := [.tmp 3], goes := fun vals objs Q => match vals, objs with
  | [.mp 0, .sl n [.int .i64 a, .int .i64 d], .int .i64 m, .int .i64 i], [some (.tmap ks [.int .i64 A, .int .i64 I] false)] => asrt (band (nle n 1000000) (band (ieq m (ofN n)) (band (ile 0 i) (ile i (ofN n))))) (Q (.exit 0) [.mp 0] [some (.tmap (byK ks d (nOf i)) [.int .i64 (byC ks d A a (nOf i)), .int .i64 (byC ks d I d (nOf i))] false)])
  | _, _ => False }

theorem lp_by (n : Nat) (a d : List Int) (m i : Int) (ks A I : List Int) (mu : List AV → Heap → Nat) (Q : Ex → List AV → Heap → Prop) : runCode Try.prog (tabS tabD0) (callN Try.prog (tabS tabD0) noL 11) (fun _ => none) (bodyOf Try.prog 46 0) 0 ⟨mkT (spec_by).keep [.mp 0, .sl n [.int .i64 a, .int .i64 d], .int .i64 m, .int .i64 i] (spec_by).n 0, [some (.tmap ks [.int .i64 A, .int .i64 I] false)]⟩ ((spec_by).ends mu [.mp 0, .sl n [.int .i64 a, .int .i64 d], .int .i64 m, .int .i64 i] ([some (.tmap ks [.int .i64 A, .int .i64 I] false)]) Q) = (
  br (ilt i m)
    (asrt (band (ile 0 i) (ilt i (ofN n)))
      ((mu
                [AV.mp 0, AV.sl n [Col.int IntKind.i64 a, Col.int IntKind.i64 d], AV.int IntKind.i64 m,
                  AV.int IntKind.i64 (iadd IntKind.i64 i 1)]
                [some
                    (AObj.tmap (mkey ks (gI d (nOf i)))
                      [Col.int IntKind.i64 (mput ks A (gI d (nOf i)) (gI a (nOf i))),
                        Col.int IntKind.i64 (mput ks I (gI d (nOf i)) (gI d (nOf i)))]
                      false)]).succ.le
          (mu
            [AV.mp 0, AV.sl n [Col.int IntKind.i64 a, Col.int IntKind.i64 d], AV.int IntKind.i64 m,
              AV.int IntKind.i64 i]
            [some (AObj.tmap ks [Col.int IntKind.i64 A, Col.int IntKind.i64 I] false)]) ∧
        asrt
          (band (nle n 1000000)
            (band (ieq m (ofN n)) (band (ile 0 (iadd IntKind.i64 i 1)) (ile (iadd IntKind.i64 i 1) (ofN n)))))
          (Q (Ex.exit 0) [AV.mp 0]
            [some
                (AObj.tmap (byK (mkey ks (gI d (nOf i))) d (nOf (iadd IntKind.i64 i 1)))
                  [Col.int IntKind.i64
                      (byC (mkey ks (gI d (nOf i))) d (mput ks A (gI d (nOf i)) (gI a (nOf i))) a
                        (nOf (iadd IntKind.i64 i 1))),
                    Col.int IntKind.i64
                      (byC (mkey ks (gI d (nOf i))) d (mput ks I (gI d (nOf i)) (gI d (nOf i))) d
                        (nOf (iadd IntKind.i64 i 1)))]
                  false)])))
    (Q (Ex.exit 0) [AV.mp 0] [some (AObj.tmap ks [Col.int IntKind.i64 A, Col.int IntKind.i64 I] false)])) := by kernel_rfl

theorem loop_by : LoopOK Try.prog (bodyOf Try.prog 46 0) spec_by.summ := by
  refine tab_loop mixed (l := tabD0) ok_tabD0 (i := 0) spec_by (fun vals objs => match vals, objs with
    | [.mp 0, .sl n [.int .i64 a, .int .i64 d], .int .i64 m, .int .i64 i], [some (.tmap ks [.int .i64 A, .int .i64 I] false)] => (m - i).toNat
    | _, _ => 0) fun vals objs Q h1 h2 wf wo hg => ?_
  unfold spec_by at hg
  simp only at hg
  split at hg
  · rename_i n a d m i ks A I
    clear h1 h2
    try simp only [WFL, WF, List.mem_cons, List.not_mem_nil, or_false, forall_eq_or_imp, forall_eq, Col.len, and_true, true_and] at wf
    rw [lp_by]
    obtain ⟨wa, wd⟩ : a.length = n ∧ d.length = n := by simpa using wf
    simp only [asrt_iff, band_t, nle_t, ieq_t, ile_t, ofN_e] at hg
    obtain ⟨⟨hb, rfl, h0, hn⟩, hg⟩ := hg
    obtain ⟨k, rfl⟩ := Int.eq_ofNat_of_zero_le h0
    have hw : IntKind.i64.wrap ((k : Int) + 1) = (k : Int) + 1 := wr (by omega) (by omega)
    have e2 : ((k : Int) + 1).toNat = k + 1 := by omega
    have e3 : (k : Int).toNat = k := by omega
    have e4 : nOf (iadd .i64 (k : Int) 1) = k + 1 := by rw [iadd_e, hw, nOf_e, e2]
    have e6 : nOf (k : Int) = k := by rw [nOf_e, e3]
    rw [br_iff, ilt_t, ilt_f]
    refine ⟨fun hk => ?_, fun hk => ?_⟩
    · rw [e6, byK_lt (by omega), byC_lt (l := A) (xs := a) (by omega) (by omega), byC_lt (l := I) (xs := d) (by omega) (by omega)] at hg
      simp only [asrt_iff]
      refine ⟨by simp [asrt_iff, br_iff, ieq_t, ieq_f, ine_t, ine_f, ilt_t, ilt_f, ile_t, ile_f, igt_t, igt_f, ige_t, ige_f, nlt_t, nlt_f, nle_t, nle_f, neq_t, neq_f, beq2_t, beq2_f, bnot_t, bnot_f, band_t, band_f, bite_t, bite_f, bimp_t, bimp_f, iadd_e, isub_e, imul_e, ofN_e, nOf_e, nAdd_e, nDiff_e, room_e, lenI_e, gI_e, gB_e, imin_e, imax_e, cat_e, pt_e, put_e, some_f]; omega, ?_, ?_, ?_⟩
      · simp [asrt_iff, br_iff, ieq_t, ieq_f, ine_t, ine_f, ilt_t, ilt_f, ile_t, ile_f, igt_t, igt_f, ige_t, ige_f, nlt_t, nlt_f, nle_t, nle_f, neq_t, neq_f, beq2_t, beq2_f, bnot_t, bnot_f, band_t, band_f, bite_t, bite_f, bimp_t, bimp_f, iadd_e, isub_e, imul_e, ofN_e, nOf_e, nAdd_e, nDiff_e, room_e, lenI_e, gI_e, gB_e, imin_e, imax_e, cat_e, pt_e, put_e, some_f, hw]; omega
      · simp [asrt_iff, br_iff, ieq_t, ieq_f, ine_t, ine_f, ilt_t, ilt_f, ile_t, ile_f, igt_t, igt_f, ige_t, ige_f, nlt_t, nlt_f, nle_t, nle_f, neq_t, neq_f, beq2_t, beq2_f, bnot_t, bnot_f, band_t, band_f, bite_t, bite_f, bimp_t, bimp_f, iadd_e, isub_e, imul_e, ofN_e, nOf_e, nAdd_e, nDiff_e, room_e, lenI_e, gI_e, gB_e, imin_e, imax_e, cat_e, pt_e, put_e, some_f, hw, hb]; omega
      · rw [e4, e6]
        exact hg
    · rw [e6, byK_ge (by omega), byC_ge (by omega), byC_ge (by omega)] at hg
      exact hg
  · exact hg.elim


def Lby : Nat → Option LoopS := fun i => match i with
  | 0 => some (.summ spec_by.summ)
  | _ => none

theorem ok_Lby : ∀ i x, Lby i = some x → LoopHyp Try.prog 46 i x := by
  intro i s h
  unfold Lby at h
  split at h
  · cases h; exact ⟨by kernel_rfl, loop_by⟩
  · cases h


def Fby : Pure1 := fun
  | [.sl n [.int .i64 a, .int .i64 d]] => some (some (nle n 1000000), .omap (byK [] d 0) [.int .i64 (byC [] d [] a 0), .int .i64 (byC [] d [] d 0)] false)
  | _ => none

theorem vc_by (n : Nat) (a d : List Int) (r : AV) : VC Try.prog (tabS tabD0) (oneL 46 Lby) true 46 [.sl n [.int .i64 a, .int .i64 d]] r = (
  asrt (band (nle n 1000000) (band (ieq (ofN n) (ofN n)) (ile 0 (ofN n))))
    (some (AV.omap (byK [] d 0) [Col.int IntKind.i64 (byC [] d [] a 0), Col.int IntKind.i64 (byC [] d [] d 0)] false) =
      some r)) := by kernel_rfl

theorem ok_by : PureOK Try.prog 46 Fby := by
  refine tab_loops mixed (l := tabD0) ok_tabD0 true Lby (by kernel_rfl) ok_Lby fun xs b r h hb wf => ?_
  unfold Fby at h
  split at h
  · rename_i n a d
    cases h
    try rw [some_f] at hb
    try simp only [WFL, WF, List.mem_cons, List.not_mem_nil, or_false, forall_eq_or_imp, forall_eq, Col.len, and_true, true_and] at wf
    rw [vc_by]
    simp [asrt_iff, br_iff, ieq_t, ieq_f, ine_t, ine_f, ilt_t, ilt_f, ile_t, ile_f, igt_t, igt_f, ige_t, ige_f, nlt_t, nlt_f, nle_t, nle_f, neq_t, neq_f, beq2_t, beq2_f, bnot_t, bnot_f, band_t, band_f, bite_t, bite_f, bimp_t, bimp_f, iadd_e, isub_e, imul_e, ofN_e, nOf_e, nAdd_e, nDiff_e, room_e, lenI_e, gI_e, gB_e, imin_e, imax_e, cat_e, pt_e, put_e, some_f] at hb ⊢
    exact hb
  · cases h


def spec_dchk : LoopSpec := { n := 48, keep := [0, 3, 7, 8, 9], srcs := [.tmp 3], keepE := [2], srcsE := [], goes := fun vals objs Q => match vals, objs with
  | [.sl n [.int .i64 a, .int .i64 d], .mp 0, .sl n2 [.int .i64 a2, .int .i64 d2], .int .i64 m, .int .i64 i], [some (.tmap ks [.bool bs] true)] => asrt (band (nle n 1000000) (band (band (neq n n2) (band (sameI a a2) (sameI d d2))) (band (ieq m (ofN n)) (band (ile 0 i) (ile i (ofN n)))))) (br (dueFrom a d (nDiff (ofN n) i) (nOf i) ks bs) (Q (.exit 0) [.top] []) (Q .ret [.bool false] []))
  | _, _ => False }

theorem lp_dchk (n : Nat) (a d : List Int) (n2 : Nat) (a2 d2 : List Int) (m i : Int) (ks : List Int) (bs : List Bool) (mu : List AV → Heap → Nat) (Q : Ex → List AV → Heap → Prop) : runCode Try.prog (tabS tabD0) (callN Try.prog (tabS tabD0) noL 11) (fun _ => none) (bodyOf Try.prog 27 0) 0 ⟨mkT (spec_dchk).keep [.sl n [.int .i64 a, .int .i64 d], .mp 0, .sl n2 [.int .i64 a2, .int .i64 d2], .int .i64 m, .int .i64 i] (spec_dchk).n 0, [some (.tmap ks [.bool bs] true)]⟩ ((spec_dchk).ends mu [.sl n [.int .i64 a, .int .i64 d], .mp 0, .sl n2 [.int .i64 a2, .int .i64 d2], .int .i64 m, .int .i64 i] ([some (.tmap ks [.bool bs] true)]) Q) = (
  br (ilt i m)
    (asrt (band (ile 0 i) (ilt i (ofN n2)))
      (asrt
        (bimp
          (band
            (bnot
              (bite (bite (bnot (dtime (gI a2 (nOf i)))) true (bnot (did (gI d2 (nOf i))))) true
                (mB ks bs (gI d2 (nOf i)))))
            (igt i 0))
          (band (ile 0 (isub IntKind.i64 i 1)) (ilt (isub IntKind.i64 i 1) (ofN n))))
        (br
          (bite
            (bite (bite (bnot (dtime (gI a2 (nOf i)))) true (bnot (did (gI d2 (nOf i))))) true
              (mB ks bs (gI d2 (nOf i))))
            true
            (bite (igt i 0)
              (bnot
                (aheadB (gI a (nOf (isub IntKind.i64 i 1))) (gI d (nOf (isub IntKind.i64 i 1))) (gI a2 (nOf i))
                  (gI d2 (nOf i))))
              false))
          (Q Ex.ret [AV.bool false] [])
          ((mu
                    [AV.sl n [Col.int IntKind.i64 a, Col.int IntKind.i64 d], AV.mp 0,
                      AV.sl n2 [Col.int IntKind.i64 a2, Col.int IntKind.i64 d2], AV.int IntKind.i64 m,
                      AV.int IntKind.i64 (iadd IntKind.i64 i 1)]
                    [some
                        (AObj.tmap (mkey ks (gI d2 (nOf i))) [Col.bool (mput ks bs (gI d2 (nOf i)) true)]
                          true)]).succ.le
              (mu
                [AV.sl n [Col.int IntKind.i64 a, Col.int IntKind.i64 d], AV.mp 0,
                  AV.sl n2 [Col.int IntKind.i64 a2, Col.int IntKind.i64 d2], AV.int IntKind.i64 m, AV.int IntKind.i64 i]
                [some (AObj.tmap ks [Col.bool bs] true)]) ∧
            asrt
              (band (nle n 1000000)
                (band (band (neq n n2) (band (sameI a a2) (sameI d d2)))
                  (band (ieq m (ofN n)) (band (ile 0 (iadd IntKind.i64 i 1)) (ile (iadd IntKind.i64 i 1) (ofN n))))))
              (br
                (dueFrom a d (nDiff (ofN n) (iadd IntKind.i64 i 1)) (nOf (iadd IntKind.i64 i 1))
                  (mkey ks (gI d2 (nOf i))) (mput ks bs (gI d2 (nOf i)) true))
                (Q (Ex.exit 0) [AV.top] []) (Q Ex.ret [AV.bool false] []))))))
    (Q (Ex.exit 0) [AV.top] [])) := by kernel_rfl

theorem loop_dchk : LoopOK Try.prog (bodyOf Try.prog 27 0) spec_dchk.summ := by
  refine tab_loop mixed (l := tabD0) ok_tabD0 (i := 0) spec_dchk (fun vals objs => match vals, objs with
    | [.sl n [.int .i64 a, .int .i64 d], .mp 0, .sl n2 [.int .i64 a2, .int .i64 d2], .int .i64 m, .int .i64 i], [some (.tmap ks [.bool bs] true)] => (m - i).toNat
    | _, _ => 0) fun vals objs Q h1 h2 wf wo hg => ?_
  unfold spec_dchk at hg
  simp only at hg
  split at hg
  · rename_i n a d n2 a2 d2 m i ks bs
    clear h1 h2
    try simp only [WFL, WF, List.mem_cons, List.not_mem_nil, or_false, forall_eq_or_imp, forall_eq, Col.len, and_true, true_and] at wf
    rw [lp_dchk]
    obtain ⟨⟨wa, wd⟩, _⟩ : (a.length = n ∧ d.length = n) ∧ _ := by simpa using wf
    simp only [asrt_iff, band_t, nle_t, ieq_t, ile_t, ofN_e, neq_t, sameI, beq_iff_eq] at hg
    obtain ⟨⟨hb, ⟨rfl, rfl, rfl⟩, rfl, h0, hn⟩, hg⟩ := hg
    obtain ⟨k, rfl⟩ := Int.eq_ofNat_of_zero_le h0
    have hw : IntKind.i64.wrap ((k : Int) + 1) = (k : Int) + 1 := wr (by omega) (by omega)
    have e2 : ((k : Int) + 1).toNat = k + 1 := by omega
    have e3 : (k : Int).toNat = k := by omega
    have e4 : nOf (iadd .i64 (k : Int) 1) = k + 1 := by rw [iadd_e, hw, nOf_e, e2]
    have e6 : nOf (k : Int) = k := by rw [nOf_e, e3]
    rw [br_iff, ilt_t, ilt_f]
    refine ⟨fun hk => ?_, fun hk => ?_⟩
    · have w1 : 0 < k → IntKind.i64.wrap ((k : Int) - 1) = (k : Int) - 1 := fun _ => wr (by omega) (by omega)
      have e7 : 0 < k → nOf (isub .i64 (k : Int) 1) = k - 1 := fun h => by rw [isub_e, w1 h, nOf_e]; omega
      obtain ⟨f, hf⟩ : ∃ f, nDiff (n : Int) (k : Int) = f + 1 := ⟨n - k - 1, by rw [nDiff_e]; omega⟩
      have hf2 : nDiff (n : Int) ((k : Int) + 1) = f := by rw [nDiff_e] at hf ⊢; omega
      rw [e6, hf, dueFrom] at hg
      have key : bite (bite (bite (bnot (dtime (gI a k))) true (bnot (did (gI d k)))) true (mB ks bs (gI d k))) true (bite (igt (k : Int) 0) (bnot (aheadB (gI a (nOf (isub .i64 (k : Int) 1))) (gI d (nOf (isub .i64 (k : Int) 1))) (gI a k) (gI d k))) false) = !(dtime (a.getD k 0) && did (d.getD k 0) && !mB ks bs (d.getD k 0) && (decide (k = 0) || aheadB (a.getD (k - 1) 0) (d.getD (k - 1) 0) (a.getD k 0) (d.getD k 0))) := by
        show bite (bite (bite (bnot (dtime (a.getD k 0))) true (bnot (did (d.getD k 0)))) true (mB ks bs (d.getD k 0))) true _ = _
        by_cases hk0 : k = 0
        · have h1 : igt (k : Int) 0 = false := by simp [igt, hk0]
          rw [h1, decide_eq_true hk0]
          cases dtime (a.getD k 0) <;> cases did (d.getD k 0) <;> cases mB ks bs (d.getD k 0) <;> rfl
        · have h1 : igt (k : Int) 0 = true := by simp [igt]; omega
          rw [h1, decide_eq_false hk0, e7 (by omega)]
          show bite (bite (bite (bnot (dtime (a.getD k 0))) true (bnot (did (d.getD k 0)))) true (mB ks bs (d.getD k 0))) true (bnot (aheadB (a.getD (k - 1) 0) (d.getD (k - 1) 0) (a.getD k 0) (d.getD k 0))) = _
          cases dtime (a.getD k 0) <;> cases did (d.getD k 0) <;> cases mB ks bs (d.getD k 0) <;> cases aheadB (a.getD (k - 1) 0) (d.getD (k - 1) 0) (a.getD k 0) (d.getD k 0) <;> rfl
      rw [e6, key]
      simp only [asrt_iff]
      refine ⟨by simp [asrt_iff, br_iff, ieq_t, ieq_f, ine_t, ine_f, ilt_t, ilt_f, ile_t, ile_f, igt_t, igt_f, ige_t, ige_f, nlt_t, nlt_f, nle_t, nle_f, neq_t, neq_f, beq2_t, beq2_f, bnot_t, bnot_f, band_t, band_f, bite_t, bite_f, bimp_t, bimp_f, iadd_e, isub_e, imul_e, ofN_e, nOf_e, nAdd_e, nDiff_e, room_e, lenI_e, gI_e, gB_e, imin_e, imax_e, cat_e, pt_e, put_e, some_f]; omega, ?_, ?_⟩
      · by_cases hk0 : k = 0
        · have h1 : igt (k : Int) 0 = false := by simp [igt, hk0]
          rw [h1]
          simp [asrt_iff, br_iff, ieq_t, ieq_f, ine_t, ine_f, ilt_t, ilt_f, ile_t, ile_f, igt_t, igt_f, ige_t, ige_f, nlt_t, nlt_f, nle_t, nle_f, neq_t, neq_f, beq2_t, beq2_f, bnot_t, bnot_f, band_t, band_f, bite_t, bite_f, bimp_t, bimp_f, iadd_e, isub_e, imul_e, ofN_e, nOf_e, nAdd_e, nDiff_e, room_e, lenI_e, gI_e, gB_e, imin_e, imax_e, cat_e, pt_e, put_e, some_f]
        · rw [isub_e, w1 (by omega)]
          simp [asrt_iff, br_iff, ieq_t, ieq_f, ine_t, ine_f, ilt_t, ilt_f, ile_t, ile_f, igt_t, igt_f, ige_t, ige_f, nlt_t, nlt_f, nle_t, nle_f, neq_t, neq_f, beq2_t, beq2_f, bnot_t, bnot_f, band_t, band_f, bite_t, bite_f, bimp_t, bimp_f, iadd_e, isub_e, imul_e, ofN_e, nOf_e, nAdd_e, nDiff_e, room_e, lenI_e, gI_e, gB_e, imin_e, imax_e, cat_e, pt_e, put_e, some_f]
          omega
      · rw [br_iff]
        refine ⟨fun hc => ?_, fun hc => ?_⟩
        · rw [Bool.not_eq_true'] at hc
          rw [hc, Bool.false_and] at hg
          exact hg
        · rw [Bool.not_eq_false'] at hc
          rw [hc, Bool.true_and] at hg
          refine ⟨by simp [asrt_iff, br_iff, ieq_t, ieq_f, ine_t, ine_f, ilt_t, ilt_f, ile_t, ile_f, igt_t, igt_f, ige_t, ige_f, nlt_t, nlt_f, nle_t, nle_f, neq_t, neq_f, beq2_t, beq2_f, bnot_t, bnot_f, band_t, band_f, bite_t, bite_f, bimp_t, bimp_f, iadd_e, isub_e, imul_e, ofN_e, nOf_e, nAdd_e, nDiff_e, room_e, lenI_e, gI_e, gB_e, imin_e, imax_e, cat_e, pt_e, put_e, some_f, hw]; omega, ?_, ?_⟩
          · simp [asrt_iff, br_iff, ieq_t, ieq_f, ine_t, ine_f, ilt_t, ilt_f, ile_t, ile_f, igt_t, igt_f, ige_t, ige_f, nlt_t, nlt_f, nle_t, nle_f, neq_t, neq_f, beq2_t, beq2_f, bnot_t, bnot_f, band_t, band_f, bite_t, bite_f, bimp_t, bimp_f, iadd_e, isub_e, imul_e, ofN_e, nOf_e, nAdd_e, nDiff_e, room_e, lenI_e, gI_e, gB_e, imin_e, imax_e, cat_e, pt_e, put_e, some_f, hw, hb, sameI]; omega
          · rw [e4, iadd_e, hw, ofN_e, hf2]
            exact hg
    · have hf : nDiff (n : Int) (k : Int) = 0 := by rw [nDiff_e]; omega
      rw [hf, dueFrom] at hg
      exact hg
  · exact hg.elim


def Ldchk : Nat → Option LoopS := fun i => match i with
  | 0 => some (.summ spec_dchk.summ)
  | _ => none

theorem ok_Ldchk : ∀ i x, Ldchk i = some x → LoopHyp Try.prog 27 i x := by
  intro i s h
  unfold Ldchk at h
  split at h
  · cases h; exact ⟨by kernel_rfl, loop_dchk⟩
  · cases h


def Fdchk : Pure1 := fun
  | [.sl n [.int .i64 a, .int .i64 d]] => some (some (nle n 1000000), .bool (dueOk a d))
  | _ => none

theorem vc_dchk (n : Nat) (a d : List Int) (r : AV) : VC Try.prog (tabS tabD0) (oneL 27 Ldchk) false 27 [.sl n [.int .i64 a, .int .i64 d]] r = (
  asrt
    (band (nle n 1000000)
      (band (band (neq n n) (band (sameI a a) (sameI d d))) (band (ieq (ofN n) (ofN n)) (ile 0 (ofN n)))))
    (br (dueFrom a d (nDiff (ofN n) 0) 0 [] []) (some (AV.bool true) = some r) (some (AV.bool false) = some r))) := by kernel_rfl

theorem ok_dchk : PureOK Try.prog 27 Fdchk := by
  refine tab_loops mixed (l := tabD0) ok_tabD0 false Ldchk (by kernel_rfl) ok_Ldchk fun xs b r h hb wf => ?_
  unfold Fdchk at h
  split at h
  · rename_i n a d
    cases h
    try rw [some_f] at hb
    try simp only [WFL, WF, List.mem_cons, List.not_mem_nil, or_false, forall_eq_or_imp, forall_eq, Col.len, and_true, true_and] at wf
    rw [vc_dchk]
    obtain ⟨wa, wd⟩ : a.length = n ∧ d.length = n := by simpa using wf
    have e1 : nDiff (ofN n) 0 = a.length := by rw [nDiff_e, ofN_e, wa]; omega
    have e2 : nOf 0 = 0 := rfl
    simp only [nle_t] at hb
    simp only [asrt_iff, e1, e2]
    refine ⟨by simp [asrt_iff, br_iff, ieq_t, ieq_f, ine_t, ine_f, ilt_t, ilt_f, ile_t, ile_f, igt_t, igt_f, ige_t, ige_f, nlt_t, nlt_f, nle_t, nle_f, neq_t, neq_f, beq2_t, beq2_f, bnot_t, bnot_f, band_t, band_f, bite_t, bite_f, bimp_t, bimp_f, iadd_e, isub_e, imul_e, ofN_e, nOf_e, nAdd_e, nDiff_e, room_e, lenI_e, gI_e, gB_e, imin_e, imax_e, cat_e, pt_e, put_e, some_f, sameI, hb], ?_⟩
    unfold dueOk
    cases dueFrom a d a.length 0 [] [] <;> rfl
  · cases h


end Go.Own
