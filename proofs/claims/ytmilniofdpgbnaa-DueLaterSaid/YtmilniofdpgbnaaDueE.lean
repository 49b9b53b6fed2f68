/- Dues: one is put, dropped; who is late; the first one. -/
import Derived.Test.YtmilniofdpgbnaaDueD
namespace Go.Own
open Go Go.Proofs
set_option maxRecDepth 100000
set_option linter.unusedVariables false
set_option linter.unusedSimpArgs false

/-- The error of a put. -/
def putE (a d : List Int) (x y : Int) : Int := if dueOk a d then if dtime x then if did y then if mhas (byK [] d 0) y then 60 else 0 else 40 else 50 else 40

def putN (n : Nat) (a d : List Int) (x y : Int) : Nat := if putE a d x y = 0 then lenI (mkey (byK [] d 0) y) else n

def putA (a d : List Int) (x y : Int) : List Int := if putE a d x y = 0 then dA (mput (byK [] d 0) (byC [] d [] a 0) y x) (mput (byK [] d 0) (byC [] d [] d 0) y y) else a

def putI (a d : List Int) (x y : Int) : List Int := if putE a d x y = 0 then dI (mput (byK [] d 0) (byC [] d [] a 0) y x) (mput (byK [] d 0) (byC [] d [] d 0) y y) else d

/-- Whether one may be dropped. -/
def dropB (a d : List Int) (y : Int) : Bool := mhas (byK [] d 0) y && dueOk a d

def dropN (n : Nat) (a d : List Int) (y : Int) : Nat := if dropB a d y then lenI (mdel (byK [] d 0) y) else n

def dropA (a d : List Int) (y : Int) : List Int := if dropB a d y then dA (mcut (byK [] d 0) (byC [] d [] a 0) y) (mcut (byK [] d 0) (byC [] d [] d 0) y) else a

def dropI (a d : List Int) (y : Int) : List Int := if dropB a d y then dI (mcut (byK [] d 0) (byC [] d [] a 0) y) (mcut (byK [] d 0) (byC [] d [] d 0) y) else d

def dropE (a d : List Int) (y : Int) : Int := if dropB a d y then 0 else 40

/-- Who is late, from the i-th on. -/
def lvL (a d : List Int) (t : Int) (i : Nat) (L : List Int) : List Int := ((a.zip d).drop i).foldl (fun L p => if p.1 ≤ t then L ++ [p.2] else L) L

/-- What stays of a map, from the i-th on. -/
def lvK (a d : List Int) (t : Int) (i : Nat) (K : List Int) : List Int := ((a.zip d).drop i).foldl (fun K p => if p.1 ≤ t then mdel K p.2 else K) K

def lvC (a d : List Int) (t : Int) (i : Nat) (K C : List Int) : List Int := (((a.zip d).drop i).foldl (fun (m : List Int × List Int) p => if p.1 ≤ t then (mdel m.1 p.2, mcut m.1 m.2 p.2) else m) (K, C)).2

def lateL (a d : List Int) (t : Int) : List Int := if dueOk a d then lvL a d t 0 [] else []

def lateN (n : Nat) (a d : List Int) (t : Int) : Nat := if dueOk a d then lenI (lvK a d t 0 (byK [] d 0)) else n

def lateA (a d : List Int) (t : Int) : List Int := if dueOk a d then dA (lvC a d t 0 (byK [] d 0) (byC [] d [] a 0)) (lvC a d t 0 (byK [] d 0) (byC [] d [] d 0)) else a

def lateI (a d : List Int) (t : Int) : List Int := if dueOk a d then dI (lvC a d t 0 (byK [] d 0) (byC [] d [] a 0)) (lvC a d t 0 (byK [] d 0) (byC [] d [] d 0)) else d

/-- Whether there is a first one. -/
def firB (a d : List Int) : Bool := dueOk a d && decide (0 < a.length)

def firA (a d : List Int) : Int := if firB a d then (dA (byC [] d [] a 0) (byC [] d [] d 0)).getD 0 0 else 0

def firI (a d : List Int) : Int := if firB a d then (dI (byC [] d [] a 0) (byC [] d [] d 0)).getD 0 0 else 0


theorem zip_drop_lt {a d : List Int} {i : Nat} (h : i < a.length) (h2 : i < d.length) : (a.zip d).drop i = (a.getD i 0, d.getD i 0) :: (a.zip d).drop (i + 1) := by
  have hz : i < (a.zip d).length := by simp; omega
  rw [List.drop_eq_getElem_cons hz]
  simp [h, h2]

theorem lvL_lt {a d L : List Int} {t : Int} {i : Nat} (h : i < a.length) (h2 : i < d.length) : lvL a d t i L = lvL a d t (i + 1) (if a.getD i 0 ≤ t then L ++ [d.getD i 0] else L) := by
  unfold lvL
  rw [zip_drop_lt h h2, List.foldl_cons]

theorem lvK_lt {a d K : List Int} {t : Int} {i : Nat} (h : i < a.length) (h2 : i < d.length) : lvK a d t i K = lvK a d t (i + 1) (if a.getD i 0 ≤ t then mdel K (d.getD i 0) else K) := by
  unfold lvK
  rw [zip_drop_lt h h2, List.foldl_cons]

theorem lvC_lt {a d K C : List Int} {t : Int} {i : Nat} (h : i < a.length) (h2 : i < d.length) : lvC a d t i K C = lvC a d t (i + 1) (if a.getD i 0 ≤ t then mdel K (d.getD i 0) else K) (if a.getD i 0 ≤ t then mcut K C (d.getD i 0) else C) := by
  unfold lvC
  rw [zip_drop_lt h h2, List.foldl_cons]
  split <;> rfl

theorem zip_drop_ge {a d : List Int} {i : Nat} (h : a.length ≤ i) : (a.zip d).drop i = [] := List.drop_eq_nil_of_le (by simp; omega)

theorem mkey_le (ks : List Int) (y : Int) : lenI (mkey ks y) ≤ lenI ks + 1 := by
  unfold mkey
  simp only [lenI_e]
  split <;> simp

theorem mdel_le (ks : List Int) (y : Int) : lenI (mdel ks y) ≤ lenI ks := by
  unfold mdel
  simp only [lenI_e, List.length_eraseIdx]
  split <;> omega

theorem byK_le : ∀ {d ks : List Int} {i : Nat}, lenI (byK ks d i) ≤ lenI ks + (d.length - i) := by
  intro d ks i
  unfold byK
  have : ∀ (l ks : List Int), lenI (l.foldl mkey ks) ≤ lenI ks + l.length := by
    intro l
    induction l with
    | nil => intro ks; simp
    | cons x l ih =>
      intro ks
      rw [List.foldl_cons]
      have := ih (mkey ks x)
      have := mkey_le ks x
      simp
      omega
  have := this (d.drop i) ks
  simpa using this

theorem byK_mono : ∀ {d ks : List Int} {i : Nat}, lenI ks ≤ lenI (byK ks d i) := by
  intro d ks i
  unfold byK
  have : ∀ (l ks : List Int), lenI ks ≤ lenI (l.foldl mkey ks) := by
    intro l
    induction l with
    | nil => intro ks; simp
    | cons x l ih =>
      intro ks
      rw [List.foldl_cons]
      refine Nat.le_trans ?_ (ih _)
      unfold mkey
      simp only [lenI_e]
      split <;> simp
  exact this _ _

theorem lvK_le {a d : List Int} {t : Int} : ∀ {K : List Int} {i : Nat}, lenI (lvK a d t i K) ≤ lenI K := by
  intro K i
  unfold lvK
  have : ∀ (l : List (Int × Int)) (K : List Int), lenI (l.foldl (fun K p => if p.1 ≤ t then mdel K p.2 else K) K) ≤ lenI K := by
    intro l
    induction l with
    | nil => intro ks; simp
    | cons x l ih =>
      intro ks
      rw [List.foldl_cons]
      refine Nat.le_trans (ih _) ?_
      split
      · exact mdel_le _ _
      · exact Nat.le_refl _
  exact this _ K

def tabD1 : List (FuncId × Pure1) := [(46, Fby), (27, Fdchk), (48, Ftold)] ++ tabD0

theorem ok_tabD1 : ∀ p ∈ tabD1, PureOK Try.prog p.1 p.2 := by
  intro p hp
  simp only [tabD1, List.mem_append, List.mem_cons, List.not_mem_nil, or_false] at hp
  rcases hp with (rfl | rfl | rfl) | hp
  · exact ok_by
  · exact ok_dchk
  · exact ok_told
  · exact ok_tabD0 p hp


def Fput : Pure1 := fun
  | [.sl n [.int .i64 a, .int .i64 d], .agg [.int .i64 x, .int .i64 y]] => some (some (nle n 900000), .tup [.own 43 (putN n a d x y) [.int .i64 (putA a d x y), .int .i64 (putI a d x y)], .int .i64 (putE a d x y)])
  | _ => none

theorem vc_put (n : Nat) (a d : List Int) (x y : Int) (r : AV) : VC Try.prog (tabS tabD1) noL true 28 [.sl n [.int .i64 a, .int .i64 d], .agg [.int .i64 x, .int .i64 y]] r = (
  asrt (nle n 1000000)
    (asrt (nle n 1000000)
      (br (bnot (dueOk a d))
        (asrt (nle n 1000000)
          (some (AV.tup [AV.own 43 n [Col.int IntKind.i64 a, Col.int IntKind.i64 d], AV.int IntKind.i64 40]) = some r))
        (br (bnot (dtime x))
          (asrt (nle n 1000000)
            (some (AV.tup [AV.own 43 n [Col.int IntKind.i64 a, Col.int IntKind.i64 d], AV.int IntKind.i64 50]) =
              some r))
          (br (bnot (did y))
            (asrt (nle n 1000000)
              (some (AV.tup [AV.own 43 n [Col.int IntKind.i64 a, Col.int IntKind.i64 d], AV.int IntKind.i64 40]) =
                some r))
            (br (mhas (byK [] d 0) y)
              (asrt (nle n 1000000)
                (some (AV.tup [AV.own 43 n [Col.int IntKind.i64 a, Col.int IntKind.i64 d], AV.int IntKind.i64 60]) =
                  some r))
              (asrt (nle (lenI (mkey (byK [] d 0) y)) 1000000)
                (some
                    (AV.tup
                      [AV.own 43 (lenI (mkey (byK [] d 0) y))
                          [Col.int IntKind.i64
                              (dA (mput (byK [] d 0) (byC [] d [] a 0) y x) (mput (byK [] d 0) (byC [] d [] d 0) y y)),
                            Col.int IntKind.i64
                              (dI (mput (byK [] d 0) (byC [] d [] a 0) y x) (mput (byK [] d 0) (byC [] d [] d 0) y y))],
                        AV.int IntKind.i64 0]) =
                  some r)))))))) := by kernel_rfl

theorem ok_put : PureOK Try.prog 28 Fput := by
  refine tab_plain mixed (l := tabD1) ok_tabD1 true (by kernel_rfl) fun xs b r h hb wf => ?_
  unfold Fput at h
  split at h
  · rename_i n a d x y
    cases h
    try rw [some_f] at hb
    try simp only [WFL, WF, List.mem_cons, List.not_mem_nil, or_false, forall_eq_or_imp, forall_eq, Col.len, and_true, true_and] at wf
    rw [vc_put]
    obtain ⟨wa, wd⟩ : a.length = n ∧ d.length = n := by simpa using wf
    have k1 := mkey_le (byK [] d 0) y
    have k2 := byK_le (d := d) (ks := []) (i := 0)
    have k3 : lenI ([] : List Int) = 0 := rfl
    simp only [nle_t] at hb
    have q1 : nle n 1000000 = true := by first | (rw [nle_t]; omega) | (rw [nlt_t]; omega)
    have q2 : nle (lenI (mkey (byK [] d 0) y)) 1000000 = true := by first | (rw [nle_t]; omega) | (rw [nlt_t]; omega)
    unfold putN putA putI putE
    rw [q1, q2]
    cases dueOk a d <;> cases dtime x <;> cases did y <;> cases mhas (byK [] d 0) y <;> rfl
  · cases h


def Fdrop : Pure1 := fun
  | [.sl n [.int .i64 a, .int .i64 d], .int .i64 y] => some (some (nle n 900000), .tup [.own 43 (dropN n a d y) [.int .i64 (dropA a d y), .int .i64 (dropI a d y)], .int .i64 (dropE a d y)])
  | _ => none

theorem vc_drop (n : Nat) (a d : List Int) (y : Int) (r : AV) : VC Try.prog (tabS tabD1) noL true 30 [.sl n [.int .i64 a, .int .i64 d], .int .i64 y] r = (
  asrt (nle n 1000000)
    (asrt (bimp (bnot (bnot (mhas (byK [] d 0) y))) (nle n 1000000))
      (br (bite (bnot (mhas (byK [] d 0) y)) true (bnot (dueOk a d)))
        (asrt (nle n 1000000)
          (some (AV.tup [AV.own 43 n [Col.int IntKind.i64 a, Col.int IntKind.i64 d], AV.int IntKind.i64 40]) = some r))
        (asrt (nle (lenI (mdel (byK [] d 0) y)) 1000000)
          (some
              (AV.tup
                [AV.own 43 (lenI (mdel (byK [] d 0) y))
                    [Col.int IntKind.i64
                        (dA (mcut (byK [] d 0) (byC [] d [] a 0) y) (mcut (byK [] d 0) (byC [] d [] d 0) y)),
                      Col.int IntKind.i64
                        (dI (mcut (byK [] d 0) (byC [] d [] a 0) y) (mcut (byK [] d 0) (byC [] d [] d 0) y))],
                  AV.int IntKind.i64 0]) =
            some r))))) := by kernel_rfl

theorem ok_drop : PureOK Try.prog 30 Fdrop := by
  refine tab_plain mixed (l := tabD1) ok_tabD1 true (by kernel_rfl) fun xs b r h hb wf => ?_
  unfold Fdrop at h
  split at h
  · rename_i n a d y
    cases h
    try rw [some_f] at hb
    try simp only [WFL, WF, List.mem_cons, List.not_mem_nil, or_false, forall_eq_or_imp, forall_eq, Col.len, and_true, true_and] at wf
    rw [vc_drop]
    obtain ⟨wa, wd⟩ : a.length = n ∧ d.length = n := by simpa using wf
    have k1 := mdel_le (byK [] d 0) y
    have k2 := byK_le (d := d) (ks := []) (i := 0)
    have k3 : lenI ([] : List Int) = 0 := rfl
    simp only [nle_t] at hb
    have q1 : nle n 1000000 = true := by first | (rw [nle_t]; omega) | (rw [nlt_t]; omega)
    have q2 : nle (lenI (mdel (byK [] d 0) y)) 1000000 = true := by first | (rw [nle_t]; omega) | (rw [nlt_t]; omega)
    unfold dropN dropA dropI dropE dropB
    rw [q1, q2]
    cases dueOk a d <;> cases mhas (byK [] d 0) y <;> rfl
  · cases h


def Ffirst : Pure1 := fun
  | [.sl n [.int .i64 a, .int .i64 d]] => some (some (nle n 900000), .tup [.agg [.int .i64 (firA a d), .int .i64 (firI a d)], .bool (firB a d)])
  | _ => none

theorem vc_first (n : Nat) (a d : List Int) (r : AV) : VC Try.prog (tabS tabD1) noL true 32 [.sl n [.int .i64 a, .int .i64 d]] r = (
  asrt (nle n 1000000)
    (br (bite (bnot (dueOk a d)) true (ieq (ofN n) 0))
      (some (AV.tup [AV.agg [AV.int IntKind.i64 0, AV.int IntKind.i64 0], AV.bool false]) = some r)
      (asrt (nle n 1000000)
        (asrt (nle (lenI (byK [] d 0)) 1000000)
          (asrt (ilt 0 (ofN (lenI (byK [] d 0))))
            (asrt (nlt 0 (lenI (byK [] d 0)))
              (some
                  (AV.tup
                    [AV.agg
                        [AV.int IntKind.i64 (gI (dA (byC [] d [] a 0) (byC [] d [] d 0)) 0),
                          AV.int IntKind.i64 (gI (dI (byC [] d [] a 0) (byC [] d [] d 0)) 0)],
                      AV.bool true]) =
                some r))))))) := by kernel_rfl

theorem ok_first : PureOK Try.prog 32 Ffirst := by
  refine tab_plain mixed (l := tabD1) ok_tabD1 true (by kernel_rfl) fun xs b r h hb wf => ?_
  unfold Ffirst at h
  split at h
  · rename_i n a d
    cases h
    try rw [some_f] at hb
    try simp only [WFL, WF, List.mem_cons, List.not_mem_nil, or_false, forall_eq_or_imp, forall_eq, Col.len, and_true, true_and] at wf
    rw [vc_first]
    obtain ⟨wa, wd⟩ : a.length = n ∧ d.length = n := by simpa using wf
    have k2 := byK_le (d := d) (ks := []) (i := 0)
    have k3 : lenI ([] : List Int) = 0 := rfl
    simp only [nle_t] at hb
    have q1 : nle n 1000000 = true := by first | (rw [nle_t]; omega) | (rw [nlt_t]; omega)
    have q2 : nle (lenI (byK [] d 0)) 1000000 = true := by first | (rw [nle_t]; omega) | (rw [nlt_t]; omega)
    unfold firA firI firB
    rw [q1, q2]
    cases hok : dueOk a d with
    | false => rfl
    | true =>
      by_cases h0 : n = 0
      · subst h0
        have e : decide (0 < a.length) = false := by simp [wa]
        rw [e]
        rfl
      · have e : decide (0 < a.length) = true := by simp [wa]; omega
        have e2 : ieq (ofN n) 0 = false := by simp [ieq, ofN_e]; omega
        have e3 : 0 < lenI (byK [] d 0) := by
          rw [byK_lt (by omega)]
          simp only [Nat.zero_add]
          have := byK_mono (d := d) (ks := mkey [] (d.getD 0 0)) (i := 1)
          have e : lenI (mkey [] (d.getD 0 0)) = 1 := rfl
          omega
        have q3 : ilt 0 (ofN (lenI (byK [] d 0))) = true := by rw [ilt_t, ofN_e]; omega
        have q4 : nlt 0 (lenI (byK [] d 0)) = true := by first | (rw [nle_t]; omega) | (rw [nlt_t]; omega)
        rw [e, e2, q3, q4]
        rfl
  · cases h


def spec_late : LoopSpec := { n := 38, keep := [1, 4, 6, 16, 17, 18], srcs := [.tmp 4, .tmp 6], keepE := [4, 6], srcsE := [.tmp 4, .tmp 6], goes := fun vals objs Q => match vals, objs with
  | [.int .i64 t, .full 0, .mp 1, .sl n [.int .i64 a, .int .i64 d], .int .i64 m, .int .i64 i], [some (.row 3 p [.int .i64 L]), some (.tmap ks [.int .i64 A, .int .i64 I] false)] => asrt (band (nle n 1000000) (band (nle p (nOf i)) (band (ieq m (ofN n)) (band (ile 0 i) (ile i (ofN n)))))) (Q (.exit 0) [.full 0, .mp 1] [some (.row 3 (lenI (lvL a d t (nOf i) L)) [.int .i64 (lvL a d t (nOf i) L)]), some (.tmap (lvK a d t (nOf i) ks) [.int .i64 (lvC a d t (nOf i) ks A), .int .i64 (lvC a d t (nOf i) ks I)] false)])
  | _, _ => False }

theorem lp_late (t : Int) (n : Nat) (a d : List Int) (m i : Int) (p : Nat) (L : List Int) (ks A I : List Int) (mu : List AV → Heap → Nat) (Q : Ex → List AV → Heap → Prop) : runCode Try.prog (tabS tabD1) (callN Try.prog (tabS tabD1) noL 11) (fun _ => none) (bodyOf Try.prog 31 0) 0 ⟨mkT (spec_late).keep [.int .i64 t, .full 0, .mp 1, .sl n [.int .i64 a, .int .i64 d], .int .i64 m, .int .i64 i] (spec_late).n 0, [some (.row 3 p [.int .i64 L]), some (.tmap ks [.int .i64 A, .int .i64 I] false)]⟩ ((spec_late).ends mu [.int .i64 t, .full 0, .mp 1, .sl n [.int .i64 a, .int .i64 d], .int .i64 m, .int .i64 i] ([some (.row 3 p [.int .i64 L]), some (.tmap ks [.int .i64 A, .int .i64 I] false)]) Q) = (
  br (ilt i m)
    (asrt (band (ile 0 i) (ilt i (ofN n)))
      (br (ile (gI a (nOf i)) t)
        (asrt (nle (nAdd p 1) 17592186044416)
          ((mu
                    [AV.int IntKind.i64 t, AV.full 0, AV.mp 1, AV.sl n [Col.int IntKind.i64 a, Col.int IntKind.i64 d],
                      AV.int IntKind.i64 m, AV.int IntKind.i64 (iadd IntKind.i64 i 1)]
                    [some (AObj.row 3 (nAdd p 1) [Col.int IntKind.i64 (cat L [gI d (nOf i)])]),
                      some
                        (AObj.tmap (mdel ks (gI d (nOf i)))
                          [Col.int IntKind.i64 (mcut ks A (gI d (nOf i))),
                            Col.int IntKind.i64 (mcut ks I (gI d (nOf i)))]
                          false)]).succ.le
              (mu
                [AV.int IntKind.i64 t, AV.full 0, AV.mp 1, AV.sl n [Col.int IntKind.i64 a, Col.int IntKind.i64 d],
                  AV.int IntKind.i64 m, AV.int IntKind.i64 i]
                [some (AObj.row 3 p [Col.int IntKind.i64 L]),
                  some (AObj.tmap ks [Col.int IntKind.i64 A, Col.int IntKind.i64 I] false)]) ∧
            asrt
              (band (nle n 1000000)
                (band (nle (nAdd p 1) (nOf (iadd IntKind.i64 i 1)))
                  (band (ieq m (ofN n)) (band (ile 0 (iadd IntKind.i64 i 1)) (ile (iadd IntKind.i64 i 1) (ofN n))))))
              (Q (Ex.exit 0) [AV.full 0, AV.mp 1]
                [some
                    (AObj.row 3 (lenI (lvL a d t (nOf (iadd IntKind.i64 i 1)) (cat L [gI d (nOf i)])))
                      [Col.int IntKind.i64 (lvL a d t (nOf (iadd IntKind.i64 i 1)) (cat L [gI d (nOf i)]))]),
                  some
                    (AObj.tmap (lvK a d t (nOf (iadd IntKind.i64 i 1)) (mdel ks (gI d (nOf i))))
                      [Col.int IntKind.i64
                          (lvC a d t (nOf (iadd IntKind.i64 i 1)) (mdel ks (gI d (nOf i))) (mcut ks A (gI d (nOf i)))),
                        Col.int IntKind.i64
                          (lvC a d t (nOf (iadd IntKind.i64 i 1)) (mdel ks (gI d (nOf i))) (mcut ks I (gI d (nOf i))))]
                      false)])))
        ((mu
                  [AV.int IntKind.i64 t, AV.full 0, AV.mp 1, AV.sl n [Col.int IntKind.i64 a, Col.int IntKind.i64 d],
                    AV.int IntKind.i64 m, AV.int IntKind.i64 (iadd IntKind.i64 i 1)]
                  [some (AObj.row 3 p [Col.int IntKind.i64 L]),
                    some (AObj.tmap ks [Col.int IntKind.i64 A, Col.int IntKind.i64 I] false)]).succ.le
            (mu
              [AV.int IntKind.i64 t, AV.full 0, AV.mp 1, AV.sl n [Col.int IntKind.i64 a, Col.int IntKind.i64 d],
                AV.int IntKind.i64 m, AV.int IntKind.i64 i]
              [some (AObj.row 3 p [Col.int IntKind.i64 L]),
                some (AObj.tmap ks [Col.int IntKind.i64 A, Col.int IntKind.i64 I] false)]) ∧
          asrt
            (band (nle n 1000000)
              (band (nle p (nOf (iadd IntKind.i64 i 1)))
                (band (ieq m (ofN n)) (band (ile 0 (iadd IntKind.i64 i 1)) (ile (iadd IntKind.i64 i 1) (ofN n))))))
            (Q (Ex.exit 0) [AV.full 0, AV.mp 1]
              [some
                  (AObj.row 3 (lenI (lvL a d t (nOf (iadd IntKind.i64 i 1)) L))
                    [Col.int IntKind.i64 (lvL a d t (nOf (iadd IntKind.i64 i 1)) L)]),
                some
                  (AObj.tmap (lvK a d t (nOf (iadd IntKind.i64 i 1)) ks)
                    [Col.int IntKind.i64 (lvC a d t (nOf (iadd IntKind.i64 i 1)) ks A),
                      Col.int IntKind.i64 (lvC a d t (nOf (iadd IntKind.i64 i 1)) ks I)]
                    false)]))))
    (Q (Ex.exit 0) [AV.full 0, AV.mp 1]
      [some (AObj.row 3 p [Col.int IntKind.i64 L]),
        some (AObj.tmap ks [Col.int IntKind.i64 A, Col.int IntKind.i64 I] false)])) := by kernel_rfl

theorem loop_late : LoopOK Try.prog (bodyOf Try.prog 31 0) spec_late.summ := by
  refine tab_loop mixed (l := tabD1) ok_tabD1 (i := 0) spec_late (fun vals objs => match vals, objs with
    | [.int .i64 t, .full 0, .mp 1, .sl n [.int .i64 a, .int .i64 d], .int .i64 m, .int .i64 i], [some (.row 3 p [.int .i64 L]), some (.tmap ks [.int .i64 A, .int .i64 I] false)] => (m - i).toNat
    | _, _ => 0) fun vals objs Q h1 h2 wf wo hg => ?_
  unfold spec_late at hg
  simp only at hg
  split at hg
  · rename_i t n a d m i p L ks A I
    clear h1 h2
    try simp only [WFL, WF, List.mem_cons, List.not_mem_nil, or_false, forall_eq_or_imp, forall_eq, Col.len, and_true, true_and] at wf
    rw [lp_late]
    obtain ⟨wa, wd⟩ : a.length = n ∧ d.length = n := by simpa using wf
    have wL : L.length = p := by simpa [WFO, Col.len] using wo (some (.row 3 p [.int .i64 L])) (by simp) _ rfl
    simp only [asrt_iff, band_t, nle_t, ieq_t, ile_t, ofN_e] at hg
    obtain ⟨⟨hb, hp, rfl, h0, hn⟩, hg⟩ := hg
    obtain ⟨k, rfl⟩ := Int.eq_ofNat_of_zero_le h0
    have hw : IntKind.i64.wrap ((k : Int) + 1) = (k : Int) + 1 := wr (by omega) (by omega)
    have e4 : nOf (iadd .i64 (k : Int) 1) = k + 1 := by rw [iadd_e, hw, nOf_e]; omega
    have e6 : nOf (k : Int) = k := nOf_n
    rw [e6] at hp hg
    rw [e6, e4]
    have hm : ((k : Int) < n) → (((n : Int) - iadd .i64 (k : Int) 1).toNat).succ.le ((n : Int) - (k : Int)).toNat := by
      intro h
      show _ + 1 ≤ _
      rw [iadd_e, hw]
      omega
    rw [br_iff, ilt_t, ilt_f]
    refine ⟨fun hk => ?_, fun hk => ?_⟩
    · have q1 : band (ile 0 (k : Int)) (ilt (k : Int) (ofN n)) = true := by rw [band_t, ile_t, ilt_t, ofN_e]; omega
      rw [lvL_lt (by omega) (by omega), lvK_lt (by omega) (by omega), lvC_lt (by omega) (by omega), lvC_lt (C := I) (by omega) (by omega)] at hg
      rw [asrt_iff]
      refine ⟨q1, ?_⟩
      rw [br_iff, ile_t, ile_f]
      refine ⟨fun ht => ?_, fun ht => ?_⟩
      · have ht : a.getD k 0 ≤ t := ht
        simp only [if_pos ht] at hg
        simp only [asrt_iff]
        refine ⟨by rw [nle_t, nAdd_e]; omega, hm hk, ?_, hg⟩
        simp only [band_t, nle_t, ieq_t, ile_t, ofN_e, nAdd_e, iadd_e, hw, true_and]
        omega
      · have ht : ¬ a.getD k 0 ≤ t := Int.not_le.2 ht
        simp only [if_neg ht] at hg
        simp only [asrt_iff]
        refine ⟨hm hk, ?_, hg⟩
        simp only [band_t, nle_t, ieq_t, ile_t, ofN_e, nAdd_e, iadd_e, hw, true_and]
        omega
    · have z : (a.zip d).drop k = [] := zip_drop_ge (by omega)
      unfold lvL lvK lvC at hg
      rw [z] at hg
      simp only [List.foldl_nil, lenI_e, wL] at hg
      exact hg
  · exact hg.elim


def Llate : Nat → Option LoopS := fun i => match i with
  | 0 => some (.summ spec_late.summ)
  | _ => none

theorem ok_Llate : ∀ i x, Llate i = some x → LoopHyp Try.prog 31 i x := by
  intro i s h
  unfold Llate at h
  split at h
  · cases h; exact ⟨by kernel_rfl, loop_late⟩
  · cases h


def Flate : Pure1 := fun
  | [.sl n [.int .i64 a, .int .i64 d], .int .i64 t] => some (some (nle n 900000), .tup [.own 3 (lenI (lateL a d t)) [.int .i64 (lateL a d t)], .own 43 (lateN n a d t) [.int .i64 (lateA a d t), .int .i64 (lateI a d t)]])
  | _ => none

theorem vc_late (n : Nat) (a d : List Int) (t : Int) (r : AV) : VC Try.prog (tabS tabD1) (oneL 31 Llate) true 31 [.sl n [.int .i64 a, .int .i64 d], .int .i64 t] r = (
  asrt (nle n 1000000)
    (br (bnot (dueOk a d))
      (asrt (nle n 1000000)
        (some
            (AV.tup [AV.own 3 0 [Col.int IntKind.i64 []], AV.own 43 n [Col.int IntKind.i64 a, Col.int IntKind.i64 d]]) =
          some r))
      (asrt (nle n 1000000)
        (asrt (band (nle n 1000000) (band (ieq (ofN n) (ofN n)) (ile 0 (ofN n))))
          (asrt (nle (lenI (lvK a d t 0 (byK [] d 0))) 1000000)
            (some
                (AV.tup
                  [AV.own 3 (lenI (lvL a d t 0 [])) [Col.int IntKind.i64 (lvL a d t 0 [])],
                    AV.own 43 (lenI (lvK a d t 0 (byK [] d 0)))
                      [Col.int IntKind.i64
                          (dA (lvC a d t 0 (byK [] d 0) (byC [] d [] a 0))
                            (lvC a d t 0 (byK [] d 0) (byC [] d [] d 0))),
                        Col.int IntKind.i64
                          (dI (lvC a d t 0 (byK [] d 0) (byC [] d [] a 0))
                            (lvC a d t 0 (byK [] d 0) (byC [] d [] d 0)))]]) =
              some r)))))) := by kernel_rfl

theorem ok_late : PureOK Try.prog 31 Flate := by
  refine tab_loops mixed (l := tabD1) ok_tabD1 true Llate (by kernel_rfl) ok_Llate fun xs b r h hb wf => ?_
  unfold Flate at h
  split at h
  · rename_i n a d t
    cases h
    try rw [some_f] at hb
    try simp only [WFL, WF, List.mem_cons, List.not_mem_nil, or_false, forall_eq_or_imp, forall_eq, Col.len, and_true, true_and] at wf
    rw [vc_late]
    obtain ⟨wa, wd⟩ : a.length = n ∧ d.length = n := by simpa using wf
    have k2 := byK_le (d := d) (ks := []) (i := 0)
    have k4 := lvK_le (a := a) (d := d) (t := t) (K := byK [] d 0) (i := 0)
    have k3 : lenI ([] : List Int) = 0 := rfl
    simp only [nle_t] at hb
    have q1 : nle n 1000000 = true := by rw [nle_t]; omega
    have q2 : nle (lenI (lvK a d t 0 (byK [] d 0))) 1000000 = true := by rw [nle_t]; omega
    have q3 : band (nle n 1000000) (band (ieq (ofN n) (ofN n)) (ile 0 (ofN n))) = true := by simp only [band_t, nle_t, ieq_t, ile_t, ofN_e, true_and]; omega
    unfold lateL lateN lateA lateI
    rw [q3, q1, q2]
    cases dueOk a d <;> rfl
  · cases h


end Go.Own
