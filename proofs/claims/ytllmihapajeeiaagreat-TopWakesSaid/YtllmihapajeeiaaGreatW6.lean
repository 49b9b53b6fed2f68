/- What stands behind it, part 6. -/
import Derived.Test.YtllmihapajeeiaaGreatW5
import Derived.Test.YtllmihapajeeiaaGreatProg
import Derived.Test.YtllmihapajeeiaaGreatChecked
set_option linter.unusedVariables false
set_option linter.unusedSimpArgs false
section
namespace Go.Own
open Go Go.Proofs
set_option maxRecDepth 100000
theorem mixed : Tryz.prog.follows .mixedOrders = true := Tryz.checked.mixed
def big : Nat := 2 ^ 50
def sameFrom (l m : List Int) (i : Int) : Bool := l.drop i.toNat == m.drop i.toNat
def sameI (l m : List Int) : Bool := l == m
theorem bite_and (c p : Bool) : bite c p false = (c && p) := by cases c <;> rfl
theorem bite_or (c q : Bool) : bite c true q = (c || q) := by cases c <;> rfl
theorem le_big {n : Nat} (h : n ≤ 1073741824) : n ≤ big := by unfold big; omega
def tab0 : List (FuncId × Pure1) := []
theorem ok_tab0 : ∀ p ∈ tab0, PureOK Tryz.prog p.1 p.2 := by
 intro p hp
 simp only [tab0, List.mem_cons, List.not_mem_nil, or_false] at hp
theorem sameFrom_lt {l m : List Int} {i : Nat} (h : i < l.length) (h' : i < m.length) : sameFrom l m (i : Int) = (decide (l[i]?.getD 0 = m[i]?.getD 0) && sameFrom l m ((i : Int) + 1)) := by
 unfold sameFrom
 rw [show (i : Int).toNat = i by omega, show ((i : Int) + 1).toNat = i + 1 by omega, List.drop_eq_getElem_cons h, List.drop_eq_getElem_cons h', List.cons_beq_cons]
 simp [h, h']
 rfl
theorem sameFrom_ge {l m : List Int} {i : Nat} (h : l.length ≤ i) (h' : m.length ≤ i) : sameFrom l m (i : Int) = true := by
 unfold sameFrom
 rw [show (i : Int).toNat = i by omega, List.drop_eq_nil_of_le h, List.drop_eq_nil_of_le h']
 rfl
def spec_ints : LoopSpec := { n := 26, keep := [0, 1, 5], srcs := [], keepE := [4], srcsE := [], goes := fun vals objs Q => match vals, objs with
 | [.sl n [.int .i64 l], .sl n' [.int .i64 l'], .int .i64 i], [] => asrt (band (nle n big) (band (neq n n') (band (ile 0 i) (ile i (ofN n))))) (br (sameFrom l l' i) (Q (.exit 0) [.top] []) (Q .ret [.bool false] []))
 | _, _ => False }
theorem lp_ints (n : Nat) (l : List Int) (n' : Nat) (l' : List Int) (i : Int) (mu : List AV → Heap → Nat) (Q : Ex → List AV → Heap → Prop) : runCode Tryz.prog (tabS tab0) (callN Tryz.prog (tabS tab0) noL 11) (fun _ => none) (bodyOf Tryz.prog 40 0) 0 ⟨mkT (spec_ints).keep [.sl n [.int .i64 l], .sl n' [.int .i64 l'], .int .i64 i] (spec_ints).n 0, []⟩ ((spec_ints).ends mu [.sl n [.int .i64 l], .sl n' [.int .i64 l'], .int .i64 i] ([]) Q) = (
 br (ilt i (ofN n)) (asrt (band (ile 0 i) (ilt i (ofN n))) (asrt (band (ile 0 i) (ilt i (ofN n'))) (br (ine (gI l (nOf i)) (gI l' (nOf i))) (Q Ex.ret [AV.bool false] []) ((mu [AV.sl
 n [.int .i64 l], AV.sl n' [.int .i64 l'], AV.int .i64 (iadd .i64 i 1)] []).succ.le (mu [AV.sl n [.int .i64 l], AV.sl n' [.int .i64 l'], AV.int .i64 i] []) ∧ asrt (band (nle n big)
 (band (neq n n') (band (ile 0 (iadd .i64 i 1)) (ile (iadd .i64 i 1) (ofN n))))) (br (sameFrom l l' (iadd .i64 i 1)) (Q (Ex.exit 0) [AV.top] []) (Q Ex.ret [AV.bool false] [])))))) (Q
 (Ex.exit 0) [AV.top] [])) := by kernel_rfl
theorem loop_ints : LoopOK Tryz.prog (bodyOf Tryz.prog 40 0) spec_ints.summ := by
 refine tab_loop mixed (l := tab0) ok_tab0 (i := 0) spec_ints (fun vals objs => match vals, objs with
  | [.sl n [.int .i64 l], .sl n' [.int .i64 l'], .int .i64 i], [] => (n - i).toNat
  | _, _ => 0) fun vals objs Q h1 h2 wf wo hg => ?_
 unfold spec_ints at hg
 simp only at hg
 split at hg
 ·rename_i n l n' l' i
  clear h1 h2
  try simp only [WFL, WF, List.mem_cons, List.not_mem_nil, or_false, forall_eq_or_imp, forall_eq, Col.len, and_true, true_and] at wf
  rw [lp_ints]
  obtain ⟨w1, w2⟩ := wf
  simp [owl] at hg ⊢
  obtain ⟨⟨hb, rfl, h0, hn⟩, hg⟩ := hg
  obtain ⟨i, rfl⟩ := Int.eq_ofNat_of_zero_le h0
  have hb' : n ≤ 2 ^ 50 := by simpa [big] using hb
  simp at hn hg ⊢
  refine ⟨fun hlt => ?_, fun hge => ?_⟩
  ·rw [wr (by omega) (by omega)]
   rw [sameFrom_lt (by omega) (by omega)] at hg
   refine ⟨hlt, fun hx => ?_, fun hx => ?_⟩
   ·rw [decide_eq_false hx] at hg
    simpa using hg
   ·rw [decide_eq_true hx] at hg
    refine ⟨by omega, ⟨hb, by omega, by omega⟩, ?_⟩
    simpa using hg
  ·rw [sameFrom_ge (by omega) (by omega)] at hg
   simpa using hg
 ·exact hg.elim
def Lints : Nat → Option LoopS := fun i => match i with
 | 0 => some (.summ spec_ints.summ)
 | _ => none
theorem ok_Lints : ∀ i x, Lints i = some x → LoopHyp Tryz.prog 40 i x := by
 intro i s h
 unfold Lints at h
 split at h
 ·cases h; exact ⟨by kernel_rfl, loop_ints⟩
 ·cases h
def Fints : Pure1 := fun
 | [.sl n [.int .i64 l], .sl n' [.int .i64 l']] => some (some (nle n big), .bool (sameI l l'))
 | _ => none
theorem vc_ints (n : Nat) (l : List Int) (n' : Nat) (l' : List Int) (r : AV) : VC Tryz.prog (tabS tab0) (oneL 40 Lints) false 40 [.sl n [.int .i64 l], .sl n' [.int .i64 l']] r = (
 br (ine (ofN n) (ofN n')) (some (AV.bool false) = some r) (asrt (band (nle n big) (band (neq n n') (ile 0 (ofN n)))) (br (sameFrom l l' 0) (some (AV.bool true) = some r) (some
 (AV.bool false) = some r)))) := by kernel_rfl
theorem ok_ints : PureOK Tryz.prog 40 Fints := by
 refine tab_loops mixed (l := tab0) ok_tab0 false Lints (by kernel_rfl) ok_Lints fun xs b r h hb wf => ?_
 unfold Fints at h
 split at h
 ·rename_i n l n' l'
  cases h
  try rw [some_f] at hb
  try simp only [WFL, WF, List.mem_cons, List.not_mem_nil, or_false, forall_eq_or_imp, forall_eq, Col.len, and_true, true_and] at wf
  rw [vc_ints]
  obtain ⟨w1, w2⟩ := wf
  have e : sameFrom l l' 0 = sameI l l' := by simp [sameFrom, sameI]
  simp [owl, e] at hb ⊢
  refine ⟨fun h => ?_, fun h => ⟨hb, ?_⟩⟩
  ·simp [sameI]
   intro h2
   exact h (by rw [← w1, ← w2, h2])
  ·trace_state
   grind
 ·cases h
def idxAt (l : List Int) (x : Int) (k : Nat) : Int :=
 match (l.drop k).findIdx? (· == x) with
 | some j => k + j
 | none => -1
def Fclone : Pure1 := fun
 | [.sl n [.int .i64 l]] => some (some (nle n room), .own 3 n [.int .i64 l])
 | _ => none
theorem vc_clone (n : Nat) (l : List Int) (r : AV) : VC Tryz.prog (tabS tab0) noL true 69 [.sl n [.int .i64 l]] r = (
 ∀ (b : Bool), (b = true → n = 0) → br b (some (AV.own 3 0 [.int .i64 []]) = some r) (asrt (nle (nAdd 0 n) 17592186044416) (some (AV.own 3 (nAdd 0 n) [.int .i64 (cat [] l)]) = some
 r))) := by kernel_rfl
theorem ok_clone : PureOK Tryz.prog 69 Fclone := by
 refine tab_plain mixed (l := tab0) ok_tab0 true (by kernel_rfl) fun xs b r h hb wf => ?_
 unfold Fclone at h
 split at h
 ·rename_i n l
  cases h
  try rw [some_f] at hb
  try simp only [WFL, WF, List.mem_cons, List.not_mem_nil, or_false, forall_eq_or_imp, forall_eq, Col.len, and_true, true_and] at wf
  rw [vc_clone]
  simp [owl] at hb ⊢
  grind
 ·cases h
theorem idxAt_lt {l : List Int} {x : Int} {k : Nat} (h : k < l.length) : idxAt l x k = if x = l[k]?.getD 0 then (k : Int) else idxAt l x (k + 1) := by
 unfold idxAt
 rw [List.drop_eq_getElem_cons h]
 have e : l[k]?.getD 0 = l[k] := by simp [h]
 rw [e, List.findIdx?_cons]
 by_cases hx : x = l[k]
 ·simp [← hx]
 ·have hx' : (l[k] == x) = false := by simpa using fun h => hx h.symm
  simp only [hx', if_neg hx, Bool.false_eq_true, if_false]
  cases (l.drop (k + 1)).findIdx? (· == x) with
  | none => rfl
  | some j => simp; omega
theorem idxAt_ge {l : List Int} {x : Int} {k : Nat} (h : l.length ≤ k) : idxAt l x k = -1 := by
 unfold idxAt
 rw [List.drop_eq_nil_of_le h]
 rfl
def spec_index : LoopSpec := { n := 19, keep := [0, 1, 7, 8], srcs := [], keepE := [4], srcsE := [], goes := fun vals objs Q => match vals, objs with
 | [.sl n [.int .i64 l], .int .i64 x, .int .i64 m, .int .i64 i], [] => asrt (band (nle n big) (band (ieq m (ofN n)) (band (ile 0 i) (ile i (ofN n))))) (br (ieq (idxAt l x (nOf i)) (-1)) (Q (.exit 0) [.top] []) (Q .ret [.int .i64 (idxAt l x (nOf i))] []))
 | _, _ => False }
theorem lp_index (n : Nat) (l : List Int) (x m i : Int) (mu : List AV → Heap → Nat) (Q : Ex → List AV → Heap → Prop) : runCode Tryz.prog (tabS tab0) (callN Tryz.prog (tabS tab0) noL 11) (fun _ => none) (bodyOf Tryz.prog 186 0) 0 ⟨mkT (spec_index).keep [.sl n [.int .i64 l], .int .i64 x, .int .i64 m, .int .i64 i] (spec_index).n 0, []⟩ ((spec_index).ends mu [.sl n [.int .i64 l], .int .i64 x, .int .i64 m, .int .i64 i] ([]) Q) = (
 br (ilt i m) (asrt (band (ile 0 i) (ilt i (ofN n))) (br (ieq x (gI l (nOf i))) (Q Ex.ret [AV.int .i64 i] []) ((mu [AV.sl n [.int .i64 l], AV.int .i64 x, AV.int .i64 m, AV.int .i64
 (iadd .i64 i 1)] []).succ.le (mu [AV.sl n [.int .i64 l], AV.int .i64 x, AV.int .i64 m, AV.int .i64 i] []) ∧ asrt (band (nle n big) (band (ieq m (ofN n)) (band (ile 0 (iadd .i64 i
 1)) (ile (iadd .i64 i 1) (ofN n))))) (br (ieq (idxAt l x (nOf (iadd .i64 i 1))) (-1)) (Q (Ex.exit 0) [AV.top] []) (Q Ex.ret [AV.int .i64 (idxAt l x (nOf (iadd .i64 i 1)))] [])))))
 (Q (Ex.exit 0) [AV.top] [])) := by kernel_rfl
theorem loop_index : LoopOK Tryz.prog (bodyOf Tryz.prog 186 0) spec_index.summ := by
 refine tab_loop mixed (l := tab0) ok_tab0 (i := 0) spec_index (fun vals objs => match vals, objs with
  | [.sl n [.int .i64 l], .int .i64 x, .int .i64 m, .int .i64 i], [] => (m - i).toNat
  | _, _ => 0) fun vals objs Q h1 h2 wf wo hg => ?_
 unfold spec_index at hg
 simp only at hg
 split at hg
 ·rename_i n l x m i
  clear h1 h2
  try simp only [WFL, WF, List.mem_cons, List.not_mem_nil, or_false, forall_eq_or_imp, forall_eq, Col.len, and_true, true_and] at wf
  rw [lp_index]
  have hl : l.length = n := wf
  simp [owl] at hg ⊢
  obtain ⟨⟨hb, rfl, h0, hn⟩, hg⟩ := hg
  obtain ⟨k, rfl⟩ := Int.eq_ofNat_of_zero_le h0
  have hb' : n ≤ 2 ^ 50 := by simpa [big] using hb
  simp at hn hg ⊢
  refine ⟨fun hk => ?_, fun hk => ?_⟩
  ·rw [wr (by omega) (by omega)]
   rw [show ((k : Int) + 1).toNat = k + 1 by omega]
   rw [idxAt_lt (by omega)] at hg
   refine ⟨hk, fun hx => ?_, fun hx => ?_⟩
   ·rw [if_pos hx] at hg
    exact hg.2 (by omega)
   ·rw [if_neg hx] at hg
    exact ⟨by omega, ⟨hb, by omega, by omega⟩, hg⟩
  ·rw [idxAt_ge (by omega)] at hg
   exact hg.1 rfl
 ·exact hg.elim
def Lindex : Nat → Option LoopS := fun i => match i with
 | 0 => some (.summ spec_index.summ)
 | _ => none
theorem ok_Lindex : ∀ i x, Lindex i = some x → LoopHyp Tryz.prog 186 i x := by
 intro i s h
 unfold Lindex at h
 split at h
 ·cases h; exact ⟨by kernel_rfl, loop_index⟩
 ·cases h
def Findex : Pure1 := fun
 | [.sl n [.int .i64 l], .int .i64 x] => some (some (nle n big), .int .i64 (idxAt l x 0))
 | _ => none
theorem vc_index (n : Nat) (l : List Int) (x : Int) (r : AV) : VC Tryz.prog (tabS tab0) (oneL 186 Lindex) false 186 [.sl n [.int .i64 l], .int .i64 x] r = (
 asrt (band (nle n big) (band (ieq (ofN n) (ofN n)) (ile 0 (ofN n)))) (br (ieq (idxAt l x 0) (-1)) (some (AV.int .i64 (-1)) = some r) (some (AV.int .i64 (idxAt l x 0)) = some r))) := by kernel_rfl
theorem ok_index : PureOK Tryz.prog 186 Findex := by
 refine tab_loops mixed (l := tab0) ok_tab0 false Lindex (by kernel_rfl) ok_Lindex fun xs b r h hb wf => ?_
 unfold Findex at h
 split at h
 ·rename_i n l x
  cases h
  try rw [some_f] at hb
  try simp only [WFL, WF, List.mem_cons, List.not_mem_nil, or_false, forall_eq_or_imp, forall_eq, Col.len, and_true, true_and] at wf
  rw [vc_index]
  simp [owl] at hb ⊢
  grind
 ·cases h
def badId (x : Int) : Bool := ilt x 0 || ige x 16
def badAt (l : List Int) (k : Nat) : Int :=
 match (l.drop k).findIdx? badId with
 | some j => k + j
 | none => -1
def unl : List Int → List Int → List Int
 | out, [] => out
 | out, x :: r => if out.contains x then unl out r else unl (out ++ [x]) r
def lineOk (l : List Int) : Bool := decide (badAt l 0 < 0) && decide ((unl [] l).length = l.length)
def placeAt (l : List Int) (x : Int) : Int := if lineOk l then idxAt l x 0 else -1
theorem idxAt_has (l : List Int) (x : Int) : (0 ≤ idxAt l x 0) ↔ x ∈ l := by
 unfold idxAt
 rw [List.drop_zero]
 cases h : l.findIdx? (· == x) with
 | none =>
  simp only [List.findIdx?_eq_none_iff] at h
  constructor
  ·intro h2; simp at h2
  ·intro hx; have := h x hx; simp at this
 | some j =>
  simp only [List.findIdx?_eq_some_iff_getElem] at h
  obtain ⟨hj, hx, _⟩ := h
  refine ⟨fun _ => ?_, fun _ => by simp⟩
  have : l[j] = x := by simpa using hx
  rw [← this]
  exact List.getElem_mem hj
theorem badAt_ok (l : List Int) : (badAt l 0 < 0) ↔ ∀ x ∈ l, 0 ≤ x ∧ x < 16 := by
 unfold badAt
 rw [List.drop_zero]
 cases h : l.findIdx? badId with
 | none =>
  simp only [List.findIdx?_eq_none_iff] at h
  refine ⟨fun _ x hx => ?_, fun _ => by simp⟩
  have := h x hx
  simp [badId, ilt, ige] at this
  omega
 | some j =>
  simp only [List.findIdx?_eq_some_iff_getElem] at h
  obtain ⟨hj, hx, _⟩ := h
  refine ⟨fun h2 => by simp at h2; omega, fun h2 => ?_⟩
  have := h2 _ (List.getElem_mem hj)
  simp [badId, ilt, ige] at hx
  omega
theorem unl_le : ∀ (l out : List Int), (unl out l).length ≤ out.length + l.length := by
 intro l
 induction l with
 | nil => intro out; simp [unl]
 | cons x r ih =>
  intro out
  unfold unl
  split
  ·have := ih out; simp; omega
  ·have := ih (out ++ [x]); simp at this ⊢; omega
theorem unl_eq : ∀ (l out : List Int), (unl out l).length = out.length + l.length ↔ l.Nodup ∧ ∀ x ∈ l, x ∉ out := by
 intro l
 induction l with
 | nil => intro out; simp [unl]
 | cons x r ih =>
  intro out
  unfold unl
  split
  ·rename_i h
   have := unl_le r out
   simp at h ⊢
   constructor
   ·intro h2; omega
   ·intro h2; exact absurd h h2.2.1
  ·rename_i h
   have e := ih (out ++ [x])
   simp at h e ⊢
   rw [show out.length + (r.length + 1) = out.length + 1 + r.length by omega, e]
   grind
theorem lineOk_iff (l : List Int) : lineOk l = true ↔ (∀ x ∈ l, 0 ≤ x ∧ x < 16) ∧ l.Nodup := by
 have := unl_eq l []
 simp at this
 simp [lineOk, badAt_ok, this]
theorem idxAt_cases (l : List Int) (x : Int) : idxAt l x 0 = -1 ∧ x ∉ l ∨ ∃ j, ∃ h : j < l.length, idxAt l x 0 = j ∧ l[j] = x ∧ ∀ i, (hi : i < j) → l[i] ≠ x := by
 unfold idxAt
 rw [List.drop_zero]
 cases h : l.findIdx? (· == x) with
 | none =>
  left
  simp only [List.findIdx?_eq_none_iff] at h
  refine ⟨rfl, fun hx => ?_⟩
  have := h x hx; simp at this
 | some j =>
  right
  simp only [List.findIdx?_eq_some_iff_getElem] at h
  obtain ⟨hj, hx, h3⟩ := h
  exact ⟨j, hj, by simp, by simpa using hx, fun i hi => by simpa using h3 i hi⟩
theorem badAt_lt {l : List Int} {k : Nat} (h : k < l.length) : badAt l k = if badId (l[k]?.getD 0) = true then (k : Int) else badAt l (k + 1) := by
 unfold badAt
 rw [List.drop_eq_getElem_cons h]
 have e : l[k]?.getD 0 = l[k] := by simp [h]
 rw [e, List.findIdx?_cons]
 by_cases hx : badId l[k] = true
 ·simp [hx]
 ·simp only [hx, Bool.false_eq_true, if_false]
  cases (l.drop (k + 1)).findIdx? badId with
  | none => rfl
  | some j => simp; omega
theorem badAt_ge {l : List Int} {k : Nat} (h : l.length ≤ k) : badAt l k = -1 := by
 unfold badAt
 rw [List.drop_eq_nil_of_le h]
 rfl
def FbadId : Pure1 := fun
 | [.int .i64 x] => some (none, .bool (badId x))
 | _ => none
theorem vc_badId (x : Int) (r : AV) : VC Tryz.prog (tabS tab0) noL false 107 [.int .i64 x] r = (
some (AV.bool (bite (ilt x 0) true (ige x 16))) = some r) := by kernel_rfl
theorem ok_badId : PureOK Tryz.prog 107 FbadId := by
 refine tab_plain mixed (l := tab0) ok_tab0 false (by kernel_rfl) fun xs b r h hb wf => ?_
 unfold FbadId at h
 split at h
 ·rename_i x
  cases h
  try rw [some_f] at hb
  try simp only [WFL, WF, List.mem_cons, List.not_mem_nil, or_false, forall_eq_or_imp, forall_eq, Col.len, and_true, true_and] at wf
  rw [vc_badId]
  simp [owl, badId, bite, ilt, ige]
 ·cases h
def tab1 : List (FuncId × Pure1) := [(107, FbadId)]
theorem ok_tab1 : ∀ p ∈ tab1, PureOK Tryz.prog p.1 p.2 := by
 intro p hp
 simp only [tab1, List.mem_cons, List.not_mem_nil, or_false] at hp
 rcases hp with rfl
 ·exact ok_badId
def spec_bad : LoopSpec := { n := 19, keep := [0, 1, 7, 8], srcs := [], keepE := [4], srcsE := [], goes := fun vals objs Q => match vals, objs with
 | [.sl n [.int .i64 l], .fn (.func 107) [] [], .int .i64 m, .int .i64 i], [] => asrt (band (nle n big) (band (ieq m (ofN n)) (band (ile 0 i) (ile i (ofN n))))) (br (ieq (badAt l (nOf i)) (-1)) (Q (.exit 0) [.top] []) (Q .ret [.int .i64 (badAt l (nOf i))] []))
 | _, _ => False }
theorem lp_bad (n : Nat) (l : List Int) (m i : Int) (mu : List AV → Heap → Nat) (Q : Ex → List AV → Heap → Prop) : runCode Tryz.prog (tabS tab1) (callN Tryz.prog (tabS tab1) noL 11) (fun _ => none) (bodyOf Tryz.prog 109 0) 0 ⟨mkT (spec_bad).keep [.sl n [.int .i64 l], .fn (.func 107) [] [], .int .i64 m, .int .i64 i] (spec_bad).n 0, []⟩ ((spec_bad).ends mu [.sl n [.int .i64 l], .fn (.func 107) [] [], .int .i64 m, .int .i64 i] ([]) Q) = (
 br (ilt i m) (asrt (band (ile 0 i) (ilt i (ofN n))) (br (badId (gI l (nOf i))) (Q Ex.ret [AV.int .i64 i] []) ((mu [AV.sl n [.int .i64 l], AV.fn (Fn.func 107) [] [], AV.int .i64 m,
 AV.int .i64 (iadd .i64 i 1)] []).succ.le (mu [AV.sl n [.int .i64 l], AV.fn (Fn.func 107) [] [], AV.int .i64 m, AV.int .i64 i] []) ∧ asrt (band (nle n big) (band (ieq m (ofN n))
 (band (ile 0 (iadd .i64 i 1)) (ile (iadd .i64 i 1) (ofN n))))) (br (ieq (badAt l (nOf (iadd .i64 i 1))) (-1)) (Q (Ex.exit 0) [AV.top] []) (Q Ex.ret [AV.int .i64 (badAt l (nOf (iadd
 .i64 i 1)))] []))))) (Q (Ex.exit 0) [AV.top] [])) := by kernel_rfl
theorem loop_bad : LoopOK Tryz.prog (bodyOf Tryz.prog 109 0) spec_bad.summ := by
 refine tab_loop mixed (l := tab1) ok_tab1 (i := 0) spec_bad (fun vals objs => match vals, objs with
  | [.sl n [.int .i64 l], .fn (.func 107) [] [], .int .i64 m, .int .i64 i], [] => (m - i).toNat
  | _, _ => 0) fun vals objs Q h1 h2 wf wo hg => ?_
 unfold spec_bad at hg
 simp only at hg
 split at hg
 ·rename_i n l m i
  clear h1 h2
  try simp only [WFL, WF, List.mem_cons, List.not_mem_nil, or_false, forall_eq_or_imp, forall_eq, Col.len, and_true, true_and] at wf
  rw [lp_bad]
  have hl : l.length = n := wf
  simp [owl] at hg ⊢
  obtain ⟨⟨hb, rfl, h0, hn⟩, hg⟩ := hg
  obtain ⟨k, rfl⟩ := Int.eq_ofNat_of_zero_le h0
  have hb' : n ≤ 2 ^ 50 := by simpa [big] using hb
  simp at hn hg ⊢
  refine ⟨fun hk => ?_, fun hk => ?_⟩
  ·rw [wr (by omega) (by omega)]
   rw [show ((k : Int) + 1).toNat = k + 1 by omega]
   rw [badAt_lt (by omega)] at hg
   refine ⟨hk, fun hx => ?_, fun hx => ?_⟩
   ·rw [if_pos hx] at hg
    exact hg.2 (by omega)
   ·rw [if_neg (by simpa using hx)] at hg
    exact ⟨by omega, ⟨hb, by omega, by omega⟩, hg⟩
  ·rw [badAt_ge (by omega)] at hg
   exact hg.1 rfl
 ·exact hg.elim
def Lbad : Nat → Option LoopS := fun i => match i with
 | 0 => some (.summ spec_bad.summ)
 | _ => none
theorem ok_Lbad : ∀ i x, Lbad i = some x → LoopHyp Tryz.prog 109 i x := by
 intro i s h
 unfold Lbad at h
 split at h
 ·cases h; exact ⟨by kernel_rfl, loop_bad⟩
 ·cases h
def FindexBad : Pure1 := fun
 | [.sl n [.int .i64 l], .fn (.func 107) [] []] => some (some (nle n big), .int .i64 (badAt l 0))
 | _ => none
theorem vc_indexBad (n : Nat) (l : List Int) (r : AV) : VC Tryz.prog (tabS tab1) (oneL 109 Lbad) false 109 [.sl n [.int .i64 l], .fn (.func 107) [] []] r = (
 asrt (band (nle n big) (band (ieq (ofN n) (ofN n)) (ile 0 (ofN n)))) (br (ieq (badAt l 0) (-1)) (some (AV.int .i64 (-1)) = some r) (some (AV.int .i64 (badAt l 0)) = some r))) := by kernel_rfl
theorem ok_indexBad : PureOK Tryz.prog 109 FindexBad := by
 refine tab_loops mixed (l := tab1) ok_tab1 false Lbad (by kernel_rfl) ok_Lbad fun xs b r h hb wf => ?_
 unfold FindexBad at h
 split at h
 ·rename_i n l
  cases h
  try rw [some_f] at hb
  try simp only [WFL, WF, List.mem_cons, List.not_mem_nil, or_false, forall_eq_or_imp, forall_eq, Col.len, and_true, true_and] at wf
  rw [vc_indexBad]
  simp [owl] at hb ⊢
  grind
 ·cases h
def hasI (l : List Int) (x : Int) : Bool := l.contains x
def unlFrom (out l : List Int) (i : Int) : List Int := unl out (l.drop i.toNat)
def enterOk (l : List Int) (id : Int) : Bool := lineOk l && !badId id && !l.contains id
def enterL (l : List Int) (id : Int) : List Int := if enterOk l id then l ++ [id] else l
def enterE (l : List Int) (id : Int) : Int := if !lineOk l || badId id then 40 else if l.contains id then 60 else 0
def leaveL (l : List Int) (id : Int) : List Int := if placeAt l id < 0 then l else l.eraseIdx (placeAt l id).toNat
def leaveE (l : List Int) (id : Int) : Int := if placeAt l id < 0 then 40 else 0
def nextB (l : List Int) : Bool := lineOk l && !l.isEmpty
def nextL (l : List Int) : List Int := if nextB l then l.tail else l
def nextV (l : List Int) : Int := if nextB l then l.headD 0 else 0
def tab2 : List (FuncId × Pure1) := [(107, FbadId), (186, Findex), (109, FindexBad), (69, Fclone)]
theorem ok_tab2 : ∀ p ∈ tab2, PureOK Tryz.prog p.1 p.2 := by
 intro p hp
 simp only [tab2, List.mem_cons, List.not_mem_nil, or_false] at hp
 rcases hp with rfl | rfl | rfl | rfl
 ·exact ok_badId
 ·exact ok_index
 ·exact ok_indexBad
 ·exact ok_clone
def Fcontains : Pure1 := fun
 | [.sl n [.int .i64 l], .int .i64 x] => some (some (nle n big), .bool (hasI l x))
 | _ => none
theorem vc_contains (n : Nat) (l : List Int) (x : Int) (r : AV) : VC Tryz.prog (tabS tab2) noL false 141 [.sl n [.int .i64 l], .int .i64 x] r = (
asrt (nle n big) (some (AV.bool (ige (idxAt l x 0) 0)) = some r)) := by kernel_rfl
theorem ok_contains : PureOK Tryz.prog 141 Fcontains := by
 refine tab_plain mixed (l := tab2) ok_tab2 false (by kernel_rfl) fun xs b r h hb wf => ?_
 unfold Fcontains at h
 split at h
 ·rename_i n l x
  cases h
  try rw [some_f] at hb
  try simp only [WFL, WF, List.mem_cons, List.not_mem_nil, or_false, forall_eq_or_imp, forall_eq, Col.len, and_true, true_and] at wf
  rw [vc_contains]
  have e := idxAt_has l x
  simp [owl, hasI] at hb ⊢
  refine ⟨hb, ?_⟩
  rw [Bool.eq_iff_iff]
  simp [ige, e]
 ·cases h
def tab3 : List (FuncId × Pure1) := [(141, Fcontains)] ++ tab2
theorem ok_tab3 : ∀ p ∈ tab3, PureOK Tryz.prog p.1 p.2 := by
 intro p hp
 simp only [tab3, List.mem_append, List.mem_cons, List.not_mem_nil, or_false] at hp
 rcases hp with (rfl) | hp
 ·exact ok_contains
 ·exact ok_tab2 p hp
def spec_unl : LoopSpec := { n := 21, keep := [5, 6, 7, 2], srcs := [.tmp 2], keepE := [2], srcsE := [.tmp 2], goes := fun vals objs Q => match vals, objs with
 | [.sl n [.int .i64 l], .int .i64 m, .int .i64 i, .full 0], [some (.row 3 k [.int .i64 out])] => asrt (band (nle n room) (band (ieq m (ofN n)) (band (ile 0 i) (band (ile i (ofN n)) (nle k (nOf i)))))) (Q (.exit 0) [.full 0] [some (.row 3 (lenI (unlFrom out l i)) [.int .i64 (unlFrom out l i)])])
 | _, _ => False }
def zq1 (i : Int) : Int :=
 iadd .i64 i 1
def zq2 (k : Nat) (out : List Int) : Heap :=
 [some (AObj.row 3 k [.int .i64 out])]
def zq3 (n : Nat) (l : List Int) (m : Int) (i : Int) : List AV :=
 [AV.sl n [.int .i64 l], AV.int .i64 m, AV.int .i64 (zq1 i), AV.full 0]
def zq4 (n : Nat) (l : List Int) (m : Int) (i : Int) : List AV :=
 [AV.sl n [.int .i64 l], AV.int .i64 m, AV.int .i64 i, AV.full 0]
theorem lp_unl (n : Nat) (l : List Int) (m i : Int) (k : Nat) (out : List Int) (mu : List AV → Heap → Nat) (Q : Ex → List AV → Heap → Prop) : runCode Tryz.prog (tabS tab3) (callN Tryz.prog (tabS tab3) noL 11) (fun _ => none) (bodyOf Tryz.prog 108 0) 0 ⟨mkT (spec_unl).keep [.sl n [.int .i64 l], .int .i64 m, .int .i64 i, .full 0] (spec_unl).n 0, [some (.row 3 k [.int .i64 out])]⟩ ((spec_unl).ends mu [.sl n [.int .i64 l], .int .i64 m, .int .i64 i, .full 0] ([some (.row 3 k [.int .i64 out])]) Q) = (
 br (ilt i m) (asrt (band (ile 0 i) (ilt i (ofN n))) (asrt (nle k big) (br (bnot (hasI out (gI l (nOf i)))) (asrt (nle (nAdd k 1) 17592186044416) ((mu (zq3 n l m i) [some (AObj.row 3
 (nAdd k 1) [.int .i64 (cat out [gI l (nOf i)])])]).succ.le (mu (zq4 n l m i) (zq2 k out)) ∧ asrt (band (nle n 1073741824) (band (ieq m (ofN n)) (band (ile 0 (zq1 i)) (band (ile (zq1
 i) (ofN n)) (nle (nAdd k 1) (nOf (zq1 i))))))) (Q (Ex.exit 0) [AV.full 0] [some (AObj.row 3 (lenI (unlFrom (cat out [gI l (nOf i)]) l (zq1 i))) [.int .i64 (unlFrom (cat out [gI l
 (nOf i)]) l (zq1 i))])]))) ((mu (zq3 n l m i) (zq2 k out)).succ.le (mu (zq4 n l m i) (zq2 k out)) ∧ asrt (band (nle n 1073741824) (band (ieq m (ofN n)) (band (ile 0 (zq1 i)) (band
 (ile (zq1 i) (ofN n)) (nle k (nOf (zq1 i))))))) (Q (Ex.exit 0) [AV.full 0] [some (AObj.row 3 (lenI (unlFrom out l (zq1 i))) [.int .i64 (unlFrom out l (zq1 i))])]))))) (Q (Ex.exit 0)
 [AV.full 0] (zq2 k out))) := by kernel_rfl
theorem loop_unl : LoopOK Tryz.prog (bodyOf Tryz.prog 108 0) spec_unl.summ := by
 refine tab_loop mixed (l := tab3) ok_tab3 (i := 0) spec_unl (fun vals objs => match vals, objs with
  | [.sl n [.int .i64 l], .int .i64 m, .int .i64 i, .full 0], [some (.row 3 k [.int .i64 out])] => (m - i).toNat
  | _, _ => 0) fun vals objs Q h1 h2 wf wo hg => ?_
 unfold spec_unl at hg
 simp only at hg
 split at hg
 ·rename_i n l m i k out
  clear h1 h2
  try simp only [WFL, WF, List.mem_cons, List.not_mem_nil, or_false, forall_eq_or_imp, forall_eq, Col.len, and_true, true_and] at wf
  rw [lp_unl]
  dsimp only [zq1, zq2, zq3, zq4]
  have hl : l.length = n := wf
  have hk : out.length = k := by simpa [WFH, WFO, Col.len] using wo
  simp [owl] at hg ⊢
  obtain ⟨⟨hb, rfl, h0, hn, hki⟩, hg⟩ := hg
  obtain ⟨i, rfl⟩ := Int.eq_ofNat_of_zero_le h0
  simp at hn hg hki ⊢
  refine ⟨fun hlt => ?_, fun hge => ?_⟩
  ·have hd : l.drop i = l[i]'(by omega) :: l.drop (i + 1) := List.drop_eq_getElem_cons (by omega)
   have hx : l[i]?.getD 0 = l[i]'(by omega) := by simp [show i < l.length by omega]
   simp only [hx, hasI]
   rw [wr (by omega) (by omega)]
   have e1 : ((i : Int) + 1).toNat = i + 1 := by omega
   have hu : unlFrom out l i = if out.contains (l[i]'(by omega)) then unlFrom out l (i + 1 : Int) else unlFrom (out ++ [l[i]'(by omega)]) l (i + 1 : Int) := by
    simp only [unlFrom, e1]
    rw [show (i : Int).toNat = i by omega, hd, unl]
   refine ⟨hlt, le_big (by omega), fun hc => ?_, fun hc => ?_⟩
   ·have hc' : out.contains (l[i]'(by omega)) = false := by simpa using hc
    rw [hc'] at hu
    simp only [Bool.false_eq_true, if_false] at hu
    rw [hu] at hg
    refine ⟨by omega, by omega, ⟨hb, by omega, by omega, by omega⟩, ?_⟩
    simpa using hg
   ·have hc' : out.contains (l[i]'(by omega)) = true := by simpa using hc
    rw [hc'] at hu
    simp only [if_true] at hu
    rw [hu] at hg
    refine ⟨by omega, ⟨hb, by omega, by omega, by omega⟩, ?_⟩
    simpa using hg
  ·have hd : unlFrom out l i = out := by
    unfold unlFrom
    rw [List.drop_eq_nil_of_le (by omega)]
    rfl
   rw [hd, hk] at hg
   exact hg
 ·exact hg.elim
def Lunl : Nat → Option LoopS := fun i => match i with
 | 0 => some (.summ spec_unl.summ)
 | _ => none
theorem ok_Lunl : ∀ i x, Lunl i = some x → LoopHyp Tryz.prog 108 i x := by
 intro i s h
 unfold Lunl at h
 split at h
 ·cases h; exact ⟨by kernel_rfl, loop_unl⟩
 ·cases h
def Funl : Pure1 := fun
 | [.sl n [.int .i64 l]] => some (some (nle n room), .own 3 (lenI (unl [] l)) [.int .i64 (unl [] l)])
 | _ => none
theorem vc_unl (n : Nat) (l : List Int) (r : AV) : VC Tryz.prog (tabS tab3) (oneL 108 Lunl) true 108 [.sl n [.int .i64 l]] r = (
 asrt (band (nle n 1073741824) (band (ieq (ofN n) (ofN n)) (band (ile 0 (ofN n)) true))) (some (AV.own 3 (lenI (unlFrom [] l 0)) [.int .i64 (unlFrom [] l 0)]) = some r)) := by kernel_rfl
theorem ok_unl : PureOK Tryz.prog 108 Funl := by
 refine tab_loops mixed (l := tab3) ok_tab3 true Lunl (by kernel_rfl) ok_Lunl fun xs b r h hb wf => ?_
 unfold Funl at h
 split at h
 ·rename_i n l
  cases h
  try rw [some_f] at hb
  try simp only [WFL, WF, List.mem_cons, List.not_mem_nil, or_false, forall_eq_or_imp, forall_eq, Col.len, and_true, true_and] at wf
  rw [vc_unl]
  simp [owl, unlFrom] at hb ⊢
  grind
 ·cases h
def tab4 : List (FuncId × Pure1) := [(108, Funl)] ++ tab3
theorem ok_tab4 : ∀ p ∈ tab4, PureOK Tryz.prog p.1 p.2 := by
 intro p hp
 simp only [tab4, List.mem_append, List.mem_cons, List.not_mem_nil, or_false] at hp
 rcases hp with (rfl) | hp
 ·exact ok_unl
 ·exact ok_tab3 p hp
def Fcheck : Pure1 := fun
 | [.sl n [.int .i64 l]] => some (some (nle n room), .bool (lineOk l))
 | _ => none
theorem vc_check (n : Nat) (l : List Int) (r : AV) : VC Tryz.prog (tabS tab4) noL false 89 [.sl n [.int .i64 l]] r = (
 asrt (nle n big) (br (bnot (ige (badAt l 0) 0)) (asrt (nle n 1073741824) (some (AV.bool (ieq (ofN (lenI (unl [] l))) (ofN n))) = some r)) (some (AV.bool false) = some r))) := by kernel_rfl
theorem ok_check : PureOK Tryz.prog 89 Fcheck := by
 refine tab_plain mixed (l := tab4) ok_tab4 false (by kernel_rfl) fun xs b r h hb wf => ?_
 unfold Fcheck at h
 split at h
 ·rename_i n l
  cases h
  try rw [some_f] at hb
  try simp only [WFL, WF, List.mem_cons, List.not_mem_nil, or_false, forall_eq_or_imp, forall_eq, Col.len, and_true, true_and] at wf
  rw [vc_check]
  simp [owl] at hb ⊢
  have hbig := le_big hb
  grind [lineOk, ieq, ine, ilt, ile, igt, ige, nlt, nle, neq, beq2, bnot, band, bite, bimp, le_big]
 ·cases h
def tab5 : List (FuncId × Pure1) := [(89, Fcheck)] ++ tab4
theorem ok_tab5 : ∀ p ∈ tab5, PureOK Tryz.prog p.1 p.2 := by
 intro p hp
 simp only [tab5, List.mem_append, List.mem_cons, List.not_mem_nil, or_false] at hp
 rcases hp with (rfl) | hp
 ·exact ok_check
 ·exact ok_tab4 p hp
def Fplace : Pure1 := fun
 | [.sl n [.int .i64 l], .int .i64 x] => some (some (nle n room), .int .i64 (placeAt l x))
 | _ => none
theorem vc_place (n : Nat) (l : List Int) (x : Int) (r : AV) : VC Tryz.prog (tabS tab5) noL false 184 [.sl n [.int .i64 l], .int .i64 x] r = (
 asrt (nle n 1073741824) (br (bnot (lineOk l)) (some (AV.int .i64 (-1)) = some r) (asrt (nle n big) (some (AV.int .i64 (idxAt l x 0)) = some r)))) := by kernel_rfl
theorem ok_place : PureOK Tryz.prog 184 Fplace := by
 refine tab_plain mixed (l := tab5) ok_tab5 false (by kernel_rfl) fun xs b r h hb wf => ?_
 unfold Fplace at h
 split at h
 ·rename_i n l x
  cases h
  try rw [some_f] at hb
  try simp only [WFL, WF, List.mem_cons, List.not_mem_nil, or_false, forall_eq_or_imp, forall_eq, Col.len, and_true, true_and] at wf
  rw [vc_place]
  simp [owl] at hb ⊢
  have hbig := le_big hb
  grind [placeAt, ieq, ine, ilt, ile, igt, ige, nlt, nle, neq, beq2, bnot, band, bite, bimp, le_big]
 ·cases h
def tab6 : List (FuncId × Pure1) := [(184, Fplace)] ++ tab5
theorem ok_tab6 : ∀ p ∈ tab6, PureOK Tryz.prog p.1 p.2 := by
 intro p hp
 simp only [tab6, List.mem_append, List.mem_cons, List.not_mem_nil, or_false] at hp
 rcases hp with (rfl) | hp
 ·exact ok_place
 ·exact ok_tab5 p hp
theorem lineOk_one (x : Int) : lineOk [x] = !badId x := by
 rw [Bool.eq_iff_iff, lineOk_iff]
 simp [badId, ilt, ige]
theorem place_has {l : List Int} (x : Int) (h : lineOk l = true) : 0 ≤ placeAt l x ↔ l.contains x = true := by
 simp [placeAt, h, idxAt_has]
theorem place_lt (l : List Int) (x : Int) : placeAt l x < l.length := by
 unfold placeAt
 split
 ·rcases idxAt_cases l x with ⟨h, _⟩ | ⟨j, hj, h, _⟩ <;> omega
 ·omega
theorem del_list (l : List Int) (j : Nat) (h : j < l.length) : pt (ovr (ovr l j (pt l (j + 1) (l.length - (j + 1)))) (j + (l.length - (j + 1))) (rI (l.length - (j + (l.length - (j + 1)))))) 0 (j + (l.length - (j + 1))) = l.eraseIdx j := by
 have e1 : pt l (j + 1) (l.length - (j + 1)) = l.drop (j + 1) := by
  unfold pt
  rw [List.take_of_length_le (by simp)]
 have e2 : (ovr l j (l.drop (j + 1))).take (j + (l.length - (j + 1))) = l.eraseIdx j := by
  unfold ovr
  rw [List.eraseIdx_eq_take_drop_succ, List.take_append_of_le_length (by simp; omega), List.take_of_length_le (by simp; omega)]
 rw [e1]
 unfold pt
 rw [List.drop_zero]
 conv => lhs; unfold ovr
 rw [List.take_append_of_le_length (by simp [ovr]; omega), List.take_append_of_le_length (by simp [ovr]; omega), List.take_take, Nat.min_self]
 exact e2
def Fenter : Pure1 := fun
 | [.sl n [.int .i64 l], .int .i64 x] => some (some (nlt n room), .tup [.own 3 (lenI (enterL l x)) [.int .i64 (enterL l x)], .int .i64 (enterE l x)])
 | _ => none
theorem vc_enter (n : Nat) (l : List Int) (x : Int) (r : AV) : VC Tryz.prog (tabS tab6) noL true 142 [.sl n [.int .i64 l], .int .i64 x] r = (
 asrt (nle n 1073741824) (asrt (nle n 1073741824) (br (bnot (lineOk l)) (some (AV.tup [AV.own 3 n [.int .i64 l], AV.int .i64 40]) = some r) (br (bnot (lineOk [x])) (some (AV.tup
 [AV.own 3 n [.int .i64 l], AV.int .i64 40]) = some r) (asrt (nle n 1073741824) (br (ige (placeAt l x) 0) (some (AV.tup [AV.own 3 n [.int .i64 l], AV.int .i64 60]) = some r) (asrt
 (nle (nAdd n 1) 17592186044416) (some (AV.tup [AV.own 3 (nAdd n 1) [.int .i64 (cat l [x])], AV.int .i64 0]) = some r)))))))) := by kernel_rfl
theorem ok_enter : PureOK Tryz.prog 142 Fenter := by
 refine tab_plain mixed (l := tab6) ok_tab6 true (by kernel_rfl) fun xs b r h hb wf => ?_
 unfold Fenter at h
 split at h
 ·rename_i n l x
  cases h
  try rw [some_f] at hb
  try simp only [WFL, WF, List.mem_cons, List.not_mem_nil, or_false, forall_eq_or_imp, forall_eq, Col.len, and_true, true_and] at wf
  rw [vc_enter]
  simp [owl] at hb ⊢
  have b1 : n ≤ 1073741824 := by omega
  have b2 : n ≤ 1073741823 := by omega
  have b3 : n ≤ 17592186044415 := by omega
  simp only [lineOk_one]
  cases hk : lineOk l with
  | false => simp [enterL, enterE, enterOk, hk, b1, wf]
  | true =>
   have hp := place_has x hk
   cases hd : badId x with
   | true => simp [enterL, enterE, enterOk, hk, hd, b1, wf]
   | false =>
    cases hc : l.contains x with
    | true =>
     have h0 : 0 ≤ placeAt l x := hp.2 hc
     have h1 : ¬ placeAt l x < 0 := by omega
     have hc' : x ∈ l := by simpa using hc
     simp [enterL, enterE, enterOk, hk, hd, hc', b1, wf, h0, h1]
    | false =>
     have h1 : placeAt l x < 0 := by
      rcases Int.lt_or_le (placeAt l x) 0 with h | h
      ·exact h
      ·rw [hp.1 h] at hc; cases hc
     have h0 : ¬ 0 ≤ placeAt l x := by omega
     have hc' : x ∉ l := by simpa using hc
     simp [enterL, enterE, enterOk, hk, hd, hc', b1, b2, b3, wf, h0, h1]
 ·cases h
def Fleave : Pure1 := fun
 | [.sl n [.int .i64 l], .int .i64 x] => some (some (nle n room), .tup [.own 3 (lenI (leaveL l x)) [.int .i64 (leaveL l x)], .int .i64 (leaveE l x)])
 | _ => none
def zq5 (l : List Int) (x : Int) : Int :=
 iadd .i64 (placeAt l x) 1
def zq6 (l : List Int) (x : Int) : Nat :=
 nOf (placeAt l x)
theorem vc_leave (n : Nat) (l : List Int) (x : Int) (r : AV) : VC Tryz.prog (tabS tab6) noL true 139 [.sl n [.int .i64 l], .int .i64 x] r = (
 asrt (nle n 1073741824) (asrt (nle n 1073741824) (br (ilt (placeAt l x) 0) (some (AV.tup [AV.own 3 n [.int .i64 l], AV.int .i64 40]) = some r) (asrt (band (ile 0 (placeAt l x))
 (band (ile (placeAt l x) (zq5 l x)) (band (ile (zq5 l x) (ofN n)) (ile (ofN n) (ofN n))))) (br (ieq (placeAt l x) (zq5 l x)) (some (AV.tup [AV.own 3 n [.int .i64 l], AV.int .i64 0])
 = some r) (asrt (band (ile 0 (placeAt l x)) (ile (placeAt l x) (ofN n))) (asrt (band (ile 0 (zq5 l x)) (band (ile (zq5 l x) (ofN n)) (ile (ofN n) (ofN n)))) (asrt (nle (nAdd (nAdd 0
 (zq6 l x)) (nDiff (ofN n) (zq5 l x))) n) (asrt (band (ile 0 (ofN (nAdd (zq6 l x) (nDiff (ofN n) (zq5 l x))))) (band (ile (ofN (nAdd (zq6 l x) (nDiff (ofN n) (zq5 l x)))) (ofN n))
 (nle (nAdd 0 (nOf (ofN n))) n))) (asrt (nle (nAdd (nAdd 0 (nOf (ofN (nAdd (zq6 l x) (nDiff (ofN n) (zq5 l x)))))) (nDiff (ofN n) (ofN (nAdd (zq6 l x) (nDiff (ofN n) (zq5 l x))))))
 n) (some (AV.tup [AV.own 3 (nAdd (zq6 l x) (nDiff (ofN n) (zq5 l x))) [.int .i64 (pt (ovr (ovr l (nAdd 0 (zq6 l x)) (pt l (nOf (zq5 l x)) (nDiff (ofN n) (zq5 l x)))) (nAdd 0 (nOf
 (ofN (nAdd (zq6 l x) (nDiff (ofN n) (zq5 l x)))))) (rI (nDiff (ofN n) (ofN (nAdd (zq6 l x) (nDiff (ofN n) (zq5 l x))))))) 0 (nAdd (zq6 l x) (nDiff (ofN n) (zq5 l x))))], AV.int .i64
 0]) = some r))))))))))) := by kernel_rfl
theorem ok_leave : PureOK Tryz.prog 139 Fleave := by
 refine tab_plain mixed (l := tab6) ok_tab6 true (by kernel_rfl) fun xs b r h hb wf => ?_
 unfold Fleave at h
 split at h
 ·rename_i n l x
  cases h
  try rw [some_f] at hb
  try simp only [WFL, WF, List.mem_cons, List.not_mem_nil, or_false, forall_eq_or_imp, forall_eq, Col.len, and_true, true_and] at wf
  rw [vc_leave]
  dsimp only [zq5, zq6]
  simp [owl] at hb ⊢
  refine ⟨hb, fun hp => ?_, fun hp => ?_⟩
  ·simp [leaveL, leaveE, hp, wf]
  ·have h1 := place_lt l x
   have e3 : leaveE l x = 0 := by unfold leaveE; rw [if_neg (by omega)]
   have e4 : leaveL l x = l.eraseIdx (placeAt l x).toNat := by unfold leaveL; rw [if_neg (by omega)]
   obtain ⟨j, hj⟩ := Int.eq_ofNat_of_zero_le hp
   rw [e3, e4, hj]
   rw [hj] at h1
   subst wf
   have h2 : j < l.length := by omega
   have e5 : ((j : Int) + 1).toNat = j + 1 := by omega
   have e6 : ((l.length : Int) - ((j : Int) + 1)).toNat = l.length - (j + 1) := by omega
   have e7 : (j : Int).toNat = j := by omega
   have e8 : ((l.length : Int) - (((j + (l.length - (j + 1)) : Nat)) : Int)).toNat = l.length - (j + (l.length - (j + 1))) := by omega
   have e9 : (l.eraseIdx j).length = j + (l.length - (j + 1)) := by rw [List.length_eraseIdx_of_lt h2]; omega
   have hd := del_list l j h2
   have hw := wr (show -2 ^ 62 ≤ (j : Int) + 1 by omega) (show (j : Int) + 1 ≤ 2 ^ 62 by omega)
   simp only [hw, e5, e6, e7]
   have m1 : max (j : Int) 0 + max ((l.length : Int) - ((j : Int) + 1)) 0 = ((j + (l.length - (j + 1)) : Nat) : Int) := by omega
   simp only [m1, Int.toNat_natCast, e8]
   simp only [pt, List.drop_zero] at hd
   exact ⟨by omega, fun h => by omega, fun _ => ⟨by omega, by omega, by omega, by omega, by omega, ⟨e9.symm, hd⟩, trivial⟩⟩
 ·cases h
def Fnext : Pure1 := fun
 | [.sl n [.int .i64 l]] => some (some (nle n room), .tup [.int .i64 (nextV l), .own 3 (lenI (nextL l)) [.int .i64 (nextL l)], .bool (nextB l)])
 | _ => none
theorem vc_next (n : Nat) (l : List Int) (r : AV) : VC Tryz.prog (tabS tab6) noL true 207 [.sl n [.int .i64 l]] r = (
 asrt (nle n 1073741824) (br (bite (bnot (lineOk l)) true (ieq (ofN n) 0)) (asrt (nle n 1073741824) (some (AV.tup [AV.int .i64 0, AV.own 3 n [.int .i64 l], AV.bool false]) = some r))
 (asrt (ilt 0 (ofN n)) (asrt (band (ile 1 (ofN n)) (ile (ofN n) (ofN n))) (asrt (nle (nDiff (ofN n) 1) 1073741824) (some (AV.tup [AV.int .i64 (gI l 0), AV.own 3 (nDiff (ofN n) 1)
 [.int .i64 (pt l 1 (nDiff (ofN n) 1))], AV.bool true]) = some r)))))) := by kernel_rfl
theorem ok_next : PureOK Tryz.prog 207 Fnext := by
 refine tab_plain mixed (l := tab6) ok_tab6 true (by kernel_rfl) fun xs b r h hb wf => ?_
 unfold Fnext at h
 split at h
 ·rename_i n l
  cases h
  try rw [some_f] at hb
  try simp only [WFL, WF, List.mem_cons, List.not_mem_nil, or_false, forall_eq_or_imp, forall_eq, Col.len, and_true, true_and] at wf
  rw [vc_next]
  simp [owl] at hb ⊢
  cases l with
  | nil =>
   simp at wf
   subst wf
   simp [nextB, nextV, nextL, bite]
  | cons x l =>
   have hn : n = l.length + 1 := by simp at wf; omega
   subst hn
   have h2 : pt (x :: l) 1 l.length = l := by simp [pt]
   have e1 : (((l.length : Int) + 1) - 1).toNat = l.length := by omega
   have e2 : (l.length + 1 : Nat) ≤ 1073741824 := hb
   have e3 : l.length ≤ 1073741824 := by omega
   have e4 : ¬ ((l.length : Int) + 1 = 0) := by omega
   have e5 : (0 : Int) < (l.length : Int) + 1 := by omega
   have e6 : (1 : Int) ≤ (l.length : Int) + 1 := by omega
   cases hk : lineOk (x :: l) with
   | false =>
    have n1 : nextB (x :: l) = false := by simp [nextB, hk]
    have n2 : nextL (x :: l) = x :: l := by simp [nextL, n1]
    have n3 : nextV (x :: l) = 0 := by simp [nextV, n1]
    simp [n1, n2, n3, e2]
   | true =>
    have n1 : nextB (x :: l) = true := by simp [nextB, hk]
    have n2 : nextL (x :: l) = l := by simp [nextL, n1]
    have n3 : nextV (x :: l) = x := by simp [nextV, n1]
    simp only [n1, n2, n3]
    exact ⟨e2, fun h => by have := h trivial; omega, fun _ _ => ⟨by omega, by omega, by omega, by simp, ⟨by omega, by simp⟩, trivial⟩⟩
 ·cases h
def evOk (ep : Int) (l : List Int) : Bool := decide (0 ≤ ep) && decide (ep ≤ 1099511627776) && lineOk l
def prepE (ep : Int) (l : List Int) : Int := if evOk ep l then ep else -1
def commitB (ep : Int) (l : List Int) (seen id : Int) : Bool := evOk ep l && enterOk l id && decide (ep = seen)
def commitL (ep : Int) (l : List Int) (seen id : Int) : List Int := if commitB ep l seen id then l ++ [id] else l
def commitE (ep : Int) (l : List Int) (id : Int) : Int := if evOk ep l then enterE l id else 40
def comeE (ep : Int) (l : List Int) : Int := if evOk ep l then imin (ep + 1) 1099511627776 else ep
def oneL1 (ep : Int) (l : List Int) : List Int := if evOk ep l then l.tail else l
def oneO (ep : Int) (l : List Int) : List Int := if evOk ep l then l.take 1 else []
def tellV (ep : Int) (l : List Int) : Int := if evOk ep l then l.headD 0 else 0
def oneB (ep : Int) (l : List Int) : Bool := evOk ep l && !l.isEmpty
def allL (ep : Int) (l : List Int) : List Int := if evOk ep l then [] else l
def allO (ep : Int) (l : List Int) : List Int := if evOk ep l then l else []
def cancelB (ep : Int) (l : List Int) (id : Int) : Bool := evOk ep l && l.contains id
def cancelL (ep : Int) (l : List Int) (id : Int) : List Int := if cancelB ep l id then l.eraseIdx (placeAt l id).toNat else l
theorem enterE_zero (l : List Int) (id : Int) : enterE l id = 0 ↔ enterOk l id = true := by
 unfold enterE enterOk
 cases lineOk l <;> cases badId id <;> cases l.contains id <;> simp
theorem evOk_line {ep : Int} {l : List Int} (h : evOk ep l = true) : lineOk l = true ∧ 0 ≤ ep ∧ ep ≤ 1099511627776 := by
 unfold evOk at h
 simp at h
 exact ⟨h.2, h.1.1, h.1.2⟩
theorem leaveE_zero (l : List Int) (id : Int) : leaveE l id = 0 ↔ lineOk l = true ∧ l.contains id = true := by
 unfold leaveE
 cases h : lineOk l with
 | true =>
  have := place_has id h
  split <;> simp at this ⊢ <;> grind
 | false =>
  simp [placeAt, h]
def tabE0 : List (FuncId × Pure1) := [(89, Fcheck), (184, Fplace), (142, Fenter), (139, Fleave), (207, Fnext), (69, Fclone), (40, Fints)]
theorem ok_tabE0 : ∀ p ∈ tabE0, PureOK Tryz.prog p.1 p.2 := by
 intro p hp
 simp only [tabE0, List.mem_cons, List.not_mem_nil, or_false] at hp
 rcases hp with rfl | rfl | rfl | rfl | rfl | rfl | rfl
 ·exact ok_check
 ·exact ok_place
 ·exact ok_enter
 ·exact ok_leave
 ·exact ok_next
 ·exact ok_clone
 ·exact ok_ints
def FevCheck : Pure1 := fun
 | [.agg [.int .i64 ep, .sl n [.int .i64 l]]] => some (some (nle n room), .bool (evOk ep l))
 | _ => none
theorem vc_evCheck (ep : Int) (n : Nat) (l : List Int) (r : AV) : VC Tryz.prog (tabS tabE0) noL false 66 [.agg [.int .i64 ep, .sl n [.int .i64 l]]] r = (
 asrt (bimp (bite (ige ep 0) (ile ep 1099511627776) false) (nle n 1073741824)) (some (AV.bool (bite (bite (ige ep 0) (ile ep 1099511627776) false) (lineOk l) false)) = some r)) := by kernel_rfl
theorem ok_evCheck : PureOK Tryz.prog 66 FevCheck := by
 refine tab_plain mixed (l := tabE0) ok_tabE0 false (by kernel_rfl) fun xs b r h hb wf => ?_
 unfold FevCheck at h
 split at h
 ·rename_i ep n l
  cases h
  try rw [some_f] at hb
  try simp only [WFL, WF, List.mem_cons, List.not_mem_nil, or_false, forall_eq_or_imp, forall_eq, Col.len, and_true, true_and] at wf
  rw [vc_evCheck]
  simp [owl] at hb ⊢
  grind [evOk, ieq, ine, ilt, ile, igt, ige, nlt, nle, neq, beq2, bnot, band, bite, bimp, le_big]
 ·cases h
def FevOwn : Pure1 := fun
 | [.agg [.int .i64 ep, .sl n [.int .i64 l]]] => some (some (nle n room), .agg [.int .i64 ep, .own 3 n [.int .i64 l]])
 | _ => none
theorem vc_evOwn (ep : Int) (n : Nat) (l : List Int) (r : AV) : VC Tryz.prog (tabS tabE0) noL true 140 [.agg [.int .i64 ep, .sl n [.int .i64 l]]] r = (
 asrt (nle n 1073741824) (some (AV.agg [AV.int .i64 ep, AV.own 3 n [.int .i64 l]]) = some r)) := by kernel_rfl
theorem ok_evOwn : PureOK Tryz.prog 140 FevOwn := by
 refine tab_plain mixed (l := tabE0) ok_tabE0 true (by kernel_rfl) fun xs b r h hb wf => ?_
 unfold FevOwn at h
 split at h
 ·rename_i ep n l
  cases h
  try rw [some_f] at hb
  try simp only [WFL, WF, List.mem_cons, List.not_mem_nil, or_false, forall_eq_or_imp, forall_eq, Col.len, and_true, true_and] at wf
  rw [vc_evOwn]
  simp [owl] at hb ⊢
  grind
 ·cases h
def FevSame : Pure1 := fun
 | [.agg [.int .i64 ep, .sl n [.int .i64 l]], .agg [.int .i64 ep', .sl n' [.int .i64 l']]] => some (some (nle n big), .bool (band (sameI l l') (ieq ep ep')))
 | _ => none
theorem vc_evSame (ep : Int) (n : Nat) (l : List Int) (ep' : Int) (n' : Nat) (l' : List Int) (r : AV) : VC Tryz.prog (tabS tabE0) noL false 44 [.agg [.int .i64 ep, .sl n [.int .i64 l]], .agg [.int .i64 ep', .sl n' [.int .i64 l']]] r = (
asrt (nle n big) (some (AV.bool (bite (sameI l l') (ieq ep ep') false)) = some r)) := by kernel_rfl
theorem ok_evSame : PureOK Tryz.prog 44 FevSame := by
 refine tab_plain mixed (l := tabE0) ok_tabE0 false (by kernel_rfl) fun xs b r h hb wf => ?_
 unfold FevSame at h
 split at h
 ·rename_i ep n l ep' n' l'
  cases h
  try rw [some_f] at hb
  try simp only [WFL, WF, List.mem_cons, List.not_mem_nil, or_false, forall_eq_or_imp, forall_eq, Col.len, and_true, true_and] at wf
  rw [vc_evSame]
  simp [owl] at hb ⊢
  grind [ieq, ine, ilt, ile, igt, ige, nlt, nle, neq, beq2, bnot, band, bite, bimp, le_big]
 ·cases h
def tabE1 : List (FuncId × Pure1) := [(66, FevCheck), (140, FevOwn), (44, FevSame)] ++ tabE0
theorem ok_tabE1 : ∀ p ∈ tabE1, PureOK Tryz.prog p.1 p.2 := by
 intro p hp
 simp only [tabE1, List.mem_append, List.mem_cons, List.not_mem_nil, or_false] at hp
 rcases hp with (rfl | rfl | rfl) | hp
 ·exact ok_evCheck
 ·exact ok_evOwn
 ·exact ok_evSame
 ·exact ok_tabE0 p hp
def Fprepare : Pure1 := fun
 | [.agg [.int .i64 ep, .sl n [.int .i64 l]]] => some (some (nle n room), .int .i64 (prepE ep l))
 | _ => none
theorem vc_prepare (ep : Int) (n : Nat) (l : List Int) (r : AV) : VC Tryz.prog (tabS tabE1) noL false 151 [.agg [.int .i64 ep, .sl n [.int .i64 l]]] r = (
 asrt (nle n 1073741824) (br (bnot (evOk ep l)) (some (AV.int .i64 (-1)) = some r) (some (AV.int .i64 ep) = some r))) := by kernel_rfl
theorem ok_prepare : PureOK Tryz.prog 151 Fprepare := by
 refine tab_plain mixed (l := tabE1) ok_tabE1 false (by kernel_rfl) fun xs b r h hb wf => ?_
 unfold Fprepare at h
 split at h
 ·rename_i ep n l
  cases h
  try rw [some_f] at hb
  try simp only [WFL, WF, List.mem_cons, List.not_mem_nil, or_false, forall_eq_or_imp, forall_eq, Col.len, and_true, true_and] at wf
  rw [vc_prepare]
  simp [owl] at hb ⊢
  grind [prepE, ieq, ine, ilt, ile, igt, ige, nlt, nle, neq, beq2, bnot, band, bite, bimp, le_big]
 ·cases h
def Fcommit : Pure1 := fun
 | [.agg [.int .i64 ep, .sl n [.int .i64 l]], .int .i64 seen, .int .i64 id] => some (some (nlt n room), .tup [.agg [.int .i64 ep, .own 3 (lenI (commitL ep l seen id)) [.int .i64 (commitL ep l seen id)]], .bool (commitB ep l seen id), .int .i64 (commitE ep l id)])
 | _ => none
theorem vc_commit (ep : Int) (n : Nat) (l : List Int) (seen id : Int) (r : AV) : VC Tryz.prog (tabS tabE1) noL true 153 [.agg [.int .i64 ep, .sl n [.int .i64 l]], .int .i64 seen, .int .i64 id] r = (
 asrt (nle n 1073741824) (br (bnot (evOk ep l)) (asrt (nle n 1073741824) (some (AV.tup [AV.agg [AV.int .i64 ep, AV.own 3 n [.int .i64 l]], AV.bool false, AV.int .i64 40]) = some r))
 (asrt (nlt n 1073741824) (br (bite (ine (enterE l id) 0) true (ine ep seen)) (asrt (nle n 1073741824) (some (AV.tup [AV.agg [AV.int .i64 ep, AV.own 3 n [.int .i64 l]], AV.bool
 false, AV.int .i64 (enterE l id)]) = some r)) (some (AV.tup [AV.agg [AV.int .i64 ep, AV.own 3 (lenI (enterL l id)) [.int .i64 (enterL l id)]], AV.bool true, AV.int .i64 0]) = some
 r))))) := by kernel_rfl
theorem ok_commit : PureOK Tryz.prog 153 Fcommit := by
 refine tab_plain mixed (l := tabE1) ok_tabE1 true (by kernel_rfl) fun xs b r h hb wf => ?_
 unfold Fcommit at h
 split at h
 ·rename_i ep n l seen id
  cases h
  try rw [some_f] at hb
  try simp only [WFL, WF, List.mem_cons, List.not_mem_nil, or_false, forall_eq_or_imp, forall_eq, Col.len, and_true, true_and] at wf
  rw [vc_commit]
  have h1 := enterE_zero l id
  simp [owl] at hb ⊢
  grind (splits := 40) [commitB, commitL, commitE, enterL, ieq, ine, ilt, ile, igt, ige, nlt, nle, neq, beq2, bnot, band, bite, bimp, le_big]
 ·cases h
def Fcancel : Pure1 := fun
 | [.agg [.int .i64 ep, .sl n [.int .i64 l]], .int .i64 id] => some (some (nle n room), .tup [.agg [.int .i64 ep, .own 3 (lenI (cancelL ep l id)) [.int .i64 (cancelL ep l id)]], .bool (cancelB ep l id)])
 | _ => none
theorem vc_cancel (ep : Int) (n : Nat) (l : List Int) (id : Int) (r : AV) : VC Tryz.prog (tabS tabE1) noL true 98 [.agg [.int .i64 ep, .sl n [.int .i64 l]], .int .i64 id] r = (
 asrt (nle n 1073741824) (asrt (nle n 1073741824) (br (bite (bnot (evOk ep l)) true (ine (leaveE l id) 0)) (asrt (nle n 1073741824) (some (AV.tup [AV.agg [AV.int .i64 ep, AV.own 3 n
 [.int .i64 l]], AV.bool false]) = some r)) (some (AV.tup [AV.agg [AV.int .i64 ep, AV.own 3 (lenI (leaveL l id)) [.int .i64 (leaveL l id)]], AV.bool true]) = some r)))) := by kernel_rfl
theorem ok_cancel : PureOK Tryz.prog 98 Fcancel := by
 refine tab_plain mixed (l := tabE1) ok_tabE1 true (by kernel_rfl) fun xs b r h hb wf => ?_
 unfold Fcancel at h
 split at h
 ·rename_i ep n l id
  cases h
  try rw [some_f] at hb
  try simp only [WFL, WF, List.mem_cons, List.not_mem_nil, or_false, forall_eq_or_imp, forall_eq, Col.len, and_true, true_and] at wf
  rw [vc_cancel]
  have h1 := leaveE_zero l id
  simp [owl] at hb ⊢
  cases hk : evOk ep l with
  | false => simp [cancelB, cancelL, hk, hb, wf]
  | true =>
   obtain ⟨hl, _, _⟩ := evOk_line hk
   cases hc : l.contains id with
   | false =>
    have hc' : id ∉ l := by simpa using hc
    have h2 : ¬ leaveE l id = 0 := fun h => by rw [(h1.1 h).2] at hc; cases hc
    simp [cancelB, cancelL, hk, hb, wf, hc', h2]
   | true =>
    have hc' : id ∈ l := by simpa using hc
    have h2 : leaveE l id = 0 := h1.2 ⟨hl, hc⟩
    have h3 : ¬ placeAt l id < 0 := by have := (place_has id hl).2 hc; omega
    simp [cancelB, cancelL, leaveL, hk, hb, wf, hc', h2, h3]
 ·cases h
def Lone : Nat → Option LoopS := fun i => match i with
 | 0 => some (.unroll 2)
 | _ => none
theorem ok_Lone : ∀ i x, Lone i = some x → LoopHyp Tryz.prog 190 i x := by
 intro i s h
 unfold Lone at h
 split at h
 ·cases h; trivial
 ·cases h
def FcomeOne : Pure1 := fun
 | [.agg [.int .i64 ep, .sl n [.int .i64 l]], .fn (.func 191) [] []] => some (some (nle n room), .tup [.agg [.int .i64 (comeE ep l), .own 3 (lenI (oneL1 ep l)) [.int .i64 (oneL1 ep l)]], .own 3 (lenI (oneO ep l)) [.int .i64 (oneO ep l)]])
 | _ => none
theorem vc_comeOne (ep : Int) (n : Nat) (l : List Int) (r : AV) : VC Tryz.prog (tabS tabE1) (oneL 190 Lone) true 190 [.agg [.int .i64 ep, .sl n [.int .i64 l]], .fn (.func 191) [] []] r = (
 asrt (nle n 1073741824) (asrt (nle n 1073741824) (br (bnot (evOk ep l)) (some (AV.tup [AV.agg [AV.int .i64 ep, AV.own 3 n [.int .i64 l]], AV.own 3 0 [.int .i64 []]]) = some r) (asrt
 (nle n 1073741824) (br (bnot (nextB l)) (some (AV.tup [AV.agg [AV.int .i64 (imin (iadd .i64 ep 1) 1099511627776), AV.own 3 (lenI (nextL l)) [.int .i64 (nextL l)]], AV.own 3 0 [.int
 .i64 []]]) = some r) (some (AV.tup [AV.agg [AV.int .i64 (imin (iadd .i64 ep 1) 1099511627776), AV.own 3 (lenI (nextL l)) [.int .i64 (nextL l)]], AV.own 3 1 [.int .i64 (cat [] [nextV
 l])]]) = some r)))))) := by kernel_rfl
theorem ok_comeOne : PureOK Tryz.prog 190 FcomeOne := by
 refine tab_loops mixed (l := tabE1) ok_tabE1 true Lone (by kernel_rfl) ok_Lone fun xs b r h hb wf => ?_
 unfold FcomeOne at h
 split at h
 ·rename_i ep n l
  cases h
  try rw [some_f] at hb
  try simp only [WFL, WF, List.mem_cons, List.not_mem_nil, or_false, forall_eq_or_imp, forall_eq, Col.len, and_true, true_and] at wf
  rw [vc_comeOne]
  simp [owl] at hb ⊢
  refine ⟨hb, fun hk => ?_, fun hk => ?_⟩
  ·simp [comeE, oneL1, oneO, hk, wf]
  ·obtain ⟨hl, h0, h1⟩ := evOk_line hk
   rw [wr (by omega) (by omega)]
   cases l with
   | nil => simp at wf; subst wf; simp [nextB, nextL, comeE, oneL1, oneO, hk, imin_e]
   | cons x l =>
    have hB : nextB (x :: l) = true := by simp [nextB, hl]
    simp [hB, nextL, nextV, comeE, oneL1, oneO, hk, hb, imin_e]
 ·cases h
def tabE2 : List (FuncId × Pure1) := [(190, FcomeOne)] ++ tabE1
theorem ok_tabE2 : ∀ p ∈ tabE2, PureOK Tryz.prog p.1 p.2 := by
 intro p hp
 simp only [tabE2, List.mem_append, List.mem_cons, List.not_mem_nil, or_false] at hp
 rcases hp with (rfl) | hp
 ·exact ok_comeOne
 ·exact ok_tabE1 p hp
def Fnotify : Pure1 := fun
 | [.agg [.int .i64 ep, .sl n [.int .i64 l]]] => some (some (nle n room), .tup [.agg [.int .i64 (comeE ep l), .own 3 (lenI (oneL1 ep l)) [.int .i64 (oneL1 ep l)]], .int .i64 (tellV ep l), .bool (oneB ep l)])
 | _ => none
theorem vc_notify (ep : Int) (n : Nat) (l : List Int) (r : AV) : VC Tryz.prog (tabS tabE2) noL true 152 [.agg [.int .i64 ep, .sl n [.int .i64 l]]] r = (
 asrt (nle n 1073741824) (br (ieq (ofN (lenI (oneO ep l))) 0) (some (AV.tup [AV.agg [AV.int .i64 (comeE ep l), AV.own 3 (lenI (oneL1 ep l)) [.int .i64 (oneL1 ep l)]], AV.int .i64 0,
 AV.bool false]) = some r) (asrt (ilt 0 (ofN (lenI (oneO ep l)))) (asrt (nlt 0 (lenI (oneO ep l))) (some (AV.tup [AV.agg [AV.int .i64 (comeE ep l), AV.own 3 (lenI (oneL1 ep l)) [.int
 .i64 (oneL1 ep l)]], AV.int .i64 (gI (oneO ep l) 0), AV.bool true]) = some r))))) := by kernel_rfl
theorem ok_notify : PureOK Tryz.prog 152 Fnotify := by
 refine tab_plain mixed (l := tabE2) ok_tabE2 true (by kernel_rfl) fun xs b r h hb wf => ?_
 unfold Fnotify at h
 split at h
 ·rename_i ep n l
  cases h
  try rw [some_f] at hb
  try simp only [WFL, WF, List.mem_cons, List.not_mem_nil, or_false, forall_eq_or_imp, forall_eq, Col.len, and_true, true_and] at wf
  rw [vc_notify]
  simp [owl] at hb ⊢
  cases hk : evOk ep l with
  | false => simp [comeE, oneL1, oneO, tellV, oneB, hk, hb]
  | true =>
   cases l with
   | nil => simp [comeE, oneL1, oneO, tellV, oneB, hk, hb]
   | cons x l => simp [comeE, oneL1, oneO, tellV, oneB, hk, hb]
 ·cases h
def spec_comeAll : LoopSpec := { n := 45, keep := [1, 4, 6, 7, 8], srcs := [.tmp 4, .tmp 6, .cell 1 1, .tmp 7], keepE := [4, 6, 7], srcsE := [.tmp 4, .tmp 6, .cell 1 1, .tmp 7], goes := fun vals objs Q => match vals, objs with
 | [.fn (.func 196) [] [], .ptr 0 0 0, .ptr 1 0 0, .full 3, .fn (.func 205) [.ptr 1 0 0] []], [some (.var [.int .i64 z, .sl q [.int .i64 zl]]), some (.var [.int .i64 ep, .full 2]), some (.row 3 k [.int .i64 l]), some (.row 3 k' [.int .i64 out])] => asrt (band (lineOk l) (nle (nAdd k k') room)) (Q (.exit 0) [.ptr 0 0 0, .ptr 1 0 0, .full 3] [some (.var [.int .i64 z, .sl q [.int .i64 zl]]), some (.var [.int .i64 ep, .full 2]), some (.row 3 0 [.int .i64 []]), some (.row 3 (lenI (cat out l)) [.int .i64 (cat out l)])])
 | _, _ => False }
def zq7 (z : Int) (q : Nat) (zl : List Int) : AObj :=
 AObj.var [AV.int .i64 z, AV.sl q [.int .i64 zl]]
def zq8 (ep : Int) : AObj :=
 AObj.var [AV.int .i64 ep, AV.full 2]
def zq9 : List AV :=
 [AV.fn (Fn.func 196) [] [], AV.ptr 0 0 0, AV.ptr 1 0 0, AV.full 3, AV.fn (Fn.func 205) [AV.ptr 1 0 0] []]
theorem lp_comeAll (z : Int) (q : Nat) (zl : List Int) (ep : Int) (k : Nat) (l : List Int) (k' : Nat) (out : List Int) (mu : List AV → Heap → Nat) (Q : Ex → List AV → Heap → Prop) : runCode Tryz.prog (tabS tabE1) (callN Tryz.prog (tabS tabE1) noL 11) (fun _ => none) (bodyOf Tryz.prog 190 0) 0 ⟨mkT (spec_comeAll).keep [.fn (.func 196) [] [], .ptr 0 0 0, .ptr 1 0 0, .full 3, .fn (.func 205) [.ptr 1 0 0] []] (spec_comeAll).n 0, [some (.var [.int .i64 z, .sl q [.int .i64 zl]]), some (.var [.int .i64 ep, .full 2]), some (.row 3 k [.int .i64 l]), some (.row 3 k' [.int .i64 out])]⟩ ((spec_comeAll).ends mu [.fn (.func 196) [] [], .ptr 0 0 0, .ptr 1 0 0, .full 3, .fn (.func 205) [.ptr 1 0 0] []] ([some (.var [.int .i64 z, .sl q [.int .i64 zl]]), some (.var [.int .i64 ep, .full 2]), some (.row 3 k [.int .i64 l]), some (.row 3 k' [.int .i64 out])]) Q) = (
 asrt (nle k 1073741824) (br (bnot (nextB l)) (Q (Ex.exit 0) [AV.ptr 0 0 0, AV.ptr 1 0 0, AV.full 3] [some (zq7 z q zl), some (zq8 ep), some (AObj.row 3 (lenI (nextL l)) [.int .i64
 (nextL l)]), some (AObj.row 3 k' [.int .i64 out])]) (asrt (nle (nAdd k' 1) 17592186044416) ((mu zq9 [some (zq7 z q zl), some (zq8 ep), some (AObj.row 3 (lenI (nextL l)) [.int .i64
 (nextL l)]), some (AObj.row 3 (nAdd k' 1) [.int .i64 (cat out [nextV l])])]).succ.le (mu zq9 [some (zq7 z q zl), some (zq8 ep), some (AObj.row 3 k [.int .i64 l]), some (AObj.row 3
 k' [.int .i64 out])]) ∧ asrt (band (lineOk (nextL l)) (nle (nAdd (lenI (nextL l)) (nAdd k' 1)) 1073741824)) (Q (Ex.exit 0) [AV.ptr 0 0 0, AV.ptr 1 0 0, AV.full 3] [some (zq7 z q
 zl), some (zq8 ep), some (AObj.row 3 0 [.int .i64 []]), some (AObj.row 3 (lenI (cat (cat out [nextV l]) (nextL l))) [.int .i64 (cat (cat out [nextV l]) (nextL l))])]))))) := by kernel_rfl
theorem loop_comeAll : LoopOK Tryz.prog (bodyOf Tryz.prog 190 0) spec_comeAll.summ := by
 refine tab_loop mixed (l := tabE1) ok_tabE1 (i := 0) spec_comeAll (fun vals objs => match vals, objs with
  | [.fn (.func 196) [] [], .ptr 0 0 0, .ptr 1 0 0, .full 3, .fn (.func 205) [.ptr 1 0 0] []], [some (.var [.int .i64 z, .sl q [.int .i64 zl]]), some (.var [.int .i64 ep, .full 2]), some (.row 3 k [.int .i64 l]), some (.row 3 k' [.int .i64 out])] => k
  | _, _ => 0) fun vals objs Q h1 h2 wf wo hg => ?_
 unfold spec_comeAll at hg
 simp only at hg
 split at hg
 ·rename_i z q zl ep k l k' out
  clear h1 h2
  try simp only [WFL, WF, List.mem_cons, List.not_mem_nil, or_false, forall_eq_or_imp, forall_eq, Col.len, and_true, true_and] at wf
  rw [lp_comeAll]
  dsimp only [zq7, zq8, zq9]
  have wo' := wo
  simp [WFH, WFO, Col.len] at wo'
  obtain ⟨_, _, rfl, rfl⟩ := wo'
  simp [owl] at hg ⊢
  obtain ⟨⟨hl, hn⟩, hg⟩ := hg
  cases l with
  | nil => simpa [nextB, nextL] using hg
  | cons x l =>
   have hB : nextB (x :: l) = true := by simp [nextB, hl]
   have hl2 : lineOk l = true := by
    rw [lineOk_iff] at hl ⊢
    exact ⟨fun y hy => hl.1 y (by simp [hy]), (List.nodup_cons.1 hl.2).2⟩
   simp at hn
   simp [hB, nextL, nextV, hl2]
   refine ⟨by omega, by omega, by omega, ?_⟩
   simpa using hg
 ·exact hg.elim
def LcomeAll : Nat → Option LoopS := fun i => match i with
 | 0 => some (.summ spec_comeAll.summ)
 | _ => none
theorem ok_LcomeAll : ∀ i x, LcomeAll i = some x → LoopHyp Tryz.prog 190 i x := by
 intro i s h
 unfold LcomeAll at h
 split at h
 ·cases h; exact ⟨by kernel_rfl, loop_comeAll⟩
 ·cases h
def FcomeAll : Pure1 := fun
 | [.agg [.int .i64 ep, .sl n [.int .i64 l]], .fn (.func 196) [] []] => some (some (nle n room), .tup [.agg [.int .i64 (comeE ep l), .own 3 (lenI (allL ep l)) [.int .i64 (allL ep l)]], .own 3 (lenI (allO ep l)) [.int .i64 (allO ep l)]])
 | _ => none
theorem vc_comeAll (ep : Int) (n : Nat) (l : List Int) (r : AV) : VC Tryz.prog (tabS tabE1) (oneL 190 LcomeAll) true 190 [.agg [.int .i64 ep, .sl n [.int .i64 l]], .fn (.func 196) [] []] r = (
 asrt (nle n 1073741824) (asrt (nle n 1073741824) (br (bnot (evOk ep l)) (some (AV.tup [AV.agg [AV.int .i64 ep, AV.own 3 n [.int .i64 l]], AV.own 3 0 [.int .i64 []]]) = some r) (asrt
 (band (lineOk l) (nle (nAdd n 0) 1073741824)) (some (AV.tup [AV.agg [AV.int .i64 (imin (iadd .i64 ep 1) 1099511627776), AV.own 3 0 [.int .i64 []]], AV.own 3 (lenI (cat [] l)) [.int
 .i64 (cat [] l)]]) = some r))))) := by kernel_rfl
theorem ok_comeAll : PureOK Tryz.prog 190 FcomeAll := by
 refine tab_loops mixed (l := tabE1) ok_tabE1 true LcomeAll (by kernel_rfl) ok_LcomeAll fun xs b r h hb wf => ?_
 unfold FcomeAll at h
 split at h
 ·rename_i ep n l
  cases h
  try rw [some_f] at hb
  try simp only [WFL, WF, List.mem_cons, List.not_mem_nil, or_false, forall_eq_or_imp, forall_eq, Col.len, and_true, true_and] at wf
  rw [vc_comeAll]
  simp [owl] at hb ⊢
  refine ⟨hb, fun hk => ?_, fun hk => ?_⟩
  ·simp [comeE, allL, allO, hk, wf]
  ·obtain ⟨hl, h0, h1⟩ := evOk_line hk
   rw [wr (by omega) (by omega)]
   simp [comeE, allL, allO, hk, hb, hl, imin_e]
 ·cases h
def tabE3 : List (FuncId × Pure1) := [(190, FcomeAll)] ++ tabE1
theorem ok_tabE3 : ∀ p ∈ tabE3, PureOK Tryz.prog p.1 p.2 := by
 intro p hp
 simp only [tabE3, List.mem_append, List.mem_cons, List.not_mem_nil, or_false] at hp
 rcases hp with (rfl) | hp
 ·exact ok_comeAll
 ·exact ok_tabE1 p hp
def FnotifyAll : Pure1 := fun
 | [.agg [.int .i64 ep, .sl n [.int .i64 l]]] => some (some (nle n room), .tup [.agg [.int .i64 (comeE ep l), .own 3 (lenI (allL ep l)) [.int .i64 (allL ep l)]], .own 3 (lenI (allO ep l)) [.int .i64 (allO ep l)]])
 | _ => none
theorem vc_notifyAll (ep : Int) (n : Nat) (l : List Int) (r : AV) : VC Tryz.prog (tabS tabE3) noL true 177 [.agg [.int .i64 ep, .sl n [.int .i64 l]]] r = (
 asrt (nle n 1073741824) (some (AV.tup [AV.agg [AV.int .i64 (comeE ep l), AV.own 3 (lenI (allL ep l)) [.int .i64 (allL ep l)]], AV.own 3 (lenI (allO ep l)) [.int .i64 (allO ep l)]])
 = some r)) := by kernel_rfl
theorem ok_notifyAll : PureOK Tryz.prog 177 FnotifyAll := by
 refine tab_plain mixed (l := tabE3) ok_tabE3 true (by kernel_rfl) fun xs b r h hb wf => ?_
 unfold FnotifyAll at h
 split at h
 ·rename_i ep n l
  cases h
  try rw [some_f] at hb
  try simp only [WFL, WF, List.mem_cons, List.not_mem_nil, or_false, forall_eq_or_imp, forall_eq, Col.len, and_true, true_and] at wf
  rw [vc_notifyAll]
  simp [owl] at hb ⊢
  exact hb
 ·cases h
def opSide (k : Int) : Int := if 1 ≤ k ∧ k ≤ 3 then 1 else if 4 ≤ k ∧ k ≤ 6 then 2 else if 7 ≤ k ∧ k ≤ 8 then 3 else 0
def opTimed (k : Int) : Bool := decide (k = 3 ∨ k = 6)
def thOk (st kd un pc rg sn tr : Int) (lt : Bool) (rs : Int) : Bool :=
 decide (0 ≤ st ∧ st ≤ 2) && decide (0 ≤ rs ∧ rs ≤ 7) && (decide (0 < opSide kd) || decide (kd = 0 ∧ st = 0)) && (decide (0 ≤ un ∧ un ≤ 1099511627776) && (opTimed kd || (decide (un = 0) && !lt))) && decide (0 ≤ pc ∧ pc ≤ 11 ∧ 0 ≤ tr ∧ tr ≤ 1099511627776 ∧ 0 ≤ rg ∧ rg ≤ 1099511627776 ∧ -1 ≤ sn ∧ sn ≤ 1099511627776) && (decide (st ≠ 0) || (decide (pc = 0 ∧ rg = 0 ∧ sn = 0 ∧ tr = 0) && !lt))
def thRuns (st : Int) : Int := if st = 0 then 121 else if st = 2 then 122 else 0
def invE (st kind un : Int) : Int := if st ≠ 0 then 120 else if opSide kind = 0 then 190 else if opTimed kind && !decide (0 ≤ un ∧ un ≤ 1099511627776) then 50 else 0
def mayE (threads : Int) (single : Bool) (id kind : Int) : Int := if id < 0 ∨ threads ≤ id then 123 else if opSide kind = 0 then 190 else if single && decide (opSide kind = 2 ∧ 0 < id) then 123 else 0
def wlen (hd tl : Int) : Int := if tl ≤ hd then 0 else if hd < 0 ∧ 9223372036854775807 + hd < tl then 9223372036854775807 else tl - hd
def wordOk (hd tl md room : Int) : Bool := decide (hd ≤ tl ∧ tl ≤ 1099511627776 ∧ 0 ≤ hd ∧ wlen hd tl ≤ room ∧ 0 ≤ md ∧ md ≤ 2)
def in64 (hd tl : Int) : Bool := decide (-9223372036854775808 ≤ hd) && decide (tl ≤ 9223372036854775807)
def placeOf (p room : Int) : Int := if 0 ≤ p ∧ 1 ≤ room then p % room else 0
def Fside : Pure1 := fun
 | [.int .i64 k] => some (none, .int .i64 (opSide k))
 | _ => none
theorem vc_side (k : Int) (r : AV) : VC Tryz.prog (tabS tab0) noL false 57 [.int .i64 k] r = (
 br (ieq k 1) (some (AV.int .i64 1) = some r) (br (ieq k 2) (some (AV.int .i64 1) = some r) (br (ieq k 3) (some (AV.int .i64 1) = some r) (br (ieq k 4) (some (AV.int .i64 2) = some
 r) (br (ieq k 5) (some (AV.int .i64 2) = some r) (br (ieq k 6) (some (AV.int .i64 2) = some r) (br (ieq k 7) (some (AV.int .i64 3) = some r) (br (ieq k 8) (some (AV.int .i64 3) =
 some r) (some (AV.int .i64 0) = some r))))))))) := by kernel_rfl
theorem ok_side : PureOK Tryz.prog 57 Fside := by
 refine tab_plain mixed (l := tab0) ok_tab0 false (by kernel_rfl) fun xs b r h hb wf => ?_
 unfold Fside at h
 split at h
 ·rename_i k
  cases h
  try rw [some_f] at hb
  try simp only [WFL, WF, List.mem_cons, List.not_mem_nil, or_false, forall_eq_or_imp, forall_eq, Col.len, and_true, true_and] at wf
  rw [vc_side]
  simp [owl, opSide]
  grind (splits := 40)
 ·cases h
def tabT0 : List (FuncId × Pure1) := [(57, Fside)]
theorem ok_tabT0 : ∀ p ∈ tabT0, PureOK Tryz.prog p.1 p.2 := by
 intro p hp
 simp only [tabT0, List.mem_cons, List.not_mem_nil, or_false] at hp
 rcases hp with rfl
 ·exact ok_side
def FopCheck : Pure1 := fun
 | [.int .i64 k] => some (none, .bool (igt (opSide k) 0))
 | _ => none
theorem vc_opCheck (k : Int) (r : AV) : VC Tryz.prog (tabS tabT0) noL false 49 [.int .i64 k] r = (
some (AV.bool (igt (opSide k) 0)) = some r) := by kernel_rfl
theorem ok_opCheck : PureOK Tryz.prog 49 FopCheck := by
 refine tab_plain mixed (l := tabT0) ok_tabT0 false (by kernel_rfl) fun xs b r h hb wf => ?_
 unfold FopCheck at h
 split at h
 ·rename_i k
  cases h
  try rw [some_f] at hb
  try simp only [WFL, WF, List.mem_cons, List.not_mem_nil, or_false, forall_eq_or_imp, forall_eq, Col.len, and_true, true_and] at wf
  rw [vc_opCheck]
  all_goals (try simp [owl])
 ·cases h
def FopTimed : Pure1 := fun
 | [.int .i64 k] => some (none, .bool (opTimed k))
 | _ => none
theorem vc_opTimed (k : Int) (r : AV) : VC Tryz.prog (tabS tabT0) noL false 72 [.int .i64 k] r = (
some (AV.bool (bite (ieq k 3) true (ieq k 6))) = some r) := by kernel_rfl
theorem ok_opTimed : PureOK Tryz.prog 72 FopTimed := by
 refine tab_plain mixed (l := tabT0) ok_tabT0 false (by kernel_rfl) fun xs b r h hb wf => ?_
 unfold FopTimed at h
 split at h
 ·rename_i k
  cases h
  try rw [some_f] at hb
  try simp only [WFL, WF, List.mem_cons, List.not_mem_nil, or_false, forall_eq_or_imp, forall_eq, Col.len, and_true, true_and] at wf
  rw [vc_opTimed]
  simp only [bite_and, bite_or]
  simp [owl, opTimed]
  rw [Bool.eq_iff_iff]
  simp [owl]
 ·cases h
def tabT1 : List (FuncId × Pure1) := [(49, FopCheck), (72, FopTimed)] ++ tabT0
theorem ok_tabT1 : ∀ p ∈ tabT1, PureOK Tryz.prog p.1 p.2 := by
 intro p hp
 simp only [tabT1, List.mem_append, List.mem_cons, List.not_mem_nil, or_false] at hp
 rcases hp with (rfl | rfl) | hp
 ·exact ok_opCheck
 ·exact ok_opTimed
 ·exact ok_tabT0 p hp
def Fwithin : Pure1 := fun
 | [.int .i64 x, .int .i64 lo, .int .i64 hi] => some (none, .bool (band (ige x lo) (ile x hi)))
 | _ => none
theorem vc_within (x lo hi : Int) (r : AV) : VC Tryz.prog (tabS tab0) noL false 73 [.int .i64 x, .int .i64 lo, .int .i64 hi] r = (
some (AV.bool (bite (ige x lo) (ile x hi) false)) = some r) := by kernel_rfl
theorem ok_within : PureOK Tryz.prog 73 Fwithin := by
 refine tab_plain mixed (l := tab0) ok_tab0 false (by kernel_rfl) fun xs b r h hb wf => ?_
 unfold Fwithin at h
 split at h
 ·rename_i x lo hi
  cases h
  try rw [some_f] at hb
  try simp only [WFL, WF, List.mem_cons, List.not_mem_nil, or_false, forall_eq_or_imp, forall_eq, Col.len, and_true, true_and] at wf
  rw [vc_within]
  simp only [bite_and, bite_or]
  all_goals (try simp [owl])
  all_goals (try rfl)
 ·cases h
def tabT2 : List (FuncId × Pure1) := [(73, Fwithin)] ++ tabT1
theorem ok_tabT2 : ∀ p ∈ tabT2, PureOK Tryz.prog p.1 p.2 := by
 intro p hp
 simp only [tabT2, List.mem_append, List.mem_cons, List.not_mem_nil, or_false] at hp
 rcases hp with (rfl) | hp
 ·exact ok_within
 ·exact ok_tabT1 p hp
def FthBare : Pure1 := fun
 | [.agg [.int .i64 st, .int .i64 kd, .int .i64 vl, .int .i64 un, .int .i64 pc, .int .i64 rg, .int .i64 sn, .int .i64 tr, .bool lt, .int .i64 rs, .int .i64 gt]] => some (none, .agg [.int .i64 0, .int .i64 kd, .int .i64 vl, .int .i64 un, .int .i64 0, .int .i64 0, .int .i64 0, .int .i64 0, .bool false, .int .i64 rs, .int .i64 gt])
 | _ => none
theorem vc_thBare (st kd vl un pc rg sn tr : Int) (lt : Bool) (rs gt : Int) (r : AV) : VC Tryz.prog (tabS tab0) noL false 83 [.agg [.int .i64 st, .int .i64 kd, .int .i64 vl, .int .i64 un, .int .i64 pc, .int .i64 rg, .int .i64 sn, .int .i64 tr, .bool lt, .int .i64 rs, .int .i64 gt]] r = (
 some (AV.agg [AV.int .i64 0, AV.int .i64 kd, AV.int .i64 vl, AV.int .i64 un, AV.int .i64 0, AV.int .i64 0, AV.int .i64 0, AV.int .i64 0, AV.bool false, AV.int .i64 rs, AV.int .i64
 gt]) = some r) := by kernel_rfl
theorem ok_thBare : PureOK Tryz.prog 83 FthBare := by
 refine tab_plain mixed (l := tab0) ok_tab0 false (by kernel_rfl) fun xs b r h hb wf => ?_
 unfold FthBare at h
 split at h
 ·rename_i st kd vl un pc rg sn tr lt rs gt
  cases h
  try rw [some_f] at hb
  try simp only [WFL, WF, List.mem_cons, List.not_mem_nil, or_false, forall_eq_or_imp, forall_eq, Col.len, and_true, true_and] at wf
  rw [vc_thBare]
  all_goals (try simp [owl])
 ·cases h
def FthKind : Pure1 := fun
 | [.agg [.int .i64 st, .int .i64 kd, .int .i64 vl, .int .i64 un, .int .i64 pc, .int .i64 rg, .int .i64 sn, .int .i64 tr, .bool lt, .int .i64 rs, .int .i64 gt]] => some (none, .bool (bite (igt (opSide kd) 0) true (band (ieq kd 0) (ieq st 0))))
 | _ => none
theorem vc_thKind (st kd vl un pc rg sn tr : Int) (lt : Bool) (rs gt : Int) (r : AV) : VC Tryz.prog (tabS tabT2) noL false 84 [.agg [.int .i64 st, .int .i64 kd, .int .i64 vl, .int .i64 un, .int .i64 pc, .int .i64 rg, .int .i64 sn, .int .i64 tr, .bool lt, .int .i64 rs, .int .i64 gt]] r = (
 some (AV.bool (bite (igt (opSide kd) 0) true (bite (ieq kd 0) (ieq st 0) false))) = some r) := by kernel_rfl
theorem ok_thKind : PureOK Tryz.prog 84 FthKind := by
 refine tab_plain mixed (l := tabT2) ok_tabT2 false (by kernel_rfl) fun xs b r h hb wf => ?_
 unfold FthKind at h
 split at h
 ·rename_i st kd vl un pc rg sn tr lt rs gt
  cases h
  try rw [some_f] at hb
  try simp only [WFL, WF, List.mem_cons, List.not_mem_nil, or_false, forall_eq_or_imp, forall_eq, Col.len, and_true, true_and] at wf
  rw [vc_thKind]
  simp only [bite_and, bite_or]
  all_goals (try simp [owl])
  all_goals (try rfl)
 ·cases h
def FthTime : Pure1 := fun
 | [.agg [.int .i64 st, .int .i64 kd, .int .i64 vl, .int .i64 un, .int .i64 pc, .int .i64 rg, .int .i64 sn, .int .i64 tr, .bool lt, .int .i64 rs, .int .i64 gt]] => some (none, .bool (band (band (ige un 0) (ile un 1099511627776)) (bite (opTimed kd) true (band (ieq un 0) (bnot lt)))))
 | _ => none
theorem vc_thTime (st kd vl un pc rg sn tr : Int) (lt : Bool) (rs gt : Int) (r : AV) : VC Tryz.prog (tabS tabT2) noL false 85 [.agg [.int .i64 st, .int .i64 kd, .int .i64 vl, .int .i64 un, .int .i64 pc, .int .i64 rg, .int .i64 sn, .int .i64 tr, .bool lt, .int .i64 rs, .int .i64 gt]] r = (
 some (AV.bool (bite (band (ige un 0) (ile un 1099511627776)) (bite (opTimed kd) true (bite (ieq un 0) (bnot lt) false)) false)) = some r) := by kernel_rfl
theorem ok_thTime : PureOK Tryz.prog 85 FthTime := by
 refine tab_plain mixed (l := tabT2) ok_tabT2 false (by kernel_rfl) fun xs b r h hb wf => ?_
 unfold FthTime at h
 split at h
 ·rename_i st kd vl un pc rg sn tr lt rs gt
  cases h
  try rw [some_f] at hb
  try simp only [WFL, WF, List.mem_cons, List.not_mem_nil, or_false, forall_eq_or_imp, forall_eq, Col.len, and_true, true_and] at wf
  rw [vc_thTime]
  simp only [bite_and, bite_or]
  all_goals (try simp [owl])
  all_goals (try rfl)
 ·cases h
def FthPlace : Pure1 := fun
 | [.agg [.int .i64 st, .int .i64 kd, .int .i64 vl, .int .i64 un, .int .i64 pc, .int .i64 rg, .int .i64 sn, .int .i64 tr, .bool lt, .int .i64 rs, .int .i64 gt]] => some (none, .bool (band (band (band (band (ige pc 0) (ile pc 11)) (band (ige tr 0) (ile tr 1099511627776))) (band (ige rg 0) (ile rg 1099511627776))) (band (ige sn (-1)) (ile sn 1099511627776))))
 | _ => none
theorem vc_thPlace (st kd vl un pc rg sn tr : Int) (lt : Bool) (rs gt : Int) (r : AV) : VC Tryz.prog (tabS tabT2) noL false 86 [.agg [.int .i64 st, .int .i64 kd, .int .i64 vl, .int .i64 un, .int .i64 pc, .int .i64 rg, .int .i64 sn, .int .i64 tr, .bool lt, .int .i64 rs, .int .i64 gt]] r = (
 some (AV.bool (bite (bite (bite (band (ige pc 0) (ile pc 11)) (band (ige tr 0) (ile tr 1099511627776)) false) (band (ige rg 0) (ile rg 1099511627776)) false) (band (ige sn (-1))
 (ile sn 1099511627776)) false)) = some r) := by kernel_rfl
theorem ok_thPlace : PureOK Tryz.prog 86 FthPlace := by
 refine tab_plain mixed (l := tabT2) ok_tabT2 false (by kernel_rfl) fun xs b r h hb wf => ?_
 unfold FthPlace at h
 split at h
 ·rename_i st kd vl un pc rg sn tr lt rs gt
  cases h
  try rw [some_f] at hb
  try simp only [WFL, WF, List.mem_cons, List.not_mem_nil, or_false, forall_eq_or_imp, forall_eq, Col.len, and_true, true_and] at wf
  rw [vc_thPlace]
  simp only [bite_and, bite_or]
  all_goals (try simp [owl])
  all_goals (try rfl)
 ·cases h
def tabT3 : List (FuncId × Pure1) := [(83, FthBare), (84, FthKind), (85, FthTime), (86, FthPlace)] ++ tabT2
theorem ok_tabT3 : ∀ p ∈ tabT3, PureOK Tryz.prog p.1 p.2 := by
 intro p hp
 simp only [tabT3, List.mem_append, List.mem_cons, List.not_mem_nil, or_false] at hp
 rcases hp with (rfl | rfl | rfl | rfl) | hp
 ·exact ok_thBare
 ·exact ok_thKind
 ·exact ok_thTime
 ·exact ok_thPlace
 ·exact ok_tabT2 p hp
def FthCheck : Pure1 := fun
 | [.agg [.int .i64 st, .int .i64 kd, .int .i64 vl, .int .i64 un, .int .i64 pc, .int .i64 rg, .int .i64 sn, .int .i64 tr, .bool lt, .int .i64 rs, .int .i64 gt]] => some (none, .bool (thOk st kd un pc rg sn tr lt rs))
 | _ => none
theorem vc_thCheck (st kd vl un pc rg sn tr : Int) (lt : Bool) (rs gt : Int) (r : AV) : VC Tryz.prog (tabS tabT3) noL false 62 [.agg [.int .i64 st, .int .i64 kd, .int .i64 vl, .int .i64 un, .int .i64 pc, .int .i64 rg, .int .i64 sn, .int .i64 tr, .bool lt, .int .i64 rs, .int .i64 gt]] r = (
 some (AV.bool (bite (bite (bite (bite (bite (band (ige st 0) (ile st 2)) (band (ige rs 0) (ile rs 7)) false) (bite (igt (opSide kd) 0) true (band (ieq kd 0) (ieq st 0))) false)
 (band (band (ige un 0) (ile un 1099511627776)) (bite (opTimed kd) true (band (ieq un 0) (bnot lt)))) false) (band (band (band (band (ige pc 0) (ile pc 11)) (band (ige tr 0) (ile tr
 1099511627776))) (band (ige rg 0) (ile rg 1099511627776))) (band (ige sn (-1)) (ile sn 1099511627776))) false) (bite (ine st 0) true (band (ieq st 0) (band (ieq kd kd) (band (ieq vl
 vl) (band (ieq un un) (band (ieq pc 0) (band (ieq rg 0) (band (ieq sn 0) (band (ieq tr 0) (band (beq2 lt false) (band (ieq rs rs) (band (ieq gt gt) true)))))))))))) false)) = some r) := by kernel_rfl
theorem ok_thCheck : PureOK Tryz.prog 62 FthCheck := by
 refine tab_plain mixed (l := tabT3) ok_tabT3 false (by kernel_rfl) fun xs b r h hb wf => ?_
 unfold FthCheck at h
 split at h
 ·rename_i st kd vl un pc rg sn tr lt rs gt
  cases h
  try rw [some_f] at hb
  try simp only [WFL, WF, List.mem_cons, List.not_mem_nil, or_false, forall_eq_or_imp, forall_eq, Col.len, and_true, true_and] at wf
  rw [vc_thCheck]
  simp only [bite_and, bite_or]
  simp [owl, thOk]
  rw [Bool.eq_iff_iff]
  simp [owl]
  grind (splits := 60)
 ·cases h
def tabT4 : List (FuncId × Pure1) := [(62, FthCheck)]
theorem ok_tabT4 : ∀ p ∈ tabT4, PureOK Tryz.prog p.1 p.2 := by
 intro p hp
 simp only [tabT4, List.mem_cons, List.not_mem_nil, or_false] at hp
 rcases hp with rfl
 ·exact ok_thCheck
def FthRuns : Pure1 := fun
 | [.agg [.int .i64 st, .int .i64 kd, .int .i64 vl, .int .i64 un, .int .i64 pc, .int .i64 rg, .int .i64 sn, .int .i64 tr, .bool lt, .int .i64 rs, .int .i64 gt]] => some (none, .int .i64 (thRuns st))
 | _ => none
theorem vc_thRuns (st kd vl un pc rg sn tr : Int) (lt : Bool) (rs gt : Int) (r : AV) : VC Tryz.prog (tabS tabT3) noL false 75 [.agg [.int .i64 st, .int .i64 kd, .int .i64 vl, .int .i64 un, .int .i64 pc, .int .i64 rg, .int .i64 sn, .int .i64 tr, .bool lt, .int .i64 rs, .int .i64 gt]] r = (
 br (ieq st 0) (some (AV.int .i64 121) = some r) (br (ieq st 2) (some (AV.int .i64 122) = some r) (some (AV.int .i64 0) = some r))) := by kernel_rfl
theorem ok_thRuns : PureOK Tryz.prog 75 FthRuns := by
 refine tab_plain mixed (l := tabT3) ok_tabT3 false (by kernel_rfl) fun xs b r h hb wf => ?_
 unfold FthRuns at h
 split at h
 ·rename_i st kd vl un pc rg sn tr lt rs gt
  cases h
  try rw [some_f] at hb
  try simp only [WFL, WF, List.mem_cons, List.not_mem_nil, or_false, forall_eq_or_imp, forall_eq, Col.len, and_true, true_and] at wf
  rw [vc_thRuns]
  simp [owl, thRuns]
  try grind
 ·cases h
def FthWake : Pure1 := fun
 | [.agg [.int .i64 st, .int .i64 kd, .int .i64 vl, .int .i64 un, .int .i64 pc, .int .i64 rg, .int .i64 sn, .int .i64 tr, .bool lt, .int .i64 rs, .int .i64 gt]] => some (none, .agg [.int .i64 (iite (ieq st 2) 1 st), .int .i64 kd, .int .i64 vl, .int .i64 un, .int .i64 pc, .int .i64 rg, .int .i64 sn, .int .i64 tr, .bool lt, .int .i64 rs, .int .i64 gt])
 | _ => none
theorem vc_thWake (st kd vl un pc rg sn tr : Int) (lt : Bool) (rs gt : Int) (r : AV) : VC Tryz.prog (tabS tabT3) noL false 53 [.agg [.int .i64 st, .int .i64 kd, .int .i64 vl, .int .i64 un, .int .i64 pc, .int .i64 rg, .int .i64 sn, .int .i64 tr, .bool lt, .int .i64 rs, .int .i64 gt]] r = (
 br (ieq st 2) (some (AV.agg [AV.int .i64 1, AV.int .i64 kd, AV.int .i64 vl, AV.int .i64 un, AV.int .i64 pc, AV.int .i64 rg, AV.int .i64 sn, AV.int .i64 tr, AV.bool lt, AV.int .i64
 rs, AV.int .i64 gt]) = some r) (some (AV.agg [AV.int .i64 st, AV.int .i64 kd, AV.int .i64 vl, AV.int .i64 un, AV.int .i64 pc, AV.int .i64 rg, AV.int .i64 sn, AV.int .i64 tr, AV.bool
 lt, AV.int .i64 rs, AV.int .i64 gt]) = some r)) := by kernel_rfl
theorem ok_thWake : PureOK Tryz.prog 53 FthWake := by
 refine tab_plain mixed (l := tabT3) ok_tabT3 false (by kernel_rfl) fun xs b r h hb wf => ?_
 unfold FthWake at h
 split at h
 ·rename_i st kd vl un pc rg sn tr lt rs gt
  cases h
  try rw [some_f] at hb
  try simp only [WFL, WF, List.mem_cons, List.not_mem_nil, or_false, forall_eq_or_imp, forall_eq, Col.len, and_true, true_and] at wf
  rw [vc_thWake]
  simp [owl, iite, ieq]
  try grind
 ·cases h
def Fmay : Pure1 := fun
 | [.agg [.int .i64 lg, .int .i64 th, .int .i64 po, .int .i64 wt, .int .i64 sp, .int .i64 yi, .bool sg], .int .i64 id, .int .i64 kind] => some (none, .int .i64 (mayE th sg id kind))
 | _ => none
theorem vc_may (lg th po wt sp yi : Int) (sg : Bool) (id kind : Int) (r : AV) : VC Tryz.prog (tabS tabT1) noL false 34 [.agg [.int .i64 lg, .int .i64 th, .int .i64 po, .int .i64 wt, .int .i64 sp, .int .i64 yi, .bool sg], .int .i64 id, .int .i64 kind] r = (
 br (bite (ilt id 0) true (ige id th)) (some (AV.int .i64 123) = some r) (br (bnot (igt (opSide kind) 0)) (some (AV.int .i64 190) = some r) (br (bite (bite sg (ieq (opSide kind) 2)
 false) (igt id 0) false) (some (AV.int .i64 123) = some r) (some (AV.int .i64 0) = some r)))) := by kernel_rfl
theorem ok_may : PureOK Tryz.prog 34 Fmay := by
 refine tab_plain mixed (l := tabT1) ok_tabT1 false (by kernel_rfl) fun xs b r h hb wf => ?_
 unfold Fmay at h
 split at h
 ·rename_i lg th po wt sp yi sg id kind
  cases h
  try rw [some_f] at hb
  try simp only [WFL, WF, List.mem_cons, List.not_mem_nil, or_false, forall_eq_or_imp, forall_eq, Col.len, and_true, true_and] at wf
  rw [vc_may]
  simp only [bite_and, bite_or]
  have h0 : 0 ≤ opSide kind := by unfold opSide; repeat' split <;> omega
  simp [owl, mayE]
  try grind (splits := 40)
 ·cases h
def FposLen : Pure1 := fun
 | [.agg [.int .i64 hd, .int .i64 tl, .int .i64 md]] => some (some (in64 hd tl), .int .i64 (wlen hd tl))
 | _ => none
theorem vc_posLen (hd tl md : Int) (r : AV) : VC Tryz.prog (tabS tab0) noL false 41 [.agg [.int .i64 hd, .int .i64 tl, .int .i64 md]] r = (
 br (bite (band (ieq hd 0) (band (ieq tl 0) (band (ieq md 0) true))) true (ile tl hd)) (some (AV.int .i64 0) = some r) (br (bite (ilt hd 0) (igt tl (iadd .i64 9223372036854775807
 hd)) false) (some (AV.int .i64 9223372036854775807) = some r) (some (AV.int .i64 (isub .i64 tl hd)) = some r))) := by kernel_rfl
theorem ok_posLen : PureOK Tryz.prog 41 FposLen := by
 refine tab_plain mixed (l := tab0) ok_tab0 false (by kernel_rfl) fun xs b r h hb wf => ?_
 unfold FposLen at h
 split at h
 ·rename_i hd tl md
  cases h
  try rw [some_f] at hb
  try simp only [WFL, WF, List.mem_cons, List.not_mem_nil, or_false, forall_eq_or_imp, forall_eq, Col.len, and_true, true_and] at wf
  rw [vc_posLen]
  simp [in64] at hb
  simp only [bite_and, bite_or]
  have w1 : ilt hd 0 = true → IntKind.i64.wrap (9223372036854775807 + hd) = 9223372036854775807 + hd := by
   intro h; simp [ilt] at h; exact IntWalk.i64_in _ (by omega)
  by_cases c1 : tl ≤ hd
  ·simp [owl, wlen, c1]
   all_goals (intros; exfalso; omega)
  ·by_cases c2 : hd < 0
   ·have w2 := w1 (by simp [ilt, c2])
    by_cases c3 : 9223372036854775807 + hd < tl
    ·simp [owl, wlen, c1, c2, w2, c3]
     refine ⟨by intros; omega, by intros; omega⟩
    ·have w3 : IntKind.i64.wrap (tl - hd) = tl - hd := IntWalk.i64_in _ (by omega)
     simp [owl, wlen, c1, c2, w2, c3, w3]
     intros; omega
   ·have w3 : IntKind.i64.wrap (tl - hd) = tl - hd := IntWalk.i64_in _ (by omega)
    simp [owl, wlen, c1, c2, w3]
    intros; omega
 ·cases h
def tabP0 : List (FuncId × Pure1) := [(41, FposLen)]
theorem ok_tabP0 : ∀ p ∈ tabP0, PureOK Tryz.prog p.1 p.2 := by
 intro p hp
 simp only [tabP0, List.mem_cons, List.not_mem_nil, or_false] at hp
 rcases hp with rfl
 ·exact ok_posLen
def FposCheck : Pure1 := fun
 | [.agg [.int .i64 hd, .int .i64 tl, .int .i64 md], .int .i64 room] => some (some (in64 hd tl), .bool (wordOk hd tl md room))
 | _ => none
theorem vc_posCheck (hd tl md : Int) (room : Int) (r : AV) : VC Tryz.prog (tabS tabP0) noL false 63 [.agg [.int .i64 hd, .int .i64 tl, .int .i64 md], .int .i64 room] r = (
 asrt (bimp (bite (bite (ige tl hd) (ile tl 1099511627776) false) (ige hd 0) false) (in64 hd tl)) (br (bite (bite (bite (ige tl hd) (ile tl 1099511627776) false) (ige hd 0) false)
 (ile (wlen hd tl) room) false) (some (AV.bool (bite (ige md 0) (ile md 2) false)) = some r) (some (AV.bool false) = some r))) := by kernel_rfl
theorem ok_posCheck : PureOK Tryz.prog 63 FposCheck := by
 refine tab_plain mixed (l := tabP0) ok_tabP0 false (by kernel_rfl) fun xs b r h hb wf => ?_
 unfold FposCheck at h
 split at h
 ·rename_i hd tl md room
  cases h
  try rw [some_f] at hb
  try simp only [WFL, WF, List.mem_cons, List.not_mem_nil, or_false, forall_eq_or_imp, forall_eq, Col.len, and_true, true_and] at wf
  rw [vc_posCheck]
  simp only [bite_and, bite_or]
  simp [owl, wordOk, hb]
  rw [Bool.eq_iff_iff]
  simp [owl]
  try grind
 ·cases h
def FposPlace : Pure1 := fun
 | [.int .i64 p, .int .i64 room] => some (none, .int .i64 (placeOf p room))
 | _ => none
theorem vc_posPlace (p room : Int) (r : AV) : VC Tryz.prog (tabS tab0) noL false 42 [.int .i64 p, .int .i64 room] r = (
 br (bnot (bite (ige p 0) (ige room 1) false)) (some (AV.int .i64 0) = some r) (asrt (ine room 0) (some (AV.int .i64 (irem p room)) = some r))) := by kernel_rfl
theorem ok_posPlace : PureOK Tryz.prog 42 FposPlace := by
 refine tab_plain mixed (l := tab0) ok_tab0 false (by kernel_rfl) fun xs b r h hb wf => ?_
 unfold FposPlace at h
 split at h
 ·rename_i p room
  cases h
  try rw [some_f] at hb
  try simp only [WFL, WF, List.mem_cons, List.not_mem_nil, or_false, forall_eq_or_imp, forall_eq, Col.len, and_true, true_and] at wf
  rw [vc_posPlace]
  simp only [bite_and, bite_or]
  have w : 0 ≤ p → irem p room = p % room := fun h => by unfold irem; exact Int.tmod_eq_emod_of_nonneg h
  by_cases c : 0 ≤ p ∧ 1 ≤ room
  ·have e : placeOf p room = p % room := by unfold placeOf; rw [if_pos c]
   have c3 : ¬ room = 0 := by omega
   have c4 : ¬ room < 1 := by omega
   rw [e]
   simp [owl, c, c3, c4, w c.1]
  ·have e : placeOf p room = 0 := by unfold placeOf; rw [if_neg c]
   rw [e]
   simp [owl]
   intro h1 h2
   exact absurd ⟨h1, h2⟩ c
 ·cases h
end Go.Own
end
