/- What stands behind it, part 7. -/
import Derived.Test.YtllmihapajeeiaaGreatW6
import Derived.RangeFuncNested
import Derived.Shelf.Abstract
import Derived.WalkKit
import Derived.OwnWalkIn
import Derived.TacticsInMore
set_option linter.unusedVariables false
set_option linter.unusedSimpArgs false
section
namespace Go.Own
open Go Go.Proofs
set_option maxRecDepth 100000
def stampOk (s : Int) (n i : Nat) : Bool := decide (0 ≤ s ∧ s ≤ 2199023255552 ∧ s % n = i)
def stampsFrom (l : List Int) (n : Nat) (i : Int) : Bool := (l.zipIdx.drop i.toNat).all fun p => stampOk p.1 n p.2
def slotsOk (n : Nat) (l : List Int) : Bool := stampsFrom l n 0 && decide (1 ≤ n ∧ n ≤ 64)
def badTh (st kd un pc rg sn tr : List Int) (lt : List Bool) (rs : List Int) (i : Nat) : Bool := !thOk (st.getD i 0) (kd.getD i 0) (un.getD i 0) (pc.getD i 0) (rg.getD i 0) (sn.getD i 0) (tr.getD i 0) (lt.getD i false) (rs.getD i 0)
def badThAt (n : Nat) (st kd un pc rg sn tr : List Int) (lt : List Bool) (rs : List Int) (i : Nat) : Int :=
 match ((List.range n).drop i).find? (badTh st kd un pc rg sn tr lt rs) with
 | some j => j
 | none => -1
def amBad (th x : Int) : Bool := decide (x < 0 ∨ th ≤ x)
def amBadAt (th : Int) (l : List Int) (k : Nat) : Int :=
 match (l.drop k).findIdx? (amBad th) with
 | some j => k + j
 | none => -1
def closeM (md m : Int) : Int := if m = 1 ∨ m = 2 then imax md m else md
theorem amAt_lt {th : Int} {l : List Int} {k : Nat} (h : k < l.length) : amBadAt th l k = if amBad th (l[k]?.getD 0) = true then (k : Int) else amBadAt th l (k + 1) := by
 unfold amBadAt
 rw [List.drop_eq_getElem_cons h]
 have e : l[k]?.getD 0 = l[k] := by simp [h]
 rw [e, List.findIdx?_cons]
 by_cases hx : amBad th l[k] = true
 ·simp [hx]
 ·simp only [hx, Bool.false_eq_true, if_false]
  cases (l.drop (k + 1)).findIdx? (amBad th) with
  | none => rfl
  | some j => simp; omega
theorem amAt_ge {th : Int} {l : List Int} {k : Nat} (h : l.length ≤ k) : amBadAt th l k = -1 := by
 unfold amBadAt
 rw [List.drop_eq_nil_of_le h]
 rfl
theorem thAt_lt {n : Nat} {st kd un pc rg sn tr : List Int} {lt : List Bool} {rs : List Int} {k : Nat} (h : k < n) : badThAt n st kd un pc rg sn tr lt rs k = if badTh st kd un pc rg sn tr lt rs k = true then (k : Int) else badThAt n st kd un pc rg sn tr lt rs (k + 1) := by
 unfold badThAt
 rw [List.drop_eq_getElem_cons (by simpa using h)]
 simp only [List.getElem_range, List.find?_cons]
 by_cases hx : badTh st kd un pc rg sn tr lt rs k = true
 ·simp [hx]
 ·simp [hx]
theorem thAt_ge {n : Nat} {st kd un pc rg sn tr : List Int} {lt : List Bool} {rs : List Int} {k : Nat} (h : n ≤ k) : badThAt n st kd un pc rg sn tr lt rs k = -1 := by
 unfold badThAt
 rw [List.drop_eq_nil_of_le (by simpa using h)]
 rfl
theorem stamps_lt {l : List Int} {n k : Nat} (h : k < l.length) : stampsFrom l n (k : Int) = (stampOk (l[k]?.getD 0) n k && stampsFrom l n ((k : Int) + 1)) := by
 unfold stampsFrom
 have e1 : (k : Int).toNat = k := by omega
 have e2 : ((k : Int) + 1).toNat = k + 1 := by omega
 rw [e1, e2, List.drop_eq_getElem_cons (by simpa using h), List.all_cons]
 simp [h]
theorem stamps_ge {l : List Int} {n k : Nat} (h : l.length ≤ k) : stampsFrom l n (k : Int) = true := by
 unfold stampsFrom
 have e1 : (k : Int).toNat = k := by omega
 rw [e1, List.drop_eq_nil_of_le (by simpa using h)]
 rfl
def FcloneSlot : Pure1 := fun
 | [.sl n [.int .i64 s, .int .i64 v]] => some (some (nle n 8796093022208), .own 88 n [.int .i64 s, .int .i64 v])
 | _ => none
theorem vc_cloneSlot (n : Nat) (s v : List Int) (r : AV) : VC Tryz.prog (tabS tab0) noL true 68 [.sl n [.int .i64 s, .int .i64 v]] r = (
 ∀ (b : Bool), (b = true → n = 0) → br b (some (AV.own 88 0 [.int .i64 [], .int .i64 []]) = some r) (asrt (nle (nAdd 0 n) 8796093022208) (some (AV.own 88 (nAdd 0 n) [.int .i64 (cat
 [] s), .int .i64 (cat [] v)]) = some r))) := by kernel_rfl
theorem ok_cloneSlot : PureOK Tryz.prog 68 FcloneSlot := by
 refine tab_plain mixed (l := tab0) ok_tab0 true (by kernel_rfl) fun xs b r h hb wf => ?_
 unfold FcloneSlot at h
 split at h
 ·rename_i n s v
  cases h
  try rw [some_f] at hb
  try simp only [WFL, WF, List.mem_cons, List.not_mem_nil, or_false, forall_eq_or_imp, forall_eq, Col.len, and_true, true_and] at wf
  rw [vc_cloneSlot]
  simp [owl] at hb ⊢
  grind
 ·cases h
def FcloneTh : Pure1 := fun
 | [.sl n [.int .i64 st, .int .i64 kd, .int .i64 vl, .int .i64 un, .int .i64 pc, .int .i64 rg, .int .i64 sn, .int .i64 tr, .bool lt, .int .i64 rs, .int .i64 gt]] => some (some (nle n 1599289640401), .own 51 n [.int .i64 st, .int .i64 kd, .int .i64 vl, .int .i64 un, .int .i64 pc, .int .i64 rg, .int .i64 sn, .int .i64 tr, .bool lt, .int .i64 rs, .int .i64 gt])
 | _ => none
theorem vc_cloneTh (n : Nat) (st kd vl un pc rg sn tr : List Int) (lt : List Bool) (rs gt : List Int) (r : AV) : VC Tryz.prog (tabS tab0) noL true 70 [.sl n [.int .i64 st, .int .i64 kd, .int .i64 vl, .int .i64 un, .int .i64 pc, .int .i64 rg, .int .i64 sn, .int .i64 tr, .bool lt, .int .i64 rs, .int .i64 gt]] r = (
 ∀ (b : Bool), (b = true → n = 0) → br b (some (AV.own 51 0 [.int .i64 [], .int .i64 [], .int .i64 [], .int .i64 [], .int .i64 [], .int .i64 [], .int .i64 [], .int .i64 [], Col.bool
 [], .int .i64 [], .int .i64 []]) = some r) (asrt (nle (nAdd 0 n) 1599289640401) (some (AV.own 51 (nAdd 0 n) [.int .i64 (cat [] st), .int .i64 (cat [] kd), .int .i64 (cat [] vl),
 .int .i64 (cat [] un), .int .i64 (cat [] pc), .int .i64 (cat [] rg), .int .i64 (cat [] sn), .int .i64 (cat [] tr), Col.bool (cat [] lt), .int .i64 (cat [] rs), .int .i64 (cat []
 gt)]) = some r))) := by kernel_rfl
theorem ok_cloneTh : PureOK Tryz.prog 70 FcloneTh := by
 refine tab_plain mixed (l := tab0) ok_tab0 true (by kernel_rfl) fun xs b r h hb wf => ?_
 unfold FcloneTh at h
 split at h
 ·rename_i n st kd vl un pc rg sn tr lt rs gt
  cases h
  try rw [some_f] at hb
  try simp only [WFL, WF, List.mem_cons, List.not_mem_nil, or_false, forall_eq_or_imp, forall_eq, Col.len, and_true, true_and] at wf
  rw [vc_cloneTh]
  simp [owl] at hb ⊢
  grind (splits := 60)
 ·cases h
def FcloneLog : Pure1 := fun
 | [.sl n [.int .i64 c0, .int .i64 ks, .int .i64 vs, .int .i64 rs, .int .i64 gs]] => some (some (nle n 3518437208883), .own 53 n [.int .i64 c0, .int .i64 ks, .int .i64 vs, .int .i64 rs, .int .i64 gs])
 | _ => none
theorem vc_cloneLog (n : Nat) (c0 ks vs rs gs : List Int) (r : AV) : VC Tryz.prog (tabS tab0) noL true 71 [.sl n [.int .i64 c0, .int .i64 ks, .int .i64 vs, .int .i64 rs, .int .i64 gs]] r = (
 ∀ (b : Bool), (b = true → n = 0) → br b (some (AV.own 53 0 [.int .i64 [], .int .i64 [], .int .i64 [], .int .i64 [], .int .i64 []]) = some r) (asrt (nle (nAdd 0 n) 3518437208883)
 (some (AV.own 53 (nAdd 0 n) [.int .i64 (cat [] c0), .int .i64 (cat [] ks), .int .i64 (cat [] vs), .int .i64 (cat [] rs), .int .i64 (cat [] gs)]) = some r))) := by kernel_rfl
theorem ok_cloneLog : PureOK Tryz.prog 71 FcloneLog := by
 refine tab_plain mixed (l := tab0) ok_tab0 true (by kernel_rfl) fun xs b r h hb wf => ?_
 unfold FcloneLog at h
 split at h
 ·rename_i n c0 ks vs rs gs
  cases h
  try rw [some_f] at hb
  try simp only [WFL, WF, List.mem_cons, List.not_mem_nil, or_false, forall_eq_or_imp, forall_eq, Col.len, and_true, true_and] at wf
  rw [vc_cloneLog]
  simp [owl] at hb ⊢
  grind
 ·cases h
def Fwclose : Pure1 := fun
 | [.agg [.int .i64 hd, .int .i64 tl, .int .i64 md], .int .i64 m] => some (none, .agg [.int .i64 hd, .int .i64 tl, .int .i64 (closeM md m)])
 | _ => none
theorem vc_wclose (hd tl md m : Int) (r : AV) : VC Tryz.prog (tabS tab0) noL false 174 [.agg [.int .i64 hd, .int .i64 tl, .int .i64 md], .int .i64 m] r = (
 br (bite (ieq m 1) true (ieq m 2)) (some (AV.agg [AV.int .i64 hd, AV.int .i64 tl, AV.int .i64 (imax md m)]) = some r) (some (AV.agg [AV.int .i64 hd, AV.int .i64 tl, AV.int .i64 md])
 = some r)) := by kernel_rfl
theorem ok_wclose : PureOK Tryz.prog 174 Fwclose := by
 refine tab_plain mixed (l := tab0) ok_tab0 false (by kernel_rfl) fun xs b r h hb wf => ?_
 unfold Fwclose at h
 split at h
 ·rename_i hd tl md m
  cases h
  try rw [some_f] at hb
  try simp only [WFL, WF, List.mem_cons, List.not_mem_nil, or_false, forall_eq_or_imp, forall_eq, Col.len, and_true, true_and] at wf
  rw [vc_wclose]
  simp only [bite_and, bite_or]
  simp [owl, closeM]
  try grind
 ·cases h
def tabS1 : List (FuncId × Pure1) := [(42, FposPlace)]
theorem ok_tabS1 : ∀ p ∈ tabS1, PureOK Tryz.prog p.1 p.2 := by
 intro p hp
 simp only [tabS1, List.mem_cons, List.not_mem_nil, or_false] at hp
 rcases hp with rfl
 ·exact ok_posPlace
def spec_slotChk : LoopSpec := { n := 38, keep := [0, 5, 6, 7], srcs := [], keepE := [0, 2], srcsE := [], goes := fun vals objs Q => match vals, objs with
 | [.sl q qc, .sl n [.int .i64 s, .int .i64 v], .int .i64 m, .int .i64 i], [] => asrt (band (neq q n) (band (nle n big) (band (ieq m (ofN n)) (band (ile 0 i) (ile i (ofN n)))))) (br (stampsFrom s n i) (Q (.exit 0) [.sl q qc, .top] []) (Q .ret [.sl q qc, .bool false] []))
 | _, _ => False }
theorem lp_slotChk (q : Nat) (qc : List Col) (n : Nat) (s v : List Int) (m i : Int) (mu : List AV → Heap → Nat) (Q : Ex → List AV → Heap → Prop) : runCode Tryz.prog (tabS tabS1) (callN Tryz.prog (tabS tabS1) noL 11) (fun _ => none) (bodyOf Tryz.prog 64 0) 0 ⟨mkT (spec_slotChk).keep [.sl q qc, .sl n [.int .i64 s, .int .i64 v], .int .i64 m, .int .i64 i] (spec_slotChk).n 0, []⟩ ((spec_slotChk).ends mu [.sl q qc, .sl n [.int .i64 s, .int .i64 v], .int .i64 m, .int .i64 i] ([]) Q) = (
 br (ilt i m) (asrt (band (ile 0 i) (ilt i (ofN n))) (br (bite (bite (ilt (gI s (nOf i)) 0) true (igt (gI s (nOf i)) 2199023255552)) true (ine (placeOf (gI s (nOf i)) (ofN q)) i)) (Q
 Ex.ret [AV.sl q qc, AV.bool false] []) ((mu [AV.sl q qc, AV.sl n [.int .i64 s, .int .i64 v], AV.int .i64 m, AV.int .i64 (iadd .i64 i 1)] []).succ.le (mu [AV.sl q qc, AV.sl n [.int
 .i64 s, .int .i64 v], AV.int .i64 m, AV.int .i64 i] []) ∧ asrt (band (neq q n) (band (nle n big) (band (ieq m (ofN n)) (band (ile 0 (iadd .i64 i 1)) (ile (iadd .i64 i 1) (ofN
 n)))))) (br (stampsFrom s n (iadd .i64 i 1)) (Q (Ex.exit 0) [AV.sl q qc, AV.top] []) (Q Ex.ret [AV.sl q qc, AV.bool false] []))))) (Q (Ex.exit 0) [AV.sl q qc, AV.top] [])) := by kernel_rfl
theorem loop_slotChk : LoopOK Tryz.prog (bodyOf Tryz.prog 64 0) spec_slotChk.summ := by
 refine tab_loop mixed (l := tabS1) ok_tabS1 (i := 0) spec_slotChk (fun vals objs => match vals, objs with
  | [.sl q qc, .sl n [.int .i64 s, .int .i64 v], .int .i64 m, .int .i64 i], [] => (m - i).toNat
  | _, _ => 0) fun vals objs Q h1 h2 wf wo hg => ?_
 unfold spec_slotChk at hg
 simp only at hg
 split at hg
 ·rename_i q qc n s v m i
  clear h1 h2
  try simp only [WFL, WF, List.mem_cons, List.not_mem_nil, or_false, forall_eq_or_imp, forall_eq, Col.len, and_true, true_and] at wf
  rw [lp_slotChk]
  obtain ⟨_, w1, w2⟩ := wf
  simp only [bite_and, bite_or]
  simp only [asrt_iff, band_t, neq_t, nle_t, ieq_t, ile_t, ofN_e] at hg
  obtain ⟨⟨rfl, hb, rfl, h0, hn⟩, hg⟩ := hg
  obtain ⟨k, rfl⟩ := Int.eq_ofNat_of_zero_le h0
  have hb' : q ≤ 2 ^ 50 := by simpa [big] using hb
  have hw : IntKind.i64.wrap ((k : Int) + 1) = (k : Int) + 1 := wr (by simp at hn; omega) (by simp at hn; omega)
  simp at hn
  simp [owl, hw] at hg ⊢
  refine ⟨fun hk => ?_, fun hk => ?_⟩
  ·rw [stamps_lt (by omega)] at hg
   have hp : ∀ x : Int, 0 ≤ x → placeOf x q = x % q := fun x hx => by unfold placeOf; rw [if_pos (by omega)]
   refine ⟨hk, fun hx => ?_, fun hx hx2 hx3 => ?_⟩
   ·have hs : stampOk (s[k]?.getD 0) q k = false := by
     rw [← Bool.not_eq_true]
     intro hs
     simp [stampOk] at hs
     have := hp _ hs.1
     grind
    rw [hs] at hg
    simpa using hg
   ·have h3 := hp (s[k]?.getD 0) hx
    rw [h3] at hx3
    have hs : stampOk (s[k]?.getD 0) q k = true := by
     simp [stampOk]
     omega
    rw [hs] at hg
    exact ⟨by omega, ⟨hb, by omega, by omega⟩, by simpa using hg⟩
  ·rw [stamps_ge (by omega)] at hg
   simpa using hg
 ·exact hg.elim
def LslotChk : Nat → Option LoopS := fun i => match i with
 | 0 => some (.summ spec_slotChk.summ)
 | _ => none
theorem ok_LslotChk : ∀ i x, LslotChk i = some x → LoopHyp Tryz.prog 64 i x := by
 intro i s h
 unfold LslotChk at h
 split at h
 ·cases h; exact ⟨by kernel_rfl, loop_slotChk⟩
 ·cases h
def FslotChk : Pure1 := fun
 | [.sl n [.int .i64 s, .int .i64 v]] => some (some (nle n big), .bool (slotsOk n s))
 | _ => none
theorem vc_slotChk (n : Nat) (s v : List Int) (r : AV) : VC Tryz.prog (tabS tabS1) (oneL 64 LslotChk) false 64 [.sl n [.int .i64 s, .int .i64 v]] r = (
 asrt (band (neq n n) (band (nle n big) (band (ieq (ofN n) (ofN n)) (ile 0 (ofN n))))) (br (stampsFrom s n 0) (some (AV.bool (bite (ige (ofN n) 1) (ile (ofN n) 64) false)) = some r)
 (some (AV.bool false) = some r))) := by kernel_rfl
theorem ok_slotChk : PureOK Tryz.prog 64 FslotChk := by
 refine tab_loops mixed (l := tabS1) ok_tabS1 false LslotChk (by kernel_rfl) ok_LslotChk fun xs b r h hb wf => ?_
 unfold FslotChk at h
 split at h
 ·rename_i n s v
  cases h
  try rw [some_f] at hb
  try simp only [WFL, WF, List.mem_cons, List.not_mem_nil, or_false, forall_eq_or_imp, forall_eq, Col.len, and_true, true_and] at wf
  rw [vc_slotChk]
  simp only [bite_and, bite_or]
  simp [owl] at hb ⊢
  refine ⟨hb, fun h => ?_, fun h => ?_⟩
  ·rw [Bool.eq_iff_iff]; simp [owl, slotsOk, h]; omega
  ·simp [slotsOk, h]
 ·cases h
def FchkTh : Pure1 := fun
 | [.agg [.int .i64 st, .int .i64 kd, .int .i64 vl, .int .i64 un, .int .i64 pc, .int .i64 rg, .int .i64 sn, .int .i64 tr, .bool lt, .int .i64 rs, .int .i64 gt]] => some (none, .bool (bnot (thOk st kd un pc rg sn tr lt rs)))
 | _ => none
theorem vc_chkTh (st kd vl un pc rg sn tr : Int) (lt : Bool) (rs gt : Int) (r : AV) : VC Tryz.prog (tabS tabT4) noL false 61 [.agg [.int .i64 st, .int .i64 kd, .int .i64 vl, .int .i64 un, .int .i64 pc, .int .i64 rg, .int .i64 sn, .int .i64 tr, .bool lt, .int .i64 rs, .int .i64 gt]] r = (
some (AV.bool (bnot (thOk st kd un pc rg sn tr lt rs))) = some r) := by kernel_rfl
theorem ok_chkTh : PureOK Tryz.prog 61 FchkTh := by
 refine tab_plain mixed (l := tabT4) ok_tabT4 false (by kernel_rfl) fun xs b r h hb wf => ?_
 unfold FchkTh at h
 split at h
 ·rename_i st kd vl un pc rg sn tr lt rs gt
  cases h
  try rw [some_f] at hb
  try simp only [WFL, WF, List.mem_cons, List.not_mem_nil, or_false, forall_eq_or_imp, forall_eq, Col.len, and_true, true_and] at wf
  rw [vc_chkTh]
  all_goals (try simp [owl])
 ·cases h
def tabC1 : List (FuncId × Pure1) := [(61, FchkTh)]
theorem ok_tabC1 : ∀ p ∈ tabC1, PureOK Tryz.prog p.1 p.2 := by
 intro p hp
 simp only [tabC1, List.mem_cons, List.not_mem_nil, or_false] at hp
 rcases hp with rfl
 ·exact ok_chkTh
def spec_idxTh : LoopSpec := { n := 19, keep := [0, 1, 7, 8], srcs := [], keepE := [4], srcsE := [], goes := fun vals objs Q => match vals, objs with
 | [.sl n [.int .i64 st, .int .i64 kd, .int .i64 vl, .int .i64 un, .int .i64 pc, .int .i64 rg, .int .i64 sn, .int .i64 tr, .bool lt, .int .i64 rs, .int .i64 gt], .fn (.func 61) [] [], .int .i64 m, .int .i64 i], [] => asrt (band (nle n big) (band (ieq m (ofN n)) (band (ile 0 i) (ile i (ofN n))))) (br (ieq (badThAt n st kd un pc rg sn tr lt rs (nOf i)) (-1)) (Q (.exit 0) [.top] []) (Q .ret [.int .i64 (badThAt n st kd un pc rg sn tr lt rs (nOf i))] []))
 | _, _ => False }
def zq10 (st : List Int) (kd : List Int) (vl : List Int) (un : List Int) (pc : List Int) (rg : List Int) (sn : List Int) (tr : List Int) (lt : List Bool) (rs : List Int) (gt : List Int) : List Col :=
 [.int .i64 st, .int .i64 kd, .int .i64 vl, .int .i64 un, .int .i64 pc, .int .i64 rg, .int .i64 sn, .int .i64 tr, Col.bool lt, .int .i64 rs, .int .i64 gt]
theorem lp_idxTh (n : Nat) (st kd vl un pc rg sn tr : List Int) (lt : List Bool) (rs gt : List Int) (m i : Int) (mu : List AV → Heap → Nat) (Q : Ex → List AV → Heap → Prop) : runCode Tryz.prog (tabS tabC1) (callN Tryz.prog (tabS tabC1) noL 11) (fun _ => none) (bodyOf Tryz.prog 91 0) 0 ⟨mkT (spec_idxTh).keep [.sl n [.int .i64 st, .int .i64 kd, .int .i64 vl, .int .i64 un, .int .i64 pc, .int .i64 rg, .int .i64 sn, .int .i64 tr, .bool lt, .int .i64 rs, .int .i64 gt], .fn (.func 61) [] [], .int .i64 m, .int .i64 i] (spec_idxTh).n 0, []⟩ ((spec_idxTh).ends mu [.sl n [.int .i64 st, .int .i64 kd, .int .i64 vl, .int .i64 un, .int .i64 pc, .int .i64 rg, .int .i64 sn, .int .i64 tr, .bool lt, .int .i64 rs, .int .i64 gt], .fn (.func 61) [] [], .int .i64 m, .int .i64 i] ([]) Q) = (
 br (ilt i m) (asrt (band (ile 0 i) (ilt i (ofN n))) (br (bnot (thOk (gI st (nOf i)) (gI kd (nOf i)) (gI un (nOf i)) (gI pc (nOf i)) (gI rg (nOf i)) (gI sn (nOf i)) (gI tr (nOf i))
 (gB lt (nOf i)) (gI rs (nOf i)))) (Q Ex.ret [AV.int .i64 i] []) ((mu [AV.sl n (zq10 st kd vl un pc rg sn tr lt rs gt), AV.fn (Fn.func 61) [] [], AV.int .i64 m, AV.int .i64 (iadd
 .i64 i 1)] []).succ.le (mu [AV.sl n (zq10 st kd vl un pc rg sn tr lt rs gt), AV.fn (Fn.func 61) [] [], AV.int .i64 m, AV.int .i64 i] []) ∧ asrt (band (nle n big) (band (ieq m (ofN
 n)) (band (ile 0 (iadd .i64 i 1)) (ile (iadd .i64 i 1) (ofN n))))) (br (ieq (badThAt n st kd un pc rg sn tr lt rs (nOf (iadd .i64 i 1))) (-1)) (Q (Ex.exit 0) [AV.top] []) (Q Ex.ret
 [AV.int .i64 (badThAt n st kd un pc rg sn tr lt rs (nOf (iadd .i64 i 1)))] []))))) (Q (Ex.exit 0) [AV.top] [])) := by kernel_rfl
theorem loop_idxTh : LoopOK Tryz.prog (bodyOf Tryz.prog 91 0) spec_idxTh.summ := by
 refine tab_loop mixed (l := tabC1) ok_tabC1 (i := 0) spec_idxTh (fun vals objs => match vals, objs with
  | [.sl n [.int .i64 st, .int .i64 kd, .int .i64 vl, .int .i64 un, .int .i64 pc, .int .i64 rg, .int .i64 sn, .int .i64 tr, .bool lt, .int .i64 rs, .int .i64 gt], .fn (.func 61) [] [], .int .i64 m, .int .i64 i], [] => (m - i).toNat
  | _, _ => 0) fun vals objs Q h1 h2 wf wo hg => ?_
 unfold spec_idxTh at hg
 simp only at hg
 split at hg
 ·rename_i n st kd vl un pc rg sn tr lt rs gt m i
  clear h1 h2
  try simp only [WFL, WF, List.mem_cons, List.not_mem_nil, or_false, forall_eq_or_imp, forall_eq, Col.len, and_true, true_and] at wf
  rw [lp_idxTh]
  dsimp only [zq10]
  simp only [bite_and, bite_or]
  simp [owl] at hg ⊢
  obtain ⟨⟨hb, rfl, h0, hn⟩, hg⟩ := hg
  obtain ⟨k, rfl⟩ := Int.eq_ofNat_of_zero_le h0
  have hb' : n ≤ 2 ^ 50 := by simpa [big] using hb
  simp at hn hg ⊢
  refine ⟨fun hk => ?_, fun hk => ?_⟩
  ·rw [wr (by omega) (by omega)]
   rw [show ((k : Int) + 1).toNat = k + 1 by omega]
   rw [thAt_lt (by omega)] at hg
   refine ⟨hk, fun hx => ?_, fun hx => ?_⟩
   ·rw [if_pos (by simpa [badTh, List.getD_eq_getElem?_getD] using hx)] at hg
    exact hg.2 (by omega)
   ·rw [if_neg (by simpa [badTh, List.getD_eq_getElem?_getD] using hx)] at hg
    exact ⟨by omega, ⟨hb, by omega, by omega⟩, hg⟩
  ·rw [thAt_ge (by omega)] at hg
   exact hg.1 rfl
 ·exact hg.elim
def LidxTh : Nat → Option LoopS := fun i => match i with
 | 0 => some (.summ spec_idxTh.summ)
 | _ => none
theorem ok_LidxTh : ∀ i x, LidxTh i = some x → LoopHyp Tryz.prog 91 i x := by
 intro i s h
 unfold LidxTh at h
 split at h
 ·cases h; exact ⟨by kernel_rfl, loop_idxTh⟩
 ·cases h
def FidxTh : Pure1 := fun
 | [.sl n [.int .i64 st, .int .i64 kd, .int .i64 vl, .int .i64 un, .int .i64 pc, .int .i64 rg, .int .i64 sn, .int .i64 tr, .bool lt, .int .i64 rs, .int .i64 gt], .fn (.func 61) [] []] => some (some (nle n big), .int .i64 (badThAt n st kd un pc rg sn tr lt rs 0))
 | _ => none
theorem vc_idxTh (n : Nat) (st kd vl un pc rg sn tr : List Int) (lt : List Bool) (rs gt : List Int) (r : AV) : VC Tryz.prog (tabS tabC1) (oneL 91 LidxTh) false 91 [.sl n [.int .i64 st, .int .i64 kd, .int .i64 vl, .int .i64 un, .int .i64 pc, .int .i64 rg, .int .i64 sn, .int .i64 tr, .bool lt, .int .i64 rs, .int .i64 gt], .fn (.func 61) [] []] r = (
 asrt (band (nle n big) (band (ieq (ofN n) (ofN n)) (ile 0 (ofN n)))) (br (ieq (badThAt n st kd un pc rg sn tr lt rs 0) (-1)) (some (AV.int .i64 (-1)) = some r) (some (AV.int .i64
 (badThAt n st kd un pc rg sn tr lt rs 0)) = some r))) := by kernel_rfl
theorem ok_idxTh : PureOK Tryz.prog 91 FidxTh := by
 refine tab_loops mixed (l := tabC1) ok_tabC1 false LidxTh (by kernel_rfl) ok_LidxTh fun xs b r h hb wf => ?_
 unfold FidxTh at h
 split at h
 ·rename_i n st kd vl un pc rg sn tr lt rs gt
  cases h
  try rw [some_f] at hb
  try simp only [WFL, WF, List.mem_cons, List.not_mem_nil, or_false, forall_eq_or_imp, forall_eq, Col.len, and_true, true_and] at wf
  rw [vc_idxTh]
  simp [owl] at hb ⊢
  grind
 ·cases h
def spec_idxAm : LoopSpec := { n := 19, keep := [0, 1, 7, 8], srcs := [], keepE := [4], srcsE := [], goes := fun vals objs Q => match vals, objs with
 | [.sl n [.int .i64 l], .fn (.func 88) [] [.ip [.int .i64 th]], .int .i64 m, .int .i64 i], [] => asrt (band (nle n big) (band (ieq m (ofN n)) (band (ile 0 i) (ile i (ofN n))))) (br (ieq (amBadAt th l (nOf i)) (-1)) (Q (.exit 0) [.top] []) (Q .ret [.int .i64 (amBadAt th l (nOf i))] []))
 | _, _ => False }
theorem lp_idxAm (n : Nat) (l : List Int) (th m i : Int) (mu : List AV → Heap → Nat) (Q : Ex → List AV → Heap → Prop) : runCode Tryz.prog (tabS tab0) (callN Tryz.prog (tabS tab0) noL 11) (fun _ => none) (bodyOf Tryz.prog 109 0) 0 ⟨mkT (spec_idxAm).keep [.sl n [.int .i64 l], .fn (.func 88) [] [.ip [.int .i64 th]], .int .i64 m, .int .i64 i] (spec_idxAm).n 0, []⟩ ((spec_idxAm).ends mu [.sl n [.int .i64 l], .fn (.func 88) [] [.ip [.int .i64 th]], .int .i64 m, .int .i64 i] ([]) Q) = (
 br (ilt i m) (asrt (band (ile 0 i) (ilt i (ofN n))) (br (bite (ilt (gI l (nOf i)) 0) true (ige (gI l (nOf i)) th)) (Q Ex.ret [AV.int .i64 i] []) ((mu [AV.sl n [.int .i64 l], AV.fn
 (Fn.func 88) [] [AV.ip [AV.int .i64 th]], AV.int .i64 m, AV.int .i64 (iadd .i64 i 1)] []).succ.le (mu [AV.sl n [.int .i64 l], AV.fn (Fn.func 88) [] [AV.ip [AV.int .i64 th]], AV.int
 .i64 m, AV.int .i64 i] []) ∧ asrt (band (nle n big) (band (ieq m (ofN n)) (band (ile 0 (iadd .i64 i 1)) (ile (iadd .i64 i 1) (ofN n))))) (br (ieq (amBadAt th l (nOf (iadd .i64 i
 1))) (-1)) (Q (Ex.exit 0) [AV.top] []) (Q Ex.ret [AV.int .i64 (amBadAt th l (nOf (iadd .i64 i 1)))] []))))) (Q (Ex.exit 0) [AV.top] [])) := by kernel_rfl
theorem loop_idxAm : LoopOK Tryz.prog (bodyOf Tryz.prog 109 0) spec_idxAm.summ := by
 refine tab_loop mixed (l := tab0) ok_tab0 (i := 0) spec_idxAm (fun vals objs => match vals, objs with
  | [.sl n [.int .i64 l], .fn (.func 88) [] [.ip [.int .i64 th]], .int .i64 m, .int .i64 i], [] => (m - i).toNat
  | _, _ => 0) fun vals objs Q h1 h2 wf wo hg => ?_
 unfold spec_idxAm at hg
 simp only at hg
 split at hg
 ·rename_i n l th m i
  clear h1 h2
  try simp only [WFL, WF, List.mem_cons, List.not_mem_nil, or_false, forall_eq_or_imp, forall_eq, Col.len, and_true, true_and] at wf
  rw [lp_idxAm]
  have hl : l.length = n := wf
  simp only [bite_and, bite_or]
  simp [owl] at hg ⊢
  obtain ⟨⟨hb, rfl, h0, hn⟩, hg⟩ := hg
  obtain ⟨k, rfl⟩ := Int.eq_ofNat_of_zero_le h0
  have hb' : n ≤ 2 ^ 50 := by simpa [big] using hb
  simp at hn hg ⊢
  refine ⟨fun hk => ?_, fun hk => ?_⟩
  ·rw [wr (by omega) (by omega)]
   rw [show ((k : Int) + 1).toNat = k + 1 by omega]
   rw [amAt_lt (by omega)] at hg
   refine ⟨hk, fun hx => ?_, fun hx hx2 => ?_⟩
   ·rw [if_pos (by simp [amBad]; omega)] at hg
    exact hg.2 (by omega)
   ·rw [if_neg (by simp [amBad]; omega)] at hg
    exact ⟨by omega, ⟨hb, by omega, by omega⟩, hg⟩
  ·rw [amAt_ge (by omega)] at hg
   exact hg.1 rfl
 ·exact hg.elim
def LidxAm : Nat → Option LoopS := fun i => match i with
 | 0 => some (.summ spec_idxAm.summ)
 | _ => none
theorem ok_LidxAm : ∀ i x, LidxAm i = some x → LoopHyp Tryz.prog 109 i x := by
 intro i s h
 unfold LidxAm at h
 split at h
 ·cases h; exact ⟨by kernel_rfl, loop_idxAm⟩
 ·cases h
def FidxAm : Pure1 := fun
 | [.sl n [.int .i64 l], .fn (.func 88) [] [.ip [.int .i64 th]]] => some (some (nle n big), .int .i64 (amBadAt th l 0))
 | _ => none
theorem vc_idxAm (n : Nat) (l : List Int) (th : Int) (r : AV) : VC Tryz.prog (tabS tab0) (oneL 109 LidxAm) false 109 [.sl n [.int .i64 l], .fn (.func 88) [] [.ip [.int .i64 th]]] r = (
 asrt (band (nle n big) (band (ieq (ofN n) (ofN n)) (ile 0 (ofN n)))) (br (ieq (amBadAt th l 0) (-1)) (some (AV.int .i64 (-1)) = some r) (some (AV.int .i64 (amBadAt th l 0)) = some
 r))) := by kernel_rfl
theorem ok_idxAm : PureOK Tryz.prog 109 FidxAm := by
 refine tab_loops mixed (l := tab0) ok_tab0 false LidxAm (by kernel_rfl) ok_LidxAm fun xs b r h hb wf => ?_
 unfold FidxAm at h
 split at h
 ·rename_i n l th
  cases h
  try rw [some_f] at hb
  try simp only [WFL, WF, List.mem_cons, List.not_mem_nil, or_false, forall_eq_or_imp, forall_eq, Col.len, and_true, true_and] at wf
  rw [vc_idxAm]
  simp [owl] at hb ⊢
  grind
 ·cases h
theorem nodup_le (N : Nat) : ∀ l : List Int, l.Nodup → (∀ x ∈ l, 0 ≤ x ∧ x < (N : Int)) → l.length ≤ N := by
 induction N with
 | zero =>
  intro l _ h
  cases l with
  | nil => simp
  | cons x l => have := h x (by simp); omega
 | succ N ih =>
  intro l hn h
  have h2 := ih (l.erase (N : Int)) (hn.erase _) (fun x hx => by
   have h3 := (hn.mem_erase_iff).1 hx
   have h4 := h x h3.2
   have h5 := h3.1
   omega)
  by_cases hm : (N : Int) ∈ l
  ·rw [List.length_erase_of_mem hm] at h2
   omega
  ·rw [List.erase_of_not_mem hm] at h2
   omega
theorem unl_ge : ∀ (l out : List Int), out.length ≤ (unl out l).length := by
 intro l
 induction l with
 | nil => intro out; simp [unl]
 | cons x l ih =>
  intro out
  unfold unl
  split
  ·exact ih out
  ·have := ih (out ++ [x])
   simp at this
   omega
theorem unl_in : ∀ (l out : List Int), out.Nodup → (unl out l).Nodup ∧ ∀ x ∈ unl out l, x ∈ out ∨ x ∈ l := by
 intro l
 induction l with
 | nil => intro out h; simp [unl, h]
 | cons x l ih =>
  intro out h
  unfold unl
  split
  ·obtain ⟨h1, h2⟩ := ih out h
   exact ⟨h1, fun y hy => (h2 y hy).imp id (fun h => by simp [h])⟩
  ·rename_i hc
   have hx : x ∉ out := by simpa using hc
   obtain ⟨h1, h2⟩ := ih (out ++ [x]) (by
    rw [List.nodup_append]
    refine ⟨h, by simp, ?_⟩
    intro a ha b hb
    simp at hb
    subst hb
    rintro rfl
    exact hx ha)
   refine ⟨h1, fun y hy => ?_⟩
   rcases h2 y hy with h3 | h3
   ·simp at h3
    rcases h3 with h3 | h3
    ·exact .inl h3
    ·exact .inr (by simp [h3])
   ·exact .inr (by simp [h3])
theorem unl_small {l : List Int} (h : badAt l 0 < 0) : (unl [] l).length ≤ 16 := by
 obtain ⟨h1, h2⟩ := unl_in l [] (by simp)
 have h3 := (badAt_ok l).1 h
 refine nodup_le 16 _ h1 (fun x hx => ?_)
 rcases h2 x hx with h4 | h4
 ·simp at h4
 ·have := h3 x h4
  omega
theorem le_bigW {n : Nat} (h : n ≤ 17592186044416) : n ≤ big := by unfold big; omega
def FcloneW : Pure1 := fun
 | [.sl n [.int .i64 l]] => some (some (nle n 17592186044416), .own 3 n [.int .i64 l])
 | _ => none
theorem vc_cloneW (n : Nat) (l : List Int) (r : AV) : VC Tryz.prog (tabS tab0) noL true 69 [.sl n [.int .i64 l]] r = (
 ∀ (b : Bool), (b = true → n = 0) → br b (some (AV.own 3 0 [.int .i64 []]) = some r) (asrt (nle (nAdd 0 n) 17592186044416) (some (AV.own 3 (nAdd 0 n) [.int .i64 (cat [] l)]) = some
 r))) := by kernel_rfl
theorem ok_cloneW : PureOK Tryz.prog 69 FcloneW := by
 refine tab_plain mixed (l := tab0) ok_tab0 true (by kernel_rfl) fun xs b r h hb wf => ?_
 unfold FcloneW at h
 split at h
 ·rename_i n l
  cases h
  try rw [some_f] at hb
  try simp only [WFL, WF, List.mem_cons, List.not_mem_nil, or_false, forall_eq_or_imp, forall_eq, Col.len, and_true, true_and] at wf
  rw [vc_cloneW]
  simp [owl] at hb ⊢
  grind
 ·cases h
def spec_unlW : LoopSpec := { n := 21, keep := [5, 6, 7, 2], srcs := [.tmp 2], keepE := [2], srcsE := [.tmp 2], goes := fun vals objs Q => match vals, objs with
 | [.sl n [.int .i64 l], .int .i64 m, .int .i64 i, .full 0], [some (.row 3 k [.int .i64 out])] => asrt (band (nle n big) (band (nle (lenI (unlFrom out l i)) room) (band (ieq m (ofN n)) (band (ile 0 i) (ile i (ofN n)))))) (Q (.exit 0) [.full 0] [some (.row 3 (lenI (unlFrom out l i)) [.int .i64 (unlFrom out l i)])])
 | _, _ => False }
def zq11 (i : Int) : Int :=
 iadd .i64 i 1
def zq12 (k : Nat) (out : List Int) : Heap :=
 [some (AObj.row 3 k [.int .i64 out])]
def zq13 (n : Nat) (l : List Int) (m : Int) (i : Int) : List AV :=
 [AV.sl n [.int .i64 l], AV.int .i64 m, AV.int .i64 (zq11 i), AV.full 0]
def zq14 (n : Nat) (l : List Int) (m : Int) (i : Int) : List AV :=
 [AV.sl n [.int .i64 l], AV.int .i64 m, AV.int .i64 i, AV.full 0]
theorem lp_unlW (n : Nat) (l : List Int) (m i : Int) (k : Nat) (out : List Int) (mu : List AV → Heap → Nat) (Q : Ex → List AV → Heap → Prop) : runCode Tryz.prog (tabS tab3) (callN Tryz.prog (tabS tab3) noL 11) (fun _ => none) (bodyOf Tryz.prog 108 0) 0 ⟨mkT (spec_unlW).keep [.sl n [.int .i64 l], .int .i64 m, .int .i64 i, .full 0] (spec_unlW).n 0, [some (.row 3 k [.int .i64 out])]⟩ ((spec_unlW).ends mu [.sl n [.int .i64 l], .int .i64 m, .int .i64 i, .full 0] ([some (.row 3 k [.int .i64 out])]) Q) = (
 br (ilt i m) (asrt (band (ile 0 i) (ilt i (ofN n))) (asrt (nle k big) (br (bnot (hasI out (gI l (nOf i)))) (asrt (nle (nAdd k 1) 17592186044416) ((mu (zq13 n l m i) [some (AObj.row
 3 (nAdd k 1) [.int .i64 (cat out [gI l (nOf i)])])]).succ.le (mu (zq14 n l m i) (zq12 k out)) ∧ asrt (band (nle n big) (band (nle (lenI (unlFrom (cat out [gI l (nOf i)]) l (zq11
 i))) 1073741824) (band (ieq m (ofN n)) (band (ile 0 (zq11 i)) (ile (zq11 i) (ofN n)))))) (Q (Ex.exit 0) [AV.full 0] [some (AObj.row 3 (lenI (unlFrom (cat out [gI l (nOf i)]) l (zq11
 i))) [.int .i64 (unlFrom (cat out [gI l (nOf i)]) l (zq11 i))])]))) ((mu (zq13 n l m i) (zq12 k out)).succ.le (mu (zq14 n l m i) (zq12 k out)) ∧ asrt (band (nle n big) (band (nle
 (lenI (unlFrom out l (zq11 i))) 1073741824) (band (ieq m (ofN n)) (band (ile 0 (zq11 i)) (ile (zq11 i) (ofN n)))))) (Q (Ex.exit 0) [AV.full 0] [some (AObj.row 3 (lenI (unlFrom out l
 (zq11 i))) [.int .i64 (unlFrom out l (zq11 i))])]))))) (Q (Ex.exit 0) [AV.full 0] (zq12 k out))) := by kernel_rfl
theorem loop_unlW : LoopOK Tryz.prog (bodyOf Tryz.prog 108 0) spec_unlW.summ := by
 refine tab_loop mixed (l := tab3) ok_tab3 (i := 0) spec_unlW (fun vals objs => match vals, objs with
  | [.sl n [.int .i64 l], .int .i64 m, .int .i64 i, .full 0], [some (.row 3 k [.int .i64 out])] => (m - i).toNat
  | _, _ => 0) fun vals objs Q h1 h2 wf wo hg => ?_
 unfold spec_unlW at hg
 simp only at hg
 split at hg
 ·rename_i n l m i k out
  clear h1 h2
  try simp only [WFL, WF, List.mem_cons, List.not_mem_nil, or_false, forall_eq_or_imp, forall_eq, Col.len, and_true, true_and] at wf
  rw [lp_unlW]
  dsimp only [zq11, zq12, zq13, zq14]
  have hl : l.length = n := wf
  have hk : out.length = k := by simpa [WFH, WFO, Col.len] using wo
  simp [owl] at hg ⊢
  obtain ⟨⟨hb, hr, rfl, h0, hn⟩, hg⟩ := hg
  obtain ⟨i, rfl⟩ := Int.eq_ofNat_of_zero_le h0
  have hb' : n ≤ 2 ^ 50 := by simpa [big] using hb
  have hge := unl_ge (l.drop (i : Int).toNat) out
  have hge' : out.length ≤ 1073741824 := Nat.le_trans hge hr
  simp at hn hg ⊢
  refine ⟨fun hlt => ?_, fun hge => ?_⟩
  ·have hd : l.drop i = l[i]'(by omega) :: l.drop (i + 1) := List.drop_eq_getElem_cons (by omega)
   have hx : l[i]?.getD 0 = l[i]'(by omega) := by simp [show i < l.length by omega]
   simp only [hx, hasI]
   rw [wr (by omega) (by omega)]
   have e1 : ((i : Int) + 1).toNat = i + 1 := by omega
   have hu : unlFrom out l i = if out.contains (l[i]'(by omega)) then unlFrom out l (i + 1 : Int) else unlFrom (out ++ [l[i]'(by omega)]) l (i + 1 : Int) := by
    simp only [unlFrom, e1]
    rw [show (i : Int).toNat = i by omega, hd, unl]
   refine ⟨hlt, le_big (by omega), fun hc => ?_, fun hc => ?_⟩
   ·have hc' : out.contains (l[i]'(by omega)) = false := by simpa using hc
    rw [hc'] at hu
    simp only [Bool.false_eq_true, if_false] at hu
    rw [hu] at hg hr
    have hg2 := unl_ge (l.drop ((i : Int) + 1).toNat) (out ++ [l[i]'(by omega)])
    have hg3 : (out ++ [l[i]'(by omega)]).length ≤ 1073741824 := Nat.le_trans hg2 hr
    simp at hg3
    refine ⟨by omega, by omega, ⟨hb, by simpa using hr, by omega, by omega⟩, ?_⟩
    simpa using hg
   ·have hc' : out.contains (l[i]'(by omega)) = true := by simpa using hc
    rw [hc'] at hu
    simp only [if_true] at hu
    rw [hu] at hg hr
    refine ⟨by omega, ⟨hb, hr, by omega, by omega⟩, ?_⟩
    simpa using hg
  ·have hd : unlFrom out l i = out := by
    unfold unlFrom
    rw [List.drop_eq_nil_of_le (by omega)]
    rfl
   rw [hd, hk] at hg
   exact hg
 ·exact hg.elim
def LunlW : Nat → Option LoopS := fun i => match i with
 | 0 => some (.summ spec_unlW.summ)
 | _ => none
theorem ok_LunlW : ∀ i x, LunlW i = some x → LoopHyp Tryz.prog 108 i x := by
 intro i s h
 unfold LunlW at h
 split at h
 ·cases h; exact ⟨by kernel_rfl, loop_unlW⟩
 ·cases h
def FunlW : Pure1 := fun
 | [.sl n [.int .i64 l]] => some (some (band (nle n big) (nle (lenI (unl [] l)) room)), .own 3 (lenI (unl [] l)) [.int .i64 (unl [] l)])
 | _ => none
theorem vc_unlW (n : Nat) (l : List Int) (r : AV) : VC Tryz.prog (tabS tab3) (oneL 108 LunlW) true 108 [.sl n [.int .i64 l]] r = (
 asrt (band (nle n big) (band (nle (lenI (unlFrom [] l 0)) 1073741824) (band (ieq (ofN n) (ofN n)) (ile 0 (ofN n))))) (some (AV.own 3 (lenI (unlFrom [] l 0)) [.int .i64 (unlFrom [] l
 0)]) = some r)) := by kernel_rfl
theorem ok_unlW : PureOK Tryz.prog 108 FunlW := by
 refine tab_loops mixed (l := tab3) ok_tab3 true LunlW (by kernel_rfl) ok_LunlW fun xs b r h hb wf => ?_
 unfold FunlW at h
 split at h
 ·rename_i n l
  cases h
  try rw [some_f] at hb
  try simp only [WFL, WF, List.mem_cons, List.not_mem_nil, or_false, forall_eq_or_imp, forall_eq, Col.len, and_true, true_and] at wf
  rw [vc_unlW]
  simp [owl, unlFrom] at hb ⊢
  grind
 ·cases h
def tab4W : List (FuncId × Pure1) := [(108, FunlW)] ++ tab3
theorem ok_tab4W : ∀ p ∈ tab4W, PureOK Tryz.prog p.1 p.2 := by
 intro p hp
 simp only [tab4W, List.mem_append, List.mem_cons, List.not_mem_nil, or_false] at hp
 rcases hp with (rfl) | hp
 ·exact ok_unlW
 ·exact ok_tab3 p hp
def FcheckW : Pure1 := fun
 | [.sl n [.int .i64 l]] => some (some (nle n big), .bool (lineOk l))
 | _ => none
theorem vc_checkW (n : Nat) (l : List Int) (r : AV) : VC Tryz.prog (tabS tab4W) noL false 89 [.sl n [.int .i64 l]] r = (
 asrt (nle n big) (br (bnot (ige (badAt l 0) 0)) (asrt (band (nle n big) (nle (lenI (unl [] l)) 1073741824)) (some (AV.bool (ieq (ofN (lenI (unl [] l))) (ofN n))) = some r)) (some
 (AV.bool false) = some r))) := by kernel_rfl
theorem ok_checkW : PureOK Tryz.prog 89 FcheckW := by
 refine tab_plain mixed (l := tab4W) ok_tab4W false (by kernel_rfl) fun xs b r h hb wf => ?_
 unfold FcheckW at h
 split at h
 ·rename_i n l
  cases h
  try rw [some_f] at hb
  try simp only [WFL, WF, List.mem_cons, List.not_mem_nil, or_false, forall_eq_or_imp, forall_eq, Col.len, and_true, true_and] at wf
  rw [vc_checkW]
  have hs := @unl_small l
  simp [owl] at hb ⊢
  grind [lineOk, ieq, ine, ilt, ile, igt, ige, nlt, nle, neq, beq2, bnot, band, bite, bimp, le_big]
 ·cases h
def tabEW : List (FuncId × Pure1) := [(89, FcheckW)]
theorem ok_tabEW : ∀ p ∈ tabEW, PureOK Tryz.prog p.1 p.2 := by
 intro p hp
 simp only [tabEW, List.mem_cons, List.not_mem_nil, or_false] at hp
 rcases hp with rfl
 ·exact ok_checkW
def FevCheckW : Pure1 := fun
 | [.agg [.int .i64 ep, .sl n [.int .i64 l]]] => some (some (nle n big), .bool (evOk ep l))
 | _ => none
theorem vc_evCheckW (ep : Int) (n : Nat) (l : List Int) (r : AV) : VC Tryz.prog (tabS tabEW) noL false 66 [.agg [.int .i64 ep, .sl n [.int .i64 l]]] r = (
 asrt (bimp (bite (ige ep 0) (ile ep 1099511627776) false) (nle n big)) (some (AV.bool (bite (bite (ige ep 0) (ile ep 1099511627776) false) (lineOk l) false)) = some r)) := by kernel_rfl
theorem ok_evCheckW : PureOK Tryz.prog 66 FevCheckW := by
 refine tab_plain mixed (l := tabEW) ok_tabEW false (by kernel_rfl) fun xs b r h hb wf => ?_
 unfold FevCheckW at h
 split at h
 ·rename_i ep n l
  cases h
  try rw [some_f] at hb
  try simp only [WFL, WF, List.mem_cons, List.not_mem_nil, or_false, forall_eq_or_imp, forall_eq, Col.len, and_true, true_and] at wf
  rw [vc_evCheckW]
  simp [owl] at hb ⊢
  grind [evOk, ieq, ine, ilt, ile, igt, ige, nlt, nle, neq, beq2, bnot, band, bite, bimp, le_big]
 ·cases h
end Go.Own
end
section
namespace Go.Own
open Go Go.Proofs Go.RowKit
set_option maxRecDepth 100000
set_option linter.unusedSectionVars false
set_option maxHeartbeats 1000000
def regOps : Code → Array Oper
 | .seq _ (.region _ ops _) => ops
 | _ => #[]
noncomputable def bops : Array Oper := match Tryz.f48.body with
 | some c => regOps c
 | none => #[]
abbrev AnyB (n : Nat) (Q : Exit → Act → World → Prop) := wpAnyIn Fence.wide n Tryz.prog .any bops Q
section
variable {n fuel : Nat} {Q : Exit → Act → World → Prop} {listed : Array Bool} {tm : Array Value} {w : World} {v : Value} {k : Nat}
noncomputable def opB (k : Nat) : Oper := bops.getD k default
noncomputable def freeB (listed : Array Bool) (k : Nat) : Bool := decide (k < bops.size) && Region.free .any bops listed k && (Region.ready .any bops listed).contains k && (match (opB k).dst with | some d => d == k + 4 | none => false)
noncomputable def onlyB (listed : Array Bool) (k : Nat) : Bool := decide (k < bops.size) && (match (opB k).dst with | some d => d == k + 4 | none => false) && (match Region.ready .any bops listed with | [j] => j == k | _ => false)
theorem noSel : Region.noSelect bops = true := by kernel_rfl
theorem opB_at {k : Nat} (h : k < bops.size) : bops[k]? = some (opB k) := by
 unfold opB
 rw [Array.getD_eq_getD_getElem?, Array.getElem?_eq_getElem h]
 rfl
theorem dst_of {k : Nat} (h : (match (opB k).dst with | some d => d == k + 4 | none => false) = true) : (opB k).dst = some (k + 4) := by
 split at h
 ·rename_i d hd; rw [hd]; simpa using h
 ·cases h
theorem takeW (h1 : freeB listed k = true) (h2 : Region.wanted (opB k) (yielded bops tm) = true) (h3 : ∀ w, (execOp (Act.eval ⟨tm, []⟩) (opB k)).run Tryz.prog w = .ok (.value v) w) (h4 : ∀ w, (opB k).about Tryz.prog w (Act.eval ⟨tm, []⟩) = none)
  (hQ : ∀ c a w, Q (.panic c) (a.put (some (k + 4)) v) w → Q (.panic c) a w)
  (h : AnyB n Q fuel (listed.setIfInBounds k true) ⟨tm.setIfInBounds (k + 4) v, []⟩ w) : AnyB n Q (fuel + 1) listed ⟨tm, []⟩ w := by
 unfold freeB at h1
 simp only [Bool.and_eq_true, decide_eq_true_eq] at h1
 obtain ⟨⟨⟨a1, a2⟩, a3⟩, a4⟩ := h1
 have a5 := dst_of a4
 refine wpAnyIn_take (i := k) rfl (opB_at a1) noSel a2 a3 (v := v) ?_ ⟨.inl ⟨h2, h3⟩, h4⟩ ?_
 ·rw [a5]; exact hQ
 ·rw [a5]; exact h
theorem takeS (h1 : freeB listed k = true) (h2 : Region.wanted (opB k) (yielded bops tm) = false) (h4 : ∀ w, (opB k).about Tryz.prog w (Act.eval ⟨tm, []⟩) = none)
  (hQ : ∀ c a w, Q (.panic c) (a.put (some (k + 4)) undef) w → Q (.panic c) a w)
  (h : AnyB n Q fuel (listed.setIfInBounds k true) ⟨tm.setIfInBounds (k + 4) undef, []⟩ w) : AnyB n Q (fuel + 1) listed ⟨tm, []⟩ w := by
 unfold freeB at h1
 simp only [Bool.and_eq_true, decide_eq_true_eq] at h1
 obtain ⟨⟨⟨a1, a2⟩, a3⟩, a4⟩ := h1
 have a5 := dst_of a4
 refine wpAnyIn_take (i := k) rfl (opB_at a1) noSel a2 a3 (v := undef) ?_ ⟨.inr ⟨h2, rfl⟩, h4⟩ ?_
 ·rw [a5]; exact hQ
 ·rw [a5]; exact h
theorem only_spec (h : onlyB listed k = true) : k < bops.size ∧ (opB k).dst = some (k + 4) ∧ Region.ready .any bops listed = [k] := by
 unfold onlyB at h
 simp only [Bool.and_eq_true, decide_eq_true_eq] at h
 obtain ⟨⟨a1, a2⟩, a3⟩ := h
 refine ⟨a1, dst_of a2, ?_⟩
 split at a3
 ·rename_i j hj; rw [hj]; simpa using a3
 ·cases a3
theorem readyS (h1 : onlyB listed k = true) (h2 : Region.wanted (opB k) (yielded bops tm) = false)
  (h : AnyB n Q fuel (listed.setIfInBounds k true) ⟨tm.setIfInBounds (k + 4) undef, []⟩ w) : AnyB n Q (fuel + 1) listed ⟨tm, []⟩ w := by
 obtain ⟨a1, a2, a3⟩ := only_spec h1
 refine wpAnyIn_all a3 (by simp) (fun i hi => ?_)
 obtain rfl := List.mem_singleton.1 hi
 unfold wpOpIn
 rw [opB_at a1]
 simp only [h2, Bool.false_eq_true, if_false]
 refine ⟨fun _ _ => trivial, ?_⟩
 rw [a2]; exact h
theorem opW (h0 : k < bops.size ∧ (opB k).dst = some (k + 4)) (h2 : Region.wanted (opB k) (yielded bops tm) = true) {K : Act → World → Prop}
  (h : (opB k).uponIn Fence.wide n Tryz.prog ⟨tm, []⟩ K Q ((execOp (Act.eval ⟨tm, []⟩) (opB k)).run Tryz.prog w)) : wpOpIn Fence.wide n Tryz.prog bops Q k K ⟨tm, []⟩ w := by
 unfold wpOpIn
 rw [opB_at h0.1]
 simp only [h2, if_true]
 exact ⟨fun _ _ => trivial, h⟩
theorem canon {listed' : Array Bool} {tm' : Array Value} (h1 : listed = listed') (h2 : tm = tm') (h : AnyB n Q fuel listed' ⟨tm', []⟩ w) : AnyB n Q fuel listed ⟨tm, []⟩ w := by
 subst h1; subst h2; exact h
noncomputable def haveB (k : Nat) : Bool := decide (k < bops.size) && (match (opB k).dst with | some d => d == k + 4 | none => false)
theorem have_spec (h : haveB k = true) : k < bops.size ∧ (opB k).dst = some (k + 4) := by
 unfold haveB at h
 simp only [Bool.and_eq_true, decide_eq_true_eq] at h
 exact ⟨h.1, dst_of h.2⟩
theorem wayV {K : Act → World → Prop} (h0 : haveB k = true) (h2 : Region.wanted (opB k) (yielded bops tm) = true) (h3 : (execOp (Act.eval ⟨tm, []⟩) (opB k)).run Tryz.prog w = .ok (.value v) w)
  (h : K ⟨tm.setIfInBounds (k + 4) v, []⟩ w) : wpOpIn Fence.wide n Tryz.prog bops Q k K ⟨tm, []⟩ w := by
 refine opW (have_spec h0) h2 ?_
 rw [h3, Oper.uponIn_value, (have_spec h0).2]
 exact h
theorem wayC {K : Act → World → Prop} {f : FuncId} {args : Array Value} {R : Value → World → Prop} (h0 : haveB k = true) (h2 : Region.wanted (opB k) (yielded bops tm) = true) (h3 : (execOp (Act.eval ⟨tm, []⟩) (opB k)).run Tryz.prog w = .ok (.enter f args) w)
  (hc : ∀ m, CallsIn Fence.wide m Tryz.prog f args w fun e w' => ∃ v, e = .returned v ∧ R v w') (h : ∀ v w', R v w' → K ⟨tm.setIfInBounds (k + 4) v, []⟩ w') : wpOpIn Fence.wide n Tryz.prog bops Q k K ⟨tm, []⟩ w := by
 refine opW (have_spec h0) h2 ?_
 rw [h3, Oper.uponIn_enter]
 refine ⟨fun h => (by cases h), (hc _).mono ?_⟩
 rintro e w' ⟨v, rfl, hr⟩
 show K (Act.put ⟨tm, []⟩ (opB k).dst v) w'
 rw [(have_spec h0).2]
 exact h v w' hr
theorem wayY {K : Act → World → Prop} {f : FuncId} {l : Nat} {tmps : Array Value} {assign body : Code} {R : Bool → World → Prop} (h0 : haveB k = true) (h2 : Region.wanted (opB k) (yielded bops tm) = true) (h3 : (execOp (Act.eval ⟨tm, []⟩) (opB k)).run Tryz.prog w = .ok (.round l f tmps assign body) w)
  (hc : ∀ m, RoundIn Fence.wide m Tryz.prog l f tmps assign body w fun e w' => ∃ b, e = .returned (.bool b) ∧ R b w') (h : ∀ b w', R b w' → K ⟨tm.setIfInBounds (k + 4) (.bool b), []⟩ w') : wpOpIn Fence.wide n Tryz.prog bops Q k K ⟨tm, []⟩ w := by
 refine opW (have_spec h0) h2 ?_
 rw [h3, Oper.uponIn_round]
 refine ⟨fun h => (by cases h), (hc _).mono ?_⟩
 rintro e w' ⟨b, rfl, hr⟩
 show K (Act.put ⟨tm, []⟩ (opB k).dst (.bool b)) w'
 rw [(have_spec h0).2]
 exact h b w' hr
theorem only (h1 : onlyB listed k = true) (h : wpOpIn Fence.wide n Tryz.prog bops Q k (AnyB n Q fuel (listed.setIfInBounds k true)) ⟨tm, []⟩ w) : AnyB n Q (fuel + 1) listed ⟨tm, []⟩ w := by
 obtain ⟨a1, a2, a3⟩ := only_spec h1
 refine wpAnyIn_all a3 (by simp) (fun i hi => ?_)
 obtain rfl := List.mem_singleton.1 hi
 exact h
theorem two {i j : Nat} (h1 : Region.ready .any bops listed = [i, j]) (hi : wpOpIn Fence.wide n Tryz.prog bops Q i (AnyB n Q fuel (listed.setIfInBounds i true)) ⟨tm, []⟩ w) (hj : wpOpIn Fence.wide n Tryz.prog bops Q j (AnyB n Q fuel (listed.setIfInBounds j true)) ⟨tm, []⟩ w) : AnyB n Q (fuel + 1) listed ⟨tm, []⟩ w := by
 refine wpAnyIn_all h1 (by simp) (fun x hx => ?_)
 simp only [List.mem_cons, List.not_mem_nil, or_false] at hx
 rcases hx with rfl | rfl
 ·exact hi
 ·exact hj
end
structure BHyp (n : Nat) (Q : Exit → Act → World → Prop) (lg th po wt sp yi T : Int) (sg : Bool) (l B : Nat) (J Jx : World → Prop) : Prop where
 box : ∀ W, J W → W.cell? ⟨B, 0, none⟩ = some (.int .i64 lg) ∧ W.cell? ⟨B, 1, none⟩ = some (.int .i64 th) ∧ W.cell? ⟨B, 2, none⟩ = some (.int .i64 po) ∧ W.cell? ⟨B, 3, none⟩ = some (.int .i64 wt) ∧ W.cell? ⟨B, 4, none⟩ = some (.int .i64 sp) ∧ W.cell? ⟨B, 5, none⟩ = some (.int .i64 yi) ∧ W.cell? ⟨B, 6, none⟩ = some (.bool sg)
 tries : ∀ W m, J W → CallsIn Fence.wide m Tryz.prog 78 #[.agg #[.int .i64 lg, .int .i64 th, .int .i64 po, .int .i64 wt, .int .i64 sp, .int .i64 yi, .bool sg]] W fun e W' => ∃ v, e = .returned v ∧ v = .int .i64 T ∧ J W'
 round : ∀ W (x a b : Int), J W → ∃ f tmps assign body, (Instr.yield l #[.int .i64 x, .agg #[.int .i64 a, .int .i64 b]]).run Tryz.prog W = .ok (.round l f tmps assign body) W ∧ ∀ m, RoundIn Fence.wide m Tryz.prog l f tmps assign body W fun e W' => ∃ c, e = .returned (.bool c) ∧ ((c = true ∧ (a ≤ x ∧ x ≤ b) ∧ J W') ∨ (c = false ∧ ¬ (a ≤ x ∧ x ≤ b) ∧ Jx W'))
 dies : ∀ c a t v w, Q (.panic c) (Act.put a t v) w → Q (.panic c) a w
 good : ∀ tm W, J W → (1 ≤ lg ∧ lg ≤ 6 ∧ 1 ≤ th ∧ th ≤ 16 ∧ 0 ≤ po ∧ po ≤ 2 ∧ 0 ≤ wt ∧ wt ≤ 3 ∧ 0 ≤ sp ∧ sp ≤ T ∧ 0 ≤ yi ∧ yi ≤ T) → Q .normal ⟨tm, []⟩ W
 bad : ∀ tm W, Jx W → ¬ (1 ≤ lg ∧ lg ≤ 6 ∧ 1 ≤ th ∧ th ≤ 16 ∧ 0 ≤ po ∧ po ≤ 2 ∧ 0 ≤ wt ∧ wt ≤ 3 ∧ 0 ≤ sp ∧ sp ≤ T ∧ 0 ≤ yi ∧ yi ≤ T) → Q .normal ⟨tm, []⟩ W
theorem ld2 {n : Nat} {Q : Exit → Act → World → Prop} {lg th po wt sp yi T : Int} {sg : Bool} {l B : Nat} {J Jx : World → Prop} (hH : BHyp n Q lg th po wt sp yi T sg l B J Jx) {W : World} {tm : Array Value} (hw : J W) (ht : tm[5]? = some (.pointer (some ⟨B, 0, none⟩))) : (execOp (Act.eval ⟨tm, []⟩) (opB 2)).run Tryz.prog W = .ok (.value (.int .i64 lg)) W := by
 obtain ⟨q0, q1, q2, q3, q4, q5, q6⟩ := hH.box W hw
 have e : opB 2 = { dst := some 6, op := .load 3 (.tmp 5), type := 3, pos := (opB 2).pos, after := (opB 2).after, guard := none } := by kernel_rfl
 have ht' : Act.eval ⟨tm, []⟩ (.tmp 5) = .pointer (some ⟨B, 0, none⟩) := by simp [Act.eval, Array.getD_eq_getD_getElem?, ht]
 rw [e]
 go_simp
theorem ld8 {n : Nat} {Q : Exit → Act → World → Prop} {lg th po wt sp yi T : Int} {sg : Bool} {l B : Nat} {J Jx : World → Prop} (hH : BHyp n Q lg th po wt sp yi T sg l B J Jx) {W : World} {tm : Array Value} (hw : J W) (ht : tm[11]? = some (.pointer (some ⟨B, 1, none⟩))) : (execOp (Act.eval ⟨tm, []⟩) (opB 8)).run Tryz.prog W = .ok (.value (.int .i64 th)) W := by
 obtain ⟨q0, q1, q2, q3, q4, q5, q6⟩ := hH.box W hw
 have e : opB 8 = { dst := some 12, op := .load 3 (.tmp 11), type := 3, pos := (opB 8).pos, after := (opB 8).after, guard := some (5, true) } := by kernel_rfl
 have ht' : Act.eval ⟨tm, []⟩ (.tmp 11) = .pointer (some ⟨B, 1, none⟩) := by simp [Act.eval, Array.getD_eq_getD_getElem?, ht]
 rw [e]
 go_simp
theorem ld15 {n : Nat} {Q : Exit → Act → World → Prop} {lg th po wt sp yi T : Int} {sg : Bool} {l B : Nat} {J Jx : World → Prop} (hH : BHyp n Q lg th po wt sp yi T sg l B J Jx) {W : World} {tm : Array Value} (hw : J W) (ht : tm[18]? = some (.pointer (some ⟨B, 2, none⟩))) : (execOp (Act.eval ⟨tm, []⟩) (opB 15)).run Tryz.prog W = .ok (.value (.int .i64 po)) W := by
 obtain ⟨q0, q1, q2, q3, q4, q5, q6⟩ := hH.box W hw
 have e : opB 15 = { dst := some 19, op := .load 3 (.tmp 18), type := 3, pos := (opB 15).pos, after := (opB 15).after, guard := some (12, true) } := by kernel_rfl
 have ht' : Act.eval ⟨tm, []⟩ (.tmp 18) = .pointer (some ⟨B, 2, none⟩) := by simp [Act.eval, Array.getD_eq_getD_getElem?, ht]
 rw [e]
 go_simp
theorem ld22 {n : Nat} {Q : Exit → Act → World → Prop} {lg th po wt sp yi T : Int} {sg : Bool} {l B : Nat} {J Jx : World → Prop} (hH : BHyp n Q lg th po wt sp yi T sg l B J Jx) {W : World} {tm : Array Value} (hw : J W) (ht : tm[25]? = some (.pointer (some ⟨B, 3, none⟩))) : (execOp (Act.eval ⟨tm, []⟩) (opB 22)).run Tryz.prog W = .ok (.value (.int .i64 wt)) W := by
 obtain ⟨q0, q1, q2, q3, q4, q5, q6⟩ := hH.box W hw
 have e : opB 22 = { dst := some 26, op := .load 3 (.tmp 25), type := 3, pos := (opB 22).pos, after := (opB 22).after, guard := some (19, true) } := by kernel_rfl
 have ht' : Act.eval ⟨tm, []⟩ (.tmp 25) = .pointer (some ⟨B, 3, none⟩) := by simp [Act.eval, Array.getD_eq_getD_getElem?, ht]
 rw [e]
 go_simp
theorem ld29 {n : Nat} {Q : Exit → Act → World → Prop} {lg th po wt sp yi T : Int} {sg : Bool} {l B : Nat} {J Jx : World → Prop} (hH : BHyp n Q lg th po wt sp yi T sg l B J Jx) {W : World} {tm : Array Value} (hw : J W) (ht : tm[32]? = some (.pointer (some ⟨B, 4, none⟩))) : (execOp (Act.eval ⟨tm, []⟩) (opB 29)).run Tryz.prog W = .ok (.value (.int .i64 sp)) W := by
 obtain ⟨q0, q1, q2, q3, q4, q5, q6⟩ := hH.box W hw
 have e : opB 29 = { dst := some 33, op := .load 3 (.tmp 32), type := 3, pos := (opB 29).pos, after := (opB 29).after, guard := some (26, true) } := by kernel_rfl
 have ht' : Act.eval ⟨tm, []⟩ (.tmp 32) = .pointer (some ⟨B, 4, none⟩) := by simp [Act.eval, Array.getD_eq_getD_getElem?, ht]
 rw [e]
 go_simp
theorem ld30 {n : Nat} {Q : Exit → Act → World → Prop} {lg th po wt sp yi T : Int} {sg : Bool} {l B : Nat} {J Jx : World → Prop} (hH : BHyp n Q lg th po wt sp yi T sg l B J Jx) {W : World} {tm : Array Value} (hw : J W) (ht : tm[2]? = some (.pointer (some ⟨B, 0, none⟩))) : (execOp (Act.eval ⟨tm, []⟩) (opB 30)).run Tryz.prog W = .ok (.value (.agg #[.int .i64 lg, .int .i64 th, .int .i64 po, .int .i64 wt, .int .i64 sp, .int .i64 yi, .bool sg])) W := by
 obtain ⟨q0, q1, q2, q3, q4, q5, q6⟩ := hH.box W hw
 have e : opB 30 = { dst := some 34, op := .load 96 (.tmp 2), type := 96, pos := (opB 30).pos, after := (opB 30).after, guard := some (26, true) } := by kernel_rfl
 have ht' : Act.eval ⟨tm, []⟩ (.tmp 2) = .pointer (some ⟨B, 0, none⟩) := by simp [Act.eval, Array.getD_eq_getD_getElem?, ht]
 rw [e]
 go_simp
theorem ld38 {n : Nat} {Q : Exit → Act → World → Prop} {lg th po wt sp yi T : Int} {sg : Bool} {l B : Nat} {J Jx : World → Prop} (hH : BHyp n Q lg th po wt sp yi T sg l B J Jx) {W : World} {tm : Array Value} (hw : J W) (ht : tm[41]? = some (.pointer (some ⟨B, 5, none⟩))) : (execOp (Act.eval ⟨tm, []⟩) (opB 38)).run Tryz.prog W = .ok (.value (.int .i64 yi)) W := by
 obtain ⟨q0, q1, q2, q3, q4, q5, q6⟩ := hH.box W hw
 have e : opB 38 = { dst := some 42, op := .load 3 (.tmp 41), type := 3, pos := (opB 38).pos, after := (opB 38).after, guard := some (35, true) } := by kernel_rfl
 have ht' : Act.eval ⟨tm, []⟩ (.tmp 41) = .pointer (some ⟨B, 5, none⟩) := by simp [Act.eval, Array.getD_eq_getD_getElem?, ht]
 rw [e]
 go_simp
theorem ld39 {n : Nat} {Q : Exit → Act → World → Prop} {lg th po wt sp yi T : Int} {sg : Bool} {l B : Nat} {J Jx : World → Prop} (hH : BHyp n Q lg th po wt sp yi T sg l B J Jx) {W : World} {tm : Array Value} (hw : J W) (ht : tm[2]? = some (.pointer (some ⟨B, 0, none⟩))) : (execOp (Act.eval ⟨tm, []⟩) (opB 39)).run Tryz.prog W = .ok (.value (.agg #[.int .i64 lg, .int .i64 th, .int .i64 po, .int .i64 wt, .int .i64 sp, .int .i64 yi, .bool sg])) W := by
 obtain ⟨q0, q1, q2, q3, q4, q5, q6⟩ := hH.box W hw
 have e : opB 39 = { dst := some 43, op := .load 96 (.tmp 2), type := 96, pos := (opB 39).pos, after := (opB 39).after, guard := some (35, true) } := by kernel_rfl
 have ht' : Act.eval ⟨tm, []⟩ (.tmp 2) = .pointer (some ⟨B, 0, none⟩) := by simp [Act.eval, Array.getD_eq_getD_getElem?, ht]
 rw [e]
 go_simp
theorem bf0_41 {n : Nat} {Q : Exit → Act → World → Prop} {lg th po wt sp yi T : Int} {sg : Bool} {l B : Nat} {J Jx : World → Prop} (hH : BHyp n Q lg th po wt sp yi T sg l B J Jx) {W : World} (hx : Jx W) (hb : ¬ (1 ≤ lg ∧ lg ≤ 6)) : AnyB n Q 3 #[true, true, true, true, true, true, true, true, true, true, true, true, true, true, true, true, true, true, true, true, true, true, true, true, true, true, true, true, true, true, true, true, true, true, true, true, true, true, true, true, true, false, false, false] ⟨#[.agg #[.int .i64 lg, .int .i64 th, .int .i64 po, .int .i64 wt, .int .i64 sp, .int .i64 yi, .bool sg], .func (.yield l) #[] #[], .pointer (some ⟨B, 0, none⟩), undef, (.func (.yield l) #[] #[]), (.pointer (some ⟨B, 0, none⟩)), (.int .i64 lg), (.agg #[.int .i64 1, .int .i64 6]), (.bool false), (.bool false), undef, undef, undef, undef, undef, (.bool false), (.bool false), undef, undef, undef, undef, undef, (.bool false), (.bool false), undef, undef, undef, undef, undef, (.bool false), (.bool false), undef, undef, undef, undef, undef, undef, undef, (.bool false), (.bool false), undef, undef, undef, undef, undef, undef, undef, undef], []⟩ W := by
 refine takeS (k := 41) (by kernel_rfl) (by kernel_rfl) (fun w => by kernel_rfl) (fun c a w => hH.dies c a _ _ w) ?_
 refine takeS (k := 42) (by kernel_rfl) (by kernel_rfl) (fun w => by kernel_rfl) (fun c a w => hH.dies c a _ _ w) ?_
 refine takeW (k := 43) (v := (.bool false)) (by kernel_rfl) (by kernel_rfl) (fun w => by kernel_rfl) (fun w => by kernel_rfl) (fun c a w => hH.dies c a _ _ w) ?_
 exact wpAnyIn_done (by kernel_rfl) (hH.bad _ _ hx (by omega)) _
theorem bf0_32 {n : Nat} {Q : Exit → Act → World → Prop} {lg th po wt sp yi T : Int} {sg : Bool} {l B : Nat} {J Jx : World → Prop} (hH : BHyp n Q lg th po wt sp yi T sg l B J Jx) {W : World} (hx : Jx W) (hb : ¬ (1 ≤ lg ∧ lg ≤ 6)) : AnyB n Q 12 #[true, true, true, true, true, true, true, true, true, true, true, true, true, true, true, true, true, true, true, true, true, true, true, true, true, true, true, true, true, true, true, true, false, false, false, false, false, false, false, false, false, false, false, false] ⟨#[.agg #[.int .i64 lg, .int .i64 th, .int .i64 po, .int .i64 wt, .int .i64 sp, .int .i64 yi, .bool sg], .func (.yield l) #[] #[], .pointer (some ⟨B, 0, none⟩), undef, (.func (.yield l) #[] #[]), (.pointer (some ⟨B, 0, none⟩)), (.int .i64 lg), (.agg #[.int .i64 1, .int .i64 6]), (.bool false), (.bool false), undef, undef, undef, undef, undef, (.bool false), (.bool false), undef, undef, undef, undef, undef, (.bool false), (.bool false), undef, undef, undef, undef, undef, (.bool false), (.bool false), undef, undef, undef, undef, undef, undef, undef, undef, undef, undef, undef, undef, undef, undef, undef, undef, undef], []⟩ W := by
 refine takeS (k := 32) (by kernel_rfl) (by kernel_rfl) (fun w => by kernel_rfl) (fun c a w => hH.dies c a _ _ w) ?_
 refine takeS (k := 33) (by kernel_rfl) (by kernel_rfl) (fun w => by kernel_rfl) (fun c a w => hH.dies c a _ _ w) ?_
 refine takeW (k := 34) (v := (.bool false)) (by kernel_rfl) (by kernel_rfl) (fun w => by kernel_rfl) (fun w => by kernel_rfl) (fun c a w => hH.dies c a _ _ w) ?_
 refine takeW (k := 35) (v := (.bool false)) (by kernel_rfl) (by kernel_rfl) (fun w => by kernel_rfl) (fun w => by kernel_rfl) (fun c a w => hH.dies c a _ _ w) ?_
 refine takeS (k := 36) (by kernel_rfl) (by kernel_rfl) (fun w => by kernel_rfl) (fun c a w => hH.dies c a _ _ w) ?_
 refine takeS (k := 37) (by kernel_rfl) (by kernel_rfl) (fun w => by kernel_rfl) (fun c a w => hH.dies c a _ _ w) ?_
 refine takeS (k := 38) (by kernel_rfl) (by kernel_rfl) (fun w => by kernel_rfl) (fun c a w => hH.dies c a _ _ w) ?_
 refine takeS (k := 39) (by kernel_rfl) (by kernel_rfl) (fun w => by kernel_rfl) (fun c a w => hH.dies c a _ _ w) ?_
 refine readyS (k := 40) (by kernel_rfl) (by kernel_rfl) ?_
 exact canon (by kernel_rfl) (by kernel_rfl) (bf0_41 hH hx hb)
theorem bf0_23 {n : Nat} {Q : Exit → Act → World → Prop} {lg th po wt sp yi T : Int} {sg : Bool} {l B : Nat} {J Jx : World → Prop} (hH : BHyp n Q lg th po wt sp yi T sg l B J Jx) {W : World} (hx : Jx W) (hb : ¬ (1 ≤ lg ∧ lg ≤ 6)) : AnyB n Q 21 #[true, true, true, true, true, true, true, true, true, true, true, true, true, true, true, true, true, true, true, true, true, true, true, false, false, false, false, false, false, false, false, false, false, false, false, false, false, false, false, false, false, false, false, false] ⟨#[.agg #[.int .i64 lg, .int .i64 th, .int .i64 po, .int .i64 wt, .int .i64 sp, .int .i64 yi, .bool sg], .func (.yield l) #[] #[], .pointer (some ⟨B, 0, none⟩), undef, (.func (.yield l) #[] #[]), (.pointer (some ⟨B, 0, none⟩)), (.int .i64 lg), (.agg #[.int .i64 1, .int .i64 6]), (.bool false), (.bool false), undef, undef, undef, undef, undef, (.bool false), (.bool false), undef, undef, undef, undef, undef, (.bool false), (.bool false), undef, undef, undef, undef, undef, undef, undef, undef, undef, undef, undef, undef, undef, undef, undef, undef, undef, undef, undef, undef, undef, undef, undef, undef], []⟩ W := by
 refine takeS (k := 23) (by kernel_rfl) (by kernel_rfl) (fun w => by kernel_rfl) (fun c a w => hH.dies c a _ _ w) ?_
 refine takeS (k := 24) (by kernel_rfl) (by kernel_rfl) (fun w => by kernel_rfl) (fun c a w => hH.dies c a _ _ w) ?_
 refine takeW (k := 25) (v := (.bool false)) (by kernel_rfl) (by kernel_rfl) (fun w => by kernel_rfl) (fun w => by kernel_rfl) (fun c a w => hH.dies c a _ _ w) ?_
 refine takeW (k := 26) (v := (.bool false)) (by kernel_rfl) (by kernel_rfl) (fun w => by kernel_rfl) (fun w => by kernel_rfl) (fun c a w => hH.dies c a _ _ w) ?_
 refine takeS (k := 27) (by kernel_rfl) (by kernel_rfl) (fun w => by kernel_rfl) (fun c a w => hH.dies c a _ _ w) ?_
 refine takeS (k := 28) (by kernel_rfl) (by kernel_rfl) (fun w => by kernel_rfl) (fun c a w => hH.dies c a _ _ w) ?_
 refine takeS (k := 29) (by kernel_rfl) (by kernel_rfl) (fun w => by kernel_rfl) (fun c a w => hH.dies c a _ _ w) ?_
 refine takeS (k := 30) (by kernel_rfl) (by kernel_rfl) (fun w => by kernel_rfl) (fun c a w => hH.dies c a _ _ w) ?_
 refine readyS (k := 31) (by kernel_rfl) (by kernel_rfl) ?_
 exact canon (by kernel_rfl) (by kernel_rfl) (bf0_32 hH hx hb)
theorem bf0_14 {n : Nat} {Q : Exit → Act → World → Prop} {lg th po wt sp yi T : Int} {sg : Bool} {l B : Nat} {J Jx : World → Prop} (hH : BHyp n Q lg th po wt sp yi T sg l B J Jx) {W : World} (hx : Jx W) (hb : ¬ (1 ≤ lg ∧ lg ≤ 6)) : AnyB n Q 30 #[true, true, true, true, true, true, true, true, true, true, true, true, true, true, false, false, false, false, false, false, false, false, false, false, false, false, false, false, false, false, false, false, false, false, false, false, false, false, false, false, false, false, false, false] ⟨#[.agg #[.int .i64 lg, .int .i64 th, .int .i64 po, .int .i64 wt, .int .i64 sp, .int .i64 yi, .bool sg], .func (.yield l) #[] #[], .pointer (some ⟨B, 0, none⟩), undef, (.func (.yield l) #[] #[]), (.pointer (some ⟨B, 0, none⟩)), (.int .i64 lg), (.agg #[.int .i64 1, .int .i64 6]), (.bool false), (.bool false), undef, undef, undef, undef, undef, (.bool false), (.bool false), undef, undef, undef, undef, undef, undef, undef, undef, undef, undef, undef, undef, undef, undef, undef, undef, undef, undef, undef, undef, undef, undef, undef, undef, undef, undef, undef, undef, undef, undef, undef], []⟩ W := by
 refine takeS (k := 14) (by kernel_rfl) (by kernel_rfl) (fun w => by kernel_rfl) (fun c a w => hH.dies c a _ _ w) ?_
 refine takeS (k := 15) (by kernel_rfl) (by kernel_rfl) (fun w => by kernel_rfl) (fun c a w => hH.dies c a _ _ w) ?_
 refine takeS (k := 16) (by kernel_rfl) (by kernel_rfl) (fun w => by kernel_rfl) (fun c a w => hH.dies c a _ _ w) ?_
 refine takeS (k := 17) (by kernel_rfl) (by kernel_rfl) (fun w => by kernel_rfl) (fun c a w => hH.dies c a _ _ w) ?_
 refine takeW (k := 18) (v := (.bool false)) (by kernel_rfl) (by kernel_rfl) (fun w => by kernel_rfl) (fun w => by kernel_rfl) (fun c a w => hH.dies c a _ _ w) ?_
 refine takeW (k := 19) (v := (.bool false)) (by kernel_rfl) (by kernel_rfl) (fun w => by kernel_rfl) (fun w => by kernel_rfl) (fun c a w => hH.dies c a _ _ w) ?_
 refine takeS (k := 20) (by kernel_rfl) (by kernel_rfl) (fun w => by kernel_rfl) (fun c a w => hH.dies c a _ _ w) ?_
 refine takeS (k := 21) (by kernel_rfl) (by kernel_rfl) (fun w => by kernel_rfl) (fun c a w => hH.dies c a _ _ w) ?_
 refine takeS (k := 22) (by kernel_rfl) (by kernel_rfl) (fun w => by kernel_rfl) (fun c a w => hH.dies c a _ _ w) ?_
 exact canon (by kernel_rfl) (by kernel_rfl) (bf0_23 hH hx hb)
theorem bf0_5 {n : Nat} {Q : Exit → Act → World → Prop} {lg th po wt sp yi T : Int} {sg : Bool} {l B : Nat} {J Jx : World → Prop} (hH : BHyp n Q lg th po wt sp yi T sg l B J Jx) {W : World} (hx : Jx W) (hb : ¬ (1 ≤ lg ∧ lg ≤ 6)) : AnyB n Q 39 #[true, true, true, true, true, false, false, false, false, false, false, false, false, false, false, false, false, false, false, false, false, false, false, false, false, false, false, false, false, false, false, false, false, false, false, false, false, false, false, false, false, false, false, false] ⟨#[.agg #[.int .i64 lg, .int .i64 th, .int .i64 po, .int .i64 wt, .int .i64 sp, .int .i64 yi, .bool sg], .func (.yield l) #[] #[], .pointer (some ⟨B, 0, none⟩), undef, (.func (.yield l) #[] #[]), (.pointer (some ⟨B, 0, none⟩)), (.int .i64 lg), (.agg #[.int .i64 1, .int .i64 6]), (.bool false), undef, undef, undef, undef, undef, undef, undef, undef, undef, undef, undef, undef, undef, undef, undef, undef, undef, undef, undef, undef, undef, undef, undef, undef, undef, undef, undef, undef, undef, undef, undef, undef, undef, undef, undef, undef, undef, undef, undef], []⟩ W := by
 refine takeW (k := 5) (v := (.bool false)) (by kernel_rfl) (by kernel_rfl) (fun w => by kernel_rfl) (fun w => by kernel_rfl) (fun c a w => hH.dies c a _ _ w) ?_
 refine takeS (k := 6) (by kernel_rfl) (by kernel_rfl) (fun w => by kernel_rfl) (fun c a w => hH.dies c a _ _ w) ?_
 refine takeS (k := 7) (by kernel_rfl) (by kernel_rfl) (fun w => by kernel_rfl) (fun c a w => hH.dies c a _ _ w) ?_
 refine takeS (k := 8) (by kernel_rfl) (by kernel_rfl) (fun w => by kernel_rfl) (fun c a w => hH.dies c a _ _ w) ?_
 refine takeS (k := 9) (by kernel_rfl) (by kernel_rfl) (fun w => by kernel_rfl) (fun c a w => hH.dies c a _ _ w) ?_
 refine takeS (k := 10) (by kernel_rfl) (by kernel_rfl) (fun w => by kernel_rfl) (fun c a w => hH.dies c a _ _ w) ?_
 refine takeW (k := 11) (v := (.bool false)) (by kernel_rfl) (by kernel_rfl) (fun w => by kernel_rfl) (fun w => by kernel_rfl) (fun c a w => hH.dies c a _ _ w) ?_
 refine takeW (k := 12) (v := (.bool false)) (by kernel_rfl) (by kernel_rfl) (fun w => by kernel_rfl) (fun w => by kernel_rfl) (fun c a w => hH.dies c a _ _ w) ?_
 refine takeS (k := 13) (by kernel_rfl) (by kernel_rfl) (fun w => by kernel_rfl) (fun c a w => hH.dies c a _ _ w) ?_
 exact canon (by kernel_rfl) (by kernel_rfl) (bf0_14 hH hx hb)
theorem bf1_38 {n : Nat} {Q : Exit → Act → World → Prop} {lg th po wt sp yi T : Int} {sg : Bool} {l B : Nat} {J Jx : World → Prop} (hH : BHyp n Q lg th po wt sp yi T sg l B J Jx) {W : World} (hx : Jx W) (hb : ¬ (1 ≤ th ∧ th ≤ 16)) : AnyB n Q 6 #[true, true, true, true, true, true, true, true, true, true, true, true, true, true, true, true, true, true, true, true, true, true, true, true, true, true, true, true, true, true, true, true, true, true, true, true, true, true, false, false, false, false, false, false] ⟨#[.agg #[.int .i64 lg, .int .i64 th, .int .i64 po, .int .i64 wt, .int .i64 sp, .int .i64 yi, .bool sg], .func (.yield l) #[] #[], .pointer (some ⟨B, 0, none⟩), undef, (.func (.yield l) #[] #[]), (.pointer (some ⟨B, 0, none⟩)), (.int .i64 lg), (.agg #[.int .i64 1, .int .i64 6]), (.bool true), (.bool true), (.func (.yield l) #[] #[]), (.pointer (some ⟨B, 1, none⟩)), (.int .i64 th), (.agg #[.int .i64 1, .int .i64 16]), (.bool false), (.bool false), (.bool false), undef, undef, undef, undef, undef, (.bool false), (.bool false), undef, undef, undef, undef, undef, (.bool false), (.bool false), undef, undef, undef, undef, undef, undef, undef, (.bool false), (.bool false), undef, undef, undef, undef, undef, undef, undef, undef], []⟩ W := by
 refine takeS (k := 38) (by kernel_rfl) (by kernel_rfl) (fun w => by kernel_rfl) (fun c a w => hH.dies c a _ _ w) ?_
 refine takeS (k := 39) (by kernel_rfl) (by kernel_rfl) (fun w => by kernel_rfl) (fun c a w => hH.dies c a _ _ w) ?_
 refine readyS (k := 40) (by kernel_rfl) (by kernel_rfl) ?_
 refine takeS (k := 41) (by kernel_rfl) (by kernel_rfl) (fun w => by kernel_rfl) (fun c a w => hH.dies c a _ _ w) ?_
 refine takeS (k := 42) (by kernel_rfl) (by kernel_rfl) (fun w => by kernel_rfl) (fun c a w => hH.dies c a _ _ w) ?_
 refine takeW (k := 43) (v := (.bool false)) (by kernel_rfl) (by kernel_rfl) (fun w => by kernel_rfl) (fun w => by kernel_rfl) (fun c a w => hH.dies c a _ _ w) ?_
 exact wpAnyIn_done (by kernel_rfl) (hH.bad _ _ hx (by omega)) _
theorem bf1_29 {n : Nat} {Q : Exit → Act → World → Prop} {lg th po wt sp yi T : Int} {sg : Bool} {l B : Nat} {J Jx : World → Prop} (hH : BHyp n Q lg th po wt sp yi T sg l B J Jx) {W : World} (hx : Jx W) (hb : ¬ (1 ≤ th ∧ th ≤ 16)) : AnyB n Q 15 #[true, true, true, true, true, true, true, true, true, true, true, true, true, true, true, true, true, true, true, true, true, true, true, true, true, true, true, true, true, false, false, false, false, false, false, false, false, false, false, false, false, false, false, false] ⟨#[.agg #[.int .i64 lg, .int .i64 th, .int .i64 po, .int .i64 wt, .int .i64 sp, .int .i64 yi, .bool sg], .func (.yield l) #[] #[], .pointer (some ⟨B, 0, none⟩), undef, (.func (.yield l) #[] #[]), (.pointer (some ⟨B, 0, none⟩)), (.int .i64 lg), (.agg #[.int .i64 1, .int .i64 6]), (.bool true), (.bool true), (.func (.yield l) #[] #[]), (.pointer (some ⟨B, 1, none⟩)), (.int .i64 th), (.agg #[.int .i64 1, .int .i64 16]), (.bool false), (.bool false), (.bool false), undef, undef, undef, undef, undef, (.bool false), (.bool false), undef, undef, undef, undef, undef, (.bool false), (.bool false), undef, undef, undef, undef, undef, undef, undef, undef, undef, undef, undef, undef, undef, undef, undef, undef, undef], []⟩ W := by
 refine takeS (k := 29) (by kernel_rfl) (by kernel_rfl) (fun w => by kernel_rfl) (fun c a w => hH.dies c a _ _ w) ?_
 refine takeS (k := 30) (by kernel_rfl) (by kernel_rfl) (fun w => by kernel_rfl) (fun c a w => hH.dies c a _ _ w) ?_
 refine readyS (k := 31) (by kernel_rfl) (by kernel_rfl) ?_
 refine takeS (k := 32) (by kernel_rfl) (by kernel_rfl) (fun w => by kernel_rfl) (fun c a w => hH.dies c a _ _ w) ?_
 refine takeS (k := 33) (by kernel_rfl) (by kernel_rfl) (fun w => by kernel_rfl) (fun c a w => hH.dies c a _ _ w) ?_
 refine takeW (k := 34) (v := (.bool false)) (by kernel_rfl) (by kernel_rfl) (fun w => by kernel_rfl) (fun w => by kernel_rfl) (fun c a w => hH.dies c a _ _ w) ?_
 refine takeW (k := 35) (v := (.bool false)) (by kernel_rfl) (by kernel_rfl) (fun w => by kernel_rfl) (fun w => by kernel_rfl) (fun c a w => hH.dies c a _ _ w) ?_
 refine takeS (k := 36) (by kernel_rfl) (by kernel_rfl) (fun w => by kernel_rfl) (fun c a w => hH.dies c a _ _ w) ?_
 refine takeS (k := 37) (by kernel_rfl) (by kernel_rfl) (fun w => by kernel_rfl) (fun c a w => hH.dies c a _ _ w) ?_
 exact canon (by kernel_rfl) (by kernel_rfl) (bf1_38 hH hx hb)
theorem bf1_20 {n : Nat} {Q : Exit → Act → World → Prop} {lg th po wt sp yi T : Int} {sg : Bool} {l B : Nat} {J Jx : World → Prop} (hH : BHyp n Q lg th po wt sp yi T sg l B J Jx) {W : World} (hx : Jx W) (hb : ¬ (1 ≤ th ∧ th ≤ 16)) : AnyB n Q 24 #[true, true, true, true, true, true, true, true, true, true, true, true, true, true, true, true, true, true, true, true, false, false, false, false, false, false, false, false, false, false, false, false, false, false, false, false, false, false, false, false, false, false, false, false] ⟨#[.agg #[.int .i64 lg, .int .i64 th, .int .i64 po, .int .i64 wt, .int .i64 sp, .int .i64 yi, .bool sg], .func (.yield l) #[] #[], .pointer (some ⟨B, 0, none⟩), undef, (.func (.yield l) #[] #[]), (.pointer (some ⟨B, 0, none⟩)), (.int .i64 lg), (.agg #[.int .i64 1, .int .i64 6]), (.bool true), (.bool true), (.func (.yield l) #[] #[]), (.pointer (some ⟨B, 1, none⟩)), (.int .i64 th), (.agg #[.int .i64 1, .int .i64 16]), (.bool false), (.bool false), (.bool false), undef, undef, undef, undef, undef, (.bool false), (.bool false), undef, undef, undef, undef, undef, undef, undef, undef, undef, undef, undef, undef, undef, undef, undef, undef, undef, undef, undef, undef, undef, undef, undef, undef], []⟩ W := by
 refine takeS (k := 20) (by kernel_rfl) (by kernel_rfl) (fun w => by kernel_rfl) (fun c a w => hH.dies c a _ _ w) ?_
 refine takeS (k := 21) (by kernel_rfl) (by kernel_rfl) (fun w => by kernel_rfl) (fun c a w => hH.dies c a _ _ w) ?_
 refine takeS (k := 22) (by kernel_rfl) (by kernel_rfl) (fun w => by kernel_rfl) (fun c a w => hH.dies c a _ _ w) ?_
 refine takeS (k := 23) (by kernel_rfl) (by kernel_rfl) (fun w => by kernel_rfl) (fun c a w => hH.dies c a _ _ w) ?_
 refine takeS (k := 24) (by kernel_rfl) (by kernel_rfl) (fun w => by kernel_rfl) (fun c a w => hH.dies c a _ _ w) ?_
 refine takeW (k := 25) (v := (.bool false)) (by kernel_rfl) (by kernel_rfl) (fun w => by kernel_rfl) (fun w => by kernel_rfl) (fun c a w => hH.dies c a _ _ w) ?_
 refine takeW (k := 26) (v := (.bool false)) (by kernel_rfl) (by kernel_rfl) (fun w => by kernel_rfl) (fun w => by kernel_rfl) (fun c a w => hH.dies c a _ _ w) ?_
 refine takeS (k := 27) (by kernel_rfl) (by kernel_rfl) (fun w => by kernel_rfl) (fun c a w => hH.dies c a _ _ w) ?_
 refine takeS (k := 28) (by kernel_rfl) (by kernel_rfl) (fun w => by kernel_rfl) (fun c a w => hH.dies c a _ _ w) ?_
 exact canon (by kernel_rfl) (by kernel_rfl) (bf1_29 hH hx hb)
theorem bf1_11 {n : Nat} {Q : Exit → Act → World → Prop} {lg th po wt sp yi T : Int} {sg : Bool} {l B : Nat} {J Jx : World → Prop} (hH : BHyp n Q lg th po wt sp yi T sg l B J Jx) {W : World} (hx : Jx W) (hb : ¬ (1 ≤ th ∧ th ≤ 16)) : AnyB n Q 33 #[true, true, true, true, true, true, true, true, true, true, true, false, false, false, false, false, false, false, false, false, false, false, false, false, false, false, false, false, false, false, false, false, false, false, false, false, false, false, false, false, false, false, false, false] ⟨#[.agg #[.int .i64 lg, .int .i64 th, .int .i64 po, .int .i64 wt, .int .i64 sp, .int .i64 yi, .bool sg], .func (.yield l) #[] #[], .pointer (some ⟨B, 0, none⟩), undef, (.func (.yield l) #[] #[]), (.pointer (some ⟨B, 0, none⟩)), (.int .i64 lg), (.agg #[.int .i64 1, .int .i64 6]), (.bool true), (.bool true), (.func (.yield l) #[] #[]), (.pointer (some ⟨B, 1, none⟩)), (.int .i64 th), (.agg #[.int .i64 1, .int .i64 16]), (.bool false), undef, undef, undef, undef, undef, undef, undef, undef, undef, undef, undef, undef, undef, undef, undef, undef, undef, undef, undef, undef, undef, undef, undef, undef, undef, undef, undef, undef, undef, undef, undef, undef, undef], []⟩ W := by
 refine takeW (k := 11) (v := (.bool false)) (by kernel_rfl) (by kernel_rfl) (fun w => by kernel_rfl) (fun w => by kernel_rfl) (fun c a w => hH.dies c a _ _ w) ?_
 refine takeW (k := 12) (v := (.bool false)) (by kernel_rfl) (by kernel_rfl) (fun w => by kernel_rfl) (fun w => by kernel_rfl) (fun c a w => hH.dies c a _ _ w) ?_
 refine takeS (k := 13) (by kernel_rfl) (by kernel_rfl) (fun w => by kernel_rfl) (fun c a w => hH.dies c a _ _ w) ?_
 refine takeS (k := 14) (by kernel_rfl) (by kernel_rfl) (fun w => by kernel_rfl) (fun c a w => hH.dies c a _ _ w) ?_
 refine takeS (k := 15) (by kernel_rfl) (by kernel_rfl) (fun w => by kernel_rfl) (fun c a w => hH.dies c a _ _ w) ?_
 refine takeS (k := 16) (by kernel_rfl) (by kernel_rfl) (fun w => by kernel_rfl) (fun c a w => hH.dies c a _ _ w) ?_
 refine takeS (k := 17) (by kernel_rfl) (by kernel_rfl) (fun w => by kernel_rfl) (fun c a w => hH.dies c a _ _ w) ?_
 refine takeW (k := 18) (v := (.bool false)) (by kernel_rfl) (by kernel_rfl) (fun w => by kernel_rfl) (fun w => by kernel_rfl) (fun c a w => hH.dies c a _ _ w) ?_
 refine takeW (k := 19) (v := (.bool false)) (by kernel_rfl) (by kernel_rfl) (fun w => by kernel_rfl) (fun w => by kernel_rfl) (fun c a w => hH.dies c a _ _ w) ?_
 exact canon (by kernel_rfl) (by kernel_rfl) (bf1_20 hH hx hb)
theorem bf2_36 {n : Nat} {Q : Exit → Act → World → Prop} {lg th po wt sp yi T : Int} {sg : Bool} {l B : Nat} {J Jx : World → Prop} (hH : BHyp n Q lg th po wt sp yi T sg l B J Jx) {W : World} (hx : Jx W) (hb : ¬ (0 ≤ po ∧ po ≤ 2)) : AnyB n Q 8 #[true, true, true, true, true, true, true, true, true, true, true, true, true, true, true, true, true, true, true, true, true, true, true, true, true, true, true, true, true, true, true, true, true, true, true, true, false, false, false, false, false, false, false, false] ⟨#[.agg #[.int .i64 lg, .int .i64 th, .int .i64 po, .int .i64 wt, .int .i64 sp, .int .i64 yi, .bool sg], .func (.yield l) #[] #[], .pointer (some ⟨B, 0, none⟩), undef, (.func (.yield l) #[] #[]), (.pointer (some ⟨B, 0, none⟩)), (.int .i64 lg), (.agg #[.int .i64 1, .int .i64 6]), (.bool true), (.bool true), (.func (.yield l) #[] #[]), (.pointer (some ⟨B, 1, none⟩)), (.int .i64 th), (.agg #[.int .i64 1, .int .i64 16]), (.bool true), (.bool true), (.bool true), (.func (.yield l) #[] #[]), (.pointer (some ⟨B, 2, none⟩)), (.int .i64 po), (.agg #[.int .i64 0, .int .i64 2]), (.bool false), (.bool false), (.bool false), undef, undef, undef, undef, undef, (.bool false), (.bool false), undef, undef, undef, undef, undef, undef, undef, (.bool false), (.bool false), undef, undef, undef, undef, undef, undef, undef, undef], []⟩ W := by
 refine takeS (k := 36) (by kernel_rfl) (by kernel_rfl) (fun w => by kernel_rfl) (fun c a w => hH.dies c a _ _ w) ?_
 refine takeS (k := 37) (by kernel_rfl) (by kernel_rfl) (fun w => by kernel_rfl) (fun c a w => hH.dies c a _ _ w) ?_
 refine takeS (k := 38) (by kernel_rfl) (by kernel_rfl) (fun w => by kernel_rfl) (fun c a w => hH.dies c a _ _ w) ?_
 refine takeS (k := 39) (by kernel_rfl) (by kernel_rfl) (fun w => by kernel_rfl) (fun c a w => hH.dies c a _ _ w) ?_
 refine readyS (k := 40) (by kernel_rfl) (by kernel_rfl) ?_
 refine takeS (k := 41) (by kernel_rfl) (by kernel_rfl) (fun w => by kernel_rfl) (fun c a w => hH.dies c a _ _ w) ?_
 refine takeS (k := 42) (by kernel_rfl) (by kernel_rfl) (fun w => by kernel_rfl) (fun c a w => hH.dies c a _ _ w) ?_
 refine takeW (k := 43) (v := (.bool false)) (by kernel_rfl) (by kernel_rfl) (fun w => by kernel_rfl) (fun w => by kernel_rfl) (fun c a w => hH.dies c a _ _ w) ?_
 exact wpAnyIn_done (by kernel_rfl) (hH.bad _ _ hx (by omega)) _
theorem bf2_27 {n : Nat} {Q : Exit → Act → World → Prop} {lg th po wt sp yi T : Int} {sg : Bool} {l B : Nat} {J Jx : World → Prop} (hH : BHyp n Q lg th po wt sp yi T sg l B J Jx) {W : World} (hx : Jx W) (hb : ¬ (0 ≤ po ∧ po ≤ 2)) : AnyB n Q 17 #[true, true, true, true, true, true, true, true, true, true, true, true, true, true, true, true, true, true, true, true, true, true, true, true, true, true, true, false, false, false, false, false, false, false, false, false, false, false, false, false, false, false, false, false] ⟨#[.agg #[.int .i64 lg, .int .i64 th, .int .i64 po, .int .i64 wt, .int .i64 sp, .int .i64 yi, .bool sg], .func (.yield l) #[] #[], .pointer (some ⟨B, 0, none⟩), undef, (.func (.yield l) #[] #[]), (.pointer (some ⟨B, 0, none⟩)), (.int .i64 lg), (.agg #[.int .i64 1, .int .i64 6]), (.bool true), (.bool true), (.func (.yield l) #[] #[]), (.pointer (some ⟨B, 1, none⟩)), (.int .i64 th), (.agg #[.int .i64 1, .int .i64 16]), (.bool true), (.bool true), (.bool true), (.func (.yield l) #[] #[]), (.pointer (some ⟨B, 2, none⟩)), (.int .i64 po), (.agg #[.int .i64 0, .int .i64 2]), (.bool false), (.bool false), (.bool false), undef, undef, undef, undef, undef, (.bool false), (.bool false), undef, undef, undef, undef, undef, undef, undef, undef, undef, undef, undef, undef, undef, undef, undef, undef, undef], []⟩ W := by
 refine takeS (k := 27) (by kernel_rfl) (by kernel_rfl) (fun w => by kernel_rfl) (fun c a w => hH.dies c a _ _ w) ?_
 refine takeS (k := 28) (by kernel_rfl) (by kernel_rfl) (fun w => by kernel_rfl) (fun c a w => hH.dies c a _ _ w) ?_
 refine takeS (k := 29) (by kernel_rfl) (by kernel_rfl) (fun w => by kernel_rfl) (fun c a w => hH.dies c a _ _ w) ?_
 refine takeS (k := 30) (by kernel_rfl) (by kernel_rfl) (fun w => by kernel_rfl) (fun c a w => hH.dies c a _ _ w) ?_
 refine readyS (k := 31) (by kernel_rfl) (by kernel_rfl) ?_
 refine takeS (k := 32) (by kernel_rfl) (by kernel_rfl) (fun w => by kernel_rfl) (fun c a w => hH.dies c a _ _ w) ?_
 refine takeS (k := 33) (by kernel_rfl) (by kernel_rfl) (fun w => by kernel_rfl) (fun c a w => hH.dies c a _ _ w) ?_
 refine takeW (k := 34) (v := (.bool false)) (by kernel_rfl) (by kernel_rfl) (fun w => by kernel_rfl) (fun w => by kernel_rfl) (fun c a w => hH.dies c a _ _ w) ?_
 refine takeW (k := 35) (v := (.bool false)) (by kernel_rfl) (by kernel_rfl) (fun w => by kernel_rfl) (fun w => by kernel_rfl) (fun c a w => hH.dies c a _ _ w) ?_
 exact canon (by kernel_rfl) (by kernel_rfl) (bf2_36 hH hx hb)
theorem bf2_18 {n : Nat} {Q : Exit → Act → World → Prop} {lg th po wt sp yi T : Int} {sg : Bool} {l B : Nat} {J Jx : World → Prop} (hH : BHyp n Q lg th po wt sp yi T sg l B J Jx) {W : World} (hx : Jx W) (hb : ¬ (0 ≤ po ∧ po ≤ 2)) : AnyB n Q 26 #[true, true, true, true, true, true, true, true, true, true, true, true, true, true, true, true, true, true, false, false, false, false, false, false, false, false, false, false, false, false, false, false, false, false, false, false, false, false, false, false, false, false, false, false] ⟨#[.agg #[.int .i64 lg, .int .i64 th, .int .i64 po, .int .i64 wt, .int .i64 sp, .int .i64 yi, .bool sg], .func (.yield l) #[] #[], .pointer (some ⟨B, 0, none⟩), undef, (.func (.yield l) #[] #[]), (.pointer (some ⟨B, 0, none⟩)), (.int .i64 lg), (.agg #[.int .i64 1, .int .i64 6]), (.bool true), (.bool true), (.func (.yield l) #[] #[]), (.pointer (some ⟨B, 1, none⟩)), (.int .i64 th), (.agg #[.int .i64 1, .int .i64 16]), (.bool true), (.bool true), (.bool true), (.func (.yield l) #[] #[]), (.pointer (some ⟨B, 2, none⟩)), (.int .i64 po), (.agg #[.int .i64 0, .int .i64 2]), (.bool false), undef, undef, undef, undef, undef, undef, undef, undef, undef, undef, undef, undef, undef, undef, undef, undef, undef, undef, undef, undef, undef, undef, undef, undef, undef, undef], []⟩ W := by
 refine takeW (k := 18) (v := (.bool false)) (by kernel_rfl) (by kernel_rfl) (fun w => by kernel_rfl) (fun w => by kernel_rfl) (fun c a w => hH.dies c a _ _ w) ?_
 refine takeW (k := 19) (v := (.bool false)) (by kernel_rfl) (by kernel_rfl) (fun w => by kernel_rfl) (fun w => by kernel_rfl) (fun c a w => hH.dies c a _ _ w) ?_
 refine takeS (k := 20) (by kernel_rfl) (by kernel_rfl) (fun w => by kernel_rfl) (fun c a w => hH.dies c a _ _ w) ?_
 refine takeS (k := 21) (by kernel_rfl) (by kernel_rfl) (fun w => by kernel_rfl) (fun c a w => hH.dies c a _ _ w) ?_
 refine takeS (k := 22) (by kernel_rfl) (by kernel_rfl) (fun w => by kernel_rfl) (fun c a w => hH.dies c a _ _ w) ?_
 refine takeS (k := 23) (by kernel_rfl) (by kernel_rfl) (fun w => by kernel_rfl) (fun c a w => hH.dies c a _ _ w) ?_
 refine takeS (k := 24) (by kernel_rfl) (by kernel_rfl) (fun w => by kernel_rfl) (fun c a w => hH.dies c a _ _ w) ?_
 refine takeW (k := 25) (v := (.bool false)) (by kernel_rfl) (by kernel_rfl) (fun w => by kernel_rfl) (fun w => by kernel_rfl) (fun c a w => hH.dies c a _ _ w) ?_
 refine takeW (k := 26) (v := (.bool false)) (by kernel_rfl) (by kernel_rfl) (fun w => by kernel_rfl) (fun w => by kernel_rfl) (fun c a w => hH.dies c a _ _ w) ?_
 exact canon (by kernel_rfl) (by kernel_rfl) (bf2_27 hH hx hb)
theorem bf3_43 {n : Nat} {Q : Exit → Act → World → Prop} {lg th po wt sp yi T : Int} {sg : Bool} {l B : Nat} {J Jx : World → Prop} (hH : BHyp n Q lg th po wt sp yi T sg l B J Jx) {W : World} (hx : Jx W) (hb : ¬ (0 ≤ wt ∧ wt ≤ 3)) : AnyB n Q 1 #[true, true, true, true, true, true, true, true, true, true, true, true, true, true, true, true, true, true, true, true, true, true, true, true, true, true, true, true, true, true, true, true, true, true, true, true, true, true, true, true, true, true, true, false] ⟨#[.agg #[.int .i64 lg, .int .i64 th, .int .i64 po, .int .i64 wt, .int .i64 sp, .int .i64 yi, .bool sg], .func (.yield l) #[] #[], .pointer (some ⟨B, 0, none⟩), undef, (.func (.yield l) #[] #[]), (.pointer (some ⟨B, 0, none⟩)), (.int .i64 lg), (.agg #[.int .i64 1, .int .i64 6]), (.bool true), (.bool true), (.func (.yield l) #[] #[]), (.pointer (some ⟨B, 1, none⟩)), (.int .i64 th), (.agg #[.int .i64 1, .int .i64 16]), (.bool true), (.bool true), (.bool true), (.func (.yield l) #[] #[]), (.pointer (some ⟨B, 2, none⟩)), (.int .i64 po), (.agg #[.int .i64 0, .int .i64 2]), (.bool true), (.bool true), (.bool true), (.func (.yield l) #[] #[]), (.pointer (some ⟨B, 3, none⟩)), (.int .i64 wt), (.agg #[.int .i64 0, .int .i64 3]), (.bool false), (.bool false), (.bool false), undef, undef, undef, undef, undef, undef, undef, (.bool false), (.bool false), undef, undef, undef, undef, undef, undef, undef, undef], []⟩ W := by
 refine takeW (k := 43) (v := (.bool false)) (by kernel_rfl) (by kernel_rfl) (fun w => by kernel_rfl) (fun w => by kernel_rfl) (fun c a w => hH.dies c a _ _ w) ?_
 exact wpAnyIn_done (by kernel_rfl) (hH.bad _ _ hx (by omega)) _
theorem bf3_34 {n : Nat} {Q : Exit → Act → World → Prop} {lg th po wt sp yi T : Int} {sg : Bool} {l B : Nat} {J Jx : World → Prop} (hH : BHyp n Q lg th po wt sp yi T sg l B J Jx) {W : World} (hx : Jx W) (hb : ¬ (0 ≤ wt ∧ wt ≤ 3)) : AnyB n Q 10 #[true, true, true, true, true, true, true, true, true, true, true, true, true, true, true, true, true, true, true, true, true, true, true, true, true, true, true, true, true, true, true, true, true, true, false, false, false, false, false, false, false, false, false, false] ⟨#[.agg #[.int .i64 lg, .int .i64 th, .int .i64 po, .int .i64 wt, .int .i64 sp, .int .i64 yi, .bool sg], .func (.yield l) #[] #[], .pointer (some ⟨B, 0, none⟩), undef, (.func (.yield l) #[] #[]), (.pointer (some ⟨B, 0, none⟩)), (.int .i64 lg), (.agg #[.int .i64 1, .int .i64 6]), (.bool true), (.bool true), (.func (.yield l) #[] #[]), (.pointer (some ⟨B, 1, none⟩)), (.int .i64 th), (.agg #[.int .i64 1, .int .i64 16]), (.bool true), (.bool true), (.bool true), (.func (.yield l) #[] #[]), (.pointer (some ⟨B, 2, none⟩)), (.int .i64 po), (.agg #[.int .i64 0, .int .i64 2]), (.bool true), (.bool true), (.bool true), (.func (.yield l) #[] #[]), (.pointer (some ⟨B, 3, none⟩)), (.int .i64 wt), (.agg #[.int .i64 0, .int .i64 3]), (.bool false), (.bool false), (.bool false), undef, undef, undef, undef, undef, undef, undef, undef, undef, undef, undef, undef, undef, undef, undef, undef, undef], []⟩ W := by
 refine takeW (k := 34) (v := (.bool false)) (by kernel_rfl) (by kernel_rfl) (fun w => by kernel_rfl) (fun w => by kernel_rfl) (fun c a w => hH.dies c a _ _ w) ?_
 refine takeW (k := 35) (v := (.bool false)) (by kernel_rfl) (by kernel_rfl) (fun w => by kernel_rfl) (fun w => by kernel_rfl) (fun c a w => hH.dies c a _ _ w) ?_
 refine takeS (k := 36) (by kernel_rfl) (by kernel_rfl) (fun w => by kernel_rfl) (fun c a w => hH.dies c a _ _ w) ?_
 refine takeS (k := 37) (by kernel_rfl) (by kernel_rfl) (fun w => by kernel_rfl) (fun c a w => hH.dies c a _ _ w) ?_
 refine takeS (k := 38) (by kernel_rfl) (by kernel_rfl) (fun w => by kernel_rfl) (fun c a w => hH.dies c a _ _ w) ?_
 refine takeS (k := 39) (by kernel_rfl) (by kernel_rfl) (fun w => by kernel_rfl) (fun c a w => hH.dies c a _ _ w) ?_
 refine readyS (k := 40) (by kernel_rfl) (by kernel_rfl) ?_
 refine takeS (k := 41) (by kernel_rfl) (by kernel_rfl) (fun w => by kernel_rfl) (fun c a w => hH.dies c a _ _ w) ?_
 refine takeS (k := 42) (by kernel_rfl) (by kernel_rfl) (fun w => by kernel_rfl) (fun c a w => hH.dies c a _ _ w) ?_
 exact canon (by kernel_rfl) (by kernel_rfl) (bf3_43 hH hx hb)
theorem bf3_25 {n : Nat} {Q : Exit → Act → World → Prop} {lg th po wt sp yi T : Int} {sg : Bool} {l B : Nat} {J Jx : World → Prop} (hH : BHyp n Q lg th po wt sp yi T sg l B J Jx) {W : World} (hx : Jx W) (hb : ¬ (0 ≤ wt ∧ wt ≤ 3)) : AnyB n Q 19 #[true, true, true, true, true, true, true, true, true, true, true, true, true, true, true, true, true, true, true, true, true, true, true, true, true, false, false, false, false, false, false, false, false, false, false, false, false, false, false, false, false, false, false, false] ⟨#[.agg #[.int .i64 lg, .int .i64 th, .int .i64 po, .int .i64 wt, .int .i64 sp, .int .i64 yi, .bool sg], .func (.yield l) #[] #[], .pointer (some ⟨B, 0, none⟩), undef, (.func (.yield l) #[] #[]), (.pointer (some ⟨B, 0, none⟩)), (.int .i64 lg), (.agg #[.int .i64 1, .int .i64 6]), (.bool true), (.bool true), (.func (.yield l) #[] #[]), (.pointer (some ⟨B, 1, none⟩)), (.int .i64 th), (.agg #[.int .i64 1, .int .i64 16]), (.bool true), (.bool true), (.bool true), (.func (.yield l) #[] #[]), (.pointer (some ⟨B, 2, none⟩)), (.int .i64 po), (.agg #[.int .i64 0, .int .i64 2]), (.bool true), (.bool true), (.bool true), (.func (.yield l) #[] #[]), (.pointer (some ⟨B, 3, none⟩)), (.int .i64 wt), (.agg #[.int .i64 0, .int .i64 3]), (.bool false), undef, undef, undef, undef, undef, undef, undef, undef, undef, undef, undef, undef, undef, undef, undef, undef, undef, undef, undef], []⟩ W := by
 refine takeW (k := 25) (v := (.bool false)) (by kernel_rfl) (by kernel_rfl) (fun w => by kernel_rfl) (fun w => by kernel_rfl) (fun c a w => hH.dies c a _ _ w) ?_
 refine takeW (k := 26) (v := (.bool false)) (by kernel_rfl) (by kernel_rfl) (fun w => by kernel_rfl) (fun w => by kernel_rfl) (fun c a w => hH.dies c a _ _ w) ?_
 refine takeS (k := 27) (by kernel_rfl) (by kernel_rfl) (fun w => by kernel_rfl) (fun c a w => hH.dies c a _ _ w) ?_
 refine takeS (k := 28) (by kernel_rfl) (by kernel_rfl) (fun w => by kernel_rfl) (fun c a w => hH.dies c a _ _ w) ?_
 refine takeS (k := 29) (by kernel_rfl) (by kernel_rfl) (fun w => by kernel_rfl) (fun c a w => hH.dies c a _ _ w) ?_
 refine takeS (k := 30) (by kernel_rfl) (by kernel_rfl) (fun w => by kernel_rfl) (fun c a w => hH.dies c a _ _ w) ?_
 refine readyS (k := 31) (by kernel_rfl) (by kernel_rfl) ?_
 refine takeS (k := 32) (by kernel_rfl) (by kernel_rfl) (fun w => by kernel_rfl) (fun c a w => hH.dies c a _ _ w) ?_
 refine takeS (k := 33) (by kernel_rfl) (by kernel_rfl) (fun w => by kernel_rfl) (fun c a w => hH.dies c a _ _ w) ?_
 exact canon (by kernel_rfl) (by kernel_rfl) (bf3_34 hH hx hb)
theorem bf4_43 {n : Nat} {Q : Exit → Act → World → Prop} {lg th po wt sp yi T : Int} {sg : Bool} {l B : Nat} {J Jx : World → Prop} (hH : BHyp n Q lg th po wt sp yi T sg l B J Jx) {W : World} (hx : Jx W) (hb : ¬ (0 ≤ sp ∧ sp ≤ T)) : AnyB n Q 1 #[true, true, true, true, true, true, true, true, true, true, true, true, true, true, true, true, true, true, true, true, true, true, true, true, true, true, true, true, true, true, true, true, true, true, true, true, true, true, true, true, true, true, true, false] ⟨#[.agg #[.int .i64 lg, .int .i64 th, .int .i64 po, .int .i64 wt, .int .i64 sp, .int .i64 yi, .bool sg], .func (.yield l) #[] #[], .pointer (some ⟨B, 0, none⟩), undef, (.func (.yield l) #[] #[]), (.pointer (some ⟨B, 0, none⟩)), (.int .i64 lg), (.agg #[.int .i64 1, .int .i64 6]), (.bool true), (.bool true), (.func (.yield l) #[] #[]), (.pointer (some ⟨B, 1, none⟩)), (.int .i64 th), (.agg #[.int .i64 1, .int .i64 16]), (.bool true), (.bool true), (.bool true), (.func (.yield l) #[] #[]), (.pointer (some ⟨B, 2, none⟩)), (.int .i64 po), (.agg #[.int .i64 0, .int .i64 2]), (.bool true), (.bool true), (.bool true), (.func (.yield l) #[] #[]), (.pointer (some ⟨B, 3, none⟩)), (.int .i64 wt), (.agg #[.int .i64 0, .int .i64 3]), (.bool true), (.bool true), (.bool true), (.func (.yield l) #[] #[]), (.pointer (some ⟨B, 4, none⟩)), (.int .i64 sp), (.agg #[.int .i64 lg, .int .i64 th, .int .i64 po, .int .i64 wt, .int .i64 sp, .int .i64 yi, .bool sg]), (.int .i64 T), (.agg #[.int .i64 0, .int .i64 T]), (.bool false), (.bool false), (.bool false), undef, undef, undef, undef, undef, undef, undef, undef], []⟩ W := by
 refine takeW (k := 43) (v := (.bool false)) (by kernel_rfl) (by kernel_rfl) (fun w => by kernel_rfl) (fun w => by kernel_rfl) (fun c a w => hH.dies c a _ _ w) ?_
 exact wpAnyIn_done (by kernel_rfl) (hH.bad _ _ hx (by omega)) _
theorem bf4_34 {n : Nat} {Q : Exit → Act → World → Prop} {lg th po wt sp yi T : Int} {sg : Bool} {l B : Nat} {J Jx : World → Prop} (hH : BHyp n Q lg th po wt sp yi T sg l B J Jx) {W : World} (hx : Jx W) (hb : ¬ (0 ≤ sp ∧ sp ≤ T)) : AnyB n Q 10 #[true, true, true, true, true, true, true, true, true, true, true, true, true, true, true, true, true, true, true, true, true, true, true, true, true, true, true, true, true, true, true, true, true, true, false, false, false, false, false, false, false, false, false, false] ⟨#[.agg #[.int .i64 lg, .int .i64 th, .int .i64 po, .int .i64 wt, .int .i64 sp, .int .i64 yi, .bool sg], .func (.yield l) #[] #[], .pointer (some ⟨B, 0, none⟩), undef, (.func (.yield l) #[] #[]), (.pointer (some ⟨B, 0, none⟩)), (.int .i64 lg), (.agg #[.int .i64 1, .int .i64 6]), (.bool true), (.bool true), (.func (.yield l) #[] #[]), (.pointer (some ⟨B, 1, none⟩)), (.int .i64 th), (.agg #[.int .i64 1, .int .i64 16]), (.bool true), (.bool true), (.bool true), (.func (.yield l) #[] #[]), (.pointer (some ⟨B, 2, none⟩)), (.int .i64 po), (.agg #[.int .i64 0, .int .i64 2]), (.bool true), (.bool true), (.bool true), (.func (.yield l) #[] #[]), (.pointer (some ⟨B, 3, none⟩)), (.int .i64 wt), (.agg #[.int .i64 0, .int .i64 3]), (.bool true), (.bool true), (.bool true), (.func (.yield l) #[] #[]), (.pointer (some ⟨B, 4, none⟩)), (.int .i64 sp), (.agg #[.int .i64 lg, .int .i64 th, .int .i64 po, .int .i64 wt, .int .i64 sp, .int .i64 yi, .bool sg]), (.int .i64 T), (.agg #[.int .i64 0, .int .i64 T]), (.bool false), undef, undef, undef, undef, undef, undef, undef, undef, undef, undef], []⟩ W := by
 refine takeW (k := 34) (v := (.bool false)) (by kernel_rfl) (by kernel_rfl) (fun w => by kernel_rfl) (fun w => by kernel_rfl) (fun c a w => hH.dies c a _ _ w) ?_
 refine takeW (k := 35) (v := (.bool false)) (by kernel_rfl) (by kernel_rfl) (fun w => by kernel_rfl) (fun w => by kernel_rfl) (fun c a w => hH.dies c a _ _ w) ?_
 refine takeS (k := 36) (by kernel_rfl) (by kernel_rfl) (fun w => by kernel_rfl) (fun c a w => hH.dies c a _ _ w) ?_
 refine takeS (k := 37) (by kernel_rfl) (by kernel_rfl) (fun w => by kernel_rfl) (fun c a w => hH.dies c a _ _ w) ?_
 refine takeS (k := 38) (by kernel_rfl) (by kernel_rfl) (fun w => by kernel_rfl) (fun c a w => hH.dies c a _ _ w) ?_
 refine takeS (k := 39) (by kernel_rfl) (by kernel_rfl) (fun w => by kernel_rfl) (fun c a w => hH.dies c a _ _ w) ?_
 refine readyS (k := 40) (by kernel_rfl) (by kernel_rfl) ?_
 refine takeS (k := 41) (by kernel_rfl) (by kernel_rfl) (fun w => by kernel_rfl) (fun c a w => hH.dies c a _ _ w) ?_
 refine takeS (k := 42) (by kernel_rfl) (by kernel_rfl) (fun w => by kernel_rfl) (fun c a w => hH.dies c a _ _ w) ?_
 exact canon (by kernel_rfl) (by kernel_rfl) (bf4_43 hH hx hb)
theorem bf5_43 {n : Nat} {Q : Exit → Act → World → Prop} {lg th po wt sp yi T : Int} {sg : Bool} {l B : Nat} {J Jx : World → Prop} (hH : BHyp n Q lg th po wt sp yi T sg l B J Jx) {W : World} (hx : Jx W) (hb : ¬ (0 ≤ yi ∧ yi ≤ T)) : AnyB n Q 1 #[true, true, true, true, true, true, true, true, true, true, true, true, true, true, true, true, true, true, true, true, true, true, true, true, true, true, true, true, true, true, true, true, true, true, true, true, true, true, true, true, true, true, true, false] ⟨#[.agg #[.int .i64 lg, .int .i64 th, .int .i64 po, .int .i64 wt, .int .i64 sp, .int .i64 yi, .bool sg], .func (.yield l) #[] #[], .pointer (some ⟨B, 0, none⟩), undef, (.func (.yield l) #[] #[]), (.pointer (some ⟨B, 0, none⟩)), (.int .i64 lg), (.agg #[.int .i64 1, .int .i64 6]), (.bool true), (.bool true), (.func (.yield l) #[] #[]), (.pointer (some ⟨B, 1, none⟩)), (.int .i64 th), (.agg #[.int .i64 1, .int .i64 16]), (.bool true), (.bool true), (.bool true), (.func (.yield l) #[] #[]), (.pointer (some ⟨B, 2, none⟩)), (.int .i64 po), (.agg #[.int .i64 0, .int .i64 2]), (.bool true), (.bool true), (.bool true), (.func (.yield l) #[] #[]), (.pointer (some ⟨B, 3, none⟩)), (.int .i64 wt), (.agg #[.int .i64 0, .int .i64 3]), (.bool true), (.bool true), (.bool true), (.func (.yield l) #[] #[]), (.pointer (some ⟨B, 4, none⟩)), (.int .i64 sp), (.agg #[.int .i64 lg, .int .i64 th, .int .i64 po, .int .i64 wt, .int .i64 sp, .int .i64 yi, .bool sg]), (.int .i64 T), (.agg #[.int .i64 0, .int .i64 T]), (.bool true), (.bool true), (.bool true), (.func (.yield l) #[] #[]), (.pointer (some ⟨B, 5, none⟩)), (.int .i64 yi), (.agg #[.int .i64 lg, .int .i64 th, .int .i64 po, .int .i64 wt, .int .i64 sp, .int .i64 yi, .bool sg]), (.int .i64 T), (.agg #[.int .i64 0, .int .i64 T]), (.bool false), undef], []⟩ W := by
 refine takeW (k := 43) (v := (.bool false)) (by kernel_rfl) (by kernel_rfl) (fun w => by kernel_rfl) (fun w => by kernel_rfl) (fun c a w => hH.dies c a _ _ w) ?_
 exact wpAnyIn_done (by kernel_rfl) (hH.bad _ _ hx (by omega)) _
theorem bt5 {n : Nat} {Q : Exit → Act → World → Prop} {lg th po wt sp yi T : Int} {sg : Bool} {l B : Nat} {J Jx : World → Prop} (hH : BHyp n Q lg th po wt sp yi T sg l B J Jx) {W0 : World} (h0 : J W0) (hp : 1 ≤ lg ∧ lg ≤ 6 ∧ 1 ≤ th ∧ th ≤ 16 ∧ 0 ≤ po ∧ po ≤ 2 ∧ 0 ≤ wt ∧ wt ≤ 3 ∧ 0 ≤ sp ∧ sp ≤ T) : AnyB n Q 2 #[true, true, true, true, true, true, true, true, true, true, true, true, true, true, true, true, true, true, true, true, true, true, true, true, true, true, true, true, true, true, true, true, true, true, true, true, true, true, true, true, true, true, false, false] ⟨#[.agg #[.int .i64 lg, .int .i64 th, .int .i64 po, .int .i64 wt, .int .i64 sp, .int .i64 yi, .bool sg], .func (.yield l) #[] #[], .pointer (some ⟨B, 0, none⟩), undef, (.func (.yield l) #[] #[]), (.pointer (some ⟨B, 0, none⟩)), (.int .i64 lg), (.agg #[.int .i64 1, .int .i64 6]), (.bool true), (.bool true), (.func (.yield l) #[] #[]), (.pointer (some ⟨B, 1, none⟩)), (.int .i64 th), (.agg #[.int .i64 1, .int .i64 16]), (.bool true), (.bool true), (.bool true), (.func (.yield l) #[] #[]), (.pointer (some ⟨B, 2, none⟩)), (.int .i64 po), (.agg #[.int .i64 0, .int .i64 2]), (.bool true), (.bool true), (.bool true), (.func (.yield l) #[] #[]), (.pointer (some ⟨B, 3, none⟩)), (.int .i64 wt), (.agg #[.int .i64 0, .int .i64 3]), (.bool true), (.bool true), (.bool true), (.func (.yield l) #[] #[]), (.pointer (some ⟨B, 4, none⟩)), (.int .i64 sp), (.agg #[.int .i64 lg, .int .i64 th, .int .i64 po, .int .i64 wt, .int .i64 sp, .int .i64 yi, .bool sg]), (.int .i64 T), (.agg #[.int .i64 0, .int .i64 T]), (.bool true), (.bool true), (.bool true), (.func (.yield l) #[] #[]), (.pointer (some ⟨B, 5, none⟩)), (.int .i64 yi), (.agg #[.int .i64 lg, .int .i64 th, .int .i64 po, .int .i64 wt, .int .i64 sp, .int .i64 yi, .bool sg]), (.int .i64 T), (.agg #[.int .i64 0, .int .i64 T]), undef, undef], []⟩ W0 := by
 obtain ⟨f, t, ac, bd, hy, hr⟩ := hH.round _ yi 0 T h0
 refine only (k := 42) (by kernel_rfl) (wayY (by kernel_rfl) (by kernel_rfl) ((show _ = (Instr.yield l #[.int .i64 yi, .agg #[.int .i64 0, .int .i64 T]]).run Tryz.prog _ by kernel_rfl).trans hy) hr ?_)
 rintro c W (⟨rfl, hc, hw⟩ | ⟨rfl, hc, hx⟩)
 case inr => exact canon (by kernel_rfl) (by kernel_rfl) (bf5_43 hH hx hc)
 case inl =>
  refine takeW (k := 43) (v := (.bool true)) (by kernel_rfl) (by kernel_rfl) (fun w => by kernel_rfl) (fun w => by kernel_rfl) (fun c a w => hH.dies c a _ _ w) ?_
  exact wpAnyIn_done (by kernel_rfl) (hH.good _ _ hw (by omega)) _
theorem bs5 {n : Nat} {Q : Exit → Act → World → Prop} {lg th po wt sp yi T : Int} {sg : Bool} {l B : Nat} {J Jx : World → Prop} (hH : BHyp n Q lg th po wt sp yi T sg l B J Jx) {W0 : World} (h0 : J W0) (hp : 1 ≤ lg ∧ lg ≤ 6 ∧ 1 ≤ th ∧ th ≤ 16 ∧ 0 ≤ po ∧ po ≤ 2 ∧ 0 ≤ wt ∧ wt ≤ 3 ∧ 0 ≤ sp ∧ sp ≤ T) : AnyB n Q 8 #[true, true, true, true, true, true, true, true, true, true, true, true, true, true, true, true, true, true, true, true, true, true, true, true, true, true, true, true, true, true, true, true, true, true, true, true, false, false, false, false, false, false, false, false] ⟨#[.agg #[.int .i64 lg, .int .i64 th, .int .i64 po, .int .i64 wt, .int .i64 sp, .int .i64 yi, .bool sg], .func (.yield l) #[] #[], .pointer (some ⟨B, 0, none⟩), undef, (.func (.yield l) #[] #[]), (.pointer (some ⟨B, 0, none⟩)), (.int .i64 lg), (.agg #[.int .i64 1, .int .i64 6]), (.bool true), (.bool true), (.func (.yield l) #[] #[]), (.pointer (some ⟨B, 1, none⟩)), (.int .i64 th), (.agg #[.int .i64 1, .int .i64 16]), (.bool true), (.bool true), (.bool true), (.func (.yield l) #[] #[]), (.pointer (some ⟨B, 2, none⟩)), (.int .i64 po), (.agg #[.int .i64 0, .int .i64 2]), (.bool true), (.bool true), (.bool true), (.func (.yield l) #[] #[]), (.pointer (some ⟨B, 3, none⟩)), (.int .i64 wt), (.agg #[.int .i64 0, .int .i64 3]), (.bool true), (.bool true), (.bool true), (.func (.yield l) #[] #[]), (.pointer (some ⟨B, 4, none⟩)), (.int .i64 sp), (.agg #[.int .i64 lg, .int .i64 th, .int .i64 po, .int .i64 wt, .int .i64 sp, .int .i64 yi, .bool sg]), (.int .i64 T), (.agg #[.int .i64 0, .int .i64 T]), (.bool true), (.bool true), (.bool true), undef, undef, undef, undef, undef, undef, undef, undef], []⟩ W0 := by
 refine takeW (k := 36) (v := (.func (.yield l) #[] #[])) (by kernel_rfl) (by kernel_rfl) (fun w => by kernel_rfl) (fun w => by kernel_rfl) (fun c a w => hH.dies c a _ _ w) ?_
 refine takeW (k := 37) (v := (.pointer (some ⟨B, 5, none⟩))) (by kernel_rfl) (by kernel_rfl) (fun w => by kernel_rfl) (fun w => by kernel_rfl) (fun c a w => hH.dies c a _ _ w) ?_
 refine two (i := 38) (j := 39) (by kernel_rfl) (wayV (by kernel_rfl) (by kernel_rfl) (ld38 hH h0 (by kernel_rfl)) ?_) (wayV (by kernel_rfl) (by kernel_rfl) (ld39 hH h0 (by kernel_rfl)) ?_)
 ·refine only (k := 39) (by kernel_rfl) (wayV (by kernel_rfl) (by kernel_rfl) (ld39 hH h0 (by kernel_rfl)) ?_)
  refine only (k := 40) (by kernel_rfl) (wayC (by kernel_rfl) (by kernel_rfl) (show _ = Result.ok (Next.enter 78 #[.agg #[.int .i64 lg, .int .i64 th, .int .i64 po, .int .i64 wt, .int .i64 sp, .int .i64 yi, .bool sg]]) _ by kernel_rfl) (fun m => hH.tries _ m h0) ?_)
  rintro v W ⟨rfl, hw⟩
  refine takeW (k := 41) (v := (.agg #[.int .i64 0, .int .i64 T])) (by kernel_rfl) (by kernel_rfl) (fun w => by kernel_rfl) (fun w => by kernel_rfl) (fun c a w => hH.dies c a _ _ w) ?_
  exact canon (by kernel_rfl) (by kernel_rfl) (bt5 hH hw hp)
 ·refine two (i := 38) (j := 40) (by kernel_rfl) (wayV (by kernel_rfl) (by kernel_rfl) (ld38 hH h0 (by kernel_rfl)) ?_) (wayC (by kernel_rfl) (by kernel_rfl) (show _ = Result.ok (Next.enter 78 #[.agg #[.int .i64 lg, .int .i64 th, .int .i64 po, .int .i64 wt, .int .i64 sp, .int .i64 yi, .bool sg]]) _ by kernel_rfl) (fun m => hH.tries _ m h0) ?_)
  ·refine only (k := 40) (by kernel_rfl) (wayC (by kernel_rfl) (by kernel_rfl) (show _ = Result.ok (Next.enter 78 #[.agg #[.int .i64 lg, .int .i64 th, .int .i64 po, .int .i64 wt, .int .i64 sp, .int .i64 yi, .bool sg]]) _ by kernel_rfl) (fun m => hH.tries _ m h0) ?_)
   rintro v W ⟨rfl, hw⟩
   refine takeW (k := 41) (v := (.agg #[.int .i64 0, .int .i64 T])) (by kernel_rfl) (by kernel_rfl) (fun w => by kernel_rfl) (fun w => by kernel_rfl) (fun c a w => hH.dies c a _ _ w) ?_
   exact canon (by kernel_rfl) (by kernel_rfl) (bt5 hH hw hp)
  ·rintro v W ⟨rfl, hw⟩
   refine takeW (k := 41) (v := (.agg #[.int .i64 0, .int .i64 T])) (by kernel_rfl) (by kernel_rfl) (fun w => by kernel_rfl) (fun w => by kernel_rfl) (fun c a w => hH.dies c a _ _ w) ?_
   refine only (k := 38) (by kernel_rfl) (wayV (by kernel_rfl) (by kernel_rfl) (ld38 hH hw (by kernel_rfl)) ?_)
   exact canon (by kernel_rfl) (by kernel_rfl) (bt5 hH hw hp)
theorem bt4 {n : Nat} {Q : Exit → Act → World → Prop} {lg th po wt sp yi T : Int} {sg : Bool} {l B : Nat} {J Jx : World → Prop} (hH : BHyp n Q lg th po wt sp yi T sg l B J Jx) {W0 : World} (h0 : J W0) (hp : 1 ≤ lg ∧ lg ≤ 6 ∧ 1 ≤ th ∧ th ≤ 16 ∧ 0 ≤ po ∧ po ≤ 2 ∧ 0 ≤ wt ∧ wt ≤ 3) : AnyB n Q 11 #[true, true, true, true, true, true, true, true, true, true, true, true, true, true, true, true, true, true, true, true, true, true, true, true, true, true, true, true, true, true, true, true, true, false, false, false, false, false, false, false, false, false, false, false] ⟨#[.agg #[.int .i64 lg, .int .i64 th, .int .i64 po, .int .i64 wt, .int .i64 sp, .int .i64 yi, .bool sg], .func (.yield l) #[] #[], .pointer (some ⟨B, 0, none⟩), undef, (.func (.yield l) #[] #[]), (.pointer (some ⟨B, 0, none⟩)), (.int .i64 lg), (.agg #[.int .i64 1, .int .i64 6]), (.bool true), (.bool true), (.func (.yield l) #[] #[]), (.pointer (some ⟨B, 1, none⟩)), (.int .i64 th), (.agg #[.int .i64 1, .int .i64 16]), (.bool true), (.bool true), (.bool true), (.func (.yield l) #[] #[]), (.pointer (some ⟨B, 2, none⟩)), (.int .i64 po), (.agg #[.int .i64 0, .int .i64 2]), (.bool true), (.bool true), (.bool true), (.func (.yield l) #[] #[]), (.pointer (some ⟨B, 3, none⟩)), (.int .i64 wt), (.agg #[.int .i64 0, .int .i64 3]), (.bool true), (.bool true), (.bool true), (.func (.yield l) #[] #[]), (.pointer (some ⟨B, 4, none⟩)), (.int .i64 sp), (.agg #[.int .i64 lg, .int .i64 th, .int .i64 po, .int .i64 wt, .int .i64 sp, .int .i64 yi, .bool sg]), (.int .i64 T), (.agg #[.int .i64 0, .int .i64 T]), undef, undef, undef, undef, undef, undef, undef, undef, undef, undef, undef], []⟩ W0 := by
 obtain ⟨f, t, ac, bd, hy, hr⟩ := hH.round _ sp 0 T h0
 refine only (k := 33) (by kernel_rfl) (wayY (by kernel_rfl) (by kernel_rfl) ((show _ = (Instr.yield l #[.int .i64 sp, .agg #[.int .i64 0, .int .i64 T]]).run Tryz.prog _ by kernel_rfl).trans hy) hr ?_)
 rintro c W (⟨rfl, hc, hw⟩ | ⟨rfl, hc, hx⟩)
 case inr => exact canon (by kernel_rfl) (by kernel_rfl) (bf4_34 hH hx hc)
 case inl =>
  refine takeW (k := 34) (v := (.bool true)) (by kernel_rfl) (by kernel_rfl) (fun w => by kernel_rfl) (fun w => by kernel_rfl) (fun c a w => hH.dies c a _ _ w) ?_
  refine takeW (k := 35) (v := (.bool true)) (by kernel_rfl) (by kernel_rfl) (fun w => by kernel_rfl) (fun w => by kernel_rfl) (fun c a w => hH.dies c a _ _ w) ?_
  exact canon (by kernel_rfl) (by kernel_rfl) (bs5 hH hw (by omega))
theorem bs4 {n : Nat} {Q : Exit → Act → World → Prop} {lg th po wt sp yi T : Int} {sg : Bool} {l B : Nat} {J Jx : World → Prop} (hH : BHyp n Q lg th po wt sp yi T sg l B J Jx) {W0 : World} (h0 : J W0) (hp : 1 ≤ lg ∧ lg ≤ 6 ∧ 1 ≤ th ∧ th ≤ 16 ∧ 0 ≤ po ∧ po ≤ 2 ∧ 0 ≤ wt ∧ wt ≤ 3) : AnyB n Q 17 #[true, true, true, true, true, true, true, true, true, true, true, true, true, true, true, true, true, true, true, true, true, true, true, true, true, true, true, false, false, false, false, false, false, false, false, false, false, false, false, false, false, false, false, false] ⟨#[.agg #[.int .i64 lg, .int .i64 th, .int .i64 po, .int .i64 wt, .int .i64 sp, .int .i64 yi, .bool sg], .func (.yield l) #[] #[], .pointer (some ⟨B, 0, none⟩), undef, (.func (.yield l) #[] #[]), (.pointer (some ⟨B, 0, none⟩)), (.int .i64 lg), (.agg #[.int .i64 1, .int .i64 6]), (.bool true), (.bool true), (.func (.yield l) #[] #[]), (.pointer (some ⟨B, 1, none⟩)), (.int .i64 th), (.agg #[.int .i64 1, .int .i64 16]), (.bool true), (.bool true), (.bool true), (.func (.yield l) #[] #[]), (.pointer (some ⟨B, 2, none⟩)), (.int .i64 po), (.agg #[.int .i64 0, .int .i64 2]), (.bool true), (.bool true), (.bool true), (.func (.yield l) #[] #[]), (.pointer (some ⟨B, 3, none⟩)), (.int .i64 wt), (.agg #[.int .i64 0, .int .i64 3]), (.bool true), (.bool true), (.bool true), undef, undef, undef, undef, undef, undef, undef, undef, undef, undef, undef, undef, undef, undef, undef, undef, undef], []⟩ W0 := by
 refine takeW (k := 27) (v := (.func (.yield l) #[] #[])) (by kernel_rfl) (by kernel_rfl) (fun w => by kernel_rfl) (fun w => by kernel_rfl) (fun c a w => hH.dies c a _ _ w) ?_
 refine takeW (k := 28) (v := (.pointer (some ⟨B, 4, none⟩))) (by kernel_rfl) (by kernel_rfl) (fun w => by kernel_rfl) (fun w => by kernel_rfl) (fun c a w => hH.dies c a _ _ w) ?_
 refine two (i := 29) (j := 30) (by kernel_rfl) (wayV (by kernel_rfl) (by kernel_rfl) (ld29 hH h0 (by kernel_rfl)) ?_) (wayV (by kernel_rfl) (by kernel_rfl) (ld30 hH h0 (by kernel_rfl)) ?_)
 ·refine only (k := 30) (by kernel_rfl) (wayV (by kernel_rfl) (by kernel_rfl) (ld30 hH h0 (by kernel_rfl)) ?_)
  refine only (k := 31) (by kernel_rfl) (wayC (by kernel_rfl) (by kernel_rfl) (show _ = Result.ok (Next.enter 78 #[.agg #[.int .i64 lg, .int .i64 th, .int .i64 po, .int .i64 wt, .int .i64 sp, .int .i64 yi, .bool sg]]) _ by kernel_rfl) (fun m => hH.tries _ m h0) ?_)
  rintro v W ⟨rfl, hw⟩
  refine takeW (k := 32) (v := (.agg #[.int .i64 0, .int .i64 T])) (by kernel_rfl) (by kernel_rfl) (fun w => by kernel_rfl) (fun w => by kernel_rfl) (fun c a w => hH.dies c a _ _ w) ?_
  exact canon (by kernel_rfl) (by kernel_rfl) (bt4 hH hw hp)
 ·refine two (i := 29) (j := 31) (by kernel_rfl) (wayV (by kernel_rfl) (by kernel_rfl) (ld29 hH h0 (by kernel_rfl)) ?_) (wayC (by kernel_rfl) (by kernel_rfl) (show _ = Result.ok (Next.enter 78 #[.agg #[.int .i64 lg, .int .i64 th, .int .i64 po, .int .i64 wt, .int .i64 sp, .int .i64 yi, .bool sg]]) _ by kernel_rfl) (fun m => hH.tries _ m h0) ?_)
  ·refine only (k := 31) (by kernel_rfl) (wayC (by kernel_rfl) (by kernel_rfl) (show _ = Result.ok (Next.enter 78 #[.agg #[.int .i64 lg, .int .i64 th, .int .i64 po, .int .i64 wt, .int .i64 sp, .int .i64 yi, .bool sg]]) _ by kernel_rfl) (fun m => hH.tries _ m h0) ?_)
   rintro v W ⟨rfl, hw⟩
   refine takeW (k := 32) (v := (.agg #[.int .i64 0, .int .i64 T])) (by kernel_rfl) (by kernel_rfl) (fun w => by kernel_rfl) (fun w => by kernel_rfl) (fun c a w => hH.dies c a _ _ w) ?_
   exact canon (by kernel_rfl) (by kernel_rfl) (bt4 hH hw hp)
  ·rintro v W ⟨rfl, hw⟩
   refine takeW (k := 32) (v := (.agg #[.int .i64 0, .int .i64 T])) (by kernel_rfl) (by kernel_rfl) (fun w => by kernel_rfl) (fun w => by kernel_rfl) (fun c a w => hH.dies c a _ _ w) ?_
   refine only (k := 29) (by kernel_rfl) (wayV (by kernel_rfl) (by kernel_rfl) (ld29 hH hw (by kernel_rfl)) ?_)
   exact canon (by kernel_rfl) (by kernel_rfl) (bt4 hH hw hp)
theorem bs3 {n : Nat} {Q : Exit → Act → World → Prop} {lg th po wt sp yi T : Int} {sg : Bool} {l B : Nat} {J Jx : World → Prop} (hH : BHyp n Q lg th po wt sp yi T sg l B J Jx) {W0 : World} (h0 : J W0) (hp : 1 ≤ lg ∧ lg ≤ 6 ∧ 1 ≤ th ∧ th ≤ 16 ∧ 0 ≤ po ∧ po ≤ 2) : AnyB n Q 24 #[true, true, true, true, true, true, true, true, true, true, true, true, true, true, true, true, true, true, true, true, false, false, false, false, false, false, false, false, false, false, false, false, false, false, false, false, false, false, false, false, false, false, false, false] ⟨#[.agg #[.int .i64 lg, .int .i64 th, .int .i64 po, .int .i64 wt, .int .i64 sp, .int .i64 yi, .bool sg], .func (.yield l) #[] #[], .pointer (some ⟨B, 0, none⟩), undef, (.func (.yield l) #[] #[]), (.pointer (some ⟨B, 0, none⟩)), (.int .i64 lg), (.agg #[.int .i64 1, .int .i64 6]), (.bool true), (.bool true), (.func (.yield l) #[] #[]), (.pointer (some ⟨B, 1, none⟩)), (.int .i64 th), (.agg #[.int .i64 1, .int .i64 16]), (.bool true), (.bool true), (.bool true), (.func (.yield l) #[] #[]), (.pointer (some ⟨B, 2, none⟩)), (.int .i64 po), (.agg #[.int .i64 0, .int .i64 2]), (.bool true), (.bool true), (.bool true), undef, undef, undef, undef, undef, undef, undef, undef, undef, undef, undef, undef, undef, undef, undef, undef, undef, undef, undef, undef, undef, undef, undef, undef], []⟩ W0 := by
 refine takeW (k := 20) (v := (.func (.yield l) #[] #[])) (by kernel_rfl) (by kernel_rfl) (fun w => by kernel_rfl) (fun w => by kernel_rfl) (fun c a w => hH.dies c a _ _ w) ?_
 refine takeW (k := 21) (v := (.pointer (some ⟨B, 3, none⟩))) (by kernel_rfl) (by kernel_rfl) (fun w => by kernel_rfl) (fun w => by kernel_rfl) (fun c a w => hH.dies c a _ _ w) ?_
 refine takeW (k := 23) (v := (.agg #[.int .i64 0, .int .i64 3])) (by kernel_rfl) (by kernel_rfl) (fun w => by kernel_rfl) (fun w => by kernel_rfl) (fun c a w => hH.dies c a _ _ w) ?_
 refine only (k := 22) (by kernel_rfl) (wayV (by kernel_rfl) (by kernel_rfl) (ld22 hH h0 (by kernel_rfl)) ?_)
 obtain ⟨f, t, ac, bd, hy, hr⟩ := hH.round _ wt 0 3 h0
 refine only (k := 24) (by kernel_rfl) (wayY (by kernel_rfl) (by kernel_rfl) ((show _ = (Instr.yield l #[.int .i64 wt, .agg #[.int .i64 0, .int .i64 3]]).run Tryz.prog _ by kernel_rfl).trans hy) hr ?_)
 rintro c W (⟨rfl, hc, hw⟩ | ⟨rfl, hc, hx⟩)
 case inr => exact canon (by kernel_rfl) (by kernel_rfl) (bf3_25 hH hx hc)
 case inl =>
  refine takeW (k := 25) (v := (.bool true)) (by kernel_rfl) (by kernel_rfl) (fun w => by kernel_rfl) (fun w => by kernel_rfl) (fun c a w => hH.dies c a _ _ w) ?_
  refine takeW (k := 26) (v := (.bool true)) (by kernel_rfl) (by kernel_rfl) (fun w => by kernel_rfl) (fun w => by kernel_rfl) (fun c a w => hH.dies c a _ _ w) ?_
  exact canon (by kernel_rfl) (by kernel_rfl) (bs4 hH hw (by omega))
theorem bs2 {n : Nat} {Q : Exit → Act → World → Prop} {lg th po wt sp yi T : Int} {sg : Bool} {l B : Nat} {J Jx : World → Prop} (hH : BHyp n Q lg th po wt sp yi T sg l B J Jx) {W0 : World} (h0 : J W0) (hp : 1 ≤ lg ∧ lg ≤ 6 ∧ 1 ≤ th ∧ th ≤ 16) : AnyB n Q 31 #[true, true, true, true, true, true, true, true, true, true, true, true, true, false, false, false, false, false, false, false, false, false, false, false, false, false, false, false, false, false, false, false, false, false, false, false, false, false, false, false, false, false, false, false] ⟨#[.agg #[.int .i64 lg, .int .i64 th, .int .i64 po, .int .i64 wt, .int .i64 sp, .int .i64 yi, .bool sg], .func (.yield l) #[] #[], .pointer (some ⟨B, 0, none⟩), undef, (.func (.yield l) #[] #[]), (.pointer (some ⟨B, 0, none⟩)), (.int .i64 lg), (.agg #[.int .i64 1, .int .i64 6]), (.bool true), (.bool true), (.func (.yield l) #[] #[]), (.pointer (some ⟨B, 1, none⟩)), (.int .i64 th), (.agg #[.int .i64 1, .int .i64 16]), (.bool true), (.bool true), (.bool true), undef, undef, undef, undef, undef, undef, undef, undef, undef, undef, undef, undef, undef, undef, undef, undef, undef, undef, undef, undef, undef, undef, undef, undef, undef, undef, undef, undef, undef, undef, undef], []⟩ W0 := by
 refine takeW (k := 13) (v := (.func (.yield l) #[] #[])) (by kernel_rfl) (by kernel_rfl) (fun w => by kernel_rfl) (fun w => by kernel_rfl) (fun c a w => hH.dies c a _ _ w) ?_
 refine takeW (k := 14) (v := (.pointer (some ⟨B, 2, none⟩))) (by kernel_rfl) (by kernel_rfl) (fun w => by kernel_rfl) (fun w => by kernel_rfl) (fun c a w => hH.dies c a _ _ w) ?_
 refine takeW (k := 16) (v := (.agg #[.int .i64 0, .int .i64 2])) (by kernel_rfl) (by kernel_rfl) (fun w => by kernel_rfl) (fun w => by kernel_rfl) (fun c a w => hH.dies c a _ _ w) ?_
 refine only (k := 15) (by kernel_rfl) (wayV (by kernel_rfl) (by kernel_rfl) (ld15 hH h0 (by kernel_rfl)) ?_)
 obtain ⟨f, t, ac, bd, hy, hr⟩ := hH.round _ po 0 2 h0
 refine only (k := 17) (by kernel_rfl) (wayY (by kernel_rfl) (by kernel_rfl) ((show _ = (Instr.yield l #[.int .i64 po, .agg #[.int .i64 0, .int .i64 2]]).run Tryz.prog _ by kernel_rfl).trans hy) hr ?_)
 rintro c W (⟨rfl, hc, hw⟩ | ⟨rfl, hc, hx⟩)
 case inr => exact canon (by kernel_rfl) (by kernel_rfl) (bf2_18 hH hx hc)
 case inl =>
  refine takeW (k := 18) (v := (.bool true)) (by kernel_rfl) (by kernel_rfl) (fun w => by kernel_rfl) (fun w => by kernel_rfl) (fun c a w => hH.dies c a _ _ w) ?_
  refine takeW (k := 19) (v := (.bool true)) (by kernel_rfl) (by kernel_rfl) (fun w => by kernel_rfl) (fun w => by kernel_rfl) (fun c a w => hH.dies c a _ _ w) ?_
  exact canon (by kernel_rfl) (by kernel_rfl) (bs3 hH hw (by omega))
theorem bs1 {n : Nat} {Q : Exit → Act → World → Prop} {lg th po wt sp yi T : Int} {sg : Bool} {l B : Nat} {J Jx : World → Prop} (hH : BHyp n Q lg th po wt sp yi T sg l B J Jx) {W0 : World} (h0 : J W0) (hp : 1 ≤ lg ∧ lg ≤ 6) : AnyB n Q 38 #[true, true, true, true, true, true, false, false, false, false, false, false, false, false, false, false, false, false, false, false, false, false, false, false, false, false, false, false, false, false, false, false, false, false, false, false, false, false, false, false, false, false, false, false] ⟨#[.agg #[.int .i64 lg, .int .i64 th, .int .i64 po, .int .i64 wt, .int .i64 sp, .int .i64 yi, .bool sg], .func (.yield l) #[] #[], .pointer (some ⟨B, 0, none⟩), undef, (.func (.yield l) #[] #[]), (.pointer (some ⟨B, 0, none⟩)), (.int .i64 lg), (.agg #[.int .i64 1, .int .i64 6]), (.bool true), (.bool true), undef, undef, undef, undef, undef, undef, undef, undef, undef, undef, undef, undef, undef, undef, undef, undef, undef, undef, undef, undef, undef, undef, undef, undef, undef, undef, undef, undef, undef, undef, undef, undef, undef, undef, undef, undef, undef, undef], []⟩ W0 := by
 refine takeW (k := 6) (v := (.func (.yield l) #[] #[])) (by kernel_rfl) (by kernel_rfl) (fun w => by kernel_rfl) (fun w => by kernel_rfl) (fun c a w => hH.dies c a _ _ w) ?_
 refine takeW (k := 7) (v := (.pointer (some ⟨B, 1, none⟩))) (by kernel_rfl) (by kernel_rfl) (fun w => by kernel_rfl) (fun w => by kernel_rfl) (fun c a w => hH.dies c a _ _ w) ?_
 refine takeW (k := 9) (v := (.agg #[.int .i64 1, .int .i64 16])) (by kernel_rfl) (by kernel_rfl) (fun w => by kernel_rfl) (fun w => by kernel_rfl) (fun c a w => hH.dies c a _ _ w) ?_
 refine only (k := 8) (by kernel_rfl) (wayV (by kernel_rfl) (by kernel_rfl) (ld8 hH h0 (by kernel_rfl)) ?_)
 obtain ⟨f, t, ac, bd, hy, hr⟩ := hH.round _ th 1 16 h0
 refine only (k := 10) (by kernel_rfl) (wayY (by kernel_rfl) (by kernel_rfl) ((show _ = (Instr.yield l #[.int .i64 th, .agg #[.int .i64 1, .int .i64 16]]).run Tryz.prog _ by kernel_rfl).trans hy) hr ?_)
 rintro c W (⟨rfl, hc, hw⟩ | ⟨rfl, hc, hx⟩)
 case inr => exact canon (by kernel_rfl) (by kernel_rfl) (bf1_11 hH hx hc)
 case inl =>
  refine takeW (k := 11) (v := (.bool true)) (by kernel_rfl) (by kernel_rfl) (fun w => by kernel_rfl) (fun w => by kernel_rfl) (fun c a w => hH.dies c a _ _ w) ?_
  refine takeW (k := 12) (v := (.bool true)) (by kernel_rfl) (by kernel_rfl) (fun w => by kernel_rfl) (fun w => by kernel_rfl) (fun c a w => hH.dies c a _ _ w) ?_
  exact canon (by kernel_rfl) (by kernel_rfl) (bs2 hH hw (by omega))
theorem bs0 {n : Nat} {Q : Exit → Act → World → Prop} {lg th po wt sp yi T : Int} {sg : Bool} {l B : Nat} {J Jx : World → Prop} (hH : BHyp n Q lg th po wt sp yi T sg l B J Jx) {W0 : World} (h0 : J W0) (hp : True) : AnyB n Q 44 #[false, false, false, false, false, false, false, false, false, false, false, false, false, false, false, false, false, false, false, false, false, false, false, false, false, false, false, false, false, false, false, false, false, false, false, false, false, false, false, false, false, false, false, false] ⟨#[.agg #[.int .i64 lg, .int .i64 th, .int .i64 po, .int .i64 wt, .int .i64 sp, .int .i64 yi, .bool sg], .func (.yield l) #[] #[], .pointer (some ⟨B, 0, none⟩), undef, undef, undef, undef, undef, undef, undef, undef, undef, undef, undef, undef, undef, undef, undef, undef, undef, undef, undef, undef, undef, undef, undef, undef, undef, undef, undef, undef, undef, undef, undef, undef, undef, undef, undef, undef, undef, undef, undef, undef, undef, undef, undef, undef, undef], []⟩ W0 := by
 refine takeW (k := 0) (v := (.func (.yield l) #[] #[])) (by kernel_rfl) (by kernel_rfl) (fun w => by kernel_rfl) (fun w => by kernel_rfl) (fun c a w => hH.dies c a _ _ w) ?_
 refine takeW (k := 1) (v := (.pointer (some ⟨B, 0, none⟩))) (by kernel_rfl) (by kernel_rfl) (fun w => by kernel_rfl) (fun w => by kernel_rfl) (fun c a w => hH.dies c a _ _ w) ?_
 refine takeW (k := 3) (v := (.agg #[.int .i64 1, .int .i64 6])) (by kernel_rfl) (by kernel_rfl) (fun w => by kernel_rfl) (fun w => by kernel_rfl) (fun c a w => hH.dies c a _ _ w) ?_
 refine only (k := 2) (by kernel_rfl) (wayV (by kernel_rfl) (by kernel_rfl) (ld2 hH h0 (by kernel_rfl)) ?_)
 obtain ⟨f, t, ac, bd, hy, hr⟩ := hH.round _ lg 1 6 h0
 refine only (k := 4) (by kernel_rfl) (wayY (by kernel_rfl) (by kernel_rfl) ((show _ = (Instr.yield l #[.int .i64 lg, .agg #[.int .i64 1, .int .i64 6]]).run Tryz.prog _ by kernel_rfl).trans hy) hr ?_)
 rintro c W (⟨rfl, hc, hw⟩ | ⟨rfl, hc, hx⟩)
 case inr => exact canon (by kernel_rfl) (by kernel_rfl) (bf0_5 hH hx hc)
 case inl =>
  refine takeW (k := 5) (v := (.bool true)) (by kernel_rfl) (by kernel_rfl) (fun w => by kernel_rfl) (fun w => by kernel_rfl) (fun c a w => hH.dies c a _ _ w) ?_
  exact canon (by kernel_rfl) (by kernel_rfl) (bs1 hH hw (by omega))
end Go.Own
end
