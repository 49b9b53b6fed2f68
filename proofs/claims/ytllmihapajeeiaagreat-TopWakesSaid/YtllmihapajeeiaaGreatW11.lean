/- What stands behind it, part 11. -/
import Derived.Test.YtllmihapajeeiaaGreatW10
set_option linter.unusedVariables false
set_option linter.unusedSimpArgs false
section
namespace Go.Own
open Go Go.Proofs
set_option maxRecDepth 100000
abbrev Prs := List (Int × Int)
def pa (P : Prs) : List Int := P.map (·.1)
def pi (P : Prs) : List Int := P.map (·.2)
theorem pa_len (P : Prs) : (pa P).length = P.length := by simp [pa]
theorem pi_len (P : Prs) : (pi P).length = P.length := by simp [pi]
theorem zip_P : ∀ P : Prs, (pa P).zip (pi P) = P
 | [] => rfl
 | p :: P => by
  show (p.1, p.2) :: (pa P).zip (pi P) = _
  rw [zip_P P]
theorem dA_P (P : Prs) : dA (pa P) (pi P) = pa (srt P) := by unfold dA; rw [zip_P]; rfl
theorem dI_P (P : Prs) : dI (pa P) (pi P) = pi (srt P) := by unfold dI; rw [zip_P]; rfl
theorem pa_get {P : Prs} {i : Nat} (h : i < P.length) : (pa P).getD i 0 = (P[i]).1 := by simp [pa, h]
theorem pi_get {P : Prs} {i : Nat} (h : i < P.length) : (pi P).getD i 0 = (P[i]).2 := by simp [pi, h]
def okP (P : Prs) : Prop := (∀ p ∈ P, dtime p.1 = true ∧ did p.2 = true) ∧ P.Pairwise lt2 ∧ (pi P).Nodup
theorem mB_rep (ks : List Int) (x : Int) : mB ks (List.replicate ks.length true) x = ks.contains x := by
 unfold mB
 by_cases h : x ∈ ks
 ·have := List.idxOf_lt_length_iff.2 h
  rw [List.getD_eq_getElem?_getD, List.getElem?_replicate, if_pos this]
  simp [h]
 ·have := List.idxOf_eq_length h
  rw [List.getD_eq_getElem?_getD, List.getElem?_replicate, if_neg (by omega)]
  simp [h]
theorem dueFrom_iff {P : Prs} : ∀ (f j : Nat), P.length = j + f → ((pi P).take j).Nodup → (dueFrom (pa P) (pi P) f j ((pi P).take j) (List.replicate j true) = true ↔ ∀ i, j ≤ i → (h : i < P.length) → dtime (P[i]).1 = true ∧ did (P[i]).2 = true ∧ (P[i]).2 ∉ (pi P).take i ∧ (i = 0 ∨ lt2 (P[i - 1]) (P[i])))
 | 0, j, hl, _ => by
  unfold dueFrom
  simp
  omega
 | f + 1, j, hl, hn => by
  have hj : j < P.length := by omega
  unfold dueFrom
  rw [pa_get hj, pi_get hj]
  have hk : ((pi P).take j).length = j := by rw [List.length_take, pi_len]; omega
  have hmB : mB ((pi P).take j) (List.replicate j true) (P[j]).2 = ((pi P).take j).contains (P[j]).2 := by
   have := mB_rep ((pi P).take j) (P[j]).2
   rw [hk] at this
   exact this
  rw [hmB]
  have htake : (pi P).take (j + 1) = (pi P).take j ++ [(P[j]).2] := by
   rw [List.take_add_one]
   simp [pi, hj]
  have hord : (decide (j = 0) || aheadB ((pa P).getD (j - 1) 0) ((pi P).getD (j - 1) 0) (P[j]).1 (P[j]).2) = true ↔ (j = 0 ∨ lt2 (P[j - 1]) (P[j])) := by
   rw [pa_get (by omega), pi_get (by omega)]
   simp [ahead_lt]
  by_cases hc : (P[j]).2 ∈ (pi P).take j
  ·have : ((pi P).take j).contains (P[j]).2 = true := by simpa using hc
   rw [this]
   simp only [Bool.not_true, Bool.and_false, Bool.false_and, Bool.false_eq_true, false_iff]
   intro hh
   exact (hh j (Nat.le_refl _) hj).2.2.1 hc
  ·have hcf : ((pi P).take j).contains (P[j]).2 = false := by simpa using hc
   have hm1 : mkey ((pi P).take j) (P[j]).2 = (pi P).take (j + 1) := by
    unfold mkey
    rw [hcf, htake]
    rfl
   have hm2 : mput ((pi P).take j) (List.replicate j true) (P[j]).2 true = List.replicate (j + 1) true := by
    unfold mput
    rw [hcf, List.replicate_succ']
    rfl
   rw [hcf, hm1, hm2]
   have hn' : ((pi P).take (j + 1)).Nodup := by
    rw [htake, List.nodup_append]
    refine ⟨hn, by simp, ?_⟩
    intro a ha b hb
    simp at hb
    subst hb
    exact fun e => hc (e ▸ ha)
   have ih := dueFrom_iff (P := P) f (j + 1) (by omega) hn'
   rw [Bool.and_eq_true, ih, Bool.and_eq_true, hord, Bool.and_eq_true, Bool.and_eq_true]
   simp only [Bool.not_false, and_true]
   constructor
   ·rintro ⟨⟨⟨h1, h2⟩, h3⟩, h4⟩ i hi hl'
    rcases Nat.eq_or_lt_of_le hi with e | hi
    ·subst e
     exact ⟨h1, h2, hc, h3⟩
    ·exact h4 i hi hl'
   ·intro h
    obtain ⟨h1, h2, _, h3⟩ := h j (Nat.le_refl _) hj
    exact ⟨⟨⟨h1, h2⟩, h3⟩, fun i hi hl' => h i (by omega) hl'⟩
theorem dueOk_P (P : Prs) : dueOk (pa P) (pi P) = true ↔ okP P := by
 unfold dueOk
 rw [pa_len]
 have := dueFrom_iff (P := P) P.length 0 (by omega) (by simp)
 simp only [List.take_zero, List.replicate_zero, Nat.zero_le, forall_const] at this
 rw [this]
 constructor
 ·intro h
  refine ⟨fun p hp => ?_, ?_, ?_⟩
  ·obtain ⟨i, hi, rfl⟩ := List.getElem_of_mem hp
   exact ⟨(h i hi).1, (h i hi).2.1⟩
  ·rw [List.pairwise_iff_getElem]
   intro i j hi hj hij
   induction j with
   | zero => omega
   | succ j ih =>
    have hs : lt2 (P[j]) (P[j + 1]) := by
     have := (h (j + 1) hj).2.2.2
     simpa using this
    rcases Nat.eq_or_lt_of_le (Nat.le_of_lt_succ hij) with e | hlt
    ·subst e
     exact hs
    ·exact lt2_trans (ih (by omega) hlt) hs
  ·rw [List.Nodup, List.pairwise_iff_getElem]
   intro i j hi hj hij e
   rw [pi_len] at hi hj
   refine (h j hj).2.2.1 ?_
   have ej : (pi P)[j]'(by rw [pi_len]; exact hj) = (P[j]).2 := by simp [pi]
   rw [← ej, ← e]
   rw [List.mem_take_iff_getElem]
   exact ⟨i, by rw [pi_len]; omega, rfl⟩
 ·rintro ⟨h1, h2, h3⟩ i hi
  refine ⟨(h1 _ (List.getElem_mem hi)).1, (h1 _ (List.getElem_mem hi)).2, fun hc => ?_, ?_⟩
  ·rw [List.mem_take_iff_getElem] at hc
   obtain ⟨k, hk, e⟩ := hc
   rw [List.Nodup, List.pairwise_iff_getElem] at h3
   refine h3 k i (by rw [pi_len] at *; omega) (by rw [pi_len]; exact hi) (by omega) ?_
   rw [e]
   simp [pi]
  ·by_cases h0 : i = 0
   ·exact Or.inl h0
   ·refine Or.inr ?_
    rw [List.pairwise_iff_getElem] at h2
    exact h2 (i - 1) i (by omega) hi (by omega)
theorem byK_add : ∀ (l ks : List Int), (ks ++ l).Nodup → l.foldl mkey ks = ks ++ l
 | [], ks, _ => by simp
 | x :: l, ks, h => by
  have hx : x ∉ ks := by
   rw [List.nodup_append] at h
   intro hx
   exact h.2.2 x hx x (by simp) rfl
  have e : mkey ks x = ks ++ [x] := by
   unfold mkey
   rw [if_neg (by simpa using hx)]
  rw [List.foldl_cons, e, byK_add l (ks ++ [x]) (by simpa using h)]
  simp
theorem byK_ok {d : List Int} (h : d.Nodup) : byK [] d 0 = d := by
 unfold byK
 rw [List.drop_zero, byK_add d [] (by simpa using h)]
 rfl
theorem byC_add {α : Type} : ∀ (l : List (Int × α)) (ks : List Int) (c : List α), (ks ++ l.map (·.1)).Nodup → (l.foldl (fun (p : List Int × List α) kx => (mkey p.1 kx.1, mput p.1 p.2 kx.1 kx.2)) (ks, c)).2 = c ++ l.map (·.2)
 | [], ks, c, _ => by simp
 | x :: l, ks, c, h => by
  have hx : x.1 ∉ ks := by
   rw [List.nodup_append] at h
   intro hx
   exact h.2.2 x.1 hx x.1 (by simp) rfl
  have e : mkey ks x.1 = ks ++ [x.1] := by
   unfold mkey
   rw [if_neg (by simpa using hx)]
  have e2 : mput ks c x.1 x.2 = c ++ [x.2] := by
   unfold mput
   rw [if_neg (by simpa using hx)]
  rw [List.foldl_cons]
  simp only
  rw [e, e2, byC_add l (ks ++ [x.1]) (c ++ [x.2]) (by simpa using h)]
  simp
theorem byC_ok {d a : List Int} (h : d.Nodup) (hl : d.length = a.length) : byC [] d [] a 0 = a := by
 unfold byC
 rw [List.drop_zero, byC_add (d.zip a) [] [] (by rw [List.map_fst_zip (by omega)]; simpa using h), List.map_snd_zip (by omega)]
 rfl
def putE2 (P : Prs) (p : Int × Int) : Int := putE (pa P) (pi P) p.1 p.2
def putP (P : Prs) (p : Int × Int) : Prs := if putE2 P p = 0 then srt (P ++ [p]) else P
theorem mhas_P {d : List Int} {y : Int} : mhas d y = true ↔ y ∈ d := by simp [mhas]
theorem putE_bad {P : Prs} {p : Int × Int} (h : ¬ okP P) : putE2 P p = 40 := by
 unfold putE2 putE
 rw [if_neg (by rw [dueOk_P]; exact h)]
theorem putE_ok {P : Prs} {p : Int × Int} (h : okP P) : putE2 P p = if dtime p.1 then if did p.2 then if p.2 ∈ pi P then 60 else 0 else 40 else 50 := by
 unfold putE2 putE
 rw [if_pos ((dueOk_P P).2 h), byK_ok h.2.2]
 simp only [mhas_P]
theorem putE_zero {P : Prs} {p : Int × Int} (h : putE2 P p = 0) : okP P ∧ dtime p.1 = true ∧ did p.2 = true ∧ p.2 ∉ pi P := by
 by_cases ho : okP P
 ·rw [putE_ok ho] at h
  refine ⟨ho, ?_⟩
  split at h
  ·split at h
   ·split at h
    ·cases h
    ·rename_i a b c
     exact ⟨a, b, c⟩
   ·cases h
  ·cases h
 ·rw [putE_bad ho] at h
  cases h
theorem put_new {P : Prs} {p : Int × Int} (h : putE2 P p = 0) : mkey (byK [] (pi P) 0) p.2 = pi (P ++ [p]) ∧ mput (byK [] (pi P) 0) (byC [] (pi P) [] (pa P) 0) p.2 p.1 = pa (P ++ [p]) ∧ mput (byK [] (pi P) 0) (byC [] (pi P) [] (pi P) 0) p.2 p.2 = pi (P ++ [p]) := by
 obtain ⟨ho, _, _, hn⟩ := putE_zero h
 have hc : (pi P).contains p.2 = false := by simpa using hn
 rw [byK_ok ho.2.2, byC_ok ho.2.2 (by rw [pa_len, pi_len]), byC_ok ho.2.2 rfl]
 unfold mkey mput
 simp only [hc]
 refine ⟨?_, ?_, ?_⟩
 ·simp [pi]
 ·simp [pa]
 ·simp [pi]
theorem putA_P (P : Prs) (x y : Int) : putA (pa P) (pi P) x y = pa (putP P (x, y)) := by
 unfold putA putP
 split
 ·rename_i h
  have := put_new (p := (x, y)) h
  simp only at this
  rw [if_pos (by exact h), this.2.1, this.2.2, dA_P]
 ·rename_i h
  rw [if_neg (by exact h)]
theorem putI_P (P : Prs) (x y : Int) : putI (pa P) (pi P) x y = pi (putP P (x, y)) := by
 unfold putI putP
 split
 ·rename_i h
  have := put_new (p := (x, y)) h
  simp only at this
  rw [if_pos (by exact h), this.2.1, this.2.2, dI_P]
 ·rename_i h
  rw [if_neg (by exact h)]
theorem putN_P (P : Prs) (x y : Int) : putN P.length (pa P) (pi P) x y = (putP P (x, y)).length := by
 unfold putN putP
 split
 ·rename_i h
  have := put_new (p := (x, y)) h
  simp only at this
  rw [if_pos (by exact h), this.1, lenI_e, pi_len, (srt_perm _).length_eq]
 ·rename_i h
  rw [if_neg (by exact h)]
def lateP (P : Prs) (t : Int) : List Int := if dueOk (pa P) (pi P) then pi (P.filter fun p => decide (p.1 ≤ t)) else []
theorem lvL_all (t : Int) : ∀ (P : Prs) (L : List Int), P.foldl (fun L p => if p.1 ≤ t then L ++ [p.2] else L) L = L ++ pi (P.filter fun p => decide (p.1 ≤ t))
 | [], L => by simp [pi]
 | p :: P, L => by
  rw [List.foldl_cons, lvL_all t P]
  by_cases h : p.1 ≤ t
  ·simp [h, pi]
  ·simp [h, pi]
theorem lateL_P (P : Prs) (t : Int) : lateL (pa P) (pi P) t = lateP P t := by
 unfold lateL lateP lvL
 rw [zip_P, List.drop_zero, lvL_all]
 simp
end Go.Own
end
section
namespace Go.Own
open Go Go.Proofs Go.RowKit
set_option maxRecDepth 100000
set_option maxHeartbeats 4000000
def regsOf : Code → List (Array Oper)
 | .region _ ops _ => [ops]
 | .seq a b => regsOf a ++ regsOf b
 | .cond _ a b => regsOf a ++ regsOf b
 | .block _ c => regsOf c
 | .loop c => regsOf c
 | .rangeFunc _ _ a b => regsOf a ++ regsOf b
 | _ => []
def opsOf (P : Program) (k i : Nat) : Array Oper := match P.funcs[k]? with
 | some fn => (match fn.body with
  | some c => (regsOf c).getD i #[]
  | none => #[])
 | none => #[]
def thCols (s : SR) : List Col := [.int .i64 s.st, .int .i64 s.kd, .int .i64 s.vl, .int .i64 s.un, .int .i64 s.pc, .int .i64 s.rg, .int .i64 s.sn, .int .i64 s.tr, .bool s.lt, .int .i64 s.rs, .int .i64 s.gt]
def tabU : List (FuncId × Pure1) := [(33, Fchk), (138, Fput), (72, FopTimed)]
theorem ok_tabU : ∀ p ∈ tabU, PureOK Tryz.prog p.1 p.2 := by
 intro p hp
 simp only [tabU, List.mem_cons, List.not_mem_nil, or_false] at hp
 rcases hp with rfl | rfl | rfl
 ·exact ok_chk
 ·exact ok_put
 ·exact ok_opTimed
theorem du_a (s : SR) (Q : Ex → St → Prop) : (runCode Tryz.prog (tabS tabU) (callN Tryz.prog (tabS tabU) noL 11) (fun _ => none) (.region 0 (opsOf Tryz.prog 96 0) false) 0 ⟨mkT [0] [s.av] 22 0, []⟩ (fun e st => match e with | .normal => runCode Tryz.prog (tabS tabU) (callN Tryz.prog (tabS tabU) noL 11) (fun _ => none) (.seq (.region 1 (opsOf Tryz.prog 96 1) false) (.cond (.tmp 7) (.seq (.region 2 (opsOf Tryz.prog 96 2) false) .ret) .skip)) 0 st (fun e st => match e with | .normal => runCode Tryz.prog (tabS tabU) (callN Tryz.prog (tabS tabU) noL 11) (fun _ => none) (.region 3 (opsOf Tryz.prog 96 3) false) 0 st Q | e => Q e st) | e => Q e st)) = (
 asrt s.fitW (br (bnot s.ok) (Q Ex.ret
 { T := [AV.agg [AV.int .i64 s.1, AV.int .i64 s.2, AV.int .i64 s.3, AV.int .i64 s.4, AV.int .i64 s.5, AV.int .i64 s.6, AV.bool s.7, AV.int .i64 s.8, AV.int .i64 s.9, AV.int .i64 s.10, AV.sl s.11 [.int .i64 s.12, .int .i64 s.13], AV.sl s.14 [.int .i64 s.15], AV.sl s.16 [.int .i64 s.17], AV.int .i64 s.18, AV.sl s.19 [.int .i64 s.20], AV.int .i64 s.21, AV.sl s.22 [.int .i64 s.23], AV.int .i64 s.24, AV.sl s.25 [.int .i64 s.26, .int .i64 s.27, .int .i64 s.28, .int .i64 s.29, .int .i64 s.30, .int .i64 s.31, .int .i64 s.32, .int .i64 s.33, Col.bool s.34, .int .i64 s.35, .int .i64 s.36], AV.sl s.37 [.int .i64 s.38, .int .i64 s.39, .int .i64 s.40, .int .i64 s.41, .int .i64 s.42]], AV.ptr 0 0 0, AV.ptr 1 0 0, AV.top, AV.top, AV.agg [AV.int .i64 s.1, AV.int .i64 s.2, AV.int .i64 s.3, AV.int .i64 s.4, AV.int .i64 s.5, AV.int .i64 s.6, AV.bool s.7, AV.int .i64 s.8, AV.int .i64 s.9, AV.int .i64 s.10, AV.sl s.11 [.int .i64 s.12, .int .i64 s.13], AV.sl s.14 [.int .i64 s.15], AV.sl s.16 [.int .i64 s.17], AV.int .i64 s.18, AV.sl s.19 [.int .i64 s.20], AV.int .i64 s.21, AV.sl s.22 [.int .i64 s.23], AV.int .i64 s.24, AV.sl s.25 [.int .i64 s.26, .int .i64 s.27, .int .i64 s.28, .int .i64 s.29, .int .i64 s.30, .int .i64 s.31, .int .i64 s.32, .int .i64 s.33, Col.bool s.34, .int .i64 s.35, .int .i64 s.36], AV.sl s.37 [.int .i64 s.38, .int .i64 s.39, .int .i64 s.40, .int .i64 s.41, .int .i64 s.42]], AV.bool s.ok, AV.bool true, AV.top, AV.top, AV.top, AV.top, AV.top, AV.top, AV.top, AV.top, AV.top, AV.top, AV.top, AV.top, AV.top, AV.top], H := [some (AObj.var [AV.int .i64 s.1, AV.int .i64 s.2, AV.int .i64 s.3, AV.int .i64 s.4, AV.int .i64 s.5, AV.int .i64 s.6, AV.bool s.7, AV.int .i64 s.8, AV.int .i64 s.9, AV.int .i64 s.10, AV.sl s.11 [.int .i64 s.12, .int .i64 s.13], AV.sl s.14 [.int .i64 s.15], AV.sl s.16 [.int .i64 s.17], AV.int .i64 s.18, AV.sl s.19 [.int .i64 s.20], AV.int .i64 s.21, AV.sl s.22 [.int .i64 s.23], AV.int .i64 s.24, AV.sl s.25 [.int .i64 s.26, .int .i64 s.27, .int .i64 s.28, .int .i64 s.29, .int .i64 s.30, .int .i64 s.31, .int .i64 s.32, .int .i64 s.33, Col.bool s.34, .int .i64 s.35, .int .i64 s.36], AV.sl s.37 [.int .i64 s.38, .int .i64 s.39, .int .i64 s.40, .int .i64 s.41, .int .i64 s.42]]), some (AObj.var [AV.emp 172 [.int .i64 [], .int .i64 []]])] })
 (Q Ex.normal
 { T := [AV.agg [AV.int .i64 s.1, AV.int .i64 s.2, AV.int .i64 s.3, AV.int .i64 s.4, AV.int .i64 s.5, AV.int .i64 s.6, AV.bool s.7, AV.int .i64 s.8, AV.int .i64 s.9, AV.int .i64 s.10, AV.sl s.11 [.int .i64 s.12, .int .i64 s.13], AV.sl s.14 [.int .i64 s.15], AV.sl s.16 [.int .i64 s.17], AV.int .i64 s.18, AV.sl s.19 [.int .i64 s.20], AV.int .i64 s.21, AV.sl s.22 [.int .i64 s.23], AV.int .i64 s.24, AV.sl s.25 [.int .i64 s.26, .int .i64 s.27, .int .i64 s.28, .int .i64 s.29, .int .i64 s.30, .int .i64 s.31, .int .i64 s.32, .int .i64 s.33, Col.bool s.34, .int .i64 s.35, .int .i64 s.36], AV.sl s.37 [.int .i64 s.38, .int .i64 s.39, .int .i64 s.40, .int .i64 s.41, .int .i64 s.42]], AV.ptr 0 0 0, AV.ptr 1 0 0, AV.top, AV.top, AV.agg [AV.int .i64 s.1, AV.int .i64 s.2, AV.int .i64 s.3, AV.int .i64 s.4, AV.int .i64 s.5, AV.int .i64 s.6, AV.bool s.7, AV.int .i64 s.8, AV.int .i64 s.9, AV.int .i64 s.10, AV.sl s.11 [.int .i64 s.12, .int .i64 s.13], AV.sl s.14 [.int .i64 s.15], AV.sl s.16 [.int .i64 s.17], AV.int .i64 s.18, AV.sl s.19 [.int .i64 s.20], AV.int .i64 s.21, AV.sl s.22 [.int .i64 s.23], AV.int .i64 s.24, AV.sl s.25 [.int .i64 s.26, .int .i64 s.27, .int .i64 s.28, .int .i64 s.29, .int .i64 s.30, .int .i64 s.31, .int .i64 s.32, .int .i64 s.33, Col.bool s.34, .int .i64 s.35, .int .i64 s.36], AV.sl s.37 [.int .i64 s.38, .int .i64 s.39, .int .i64 s.40, .int .i64 s.41, .int .i64 s.42]], AV.bool s.ok, AV.bool false, AV.agg [AV.int .i64 s.1, AV.int .i64 s.2, AV.int .i64 s.3, AV.int .i64 s.4, AV.int .i64 s.5, AV.int .i64 s.6, AV.bool s.7, AV.int .i64 s.8, AV.int .i64 s.9, AV.int .i64 s.10, AV.sl s.11 [.int .i64 s.12, .int .i64 s.13], AV.sl s.14 [.int .i64 s.15], AV.sl s.16 [.int .i64 s.17], AV.int .i64 s.18, AV.sl s.19 [.int .i64 s.20], AV.int .i64 s.21, AV.sl s.22 [.int .i64 s.23], AV.int .i64 s.24, AV.sl s.25 [.int .i64 s.26, .int .i64 s.27, .int .i64 s.28, .int .i64 s.29, .int .i64 s.30, .int .i64 s.31, .int .i64 s.32, .int .i64 s.33, Col.bool s.34, .int .i64 s.35, .int .i64 s.36], AV.sl s.37 [.int .i64 s.38, .int .i64 s.39, .int .i64 s.40, .int .i64 s.41, .int .i64 s.42]], AV.fn (Fn.func 183) [] [AV.ptr 2 0 0], AV.top, AV.top, AV.top, AV.top, AV.top, AV.top, AV.top, AV.top, AV.top, AV.top, AV.top, AV.top], H := [some (AObj.var [AV.int .i64 s.1, AV.int .i64 s.2, AV.int .i64 s.3, AV.int .i64 s.4, AV.int .i64 s.5, AV.int .i64 s.6, AV.bool s.7, AV.int .i64 s.8, AV.int .i64 s.9, AV.int .i64 s.10, AV.sl s.11 [.int .i64 s.12, .int .i64 s.13], AV.sl s.14 [.int .i64 s.15], AV.sl s.16 [.int .i64 s.17], AV.int .i64 s.18, AV.sl s.19 [.int .i64 s.20], AV.int .i64 s.21, AV.sl s.22 [.int .i64 s.23], AV.int .i64 s.24, AV.sl s.25 [.int .i64 s.26, .int .i64 s.27, .int .i64 s.28, .int .i64 s.29, .int .i64 s.30, .int .i64 s.31, .int .i64 s.32, .int .i64 s.33, Col.bool s.34, .int .i64 s.35, .int .i64 s.36], AV.sl s.37 [.int .i64 s.38, .int .i64 s.39, .int .i64 s.40, .int .i64 s.41, .int .i64 s.42]]), some (AObj.var [AV.emp 172 [.int .i64 [], .int .i64 []]]), some (AObj.var [AV.int .i64 s.1, AV.int .i64 s.2, AV.int .i64 s.3, AV.int .i64 s.4, AV.int .i64 s.5, AV.int .i64 s.6, AV.bool s.7, AV.int .i64 s.8, AV.int .i64 s.9, AV.int .i64 s.10, AV.sl s.11 [.int .i64 s.12, .int .i64 s.13], AV.sl s.14 [.int .i64 s.15], AV.sl s.16 [.int .i64 s.17], AV.int .i64 s.18, AV.sl s.19 [.int .i64 s.20], AV.int .i64 s.21, AV.sl s.22 [.int .i64 s.23], AV.int .i64 s.24, AV.sl s.25 [.int .i64 s.26, .int .i64 s.27, .int .i64 s.28, .int .i64 s.29, .int .i64 s.30, .int .i64 s.31, .int .i64 s.32, .int .i64 s.33, Col.bool s.34, .int .i64 s.35, .int .i64 s.36], AV.sl s.37 [.int .i64 s.38, .int .i64 s.39, .int .i64 s.40, .int .i64 s.41, .int .i64 s.42]])] }))) := by kernel_rfl
theorem du_b (s : SR) (y : Value) (Q : Ex → St → Prop) : (runCode Tryz.prog (tabS tabU) (callN Tryz.prog (tabS tabU) noL 11) (fun _ => none) (.region 0 (opsOf Tryz.prog 183 0) false) 0 ⟨mkT [0, 1] [.val y, .ip s.cells] 34 0, []⟩ Q) = (
 Q Ex.normal
 { T := [AV.val y, AV.ip [AV.int .i64 s.1, AV.int .i64 s.2, AV.int .i64 s.3, AV.int .i64 s.4, AV.int .i64 s.5, AV.int .i64 s.6, AV.bool s.7, AV.int .i64 s.8, AV.int .i64 s.9, AV.int .i64 s.10, AV.sl s.11 [.int .i64 s.12, .int .i64 s.13], AV.sl s.14 [.int .i64 s.15], AV.sl s.16 [.int .i64 s.17], AV.int .i64 s.18, AV.sl s.19 [.int .i64 s.20], AV.int .i64 s.21, AV.sl s.22 [.int .i64 s.23], AV.int .i64 s.24, AV.sl s.25 [.int .i64 s.26, .int .i64 s.27, .int .i64 s.28, .int .i64 s.29, .int .i64 s.30, .int .i64 s.31, .int .i64 s.32, .int .i64 s.33, Col.bool s.34, .int .i64 s.35, .int .i64 s.36], AV.sl s.37 [.int .i64 s.38, .int .i64 s.39, .int .i64 s.40, .int .i64 s.41, .int .i64 s.42]], AV.top, AV.top, AV.top, AV.ip [AV.sl s.25 [.int .i64 s.26, .int .i64 s.27, .int .i64 s.28, .int .i64 s.29, .int .i64 s.30, .int .i64 s.31, .int .i64 s.32, .int .i64 s.33, Col.bool s.34, .int .i64 s.35, .int .i64 s.36], AV.sl s.37 [.int .i64 s.38, .int .i64 s.39, .int .i64 s.40, .int .i64 s.41, .int .i64 s.42]], AV.sl s.25 [.int .i64 s.26, .int .i64 s.27, .int .i64 s.28, .int .i64 s.29, .int .i64 s.30, .int .i64 s.31, .int .i64 s.32, .int .i64 s.33, Col.bool s.34, .int .i64 s.35, .int .i64 s.36], AV.int .i64 (ofN s.25), AV.int .i64 0, AV.top, AV.top, AV.top, AV.top, AV.top, AV.top, AV.top, AV.top, AV.top, AV.top, AV.top, AV.top, AV.top, AV.top, AV.top, AV.top, AV.top, AV.top, AV.top, AV.top, AV.top, AV.top, AV.top, AV.top, AV.top], H := [] }) := by kernel_rfl
theorem du_c (s : SR) (y : Value) (i : Int) (Q : Ex → St → Prop) : (runCode Tryz.prog (tabS tabU) (callN Tryz.prog (tabS tabU) noL 11) (fun _ => none) (.region 1 (opsOf Tryz.prog 183 1) false) 0 ⟨mkT [0, 6, 7, 8] [.val y, .sl s.nt (thCols s), .int .i64 (ofN s.nt), .int .i64 i] 34 0, []⟩ (fun e st => match e with | .normal => runCode Tryz.prog (tabS tabU) (callN Tryz.prog (tabS tabU) noL 11) (fun _ => none) (.cond (.tmp 9) .skip (.exit 0)) 0 st Q | e => Q e st)) = (
 br (ilt i (ofN s.25)) (Q Ex.normal
 { T := [AV.val y, AV.top, AV.top, AV.top, AV.top, AV.top, AV.sl s.25 [.int .i64 s.26, .int .i64 s.27, .int .i64 s.28, .int .i64 s.29, .int .i64 s.30, .int .i64 s.31, .int .i64 s.32, .int .i64 s.33, Col.bool s.34, .int .i64 s.35, .int .i64 s.36], AV.int .i64 (ofN s.25), AV.int .i64 i, AV.bool true, AV.top, AV.top, AV.top, AV.top, AV.top, AV.top, AV.top, AV.top, AV.top, AV.top, AV.top, AV.top, AV.top, AV.top, AV.top, AV.top, AV.top, AV.top, AV.top, AV.top, AV.top, AV.top, AV.top, AV.top], H := [] })
 (Q (Ex.exit 0)
 { T := [AV.val y, AV.top, AV.top, AV.top, AV.top, AV.top, AV.sl s.25 [.int .i64 s.26, .int .i64 s.27, .int .i64 s.28, .int .i64 s.29, .int .i64 s.30, .int .i64 s.31, .int .i64 s.32, .int .i64 s.33, Col.bool s.34, .int .i64 s.35, .int .i64 s.36], AV.int .i64 (ofN s.25), AV.int .i64 i, AV.bool false, AV.top, AV.top, AV.top, AV.top, AV.top, AV.top, AV.top, AV.top, AV.top, AV.top, AV.top, AV.top, AV.top, AV.top, AV.top, AV.top, AV.top, AV.top, AV.top, AV.top, AV.top, AV.top, AV.top, AV.top], H := [] })) := by kernel_rfl
theorem du_d (s : SR) (y : Value) (i : Int) (Q : St → Prop) : (runCode Tryz.prog (tabS tabU) (callN Tryz.prog (tabS tabU) noL 11) (fun _ => none) (.region 2 (opsOf Tryz.prog 183 2) false) 0 ⟨mkT [0, 6, 7, 8] [.val y, .sl s.nt (thCols s), .int .i64 (ofN s.nt), .int .i64 i] 34 0, []⟩ (fun e st => match e with | .normal => runOps Tryz.prog (tabS tabU) (callN Tryz.prog (tabS tabU) noL 11) (opsOf Tryz.prog 183 3) ((opsOf Tryz.prog 183 3).toList.take 17) st Q | _ => False)) = (
 asrt (band (ile 0 i) (ilt i (ofN s.25))) (Q
 { T := [AV.val y, AV.top, AV.top, AV.int .i64 i, AV.ptr 0 0 0, AV.top, AV.sl s.25 [.int .i64 s.26, .int .i64 s.27, .int .i64 s.28, .int .i64 s.29, .int .i64 s.30, .int .i64 s.31, .int .i64 s.32, .int .i64 s.33, Col.bool s.34, .int .i64 s.35, .int .i64 s.36], AV.int .i64 (ofN s.25), AV.int .i64 i, AV.top, AV.int .i64 i, AV.ip [AV.int .i64 (gI s.26 (nOf i)), AV.int .i64 (gI s.27 (nOf i)), AV.int .i64 (gI s.28 (nOf i)), AV.int .i64 (gI s.29 (nOf i)), AV.int .i64 (gI s.30 (nOf i)), AV.int .i64 (gI s.31 (nOf i)), AV.int .i64 (gI s.32 (nOf i)), AV.int .i64 (gI s.33 (nOf i)), AV.bool (gB s.34 (nOf i)), AV.int .i64 (gI s.35 (nOf i)), AV.int .i64 (gI s.36 (nOf i))], AV.agg [AV.int .i64 (gI s.26 (nOf i)), AV.int .i64 (gI s.27 (nOf i)), AV.int .i64 (gI s.28 (nOf i)), AV.int .i64 (gI s.29 (nOf i)), AV.int .i64 (gI s.30 (nOf i)), AV.int .i64 (gI s.31 (nOf i)), AV.int .i64 (gI s.32 (nOf i)), AV.int .i64 (gI s.33 (nOf i)), AV.bool (gB s.34 (nOf i)), AV.int .i64 (gI s.35 (nOf i)), AV.int .i64 (gI s.36 (nOf i))], AV.ptr 0 0 0, AV.int .i64 (gI s.26 (nOf i)), AV.bool (ine (gI s.26 (nOf i)) 0), AV.bool (ine (gI s.26 (nOf i)) 0), AV.cond 16 true (AV.ptr 0 0 1), AV.cond 16 true (AV.int .i64 (gI s.27 (nOf i))), AV.cond 16 true (AV.bool (opTimed (gI s.27 (nOf i)))), AV.bool (bite (ine (gI s.26 (nOf i)) 0) (opTimed (gI s.27 (nOf i))) false), AV.bool (bite (ine (gI s.26 (nOf i)) 0) (opTimed (gI s.27 (nOf i))) false), AV.cond 21 true (AV.ptr 0 0 8), AV.cond 21 true (AV.bool (gB s.34 (nOf i))), AV.cond 21 true (AV.bool (bnot (gB s.34 (nOf i)))), AV.bool (bite (bite (ine (gI s.26 (nOf i)) 0) (opTimed (gI s.27 (nOf i))) false) (bnot (gB s.34 (nOf i))) false), AV.bool (bite (bite (ine (gI s.26 (nOf i)) 0) (opTimed (gI s.27 (nOf i))) false) (bnot (gB s.34 (nOf i))) false), AV.cond 26 true (AV.val y), AV.cond 26 true (AV.int .i64 i), AV.cond 26 true (AV.agg [AV.int .i64 (gI s.26 (nOf i)), AV.int .i64 (gI s.27 (nOf i)), AV.int .i64 (gI s.28 (nOf i)), AV.int .i64 (gI s.29 (nOf i)), AV.int .i64 (gI s.30 (nOf i)), AV.int .i64 (gI s.31 (nOf i)), AV.int .i64 (gI s.32 (nOf i)), AV.int .i64 (gI s.33 (nOf i)), AV.bool (gB s.34 (nOf i)), AV.int .i64 (gI s.35 (nOf i)), AV.int .i64 (gI s.36 (nOf i))]), AV.top, AV.top, AV.top, AV.top], H := [some (AObj.var [AV.int .i64 (gI s.26 (nOf i)), AV.int .i64 (gI s.27 (nOf i)), AV.int .i64 (gI s.28 (nOf i)), AV.int .i64 (gI s.29 (nOf i)), AV.int .i64 (gI s.30 (nOf i)), AV.int .i64 (gI s.31 (nOf i)), AV.int .i64 (gI s.32 (nOf i)), AV.int .i64 (gI s.33 (nOf i)), AV.bool (gB s.34 (nOf i)), AV.int .i64 (gI s.35 (nOf i)), AV.int .i64 (gI s.36 (nOf i))])] })) := by kernel_rfl
theorem du_e (s : SR) (y : Value) (i : Int) (Q : Ex → St → Prop) : (runOps Tryz.prog (tabS tabU) (callN Tryz.prog (tabS tabU) noL 11) (opsOf Tryz.prog 183 3) ((opsOf Tryz.prog 183 3).toList.drop 18) ⟨mkT [0, 6, 7, 8, 26, 30] [.val y, .sl s.nt (thCols s), .int .i64 (ofN s.nt), .int .i64 i, .bool true, .bool true] 34 0, []⟩ (fun st => runCode Tryz.prog (tabS tabU) (callN Tryz.prog (tabS tabU) noL 11) (fun _ => none) (.cond (.tmp 32) .ret .skip) 0 st (fun e st => match e with | .normal => runCode Tryz.prog (tabS tabU) (callN Tryz.prog (tabS tabU) noL 11) (fun _ => none) (.region 4 (opsOf Tryz.prog 183 4) false) 0 st Q | e => Q e st))) = (
 Q Ex.normal
 { T := [AV.val y, AV.top, AV.top, AV.top, AV.top, AV.top, AV.sl s.25 [.int .i64 s.26, .int .i64 s.27, .int .i64 s.28, .int .i64 s.29, .int .i64 s.30, .int .i64 s.31, .int .i64 s.32, .int .i64 s.33, Col.bool s.34, .int .i64 s.35, .int .i64 s.36], AV.int .i64 (ofN s.25), AV.int .i64 (iadd .i64 i 1), AV.top, AV.top, AV.top, AV.top, AV.top, AV.top, AV.top, AV.top, AV.top, AV.top, AV.top, AV.top, AV.top, AV.top, AV.top, AV.top, AV.top, AV.bool true, AV.top, AV.top, AV.top, AV.bool true, AV.cond 26 true (AV.bool false), AV.bool false, AV.int .i64 (iadd .i64 i 1)], H := [] }) := by kernel_rfl
theorem du_f (s : SR) (y : Value) (i : Int) (Q : Ex → St → Prop) : (runOps Tryz.prog (tabS tabU) (callN Tryz.prog (tabS tabU) noL 11) (opsOf Tryz.prog 183 3) ((opsOf Tryz.prog 183 3).toList.drop 18) ⟨mkT [0, 6, 7, 8, 26] [.val y, .sl s.nt (thCols s), .int .i64 (ofN s.nt), .int .i64 i, .bool false] 34 0, []⟩ (fun st => runCode Tryz.prog (tabS tabU) (callN Tryz.prog (tabS tabU) noL 11) (fun _ => none) (.cond (.tmp 32) .ret .skip) 0 st (fun e st => match e with | .normal => runCode Tryz.prog (tabS tabU) (callN Tryz.prog (tabS tabU) noL 11) (fun _ => none) (.region 4 (opsOf Tryz.prog 183 4) false) 0 st Q | e => Q e st))) = (
 Q Ex.normal
 { T := [AV.val y, AV.top, AV.top, AV.top, AV.top, AV.top, AV.sl s.25 [.int .i64 s.26, .int .i64 s.27, .int .i64 s.28, .int .i64 s.29, .int .i64 s.30, .int .i64 s.31, .int .i64 s.32, .int .i64 s.33, Col.bool s.34, .int .i64 s.35, .int .i64 s.36], AV.int .i64 (ofN s.25), AV.int .i64 (iadd .i64 i 1), AV.top, AV.top, AV.top, AV.top, AV.top, AV.top, AV.top, AV.top, AV.top, AV.top, AV.top, AV.top, AV.top, AV.top, AV.top, AV.top, AV.top, AV.bool false, AV.top, AV.top, AV.top, AV.top, AV.top, AV.bool false, AV.int .i64 (iadd .i64 i 1)], H := [] }) := by kernel_rfl
theorem du_h (z : Value) (i t0 t1 t2 t3 t4 t5 t6 t7 t9 t10 : Int) (t8 : Bool) (Q : Ex → St → Prop) : (runCode Tryz.prog (tabS tabU) (callN Tryz.prog (tabS tabU) noL 11) (fun _ => none) (.region 4 (opsOf Tryz.prog 96 4) false) 0 ⟨mkT [2, 10, 11] [.val z, .int .i64 i, .agg [.int .i64 t0, .int .i64 t1, .int .i64 t2, .int .i64 t3, .int .i64 t4, .int .i64 t5, .int .i64 t6, .int .i64 t7, .bool t8, .int .i64 t9, .int .i64 t10]] 22 0, []⟩ (fun e st => match e with | .normal => runCode Tryz.prog (tabS tabU) (callN Tryz.prog (tabS tabU) noL 11) (fun _ => none) (.region 5 (opsOf Tryz.prog 96 5) false) 0 st Q | e => Q e st)) = (
 Q Ex.normal
 { T := [AV.top, AV.top, AV.val z, AV.int .i64 i, AV.ptr 0 0 0, AV.top, AV.top, AV.top, AV.top, AV.top, AV.int .i64 i, AV.agg [AV.int .i64 t0, AV.int .i64 t1, AV.int .i64 t2, AV.int .i64 t3, AV.int .i64 t4, AV.int .i64 t5, AV.int .i64 t6, AV.int .i64 t7, AV.bool t8, AV.int .i64 t9, AV.int .i64 t10], AV.top, AV.top, AV.top, AV.top, AV.top, AV.top, AV.top, AV.top, AV.top, AV.top], H := [some (AObj.var [AV.int .i64 t0, AV.int .i64 t1, AV.int .i64 t2, AV.int .i64 t3, AV.int .i64 t4, AV.int .i64 t5, AV.int .i64 t6, AV.int .i64 t7, AV.bool t8, AV.int .i64 t9, AV.int .i64 t10])] }) := by kernel_rfl
theorem du_g (m : Nat) (a d : List Int) (i t0 t1 t2 t3 t4 t5 t6 t7 t9 t10 : Int) (t8 : Bool) (Q : St → Prop) : (runOps Tryz.prog (tabS tabU) (callN Tryz.prog (tabS tabU) noL 11) (opsOf Tryz.prog 96 6) (opsOf Tryz.prog 96 6).toList ⟨mkT [2, 3, 4] [.ptr 0 0 0, .int .i64 i, .ptr 1 0 0] 22 0, [some (.var [.sl m [.int .i64 a, .int .i64 d]]), some (.var [.int .i64 t0, .int .i64 t1, .int .i64 t2, .int .i64 t3, .int .i64 t4, .int .i64 t5, .int .i64 t6, .int .i64 t7, .bool t8, .int .i64 t9, .int .i64 t10])]⟩ Q) = (
 asrt (nle m 900000) (Q
 { T := [AV.top, AV.top, AV.ptr 0 0 0, AV.int .i64 i, AV.ptr 1 0 0, AV.top, AV.top, AV.top, AV.top, AV.top, AV.top, AV.top, AV.tup [AV.full 2, AV.int .i64 (putE a d t3 i)], AV.sl m [.int .i64 a, .int .i64 d], AV.ptr 1 0 3, AV.int .i64 t3, AV.int .i64 i, AV.agg [AV.int .i64 t3, AV.int .i64 i], AV.tup [AV.full 2, AV.int .i64 (putE a d t3 i)], AV.full 2, AV.int .i64 (putE a d t3 i), AV.top], H := [some (AObj.var [AV.full 2]), some (AObj.var [AV.int .i64 t0, AV.int .i64 t1, AV.int .i64 t2, AV.int .i64 t3, AV.int .i64 t4, AV.int .i64 t5, AV.int .i64 t6, AV.int .i64 t7, AV.bool t8, AV.int .i64 t9, AV.int .i64 t10]), some (AObj.row 172 (putN m a d t3 i) [.int .i64 (putA a d t3 i), .int .i64 (putI a d t3 i)])] })) := by kernel_rfl
attribute [local go_sem] Oper.semAt_some
def fenceR (r : Option Nat) : Fence := { Fence.wide with round := r }
theorem calls_fenceR {P : Program} {r : Option Nat} {n : Nat} {f : FuncId} {args : Array Value} {w : World} {R : Ending → World → Prop} (h : Calls P f args w R) : CallsIn (fenceR r) n P f args w R := by
 cases r with
 | none => exact callsIn_wide.2 h
 | some l => exact CallsIn.inRound l (callsIn_wide.2 h)
theorem semAt_fenceR {r : Option Nat} {ρ : Operand → Value} {o : Oper} (h : ∀ c, o.op ≠ .defer c) : o.semAt (fenceR r).round ρ = execOp ρ o := by
 cases r with
 | none => exact Oper.semAt_none _ _
 | some l => exact Oper.semAt_some l ρ o h
def noDefer (o : Oper) : Bool := match o.op with
 | .defer _ => false
 | _ => true
theorem noDefer_ne {o : Oper} (h : noDefer o = true) : ∀ c, o.op ≠ .defer c := by
 intro c hc
 simp [noDefer, hc] at h
theorem wpList_go {P : Program} {r : Option Nat} {n : Nat} {ops : Array Oper} {Q Q' : Exit → Act → World → Prop} {L2 : List Oper} (hn : ∀ e a w, Q' e a w → e = .normal) (hQ : ∀ a w, Q' .normal a w → wpListIn (fenceR r) n P ops Q L2 a w) :
  ∀ (L : List Oper) (a : Act) (w : World), L.all noDefer = true → wpList P ops Q' L a w → wpListIn (fenceR r) n P ops Q (L ++ L2) a w
 | [], a, w, _, h => hQ a w h
 | o :: L, a, w, hd, h => by
  simp only [List.all_cons, Bool.and_eq_true] at hd
  unfold wpList at h
  show wpListIn (fenceR r) n P ops Q (o :: (L ++ L2)) a w
  unfold wpListIn
  split
  ·rename_i hw
   rw [if_pos hw] at h
   rcases h with h | ⟨_, a', w', h⟩
   ·refine ⟨fun _ _ => trivial, ?_⟩
    rw [semAt_fenceR (noDefer_ne hd.1)]
    unfold Oper.wp at h
    have go := fun a w => wpList_go (n := n) hn hQ L a w hd.2
    generalize (execOp a.eval o).run P w = res at h
    cases res with
    | ok x w1 =>
     cases x with
     | value v => exact go _ _ h
     | skip => exact go _ _ h
     | defer d => exact go _ _ h
     | enter f args =>
      refine ⟨(fun h => by cases h), calls_fenceR (Calls.mono h ?_)⟩
      intro e w' he
      cases e with
      | returned v => exact go _ _ he
      | panicked ch => exact absurd (hn _ _ _ he) (by simp)
      | outgrown =>
       obtain ⟨_, _, he⟩ := he
       exact absurd (hn _ _ _ he) (by simp)
     | row row args =>
      refine ⟨(fun h => by cases h), fun c cs _ => ?_⟩
      obtain ⟨v, w', hv, hs⟩ := h c cs
      refine ⟨v, w', go _ _ hv, ?_⟩
      have : Machine.fenced P (fenceR r) = Machine.fenced P Fence.wide := rfl
      rw [this]
      exact stepsIn_wide.2 hs
     | _ => exact h.elim
    | halt x w1 =>
     cases x with
     | panic v => exact absurd (hn _ _ _ h) (by simp)
     | _ => exact h.elim
   ·exact absurd (hn _ _ _ h) (by simp)
  ·rename_i hw
   rw [if_neg hw] at h
   exact ⟨fun _ _ => trivial, wpList_go hn hQ L _ _ hd.2 h⟩
section
abbrev uS := tabS tabU
abbrev uC := callN Tryz.prog (tabS tabU) noL 11
theorem reg_go {r : Option Nat} {n id : Nat} {ops : Array Oper} {i : Nat} {st : St} {Q : Ex → St → Prop} {QQ : Exit → Act → World → Prop} {w0 : Base} {c : Cx} {a : Act} (hd : ops.toList.all noDefer = true)
  (h : runCode Tryz.prog uS uC (fun _ => none) (.region id ops false) i st Q) (hst : StOK w0 st c a) (hn : ∀ st' c' a', StOK w0 st' c' a' → c.le c' → Q .normal st' → QQ .normal a' c'.w) : (Code.region id ops false).wpIn (fenceR r) n Tryz.prog QQ a c.w := by
 refine wpIn_region_list ?_
 have h' : runOps Tryz.prog uS uC ops ops.toList st (Q .normal) := h
 have := runOps_sound (tabS_ok ok_tabU) (tab_callf mixed ok_tabU 11) (QQ := fun e a w => e = .normal ∧ QQ .normal a w) ops.toList st c a h' hst (fun st' c' a' h1 h2 h3 => ⟨rfl, hn st' c' a' h1 h2 h3⟩)
 have := wpList_go (r := r) (n := n) (Q := QQ) (L2 := []) (fun e a w h => h.1) (fun a w h => h.2) _ _ _ hd this
 simpa using this
theorem reg_goO {r : Option Nat} {n id : Nat} {ops : Array Oper} {st : St} {Q : St → Prop} {QQ : Exit → Act → World → Prop} {w0 : Base} {c : Cx} {a : Act} (hd : ops.toList.all noDefer = true)
  (h : runOps Tryz.prog uS uC ops ops.toList st Q) (hst : StOK w0 st c a) (hn : ∀ st' c' a', StOK w0 st' c' a' → c.le c' → Q st' → QQ .normal a' c'.w) : (Code.region id ops false).wpIn (fenceR r) n Tryz.prog QQ a c.w := by
 refine wpIn_region_list ?_
 have := runOps_sound (tabS_ok ok_tabU) (tab_callf mixed ok_tabU 11) (QQ := fun e a w => e = .normal ∧ QQ .normal a w) ops.toList st c a h hst (fun st' c' a' h1 h2 h3 => ⟨rfl, hn st' c' a' h1 h2 h3⟩)
 have := wpList_go (r := r) (n := n) (Q := QQ) (L2 := []) (fun e a w h => h.1) (fun a w h => h.2) _ _ _ hd this
 simpa using this
theorem ops_go {r : Option Nat} {n : Nat} {ops : Array Oper} {L L2 : List Oper} {st : St} {Q : St → Prop} {QQ : Exit → Act → World → Prop} {w0 : Base} {c : Cx} {a : Act} (hd : L.all noDefer = true)
  (h : runOps Tryz.prog uS uC ops L st Q) (hst : StOK w0 st c a) (hn : ∀ st' c' a', StOK w0 st' c' a' → c.le c' → Q st' → wpListIn (fenceR r) n Tryz.prog ops QQ L2 a' c'.w) : wpListIn (fenceR r) n Tryz.prog ops QQ (L ++ L2) a c.w := by
 have := runOps_sound (tabS_ok ok_tabU) (tab_callf mixed ok_tabU 11) (QQ := fun e a w => e = .normal ∧ wpListIn (fenceR r) n Tryz.prog ops QQ L2 a w) L st c a h hst (fun st' c' a' h1 h2 h3 => ⟨rfl, hn st' c' a' h1 h2 h3⟩)
 exact wpList_go (r := r) (n := n) (fun e a w h => h.1) (fun a w h => h.2) _ _ _ hd this
theorem code_go {n : Nat} {code : Code} {i : Nat} {st : St} {Q : Ex → St → Prop} {QQ : Exit → Act → World → Prop} {w0 : Base} {c : Cx} {a : Act}
  (h : runCode Tryz.prog uS uC (fun _ => none) code i st Q) (hst : StOK w0 st c a) (hn : ∀ e st' c' a', StOK w0 st' c' a' → c.leF 0 c' → Q e st' → QQ (exOf e) a' c'.w) : code.wpIn Fence.wide n Tryz.prog QQ a c.w :=
 wpIn_wide.2 (runCode_sound mixed (tabS_ok ok_tabU) tabS_local (tab_callf mixed ok_tabU 11) (fl := 0) code i st Q (fun p hp x hx => by cases hx) h c a QQ hst hn)
end
theorem atKeep_ok {c : Cx} {tmps : Array Value} {i : Nat} (hi : i < tmps.size) : ∀ (keep : List Nat) (vals : List AV), (∀ p ∈ keep.zip vals, ∃ u, tmps[p.1]? = some u ∧ RelT c tmps p.2 u) → ∃ u, tmps[i]? = some u ∧ RelT c tmps (atKeep i keep vals) u
 | [], _, _ => ⟨tmps[i], by simp [hi], by simp [atKeep, RelT, Rel]⟩
 | _ :: _, [], _ => ⟨tmps[i], by simp [hi], by simp [atKeep, RelT, Rel]⟩
 | j :: js, v :: vs, h => by
  simp only [atKeep]
  split
  ·rename_i e
   subst e
   exact h (j, v) (by simp)
  ·exact atKeep_ok hi js vs fun p hp => h p (by simp [hp])
theorem mkT_ok {c : Cx} {tmps : Array Value} {n : Nat} {keep : List Nat} {vals : List AV} (hs : tmps.size = n) (h : ∀ p ∈ keep.zip vals, ∃ u, tmps[p.1]? = some u ∧ RelT c tmps p.2 u) : TOK c (mkT keep vals n 0) tmps := by
 refine ⟨by rw [mkT_len, hs], fun i x hx => ?_⟩
 rw [mkT_get] at hx
 split at hx
 ·rename_i hi
  cases hx
  rw [Nat.zero_add]
  exact atKeep_ok (by omega) keep vals h
 ·cases hx
def flatA : AV → Bool
 | .int _ _ => true
 | .bool _ => true
 | _ => false
theorem relL_flat {c c' : Cx} : ∀ {xs : List AV} {vs : List Value}, xs.all flatA = true → RelL c xs vs → RelL c' xs vs
 | [], [], _, _ => by simp [RelL]
 | x :: xs, v :: vs, h, r => by
  simp only [List.all_cons, Bool.and_eq_true] at h
  simp only [RelL] at r ⊢
  refine ⟨?_, relL_flat h.2 r.2⟩
  cases x with
  | int k n => simpa [Rel] using r.1
  | bool b => simpa [Rel] using r.1
  | _ => cases h.1
 | [], _ :: _, _, r => by simp [RelL] at r
 | _ :: _, [], _, r => by simp [RelL] at r
def valA : AV → Value
 | .int k n => .int k n
 | .bool b => .bool b
 | _ => undef
theorem relL_val {c : Cx} : ∀ {xs : List AV} {vs : List Value}, xs.all flatA = true → RelL c xs vs → vs = xs.map valA
 | [], [], _, _ => rfl
 | x :: xs, v :: vs, h, r => by
  simp only [List.all_cons, Bool.and_eq_true] at h
  simp only [RelL] at r
  rw [List.map_cons, relL_val h.2 r.2]
  cases x with
  | int k n => rw [show v = _ from by simpa [Rel] using r.1]; rfl
  | bool b => rw [show v = _ from by simpa [Rel] using r.1]; rfl
  | _ => cases h.1
 | [], _ :: _, _, r => by simp [RelL] at r
 | _ :: _, [], _, r => by simp [RelL] at r
structure Was (b : Nat) (W W' : World) : Prop where
 keep : ∀ x, x < W.heap.size → x ≠ b → W'.heap[x]? = W.heap[x]?
 size : W.heap.size ≤ W'.heap.size
 rest : Rest W W'
theorem Was.trans {b : Nat} {W W' W'' : World} (h : Was b W W') (h' : Was b W' W'') : Was b W W'' :=
 ⟨fun x hx hb => (h'.keep x (Nat.lt_of_lt_of_le hx h.size) hb).trans (h.keep x hx hb), Nat.le_trans h.size h'.size, h'.rest.1.trans h.rest.1, h'.rest.2.1.trans h.rest.2.1, h'.rest.2.2.trans h.rest.2.2⟩
def butS (b : Nat) (W : World) : Nat → Prop := fun x => x < W.heap.size ∧ x ≠ b
theorem row_move {c : Cx} {e : TypeId} {n : Nat} {cols : List Col} {p : Place} {c' : Cx} (hi : ∀ col ∈ cols, ∀ k l, col ≠ .ints k l) (h : ObjAt c (.row e n cols) p) (hk : p.cap ≠ 0 → c'.w.heap[p.b]? = c.w.heap[p.b]?) : ObjAt c' (.row e n cols) p := by
 obtain ⟨h1, h2, h3, h4, h5, h6⟩ := h
 refine ⟨h1, h2, h3, h4, h5, fun hc => ?_⟩
 obtain ⟨arr, t, g1, g2, g3⟩ := h6 hc
 refine ⟨arr, t, (hk hc).trans g1, g2, fun i hin j col hj => ?_⟩
 obtain ⟨u, q1, q2⟩ := g3 i hin j col hj
 refine ⟨u, q1, ?_⟩
 cases col with
 | int k l => exact q2
 | bool l => exact q2
 | ints k l => exact absurd rfl (hi _ (List.mem_of_getElem? hj) k l)
theorem two_ints {l1 l2 : List Int} : ∀ col ∈ [Col.int .i64 l1, Col.int .i64 l2], ∀ k l, col ≠ .ints k l := by
 intro col hcol k l h
 subst h
 simp at hcol
def noC (W : World) : Cx := ⟨W, fun _ => none, fun _ => False⟩
def Told (b l : Nat) (P : Prs) (W : World) : Prop := ∃ (t : TypeId) (p : Place) (a : Option Addr), W.heap[b]? = some (.cells #[.slice a p.n p.cap] t (0, 0)) ∧ (p.cap ≠ 0 → a = some ⟨p.b, 0, none⟩) ∧ ObjAt (noC W) (.row 172 P.length [.int .i64 (pa P), .int .i64 (pi P)]) p ∧ (p.cap ≠ 0 → p.b < W.heap.size ∧ p.b ≠ b ∧ p.b ≠ l ∧ p.b + 1 ≠ l ∧ b ≤ p.b)
theorem Told.next {b l : Nat} {P : Prs} {W W' : World} (h : Told b l P W) (hb : W'.heap[b]? = W.heap[b]?) (hk : ∀ x, x < W.heap.size → x ≠ b → x ≠ l → x + 1 ≠ l → W'.heap[x]? = W.heap[x]?) (hs : W.heap.size ≤ W'.heap.size) : Told b l P W' := by
 obtain ⟨t, p, a, h1, h2, h3, h4⟩ := h
 refine ⟨t, p, a, hb.trans h1, h2, row_move two_ints h3 (fun hc => ?_), fun hc => ?_⟩
 ·obtain ⟨g1, g2, g3, g4, g5⟩ := h4 hc
  exact hk _ g1 g2 g3 g4
 ·obtain ⟨g1, g2, g3, g4, g5⟩ := h4 hc
  exact ⟨by omega, g2, g3, g4, g5⟩
structure Has (s : SR) (y : Value) (i : Int) (c : Cx) (a : Act) : Prop where
 plain : a.defers = []
 size : a.tmps.size = 34
 t0 : a.tmps[0]? = some y
 t6 : ∃ u, a.tmps[6]? = some u ∧ Rel c (.sl s.nt (thCols s)) u
 t7 : a.tmps[7]? = some (.int .i64 (ofN s.nt))
 t8 : a.tmps[8]? = some (.int .i64 i)
def Keeps (s : SR) (y : Value) (i : Int) (st : St) : Prop := st.T.length = 34 ∧ st.T[0]? = some (.val y) ∧ st.T[6]? = some (.sl s.nt (thCols s)) ∧ st.T[7]? = some (.int .i64 (ofN s.nt)) ∧ st.T[8]? = some (.int .i64 i)
theorem tok_int {c : Cx} {T : List AV} {tmps : Array Value} (h : TOK c T tmps) {i : Nat} {k : IntKind} {x : Int} (hi : T[i]? = some (.int k x)) : tmps[i]? = some (.int k x) := by
 obtain ⟨u, h1, h2⟩ := h.2 i _ hi
 rw [h1, show u = _ from by simpa [RelT, Rel] using h2]
theorem tok_bool' {c : Cx} {T : List AV} {tmps : Array Value} (h : TOK c T tmps) {i : Nat} {x : Bool} (hi : T[i]? = some (.bool x)) : tmps[i]? = some (.bool x) := by
 obtain ⟨u, h1, h2⟩ := h.2 i _ hi
 rw [h1, show u = _ from by simpa [RelT, Rel] using h2]
theorem tok_val {c : Cx} {T : List AV} {tmps : Array Value} (h : TOK c T tmps) {i : Nat} {y : Value} (hi : T[i]? = some (.val y)) : tmps[i]? = some y := by
 obtain ⟨u, h1, h2⟩ := h.2 i _ hi
 rw [h1, show u = _ from by simpa [RelT, Rel] using h2]
theorem keeps_has {s : SR} {y : Value} {i : Int} {w0 : Base} {st : St} {c : Cx} {a : Act} (h : StOK w0 st c a) (k : Keeps s y i st) : Has s y i c a := by
 obtain ⟨k1, k2, k3, k4, k5⟩ := k
 refine ⟨h.plain, h.tok.1.symm.trans k1, tok_val h.tok k2, ?_, tok_int h.tok k4, tok_int h.tok k5⟩
 obtain ⟨u, h1, h2⟩ := h.tok.2 6 _ k3
 exact ⟨u, h1, h2⟩
theorem bare_heap (W : World) (S : Nat → Prop) (hS : ∀ x, S x → x < W.heap.size) : HeapOK ⟨W.heap, S⟩ [] ⟨W, fun _ => none, S⟩ := by
 refine ⟨fun id o h => ?_, fun id id' p p' h => ?_, fun id p h => ?_, fun _ _ => rfl, hS, fun _ _ => rfl, Nat.le_refl _, fun b h => .inl h⟩
 ·simp [Heap.at] at h
 ·obtain ⟨o, h, _⟩ := h
  simp [Heap.at] at h
 ·obtain ⟨o, h, _⟩ := h
  simp [Heap.at] at h
theorem has_stok {s : SR} {y : Value} {i : Int} {W : World} {b : Nat} {a : Act} (h : Has s y i ⟨W, fun _ => none, butS b W⟩ a) : StOK ⟨W.heap, butS b W⟩ ⟨mkT [0, 6, 7, 8] [.val y, .sl s.nt (thCols s), .int .i64 (ofN s.nt), .int .i64 i] 34 0, []⟩ ⟨W, fun _ => none, butS b W⟩ a := by
 refine ⟨bare_heap W _ fun x hx => hx.1, mkT_ok h.size ?_, h.plain⟩
 intro p hp
 simp only [List.zip_cons_cons, List.zip_nil_right, List.mem_cons, List.not_mem_nil, or_false] at hp
 rcases hp with rfl | rfl | rfl | rfl
 ·exact ⟨_, h.t0, by simp [RelT, Rel]⟩
 ·exact h.t6
 ·exact ⟨_, h.t7, by simp [RelT, Rel]⟩
 ·exact ⟨_, h.t8, by simp [RelT, Rel]⟩
theorem sl_move {c : Cx} {n : Nat} {cols : List Col} {u : Value} {W' : World} {S' : Nat → Prop} (h : Rel c (.sl n cols) u) (hS : ∀ x, c.S x → S' x) (hk : ∀ x, c.S x → W'.heap[x]? = c.w.heap[x]?) (hs : c.w.heap.size ≤ W'.heap.size) (hr : Rest c.w W') : Rel ⟨W', fun _ => none, S'⟩ (.sl n cols) u := by
 have h' : Rel ⟨c.w, fun _ => none, c.S⟩ (.sl n cols) u := h
 exact Rel.mono (c := ⟨c.w, fun _ => none, c.S⟩) (c' := ⟨W', fun _ => none, S'⟩) ⟨(fun _ _ h => by cases h), hS, hk, hs, hr⟩ h'
theorem rebase {s : SR} {y : Value} {i : Int} {W : World} {b : Nat} {a : Act} {st : St} {c : Cx} (hb : b < W.heap.size) (h : StOK ⟨W.heap, butS b W⟩ st c a) (hle : (⟨W, fun _ => none, butS b W⟩ : Cx).leF 0 c) (k : Keeps s y i st) :
  Has s y i ⟨c.w, fun _ => none, butS b c.w⟩ a ∧ (∀ x, x < W.heap.size → c.w.heap[x]? = W.heap[x]?) ∧ W.heap.size ≤ c.w.heap.size ∧ Rest W c.w := by
 have hh := keeps_has h k
 refine ⟨⟨hh.plain, hh.size, hh.t0, ?_, hh.t7, hh.t8⟩, h.heap.kept, h.heap.grown, hle.rest⟩
 obtain ⟨u, h1, h2⟩ := hh.t6
 refine ⟨u, h1, sl_move h2 (fun x hx => ⟨h.heap.stable x hx, ?_⟩) (fun _ _ => rfl) (Nat.le_refl _) ⟨rfl, rfl, rfl⟩⟩
 rcases h.heap.born x hx with h3 | h3
 ·exact h3.2
 ·have : W.heap.size ≤ x := h3
  omega
theorem freeze {c : Cx} {e : TypeId} {n : Nat} {cols : List Col} {p : Place} {W : World} {S : Nat → Prop} {a : Option Addr} (hi : ∀ col ∈ cols, ∀ k l, col ≠ .ints k l) (h : ObjAt c (.row e n cols) p) (ha : p.cap ≠ 0 → a = some ⟨p.b, 0, none⟩) (hS : p.cap ≠ 0 → S p.b) (hk : p.cap ≠ 0 → W.heap[p.b]? = c.w.heap[p.b]?) : Rel ⟨W, fun _ => none, S⟩ (.sl n cols) (.slice a p.n p.cap) := by
 obtain ⟨h1, h2, h3, h4, h5, h6⟩ := h
 simp only [Rel]
 refine ⟨a, p.cap, by rw [h1], h3, h5, ?_⟩
 by_cases hc : p.cap = 0
 ·exact .inl (by omega)
 ·refine .inr ⟨_, ha hc, rfl, hS hc, ?_⟩
  obtain ⟨arr, t, g1, g2, g3⟩ := h6 hc
  intro i hin j col hj
  obtain ⟨u, q1, q2⟩ := g3 i hin j col hj
  refine ⟨u, ?_, ?_⟩
  ·unfold cellIs
   have g1' : W.heap[p.b]? = some (.cells arr t (0, 0)) := (hk hc).trans g1
   rw [cell_of_arr g1']
   dsimp only
   rw [Nat.zero_add, ← h2]
   simpa using q1
  ·cases col with
   | int k l => exact q2
   | bool l => exact q2
   | ints k l => exact absurd rfl (hi _ (List.mem_of_getElem? hj) k l)
structure RecIs (b : Nat) (rc : Loop) : Prop where
 st : rc.state = .ready
 pe : rc.pending = none
 ps : rc.params = #[10, 11]
 sz : rc.tmps.size = 22
 t2 : rc.tmps[2]? = some (.pointer (some ⟨b, 0, none⟩))
 asn : rc.assign = .seq (.region 4 (opsOf Tryz.prog 96 4) false) (.region 5 (opsOf Tryz.prog 96 5) false)
 body : rc.body = .block 1 (.region 6 (opsOf Tryz.prog 96 6) false)
theorem du_nd : (opsOf Tryz.prog 96 4).toList.all noDefer = true ∧ (opsOf Tryz.prog 96 5).toList.all noDefer = true ∧ (opsOf Tryz.prog 96 6).toList.all noDefer = true := by
 refine ⟨?_, ?_, ?_⟩ <;> kernel_rfl
theorem du_round {b l : Nat} {rc : Loop} (hr : RecIs b rc) {W : World} (hl : W.heap[l]? = some (.loop rc)) (hbl : b ≠ l) {P : Prs} (hP : P.length ≤ 900000) (ht : Told b l P W)
  (i t0 t1 t2 t3 t4 t5 t6 t7 t9 t10 : Int) (t8 : Bool) (m : Nat) :
  RoundIn Fence.wide m Tryz.prog l rc.fn ((rc.params.zip #[.int .i64 i, .agg #[.int .i64 t0, .int .i64 t1, .int .i64 t2, .int .i64 t3, .int .i64 t4, .int .i64 t5, .int .i64 t6, .int .i64 t7, .bool t8, .int .i64 t9, .int .i64 t10]]).foldl (fun (tmps : Array Value) (p : Tmp × Value) => tmps.setIfInBounds p.1 p.2) rc.tmps) rc.assign rc.body W
   fun e W' => e = .returned (.bool true) ∧ Was b W W' ∧ Told b l (putP P (t3, i)) W' := by
 refine roundIn_of_wpIn trivial ?_
 rw [hr.asn, hr.body, hr.ps]
 simp only [List.zip_toArray, List.zip_cons_cons, List.zip_nil_right, List.foldl_toArray, List.foldl_cons, List.foldl_nil]
 obtain ⟨tt, pu, au, hb, hau, hrow, hout0⟩ := ht
 have hlt : l < W.heap.size := by
  rcases Nat.lt_or_ge l W.heap.size with h | h
  ·exact h
  ·rw [Array.getElem?_eq_none h] at hl; cases hl
 have hbt : b < W.heap.size := by
  rcases Nat.lt_or_ge b W.heap.size with h | h
  ·exact h
  ·rw [Array.getElem?_eq_none h] at hb; cases hb
 refine wpIn_seq ?_
 have hs0 : StOK ⟨W.heap, fun x => x < W.heap.size ∧ x ≠ b ∧ x ≠ l⟩ ⟨mkT [2, 10, 11] [.val (.pointer (some ⟨b, 0, none⟩)), .int .i64 i, .agg [.int .i64 t0, .int .i64 t1, .int .i64 t2, .int .i64 t3, .int .i64 t4, .int .i64 t5, .int .i64 t6, .int .i64 t7, .bool t8, .int .i64 t9, .int .i64 t10]] 22 0, []⟩ ⟨W, fun _ => none, fun x => x < W.heap.size ∧ x ≠ b ∧ x ≠ l⟩ { tmps := (rc.tmps.setIfInBounds 10 (.int .i64 i)).setIfInBounds 11 (.agg #[.int .i64 t0, .int .i64 t1, .int .i64 t2, .int .i64 t3, .int .i64 t4, .int .i64 t5, .int .i64 t6, .int .i64 t7, .bool t8, .int .i64 t9, .int .i64 t10]), defers := [] } := by
  refine ⟨bare_heap W _ fun x hx => hx.1, mkT_ok (by simp [hr.sz]) ?_, rfl⟩
  intro p hp
  have hz := hr.sz
  simp only [List.zip_cons_cons, List.zip_nil_right, List.mem_cons, List.not_mem_nil, or_false] at hp
  rcases hp with rfl | rfl | rfl
  ·refine ⟨.pointer (some ⟨b, 0, none⟩), ?_, by simp [RelT, Rel]⟩
   dsimp only
   rw [Array.getElem?_setIfInBounds_ne (by omega), Array.getElem?_setIfInBounds_ne (by omega), hr.t2]
  ·refine ⟨.int .i64 i, ?_, by simp [RelT, Rel]⟩
   dsimp only
   rw [Array.getElem?_setIfInBounds_ne (by omega)]
   simp [hz]
  ·refine ⟨.agg #[.int .i64 t0, .int .i64 t1, .int .i64 t2, .int .i64 t3, .int .i64 t4, .int .i64 t5, .int .i64 t6, .int .i64 t7, .bool t8, .int .i64 t9, .int .i64 t10], ?_, ?_⟩
   ·simp [hz]
   ·simp [RelT, Rel, RelL]
 have k0 := du_h (.pointer (some ⟨b, 0, none⟩)) i t0 t1 t2 t3 t4 t5 t6 t7 t9 t10 t8 (fun e st => e = .normal ∧ st.T.length = 22 ∧ st.T[2]? = some (.val (.pointer (some ⟨b, 0, none⟩))) ∧ st.T[3]? = some (.int .i64 i) ∧ st.T[4]? = some (.ptr 0 0 0) ∧ st.H.at 0 = some (.var [.int .i64 t0, .int .i64 t1, .int .i64 t2, .int .i64 t3, .int .i64 t4, .int .i64 t5, .int .i64 t6, .int .i64 t7, .bool t8, .int .i64 t9, .int .i64 t10]))
 refine reg_go (r := some l) (c := ⟨W, fun _ => none, fun x => x < W.heap.size ∧ x ≠ b ∧ x ≠ l⟩) du_nd.1 (k0.mpr ⟨rfl, rfl, rfl, rfl, rfl, rfl⟩) hs0 ?_
 intro st1 c1 a1 h1 hle1 k2
 simp only at k2
 show Code.wpIn _ _ _ _ _ a1 c1.w
 refine reg_go (r := some l) du_nd.2.1 k2 h1 ?_
 intro st2 c2 a2 h2 hle2 k3
 obtain ⟨-, j1, j2, j3, j4, j5⟩ := k3
 have hle := hle1.trans hle2
 clear k0 hle1 hle2 h1 hs0
 have kept : ∀ x, x < W.heap.size → c2.w.heap[x]? = W.heap[x]? := h2.heap.kept
 have hsz : W.heap.size ≤ c2.w.heap.size := h2.heap.grown
 have hl2 : c2.w.heap[l]? = some (.loop rc) := (kept l hlt).trans hl
 refine ⟨_, run_beginRound hl2 hr.st, ?_⟩
 obtain ⟨p, hp, arr, t, harr, hrel⟩ := h2.heap.obj 0 _ j5
 have hout := h2.heap.out 0 p ⟨_, j5, hp, trivial⟩
 have hpb : W.heap.size ≤ p.b := hout.1
 have hpl : p.b < c2.w.heap.size := hout.2.1
 generalize hW2 : c2.w.putObj l (.loop { rc with state := .busy }) = W2
 have w2l : W2.heap[l]? = some (.loop { rc with state := .busy }) := by subst hW2; exact World.putObj_heap_same (by omega)
 have w2o : ∀ x, x ≠ l → W2.heap[x]? = c2.w.heap[x]? := by subst hW2; exact fun x hx => World.putObj_heap_other hx
 have w2s : W2.heap.size = c2.w.heap.size := by subst hW2; exact World.putObj_size
 have w2r : Rest c2.w W2 := by subst hW2; exact ⟨rfl, rfl, rfl⟩
 have hu2 : Rel ⟨W2, (fun id => if id = 0 then some ⟨b, 1, 1, 1⟩ else if id = 1 then some p else none), fun x => x < c2.w.heap.size ∧ x ≠ b ∧ x ≠ p.b⟩ (.sl P.length [.int .i64 (pa P), .int .i64 (pi P)]) (.slice au pu.n pu.cap) := by
  refine freeze (W := W2) (S := fun x => x < c2.w.heap.size ∧ x ≠ b ∧ x ≠ p.b) two_ints hrow hau (fun hc => ?_) (fun hc => ?_)
  ·obtain ⟨g1, g2, g3, g4, g5⟩ := hout0 hc
   exact ⟨by omega, g2, by omega⟩
  ·obtain ⟨g1, g2, g3, g4, g5⟩ := hout0 hc
   exact (w2o _ g3).trans (kept _ g1)
 have hs2 : StOK ⟨#[], fun x => x < c2.w.heap.size ∧ x ≠ b ∧ x ≠ p.b⟩ ⟨mkT [2, 3, 4] [.ptr 0 0 0, .int .i64 i, .ptr 1 0 0] 22 0, [some (.var [.sl P.length [.int .i64 (pa P), .int .i64 (pi P)]]), some (.var [.int .i64 t0, .int .i64 t1, .int .i64 t2, .int .i64 t3, .int .i64 t4, .int .i64 t5, .int .i64 t6, .int .i64 t7, .bool t8, .int .i64 t9, .int .i64 t10])]⟩ ⟨W2, (fun id => if id = 0 then some ⟨b, 1, 1, 1⟩ else if id = 1 then some p else none), fun x => x < c2.w.heap.size ∧ x ≠ b ∧ x ≠ p.b⟩ a2 := by
  have hlive : ∀ (id : Nat) (o : AObj), Heap.at [some (.var [.sl P.length [.int .i64 (pa P), .int .i64 (pi P)]]), some (.var [.int .i64 t0, .int .i64 t1, .int .i64 t2, .int .i64 t3, .int .i64 t4, .int .i64 t5, .int .i64 t6, .int .i64 t7, .bool t8, .int .i64 t9, .int .i64 t10])] id = some o → id = 0 ∨ id = 1 := by
   intro id o h
   match id with
   | 0 => exact .inl rfl
   | 1 => exact .inr rfl
   | k + 2 => simp [Heap.at] at h
  refine ⟨⟨?_, ?_, ?_, ?_, ?_, ?_, ?_, ?_⟩, mkT_ok (h2.tok.1.symm.trans j1) ?_, h2.plain⟩
  ·intro id o ho
   rcases hlive id o ho with rfl | rfl
   ·cases ho
    refine ⟨⟨b, 1, 1, 1⟩, rfl, #[.slice au pu.n pu.cap], tt, ?_, ?_⟩
    ·show W2.heap[b]? = _
     rw [w2o b hbl, kept b hbt, hb]
    ·simp only [RelL, and_true]
     exact hu2
   ·cases ho
    refine ⟨p, rfl, arr, t, ?_, ?_⟩
    ·show W2.heap[p.b]? = _
     rw [w2o p.b (by omega), harr]
    ·exact relL_flat rfl hrel
  ·rintro id id' q q' ⟨o, ho, hq, _⟩ ⟨o', ho', hq', _⟩ hne
   rcases hlive id o ho with rfl | rfl <;> rcases hlive id' o' ho' with rfl | rfl
   ·exact absurd rfl hne
   ·cases hq; cases hq'
    show b ≠ p.b
    omega
   ·cases hq; cases hq'
    show p.b ≠ b
    omega
   ·exact absurd rfl hne
  ·rintro id q ⟨o, ho, hq, _⟩
   rcases hlive id o ho with rfl | rfl
   ·cases hq
    exact ⟨Nat.zero_le _, by show b < W2.heap.size; omega, fun h => h.2.1 rfl⟩
   ·cases hq
    exact ⟨Nat.zero_le _, by show p.b < W2.heap.size; omega, fun h => h.2.2 rfl⟩
  ·intro id h
   match id with
   | 0 => cases h
   | 1 => cases h
   | k + 2 => rfl
  ·intro x hx
   show x < W2.heap.size
   have := hx.1
   omega
  ·intro x hx
   exact absurd hx (Nat.not_lt_zero x)
  ·exact Nat.zero_le _
  ·exact fun x _ => .inr (Nat.zero_le x)
  ·intro q hq
   simp only [List.zip_cons_cons, List.zip_nil_right, List.mem_cons, List.not_mem_nil, or_false] at hq
   rcases hq with rfl | rfl | rfl
   ·refine ⟨_, tok_val h2.tok j2, ?_⟩
    simp [RelT, Rel]
   ·exact ⟨_, tok_int h2.tok j3, by simp [RelT, Rel]⟩
   ·obtain ⟨v, g1, g2⟩ := h2.tok.2 4 _ j4
    simp only [RelT, Rel] at g2
    obtain ⟨p', q1, q2⟩ := g2
    rw [hp] at q1
    cases q1
    exact ⟨v, g1, by simpa [RelT, Rel] using q2⟩
 have k4 := du_g P.length (pa P) (pi P) i t0 t1 t2 t3 t4 t5 t6 t7 t9 t10 t8 (fun st => st.H.at 0 = some (.var [.full 2]) ∧ st.H.at 2 = some (.row 172 (putN P.length (pa P) (pi P) t3 i) [.int .i64 (putA (pa P) (pi P) t3 i), .int .i64 (putI (pa P) (pi P) t3 i)]))
 refine wpIn_block ?_
 refine reg_goO (r := some l) (c := ⟨W2, (fun id => if id = 0 then some ⟨b, 1, 1, 1⟩ else if id = 1 then some p else none), fun x => x < c2.w.heap.size ∧ x ≠ b ∧ x ≠ p.b⟩) (Q := fun st => st.H.at 0 = some (.var [.full 2]) ∧ st.H.at 2 = some (.row 172 (putN P.length (pa P) (pi P) t3 i) [.int .i64 (putA (pa P) (pi P) t3 i), .int .i64 (putI (pa P) (pi P) t3 i)])) du_nd.2.2 (k4.mpr (asrt_iff.2 ⟨by rw [nle_t]; exact hP, rfl, rfl⟩)) hs2 ?_
 intro st3 c3 a3 h3 hle3 k6
 obtain ⟨j6, j7⟩ := k6
 clear k4 hs2
 have s3l : c3.w.heap[l]? = some (.loop { rc with state := .busy }) := (hle3.w l ⟨by omega, fun h => hbl h.symm, by omega⟩).trans w2l
 have s3l' : c3.S l := hle3.S l ⟨by omega, fun h => hbl h.symm, by omega⟩
 refine ⟨_, _, run_endRound none s3l, rfl, ?_, ?_⟩
 ·have hrc : ({ ({ rc with state := .busy } : Loop) with state := if (none : Option Code).isNone then .ready else .done, pending := none } : Loop) = rc := by
   cases rc
   have e1 := hr.st
   have e2 := hr.pe
   simp only at e1 e2
   subst e1 e2
   rfl
  have s3s : W2.heap.size ≤ c3.w.heap.size := hle3.size
  refine ⟨fun x hx hxb => ?_, ?_, ?_⟩
  ·by_cases hxl : x = l
   ·subst hxl
    rw [World.putObj_heap_same (by omega), hl]
    exact congrArg (fun r => some (Obj.loop r)) hrc
   ·rw [World.putObj_heap_other hxl]
    exact ((hle3.w x ⟨by omega, hxb, by omega⟩).trans (w2o x hxl)).trans (kept x hx)
  ·rw [World.putObj_size]; omega
  ·exact ⟨hle3.rest.1.trans (w2r.1.trans hle.rest.1), hle3.rest.2.1.trans (w2r.2.1.trans hle.rest.2.1), hle3.rest.2.2.trans (w2r.2.2.trans hle.rest.2.2)⟩
 ·obtain ⟨p0, q0, arr0, tt0, q1, q2⟩ := h3.heap.obj 0 _ j6
  obtain ⟨p2, q3, q4⟩ := h3.heap.obj 2 _ j7
  have e0 : p0 = ⟨b, 1, 1, 1⟩ := by
   have := hle3.π 0 ⟨b, 1, 1, 1⟩ rfl
   rw [this] at q0
   cases q0
   rfl
  subst e0
  obtain ⟨arr0⟩ := arr0
  match arr0, q2 with
  | [v], q2 =>
   simp only [RelL, Rel, and_true] at q2
   obtain ⟨p2', a', q5, q6, q7⟩ := q2
   rw [q3] at q5
   cases q5
   have hL0 : Live st3.H c3 0 ⟨b, 1, 1, 1⟩ := ⟨_, j6, q0, trivial⟩
   have hout2 : p2.cap ≠ 0 → p2.b < c3.w.heap.size ∧ p2.b ≠ b ∧ p2.b ≠ l ∧ p2.b + 1 ≠ l ∧ b ≤ p2.b := by
    intro hc
    have hL2 : Live st3.H c3 2 p2 := ⟨_, j7, q3, hc⟩
    have o2 := h3.heap.out 2 p2 hL2
    have o3 : p2.b ≠ b := fun h => h3.heap.apart 2 0 p2 _ hL2 hL0 (by simp) h
    have o4 : ¬ (p2.b < c2.w.heap.size ∧ p2.b ≠ b ∧ p2.b ≠ p.b) := fun h => o2.2.2 (hle3.S _ h)
    refine ⟨o2.2.1, o3, ?_, ?_, ?_⟩
    ·intro h
     exact o4 ⟨by omega, o3, by omega⟩
    ·intro h
     exact o4 ⟨by omega, o3, by omega⟩
    ·rcases Nat.lt_or_ge p2.b b with h | h
     ·exact absurd ⟨by omega, o3, by omega⟩ o4
     ·exact h
   refine ⟨tt0, p2, a', ?_, q7, ?_, ?_⟩
   ·rw [World.putObj_heap_other hbl, ← q6]
    exact q1
   ·rw [← putN_P, ← putA_P, ← putI_P]
    refine row_move two_ints q4 fun hc => ?_
    exact World.putObj_heap_other (hout2 hc).2.2.1
   ·intro hc
    rw [World.putObj_size]
    exact hout2 hc
  | [], q2 => simp [RelL] at q2
  | _ :: _ :: _, q2 => simp [RelL] at q2
def dueP (st kd un : List Int) (lt : List Bool) (n i : Nat) (P : Prs) : Prs := ((List.range n).drop i).foldl (fun P j => if st.getD j 0 ≠ 0 ∧ opTimed (kd.getD j 0) = true ∧ lt.getD j false = false then putP P (un.getD j 0, (j : Int)) else P) P
def dueC (s : SR) (j : Nat) : Prop := s.st.getD j 0 ≠ 0 ∧ opTimed (s.kd.getD j 0) = true ∧ s.lt.getD j false = false
instance (s : SR) (j : Nat) : Decidable (dueC s j) := by unfold dueC; infer_instance
def dueTo (s : SR) (i : Nat) : Prs := (List.range i).foldl (fun P j => if dueC s j then putP P (s.un.getD j 0, (j : Int)) else P) []
theorem dueTo_succ (s : SR) (i : Nat) : dueTo s (i + 1) = if dueC s i then putP (dueTo s i) (s.un.getD i 0, (i : Int)) else dueTo s i := by
 unfold dueTo
 rw [List.range_succ, List.foldl_append]
 rfl
theorem dueTo_dueP (s : SR) : dueTo s s.nt = dueP s.st s.kd s.un s.lt s.nt 0 [] := rfl
theorem dueTo_len (s : SR) : ∀ i, (dueTo s i).length ≤ i
 | 0 => Nat.le_refl _
 | i + 1 => by
  have ih := dueTo_len s i
  rw [dueTo_succ]
  split
  ·unfold putP
   split
   ·rw [(srt_perm _).length_eq]
    simp only [List.length_append, List.length_cons, List.length_nil]
    omega
   ·omega
  ·omega
noncomputable abbrev wR (i : Nat) : Array Oper := opsOf Tryz.prog 183 i
theorem w_nd : (wR 0).toList.all noDefer = true ∧ (wR 1).toList.all noDefer = true ∧ (wR 2).toList.all noDefer = true ∧ ((wR 3).toList.take 17).all noDefer = true ∧ ((wR 3).toList.drop 18).all noDefer = true ∧ (wR 4).toList.all noDefer = true := by
 refine ⟨?_, ?_, ?_, ?_, ?_, ?_⟩ <;> kernel_rfl
noncomputable def wOp : Oper := (wR 3).toList.getD 17 default
theorem wOp_at : (wR 3).toList.drop 17 = wOp :: (wR 3).toList.drop 18 := by kernel_rfl
theorem wOp_op : wOp.op = .call { callee := .value (.tmp 27), args := #[.tmp 28, .tmp 29], argTypes := #[3, 51] } := by kernel_rfl
theorem wOp_dst : wOp.dst = some 30 := by kernel_rfl
theorem wOp_guard : wOp.guard = some (13, true) := by kernel_rfl
theorem wOp_tmp : guardTmp (wR 3) 13 = some 26 := by kernel_rfl
theorem has_put {s : SR} {y : Value} {i : Int} {c : Cx} {a : Act} (h : Has s y i c a) {j : Nat} {v : Value} (hj : 8 < j) : Has s y i c (a.put (some j) v) := by
 refine ⟨h.plain, ?_, ?_, ?_, ?_, ?_⟩
 ·simp only [Act.put, Array.size_setIfInBounds]
  exact h.size
 ·simp only [Act.put]
  rw [Array.getElem?_setIfInBounds_ne (by omega)]
  exact h.t0
 ·obtain ⟨u, h1, h2⟩ := h.t6
  refine ⟨u, ?_, h2⟩
  simp only [Act.put]
  rw [Array.getElem?_setIfInBounds_ne (by omega)]
  exact h1
 ·simp only [Act.put]
  rw [Array.getElem?_setIfInBounds_ne (by omega)]
  exact h.t7
 ·simp only [Act.put]
  rw [Array.getElem?_setIfInBounds_ne (by omega)]
  exact h.t8
theorem has_move {s : SR} {y : Value} {i : Int} {W W' : World} {b : Nat} {a : Act} (h : Has s y i ⟨W, fun _ => none, butS b W⟩ a) (hw : Was b W W') : Has s y i ⟨W', fun _ => none, butS b W'⟩ a := by
 refine ⟨h.plain, h.size, h.t0, ?_, h.t7, h.t8⟩
 obtain ⟨u, h1, h2⟩ := h.t6
 exact ⟨u, h1, sl_move h2 (fun x hx => ⟨Nat.lt_of_lt_of_le hx.1 hw.size, hx.2⟩) (fun x hx => hw.keep x hx.1 hx.2) hw.size hw.rest⟩
theorem du_tail {s : SR} {y : Value} {i : Int} {b : Nat} {W : World} {a : Act} {n : Nat} {q : Bool} (hh : Has s y i ⟨W, fun _ => none, butS b W⟩ a) (hb : b < W.heap.size) (h26 : a.tmps[26]? = some (.bool q)) (h30 : q = true → a.tmps[30]? = some (.bool true))
  {QX QC QR : Exit → Act → World → Prop} (hX : ∀ a' w', (Code.cond (.tmp 32) .ret .skip).wpIn Fence.wide n Tryz.prog QC a' w' → QX .normal a' w') (hC : ∀ a' w', (Code.region 4 (wR 4) false).wpIn Fence.wide n Tryz.prog QR a' w' → QC .normal a' w')
  (hR : ∀ a' W', Has s y (iadd .i64 i 1) ⟨W', fun _ => none, butS b W'⟩ a' → (∀ x, x < W.heap.size → W'.heap[x]? = W.heap[x]?) → W.heap.size ≤ W'.heap.size → Rest W W' → QR .normal a' W') :
  wpListIn Fence.wide n Tryz.prog (wR 3) QX ((wR 3).toList.drop 18) a W := by
 have main : ∀ (st : St), runOps Tryz.prog uS uC (wR 3) ((wR 3).toList.drop 18) st (fun st => runCode Tryz.prog uS uC (fun _ => none) (.cond (.tmp 32) .ret .skip) 0 st (fun e st => match e with | .normal => runCode Tryz.prog uS uC (fun _ => none) (.region 4 (wR 4) false) 0 st (fun e st => e = .normal ∧ Keeps s y (iadd .i64 i 1) st) | e => e = .normal ∧ Keeps s y (iadd .i64 i 1) st)) → StOK ⟨W.heap, butS b W⟩ st ⟨W, fun _ => none, butS b W⟩ a → wpListIn Fence.wide n Tryz.prog (wR 3) QX ((wR 3).toList.drop 18) a W := by
  intro st h1 h2
  have := ops_go (r := none) (n := n) (L2 := []) (QQ := QX) (c := ⟨W, fun _ => none, butS b W⟩) w_nd.2.2.2.2.1 h1 h2 ?_
  ·rw [List.append_nil] at this
   exact this
  intro st1 c1 a1 g1 gle1 k1
  refine hX _ _ (code_go k1 g1 ?_)
  intro e st2 c2 a2 g2 gle2 k2
  cases e with
  | normal =>
   refine hC _ _ (reg_go (r := none) w_nd.2.2.2.2.2 k2 g2 ?_)
   intro st3 c3 a3 g3 gle3 k3
   obtain ⟨r1, r2, r3, r4⟩ := rebase hb g3 ((gle1.F.trans gle2).trans gle3.F) k3.2
   exact hR _ _ r1 r2 r3 r4
  | exit j => exact absurd k2.1 (by simp)
  | ret => exact absurd k2.1 (by simp)
 have hheap := bare_heap W (butS b W) fun x hx => hx.1
 cases q with
 | true =>
  refine main _ ((du_e s y i _).mpr ⟨rfl, rfl, rfl, rfl, rfl, rfl⟩) ⟨hheap, mkT_ok hh.size ?_, hh.plain⟩
  intro p hp
  simp only [List.zip_cons_cons, List.zip_nil_right, List.mem_cons, List.not_mem_nil, or_false] at hp
  rcases hp with rfl | rfl | rfl | rfl | rfl | rfl
  ·exact ⟨_, hh.t0, by simp [RelT, Rel]⟩
  ·exact hh.t6
  ·exact ⟨_, hh.t7, by simp [RelT, Rel]⟩
  ·exact ⟨_, hh.t8, by simp [RelT, Rel]⟩
  ·exact ⟨_, h26, by simp [RelT, Rel]⟩
  ·exact ⟨_, h30 rfl, by simp [RelT, Rel]⟩
 | false =>
  refine main _ ((du_f s y i _).mpr ⟨rfl, rfl, rfl, rfl, rfl, rfl⟩) ⟨hheap, mkT_ok hh.size ?_, hh.plain⟩
  intro p hp
  simp only [List.zip_cons_cons, List.zip_nil_right, List.mem_cons, List.not_mem_nil, or_false] at hp
  rcases hp with rfl | rfl | rfl | rfl | rfl
  ·exact ⟨_, hh.t0, by simp [RelT, Rel]⟩
  ·exact hh.t6
  ·exact ⟨_, hh.t7, by simp [RelT, Rel]⟩
  ·exact ⟨_, hh.t8, by simp [RelT, Rel]⟩
  ·exact ⟨_, h26, by simp [RelT, Rel]⟩
noncomputable abbrev wLoop : Code := .seq (.region 1 (wR 1) false) (.seq (.cond (.tmp 9) .skip (.exit 0)) (.seq (.block 1 (.seq (.region 2 (wR 2) false) (.seq (.region 3 (wR 3) false) (.cond (.tmp 32) .ret .skip)))) (.region 4 (wR 4) false)))
def muW (s : SR) (a : Act) : Nat := match (a.tmps[8]? : Option Value) with
 | some (.int _ i) => ((s.nt : Int) - i).toNat
 | _ => 0
theorem bite_fl {p q : Bool} : bite p q false = (p && q) := by cases p <;> rfl
theorem eval_tmp {a : Act} {j : Nat} {v : Value} (h : a.tmps[j]? = some v) : a.eval (.tmp j) = v := by
 simp only [Act.eval, Array.getD_eq_getD_getElem?, h, Option.getD_some]
theorem du_loop {s : SR} {b l : Nat} {rc : Loop} (hr : RecIs b rc) (hbl : b ≠ l) (hn : s.nt ≤ 900000) {W0 : World} (hl : W0.heap[l]? = some (.loop rc)) (hb0 : b < W0.heap.size) {n : Nat}
  {QF : Exit → Act → World → Prop} (hQ : ∀ a W, a.defers = [] → Was b W0 W → Told b l (dueTo s s.nt) W → QF .normal a W)
  {a : Act} {W : World} (hh : Has s (.func (.yield l) #[] #[]) 0 ⟨W, fun _ => none, butS b W⟩ a) (hw : Was b W0 W) (ht : Told b l [] W) :
  (Code.loop wLoop).wpIn Fence.wide n Tryz.prog (Exit.inBlock 0 QF) a W := by
 refine wpIn_loop (fun a W => ∃ i : Nat, i ≤ s.nt ∧ Has s (.func (.yield l) #[] #[]) (i : Int) ⟨W, fun _ => none, butS b W⟩ a ∧ Was b W0 W ∧ Told b l (dueTo s i) W) (fun a _ => muW s a) ⟨0, Nat.zero_le _, hh, hw, ht⟩ ?_
 clear hh hw ht a W
 rintro a W ⟨i, hi, hh, hw, ht⟩
 have hb : b < W.heap.size := Nat.lt_of_lt_of_le hb0 hw.size
 have hmu : muW s a = ((s.nt : Int) - i).toNat := by simp only [muW, hh.t8]
 rw [hmu]
 refine wpIn_seq ?_
 refine reg_go (r := none) (c := ⟨W, fun _ => none, butS b W⟩) w_nd.2.1 ((du_c s (.func (.yield l) #[] #[]) (i : Int) (fun e st => (e = .normal ∧ i < s.nt ∧ Keeps s (.func (.yield l) #[] #[]) (i : Int) st) ∨ (e = .exit 0 ∧ ¬ i < s.nt))).mpr (br_iff.2 ⟨fun h => .inl ⟨rfl, ?_, rfl, rfl, rfl, rfl, rfl⟩, fun h => .inr ⟨rfl, ?_⟩⟩)) (has_stok hh) ?_
 ·rw [ilt_t, ofN_e] at h; omega
 ·rw [ilt_f, ofN_e] at h; omega
 intro st1 c1 a1 h1 hle1 k1
 refine wpIn_seq (code_go k1 h1 ?_)
 intro e st2 c2 a2 h2 hle2 k2
 rcases k2 with ⟨rfl, hlt, k2⟩ | ⟨rfl, hge⟩
 ·obtain ⟨g1, g2, g3, g4⟩ := rebase hb h2 (hle1.F.trans hle2) k2
  have hw1 : Was b W0 c2.w := hw.trans ⟨fun x hx _ => g2 x hx, g3, g4⟩
  have ht1 : Told b l (dueTo s i) c2.w := ht.next (g2 b hb) (fun x hx _ _ _ => g2 x hx) g3
  have hb1 : b < c2.w.heap.size := Nat.lt_of_lt_of_le hb g3
  show Code.wpIn _ _ _ _ _ a2 c2.w
  generalize c2.w = W1 at g1 hw1 ht1 hb1 ⊢
  clear h2 hle2 k1 h1 hle1 k2 g2 g3 g4 ht hw hh hb
  refine wpIn_seq (wpIn_block (wpIn_seq ?_))
  have hi0 : band (ile 0 (i : Int)) (ilt (i : Int) (ofN s.nt)) = true := by simp only [band_t, ile_t, ilt_t, ofN_e]; omega
  obtain ⟨q, hq⟩ : ∃ q, q = bite (bite (ine (gI s.st (nOf (i : Int))) 0) (opTimed (gI s.kd (nOf (i : Int)))) false) (bnot (gB s.lt (nOf (i : Int)))) false := ⟨_, rfl⟩
  have hqd : q = true ↔ dueC s i := by
   rw [hq, bite_fl, bite_fl]
   simp only [Bool.and_eq_true, ine_t, nOf_e, Int.toNat_natCast]
   unfold dueC gI gB
   cases s.lt.getD i false <;> simp [bnot]
  refine reg_go (r := none) (c := ⟨W1, fun _ => none, butS b W1⟩) w_nd.2.2.1 ((du_d s (.func (.yield l) #[] #[]) (i : Int) (fun st => Keeps s (.func (.yield l) #[] #[]) (i : Int) st ∧ st.T[26]? = some (.bool q) ∧ st.T[27]? = some (.cond 26 true (.val (.func (.yield l) #[] #[]))) ∧ st.T[28]? = some (.cond 26 true (.int .i64 (i : Int))) ∧ st.T[29]? = some (.cond 26 true (.agg [.int .i64 (gI s.st (nOf (i : Int))), .int .i64 (gI s.kd (nOf (i : Int))), .int .i64 (gI s.vl (nOf (i : Int))), .int .i64 (gI s.un (nOf (i : Int))), .int .i64 (gI s.pc (nOf (i : Int))), .int .i64 (gI s.rg (nOf (i : Int))), .int .i64 (gI s.sn (nOf (i : Int))), .int .i64 (gI s.tr (nOf (i : Int))), .bool (gB s.lt (nOf (i : Int))), .int .i64 (gI s.rs (nOf (i : Int))), .int .i64 (gI s.gt (nOf (i : Int)))])))).mpr (asrt_iff.2 ⟨hi0, ⟨rfl, rfl, rfl, rfl, rfl⟩, by rw [hq]; rfl, rfl, rfl, rfl⟩)) (has_stok g1) ?_
  intro st3 c3 a3 h3 hle3 k3
  refine wpIn_seq (wpIn_region_list ?_)
  rw [← List.take_append_drop 17 (wR 3).toList]
  refine ops_go (r := none) (L2 := (wR 3).toList.drop 17) w_nd.2.2.2.1 k3 h3 ?_
  intro st4 c4 a4 h4 hle4 k4
  obtain ⟨k5, k6, k7, k8, k9⟩ := k4
  obtain ⟨r1, r2, r3, r4⟩ := rebase hb1 h4 (hle3.trans hle4).F k5
  have hw2 : Was b W0 c4.w := hw1.trans ⟨fun x hx _ => r2 x hx, r3, r4⟩
  have ht2 : Told b l (dueTo s i) c4.w := ht1.next (r2 b hb1) (fun x hx _ _ _ => r2 x hx) r3
  have hb2 : b < c4.w.heap.size := Nat.lt_of_lt_of_le hb1 r3
  have m26 := tok_bool' h4.tok k6
  obtain ⟨v27, m27, n27⟩ := h4.tok.2 27 _ k7
  obtain ⟨v28, m28, n28⟩ := h4.tok.2 28 _ k8
  obtain ⟨v29, m29, n29⟩ := h4.tok.2 29 _ k9
  generalize c4.w = W2 at r1 hw2 ht2 hb2 ⊢
  clear h4 hle4 hle3 k3 h3 hw1 ht1 g1 k6 k7 k8 k9 r2 r3 r4 k5
  rw [wOp_at]
  have hwi := wanted_iff (a := a4) wOp_guard wOp_tmp
  have fin : ∀ (a' : Act) (W' : World) (i' : Nat), i' = i + 1 → Has s (.func (.yield l) #[] #[]) (iadd .i64 (i : Int) 1) ⟨W', fun _ => none, butS b W'⟩ a' → Was b W0 W' → Told b l (dueTo s i') W' → (∃ i : Nat, i ≤ s.nt ∧ Has s (.func (.yield l) #[] #[]) (i : Int) ⟨W', fun _ => none, butS b W'⟩ a' ∧ Was b W0 W' ∧ Told b l (dueTo s i) W') ∧ muW s a' < ((s.nt : Int) - i).toNat := by
   intro a' W' i' hi' q1 q2 q3
   have e : iadd .i64 (i : Int) 1 = ((i + 1 : Nat) : Int) := by
    rw [iadd_e, wr (by omega) (by omega)]
    omega
   rw [e] at q1
   subst hi'
   refine ⟨⟨i + 1, hlt, q1, q2, q3⟩, ?_⟩
   simp only [muW, q1.t8]
   omega
  unfold wpListIn
  cases q with
  | true =>
   rw [if_pos (hwi.2 m26)]
   refine ⟨fun _ _ => trivial, ?_⟩
   have e27 : v27 = .func (.yield l) #[] #[] := by simpa [Rel] using n27.1 m26
   have e28 : v28 = .int .i64 (i : Int) := by simpa [Rel] using n28.1 m26
   have e29 : v29 = .agg #[.int .i64 (gI s.st (nOf (i : Int))), .int .i64 (gI s.kd (nOf (i : Int))), .int .i64 (gI s.vl (nOf (i : Int))), .int .i64 (gI s.un (nOf (i : Int))), .int .i64 (gI s.pc (nOf (i : Int))), .int .i64 (gI s.rg (nOf (i : Int))), .int .i64 (gI s.sn (nOf (i : Int))), .int .i64 (gI s.tr (nOf (i : Int))), .bool (gB s.lt (nOf (i : Int))), .int .i64 (gI s.rs (nOf (i : Int))), .int .i64 (gI s.gt (nOf (i : Int)))] := by
    have := n29.1 m26
    simp only [Rel] at this
    obtain ⟨vs, g1, g2⟩ := this
    obtain ⟨vs⟩ := vs
    have := relL_val rfl g2
    simp only at this
    subst this
    exact g1
   subst e27 e28 e29
   have hl2 : W2.heap[l]? = some (.loop rc) := by
    have hlt0 : l < W0.heap.size := by
     rcases Nat.lt_or_ge l W0.heap.size with h | h
     ·exact h
     ·rw [Array.getElem?_eq_none h] at hl; cases hl
    exact (hw2.keep l hlt0 (fun h => hbl h.symm)).trans hl
   have hrun := Eq.trans (show (execOp a4.eval wOp).run Tryz.prog W2 = (Instr.yield l #[.int .i64 (i : Int), .agg #[.int .i64 (gI s.st (nOf (i : Int))), .int .i64 (gI s.kd (nOf (i : Int))), .int .i64 (gI s.vl (nOf (i : Int))), .int .i64 (gI s.un (nOf (i : Int))), .int .i64 (gI s.pc (nOf (i : Int))), .int .i64 (gI s.rg (nOf (i : Int))), .int .i64 (gI s.sn (nOf (i : Int))), .int .i64 (gI s.tr (nOf (i : Int))), .bool (gB s.lt (nOf (i : Int))), .int .i64 (gI s.rs (nOf (i : Int))), .int .i64 (gI s.gt (nOf (i : Int)))]]).run Tryz.prog W2 from by
    simp only [execOp, wOp_op, resolve, eval_tmp m27, eval_tmp m28, eval_tmp m29, List.map_toArray, List.map_cons, List.map_nil, Deferred.ofValue, Sem.run_bind, Sem.run_pure, Result.andThen_ok, invoke, List.nil_append, List.append_toArray, List.cons_append]) (run_yield (P := Tryz.prog) hl2 (by simp [hr.ps]))
   rw [semAt_fenceR (r := none) (fun c hc => by rw [wOp_op] at hc; cases hc), hrun]
   refine ⟨(fun h => by cases h), (du_round hr hl2 hbl (Nat.le_trans (dueTo_len s i) (by omega)) ht2 _ _ _ _ _ _ _ _ _ _ _ _ _).mono ?_⟩
   rintro e W3 ⟨rfl, x1, x2⟩
   show wpListIn _ _ _ _ _ _ (a4.put wOp.dst (.bool true)) W3
   rw [wOp_dst]
   have hw3 := hw2.trans x1
   refine du_tail (q := true) (has_put (has_move r1 x1) (by omega)) (Nat.lt_of_lt_of_le hb2 x1.size) ?_ ?_ (fun _ _ h => h) (fun _ _ h => h) ?_
   ·simp only [Act.put]
    rw [Array.getElem?_setIfInBounds_ne (by omega), m26]
   ·intro _
    have := r1.size
    simp only [Act.put]
    rw [Array.getElem?_setIfInBounds_self_of_lt (by omega)]
   ·intro a' W' q1 q2 q3 q4
    refine fin a' W' _ rfl q1 (hw3.trans ⟨fun x hx _ => q2 x hx, q3, q4⟩) ?_
    rw [dueTo_succ, if_pos (hqd.1 rfl)]
    have hbb := Nat.lt_of_lt_of_le hb2 x1.size
    have ex : gI s.un (nOf (i : Int)) = s.un.getD i 0 := by rw [nOf_e]; rfl
    rw [ex] at x2
    exact x2.next (q2 b hbb) (fun x hx _ _ _ => q2 x hx) q3
  | false =>
   rw [if_neg (fun h => by have := hwi.1 h; rw [m26] at this; cases this)]
   refine ⟨fun _ _ => trivial, ?_⟩
   rw [wOp_dst]
   refine du_tail (q := false) (has_put r1 (by omega)) hb2 ?_ (fun h => by cases h) (fun _ _ h => h) (fun _ _ h => h) ?_
   ·simp only [Act.put]
    rw [Array.getElem?_setIfInBounds_ne (by omega), m26]
   ·intro a' W' q1 q2 q3 q4
    refine fin a' W' _ rfl q1 (hw2.trans ⟨fun x hx _ => q2 x hx, q3, q4⟩) ?_
    rw [dueTo_succ, if_neg (fun h => by have := hqd.2 h; cases this)]
    exact ht2.next (q2 b hb2) (fun x hx _ _ _ => q2 x hx) q3
 ·obtain ⟨g1, g2, g3⟩ : (∀ x, x < W.heap.size → c2.w.heap[x]? = W.heap[x]?) ∧ W.heap.size ≤ c2.w.heap.size ∧ Rest W c2.w := ⟨h2.heap.kept, h2.heap.grown, (hle1.F.trans hle2 : Cx.leF 0 _ _).rest⟩
  have e : i = s.nt := by omega
  subst e
  exact hQ _ _ h2.plain (hw.trans ⟨fun x hx _ => g1 x hx, g2, g3⟩) (ht.next (g1 b hb) (fun x hx _ _ _ => g1 x hx) g2)
def flatB : AV → Bool
 | .int _ _ => true
 | .bool _ => true
 | .sl _ _ => true
 | _ => false
theorem relL_later {c : Cx} {W' : World} {S' : Nat → Prop} (hS : ∀ x, c.S x → S' x) (hk : ∀ x, c.S x → W'.heap[x]? = c.w.heap[x]?) (hs : c.w.heap.size ≤ W'.heap.size) (hr : Rest c.w W') : ∀ {xs : List AV} {vs : List Value}, xs.all flatB = true → RelL c xs vs → RelL ⟨W', fun _ => none, S'⟩ xs vs
 | [], [], _, _ => by simp [RelL]
 | x :: xs, v :: vs, h, r => by
  simp only [List.all_cons, Bool.and_eq_true] at h
  simp only [RelL] at r ⊢
  refine ⟨?_, relL_later hS hk hs hr h.2 r.2⟩
  cases x with
  | int k n => simpa [Rel] using r.1
  | bool b => simpa [Rel] using r.1
  | sl n cols => exact sl_move r.1 hS hk hs hr
  | _ => cases h.1
 | [], _ :: _, _, r => by simp [RelL] at r
 | _ :: _, [], _, r => by simp [RelL] at r
theorem du_waits {s : SR} {b b2 l : Nat} {rc : Loop} (hr : RecIs b rc) (hbl : b ≠ l) (hn : s.nt ≤ 900000) {W0 : World} (hl : W0.heap[l]? = some (.loop rc)) (ht : Told b l [] W0)
  (hbox : ∃ arr t, W0.heap[b2]? = some (.cells arr t (0, 0)) ∧ RelL ⟨W0, fun _ => none, butS b W0⟩ s.cells arr.toList) (hb2 : b2 ≠ b) {k : Nat} :
  CallsIn Fence.wide k Tryz.prog 183 #[.func (.yield l) #[] #[], .pointer (some ⟨b2, 0, none⟩)] W0 fun e W => (∃ v, e = .returned v) ∧ Was b W0 W ∧ Told b l (dueTo s s.nt) W := by
 refine callsIn_of_wp (c := .seq (.region 0 (wR 0) false) (.block 0 (.loop wLoop))) Tryz.func183 (by kernel_rfl) trivial ?_ rfl
 obtain ⟨arr, t, hb, hbr⟩ := hbox
 have hbt : b < W0.heap.size := by
  obtain ⟨_, _, _, h, _⟩ := ht
  rcases Nat.lt_or_ge b W0.heap.size with h' | h'
  ·exact h'
  ·rw [Array.getElem?_eq_none h'] at h; cases h
 have hb2t : b2 < W0.heap.size := by
  rcases Nat.lt_or_ge b2 W0.heap.size with h' | h'
  ·exact h'
  ·rw [Array.getElem?_eq_none h'] at hb; cases hb
 refine wpIn_seq ?_
 refine reg_go (r := none) (c := ⟨W0, fun _ => none, butS b W0⟩) w_nd.1 ((du_b s (.func (.yield l) #[] #[]) (fun e st => Keeps s (.func (.yield l) #[] #[]) 0 st)).mpr ⟨rfl, rfl, rfl, rfl, rfl⟩) ⟨bare_heap W0 _ fun x hx => hx.1, mkT_ok (by rw [Array.size_append, Array.size_replicate]; rfl) ?_, rfl⟩ ?_
 ·intro p hp
  simp only [List.zip_cons_cons, List.zip_nil_right, List.mem_cons, List.not_mem_nil, or_false] at hp
  rcases hp with rfl | rfl
  ·exact ⟨.func (.yield l) #[] #[], by simp, by simp [RelT, Rel]⟩
  ·refine ⟨.pointer (some ⟨b2, 0, none⟩), by simp, ?_⟩
   simp only [RelT, Rel]
   refine ⟨_, arr.toList, rfl, rfl, ⟨hb2t, hb2⟩, hbr, fun j u hj => ?_⟩
   unfold cellIs
   dsimp only
   rw [cell_of_arr hb, Nat.zero_add]
   exact hj
 intro st1 c1 a1 h1 hle1 k1
 obtain ⟨r1, r2, r3, r4⟩ := rebase hbt h1 hle1.F k1
 refine wpIn_block ?_
 refine du_loop hr hbl hn hl hbt ?_ r1 ⟨fun x hx _ => r2 x hx, r3, r4⟩ (ht.next (r2 b hbt) (fun x hx _ _ _ => r2 x hx) r3)
 intro a W q1 q2 q3
 exact ⟨q1, _, run_results (fn := Tryz.f183) (vs := []) rfl, ⟨_, rfl⟩, q2, q3⟩
noncomputable abbrev dR (i : Nat) : Array Oper := opsOf Tryz.prog 96 i
noncomputable def dO (i : Nat) : Oper := (dR 7).toList.getD i default
theorem dR7 : (dR 7).toList = [dO 0, dO 1] := by kernel_rfl
theorem dO0 : (dO 0).op = .load 141 (.tmp 2) ∧ (dO 0).dst = some 21 ∧ (dO 0).guard = none := ⟨by kernel_rfl, by kernel_rfl, by kernel_rfl⟩
theorem dO1 : (dO 1).op = .store 141 (.tmp 2) (.tmp 21) ∧ (dO 1).dst = none ∧ (dO 1).guard = none := ⟨by kernel_rfl, by kernel_rfl, by kernel_rfl⟩
theorem due_sz : szOf Tryz.prog 141 = some 1 := by kernel_rfl
theorem due_agg : isAggT Tryz.prog 141 = false := by kernel_rfl
theorem due_load {W : World} {b : Nat} {u : Value} {t : TypeId} (hb : W.heap[b]? = some (.cells #[u] t (0, 0))) : (loadVar 141 ⟨b, 0, none⟩).run Tryz.prog W = .ok u W := by
 have := run_loadVar (P := Tryz.prog) (w := W) due_sz (ad := ⟨b, 0, none⟩) (us := [u]) rfl (fun _ => rfl) (fun j v hj => ?_)
 ·rw [this, valOf, due_agg]
  rfl
 ·match j with
  | 0 =>
   cases hj
   have : (⟨b, 0, none⟩ : Addr).add 0 = ⟨b, 0, none⟩ := by simp [Addr.add]
   rw [this, cell_of_arr hb]
   rfl
  | j + 1 => simp at hj
theorem du_last {a : Act} {W : World} {b : Nat} {t : TypeId} {x : Option Addr} {m cap n : Nat} {QQ : Exit → Act → World → Prop} (h2 : a.tmps[2]? = some (.pointer (some ⟨b, 0, none⟩))) (hs : a.tmps.size = 22) (hb : W.heap[b]? = some (.cells #[.slice x m cap] t (0, 0)))
  (hQ : ∀ a' W', a'.tmps[2]? = some (.pointer (some ⟨b, 0, none⟩)) → a'.defers = a.defers → W'.heap[b]? = some (.cells #[.slice x m cap] t (0, 0)) → (∀ y, y ≠ b → W'.heap[y]? = W.heap[y]?) → W'.heap.size = W.heap.size → Rest W W' → QQ .normal a' W') :
  (Code.region 7 (dR 7) false).wpIn Fence.wide n Tryz.prog QQ a W := by
 refine wpIn_region_list ?_
 rw [dR7]
 unfold wpListIn
 rw [if_pos (by simp [Region.wanted, dO0.2.2])]
 refine ⟨fun _ _ => trivial, ?_⟩
 have r0 : (execOp a.eval (dO 0)).run Tryz.prog W = .ok (.value (.slice x m cap)) W := by
  simp only [execOp, dO0.1, eval_tmp h2, Instr.loadAt, Instr.sureAddr, Sem.run_bind, Sem.run_pure, Result.andThen_ok, due_load hb]
 rw [Fence.wide_round, Oper.semAt_none, r0]
 show wpListIn _ _ _ _ _ [dO 1] (a.put (dO 0).dst (.slice x m cap)) W
 rw [dO0.2.1]
 unfold wpListIn
 rw [if_pos (by simp [Region.wanted, dO1.2.2])]
 refine ⟨fun _ _ => trivial, ?_⟩
 have e2 : (a.put (some 21) (.slice x m cap)).tmps[2]? = some (.pointer (some ⟨b, 0, none⟩)) := by
  simp only [Act.put]
  rw [Array.getElem?_setIfInBounds_ne (by omega), h2]
 have e21 : (a.put (some 21) (.slice x m cap)).tmps[21]? = some (.slice x m cap) := by
  simp only [Act.put]
  rw [Array.getElem?_setIfInBounds_self_of_lt (by omega)]
 have r1 : (execOp (a.put (some 21) (.slice x m cap)).eval (dO 1)).run Tryz.prog W = .ok .skip (W.setRow b (overL [Value.slice x m cap] 0 [Value.slice x m cap]).toArray) := by
  have hone : ∀ u ∈ (Value.slice x m cap).cells.toList, u.oneCell' = true := by
   intro u hu
   have e : u = .slice x m cap := by simpa [Value.cells] using hu
   subst e
   rfl
  have := run_storeAt (P := Tryz.prog) due_sz (b := b) (off := 0) (v := .slice x m cap) (cur := #[.slice x m cap]) (ct := t) (w := W) rfl hone hb (by simp)
  simp only [execOp, dO1.1, eval_tmp e2, eval_tmp e21, Sem.run_bind, this, Result.andThen_ok, Sem.run_pure]
  rfl
 rw [Fence.wide_round, Oper.semAt_none, r1]
 show QQ .normal (Act.put _ (dO 1).dst undef) _
 rw [dO1.2.1]
 refine hQ _ _ e2 (put_defers _ _) ?_ (fun y hy => setRow_other _ _ _ _ hy) (setRow_size _ _ _) ⟨rfl, rfl, rfl⟩
 exact setRow_heap _ _ _ _ _ _ hb
theorem du_results {tmps : Array Value} {W : World} {b : Nat} {u : Value} {t : TypeId} (h2 : tmps[2]? = some (.pointer (some ⟨b, 0, none⟩))) (hb : W.heap[b]? = some (.cells #[u] t (0, 0))) : (results Tryz.f96 tmps).run Tryz.prog W = .ok u W := by
 refine run_results (vs := [u]) ?_
 show ([ResultVar.cell 2 141].mapM (readR tmps)).run Tryz.prog W = _
 have h2' : tmps.getD 2 undef = .pointer (some ⟨b, 0, none⟩) := by rw [Array.getD_eq_getD_getElem?, h2]; rfl
 simp only [List.mapM_cons, List.mapM_nil, readR, h2', asAddr, Sem.run_bind, Sem.run_pure, Result.andThen_ok, due_load hb]
theorem d_nd : (dR 0).toList.all noDefer = true ∧ (dR 1).toList.all noDefer = true ∧ (dR 2).toList.all noDefer = true ∧ (dR 3).toList.all noDefer = true := by
 refine ⟨?_, ?_, ?_, ?_⟩ <;> kernel_rfl
theorem flat_cells (s : SR) : s.cells.all flatB = true := rfl
theorem two_push (W : World) (o1 o2 : Obj) : (∀ x, x < W.heap.size → ((W.alloc o1).alloc o2).heap[x]? = W.heap[x]?) ∧ ((W.alloc o1).alloc o2).heap.size = W.heap.size + 2 ∧ ((W.alloc o1).alloc o2).heap[W.heap.size]? = some o1 ∧ ((W.alloc o1).alloc o2).heap[W.heap.size + 1]? = some o2 ∧ Rest W ((W.alloc o1).alloc o2) := by
 have e1 : (W.alloc o1).heap.size = W.heap.size + 1 := World.size_alloc _ _
 refine ⟨fun x hx => ?_, ?_, ?_, ?_, rfl, rfl, rfl⟩
 ·exact (heap_push_old (W.alloc o1) _ (by omega)).trans (heap_push_old W _ hx)
 ·rw [World.size_alloc, World.size_alloc]
 ·exact (heap_push_old (W.alloc o1) _ (by omega)).trans (World.alloc_heap_new W o1)
 ·have := World.alloc_heap_new (W.alloc o1) o2
  rwa [e1] at this
structure Brings (w : World) (P : Prs) (u : Value) (w' : World) : Prop where
 keep : ∀ x, x < w.heap.size → w'.heap[x]? = w.heap[x]?
 size : w.heap.size ≤ w'.heap.size
 rest : Rest w w'
 row : ∃ (p : Place) (a : Option Addr), u = .slice a p.n p.cap ∧ (p.cap ≠ 0 → a = some ⟨p.b, 0, none⟩) ∧ ObjAt (noC w') (.row 172 P.length [.int .i64 (pa P), .int .i64 (pi P)]) p ∧ (p.cap ≠ 0 → w.heap.size ≤ p.b ∧ p.b < w'.heap.size)
noncomputable abbrev dCode : Code := .seq (.region 0 (dR 0) false) (.seq (.seq (.region 1 (dR 1) false) (.cond (.tmp 7) (.seq (.region 2 (dR 2) false) .ret) .skip)) (.seq (.seq (.region 3 (dR 3) false) (.block 0 (.rangeFunc (.tmp 9) #[10, 11] (.seq (.region 4 (dR 4) false) (.region 5 (dR 5) false)) (.block 1 (.region 6 (dR 6) false))))) (.seq (.region 7 (dR 7) false) .ret)))
theorem empty_row (W : World) : ObjAt (noC W) (.row 172 0 [.int .i64 [], .int .i64 []]) ⟨0, 2, 0, 0⟩ := by
 refine ⟨rfl, rfl, Nat.le_refl _, by simp, ?_, fun h => absurd rfl h⟩
 intro col hcol
 simp only [List.mem_cons, List.not_mem_nil, or_false, or_self] at hcol
 subst hcol
 rfl
theorem dues_calls (s : SR) (c : Cx) (v : Value) (hS : ∀ x, c.S x → x < c.w.heap.size) (hv : Rel c s.av v) (hf : s.fitW = true) (hn : s.ok = true → s.nt ≤ 900000) (hπ : ∀ id, c.π id = none) :
  Calls Tryz.prog 96 #[v] c.w fun e w' => ∃ u, e = .returned u ∧ Brings c.w (if s.ok then dueTo s s.nt else []) u w' := by
 refine (callsIn_wide (n := 9)).1 ?_
 refine callsIn_of_wp_marks (c := dCode) Tryz.func96 (by kernel_rfl) trivial ?_ rfl
 refine wpIn_seq ?_
 have hheap : HeapOK ⟨c.w.heap, c.S⟩ [] c := by
  have := bare_heap c.w c.S hS
  refine ⟨fun id o h => ?_, fun id id' p p' h => ?_, fun id p h => ?_, fun id _ => hπ id, hS, fun _ _ => rfl, Nat.le_refl _, fun b h => .inl h⟩
  ·simp [Heap.at] at h
  ·obtain ⟨o, h, _⟩ := h
   simp [Heap.at] at h
  ·obtain ⟨o, h, _⟩ := h
   simp [Heap.at] at h
 have k0 := (du_a s (fun e st => (e = .ret ∧ s.ok = false ∧ st.T.length = 22 ∧ st.T[2]? = some (.ptr 1 0 0) ∧ st.H.at 1 = some (.var [.emp 172 [.int .i64 [], .int .i64 []]])) ∨ (e = .normal ∧ s.ok = true ∧ st.T.length = 22 ∧ st.T[2]? = some (.ptr 1 0 0) ∧ st.T[9]? = some (.fn (.func 183) [] [.ptr 2 0 0]) ∧ st.H.at 1 = some (.var [.emp 172 [.int .i64 [], .int .i64 []]]) ∧ st.H.at 2 = some (.var s.cells)))).mpr (asrt_iff.2 ⟨hf, br_iff.2 ⟨fun h => .inl ⟨rfl, by cases h' : s.ok <;> simp_all [bnot], rfl, rfl, rfl⟩, fun h => .inr ⟨rfl, by cases h' : s.ok <;> simp_all [bnot], rfl, rfl, rfl, rfl, rfl⟩⟩⟩)
 refine reg_go (r := none) (n := 9) d_nd.1 k0 ⟨hheap, mkT_ok (by rw [Array.size_append, Array.size_replicate]; rfl) ?_, rfl⟩ ?_
 ·intro p hp
  simp only [List.zip_cons_cons, List.zip_nil_right, List.mem_cons, List.not_mem_nil, or_false] at hp
  subst hp
  exact ⟨v, by simp, hv⟩
 intro st1 c1 a1 h1 hle1 k1
 refine wpIn_seq (code_go k1 h1 ?_)
 intro e st2 c2 a2 h2 hle2 k2
 have emp : ∀ (st : St) (cx : Cx) (a : Act), StOK ⟨c.w.heap, c.S⟩ st cx a → st.T[2]? = some (.ptr 1 0 0) → st.H.at 1 = some (.var [.emp 172 [.int .i64 [], .int .i64 []]]) →
   ∃ (b : Nat) (x : Option Addr) (t : TypeId), a.tmps[2]? = some (.pointer (some ⟨b, 0, none⟩)) ∧ cx.w.heap[b]? = some (.cells #[.slice x 0 0] t (0, 0)) ∧ c.w.heap.size ≤ b ∧ b < cx.w.heap.size ∧ ¬ cx.S b ∧ ∃ p, cx.π 1 = some p ∧ p.b = b := by
  intro st cx a h g1 g2
  obtain ⟨p, hp, arr, t, harr, hrel⟩ := h.heap.obj 1 _ g2
  obtain ⟨o1, o2, o3⟩ := h.heap.out 1 p ⟨_, g2, hp, trivial⟩
  obtain ⟨u, q1, q2⟩ := h.tok.2 2 _ g1
  simp only [RelT, Rel] at q2
  obtain ⟨p', q3, q4⟩ := q2
  rw [hp] at q3
  cases q3
  obtain ⟨arr⟩ := arr
  match arr, hrel with
  | [y], hrel =>
   simp only [RelL, Rel, and_true] at hrel
   obtain ⟨_, x, hx⟩ := hrel
   subst hx
   refine ⟨p.b, x, t, ?_, harr, o1, o2, o3, p, hp, rfl⟩
   rw [q1, q4]
   simp
  | [], hrel => simp [RelL] at hrel
  | _ :: _ :: _, hrel => simp [RelL] at hrel
 cases e with
 | exit j => rcases k2 with ⟨h, _⟩ | ⟨h, _⟩ <;> cases h
 | ret =>
  rcases k2 with ⟨_, hok, j1, j2, j3⟩ | ⟨h, _⟩
  ·obtain ⟨b, x, t, g1, g2, g3, g4, g5, _⟩ := emp st2 c2 a2 h2 j2 j3
   show LeavesInM _ _ _ _ a2.tmps _ a2.defers .returning c2.w
   rw [h2.plain]
   refine ⟨_, du_results g1 g2, _, rfl, ⟨h2.heap.kept, h2.heap.grown, (hle1.F.trans hle2 : Cx.leF 0 _ _).rest, ⟨⟨0, 2, 0, 0⟩, x, rfl, fun h => absurd rfl h, ?_, fun h => absurd rfl h⟩⟩⟩
   rw [hok]
   exact empty_row _
  ·cases h
 | normal =>
  have hle := (hle1.F.trans hle2 : Cx.leF 0 _ _)
  clear k0 k1 hle1 hle2 h1
  refine wpIn_seq (wpIn_seq ?_)
  refine reg_go (r := none) d_nd.2.2.2 k2 h2 ?_
  intro st3 c3 a3 h3 hle3 k3
  rcases k3 with ⟨h, _⟩ | ⟨_, hok, j1, j2, j3, j4, j5⟩
  ·cases h
  obtain ⟨b, x, t, g1, g2, g3, g4, g5, p1, hp1, hpb⟩ := emp st3 c3 a3 h3 j2 j4
  obtain ⟨p2, hp2, arr, t2, harr, hrel⟩ := h3.heap.obj 2 _ j5
  obtain ⟨o1, o2, o3⟩ := h3.heap.out 2 p2 ⟨_, j5, hp2, trivial⟩
  have hbb : p2.b ≠ b := fun h => h3.heap.apart 2 1 p2 p1 ⟨_, j5, hp2, trivial⟩ ⟨_, j4, hp1, trivial⟩ (by simp) (h.trans hpb.symm)
  obtain ⟨u9, q1, q2⟩ := h3.tok.2 9 _ j3
  have e9 : u9 = .func (.func 183) #[] #[.pointer (some ⟨p2.b, 0, none⟩)] := by
   simp only [RelT, Rel] at q2
   obtain ⟨xs, ys, r1, r2, r3⟩ := q2
   obtain ⟨xs⟩ := xs
   obtain ⟨ys⟩ := ys
   match xs, r2, ys, r3 with
   | [], _, [z], r3 =>
    simp only [RelL, Rel, and_true] at r3
    obtain ⟨p, r4, r5⟩ := r3
    rw [hp2] at r4
    cases r4
    rw [r1, r5]
    simp
   | [], _, [], r3 => simp [RelL] at r3
   | [], _, _ :: _ :: _, r3 => simp [RelL] at r3
   | _ :: _, r2, _, _ => simp [RelL] at r2
  subst e9
  have hkept : ∀ y, y < c.w.heap.size → c3.w.heap[y]? = c.w.heap[y]? := h3.heap.kept
  have hgrown : c.w.heap.size ≤ c3.w.heap.size := h3.heap.grown
  have hrest : Rest c.w c3.w := (hle.trans hle3.F).rest
  have hstab := h3.heap.stable
  have hplain := h3.plain
  have htl := h3.tok.1.symm.trans j1
  have hnot : ∀ y, c3.S y → y ≠ b := fun y hy h => g5 (h ▸ hy)
  obtain ⟨w1, hw1⟩ : ∃ w1, w1 = c3.w := ⟨_, rfl⟩
  refine wpIn_block (wpIn_rangeFunc ?_)
  intro fn _
  refine ⟨c3.w.heap.size + 1, _, _, { target := .fn (.func 183) #[.pointer (some ⟨p2.b, 0, none⟩)], args := #[.func (.yield (c3.w.heap.size + 1)) #[] #[]] }, ?_, 183, #[.func (.yield (c3.w.heap.size + 1)) #[] #[], .pointer (some ⟨p2.b, 0, none⟩)], ?_, run_enterLoop_outer _ _ _ _ _, ?_⟩
  rotate_left 2
  refine ⟨?_, fun _ _ => trivial, ?_, fun h => (by cases h), ?_⟩
  ·simp only [resolve, rangeCall, eval_tmp q1]
   simp [go_sem, Deferred.ofValue, Act.eval]
   rfl
  ·simp [invoke, go_sem]
   rfl
  obtain ⟨rc, hrc⟩ : ∃ rc : Loop, rc = { state := .ready, pending := none, fn := fn, tmps := a3.tmps, params := #[10, 11], assign := .seq (.region 4 (dR 4) false) (.region 5 (dR 5) false), body := .block 1 (.region 6 (dR 6) false), defers := c3.w.heap.size } := ⟨_, rfl⟩
  have hris : RecIs b rc := by subst hrc; exact ⟨rfl, rfl, rfl, htl, g1, rfl, rfl⟩
  rw [← hrc]
  obtain ⟨u1, u2, u3, u4, hw2r⟩ := two_push c3.w (.deferred (some [])) (.loop rc)
  generalize (c3.w.alloc (.deferred (some []))).alloc (.loop rc) = W2 at u1 u2 u3 u4 hw2r ⊢
  have htold : Told b (c3.w.heap.size + 1) [] W2 := ⟨t, ⟨0, 2, 0, 0⟩, x, (u1 b g4).trans g2, fun h => absurd rfl h, empty_row W2, fun h => absurd rfl h⟩
  have hbox : ∃ arr t, W2.heap[p2.b]? = some (.cells arr t (0, 0)) ∧ RelL ⟨W2, fun _ => none, butS b W2⟩ s.cells arr.toList :=
   ⟨arr, t2, (u1 _ o2).trans harr, relL_later (fun y hy => ⟨by have := hstab y hy; omega, hnot y hy⟩) (fun y hy => u1 y (hstab y hy)) (by omega) hw2r (flat_cells s) hrel⟩
  refine (du_waits hris (by omega) (hn hok) u4 htold hbox hbb).mono ?_
  rintro e W3 ⟨⟨v', rfl⟩, hwas, t3, p, ax, m1, m2, m3, m4⟩
  have hl3 : W3.heap[c3.w.heap.size + 1]? = some (.loop rc) := (hwas.keep _ (by omega) (by omega)).trans u4
  have hD3 : W3.heap[c3.w.heap.size]? = some (.deferred (some [])) := (hwas.keep _ (by omega) (by omega)).trans u3
  refine ⟨_, _, run_endLoop hl3 (by rw [hris.st]; simp), ?_⟩
  rw [hris.pe]
  show Code.wpIn _ _ _ _ _ _ _
  have hws := hwas.size
  refine wpIn_seq (du_last (b := b) (t := t3) (x := ax) (m := p.n) (cap := p.cap) g1 htl ((World.putObj_heap_other (by omega)).trans m1) ?_)
  intro a5 W5 k1 k2 k3 k4 k5 k6
  refine wpIn_ret ?_
  show LeavesInM _ _ _ _ a5.tmps _ a5.defers .returning W5
  rw [k2]
  dsimp only
  rw [hplain]
  have hD5 : W5.heap[c3.w.heap.size]? = some (.deferred (some [])) := by
   rw [k4 _ (by omega), World.putObj_heap_other (by omega), hD3]
  refine ⟨by simp, .inl ⟨_, _, rfl, run_takeDeferred hD5, ?_⟩⟩
  refine ⟨_, du_results k1 ((World.putObj_heap_other (by omega)).trans k3), _, rfl, ⟨fun y hy => ?_, ?_, ?_, p, ax, rfl, m2, ?_, fun hc => ?_⟩⟩
  ·rw [World.putObj_heap_other (by omega), k4 _ (by omega), World.putObj_heap_other (by omega), hwas.keep _ (by omega) (by omega), u1 _ (by omega), hkept y hy]
  ·rw [World.putObj_size, k5, World.putObj_size]; omega
  ·have r1 := hwas.rest
   exact ⟨k6.1.trans (r1.1.trans (hw2r.1.trans hrest.1)), k6.2.1.trans (r1.2.1.trans (hw2r.2.1.trans hrest.2.1)), k6.2.2.trans (r1.2.2.trans (hw2r.2.2.trans hrest.2.2))⟩
  ·rw [hok]
   refine row_move two_ints m3 fun hc => ?_
   obtain ⟨n1, n2, n3, n4, n5⟩ := m4 hc
   show (W5.putObj c3.w.heap.size (.deferred none)).heap[p.b]? = W3.heap[p.b]?
   rw [World.putObj_heap_other (by omega), k4 _ n2, World.putObj_heap_other n3]
  ·obtain ⟨n1, n2, n3, n4, n5⟩ := m4 hc
   rw [World.putObj_size, k5, World.putObj_size]
   omega
end Go.Own
end
