/- Dues as pairs: what put, drop, late and first come to. -/
import Derived.Test.YtmilniofdpgbnaaDueF
namespace Go.Own
open Go Go.Proofs
set_option maxRecDepth 100000
set_option linter.unusedVariables false
set_option linter.unusedSimpArgs false

abbrev Prs := List (Int × Int)

def pa (P : Prs) : List Int := P.map (·.1)
def pi (P : Prs) : List Int := P.map (·.2)

theorem pa_len (P : Prs) : (pa P).length = P.length := by simp [pa]
theorem pi_len (P : Prs) : (pi P).length = P.length := by simp [pi]

theorem zip_P : ∀ P : Prs, (pa P).zip (pi P) = P
  | [] => rfl
  | p :: P => by
    show (p.1, p.2) :: (pa P).zip (pi P) = _
    rw [zip_P P]

theorem pa_zip {a d : List Int} (h : d.length = a.length) : pa (a.zip d) = a := List.map_fst_zip (by omega)
theorem pi_zip {a d : List Int} (h : d.length = a.length) : pi (a.zip d) = d := List.map_snd_zip (by omega)

theorem dA_P (P : Prs) : dA (pa P) (pi P) = pa (srt P) := by unfold dA; rw [zip_P]; rfl
theorem dI_P (P : Prs) : dI (pa P) (pi P) = pi (srt P) := by unfold dI; rw [zip_P]; rfl

theorem pa_get {P : Prs} {i : Nat} (h : i < P.length) : (pa P).getD i 0 = (P[i]).1 := by simp [pa, h]
theorem pi_get {P : Prs} {i : Nat} (h : i < P.length) : (pi P).getD i 0 = (P[i]).2 := by simp [pi, h]

/-- Dues that may be. -/
def okP (P : Prs) : Prop := (∀ p ∈ P, dtime p.1 = true ∧ did p.2 = true) ∧ P.Pairwise lt2 ∧ (pi P).Nodup

theorem mB_rep (ks : List Int) (x : Int) : mB ks (List.replicate ks.length true) x = ks.contains x := by
  unfold mB
  by_cases h : x ∈ ks
  · have := List.idxOf_lt_length_iff.2 h
    rw [List.getD_eq_getElem?_getD, List.getElem?_replicate, if_pos this]
    simp [h]
  · have := List.idxOf_eq_length h
    rw [List.getD_eq_getElem?_getD, List.getElem?_replicate, if_neg (by omega)]
    simp [h]

theorem dueFrom_iff {P : Prs} : ∀ (f j : Nat), P.length = j + f → ((pi P).take j).Nodup → (dueFrom (pa P) (pi P) f j ((pi P).take j) (List.replicate j true) = true ↔ ∀ i, j ≤ i → (h : i < P.length) → dtime (P[i]).1 = true ∧ did (P[i]).2 = true ∧ (P[i]).2 ∉ (pi P).take i ∧ (i = 0 ∨ lt2 (P[i - 1]) (P[i])))
  | 0, j, hl, _ => by
    unfold dueFrom
    simp
    omega
  | f + 1, j, hl, hn => by
    have hj : j < P.length := by omega
    unfold dueFrom
    rw [pa_get hj, pi_get hj]
    have hk : ((pi P).take j).length = j := by rw [List.length_take, pi_len]; omega
    have hmB : mB ((pi P).take j) (List.replicate j true) (P[j]).2 = ((pi P).take j).contains (P[j]).2 := by
      have := mB_rep ((pi P).take j) (P[j]).2
      rw [hk] at this
      exact this
    rw [hmB]
    have htake : (pi P).take (j + 1) = (pi P).take j ++ [(P[j]).2] := by
      rw [List.take_add_one]
      simp [pi, hj]
    have hord : (decide (j = 0) || aheadB ((pa P).getD (j - 1) 0) ((pi P).getD (j - 1) 0) (P[j]).1 (P[j]).2) = true ↔ (j = 0 ∨ lt2 (P[j - 1]) (P[j])) := by
      rw [pa_get (by omega), pi_get (by omega)]
      simp [ahead_lt]
    by_cases hc : (P[j]).2 ∈ (pi P).take j
    · have : ((pi P).take j).contains (P[j]).2 = true := by simpa using hc
      rw [this]
      simp only [Bool.not_true, Bool.and_false, Bool.false_and, Bool.false_eq_true, false_iff]
      intro hh
      exact (hh j (Nat.le_refl _) hj).2.2.1 hc
    · have hcf : ((pi P).take j).contains (P[j]).2 = false := by simpa using hc
      have hm1 : mkey ((pi P).take j) (P[j]).2 = (pi P).take (j + 1) := by
        unfold mkey
        rw [hcf, htake]
        rfl
      have hm2 : mput ((pi P).take j) (List.replicate j true) (P[j]).2 true = List.replicate (j + 1) true := by
        unfold mput
        rw [hcf, List.replicate_succ']
        rfl
      rw [hcf, hm1, hm2]
      have hn' : ((pi P).take (j + 1)).Nodup := by
        rw [htake, List.nodup_append]
        refine ⟨hn, by simp, ?_⟩
        intro a ha b hb
        simp at hb
        subst hb
        exact fun e => hc (e ▸ ha)
      have ih := dueFrom_iff (P := P) f (j + 1) (by omega) hn'
      rw [Bool.and_eq_true, ih, Bool.and_eq_true, hord, Bool.and_eq_true, Bool.and_eq_true]
      simp only [Bool.not_false, and_true]
      constructor
      · rintro ⟨⟨⟨h1, h2⟩, h3⟩, h4⟩ i hi hl'
        rcases Nat.eq_or_lt_of_le hi with e | hi
        · subst e
          exact ⟨h1, h2, hc, h3⟩
        · exact h4 i hi hl'
      · intro h
        obtain ⟨h1, h2, _, h3⟩ := h j (Nat.le_refl _) hj
        exact ⟨⟨⟨h1, h2⟩, h3⟩, fun i hi hl' => h i (by omega) hl'⟩

theorem dueOk_P (P : Prs) : dueOk (pa P) (pi P) = true ↔ okP P := by
  unfold dueOk
  rw [pa_len]
  have := dueFrom_iff (P := P) P.length 0 (by omega) (by simp)
  simp only [List.take_zero, List.replicate_zero, Nat.zero_le, forall_const] at this
  rw [this]
  constructor
  · intro h
    refine ⟨fun p hp => ?_, ?_, ?_⟩
    · obtain ⟨i, hi, rfl⟩ := List.getElem_of_mem hp
      exact ⟨(h i hi).1, (h i hi).2.1⟩
    · rw [List.pairwise_iff_getElem]
      intro i j hi hj hij
      induction j with
      | zero => omega
      | succ j ih =>
        have hs : lt2 (P[j]) (P[j + 1]) := by
          have := (h (j + 1) hj).2.2.2
          simpa using this
        rcases Nat.eq_or_lt_of_le (Nat.le_of_lt_succ hij) with e | hlt
        · subst e
          exact hs
        · exact lt2_trans (ih (by omega) hlt) hs
    · rw [List.Nodup, List.pairwise_iff_getElem]
      intro i j hi hj hij e
      rw [pi_len] at hi hj
      refine (h j hj).2.2.1 ?_
      have ej : (pi P)[j]'(by rw [pi_len]; exact hj) = (P[j]).2 := by simp [pi]
      rw [← ej, ← e]
      rw [List.mem_take_iff_getElem]
      exact ⟨i, by rw [pi_len]; omega, rfl⟩
  · rintro ⟨h1, h2, h3⟩ i hi
    refine ⟨(h1 _ (List.getElem_mem hi)).1, (h1 _ (List.getElem_mem hi)).2, fun hc => ?_, ?_⟩
    · rw [List.mem_take_iff_getElem] at hc
      obtain ⟨k, hk, e⟩ := hc
      rw [List.Nodup, List.pairwise_iff_getElem] at h3
      refine h3 k i (by rw [pi_len] at *; omega) (by rw [pi_len]; exact hi) (by omega) ?_
      rw [e]
      simp [pi]
    · by_cases h0 : i = 0
      · exact Or.inl h0
      · refine Or.inr ?_
        rw [List.pairwise_iff_getElem] at h2
        exact h2 (i - 1) i (by omega) hi (by omega)

theorem byK_add : ∀ (l ks : List Int), (ks ++ l).Nodup → l.foldl mkey ks = ks ++ l
  | [], ks, _ => by simp
  | x :: l, ks, h => by
    have hx : x ∉ ks := by
      rw [List.nodup_append] at h
      intro hx
      exact h.2.2 x hx x (by simp) rfl
    have e : mkey ks x = ks ++ [x] := by
      unfold mkey
      rw [if_neg (by simpa using hx)]
    rw [List.foldl_cons, e, byK_add l (ks ++ [x]) (by simpa using h)]
    simp

theorem byK_ok {d : List Int} (h : d.Nodup) : byK [] d 0 = d := by
  unfold byK
  rw [List.drop_zero, byK_add d [] (by simpa using h)]
  rfl

theorem byC_add {α : Type} : ∀ (l : List (Int × α)) (ks : List Int) (c : List α), (ks ++ l.map (·.1)).Nodup → (l.foldl (fun (p : List Int × List α) kx => (mkey p.1 kx.1, mput p.1 p.2 kx.1 kx.2)) (ks, c)).2 = c ++ l.map (·.2)
  | [], ks, c, _ => by simp
  | x :: l, ks, c, h => by
    have hx : x.1 ∉ ks := by
      rw [List.nodup_append] at h
      intro hx
      exact h.2.2 x.1 hx x.1 (by simp) rfl
    have e : mkey ks x.1 = ks ++ [x.1] := by
      unfold mkey
      rw [if_neg (by simpa using hx)]
    have e2 : mput ks c x.1 x.2 = c ++ [x.2] := by
      unfold mput
      rw [if_neg (by simpa using hx)]
    rw [List.foldl_cons]
    simp only
    rw [e, e2, byC_add l (ks ++ [x.1]) (c ++ [x.2]) (by simpa using h)]
    simp

theorem byC_ok {d a : List Int} (h : d.Nodup) (hl : d.length = a.length) : byC [] d [] a 0 = a := by
  unfold byC
  rw [List.drop_zero, byC_add (d.zip a) [] [] (by rw [List.map_fst_zip (by omega)]; simpa using h), List.map_snd_zip (by omega)]
  rfl

theorem in_of {P : Prs} (h : P.Pairwise lt2) : inOrder P := h.imp fun hh => lt2_asymm hh

theorem srt_self {P : Prs} (h : P.Pairwise lt2) : srt P = P := srt_of (in_of h) (List.Perm.refl _)

theorem srt_congr {P Q : Prs} (h : P.Perm Q) : srt P = srt Q := srt_of (srt_order Q) ((srt_perm Q).trans h.symm)

theorem pi_perm {P Q : Prs} (h : P.Perm Q) : (pi P).Perm (pi Q) := h.map _

/-- In order, and no two of one thread. -/
theorem strict_of {P : Prs} (h : inOrder P) (hn : (pi P).Nodup) : P.Pairwise lt2 := by
  induction P with
  | nil => exact List.Pairwise.nil
  | cons p P ih =>
    obtain ⟨h1, h2⟩ := List.pairwise_cons.1 h
    have hn' := List.nodup_cons.1 (show (p.2 :: pi P).Nodup from hn)
    refine List.pairwise_cons.2 ⟨fun q hq => ?_, ih h2 hn'.2⟩
    rcases Classical.em (lt2 p q) with hh | hh
    · exact hh
    · exfalso
      have := lt2_total hh (h1 q hq)
      subst this
      exact hn'.1 (List.mem_map_of_mem hq)

theorem okP_perm {P Q : Prs} (h : P.Perm Q) (h1 : ∀ p ∈ P, dtime p.1 = true ∧ did p.2 = true) (h2 : (pi P).Nodup) : okP (srt Q) := by
  have hp : (srt Q).Perm P := (srt_perm Q).trans h.symm
  have hn : (pi (srt Q)).Nodup := (pi_perm hp).nodup_iff.2 h2
  exact ⟨fun p hp' => h1 p (hp.subset hp'), strict_of (srt_order Q) hn, hn⟩

/-- A put. -/
def putE2 (P : Prs) (p : Int × Int) : Int := putE (pa P) (pi P) p.1 p.2
def putP (P : Prs) (p : Int × Int) : Prs := if putE2 P p = 0 then srt (P ++ [p]) else P

theorem mhas_P {d : List Int} {y : Int} : mhas d y = true ↔ y ∈ d := by simp [mhas]

theorem putE_bad {P : Prs} {p : Int × Int} (h : ¬ okP P) : putE2 P p = 40 := by
  unfold putE2 putE
  rw [if_neg (by rw [dueOk_P]; exact h)]

theorem putE_ok {P : Prs} {p : Int × Int} (h : okP P) : putE2 P p = if dtime p.1 then if did p.2 then if p.2 ∈ pi P then 60 else 0 else 40 else 50 := by
  unfold putE2 putE
  rw [if_pos ((dueOk_P P).2 h), byK_ok h.2.2]
  simp only [mhas_P]

theorem putE_zero {P : Prs} {p : Int × Int} (h : putE2 P p = 0) : okP P ∧ dtime p.1 = true ∧ did p.2 = true ∧ p.2 ∉ pi P := by
  by_cases ho : okP P
  · rw [putE_ok ho] at h
    refine ⟨ho, ?_⟩
    split at h
    · split at h
      · split at h
        · cases h
        · rename_i a b c
          exact ⟨a, b, c⟩
      · cases h
    · cases h
  · rw [putE_bad ho] at h
    cases h

theorem put_new {P : Prs} {p : Int × Int} (h : putE2 P p = 0) : mkey (byK [] (pi P) 0) p.2 = pi (P ++ [p]) ∧ mput (byK [] (pi P) 0) (byC [] (pi P) [] (pa P) 0) p.2 p.1 = pa (P ++ [p]) ∧ mput (byK [] (pi P) 0) (byC [] (pi P) [] (pi P) 0) p.2 p.2 = pi (P ++ [p]) := by
  obtain ⟨ho, _, _, hn⟩ := putE_zero h
  have hc : (pi P).contains p.2 = false := by simpa using hn
  rw [byK_ok ho.2.2, byC_ok ho.2.2 (by rw [pa_len, pi_len]), byC_ok ho.2.2 rfl]
  unfold mkey mput
  simp only [hc]
  refine ⟨?_, ?_, ?_⟩
  · simp [pi]
  · simp [pa]
  · simp [pi]

theorem putA_P (P : Prs) (x y : Int) : putA (pa P) (pi P) x y = pa (putP P (x, y)) := by
  unfold putA putP
  split
  · rename_i h
    have := put_new (p := (x, y)) h
    simp only at this
    rw [if_pos (by exact h), this.2.1, this.2.2, dA_P]
  · rename_i h
    rw [if_neg (by exact h)]

theorem putI_P (P : Prs) (x y : Int) : putI (pa P) (pi P) x y = pi (putP P (x, y)) := by
  unfold putI putP
  split
  · rename_i h
    have := put_new (p := (x, y)) h
    simp only at this
    rw [if_pos (by exact h), this.2.1, this.2.2, dI_P]
  · rename_i h
    rw [if_neg (by exact h)]

theorem putN_P (P : Prs) (x y : Int) : putN P.length (pa P) (pi P) x y = (putP P (x, y)).length := by
  unfold putN putP
  split
  · rename_i h
    have := put_new (p := (x, y)) h
    simp only at this
    rw [if_pos (by exact h), this.1, lenI_e, pi_len, (srt_perm _).length_eq]
  · rename_i h
    rw [if_neg (by exact h)]

theorem okP_put {P : Prs} {p : Int × Int} (h : putE2 P p = 0) : okP (putP P p) := by
  obtain ⟨ho, h1, h2, hn⟩ := putE_zero h
  unfold putP
  rw [if_pos h]
  refine okP_perm (List.Perm.refl _) ?_ ?_
  · intro q hq
    rcases List.mem_append.1 hq with hq | hq
    · exact ho.1 q hq
    · simp at hq
      subst hq
      exact ⟨h1, h2⟩
  · unfold pi
    rw [List.map_append, List.nodup_append]
    refine ⟨ho.2.2, by simp, ?_⟩
    intro a ha b hb
    simp at hb
    subst hb
    exact fun e => hn (e ▸ ha)

theorem okP_putP {P : Prs} {p : Int × Int} : okP (putP P p) ↔ okP P := by
  constructor
  · intro h
    by_cases he : putE2 P p = 0
    · exact (putE_zero he).1
    · unfold putP at h
      rw [if_neg he] at h
      exact h
  · intro h
    by_cases he : putE2 P p = 0
    · exact okP_put he
    · unfold putP
      rw [if_neg he]
      exact h

/-- A drop. -/
def dropP (P : Prs) (y : Int) : Prs := if dropB (pa P) (pi P) y then P.filter (fun q => q.2 != y) else P

theorem mcut_P {α : Type} (g : Int × Int → α) (y : Int) : ∀ P : Prs, (pi P).Nodup → mcut (pi P) (P.map g) y = (P.filter fun q => q.2 != y).map g
  | [], _ => rfl
  | p :: P, h => by
    have h' := List.nodup_cons.1 (show (p.2 :: pi P).Nodup from h)
    unfold mcut
    show (g p :: P.map g).eraseIdx ((p.2 :: pi P).idxOf y) = _
    by_cases hp : p.2 = y
    · subst hp
      have hf : P.filter (fun q => q.2 != p.2) = P := by
        rw [List.filter_eq_self]
        intro q hq
        simp
        exact fun e => h'.1 (e ▸ List.mem_map_of_mem hq)
      rw [List.idxOf_cons_self, List.eraseIdx_cons_zero, List.filter_cons_of_neg (by simp), hf]
    · have e : (p.2 :: pi P).idxOf y = (pi P).idxOf y + 1 := by
        rw [List.idxOf_cons]
        have : (p.2 == y) = false := by simpa using hp
        rw [this]
        rfl
      rw [e, List.eraseIdx_cons_succ, List.filter_cons_of_pos (by simpa using hp), List.map_cons]
      have := mcut_P g y P h'.2
      unfold mcut at this
      rw [this]

theorem mdel_P (y : Int) (P : Prs) (h : (pi P).Nodup) : mdel (pi P) y = pi (P.filter fun q => q.2 != y) := mcut_P (·.2) y P h

theorem okP_filter {P : Prs} (f : Int × Int → Bool) (h : okP P) : okP (P.filter f) := by
  refine ⟨fun p hp => h.1 p (List.mem_filter.1 hp).1, h.2.1.filter _, ?_⟩
  unfold pi
  exact h.2.2.sublist (List.Sublist.map _ List.filter_sublist)

theorem dropB_P {P : Prs} {y : Int} (h : okP P) : dropB (pa P) (pi P) y = decide (y ∈ pi P) := by
  unfold dropB
  rw [byK_ok h.2.2, (dueOk_P P).2 h, Bool.and_true]
  rw [Bool.eq_iff_iff, mhas_P]
  simp

theorem drop_new {P : Prs} {y : Int} (h : dropB (pa P) (pi P) y = true) : okP P ∧ mdel (byK [] (pi P) 0) y = pi (P.filter fun q => q.2 != y) ∧ mcut (byK [] (pi P) 0) (byC [] (pi P) [] (pa P) 0) y = pa (P.filter fun q => q.2 != y) ∧ mcut (byK [] (pi P) 0) (byC [] (pi P) [] (pi P) 0) y = pi (P.filter fun q => q.2 != y) := by
  have ho : okP P := by
    unfold dropB at h
    rw [Bool.and_eq_true] at h
    exact (dueOk_P P).1 h.2
  rw [byK_ok ho.2.2, byC_ok ho.2.2 (by rw [pa_len, pi_len]), byC_ok ho.2.2 rfl]
  exact ⟨ho, mdel_P y P ho.2.2, mcut_P (·.1) y P ho.2.2, mcut_P (·.2) y P ho.2.2⟩

theorem dropA_P (P : Prs) (y : Int) : dropA (pa P) (pi P) y = pa (dropP P y) := by
  unfold dropA dropP
  split
  · rename_i h
    obtain ⟨ho, h1, h2, h3⟩ := drop_new h
    rw [h2, h3, dA_P, srt_self (okP_filter _ ho).2.1]
  · rfl

theorem dropI_P (P : Prs) (y : Int) : dropI (pa P) (pi P) y = pi (dropP P y) := by
  unfold dropI dropP
  split
  · rename_i h
    obtain ⟨ho, h1, h2, h3⟩ := drop_new h
    rw [h2, h3, dI_P, srt_self (okP_filter _ ho).2.1]
  · rfl

theorem dropN_P (P : Prs) (y : Int) : dropN P.length (pa P) (pi P) y = (dropP P y).length := by
  unfold dropN dropP
  split
  · rename_i h
    obtain ⟨ho, h1, h2, h3⟩ := drop_new h
    rw [h1, lenI_e, pi_len]
  · rfl

/-- Who is late; who is not. -/
def lateP (P : Prs) (t : Int) : List Int := if dueOk (pa P) (pi P) then pi (P.filter fun p => decide (p.1 ≤ t)) else []
def restP (P : Prs) (t : Int) : Prs := if dueOk (pa P) (pi P) then P.filter (fun p => decide (¬ p.1 ≤ t)) else P

theorem lvL_all (t : Int) : ∀ (P : Prs) (L : List Int), P.foldl (fun L p => if p.1 ≤ t then L ++ [p.2] else L) L = L ++ pi (P.filter fun p => decide (p.1 ≤ t))
  | [], L => by simp [pi]
  | p :: P, L => by
    rw [List.foldl_cons, lvL_all t P]
    by_cases h : p.1 ≤ t
    · simp [h, pi]
    · simp [h, pi]

/-- One after another out of a map. -/
def cutP (t : Int) (l Q : Prs) : Prs := l.foldl (fun Q p => if p.1 ≤ t then Q.filter (fun q => q.2 != p.2) else Q) Q

theorem cutP_sub (t : Int) : ∀ (l Q : Prs), (cutP t l Q).Sublist Q
  | [], Q => List.Sublist.refl _
  | p :: l, Q => by
    unfold cutP
    rw [List.foldl_cons]
    refine (cutP_sub t l _).trans ?_
    split
    · exact List.filter_sublist
    · exact List.Sublist.refl _

theorem nodup_filter {Q : Prs} {f : Int × Int → Bool} (h : (pi Q).Nodup) : (pi (Q.filter f)).Nodup := h.sublist (List.Sublist.map _ List.filter_sublist)

theorem lvC_all {α : Type} (g : Int × Int → α) (t : Int) : ∀ (l Q : Prs), (pi Q).Nodup → l.foldl (fun (m : List Int × List α) p => if p.1 ≤ t then (mdel m.1 p.2, mcut m.1 m.2 p.2) else m) (pi Q, Q.map g) = (pi (cutP t l Q), (cutP t l Q).map g)
  | [], Q, _ => rfl
  | p :: l, Q, h => by
    unfold cutP
    rw [List.foldl_cons, List.foldl_cons]
    simp only
    by_cases hp : p.1 ≤ t
    · rw [if_pos hp, if_pos hp, mdel_P p.2 Q h, mcut_P g p.2 Q h]
      exact lvC_all g t l _ (nodup_filter h)
    · rw [if_neg hp, if_neg hp]
      exact lvC_all g t l Q h

theorem lvK_all (t : Int) : ∀ (l Q : Prs), (pi Q).Nodup → l.foldl (fun K p => if p.1 ≤ t then mdel K p.2 else K) (pi Q) = pi (cutP t l Q)
  | [], Q, _ => rfl
  | p :: l, Q, h => by
    unfold cutP
    rw [List.foldl_cons, List.foldl_cons]
    by_cases hp : p.1 ≤ t
    · rw [if_pos hp, if_pos hp, mdel_P p.2 Q h]
      exact lvK_all t l _ (nodup_filter h)
    · rw [if_neg hp, if_neg hp]
      exact lvK_all t l Q h

theorem cutP_filter (t : Int) : ∀ (l Q : Prs), cutP t l Q = Q.filter fun q => l.all fun p => !(decide (p.1 ≤ t) && p.2 == q.2)
  | [], Q => by
    unfold cutP
    exact (List.filter_eq_self.2 (by simp)).symm
  | p :: l, Q => by
    unfold cutP
    rw [List.foldl_cons]
    by_cases hp : p.1 ≤ t
    · rw [if_pos hp]
      refine (cutP_filter t l _).trans ?_
      rw [List.filter_filter]
      congr 1
      funext q
      simp only [List.all_cons, hp, decide_true, Bool.true_and]
      rw [Bool.and_comm]
      congr 1
      rw [Bool.eq_iff_iff]
      simp
      exact ⟨fun h e => h e.symm, fun h e => h e.symm⟩
    · rw [if_neg hp]
      refine (cutP_filter t l _).trans ?_
      congr 1
      funext q
      simp [hp]

theorem nodup_inj {P : Prs} (h : (pi P).Nodup) {p q : Int × Int} (hp : p ∈ P) (hq : q ∈ P) (e : p.2 = q.2) : p = q := by
  induction P with
  | nil => cases hp
  | cons x P ih =>
    have h' := List.nodup_cons.1 (show (x.2 :: pi P).Nodup from h)
    rcases List.mem_cons.1 hp with rfl | hp'
    · rcases List.mem_cons.1 hq with rfl | hq'
      · rfl
      · exact absurd (e ▸ List.mem_map_of_mem hq') h'.1
    · rcases List.mem_cons.1 hq with rfl | hq'
      · exact absurd (e ▸ List.mem_map_of_mem hp') h'.1
      · exact ih h'.2 hp' hq'

theorem cutP_self {P : Prs} (h : (pi P).Nodup) (t : Int) : cutP t P P = P.filter fun p => decide (¬ p.1 ≤ t) := by
  rw [cutP_filter]
  apply List.filter_congr
  intro q hq
  rw [Bool.eq_iff_iff]
  simp only [List.all_eq_true, Bool.not_eq_true', Bool.and_eq_false_iff, decide_eq_false_iff_not, beq_eq_false_iff_ne, decide_eq_true_eq]
  constructor
  · intro hh
    rcases hh q hq with h1 | h1
    · exact h1
    · exact absurd rfl h1
  · intro hh p hp
    by_cases e : p.2 = q.2
    · have := nodup_inj h hp hq e
      subst this
      exact Or.inl hh
    · exact Or.inr e

theorem lateL_P (P : Prs) (t : Int) : lateL (pa P) (pi P) t = lateP P t := by
  unfold lateL lateP lvL
  rw [zip_P, List.drop_zero, lvL_all]
  simp

theorem late_new {P : Prs} (h : okP P) (t : Int) : lvK (pa P) (pi P) t 0 (byK [] (pi P) 0) = pi (P.filter fun p => decide (¬ p.1 ≤ t)) ∧ lvC (pa P) (pi P) t 0 (byK [] (pi P) 0) (byC [] (pi P) [] (pa P) 0) = pa (P.filter fun p => decide (¬ p.1 ≤ t)) ∧ lvC (pa P) (pi P) t 0 (byK [] (pi P) 0) (byC [] (pi P) [] (pi P) 0) = pi (P.filter fun p => decide (¬ p.1 ≤ t)) := by
  rw [byK_ok h.2.2, byC_ok h.2.2 (by rw [pa_len, pi_len]), byC_ok h.2.2 rfl]
  unfold lvK lvC
  rw [zip_P, List.drop_zero, lvK_all t P P h.2.2]
  have h1 := lvC_all (·.1) t P P h.2.2
  have h2 := lvC_all (·.2) t P P h.2.2
  have e := cutP_self h.2.2 t
  rw [e] at h1 h2
  rw [e]
  refine ⟨rfl, ?_, ?_⟩
  · exact congrArg Prod.snd h1
  · exact congrArg Prod.snd h2

theorem lateA_P (P : Prs) (t : Int) : lateA (pa P) (pi P) t = pa (restP P t) := by
  unfold lateA restP
  split
  · rename_i h
    have ho := (dueOk_P P).1 h
    obtain ⟨h1, h2, h3⟩ := late_new ho t
    rw [h2, h3, dA_P, srt_self (okP_filter _ ho).2.1]
  · rfl

theorem lateI_P (P : Prs) (t : Int) : lateI (pa P) (pi P) t = pi (restP P t) := by
  unfold lateI restP
  split
  · rename_i h
    have ho := (dueOk_P P).1 h
    obtain ⟨h1, h2, h3⟩ := late_new ho t
    rw [h2, h3, dI_P, srt_self (okP_filter _ ho).2.1]
  · rfl

theorem lateN_P (P : Prs) (t : Int) : lateN P.length (pa P) (pi P) t = (restP P t).length := by
  unfold lateN restP
  split
  · rename_i h
    have ho := (dueOk_P P).1 h
    obtain ⟨h1, h2, h3⟩ := late_new ho t
    rw [h1, lenI_e, pi_len]
  · rfl

theorem firA_P {p : Int × Int} {P : Prs} (h : okP (p :: P)) : firA (pa (p :: P)) (pi (p :: P)) = p.1 ∧ firI (pa (p :: P)) (pi (p :: P)) = p.2 ∧ firB (pa (p :: P)) (pi (p :: P)) = true := by
  have hb : firB (pa (p :: P)) (pi (p :: P)) = true := by
    unfold firB
    rw [(dueOk_P _).2 h]
    simp [pa]
  unfold firA firI
  rw [hb, if_pos rfl, if_pos rfl, byC_ok h.2.2 (by rw [pa_len, pi_len]), byC_ok h.2.2 rfl, dA_P, dI_P, srt_self h.2.1]
  exact ⟨rfl, rfl, rfl⟩

theorem firB_nil : firB (pa []) (pi []) = false := rfl

end Go.Own
