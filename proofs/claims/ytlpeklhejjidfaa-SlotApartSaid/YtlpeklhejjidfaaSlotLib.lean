/- What is done to the places of a ring, as plain lists. -/
import Derived.Test.YtlpeklhejjidfaaPosRef
import Derived.Test.YtlpeklhejjidfaaPLx11
import Derived.Test.YtlpeklhejjidfaaPLx12
namespace Go.Proofs.Ytlpeklhejjidfaa.Pure
open Go.RowKit Go.Proofs.Ytlpeklhejjidfaa.PL Go.Proofs.YtlpeklhejjidfaaW.PrintWords Go.Proofs.YtlpeklhejjidfaaW.PrintLast Go.Proofs.YtlpeklhejjidfaaW.PrintMore
set_option linter.unusedSimpArgs false
set_option linter.unusedVariables false
abbrev Sl : Type := S49
theorem at_set (l : List Sl) (i j : Int) (x : Sl) : rd_T49 (l.set i.toNat x) j = if i.toNat = j.toNat ∧ i.toNat < l.length then x else rd_T49 l j := by
  unfold rd_T49
  rw [List.getD_eq_getElem?_getD, List.getElem?_set]
  by_cases h : i.toNat = j.toNat
  · by_cases h2 : i.toNat < l.length
    · rw [if_pos h, if_pos h2, if_pos ⟨h, h2⟩]; rfl
    · rw [if_pos h, if_neg h2, if_neg (fun h3 => h2 h3.2), List.getD_eq_getElem?_getD, List.getElem?_eq_none (by omega)]
  · rw [if_neg h, if_neg (fun h3 => h h3.1), List.getD_eq_getElem?_getD]
theorem at_same (l : List Sl) (i : Int) (x : Sl) (h0 : 0 ≤ i) (h1 : i < l.length) : rd_T49 (l.set i.toNat x) i = x := by
  rw [at_set, if_pos ⟨rfl, by omega⟩]
theorem at_other (l : List Sl) (i j : Int) (x : Sl) (h0 : 0 ≤ i) (h1 : 0 ≤ j) (h : i ≠ j) : rd_T49 (l.set i.toNat x) j = rd_T49 l j := by
  rw [at_set, if_neg (fun h3 => h (by omega))]
/-- A place may be. -/
def Gd (l : List Sl) (j : Int) : Prop := 0 ≤ (rd_T49 l j).f0 ∧ (rd_T49 l j).f0 ≤ 2199023255552 ∧ (rd_T49 l j).f0 % (l.length : Int) = j
/-- All may be. -/
def Ck (l : List Sl) : Prop := 1 ≤ l.length ∧ l.length ≤ 64 ∧ ∀ j : Int, 0 ≤ j → j < l.length → Gd l j
theorem check_all {l : List Sl} (hl : l.length ≤ 100) : ∀ (d k : Nat) (i : Int), 0 ≤ i → (l.length : Int) - i = d → d < k → (∀ j, i ≤ j → j < l.length → Gd l j) → slot_Check.l0 k l l (l.length : Int) i = if (l.length : Int) ≥ 1 then some (decide ((l.length : Int) ≤ 64)) else some false := by
  intro d
  induction d with
  | zero =>
    intro k i h0 hd hk hg
    obtain ⟨k, rfl⟩ : ∃ m, k = m + 1 := ⟨k - 1, by omega⟩
    simp only [slot_Check.l0]
    rw [if_neg (by omega)]
  | succ d ih =>
    intro k i h0 hd hk hg
    obtain ⟨k, rfl⟩ : ∃ m, k = m + 1 := ⟨k - 1, by omega⟩
    obtain ⟨g0, g1, g2⟩ := hg i (by omega) (by omega)
    simp only [slot_Check.l0]
    rw [if_pos (by omega), if_pos h0, if_pos (by omega), if_neg (by omega), if_neg (by omega), place_ok g0 (by omega), g2]
    simp only [Option.bind_some]
    rw [if_pos trivial, w64 (by omega) (by omega)]
    exact ih k (i + 1) (by omega) (by omega) (by omega) (fun j h1 h2 => hg j (by omega) h2)
theorem check_bad {l : List Sl} (hl : l.length ≤ 100) : ∀ (d k : Nat) (i : Int), 0 ≤ i → (l.length : Int) - i = d → d < k → (∃ j, i ≤ j ∧ j < l.length ∧ ¬ Gd l j) → slot_Check.l0 k l l (l.length : Int) i = some false := by
  intro d
  induction d with
  | zero =>
    intro k i h0 hd hk hg
    obtain ⟨j, h1, h2, _⟩ := hg
    omega
  | succ d ih =>
    intro k i h0 hd hk hg
    obtain ⟨k, rfl⟩ : ∃ m, k = m + 1 := ⟨k - 1, by omega⟩
    simp only [slot_Check.l0]
    rw [if_pos (by omega), if_pos h0, if_pos (by omega)]
    by_cases g0 : (rd_T49 l i).f0 < 0
    · rw [if_pos g0]
    rw [if_neg g0]
    by_cases g1 : (rd_T49 l i).f0 > 2199023255552
    · rw [if_pos g1]
    rw [if_neg g1, place_ok (by omega) (by omega)]
    simp only [Option.bind_some]
    by_cases g2 : (rd_T49 l i).f0 % (l.length : Int) = i
    · rw [if_pos g2, w64 (by omega) (by omega)]
      obtain ⟨j, h1, h2, h3⟩ := hg
      have hne : j ≠ i := fun e => h3 (by rw [e]; exact ⟨by omega, by omega, g2⟩)
      exact ih k (i + 1) (by omega) (by omega) (by omega) ⟨j, by omega, h2, h3⟩
    · rw [if_neg g2]
theorem check_yes {l : List Sl} {k : Nat} (h : Ck l) (hk : l.length < k) : slot_Check.f k l = some true := by
  unfold slot_Check.f
  rw [check_all (by have := h.2.1; omega) l.length k 0 (by omega) (by omega) hk (fun j h1 h2 => h.2.2 j h1 h2), if_pos (by have := h.1; omega)]
  congr 1
  exact decide_eq_true (by have := h.2.1; omega)
theorem check_no {l : List Sl} {k : Nat} (hl : l.length ≤ 100) (h : ¬ Ck l) (hk : l.length < k) : slot_Check.f k l = some false := by
  unfold slot_Check.f
  by_cases hg : ∀ j : Int, 0 ≤ j → j < l.length → Gd l j
  · rw [check_all hl l.length k 0 (by omega) (by omega) hk (fun j h1 h2 => hg j h1 h2)]
    by_cases h1 : (l.length : Int) ≥ 1
    · rw [if_pos h1]
      congr 1
      exact decide_eq_false (fun h2 => h ⟨by omega, by omega, hg⟩)
    · rw [if_neg h1]
  · refine check_bad hl l.length k 0 (by omega) (by omega) hk ?_
    exact Classical.byContradiction fun hn => hg (fun j h0 h1 => Classical.byContradiction fun hb => hn ⟨j, h0, h1, hb⟩)
theorem pl {l : List Sl} (h : Ck l) (p : Int) : 0 ≤ p % (l.length : Int) ∧ p % (l.length : Int) < l.length := mod_bd (by have := h.1; omega)
theorem ready_neg {l : List Sl} {k : Nat} {p : Int} (hp : p < 0) : slot_Ready.f k l p = some false := by
  unfold slot_Ready.f
  rw [if_neg (by omega)]
theorem ready_bad {l : List Sl} {k : Nat} {p : Int} (hl : l.length ≤ 100) (h : ¬ Ck l) (hk : l.length < k) : slot_Ready.f k l p = some false := by
  unfold slot_Ready.f
  by_cases hp : p ≥ 0
  · rw [if_pos hp, check_no hl h hk]; rfl
  · rw [if_neg hp]
theorem ready_is {l : List Sl} {k : Nat} {p : Int} (h : Ck l) (hk : l.length < k) (hp : 0 ≤ p) : slot_Ready.f k l p = some ((rd_T49 l (p % (l.length : Int))).f0 == p) := by
  have b := pl h p
  unfold slot_Ready.f
  rw [if_pos hp, check_yes h hk]
  simp only [Option.bind_some]
  rw [if_pos trivial, place_ok hp (by have := h.1; omega)]
  simp only [Option.bind_some]
  rw [if_pos b.1, if_pos b.2]
theorem w_bad {l : List Sl} {k : Nat} {p er : Int} (hl : l.length ≤ 100) (hk : l.length < k) (h : p < 0 ∨ ¬ Ck l) : slot_change.w k l p er = some (none, 40) := by
  unfold slot_change.w
  rw [if_pos (by omega)]
  by_cases hp : p < 0
  · rw [if_pos hp]
  · rw [if_neg hp, check_no hl (h.resolve_left hp) hk]; rfl
theorem w_not {l : List Sl} {k : Nat} {p er : Int} (hk : l.length < k) (h : Ck l) (hp : 0 ≤ p) (hn : (rd_T49 l (p % (l.length : Int))).f0 ≠ p) : slot_change.w k l p er = some (none, er) := by
  unfold slot_change.w
  rw [if_pos (by have := h.2.1; omega), if_neg (by omega), check_yes h hk]
  simp only [Option.bind_some]
  rw [if_neg (by simp), ready_is h hk hp, beq_eq_false_iff_ne.2 hn]
  rfl
theorem w_yes {l : List Sl} {k : Nat} {p er : Int} (hk : l.length < k) (h : Ck l) (hp : 0 ≤ p) (hn : (rd_T49 l (p % (l.length : Int))).f0 = p) : slot_change.w k l p er = some (some (p % (l.length : Int)), 0) := by
  have b := pl h p
  unfold slot_change.w
  rw [if_pos (by have := h.2.1; omega), if_neg (by omega), check_yes h hk]
  simp only [Option.bind_some]
  rw [if_neg (by simp), ready_is h hk hp, beq_iff_eq.2 hn]
  simp only [Option.bind_some]
  rw [if_neg (by simp), place_ok hp (by have := h.1; omega)]
  simp only [Option.bind_some]
  rw [if_pos b.1, if_pos b.2]
/-- What is told of a position: the error. -/
def Er (l : List Sl) (p er : Int) (e : Int) : Prop := ((p < 0 ∨ ¬ Ck l) ∧ e = 40) ∨ (0 ≤ p ∧ Ck l ∧ (rd_T49 l (p % (l.length : Int))).f0 ≠ p ∧ e = er)
/-- It is its turn. -/
def Tn (l : List Sl) (p : Int) : Prop := 0 ≤ p ∧ Ck l ∧ (rd_T49 l (p % (l.length : Int))).f0 = p
theorem ways (l : List Sl) (p er : Int) : (∃ e, Er l p er e) ∨ Tn l p := by
  by_cases hp : 0 ≤ p
  · by_cases hc : Ck l
    · by_cases hn : (rd_T49 l (p % (l.length : Int))).f0 = p
      · exact .inr ⟨hp, hc, hn⟩
      · exact .inl ⟨er, .inr ⟨hp, hc, hn, rfl⟩⟩
    · exact .inl ⟨40, .inl ⟨.inr hc, rfl⟩⟩
  · exact .inl ⟨40, .inl ⟨.inl (by omega), rfl⟩⟩
theorem w_er {l : List Sl} {k : Nat} {p er e : Int} (hl : l.length ≤ 100) (hk : l.length < k) (h : Er l p er e) : slot_change.w k l p er = some (none, e) := by
  rcases h with ⟨h, rfl⟩ | ⟨hp, hc, hn, rfl⟩
  · exact w_bad hl hk h
  · exact w_not hk hc hp hn
theorem write_er {l : List Sl} {k : Nat} {p v e : Int} (hl : l.length ≤ 100) (hk : l.length < k) (h : Er l p 30 e) : slot_Write.f k l p v = some (l, e) := by
  unfold slot_Write.f; rw [w_er hl hk h]; rfl
theorem write_tn {l : List Sl} {k : Nat} {p v : Int} (hk : l.length < k) (h : Tn l p) : slot_Write.f k l p v = some (l.set (p % (l.length : Int)).toNat ⟨p, v⟩, 0) := by
  unfold slot_Write.f; rw [w_yes hk h.2.1 h.1 h.2.2]
  simp only [Option.bind_some]
  rw [h.2.2]
theorem read_er {l : List Sl} {k : Nat} {p e : Int} (hl : l.length ≤ 100) (hk : l.length < k) (h : Er l p 40 e) : slot_Read.f k l p = some (0, e) := by
  unfold slot_Read.f; rw [w_er hl hk h]; rfl
theorem read_tn {l : List Sl} {k : Nat} {p : Int} (hk : l.length < k) (h : Tn l p) : slot_Read.f k l p = some ((rd_T49 l (p % (l.length : Int))).f1, 0) := by
  unfold slot_Read.f; rw [w_yes hk h.2.1 h.1 h.2.2]; rfl
theorem release_er {l : List Sl} {k : Nat} {p e : Int} (hl : l.length ≤ 100) (hk : l.length < k) (h : Er l p 40 e) : slot_Release.f k l p = some (l, 40) := by
  unfold slot_Release.f slot_Release.g; rw [w_er hl hk h]
  rcases h with ⟨_, rfl⟩ | ⟨_, _, _, rfl⟩ <;> rfl
theorem release_big {l : List Sl} {k : Nat} {p : Int} (hk : l.length < k) (h : Tn l p) (hb : p > 1099511627776) : slot_Release.f k l p = some (l, 40) := by
  unfold slot_Release.f slot_Release.g; rw [w_yes hk h.2.1 h.1 h.2.2]
  simp only [Option.bind_some]
  rw [if_pos hb]
  rfl
theorem release_tn {l : List Sl} {k : Nat} {p : Int} (hk : l.length < k) (h : Tn l p) (hb : ¬ p > 1099511627776) : slot_Release.f k l p = some (l.set (p % (l.length : Int)).toNat ⟨p + (l.length : Int), (rd_T49 l (p % (l.length : Int))).f1⟩, 0) := by
  unfold slot_Release.f slot_Release.g; rw [w_yes hk h.2.1 h.1 h.2.2]
  simp only [Option.bind_some]
  rw [if_neg hb]
  simp only [Option.bind_some]
  have := h.2.1.2.1
  have := h.1
  rw [h.2.2, w64 (by omega) (by omega)]
  rfl
theorem same_l0 (l : List Sl) (hl : l.length ≤ 100) : ∀ (d k : Nat) (i : Int), 0 ≤ i → (l.length : Int) - i = d → d < k → sakiaref09_Same.l0 k l l i = some true := by
  intro d
  induction d with
  | zero =>
    intro k i h0 hd hk
    obtain ⟨k, rfl⟩ : ∃ m, k = m + 1 := ⟨k - 1, by omega⟩
    simp only [sakiaref09_Same.l0]
    rw [if_neg (by omega)]
  | succ d ih =>
    intro k i h0 hd hk
    obtain ⟨k, rfl⟩ : ∃ m, k = m + 1 := ⟨k - 1, by omega⟩
    simp only [sakiaref09_Same.l0]
    rw [if_pos (by omega), if_pos h0, if_pos (by omega), if_neg (by simp), w64 (by omega) (by omega)]
    exact ih k (i + 1) (by omega) (by omega) (by omega)
theorem same_self (l : List Sl) (k : Nat) (hl : l.length ≤ 100) (hk : l.length < k) : sakiaref09_Same.f k l l = some true := by
  unfold sakiaref09_Same.f
  rw [if_pos rfl]
  exact same_l0 l hl l.length k 0 (by omega) (by omega) hk
/-- The same stamps. -/
def St (l m : List Sl) : Prop := l.length = m.length ∧ ∀ j : Int, 0 ≤ j → (rd_T49 l j).f0 = (rd_T49 m j).f0
theorem St.ck {l m : List Sl} (h : St l m) (c : Ck l) : Ck m := by
  refine ⟨h.1 ▸ c.1, h.1 ▸ c.2.1, fun j h0 h1 => ?_⟩
  have g := c.2.2 j h0 (by have := h.1; omega)
  unfold Gd at g ⊢
  rw [← h.2 j h0, ← h.1]
  exact g
theorem St.symm {l m : List Sl} (h : St l m) : St m l := ⟨h.1.symm, fun j h0 => (h.2 j h0).symm⟩
theorem St.tn {l m : List Sl} (h : St l m) {p : Int} (t : Tn l p) : Tn m p := by
  refine ⟨t.1, h.ck t.2.1, ?_⟩
  rw [← h.2 _ (by rw [← h.1]; exact (pl t.2.1 p).1), ← h.1]
  exact t.2.2
theorem St.er {l m : List Sl} (h : St l m) {p er e : Int} (t : Er l p er e) : Er m p er e := by
  rcases t with ⟨t, rfl⟩ | ⟨hp, hc, hn, rfl⟩
  · exact .inl ⟨t.imp id (fun n c => n (h.symm.ck c)), rfl⟩
  · refine .inr ⟨hp, h.ck hc, ?_, rfl⟩
    rw [← h.2 _ (by rw [← h.1]; exact (pl hc p).1), ← h.1]
    exact hn
theorem St.set {l : List Sl} {p : Int} (t : Tn l p) (v : Int) : St l (l.set (p % (l.length : Int)).toNat ⟨p, v⟩) := by
  have b := pl t.2.1 p
  refine ⟨by simp, fun j h0 => ?_⟩
  rw [at_set]
  split
  · have e : j = p % (l.length : Int) := by omega
    rw [e]; exact t.2.2
  · rfl
end Go.Proofs.Ytlpeklhejjidfaa.Pure
