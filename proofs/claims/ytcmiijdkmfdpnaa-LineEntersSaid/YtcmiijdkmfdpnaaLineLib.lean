/- What is done to a line, as plain lists. -/
import Derived.Test.YtcmiijdkmfdpnaaBase
import Derived.Test.YtcmiijdkmfdpnaaPLx17
import Derived.Test.YtcmiijdkmfdpnaaPLx18
import Derived.Test.YtcmiijdkmfdpnaaPLx19
namespace Go.Proofs.Ytcmiijdkmfdpnaa.Pure
open Go.RowKit Go.Proofs.Ytcmiijdkmfdpnaa.PL Go.Proofs.YtcmiijdkmfdpnaaW.PrintWords Go.Proofs.YtcmiijdkmfdpnaaW.PrintLast Go.Proofs.YtcmiijdkmfdpnaaW.PrintMore
set_option linter.unusedSimpArgs false
set_option linter.unusedVariables false
theorem drop_rd (l : List Int) (i : Int) (h0 : 0 ≤ i) (h1 : i < l.length) : l.drop i.toNat = rd l i :: l.drop (i + 1).toNat := by
  have e : (i + 1).toNat = i.toNat + 1 := by omega
  have hi : i.toNat < l.length := by omega
  unfold rd
  rw [e, List.getD_eq_getElem?_getD, List.getElem?_eq_getElem hi, List.drop_eq_getElem_cons hi]
  rfl
theorem drop_end (l : List Int) (i : Int) (h1 : (l.length : Int) ≤ i) : l.drop i.toNat = [] := List.drop_eq_nil_of_le (by omega)
/-- Where one stands; -1: nowhere. -/
def pos : List Int → Int → Int
  | [], _ => -1
  | y :: t, x => if y = x then 0 else (if pos t x < 0 then -1 else pos t x + 1)
theorem pos_lo : ∀ (l : List Int) (x : Int), -1 ≤ pos l x ∧ pos l x < l.length := by
  intro l x
  induction l with
  | nil => simp [pos]
  | cons y t ih =>
    unfold pos
    simp only [List.length_cons]
    by_cases h : y = x
    · rw [if_pos h]; omega
    · rw [if_neg h]
      by_cases h2 : pos t x < 0
      · rw [if_pos h2]; omega
      · rw [if_neg h2]; omega
theorem pos_mem : ∀ (l : List Int) (x : Int), 0 ≤ pos l x ↔ x ∈ l := by
  intro l x
  induction l with
  | nil => simp [pos]
  | cons y t ih =>
    unfold pos
    by_cases h : y = x
    · rw [if_pos h]; simp [h]
    · rw [if_neg h]
      have h' : ¬ x = y := fun e => h e.symm
      by_cases h2 : pos t x < 0
      · rw [if_pos h2]
        have : x ∉ t := fun e => by have := ih.2 e; omega
        simp [h', this]
      · rw [if_neg h2]
        have : x ∈ t := ih.1 (by omega)
        simp [this]; omega
theorem pos_no {l : List Int} {x : Int} (h : x ∉ l) : pos l x = -1 := by
  have h1 := pos_lo l x
  have h2 : ¬ 0 ≤ pos l x := fun h3 => h ((pos_mem l x).1 h3)
  omega
/-- From place i on. -/
def from_ (l : List Int) (x i : Int) : Int := if pos (l.drop i.toNat) x < 0 then -1 else i + pos (l.drop i.toNat) x
theorem from_zero (l : List Int) (x : Int) : from_ l x 0 = pos l x := by
  have := pos_lo l x
  unfold from_
  simp only [Int.toNat_zero, List.drop_zero]
  by_cases h : pos l x < 0
  · rw [if_pos h]; omega
  · rw [if_neg h]; omega
theorem from_end (l : List Int) (x i : Int) (h : (l.length : Int) ≤ i) : from_ l x i = -1 := by
  unfold from_
  rw [drop_end l i h]
  rfl
theorem from_eq (l : List Int) (x i : Int) (h0 : 0 ≤ i) (h1 : i < l.length) (h : rd l i = x) : from_ l x i = i := by
  unfold from_
  rw [drop_rd l i h0 h1]
  unfold pos
  rw [if_pos h, if_neg (by omega)]; omega
theorem from_ne (l : List Int) (x i : Int) (h0 : 0 ≤ i) (h1 : i < l.length) (h : ¬ rd l i = x) : from_ l x i = from_ l x (i + 1) := by
  unfold from_
  rw [drop_rd l i h0 h1]
  have := pos_lo (l.drop (i + 1).toNat) x
  generalize hp : pos (l.drop (i + 1).toNat) x = p at this ⊢
  unfold pos
  rw [if_neg h, hp]
  by_cases h2 : p < 0
  · rw [if_pos h2, if_pos h2]; rfl
  · rw [if_neg h2, if_neg (by omega), if_neg h2]; omega
theorem index_l0 (l : List Int) (x : Int) (hl : l.length ≤ 1000) : ∀ (d k : Nat) (i : Int), 0 ≤ i → (l.length : Int) - i = d → d < k → slices_Index_int_int.l0 k l x (l.length : Int) i = some (from_ l x i) := by
  intro d
  induction d with
  | zero =>
    intro k i h0 hd hk
    obtain ⟨k, rfl⟩ : ∃ m, k = m + 1 := ⟨k - 1, by omega⟩
    simp only [slices_Index_int_int.l0]
    rw [if_neg (by omega), from_end l x i (by omega)]
  | succ d ih =>
    intro k i h0 hd hk
    obtain ⟨k, rfl⟩ : ∃ m, k = m + 1 := ⟨k - 1, by omega⟩
    simp only [slices_Index_int_int.l0]
    rw [if_pos (by omega), if_pos h0, if_pos (by omega)]
    by_cases h : x = rd l i
    · rw [if_pos h, from_eq l x i h0 (by omega) h.symm]
    · rw [if_neg h, w64 (by omega) (by omega), ih k (i + 1) (by omega) (by omega) (by omega), from_ne l x i h0 (by omega) (fun e => h e.symm)]
theorem index_eq {l : List Int} {x : Int} {k : Nat} (hl : l.length ≤ 1000) (hk : l.length < k) : slices_Index_int_int.f k l x = some (pos l x) := by
  unfold slices_Index_int_int.f
  rw [index_l0 l x hl l.length k 0 (by omega) (by omega) hk, from_zero]
theorem contains_eq {l : List Int} {x : Int} {k : Nat} (hl : l.length ≤ 1000) (hk : l.length < k) : slices_Contains_int_int.f k l x = some (decide (0 ≤ pos l x)) := by
  unfold slices_Contains_int_int.f
  rw [index_eq hl hk]
  rfl
/-- A thread may be. -/
def In (x : Int) : Prop := 0 ≤ x ∧ x ≤ 15
instance inDec (x : Int) : Decidable (In x) := by unfold In; infer_instance
theorem wrong_eq (x : Int) : line_Check_1.f x = some (decide (¬ (0 ≤ x ∧ x ≤ 15))) := by
  unfold line_Check_1.f
  by_cases h : x < 0
  · rw [if_pos h]; congr 1; symm; exact decide_eq_true (by omega)
  · rw [if_neg h]; congr 1
    by_cases h2 : x ≥ 16
    · rw [decide_eq_true h2]; symm; exact decide_eq_true (by omega)
    · rw [decide_eq_false h2]; symm; exact decide_eq_false (by omega)
theorem func_l0 (l : List Int) (hl : l.length ≤ 1000) : ∀ (d k : Nat) (i : Int), 0 ≤ i → (l.length : Int) - i = d → d < k → ∃ r, slices_IndexFunc_int_int.l0 k l (l.length : Int) i = some r ∧ (0 ≤ r ↔ ∃ y ∈ l.drop i.toNat, ¬ In y) := by
  intro d
  induction d with
  | zero =>
    intro k i h0 hd hk
    obtain ⟨k, rfl⟩ : ∃ m, k = m + 1 := ⟨k - 1, by omega⟩
    refine ⟨-1, ?_, ?_⟩
    · simp only [slices_IndexFunc_int_int.l0]
      rw [if_neg (by omega)]
    · rw [drop_end l i (by omega)]; simp
  | succ d ih =>
    intro k i h0 hd hk
    obtain ⟨k, rfl⟩ : ∃ m, k = m + 1 := ⟨k - 1, by omega⟩
    simp only [slices_IndexFunc_int_int.l0]
    rw [if_pos (by omega), if_pos h0, if_pos (by omega), wrong_eq, drop_rd l i h0 (by omega)]
    simp only [Option.bind_some]
    by_cases h : In (rd l i)
    · rw [if_neg (by simpa [In] using h), w64 (by omega) (by omega)]
      obtain ⟨r, h1, h2⟩ := ih k (i + 1) (by omega) (by omega) (by omega)
      refine ⟨r, h1, h2.trans ?_⟩
      simp [h]
    · rw [if_pos (decide_eq_true (by unfold In at h; exact h))]
      exact ⟨i, rfl, by simp [h, h0]⟩
theorem cfunc_eq {l : List Int} {k : Nat} (hl : l.length ≤ 1000) (hk : l.length < k) : ∃ b, slices_ContainsFunc_int_int.f k l = some b ∧ (b = true ↔ ∃ y ∈ l, ¬ In y) := by
  unfold slices_ContainsFunc_int_int.f slices_IndexFunc_int_int.f
  obtain ⟨r, h1, h2⟩ := func_l0 l hl l.length k 0 (by omega) (by omega) hk
  rw [h1]
  refine ⟨_, rfl, ?_⟩
  simp only [decide_eq_true_iff]
  simpa using h2
/-- Some, each once, behind those that there are. -/
def unl : List Int → List Int → List Int
  | acc, [] => acc
  | acc, x :: t => if x ∈ acc then unl acc t else unl (acc ++ [x]) t
theorem unl_le : ∀ (t acc : List Int), (unl acc t).length ≤ acc.length + t.length := by
  intro t
  induction t with
  | nil => intro acc; simp [unl]
  | cons x t ih =>
    intro acc
    unfold unl
    split
    · have := ih acc; simp; omega
    · have := ih (acc ++ [x]); simp at this ⊢; omega
theorem unl_all : ∀ (t acc : List Int), (unl acc t).length = acc.length + t.length ↔ (t.Nodup ∧ ∀ x ∈ t, x ∉ acc) := by
  intro t
  induction t with
  | nil => intro acc; simp [unl]
  | cons x t ih =>
    intro acc
    unfold unl
    by_cases h : x ∈ acc
    · rw [if_pos h]
      have := unl_le t acc
      constructor
      · intro e; simp at e; omega
      · intro e; exact absurd h (e.2 x (by simp))
    · rw [if_neg h]
      have := ih (acc ++ [x])
      simp only [List.length_append, List.length_cons, List.length_nil, Nat.zero_add] at this
      rw [show acc.length + (x :: t).length = acc.length + 1 + t.length by simp; omega, this]
      simp only [List.nodup_cons, List.mem_append, List.mem_cons, List.not_mem_nil, or_false]
      constructor
      · rintro ⟨h1, h2⟩
        refine ⟨⟨fun hx => (h2 x hx) (.inr rfl), h1⟩, ?_⟩
        rintro y (rfl | hy)
        · exact h
        · exact fun hc => h2 y hy (.inl hc)
      · rintro ⟨⟨h1, h2⟩, h3⟩
        refine ⟨h2, fun y hy => ?_⟩
        rintro (hc | rfl)
        · exact h3 y (.inr hy) hc
        · exact h1 hy
theorem unlike_l0 (l : List Int) (hl : l.length ≤ 110) : ∀ (d k : Nat) (i : Int) (acc : List Int), 0 ≤ i → (l.length : Int) - i = d → acc.length ≤ i → d + 111 < k → line_unlike_int.l0 k acc l (l.length : Int) i = some (unl acc (l.drop i.toNat)) := by
  intro d
  induction d with
  | zero =>
    intro k i acc h0 hd ha hk
    obtain ⟨k, rfl⟩ : ∃ m, k = m + 1 := ⟨k - 1, by omega⟩
    simp only [line_unlike_int.l0]
    rw [if_neg (by omega), drop_end l i (by omega)]
    rfl
  | succ d ih =>
    intro k i acc h0 hd ha hk
    obtain ⟨k, rfl⟩ : ∃ m, k = m + 1 := ⟨k - 1, by omega⟩
    simp only [line_unlike_int.l0]
    rw [if_pos (by omega), if_pos h0, if_pos (by omega), contains_eq (by omega) (by omega), drop_rd l i h0 (by omega)]
    simp only [Option.bind_some, decide_eq_true_iff]
    unfold unl
    by_cases h : rd l i ∈ acc
    · rw [if_pos ((pos_mem _ _).2 h), if_pos h, w64 (by omega) (by omega)]
      exact ih k (i + 1) acc (by omega) (by omega) (by omega) (by omega)
    · rw [if_neg (fun e => h ((pos_mem _ _).1 e)), if_neg h, if_pos (by omega), w64 (by omega) (by omega)]
      exact ih k (i + 1) _ (by omega) (by omega) (by simp; omega) (by omega)
/-- A line may be. -/
def Ok (l : List Int) : Prop := (∀ y ∈ l, In y) ∧ l.Nodup
theorem check_eq {l : List Int} {k : Nat} (hl : l.length ≤ 110) (hk : 230 ≤ k) : ∃ b, line_Check.f k l = some b ∧ (b = true ↔ Ok l) := by
  unfold line_Check.f
  obtain ⟨c, h1, h2⟩ := cfunc_eq (l := l) (k := k) (by omega) (by omega)
  rw [h1]
  simp only [Option.bind_some]
  cases c with
  | true =>
    obtain ⟨y, hy, hb⟩ := h2.1 rfl
    exact ⟨false, rfl, ⟨(fun h => nomatch h), fun h => absurd (h.1 y hy) hb⟩⟩
  | false =>
    unfold line_unlike_int.f
    rw [if_neg (by simp), unlike_l0 l hl l.length k 0 [] (by omega) (by omega) (by simp) (by omega)]
    refine ⟨_, rfl, ?_⟩
    have h3 := unl_all l []
    simp only [List.length_nil, Nat.zero_add] at h3
    have h4 : ∀ y ∈ l, In y := fun y hy => Classical.byContradiction fun hn => by
      have := h2.2 ⟨y, hy, hn⟩
      cases this
    simp only [Int.toNat_zero, List.drop_zero, beq_iff_eq, Int.natCast_inj]
    rw [h3]
    exact ⟨fun h => ⟨h4, h.1⟩, fun h => ⟨h.2, fun x _ => by simp⟩⟩
theorem check_yes {l : List Int} {k : Nat} (hl : l.length ≤ 110) (hk : 230 ≤ k) (h : Ok l) : line_Check.f k l = some true := by
  obtain ⟨b, h1, h2⟩ := check_eq hl hk
  rw [h1, h2.2 h]
theorem check_no {l : List Int} {k : Nat} (hl : l.length ≤ 110) (hk : 230 ≤ k) (h : ¬ Ok l) : line_Check.f k l = some false := by
  obtain ⟨b, h1, h2⟩ := check_eq hl hk
  cases b with
  | false => exact h1
  | true => exact absurd (h2.1 rfl) h
theorem place_yes {l : List Int} {k : Nat} {x : Int} (hl : l.length ≤ 110) (hk : 230 ≤ k) (h : Ok l) : line_Place.f k l x = some (pos l x) := by
  unfold line_Place.f
  rw [check_yes hl hk h]
  simp only [Option.bind_some]
  rw [if_pos trivial, index_eq (by omega) (by omega)]
  rfl
theorem place_no {l : List Int} {k : Nat} {x : Int} (hl : l.length ≤ 110) (hk : 230 ≤ k) (h : ¬ Ok l) : line_Place.f k l x = some (-1) := by
  unfold line_Place.f
  rw [check_no hl hk h]
  rfl
theorem first_yes {l : List Int} {k : Nat} {x : Int} (hl : l.length ≤ 110) (hk : 230 ≤ k) (h : Ok l) : line_First.f k l x = some (pos l x == 0) := by
  unfold line_First.f
  rw [place_yes hl hk h]
  rfl
theorem first_no {l : List Int} {k : Nat} {x : Int} (hl : l.length ≤ 110) (hk : 230 ≤ k) (h : ¬ Ok l) : line_First.f k l x = some false := by
  unfold line_First.f
  rw [place_no hl hk h]
  rfl
theorem clone_eq {l : List Int} (hl : l.length ≤ 1000) : slices_Clone_int_int.f l = some l := if_pos (by omega)
theorem ok_one (x : Int) : Ok [x] ↔ In x := by
  unfold Ok
  simp
theorem enter_bad {l : List Int} {k : Nat} {x : Int} (hl : l.length ≤ 110) (hk : 231 ≤ k) (h : ¬ Ok l ∨ ¬ In x) : line_Enter.f k l x = some (l, 40) := by
  obtain ⟨k, rfl⟩ : ∃ m, k = m + 1 := ⟨k - 1, by omega⟩
  unfold line_Enter.f
  rw [clone_eq (by omega)]
  simp only [Option.bind_some]
  by_cases o : Ok l
  · rw [check_yes hl (by omega) o]
    simp only [Option.bind_some]
    rw [if_pos trivial, check_no (by simp) (by omega) (fun e => (h.resolve_left (fun n => n o)) ((ok_one x).1 e))]
    simp only [Option.bind_some, line_Enter.j0]
    rfl
  · rw [check_no hl (by omega) o]
    simp only [Option.bind_some, line_Enter.j0]
    rfl
theorem enter_two {l : List Int} {k : Nat} {x : Int} (hl : l.length ≤ 110) (hk : 231 ≤ k) (o : Ok l) (i : In x) (h : x ∈ l) : line_Enter.f k l x = some (l, 60) := by
  obtain ⟨k, rfl⟩ : ∃ m, k = m + 1 := ⟨k - 1, by omega⟩
  unfold line_Enter.f
  rw [clone_eq (by omega)]
  simp only [Option.bind_some]
  rw [check_yes hl (by omega) o]
  simp only [Option.bind_some]
  rw [if_pos trivial, check_yes (by simp) (by omega) ((ok_one x).2 i)]
  simp only [Option.bind_some, line_Enter.j0]
  rw [if_neg (by simp), place_yes hl (by omega) o]
  simp only [Option.bind_some]
  rw [if_pos ((pos_mem l x).2 h)]
theorem enter_in {l : List Int} {k : Nat} {x : Int} (hl : l.length ≤ 110) (hk : 231 ≤ k) (o : Ok l) (i : In x) (h : x ∉ l) : line_Enter.f k l x = some (l ++ [x], 0) := by
  obtain ⟨k, rfl⟩ : ∃ m, k = m + 1 := ⟨k - 1, by omega⟩
  unfold line_Enter.f
  rw [clone_eq (by omega)]
  simp only [Option.bind_some]
  rw [check_yes hl (by omega) o]
  simp only [Option.bind_some]
  rw [if_pos trivial, check_yes (by simp) (by omega) ((ok_one x).2 i)]
  simp only [Option.bind_some, line_Enter.j0]
  rw [if_neg (by simp), place_yes hl (by omega) o]
  simp only [Option.bind_some]
  rw [if_neg (fun e => h ((pos_mem l x).1 e)), if_pos (by omega)]
theorem leave_no {l : List Int} {k : Nat} {x : Int} (hl : l.length ≤ 110) (hk : 230 ≤ k) (h : ¬ Ok l ∨ x ∉ l) : line_Leave.f k l x = some (l, 40) := by
  unfold line_Leave.f
  rw [clone_eq (by omega)]
  simp only [Option.bind_some]
  by_cases o : Ok l
  · rw [place_yes hl hk o, pos_no (h.resolve_left (fun n => n o))]; rfl
  · rw [place_no hl hk o]; rfl
theorem leave_yes {l : List Int} {k : Nat} {x : Int} (hl : l.length ≤ 110) (hk : 230 ≤ k) (o : Ok l) (h : x ∈ l) : line_Leave.f k l x = some (l.eraseIdx (pos l x).toNat, 0) := by
  have h1 := (pos_mem l x).2 h
  have h2 := pos_lo l x
  unfold line_Leave.f
  rw [clone_eq (by omega)]
  simp only [Option.bind_some]
  rw [place_yes hl hk o]
  simp only [Option.bind_some]
  rw [if_neg (by omega), if_pos h2.2]
theorem next_no {l : List Int} {k : Nat} (hl : l.length ≤ 110) (hk : 231 ≤ k) (h : ¬ Ok l ∨ l = []) : line_Next.f k l = some (0, l, false) := by
  obtain ⟨k, rfl⟩ : ∃ m, k = m + 1 := ⟨k - 1, by omega⟩
  unfold line_Next.f
  by_cases o : Ok l
  · obtain rfl := h.resolve_left (fun n => n o)
    rw [check_yes hl (by omega) o]
    simp only [Option.bind_some]
    rw [if_pos trivial]
    simp only [line_Next.j0]
    rw [if_pos (by decide), clone_eq (by simp)]
    rfl
  · rw [check_no hl (by omega) o]
    simp only [Option.bind_some]
    rw [if_neg (by simp)]
    simp only [line_Next.j0]
    rw [if_pos trivial, clone_eq (by omega)]
    rfl
theorem next_yes {l : List Int} {k : Nat} (hl : l.length ≤ 110) (hk : 231 ≤ k) (o : Ok l) (h : 0 < l.length) : line_Next.f k l = some (rd l 0, l.drop 1, true) := by
  obtain ⟨k, rfl⟩ : ∃ m, k = m + 1 := ⟨k - 1, by omega⟩
  unfold line_Next.f
  rw [check_yes hl (by omega) o]
  simp only [Option.bind_some]
  rw [if_pos trivial]
  simp only [line_Next.j0]
  rw [if_neg (by simp; intro e; rw [e] at h; simp at h), if_pos (by omega), if_pos (by omega), clone_eq (by simp; omega)]
  rfl
theorem ints_l0 (l : List Int) (hl : l.length ≤ 1000) : ∀ (d k : Nat) (i : Int), 0 ≤ i → (l.length : Int) - i = d → d < k → sakiaref03_Ints.l0 k l l i = some true := by
  intro d
  induction d with
  | zero =>
    intro k i h0 hd hk
    obtain ⟨k, rfl⟩ : ∃ m, k = m + 1 := ⟨k - 1, by omega⟩
    simp only [sakiaref03_Ints.l0]
    rw [if_neg (by omega)]
  | succ d ih =>
    intro k i h0 hd hk
    obtain ⟨k, rfl⟩ : ∃ m, k = m + 1 := ⟨k - 1, by omega⟩
    simp only [sakiaref03_Ints.l0]
    rw [if_pos (by omega), if_pos h0, if_pos (by omega), if_pos trivial, w64 (by omega) (by omega)]
    exact ih k (i + 1) (by omega) (by omega) (by omega)
theorem ints_self (l : List Int) (k : Nat) (hl : l.length ≤ 1000) (hk : l.length < k) : sakiaref03_Ints.f k l l = some true := by
  unfold sakiaref03_Ints.f
  rw [if_pos rfl]
  exact ints_l0 l hl l.length k 0 (by omega) (by omega) hk
theorem pos_end (l : List Int) (x : Int) (h : x ∉ l) : pos (l ++ [x]) x = l.length := by
  induction l with
  | nil => simp [pos]
  | cons y t ih =>
    have h1 : ¬ y = x := fun e => h (by simp [e])
    have h2 := ih (fun e => h (by simp [e]))
    rw [List.cons_append]
    unfold pos
    rw [if_neg h1, h2, if_neg (by omega)]
    simp
theorem pos_app (l : List Int) (x y : Int) (h : x ≠ y) : pos (l ++ [y]) x = pos l x := by
  induction l with
  | nil => simp [pos]; omega
  | cons z t ih =>
    rw [List.cons_append]
    unfold pos
    rw [ih]
theorem pos_erase (l : List Int) (x : Int) (nd : l.Nodup) (hx : x ∈ l) (z : Int) : pos (l.eraseIdx (pos l x).toNat) z = if z = x then -1 else if pos l x < pos l z then pos l z - 1 else pos l z := by
  induction l with
  | nil => simp at hx
  | cons y t ih =>
    simp only [List.nodup_cons] at nd
    by_cases h : y = x
    · have e : pos (y :: t) x = 0 := by unfold pos; rw [if_pos h]
      rw [e]
      simp only [Int.toNat_zero, List.eraseIdx_cons_zero]
      by_cases hz : z = x
      · rw [if_pos hz, hz]
        exact pos_no (by rw [← h]; exact nd.1)
      · rw [if_neg hz]
        have e2 : pos (y :: t) z = if pos t z < 0 then -1 else pos t z + 1 := by
          conv => lhs; unfold pos
          rw [if_neg (fun e => hz (by rw [← e, h]))]
        have := pos_lo t z
        rw [e2]
        by_cases h3 : pos t z < 0
        · rw [if_pos h3, if_neg (by omega)]; omega
        · rw [if_neg h3, if_pos (by omega)]; omega
    · have hxt : x ∈ t := by
        rcases List.mem_cons.1 hx with e | e
        · exact absurd e.symm h
        · exact e
      have hp := (pos_mem t x).2 hxt
      have e : pos (y :: t) x = pos t x + 1 := by
        conv => lhs; unfold pos
        rw [if_neg h, if_neg (by omega)]
      have e3 : (pos t x + 1).toNat = (pos t x).toNat + 1 := by omega
      rw [e, e3, List.eraseIdx_cons_succ]
      have ih2 := ih nd.2 hxt
      have b := pos_lo t z
      by_cases hy : y = z
      · have e4 : pos (y :: t) z = 0 := by unfold pos; rw [if_pos hy]
        rw [e4, if_neg (fun e => h (by rw [hy, e])), if_neg (by omega)]
        unfold pos
        rw [if_pos hy]
      · have e4 : pos (y :: t) z = if pos t z < 0 then -1 else pos t z + 1 := by
          conv => lhs; unfold pos
          rw [if_neg hy]
        have e5 : pos (y :: t.eraseIdx (pos t x).toNat) z = if pos (t.eraseIdx (pos t x).toNat) z < 0 then -1 else pos (t.eraseIdx (pos t x).toNat) z + 1 := by
          conv => lhs; unfold pos
          rw [if_neg hy]
        rw [e5, e4, ih2]
        by_cases hz : z = x
        · simp [hz]
        · rw [if_neg hz, if_neg hz]
          by_cases h6 : pos t z < 0
          · rw [if_neg (show ¬ pos t x < pos t z by omega), if_pos h6, if_neg (by omega)]
          · by_cases h7 : pos t x < pos t z
            · rw [if_pos h7, if_neg (show ¬ pos t z - 1 < 0 by omega), if_neg h6, if_pos (by omega)]; omega
            · rw [if_neg h7, if_neg h6, if_neg (by omega)]
theorem ok_erase {l : List Int} (o : Ok l) (n : Nat) : Ok (l.eraseIdx n) := ⟨fun y hy => o.1 y (List.mem_of_mem_eraseIdx hy), o.2.sublist (List.eraseIdx_sublist l n)⟩
theorem ok_drop {l : List Int} (o : Ok l) (n : Nat) : Ok (l.drop n) := ⟨fun y hy => o.1 y (List.mem_of_mem_drop hy), o.2.sublist (List.drop_sublist n l)⟩
theorem ok_app {l : List Int} {x : Int} (o : Ok l) (i : In x) (h : x ∉ l) : Ok (l ++ [x]) := by
  refine ⟨fun y hy => ?_, ?_⟩
  · rcases List.mem_append.1 hy with hy | hy
    · exact o.1 y hy
    · rw [List.mem_singleton.1 hy]; exact i
  · rw [List.nodup_append]
    exact ⟨o.2, by simp, fun a ha b hb => by rw [List.mem_singleton.1 hb]; exact fun e => h (e ▸ ha)⟩
theorem ok_len : ∀ (n : Nat) (l : List Int), l.Nodup → (∀ y ∈ l, 0 ≤ y ∧ y < (n : Int)) → l.length ≤ n := by
  intro n
  induction n with
  | zero =>
    intro l _ h
    cases l with
    | nil => simp
    | cons y t => have := h y (by simp); omega
  | succ n ih =>
    intro l nd h
    by_cases hm : (n : Int) ∈ l
    · have h1 := ih (l.erase (n : Int)) (nd.erase _) (fun y hy => by
        have h2 := (nd.mem_erase_iff).1 hy
        have h3 := h y h2.2
        have h4 : y ≠ (n : Int) := h2.1
        omega)
      rw [List.length_erase_of_mem hm] at h1
      omega
    · have := ih l nd (fun y hy => by
        have h3 := h y hy
        have h4 : y ≠ (n : Int) := fun e => hm (e ▸ hy)
        omega)
      omega
theorem ok_le {l : List Int} (o : Ok l) : l.length ≤ 16 := ok_len 16 l o.2 (fun y hy => by have := o.1 y hy; unfold In at this; omega)
end Go.Proofs.Ytcmiijdkmfdpnaa.Pure
