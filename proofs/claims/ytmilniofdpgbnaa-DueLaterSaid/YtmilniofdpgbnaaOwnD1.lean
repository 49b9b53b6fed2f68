/- What an operation does hangs on the temporaries that it names, and on the objects that it reads. -/
import Derived.Test.YtmilniofdpgbnaaOwnQ1
set_option linter.unusedVariables false
set_option linter.unusedSimpArgs false
namespace Go.Own
open Go

section
variable {P : Program} {T T' : List AV} {H H' : Heap} {g : Option (Nat × Bool)} {o : Oper} {fr : Nat}

def TSame (T T' : List AV) (xs : List Operand) : Prop := ∀ i, Operand.tmp i ∈ xs → T'.getD i .top = T.getD i .top

theorem opd_same {xs : List Operand} (h : TSame T T' xs) {x : Operand} (hx : x ∈ xs) (g : Option (Nat × Bool)) (t : TypeId) : opd P T' g t x = opd P T g t x := by
  cases x with
  | tmp i => simp only [opd, h i hx]
  | const v => rfl
  | global v => rfl
  | func v => rfl

theorem map_same {xs : List Operand} (h : TSame T T' xs) (l : List Operand) (hl : ∀ x ∈ l, x ∈ xs) (g : Option (Nat × Bool)) (t : TypeId) : l.map (opd P T' g t) = l.map (opd P T g t) :=
  List.map_congr_left fun x hx => opd_same h (hl x hx) g t

theorem partsOf_same {xs : List Operand} (h : TSame T T' xs) (ts : Nat → TypeId) (ps : Array (Nat × Operand)) (hl : ∀ p ∈ ps.toList, p.2 ∈ xs) : partsOf P T' g ts ps = partsOf P T g ts ps := by
  unfold partsOf
  refine List.map_congr_left fun p hp => ?_
  obtain ⟨i, x⟩ := p
  simp only [opd_same h (hl _ hp)]

theorem calleeOf_same {cl : Call} (h : TSame T T' cl.operands.toList) : calleeOf P T' g cl = calleeOf P T g cl := by
  have hargs : ((cl.args.toList.zip (cl.argTypes.toList ++ List.replicate cl.args.size 0)).map fun (x, t) => opd P T' g t x) = ((cl.args.toList.zip (cl.argTypes.toList ++ List.replicate cl.args.size 0)).map fun (x, t) => opd P T g t x) := by
    refine List.map_congr_left fun p hp => ?_
    obtain ⟨x, t⟩ := p
    have : x ∈ cl.args.toList := (List.of_mem_zip hp).1
    exact opd_same h (by simp [Call.operands]; exact .inr (by simpa using this)) g t
  unfold calleeOf
  simp only [hargs]
  cases hc : cl.callee with
  | value f =>
    have := opd_same (P := P) h (x := f) (by simp [Call.operands, hc]) g 0
    simp only [this]
  | invoke r m =>
    have := opd_same (P := P) h (x := r) (by simp [Call.operands, hc]) g 0
    simp only [this]
  | builtin b => rfl

theorem boundAV_same {xs : List Operand} (h : TSame T T' xs) {ox : Option Operand} (hx : ∀ y, ox = some y → y ∈ xs) (d : Int) : boundAV P T' g ox d = boundAV P T g ox d := by
  cases ox with
  | none => rfl
  | some y => simp only [boundAV, opd_same h (hx y rfl)]

theorem readCells_same {n : Nat} {x : AV} {b : Option Bool} {cs : List AV} {rd : List Nat} (h : readCells H n x = some (b, cs, rd)) (hH : ∀ id ∈ rd, H'.at id = H.at id) : readCells H' n x = some (b, cs, rd) := by
  unfold readCells at h ⊢
  split at h
  · exact h
  · rename_i id idx off
    have key : rd = [id] → H'.at id = H.at id := fun e => hH id (by simp [e])
    split at h
    · rename_i cells hid
      split at h
      · cases h
      · rename_i hl
        split at h
        · cases h
          rw [key rfl, hid]
          simp [hl]
        · cases h
    · rename_i e k cols hid
      split at h
      · cases h
      · rename_i hl
        cases h
        rw [key rfl, hid]
        simp only
        rw [if_neg hl]
    · cases h
  · cases h

theorem sliceOf_same {x : AV} {m : Nat} {ys : List Col} {rd : List Nat} (h : sliceOf H x = some (m, ys, rd)) (hH : ∀ id ∈ rd, H'.at id = H.at id) : sliceOf H' x = some (m, ys, rd) := by
  unfold sliceOf at h ⊢
  split at h
  · exact h
  · exact h
  · rename_i id
    split at h
    · rename_i e n cols hid
      cases h
      rw [hH id (by simp), hid]
    · cases h
  · rename_i id off n
    split at h
    · rename_i e k cols hid
      cases h
      rw [hH id (by simp), hid]
    · cases h
  · cases h

theorem mapIds_same {α β : Type} {f f' : α → Option (β × List Nat)} (hf : ∀ x y ids, f x = some (y, ids) → (∀ id ∈ ids, H'.at id = H.at id) → f' x = some (y, ids)) : ∀ {l : List α} {r : List β} {ids : List Nat}, mapIds f l = some (r, ids) → (∀ id ∈ ids, H'.at id = H.at id) → mapIds f' l = some (r, ids)
  | [], r, ids, h, _ => h
  | x :: l, r, ids, h, hH => by
    simp only [mapIds] at h ⊢
    split at h
    · rename_i y ids1 ys ids2 h1 h2
      cases h
      rw [hf x y ids1 h1 (fun id hid => hH id (by simp [hid])), mapIds_same hf h2 (fun id hid => hH id (by simp [hid]))]
    · cases h

theorem pureLeaf0_same {x y : AV} {ids : List Nat} (h : pureLeaf0 H x = some (y, ids)) (hH : ∀ id ∈ ids, H'.at id = H.at id) : pureLeaf0 H' x = some (y, ids) := by
  unfold pureLeaf0 at h ⊢
  split at h
  · exact h
  · exact h
  · exact h
  · exact h
  · rename_i id
    split at h
    · rename_i e n cols hid
      cases h
      rw [hH id (by simp), hid]
    · cases h
  · rename_i id off n
    split at h
    · rename_i e k cols hid
      cases h
      rw [hH id (by simp), hid]
    · cases h
  · exact h
  · rename_i id
    split at h
    · rename_i ks cols one hid
      cases h
      rw [hH id (by simp), hid]
    · cases h
  · cases h

theorem pureLeaf_same {x y : AV} {ids : List Nat} (h : pureLeaf H x = some (y, ids)) (hH : ∀ id ∈ ids, H'.at id = H.at id) : pureLeaf H' x = some (y, ids) := by
  unfold pureLeaf at h ⊢
  split at h
  · exact h
  · split at h
    · rename_i cs ids' hm
      cases h
      rw [mapIds_same (fun x y ids h1 h2 => pureLeaf0_same h1 h2) hm hH]
    · cases h
  · rename_i id
    split at h
    · rename_i cells hid
      split at h
      · rename_i cs ids' hm
        cases h
        rw [hH id (by simp), hid]
        simp only
        rw [mapIds_same (fun x y ids h1 h2 => pureLeaf0_same h1 h2) hm (fun i hi => hH i (by simp [hi]))]
      · cases h
    · cases h
  · exact pureLeaf0_same h hH

theorem pureArg_same {x y : AV} {ids : List Nat} (h : pureArg H x = some (y, ids)) (hH : ∀ id ∈ ids, H'.at id = H.at id) : pureArg H' x = some (y, ids) := by
  unfold pureArg at h ⊢
  split at h
  · split at h
    · rename_i cs ids' hm
      cases h
      rw [mapIds_same (fun x y ids h1 h2 => pureLeaf0_same h1 h2) hm hH]
    · cases h
  · split at h
    · rename_i xs ids1 ys ids2 h1 h2
      cases h
      rw [mapIds_same (fun x y ids h1 h2 => pureLeaf_same h1 h2) h1 (fun i hi => hH i (by simp [hi])), mapIds_same (fun x y ids h1 h2 => pureLeaf_same h1 h2) h2 (fun i hi => hH i (by simp [hi]))]
    · cases h
  · exact pureLeaf_same h hH

/-- A summary that hangs on the objects alone that it reads. -/
def SummLocal (s : Summ) : Prop := ∀ args H H' fr e, s args H fr = some e → (∀ id ∈ e.reads, H'.at id = H.at id) → s args H' fr = some e

theorem pureSumm_local (F : Pure1) : SummLocal (pureSumm F) := by
  intro args H H' fr e h hH
  unfold pureSumm at h ⊢
  split at h
  · rename_i as rd hp
    split at h
    · rename_i b r hF
      split at h
      · rename_i hc
        cases h
        have := mapIds_same (fun x y ids h1 h2 => pureArg_same h1 h2) hp hH
        unfold pureArgs
        rw [this]
        simp only [hF, hc, if_true]
      · cases h
    · cases h
  · cases h

theorem appendEff_same {t : TypeId} {x y : AV} {e : Eff} (h : appendEff P t H fr x y = some e) (hH : ∀ id ∈ e.reads, H'.at id = H.at id) : appendEff P t H' fr x y = some e := by
  unfold appendEff at h ⊢
  split at h
  · rename_i e1 m ys rd hrt hsl
    split at h
    · rename_i hel
      split at h
      · split at h
        · rename_i zs hz
          cases h
          rw [hrt, sliceOf_same hsl hH]
          simp only [hel, if_true, hz]
        · cases h
      · rename_i id
        split at h
        · rename_i e2 n cols hid
          split at h
          · rename_i hc
            split at h
            · rename_i zs hz
              cases h
              rw [hrt, sliceOf_same hsl (fun i hi => hH i (by simp [hi]))]
              simp only [hel, if_true]
              rw [hH id (by simp), hid]
              simp only [hc, and_self, if_true, hz]
            · cases h
          · cases h
        · cases h
      · rename_i id off n
        split at h
        · rename_i e2 k cols hid
          split at h
          · rename_i hc
            split at h
            · rename_i zs hz
              cases h
              rw [hrt, sliceOf_same hsl (fun i hi => hH i (by simp [hi]))]
              simp only [hel, if_true]
              rw [hH id (by simp), hid]
              simp only [hc, and_self, if_true, hz]
            · cases h
          · cases h
        · cases h
      · cases h
    · cases h
  · cases h

theorem copyEff_same {t : TypeId} {x y : AV} {e : Eff} (h : copyEff P t H x y = some e) (hH : ∀ id ∈ e.reads, H'.at id = H.at id) : copyEff P t H' x y = some e := by
  unfold copyEff at h ⊢
  split at h
  · rename_i id e1 m ys rd hrt hsl
    split at h
    · rename_i e2 n cols hid
      split at h
      · rename_i hc
        split at h
        · rename_i zs hz
          cases h
          rw [hrt, sliceOf_same hsl (fun i hi => hH i (by simp [hi]))]
          simp only
          rw [hH id (by simp), hid]
          simp only [if_pos hc, hz]
        · cases h
      · cases h
    · cases h
  · cases h

theorem sliceEff_same {t : TypeId} {x : AV} {lo hi mx : Option Operand} {xs : List Operand} {e : Eff} (hT : TSame T T' xs) (h1 : ∀ y, lo = some y → y ∈ xs) (h2 : ∀ y, hi = some y → y ∈ xs) (h3 : ∀ y, mx = some y → y ∈ xs) (h : sliceEff P T g H t x lo hi mx = some e) (hH : ∀ id ∈ e.reads, H'.at id = H.at id) : sliceEff P T' g H' t x lo hi mx = some e := by
  have b1 := fun d => boundAV_same (P := P) (g := g) hT h1 d
  have b2 := fun d => boundAV_same (P := P) (g := g) hT h2 d
  have b3 := fun d => boundAV_same (P := P) (g := g) hT h3 d
  unfold sliceEff at h ⊢
  simp only [b1, b2] at h ⊢
  split at h
  · cases h
  · rename_i e1 hrt
    split at h
    · exact h
    · exact h
    · rename_i id
      split at h
      · rename_i e2 k cols hid
        have hr : e.reads = [id] := by
          revert h
          split
          · split
            · split
              · intro h; cases h; rfl
              · split
                · intro h; cases h; rfl
                · intro h; cases h
            · split
              · intro h; cases h; rfl
              · intro h; cases h
            · intro h; cases h
          · intro h; cases h
        rw [hH id (by simp [hr]), hid]
        simp only
        cases hbv : boundAV P T g hi (ofN k) with
        | none =>
          rw [hbv] at h
          split at h
          · cases mx <;> cases h
          · cases h
        | some hv =>
          rw [hbv] at h
          cases lo with
          | none => cases mx with
            | none => simp only at h ⊢; exact h
            | some m => simp only [b1, b3] at h ⊢; exact h
          | some l => cases mx with
            | none => simp only [b1] at h ⊢; exact h
            | some m => simp only [b1, b3] at h ⊢; exact h
      · cases h
    · rename_i id off n
      split at h
      · rename_i e2 k cols hid
        have hr : e.reads = [id] := by
          revert h
          split
          · split
            · intro h; cases h; rfl
            · intro h; cases h
          · intro h; cases h
        rw [hH id (by simp [hr]), hid]
        exact h
      · cases h
    · cases h

theorem argOf_same {cl : Call} (h : TSame T T' cl.operands.toList) (i : Nat) : argOf P T' g cl i = argOf P T g cl i := by
  unfold argOf
  cases h1 : cl.args[i]? with
  | none => rfl
  | some x =>
    cases h2 : cl.argTypes[i]? with
    | none => rfl
    | some t =>
      have hx : x ∈ cl.args := by
        rw [Array.getElem?_eq_some_iff] at h1
        obtain ⟨hl, rfl⟩ := h1
        exact Array.getElem_mem hl
      exact opd_same h (by simp [Call.operands, hx]) g t

theorem builtinEff_same {cl : Call} {b : Builtin} {e : Eff} (hT : TSame T T' cl.operands.toList) (he : builtinEff P T H fr g b cl = some e) (hH : ∀ id ∈ e.reads, H'.at id = H.at id) : builtinEff P T' H' fr g b cl = some e := by
  have ha := argOf_same (P := P) (g := g) hT
  unfold builtinEff at he ⊢
  simp only [ha] at he ⊢
  split at he
  · split at he
    · exact he
    · exact he
    · rename_i id e' h1 h2
      split at he
      · rename_i e2 n cols hid
        cases he
        rw [hH id (by simp), hid]
      · cases he
    · exact he
    · cases he
  · exact he
  · exact he
  · split at he
    · exact appendEff_same he hH
    · cases he
  · split at he
    · exact copyEff_same he hH
    · cases he
  · split at he
    · rename_i id off n e' h1 h2
      split at he
      · rename_i e4 k cols hid
        split at he
        · rename_i hc
          split at he
          · rename_i zs hz
            cases he
            rw [hH id (by simp), hid]
            simp only [if_pos hc, hz]
          · cases he
        · cases he
      · cases he
    · cases he
  · split at he
    · rename_i id n h1 h2
      split at he
      · rename_i ks cols one ct hid hmt
        split at he
        · rename_i hfl
          cases he
          rw [hH id (by simp), hid, hmt]
          simp only [if_pos hfl]
        · cases he
      · cases he
    · cases he
  · cases he

theorem opEff_same {S : FuncId → Option Summ} (hL : ∀ k s, S k = some s → SummLocal s) {e : Eff} (hT : TSame T T' o.op.operands.toList) (he : opEff P S T H fr g o = some e) (hH : ∀ id ∈ e.reads, H'.at id = H.at id) : opEff P S T' H' fr g o = some e := by
  cases hop : o.op <;> rw [hop] at hT
  case move x =>
    have h1 := fun g t => opd_same (P := P) hT (x := x) (by simp [Op.operands]) g t
    simp only [opEff, hop, h1] at he ⊢
    exact he
  case assign x =>
    have h1 := fun g t => opd_same (P := P) hT (x := x) (by simp [Op.operands]) g t
    simp only [opEff, hop, h1] at he ⊢
    exact he
  case pick cx x y =>
    have h1 := fun g t => opd_same (P := P) hT (x := x) (by simp [Op.operands]) g t
    have h2 := fun g t => opd_same (P := P) hT (x := y) (by simp [Op.operands]) g t
    cases cx with
    | tmp j =>
      have h3 := hT j (by simp [Op.operands])
      simp only [opEff, hop, h1, h2, h3] at he ⊢
      exact he
    | const v => simp [opEff, hop] at he
    | global v => simp [opEff, hop] at he
    | func v => simp [opEff, hop] at he
  case alloc t =>
    simp only [opEff, hop] at he ⊢
    exact he
  case box t x =>
    have h1 := fun g t => opd_same (P := P) hT (x := x) (by simp [Op.operands]) g t
    simp only [opEff, hop, h1] at he ⊢
    exact he
  case build t ps =>
    have h1 := partsOf_same (P := P) (g := g) hT (fieldType P t) ps (fun p hp => by simp only [Op.operands, List.mem_map]; exact ⟨p, hp, rfl⟩)
    simp only [opEff, hop, h1] at he ⊢
    exact he
  case buildSlice t n ps =>
    have h1 := partsOf_same (P := P) (g := g) hT (fieldType P t) ps (fun p hp => by simp only [Op.operands, List.mem_map]; exact ⟨p, hp, rfl⟩)
    simp only [opEff, hop, h1] at he ⊢
    exact he
  case load t x =>
    have h1 := fun g t => opd_same (P := P) hT (x := x) (by simp [Op.operands]) g t
    simp only [opEff, hop, h1] at he ⊢
    split at he
    · rename_i n hs
      split at he
      · rename_i b cs rd hcs
        split at he
        · rename_i v hw
          cases he
          rw [readCells_same hcs hH]
          simp only [hw]
        · cases he
      · cases he
    · cases he
  case store t x y =>
    have h1 := fun g t => opd_same (P := P) hT (x := x) (by simp [Op.operands]) g t
    have h2 := fun g t => opd_same (P := P) hT (x := y) (by simp [Op.operands]) g t
    simp only [opEff, hop, h1, h2] at he ⊢
    split at he
    · rename_i id idx off vs hx hy
      split at he
      · rename_i hs
        split at he
        · rename_i cs hid
          split at he
          · rename_i hc
            cases he
            rw [hH id (by simp), hid]
            simp only [if_pos hs, if_pos hc]
          · cases he
        · rename_i e' k cols hid
          split at he
          · rename_i ws hz
            split at he
            · rename_i hl
              cases he
              rw [hH id (by simp), hid]
              simp only [if_pos hs, hz, if_pos hl]
            · cases he
          · cases he
        · cases he
      · cases he
    · cases he
  case nilCheck x =>
    have h1 := fun g t => opd_same (P := P) hT (x := x) (by simp [Op.operands]) g t
    simp only [opEff, hop, h1] at he ⊢
    exact he
  case binOp op t x y yt =>
    have h1 := fun g t => opd_same (P := P) hT (x := x) (by simp [Op.operands]) g t
    have h2 := fun g t => opd_same (P := P) hT (x := y) (by simp [Op.operands]) g t
    simp only [opEff, hop, h1, h2] at he ⊢
    exact he
  case unOp op t x =>
    have h1 := fun g t => opd_same (P := P) hT (x := x) (by simp [Op.operands]) g t
    cases op with
    | not => simp only [opEff, hop, h1] at he ⊢; exact he
    | neg => simp only [opEff, hop, h1] at he ⊢; exact he
    | xor => simp [opEff, hop] at he
    | plus => simp [opEff, hop] at he
  case convert s d x =>
    have h1 := fun g t => opd_same (P := P) hT (x := x) (by simp [Op.operands]) g t
    simp only [opEff, hop, h1] at he ⊢
    exact he
  case makeInterface t x =>
    have h1 := fun g t => opd_same (P := P) hT (x := x) (by simp [Op.operands]) g t
    simp only [opEff, hop, h1] at he ⊢
    exact he
  case makeFunc f xs ys =>
    cases f with
    | func k =>
      have h1 := map_same (P := P) hT xs.toList (fun x hx => by simp [Op.operands]; exact .inl (by simpa using hx)) g 0
      have h2 := map_same (P := P) hT ys.toList (fun x hx => by simp [Op.operands]; exact .inr (by simpa using hx)) g 0
      simp only [opEff, hop] at he ⊢
      rw [h1, h2]
      exact he
    | method _ => simp [opEff, hop] at he
    | methodOf _ _ => simp [opEff, hop] at he
    | via _ _ _ _ => simp [opEff, hop] at he
    | yield _ => simp [opEff, hop] at he
  case makeSlice t x y =>
    have h1 := fun g t => opd_same (P := P) hT (x := x) (by simp [Op.operands]) g t
    have h2 := fun g t => opd_same (P := P) hT (x := y) (by simp [Op.operands]) g t
    simp only [opEff, hop, h1, h2] at he ⊢
    exact he
  case slice t x lo hi mx =>
    have h1 := fun g t => opd_same (P := P) hT (x := x) (by simp [Op.operands]) g t
    simp only [opEff, hop, h1] at he ⊢
    exact sliceEff_same hT (fun y hy => by simp [Op.operands, hy]) (fun y hy => by simp [Op.operands, hy]) (fun y hy => by simp [Op.operands, hy]) he hH
  case fieldAddr s x f =>
    have h1 := fun g t => opd_same (P := P) hT (x := x) (by simp [Op.operands]) g t
    simp only [opEff, hop, h1] at he ⊢
    exact he
  case field s x f =>
    have h1 := fun g t => opd_same (P := P) hT (x := x) (by simp [Op.operands]) g t
    simp only [opEff, hop, h1] at he ⊢
    exact he
  case indexAddr t x y =>
    have h1 := fun g t => opd_same (P := P) hT (x := x) (by simp [Op.operands]) g t
    have h2 := fun g t => opd_same (P := P) hT (x := y) (by simp [Op.operands]) g t
    simp only [opEff, hop, h1, h2] at he ⊢
    split at he
    · exact he
    · rename_i e' id k i hrt hx hy
      split at he
      · rename_i e2 n cols hid
        split at he
        · rename_i hs
          cases he
          rw [hH id (by simp), hid]
          simp only [if_pos hs]
        · cases he
      · cases he
    · rename_i e' id off n k i hrt hx hy
      split at he
      · rename_i e2 m cols hid
        split at he
        · rename_i hs
          cases he
          rw [hH id (by simp), hid]
          simp only [if_pos hs]
        · cases he
      · cases he
    · exact he
    · cases he
  case extract x i =>
    have h1 := fun g t => opd_same (P := P) hT (x := x) (by simp [Op.operands]) g t
    simp only [opEff, hop, h1] at he ⊢
    exact he
  case typeAssert x xt t ok =>
    have h1 := fun g t => opd_same (P := P) hT (x := x) (by simp [Op.operands]) g t
    cases ok with
    | false => simp only [opEff, hop, h1] at he ⊢; exact he
    | true => simp [opEff, hop] at he
  case makeMap t r =>
    cases r with
    | none => simp only [opEff, hop] at he ⊢; exact he
    | some r => simp [opEff, hop] at he
  case insert t m x y =>
    have h1 := fun g t => opd_same (P := P) hT (x := m) (by simp [Op.operands]) g t
    have h2 := fun g t => opd_same (P := P) hT (x := x) (by simp [Op.operands]) g t
    have h3 := fun g t => opd_same (P := P) hT (x := y) (by simp [Op.operands]) g t
    simp only [opEff, hop, h1, h2, h3] at he ⊢
    split at he
    · cases he
    · rename_i him
      rw [if_neg him]
      split at he
      · rename_i id n hm hx
        split at he
        · rename_i ks cols one hid
          split at he
          · rename_i zs hz
            cases he
            rw [hH id (by simp), hid]
            simp only [hz]
          · cases he
        · rename_i es f p q hid hy
          cases he
          rw [hH id (by simp), hid, hy]
        · rename_i es cs hid hy
          cases he
          rw [hH id (by simp), hid, hy]
        · cases he
      · cases he
  case mapUpdate t m x y =>
    have h1 := fun g t => opd_same (P := P) hT (x := m) (by simp [Op.operands]) g t
    have h2 := fun g t => opd_same (P := P) hT (x := x) (by simp [Op.operands]) g t
    have h3 := fun g t => opd_same (P := P) hT (x := y) (by simp [Op.operands]) g t
    simp only [opEff, hop, h1, h2, h3] at he ⊢
    split at he
    · cases he
    · rename_i him
      rw [if_neg him]
      split at he
      · rename_i id n hm hx
        split at he
        · rename_i ks cols one hid
          split at he
          · rename_i zs hz
            cases he
            rw [hH id (by simp), hid]
            simp only [hz]
          · cases he
        · rename_i es f p q hid hy
          cases he
          rw [hH id (by simp), hid, hy]
        · rename_i es cs hid hy
          cases he
          rw [hH id (by simp), hid, hy]
        · cases he
      · cases he
  case lookup t m k ok =>
    have h1 := fun g t => opd_same (P := P) hT (x := m) (by simp [Op.operands]) g t
    have h2 := fun g t => opd_same (P := P) hT (x := k) (by simp [Op.operands]) g t
    simp only [opEff, hop, h1, h2] at he ⊢
    split at he
    · rename_i id n hm hx
      split at he
      · rename_i ks cols one hid
        split at he
        · rename_i hz
          cases he
          rw [hH id (by simp), hid]
          simp only [if_pos hz]
        · cases he
      · cases he
    · cases he
  case range t x =>
    have h1 := fun g t => opd_same (P := P) hT (x := x) (by simp [Op.operands]) g t
    simp only [opEff, hop, h1] at he ⊢
    exact he
  case entry x =>
    have h1 := fun g t => opd_same (P := P) hT (x := x) (by simp [Op.operands]) g t
    simp only [opEff, hop, h1] at he ⊢
    split at he
    · rename_i id hx
      split at he
      · rename_i ks cols one left i hid
        cases he
        rw [hH id (by simp), hid]
      · cases he
    · cases he
  case call cl =>
    have hT' : TSame T T' cl.operands.toList := by simpa [Op.operands] using hT
    simp only [opEff, hop] at he ⊢
    split at he
    · exact builtinEff_same hT' he hH
    · have h1 := calleeOf_same (P := P) (g := g) hT'
      rw [h1]
      split at he
      · rename_i k args hk
        split at he
        · rename_i s hs
          exact hL k s hs args H H' fr e he hH
        · cases he
      · cases he
  all_goals simp [opEff, hop] at he

end
end Go.Own
