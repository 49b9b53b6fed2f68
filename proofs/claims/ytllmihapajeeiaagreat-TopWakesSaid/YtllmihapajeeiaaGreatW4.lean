/- What stands behind it, part 4. -/
import Derived.Test.YtllmihapajeeiaaGreatW3
import Derived.Orders
import Derived.LoopN
set_option linter.unusedVariables false
set_option linter.unusedSimpArgs false
section
namespace Go.Own
open Go
section
variable {P : Program} {T T' : List AV} {H H' : Heap} {g : Option (Nat × Bool)} {o : Oper} {fr : Nat}
def TSame (T T' : List AV) (xs : List Operand) : Prop := ∀ i, Operand.tmp i ∈ xs → T'.getD i .top = T.getD i .top
theorem opd_same {xs : List Operand} (h : TSame T T' xs) {x : Operand} (hx : x ∈ xs) (g : Option (Nat × Bool)) (t : TypeId) : opd P T' g t x = opd P T g t x := by
 cases x with
 | tmp i => simp only [opd, h i hx]
 | const v => rfl
 | global v => rfl
 | func v => rfl
theorem map_same {xs : List Operand} (h : TSame T T' xs) (l : List Operand) (hl : ∀ x ∈ l, x ∈ xs) (g : Option (Nat × Bool)) (t : TypeId) : l.map (opd P T' g t) = l.map (opd P T g t) :=
 List.map_congr_left fun x hx => opd_same h (hl x hx) g t
theorem partsOf_same {xs : List Operand} (h : TSame T T' xs) (ts : Nat → TypeId) (ps : Array (Nat × Operand)) (hl : ∀ p ∈ ps.toList, p.2 ∈ xs) : partsOf P T' g ts ps = partsOf P T g ts ps := by
 unfold partsOf
 refine List.map_congr_left fun p hp => ?_
 obtain ⟨i, x⟩ := p
 simp only [opd_same h (hl _ hp)]
theorem calleeOf_same {cl : Call} (h : TSame T T' cl.operands.toList) : calleeOf P T' g cl = calleeOf P T g cl := by
 have hargs : ((cl.args.toList.zip (cl.argTypes.toList ++ List.replicate cl.args.size 0)).map fun (x, t) => opd P T' g t x) = ((cl.args.toList.zip (cl.argTypes.toList ++ List.replicate cl.args.size 0)).map fun (x, t) => opd P T g t x) := by
  refine List.map_congr_left fun p hp => ?_
  obtain ⟨x, t⟩ := p
  have : x ∈ cl.args.toList := (List.of_mem_zip hp).1
  exact opd_same h (by simp [Call.operands]; exact .inr (by simpa using this)) g t
 unfold calleeOf
 simp only [hargs]
 cases hc : cl.callee with
 | value f =>
  have := opd_same (P := P) h (x := f) (by simp [Call.operands, hc]) g 0
  simp only [this]
 | invoke r m =>
  have := opd_same (P := P) h (x := r) (by simp [Call.operands, hc]) g 0
  simp only [this]
 | builtin b => rfl
theorem boundAV_same {xs : List Operand} (h : TSame T T' xs) {ox : Option Operand} (hx : ∀ y, ox = some y → y ∈ xs) (d : Int) : boundAV P T' g ox d = boundAV P T g ox d := by
 cases ox with
 | none => rfl
 | some y => simp only [boundAV, opd_same h (hx y rfl)]
theorem readCells_same {n : Nat} {x : AV} {b : Option Bool} {cs : List AV} {rd : List Nat} (h : readCells H n x = some (b, cs, rd)) (hH : ∀ id ∈ rd, H'.at id = H.at id) : readCells H' n x = some (b, cs, rd) := by
 unfold readCells at h ⊢
 split at h
 ·exact h
 ·rename_i id idx off
  have key : rd = [id] → H'.at id = H.at id := fun e => hH id (by simp [e])
  split at h
  ·rename_i cells hid
   split at h
   ·cases h
   ·rename_i hl
    split at h
    ·cases h
     rw [key rfl, hid]
     simp [hl]
    ·cases h
  ·rename_i e k cols hid
   split at h
   ·cases h
   ·rename_i hl
    cases h
    rw [key rfl, hid]
    simp only
    rw [if_neg hl]
  ·cases h
 ·cases h
theorem sliceOf_same {x : AV} {m : Nat} {ys : List Col} {rd : List Nat} (h : sliceOf H x = some (m, ys, rd)) (hH : ∀ id ∈ rd, H'.at id = H.at id) : sliceOf H' x = some (m, ys, rd) := by
 unfold sliceOf at h ⊢
 split at h
 ·exact h
 ·exact h
 ·rename_i id
  split at h
  ·rename_i e n cols hid
   cases h
   rw [hH id (by simp), hid]
  ·cases h
 ·rename_i id off n
  split at h
  ·rename_i e k cols hid
   cases h
   rw [hH id (by simp), hid]
  ·cases h
 ·cases h
theorem mapIds_same {α β : Type} {f f' : α → Option (β × List Nat)} (hf : ∀ x y ids, f x = some (y, ids) → (∀ id ∈ ids, H'.at id = H.at id) → f' x = some (y, ids)) : ∀ {l : List α} {r : List β} {ids : List Nat}, mapIds f l = some (r, ids) → (∀ id ∈ ids, H'.at id = H.at id) → mapIds f' l = some (r, ids)
 | [], r, ids, h, _ => h
 | x :: l, r, ids, h, hH => by
  simp only [mapIds] at h ⊢
  split at h
  ·rename_i y ids1 ys ids2 h1 h2
   cases h
   rw [hf x y ids1 h1 (fun id hid => hH id (by simp [hid])), mapIds_same hf h2 (fun id hid => hH id (by simp [hid]))]
  ·cases h
theorem pureLeaf0_same {x y : AV} {ids : List Nat} (h : pureLeaf0 H x = some (y, ids)) (hH : ∀ id ∈ ids, H'.at id = H.at id) : pureLeaf0 H' x = some (y, ids) := by
 unfold pureLeaf0 at h ⊢
 split at h
 ·exact h
 ·exact h
 ·exact h
 ·exact h
 ·rename_i id
  split at h
  ·rename_i e n cols hid
   cases h
   rw [hH id (by simp), hid]
  ·cases h
 ·rename_i id off n
  split at h
  ·rename_i e k cols hid
   cases h
   rw [hH id (by simp), hid]
  ·cases h
 ·exact h
 ·rename_i id
  split at h
  ·rename_i ks cols one hid
   cases h
   rw [hH id (by simp), hid]
  ·cases h
 ·cases h
theorem pureLeaf_same {x y : AV} {ids : List Nat} (h : pureLeaf H x = some (y, ids)) (hH : ∀ id ∈ ids, H'.at id = H.at id) : pureLeaf H' x = some (y, ids) := by
 unfold pureLeaf at h ⊢
 split at h
 ·exact h
 ·split at h
  ·rename_i cs ids' hm
   cases h
   rw [mapIds_same (fun x y ids h1 h2 => pureLeaf0_same h1 h2) hm hH]
  ·cases h
 ·rename_i id
  split at h
  ·rename_i cells hid
   split at h
   ·rename_i cs ids' hm
    cases h
    rw [hH id (by simp), hid]
    simp only
    rw [mapIds_same (fun x y ids h1 h2 => pureLeaf0_same h1 h2) hm (fun i hi => hH i (by simp [hi]))]
   ·cases h
  ·cases h
 ·exact pureLeaf0_same h hH
theorem pureArg_same {x y : AV} {ids : List Nat} (h : pureArg H x = some (y, ids)) (hH : ∀ id ∈ ids, H'.at id = H.at id) : pureArg H' x = some (y, ids) := by
 unfold pureArg at h ⊢
 split at h
 ·split at h
  ·rename_i cs ids' hm
   cases h
   rw [mapIds_same (fun x y ids h1 h2 => pureLeaf0_same h1 h2) hm hH]
  ·cases h
 ·split at h
  ·rename_i xs ids1 ys ids2 h1 h2
   cases h
   rw [mapIds_same (fun x y ids h1 h2 => pureLeaf_same h1 h2) h1 (fun i hi => hH i (by simp [hi])), mapIds_same (fun x y ids h1 h2 => pureLeaf_same h1 h2) h2 (fun i hi => hH i (by simp [hi]))]
  ·cases h
 ·exact pureLeaf_same h hH
def SummLocal (s : Summ) : Prop := ∀ args H H' fr e, s args H fr = some e → (∀ id ∈ e.reads, H'.at id = H.at id) → s args H' fr = some e
theorem pureSumm_local (F : Pure1) : SummLocal (pureSumm F) := by
 intro args H H' fr e h hH
 unfold pureSumm at h ⊢
 split at h
 ·rename_i as rd hp
  split at h
  ·rename_i b r hF
   split at h
   ·rename_i hc
    cases h
    have := mapIds_same (fun x y ids h1 h2 => pureArg_same h1 h2) hp hH
    unfold pureArgs
    rw [this]
    simp only [hF, hc, if_true]
   ·cases h
  ·cases h
 ·cases h
theorem appendEff_same {t : TypeId} {x y : AV} {e : Eff} (h : appendEff P t H fr x y = some e) (hH : ∀ id ∈ e.reads, H'.at id = H.at id) : appendEff P t H' fr x y = some e := by
 unfold appendEff at h ⊢
 split at h
 ·rename_i e1 m ys rd hrt hsl
  split at h
  ·rename_i hel
   split at h
   ·split at h
    ·rename_i zs hz
     cases h
     rw [hrt, sliceOf_same hsl hH]
     simp only [hel, if_true, hz]
    ·cases h
   ·rename_i id
    split at h
    ·rename_i e2 n cols hid
     split at h
     ·rename_i hc
      split at h
      ·rename_i zs hz
       cases h
       rw [hrt, sliceOf_same hsl (fun i hi => hH i (by simp [hi]))]
       simp only [hel, if_true]
       rw [hH id (by simp), hid]
       simp only [hc, and_self, if_true, hz]
      ·cases h
     ·cases h
    ·cases h
   ·rename_i id off n
    split at h
    ·rename_i e2 k cols hid
     split at h
     ·rename_i hc
      split at h
      ·rename_i zs hz
       cases h
       rw [hrt, sliceOf_same hsl (fun i hi => hH i (by simp [hi]))]
       simp only [hel, if_true]
       rw [hH id (by simp), hid]
       simp only [hc, and_self, if_true, hz]
      ·cases h
     ·cases h
    ·cases h
   ·cases h
  ·cases h
 ·cases h
theorem copyEff_same {t : TypeId} {x y : AV} {e : Eff} (h : copyEff P t H x y = some e) (hH : ∀ id ∈ e.reads, H'.at id = H.at id) : copyEff P t H' x y = some e := by
 unfold copyEff at h ⊢
 split at h
 ·rename_i id e1 m ys rd hrt hsl
  split at h
  ·rename_i e2 n cols hid
   split at h
   ·rename_i hc
    split at h
    ·rename_i zs hz
     cases h
     rw [hrt, sliceOf_same hsl (fun i hi => hH i (by simp [hi]))]
     simp only
     rw [hH id (by simp), hid]
     simp only [if_pos hc, hz]
    ·cases h
   ·cases h
  ·cases h
 ·cases h
theorem sliceEff_same {t : TypeId} {x : AV} {lo hi mx : Option Operand} {xs : List Operand} {e : Eff} (hT : TSame T T' xs) (h1 : ∀ y, lo = some y → y ∈ xs) (h2 : ∀ y, hi = some y → y ∈ xs) (h3 : ∀ y, mx = some y → y ∈ xs) (h : sliceEff P T g H t x lo hi mx = some e) (hH : ∀ id ∈ e.reads, H'.at id = H.at id) : sliceEff P T' g H' t x lo hi mx = some e := by
 have b1 := fun d => boundAV_same (P := P) (g := g) hT h1 d
 have b2 := fun d => boundAV_same (P := P) (g := g) hT h2 d
 have b3 := fun d => boundAV_same (P := P) (g := g) hT h3 d
 unfold sliceEff at h ⊢
 simp only [b1, b2] at h ⊢
 split at h
 ·cases h
 ·rename_i e1 hrt
  split at h
  ·exact h
  ·exact h
  ·rename_i id
   split at h
   ·rename_i e2 k cols hid
    have hr : e.reads = [id] := by
     revert h
     split
     ·split
      ·split
       ·intro h; cases h; rfl
       ·split
        ·intro h; cases h; rfl
        ·intro h; cases h
      ·split
       ·intro h; cases h; rfl
       ·intro h; cases h
      ·intro h; cases h
     ·intro h; cases h
    rw [hH id (by simp [hr]), hid]
    simp only
    cases hbv : boundAV P T g hi (ofN k) with
    | none =>
     rw [hbv] at h
     split at h
     ·cases mx <;> cases h
     ·cases h
    | some hv =>
     rw [hbv] at h
     cases lo with
     | none => cases mx with
      | none => simp only at h ⊢; exact h
      | some m => simp only [b1, b3] at h ⊢; exact h
     | some l => cases mx with
      | none => simp only [b1] at h ⊢; exact h
      | some m => simp only [b1, b3] at h ⊢; exact h
   ·cases h
  ·rename_i id off n
   split at h
   ·rename_i e2 k cols hid
    have hr : e.reads = [id] := by
     revert h
     split
     ·split
      ·intro h; cases h; rfl
      ·intro h; cases h
     ·intro h; cases h
    rw [hH id (by simp [hr]), hid]
    exact h
   ·cases h
  ·cases h
theorem argOf_same {cl : Call} (h : TSame T T' cl.operands.toList) (i : Nat) : argOf P T' g cl i = argOf P T g cl i := by
 unfold argOf
 cases h1 : cl.args[i]? with
 | none => rfl
 | some x =>
  cases h2 : cl.argTypes[i]? with
  | none => rfl
  | some t =>
   have hx : x ∈ cl.args := by
    rw [Array.getElem?_eq_some_iff] at h1
    obtain ⟨hl, rfl⟩ := h1
    exact Array.getElem_mem hl
   exact opd_same h (by simp [Call.operands, hx]) g t
theorem builtinEff_same {cl : Call} {b : Builtin} {e : Eff} (hT : TSame T T' cl.operands.toList) (he : builtinEff P T H fr g b cl = some e) (hH : ∀ id ∈ e.reads, H'.at id = H.at id) : builtinEff P T' H' fr g b cl = some e := by
 have ha := argOf_same (P := P) (g := g) hT
 unfold builtinEff at he ⊢
 simp only [ha] at he ⊢
 split at he
 ·split at he
  ·exact he
  ·exact he
  ·rename_i id e' h1 h2
   split at he
   ·rename_i e2 n cols hid
    cases he
    rw [hH id (by simp), hid]
   ·cases he
  ·exact he
  ·cases he
 ·exact he
 ·exact he
 ·split at he
  ·exact appendEff_same he hH
  ·cases he
 ·split at he
  ·exact copyEff_same he hH
  ·cases he
 ·split at he
  ·rename_i id off n e' h1 h2
   split at he
   ·rename_i e4 k cols hid
    split at he
    ·rename_i hc
     split at he
     ·rename_i zs hz
      cases he
      rw [hH id (by simp), hid]
      simp only [if_pos hc, hz]
     ·cases he
    ·cases he
   ·cases he
  ·cases he
 ·split at he
  ·rename_i id n h1 h2
   split at he
   ·rename_i ks cols one ct hid hmt
    split at he
    ·rename_i hfl
     cases he
     rw [hH id (by simp), hid, hmt]
     simp only [if_pos hfl]
    ·cases he
   ·cases he
  ·cases he
 ·cases he
theorem opEff_same {S : FuncId → Option Summ} (hL : ∀ k s, S k = some s → SummLocal s) {e : Eff} (hT : TSame T T' o.op.operands.toList) (he : opEff P S T H fr g o = some e) (hH : ∀ id ∈ e.reads, H'.at id = H.at id) : opEff P S T' H' fr g o = some e := by
 cases hop : o.op <;> rw [hop] at hT
 case move x =>
  have h1 := fun g t => opd_same (P := P) hT (x := x) (by simp [Op.operands]) g t
  simp only [opEff, hop, h1] at he ⊢
  exact he
 case assign x =>
  have h1 := fun g t => opd_same (P := P) hT (x := x) (by simp [Op.operands]) g t
  simp only [opEff, hop, h1] at he ⊢
  exact he
 case pick cx x y =>
  have h1 := fun g t => opd_same (P := P) hT (x := x) (by simp [Op.operands]) g t
  have h2 := fun g t => opd_same (P := P) hT (x := y) (by simp [Op.operands]) g t
  cases cx with
  | tmp j =>
   have h3 := hT j (by simp [Op.operands])
   simp only [opEff, hop, h1, h2, h3] at he ⊢
   exact he
  | const v => simp [opEff, hop] at he
  | global v => simp [opEff, hop] at he
  | func v => simp [opEff, hop] at he
 case alloc t =>
  simp only [opEff, hop] at he ⊢
  exact he
 case box t x =>
  have h1 := fun g t => opd_same (P := P) hT (x := x) (by simp [Op.operands]) g t
  simp only [opEff, hop, h1] at he ⊢
  exact he
 case build t ps =>
  have h1 := partsOf_same (P := P) (g := g) hT (fieldType P t) ps (fun p hp => by simp only [Op.operands, List.mem_map]; exact ⟨p, hp, rfl⟩)
  simp only [opEff, hop, h1] at he ⊢
  exact he
 case buildSlice t n ps =>
  have h1 := partsOf_same (P := P) (g := g) hT (fieldType P t) ps (fun p hp => by simp only [Op.operands, List.mem_map]; exact ⟨p, hp, rfl⟩)
  simp only [opEff, hop, h1] at he ⊢
  exact he
 case load t x =>
  have h1 := fun g t => opd_same (P := P) hT (x := x) (by simp [Op.operands]) g t
  simp only [opEff, hop, h1] at he ⊢
  split at he
  ·rename_i n hs
   split at he
   ·rename_i b cs rd hcs
    split at he
    ·rename_i v hw
     cases he
     rw [readCells_same hcs hH]
     simp only [hw]
    ·cases he
   ·cases he
  ·cases he
 case store t x y =>
  have h1 := fun g t => opd_same (P := P) hT (x := x) (by simp [Op.operands]) g t
  have h2 := fun g t => opd_same (P := P) hT (x := y) (by simp [Op.operands]) g t
  simp only [opEff, hop, h1, h2] at he ⊢
  split at he
  ·rename_i id idx off vs hx hy
   split at he
   ·rename_i hs
    split at he
    ·rename_i cs hid
     split at he
     ·rename_i hc
      cases he
      rw [hH id (by simp), hid]
      simp only [if_pos hs, if_pos hc]
     ·cases he
    ·rename_i e' k cols hid
     split at he
     ·rename_i ws hz
      split at he
      ·rename_i hl
       cases he
       rw [hH id (by simp), hid]
       simp only [if_pos hs, hz, if_pos hl]
      ·cases he
     ·cases he
    ·cases he
   ·cases he
  ·cases he
 case nilCheck x =>
  have h1 := fun g t => opd_same (P := P) hT (x := x) (by simp [Op.operands]) g t
  simp only [opEff, hop, h1] at he ⊢
  exact he
 case binOp op t x y yt =>
  have h1 := fun g t => opd_same (P := P) hT (x := x) (by simp [Op.operands]) g t
  have h2 := fun g t => opd_same (P := P) hT (x := y) (by simp [Op.operands]) g t
  simp only [opEff, hop, h1, h2] at he ⊢
  exact he
 case unOp op t x =>
  have h1 := fun g t => opd_same (P := P) hT (x := x) (by simp [Op.operands]) g t
  cases op with
  | not => simp only [opEff, hop, h1] at he ⊢; exact he
  | neg => simp only [opEff, hop, h1] at he ⊢; exact he
  | xor => simp [opEff, hop] at he
  | plus => simp [opEff, hop] at he
 case convert s d x =>
  have h1 := fun g t => opd_same (P := P) hT (x := x) (by simp [Op.operands]) g t
  simp only [opEff, hop, h1] at he ⊢
  exact he
 case makeInterface t x =>
  have h1 := fun g t => opd_same (P := P) hT (x := x) (by simp [Op.operands]) g t
  simp only [opEff, hop, h1] at he ⊢
  exact he
 case makeFunc f xs ys =>
  cases f with
  | func k =>
   have h1 := map_same (P := P) hT xs.toList (fun x hx => by simp [Op.operands]; exact .inl (by simpa using hx)) g 0
   have h2 := map_same (P := P) hT ys.toList (fun x hx => by simp [Op.operands]; exact .inr (by simpa using hx)) g 0
   simp only [opEff, hop] at he ⊢
   rw [h1, h2]
   exact he
  | method _ => simp [opEff, hop] at he
  | methodOf _ _ => simp [opEff, hop] at he
  | via _ _ _ _ => simp [opEff, hop] at he
  | yield _ => simp [opEff, hop] at he
 case makeSlice t x y =>
  have h1 := fun g t => opd_same (P := P) hT (x := x) (by simp [Op.operands]) g t
  have h2 := fun g t => opd_same (P := P) hT (x := y) (by simp [Op.operands]) g t
  simp only [opEff, hop, h1, h2] at he ⊢
  exact he
 case slice t x lo hi mx =>
  have h1 := fun g t => opd_same (P := P) hT (x := x) (by simp [Op.operands]) g t
  simp only [opEff, hop, h1] at he ⊢
  exact sliceEff_same hT (fun y hy => by simp [Op.operands, hy]) (fun y hy => by simp [Op.operands, hy]) (fun y hy => by simp [Op.operands, hy]) he hH
 case fieldAddr s x f =>
  have h1 := fun g t => opd_same (P := P) hT (x := x) (by simp [Op.operands]) g t
  simp only [opEff, hop, h1] at he ⊢
  exact he
 case field s x f =>
  have h1 := fun g t => opd_same (P := P) hT (x := x) (by simp [Op.operands]) g t
  simp only [opEff, hop, h1] at he ⊢
  exact he
 case indexAddr t x y =>
  have h1 := fun g t => opd_same (P := P) hT (x := x) (by simp [Op.operands]) g t
  have h2 := fun g t => opd_same (P := P) hT (x := y) (by simp [Op.operands]) g t
  simp only [opEff, hop, h1, h2] at he ⊢
  split at he
  ·exact he
  ·rename_i e' id k i hrt hx hy
   split at he
   ·rename_i e2 n cols hid
    split at he
    ·rename_i hs
     cases he
     rw [hH id (by simp), hid]
     simp only [if_pos hs]
    ·cases he
   ·cases he
  ·rename_i e' id off n k i hrt hx hy
   split at he
   ·rename_i e2 m cols hid
    split at he
    ·rename_i hs
     cases he
     rw [hH id (by simp), hid]
     simp only [if_pos hs]
    ·cases he
   ·cases he
  ·exact he
  ·cases he
 case extract x i =>
  have h1 := fun g t => opd_same (P := P) hT (x := x) (by simp [Op.operands]) g t
  simp only [opEff, hop, h1] at he ⊢
  exact he
 case typeAssert x xt t ok =>
  have h1 := fun g t => opd_same (P := P) hT (x := x) (by simp [Op.operands]) g t
  cases ok with
  | false => simp only [opEff, hop, h1] at he ⊢; exact he
  | true => simp [opEff, hop] at he
 case makeMap t r =>
  cases r with
  | none => simp only [opEff, hop] at he ⊢; exact he
  | some r => simp [opEff, hop] at he
 case insert t m x y =>
  have h1 := fun g t => opd_same (P := P) hT (x := m) (by simp [Op.operands]) g t
  have h2 := fun g t => opd_same (P := P) hT (x := x) (by simp [Op.operands]) g t
  have h3 := fun g t => opd_same (P := P) hT (x := y) (by simp [Op.operands]) g t
  simp only [opEff, hop, h1, h2, h3] at he ⊢
  split at he
  ·cases he
  ·rename_i him
   rw [if_neg him]
   split at he
   ·rename_i id n hm hx
    split at he
    ·rename_i ks cols one hid
     split at he
     ·rename_i zs hz
      cases he
      rw [hH id (by simp), hid]
      simp only [hz]
     ·cases he
    ·rename_i es f p q hid hy
     cases he
     rw [hH id (by simp), hid, hy]
    ·rename_i es cs hid hy
     cases he
     rw [hH id (by simp), hid, hy]
    ·cases he
   ·cases he
 case mapUpdate t m x y =>
  have h1 := fun g t => opd_same (P := P) hT (x := m) (by simp [Op.operands]) g t
  have h2 := fun g t => opd_same (P := P) hT (x := x) (by simp [Op.operands]) g t
  have h3 := fun g t => opd_same (P := P) hT (x := y) (by simp [Op.operands]) g t
  simp only [opEff, hop, h1, h2, h3] at he ⊢
  split at he
  ·cases he
  ·rename_i him
   rw [if_neg him]
   split at he
   ·rename_i id n hm hx
    split at he
    ·rename_i ks cols one hid
     split at he
     ·rename_i zs hz
      cases he
      rw [hH id (by simp), hid]
      simp only [hz]
     ·cases he
    ·rename_i es f p q hid hy
     cases he
     rw [hH id (by simp), hid, hy]
    ·rename_i es cs hid hy
     cases he
     rw [hH id (by simp), hid, hy]
    ·cases he
   ·cases he
 case lookup t m k ok =>
  have h1 := fun g t => opd_same (P := P) hT (x := m) (by simp [Op.operands]) g t
  have h2 := fun g t => opd_same (P := P) hT (x := k) (by simp [Op.operands]) g t
  simp only [opEff, hop, h1, h2] at he ⊢
  split at he
  ·rename_i id n hm hx
   split at he
   ·rename_i ks cols one hid
    split at he
    ·rename_i hz
     cases he
     rw [hH id (by simp), hid]
     simp only [if_pos hz]
    ·cases he
   ·cases he
  ·cases he
 case range t x =>
  have h1 := fun g t => opd_same (P := P) hT (x := x) (by simp [Op.operands]) g t
  simp only [opEff, hop, h1] at he ⊢
  exact he
 case entry x =>
  have h1 := fun g t => opd_same (P := P) hT (x := x) (by simp [Op.operands]) g t
  simp only [opEff, hop, h1] at he ⊢
  split at he
  ·rename_i id hx
   split at he
   ·rename_i ks cols one left i hid
    cases he
    rw [hH id (by simp), hid]
   ·cases he
  ·cases he
 case call cl =>
  have hT' : TSame T T' cl.operands.toList := by simpa [Op.operands] using hT
  simp only [opEff, hop] at he ⊢
  split at he
  ·exact builtinEff_same hT' he hH
  ·have h1 := calleeOf_same (P := P) (g := g) hT'
   rw [h1]
   split at he
   ·rename_i k args hk
    split at he
    ·rename_i s hs
     exact hL k s hs args H H' fr e he hH
    ·cases he
   ·cases he
 all_goals simp [opEff, hop] at he
end
end Go.Own
end
section
namespace Go.Own
open Go
def stE (L : Nat → Bool) : Nat → List DEff → St → St
 | _, [], st => st
 | i, d :: ds, st => stE L (i + 1) ds (if L i then applyD d st else st)
theorem applyD_T (d : DEff) (st : St) (x : Nat) : (applyD d st).T[x]? = if d.dst = some x then (st.T[x]?).map (fun _ => d.val) else st.T[x]? := by
 unfold applyD
 cases hd : d.dst with
 | none => simp
 | some i =>
  simp only [List.getElem?_set]
  by_cases hi : i = x
  ·subst hi
   simp only [if_true]
   by_cases hl : i < st.T.length
   ·simp [hl]
   ·simp [hl, List.getElem?_eq_none (Nat.le_of_not_lt hl)]
  ·simp [hi]
theorem writeAll_at_not (id : Nat) : ∀ (ws : List (Nat × AObj)) (H : Heap), id ∉ ws.map (·.1) → (writeAll H ws).at id = H.at id
 | [], _, _ => rfl
 | (k, o) :: ws, H, h => by
  simp only [List.map_cons, List.mem_cons, not_or] at h
  simp only [writeAll]
  rw [writeAll_at_not id ws _ h.2, Heap.at_setAt, if_neg h.1]
theorem writeAll_at_same (id : Nat) : ∀ (ws : List (Nat × AObj)) (H H' : Heap), H.at id = H'.at id → (writeAll H ws).at id = (writeAll H' ws).at id
 | [], _, _, h => h
 | (k, o) :: ws, H, H', h => by
  simp only [writeAll]
  exact writeAll_at_same id ws _ _ (by rw [Heap.at_setAt, Heap.at_setAt, h])
theorem writeAll_at_mem (id : Nat) : ∀ (ws : List (Nat × AObj)) (H H' : Heap), id ∈ ws.map (·.1) → (writeAll H ws).at id = (writeAll H' ws).at id
 | [], _, _, h => by simp at h
 | (k, o) :: ws, H, H', h => by
  simp only [writeAll]
  by_cases hk : id = k
  ·exact writeAll_at_same id ws _ _ (by rw [Heap.at_setAt, Heap.at_setAt, if_pos hk, if_pos hk])
  ·simp only [List.map_cons, List.mem_cons, hk, false_or] at h
   exact writeAll_at_mem id ws _ _ h
abbrev WritesT (d : DEff) (x : Nat) : Prop := d.dst = some x
abbrev WritesH (d : DEff) (id : Nat) : Prop := id ∈ d.writes.map (·.1)
theorem applyD_H_same (d : DEff) (st st' : St) (id : Nat) (h : st.H.at id = st'.H.at id) : (applyD d st).H.at id = (applyD d st').H.at id := writeAll_at_same id d.writes _ _ h
theorem applyD_H_not (d : DEff) (st : St) (id : Nat) (h : ¬ WritesH d id) : (applyD d st).H.at id = st.H.at id := writeAll_at_not id d.writes _ h
theorem applyD_T_same (d : DEff) (st st' : St) (x : Nat) (h : st.T[x]? = st'.T[x]?) : (applyD d st).T[x]? = (applyD d st').T[x]? := by
 rw [applyD_T, applyD_T, h]
theorem stE_agree_T {L L' : Nat → Bool} (x : Nat) : ∀ (ds : List DEff) (i : Nat) (st st' : St), st.T[x]? = st'.T[x]? → (∀ k d, ds[k]? = some d → WritesT d x → L (i + k) = L' (i + k)) → (stE L i ds st).T[x]? = (stE L' i ds st').T[x]?
 | [], _, _, _, h, _ => h
 | d :: ds, i, st, st', h, hw => by
  simp only [stE]
  refine stE_agree_T x ds (i + 1) _ _ ?_ (fun k e hk he => by have := hw (k + 1) e (by simpa using hk) he; rwa [show i + (k + 1) = i + 1 + k by omega] at this)
  by_cases hd : WritesT d x
  ·have := hw 0 d rfl hd
   rw [Nat.add_zero] at this
   rw [← this]
   split
   ·exact applyD_T_same d _ _ x h
   ·exact h
  ·have e1 : ∀ s : St, (applyD d s).T[x]? = s.T[x]? := fun s => by rw [applyD_T, if_neg hd]
   split <;> split <;> simp [e1, h]
theorem stE_agree_H {L L' : Nat → Bool} (id : Nat) : ∀ (ds : List DEff) (i : Nat) (st st' : St), st.H.at id = st'.H.at id → (∀ k d, ds[k]? = some d → WritesH d id → L (i + k) = L' (i + k)) → (stE L i ds st).H.at id = (stE L' i ds st').H.at id
 | [], _, _, _, h, _ => h
 | d :: ds, i, st, st', h, hw => by
  simp only [stE]
  refine stE_agree_H id ds (i + 1) _ _ ?_ (fun k e hk he => by have := hw (k + 1) e (by simpa using hk) he; rwa [show i + (k + 1) = i + 1 + k by omega] at this)
  by_cases hd : WritesH d id
  ·have := hw 0 d rfl hd
   rw [Nat.add_zero] at this
   rw [← this]
   split
   ·exact applyD_H_same d _ _ id h
   ·exact h
  ·have e1 : ∀ s : St, (applyD d s).H.at id = s.H.at id := fun s => applyD_H_not d s id hd
   split <;> split <;> simp [e1, h]
theorem stE_insert_T {L L' : Nat → Bool} (x : Nat) : ∀ (ds : List DEff) (i k0 : Nat) (d : DEff) (st : St), ds[k0]? = some d → L (i + k0) = false → (∀ n, L' n = (L n || n == i + k0)) → (WritesT d x → ∀ k e, k0 < k → ds[k]? = some e → L (i + k) = true → ¬ WritesT e x) →
  (stE L' i ds st).T[x]? = (applyD d (stE L i ds st)).T[x]?
 | [], _, _, _, _, h, _, _, _ => by simp at h
 | e :: ds, i, 0, d, st, h, h0, hL, hw => by
  simp at h
  subst h
  simp only [stE]
  have h1 : L' i = true := by rw [hL]; simp
  have h2 : L i = false := h0
  rw [h1, h2]
  simp only [if_true, Bool.false_eq_true, if_false]
  have hag : ∀ k, L' (i + 1 + k) = L (i + 1 + k) := fun k => by
   rw [hL]
   have : ((i + 1 + k) == i + 0) = false := by simp; omega
   rw [this, Bool.or_false]
  by_cases hd : WritesT e x
  ·have hno : ∀ (M : Nat → Bool) (s : St), (∀ k, M (i + 1 + k) = L (i + 1 + k)) → (stE M (i + 1) ds s).T[x]? = s.T[x]? := by
    intro M s hM
    have := stE_agree_T (L := M) (L' := fun _ => false) x ds (i + 1) s s rfl (fun k e' hk he' => by
     rw [hM]
     cases hLk : L (i + 1 + k) with
     | false => rfl
     | true => exact absurd he' (hw hd (k + 1) e' (by omega) (by simpa using hk) (by rw [← hLk]; congr 1; omega)))
    rw [this]
    clear this
    have : ∀ (ds : List DEff) (i : Nat) (s : St), stE (fun _ => false) i ds s = s := by
     intro ds
     induction ds with
     | nil => intros; rfl
     | cons a l ih => intros; simp [stE, ih]
    rw [this]
   rw [hno L' _ hag, applyD_T, applyD_T, if_pos hd, if_pos hd, hno L st (fun _ => rfl)]
  ·rw [applyD_T, if_neg hd]
   refine stE_agree_T x ds (i + 1) _ _ (by rw [applyD_T, if_neg hd]) (fun k _ _ _ => hag k)
 | e :: ds, i, k0 + 1, d, st, h, h0, hL, hw => by
  simp only [stE]
  have h1 : L' i = L i := by
   rw [hL]
   have : (i == i + (k0 + 1)) = false := by simp
   rw [this, Bool.or_false]
  rw [h1]
  refine stE_insert_T x ds (i + 1) k0 d _ (by simpa using h) (by rw [← h0]; congr 1; omega) (fun n => by rw [hL]; congr 2; omega) (fun hd k e' hk hke hLk => hw hd (k + 1) e' (by omega) (by simpa using hke) (by rw [← hLk]; congr 1; omega))
theorem stE_none (ds : List DEff) : ∀ (i : Nat) (s : St), stE (fun _ => false) i ds s = s := by
 induction ds with
 | nil => intros; rfl
 | cons a l ih => intros; simp [stE, ih]
theorem stE_insert_H {L L' : Nat → Bool} (x : Nat) : ∀ (ds : List DEff) (i k0 : Nat) (d : DEff) (st : St), ds[k0]? = some d → L (i + k0) = false → (∀ n, L' n = (L n || n == i + k0)) → (WritesH d x → ∀ k e, k0 < k → ds[k]? = some e → L (i + k) = true → ¬ WritesH e x) →
  (stE L' i ds st).H.at x = (applyD d (stE L i ds st)).H.at x
 | [], _, _, _, _, h, _, _, _ => by simp at h
 | e :: ds, i, 0, d, st, h, h0, hL, hw => by
  simp at h
  subst h
  simp only [stE]
  have h1 : L' i = true := by rw [hL]; simp
  have h2 : L i = false := h0
  rw [h1, h2]
  simp only [if_true, Bool.false_eq_true, if_false]
  have hag : ∀ k, L' (i + 1 + k) = L (i + 1 + k) := fun k => by
   rw [hL]
   have : ((i + 1 + k) == i + 0) = false := by simp; omega
   rw [this, Bool.or_false]
  by_cases hd : WritesH e x
  ·have hno : (stE L' (i + 1) ds (applyD e st)).H.at x = (applyD e st).H.at x := by
    have := stE_agree_H (L := L') (L' := fun _ => false) x ds (i + 1) (applyD e st) (applyD e st) rfl (fun k e' hk he' => by
     rw [hag]
     cases hLk : L (i + 1 + k) with
     | false => rfl
     | true => exact absurd he' (hw hd (k + 1) e' (by omega) (by simpa using hk) (by rw [← hLk]; congr 1; omega)))
    rw [this, stE_none]
   rw [hno]
   exact writeAll_at_mem x e.writes _ _ hd
  ·rw [applyD_H_not _ _ _ hd]
   exact stE_agree_H x ds (i + 1) _ _ (applyD_H_not _ _ _ hd) (fun k _ _ _ => hag k)
 | e :: ds, i, k0 + 1, d, st, h, h0, hL, hw => by
  simp only [stE]
  have h1 : L' i = L i := by
   rw [hL]
   have : (i == i + (k0 + 1)) = false := by simp
   rw [this, Bool.or_false]
  rw [h1]
  refine stE_insert_H x ds (i + 1) k0 d _ (by simpa using h) (by rw [← h0]; congr 1; omega) (fun n => by rw [hL]; congr 2; omega) (fun hd k e' hk hke hLk => hw hd (k + 1) e' (by omega) (by simpa using hke) (by rw [← hLk]; congr 1; omega))
theorem stE_cond {L : Nat → Bool} {x j : Nat} {b : Bool} {v : AV} : ∀ (ds : List DEff) (i : Nat) (st : St), (stE L i ds st).T[x]? = some (.cond j b v) → st.T[x]? = some (.cond j b v) ∨ ∃ k d, ds[k]? = some d ∧ L (i + k) = true ∧ d.dst = some x ∧ d.val = .cond j b v
 | [], _, _, h => .inl h
 | d :: ds, i, st, h => by
  simp only [stE] at h
  rcases stE_cond ds (i + 1) _ h with h1 | ⟨k, e, h1, h2, h3, h4⟩
  ·split at h1
   ·rename_i hL
    rw [applyD_T] at h1
    split at h1
    ·rename_i hd
     refine .inr ⟨0, d, rfl, by simpa using hL, hd, ?_⟩
     cases hx : st.T[x]? with
     | none => simp [hx] at h1
     | some y => simpa [hx] using h1
    ·exact .inl h1
   ·exact .inl h1
  ·exact .inr ⟨k + 1, e, by simpa using h1, by rw [← h2]; congr 1; omega, h3, h4⟩
theorem maskOf_bit {acc : List Nat} {i : Nat} : ∀ {es : List Edge}, (maskOf acc es).testBit i = true → ∃ e ∈ es, Region.binds .any e = true ∧ (i = e.on ∨ (acc.getD e.on 0).testBit i = true)
 | [], h => by simp [maskOf] at h
 | e :: es, h => by
  simp only [maskOf] at h
  split at h
  ·rename_i hb
   rw [Nat.testBit_or, Nat.testBit_or] at h
   simp only [Bool.or_eq_true] at h
   rcases h with (h | h) | h
   ·rw [Nat.testBit_two_pow] at h
    exact ⟨e, by simp, hb, .inl (by simp at h; exact h.symm)⟩
   ·exact ⟨e, by simp, hb, .inr h⟩
   ·obtain ⟨e', h1, h2, h3⟩ := maskOf_bit h
    exact ⟨e', by simp [h1], h2, h3⟩
  ·obtain ⟨e', h1, h2, h3⟩ := maskOf_bit h
   exact ⟨e', by simp [h1], h2, h3⟩
theorem befs_get : ∀ (os : List Oper) (acc : List Nat), (∀ k, k < acc.length → (befs acc os)[k]? = acc[k]?) ∧ ∀ k o, os[k]? = some o → ∃ pre, (∀ m, m < acc.length + k → pre.getD m 0 = (befs acc os).getD m 0) ∧ (∀ m, acc.length + k ≤ m → pre.getD m 0 = 0) ∧ (befs acc os)[acc.length + k]? = some (maskOf pre o.after.toList)
 | [], acc => ⟨fun k _ => rfl, fun k o h => by simp at h⟩
 | o :: os, acc => by
  obtain ⟨h1, h2⟩ := befs_get os (acc ++ [maskOf acc o.after.toList])
  have e1 : ∀ k, k < acc.length → (befs acc (o :: os))[k]? = acc[k]? := fun k hk => by
   simp only [befs]
   rw [h1 k (by simp; omega), List.getElem?_append_left hk]
  refine ⟨e1, fun k o' ho => ?_⟩
  cases k with
  | zero =>
   simp at ho
   subst ho
   refine ⟨acc, fun m hm => ?_, fun m hm => ?_, ?_⟩
   ·simp only [Nat.add_zero] at hm
    rw [List.getD_eq_getElem?_getD, List.getD_eq_getElem?_getD, e1 m hm]
   ·simp only [Nat.add_zero] at hm
    rw [List.getD_eq_getElem?_getD, List.getElem?_eq_none hm]
    rfl
   ·simp only [befs, Nat.add_zero]
    rw [h1 acc.length (by simp), List.getElem?_append_right (Nat.le_refl _)]
    simp
  | succ k =>
   obtain ⟨pre, p1, p2, p3⟩ := h2 k o' (by simpa using ho)
   refine ⟨pre, fun m hm => ?_, fun m hm => ?_, ?_⟩
   ·exact p1 m (by simp; omega)
   ·exact p2 m (by simp; omega)
   ·simp only [befs]
    rw [← p3]
    congr 1
    simp
    omega
theorem bef_done {l : List Oper} {L : Nat → Bool} (hclosed : ∀ j o, l[j]? = some o → L j = true → ∀ e ∈ o.after.toList, Region.binds .any e = true → L e.on = true) :
  ∀ (j : Nat) (o : Oper) (i : Nat), l[j]? = some o → (∀ e ∈ o.after.toList, Region.binds .any e = true → L e.on = true) → ((befs [] l).getD j 0).testBit i = true → L i = true := by
 intro j
 induction j using Nat.strongRecOn with
 | _ j ih =>
  intro o i ho hready hb
  obtain ⟨pre, p1, p2, p3⟩ := (befs_get l []).2 j o ho
  simp only [List.length_nil, Nat.zero_add] at p1 p2 p3
  rw [List.getD_eq_getElem?_getD, p3] at hb
  simp only [Option.getD_some] at hb
  obtain ⟨e, he, hbind, hcase⟩ := maskOf_bit hb
  have hLe := hready e he hbind
  rcases hcase with rfl | hcase
  ·exact hLe
  ·by_cases hlt : e.on < j
   ·rw [p1 _ hlt] at hcase
    cases hoe : l[e.on]? with
    | none =>
     have : (befs [] l).getD e.on 0 = 0 := by
      have hge : l.length ≤ e.on := by
       rcases Nat.lt_or_ge e.on l.length with h1 | h1
       ·rw [List.getElem?_eq_getElem h1] at hoe
        cases hoe
       ·exact h1
      have := (List.getElem?_eq_some_iff.1 ho).1
      omega
     rw [this] at hcase
     simp at hcase
    | some oe => exact ih e.on hlt oe i hoe (hclosed e.on oe hoe hLe) hcase
   ·rw [p2 _ (by omega)] at hcase
    simp at hcase
theorem edgesBack_spec : ∀ {l : List Oper} {i : Nat}, edgesBack i l = true → ∀ j o, l[j]? = some o → ∀ e ∈ o.after.toList, Region.binds .any e = true → e.on < i + j
 | [], _, _, j, o, h => by simp at h
 | p :: l, i, hb, j, o, h => by
  simp only [edgesBack, Bool.and_eq_true] at hb
  intro e he hbind
  cases j with
  | zero =>
   simp at h
   subst h
   have := List.all_eq_true.1 hb.1 e he
   simp only [hbind, Bool.not_true, Bool.false_or, decide_eq_true_eq] at this
   omega
  | succ j =>
   have := edgesBack_spec hb.2 j o (by simpa using h) e he hbind
   omega
theorem apartFrom_spec {d : DEff} {i : Nat} : ∀ {ds : List DEff} {bs : List Nat} {j : Nat}, apartFrom d i j bs ds = true → ∀ k e, ds[k]? = some e → (bs.getD k 0).testBit i = true ∨ apartD d e = true
 | [], _, _, _, k, e, h => by simp at h
 | x :: ds, [], _, hb, k, e, h => by simp [apartFrom] at hb
 | x :: ds, b :: bs, j, hb, k, e, h => by
  simp only [apartFrom, Bool.and_eq_true, Bool.or_eq_true] at hb
  cases k with
  | zero => simp at h; subst h; simpa using hb.1
  | succ k => simpa using apartFrom_spec hb.2 k e (by simpa using h)
theorem allApart_spec : ∀ {ds : List DEff} {bs : List Nat} {i : Nat}, allApart i bs ds = true → ∀ p q d e, p < q → ds[p]? = some d → ds[q]? = some e → (bs.getD q 0).testBit (i + p) = true ∨ apartD d e = true
 | [], _, _, _, p, q, d, e, _, h, _ => by simp at h
 | x :: ds, [], _, hb, p, q, d, e, _, h, _ => by simp [allApart] at hb
 | x :: ds, b :: bs, i, hb, p, q, d, e, hpq, h1, h2 => by
  simp only [allApart, Bool.and_eq_true] at hb
  obtain ⟨q, rfl⟩ : ∃ r, q = r + 1 := ⟨q - 1, by omega⟩
  cases p with
  | zero =>
   simp at h1
   subst h1
   simpa using apartFrom_spec hb.1 q e (by simpa using h2)
  | succ p =>
   have := allApart_spec hb.2 p q d e (by omega) (by simpa using h1) (by simpa using h2)
   rw [show i + 1 + p = i + (p + 1) by omega] at this
   simpa using this
theorem sizeOp_pos (o : Oper) : 0 < sizeOp o := by
 unfold sizeOp
 split
 ·split <;> decide
 ·decide
theorem ownOp_off {o : Oper} : ∀ (os : List Oper) (j k m : Nat), os[j]? = some o → offOp os j ≤ m → m < offOp os j + sizeOp o → ownOp os m k = k + j
 | [], j, k, m, h, _, _ => by simp at h
 | x :: os, 0, k, m, h, h1, h2 => by
  simp only [List.getElem?_cons_zero, Option.some.injEq] at h
  subst h
  simp only [offOp, Nat.zero_add] at h2
  unfold ownOp
  rw [if_pos h2]
  rfl
 | x :: os, j + 1, k, m, h, h1, h2 => by
  simp only [List.getElem?_cons_succ] at h
  simp only [offOp] at h1 h2
  unfold ownOp
  rw [if_neg (by omega), ownOp_off os j (k + 1) (m - sizeOp x) h (by omega) (by omega)]
  omega
theorem eachOk_spec {base : Nat} {os : List Oper} : ∀ {ds : List DEff} {bs : List Nat} {i : Nat}, eachOk base os i bs ds = true → ∀ j d, ds[j]? = some d →
  (∀ w ∈ d.writes, w.1 < base ∨ ownOp os (w.1 - base) 0 = i + j ∨ (bs.getD j 0).testBit (ownOp os (w.1 - base) 0) = true) ∧
  (∀ gj jt, d.guard = some (gj, jt) → (bs.getD j 0).testBit gj = true ∧ ∀ j' b v, d.val = .cond j' b v → jt = some j') ∧
  (d.guard = none → ∀ j' b v, d.val ≠ .cond j' b v)
 | [], _, _, _, j, d, h => by simp at h
 | x :: ds, [], _, hb, j, d, h => by simp [eachOk] at hb
 | x :: ds, b :: bs, i, hb, j, d, h => by
  simp only [eachOk, Bool.and_eq_true] at hb
  obtain ⟨⟨h1, h2⟩, h3⟩ := hb
  cases j with
  | zero =>
   simp at h
   subst h
   refine ⟨fun w hw => ?_, fun gj jt hg => ?_, fun hg j' bb v hv => ?_⟩
   ·have := List.all_eq_true.1 h1 w hw
    simp only [Bool.or_eq_true, decide_eq_true_eq, beq_iff_eq] at this
    rcases this with (h4 | h4) | h4
    ·exact .inl h4
    ·exact .inr (.inl h4)
    ·exact .inr (.inr h4)
   ·rw [hg] at h2
    simp only [Bool.and_eq_true] at h2
    refine ⟨h2.1, fun j' bb v hv => ?_⟩
    have h5 := h2.2
    rw [hv] at h5
    simpa using h5
   ·rw [hg, hv] at h2
    simp at h2
  | succ j =>
   have := eachOk_spec h3 j d (by simpa using h)
   rw [show i + 1 + j = i + (j + 1) by omega] at this
   simpa using this
theorem nodup_dst : ∀ {ds : List DEff}, nodupB (ds.flatMap fun d => d.dst.toList) = true → ∀ (i j : Nat) (d e : DEff) (x : Nat), ds[i]? = some d → ds[j]? = some e → d.dst = some x → e.dst = some x → i = j
 | [], _, i, _, _, _, _, h, _, _, _ => by simp at h
 | y :: ds, hn, i, j, d, e, x, h1, h2, h3, h4 => by
  have mem : ∀ (k : Nat) (z : DEff), ds[k]? = some z → z.dst = some x → x ∈ ds.flatMap fun d => d.dst.toList := fun k z hz hx => List.mem_flatMap.2 ⟨z, List.mem_of_getElem? hz, by simp [hx]⟩
  have tail : nodupB (ds.flatMap fun d => d.dst.toList) = true := by
   cases hy : y.dst with
   | none => simpa [hy] using hn
   | some v =>
    simp only [List.flatMap_cons, hy, Option.toList_some, List.singleton_append, nodupB, Bool.and_eq_true] at hn
    exact hn.2
  have head : y.dst = some x → x ∉ ds.flatMap fun d => d.dst.toList := by
   intro hy
   simp only [List.flatMap_cons, hy, Option.toList_some, List.singleton_append, nodupB, Bool.and_eq_true, Bool.not_eq_true', List.contains_eq_mem, decide_eq_false_iff_not] at hn
   exact hn.1
  cases i with
  | zero =>
   simp at h1
   subst h1
   cases j with
   | zero => rfl
   | succ j => exact absurd (mem j e (by simpa using h2) h4) (head h3)
  | succ i =>
   cases j with
   | zero =>
    simp at h2
    subst h2
    exact absurd (mem i d (by simpa using h1) h3) (head h4)
   | succ j => rw [nodup_dst tail i j d e x (by simpa using h1) (by simpa using h2) h3 h4]
theorem disjoint_spec {a b : List Nat} (h : disjoint a b = true) : ∀ x ∈ a, x ∉ b := by
 intro x hx
 have := List.all_eq_true.1 h x hx
 simpa using this
theorem apartD_spec {d e : DEff} (h : apartD d e = true) : (∀ x, d.dst = some x → e.dst ≠ some x ∧ x ∉ e.names) ∧ (∀ x, e.dst = some x → x ∉ d.names) ∧ (∀ x, WritesH d x → x ∉ e.reads ∧ ¬ WritesH e x) ∧ (∀ x, WritesH e x → x ∉ d.reads) := by
 simp only [apartD, Bool.and_eq_true] at h
 obtain ⟨⟨⟨h1, h2⟩, h3⟩, h4⟩ := h
 refine ⟨fun x hx => ?_, fun x hx => ?_, fun x hx => ?_, fun x hx => ?_⟩
 ·have := disjoint_spec h1 x (by simp [hx])
  simp only [List.mem_append, not_or, Option.mem_toList] at this
  exact this
 ·exact disjoint_spec h2 x (by simp [hx])
 ·have := disjoint_spec h3 x hx
  simp only [List.mem_append, not_or] at this
  exact this
 ·exact disjoint_spec h4 x hx
theorem stE_lt : ∀ (ds : List DEff) (i j : Nat) (st : St), stE (fun n => decide (n < i + j)) i ds st = stE (fun _ => true) i (ds.take j) st
 | [], _, _, _ => by simp [stE]
 | d :: ds, i, 0, st => by
  have : ∀ (ds : List DEff) (k : Nat) (s : St), i ≤ k → stE (fun n => decide (n < i + 0)) k ds s = s := by
   intro ds
   induction ds with
   | nil => intros; rfl
   | cons a l ih =>
    intro k s hk
    simp only [stE]
    rw [if_neg (by simp; omega)]
    exact ih (k + 1) s (by omega)
  rw [this _ _ _ (Nat.le_refl _)]
  simp [stE]
 | d :: ds, i, j + 1, st => by
  simp only [stE, List.take_succ_cons, if_true]
  rw [if_pos (by simp)]
  have := stE_lt ds (i + 1) j (applyD d st)
  rw [← this]
  congr 1
  funext n
  congr 1
  apply propext
  omega
theorem stE_snoc : ∀ (ds : List DEff) (i : Nat) (d : DEff) (st : St), stE (fun _ => true) i (ds ++ [d]) st = applyD d (stE (fun _ => true) i ds st)
 | [], _, _, _ => rfl
 | e :: ds, i, d, st => by
  simp only [List.cons_append, stE]
  exact stE_snoc ds (i + 1) d _
def IsEff (P : Program) (S : FuncId → Option Summ) (ops : Array Oper) (fr : Nat) (o : Oper) (st : St) (e : Eff) : Prop :=
 drawEff P S ops fr o st = some e ∨ ∃ n z ok id es, lookAt P st.T st.H o = some (n, z, ok, id, es) ∧ e ∈ lookEffs n z ok id es true
theorem lookBrs_spec {n : Int} {z : AV} {ok : Bool} {id : Nat} {K : Eff → Prop} : ∀ {es : List (Int × AV)} {g : Bool}, g = true → lookBrs n z ok id K es g → ∃ e ∈ lookEffs n z ok id es g, e.obl ≠ some false ∧ K e
 | [], g, hg, h => ⟨_, by simp [lookEffs], by simp [hg], h⟩
 | (k, v) :: es, g, hg, h => by
  simp only [lookBrs, br_iff] at h
  cases hk : ieq n k with
  | true => exact ⟨_, by unfold lookEffs; exact List.mem_cons_self, by simp [hg, hk, band], h.1 hk⟩
  | false =>
   obtain ⟨e, h1, h2, h3⟩ := lookBrs_spec (es := es) (g := band g (bnot (ieq n k))) (by simp [hg, hk, band, bnot]) (h.2 hk)
   exact ⟨e, by unfold lookEffs; exact List.mem_cons_of_mem _ h1, h2, h3⟩
theorem lookEffs_reads {n : Int} {z : AV} {ok : Bool} {id : Nat} : ∀ {es : List (Int × AV)} {g : Bool} {e : Eff}, e ∈ lookEffs n z ok id es g → e.reads = [id] ∧ e.writes = []
 | [], g, e, h => by
  simp only [lookEffs, List.mem_singleton] at h
  subst h
  exact ⟨rfl, rfl⟩
 | (k, v) :: es, g, e, h => by
  unfold lookEffs at h
  rcases List.mem_cons.1 h with h | h
  ·subst h
   exact ⟨rfl, rfl⟩
  ·exact lookEffs_reads h
theorem lookEffs_br {n : Int} {z : AV} {ok : Bool} {id : Nat} : ∀ {es : List (Int × AV)} {g : Bool} {e : Eff}, e ∈ lookEffs n z ok id es g → e.obl ≠ some false → g = true ∧ lookupBr n z ok (fun v => v = e.val) es
 | [], g, e, h, ho => by
  simp only [lookEffs, List.mem_singleton] at h
  subst h
  have hg : g = true := by
   cases g
   ·exact absurd rfl ho
   ·rfl
  exact ⟨hg, rfl⟩
 | (k, v) :: es, g, e, h, ho => by
  unfold lookEffs at h
  rcases List.mem_cons.1 h with h | h
  ·subst h
   have hb : band g (ieq n k) = true := by
    cases hx : band g (ieq n k) with
    | true => rfl
    | false => exact absurd (congrArg some hx) ho
   have hg : g = true ∧ ieq n k = true := by
    cases g <;> simp [band] at hb ⊢
    exact hb
   refine ⟨hg.1, ?_⟩
   simp only [lookupBr, br_iff]
   exact ⟨fun _ => rfl, fun hf => by rw [hg.2] at hf; cases hf⟩
  ·obtain ⟨h1, h2⟩ := lookEffs_br h ho
   have hg : g = true ∧ ieq n k = false := by
    cases g <;> cases hk : ieq n k <;> simp [band, bnot, hk] at h1 ⊢
   refine ⟨hg.1, ?_⟩
   simp only [lookupBr, br_iff]
   exact ⟨fun hf => (by rw [hg.2] at hf; cases hf), fun _ => h2⟩
structure Drawn (P : Program) (S : FuncId → Option Summ) (ops : Array Oper) (base : Nat) (st0 : St) (ds : List DEff) : Prop where
 len : ds.length = ops.toList.length
 each : ∀ j o, ops.toList[j]? = some o → ∃ e, ds[j]? = some (deffOf ops (stE (fun n => decide (n < 0 + j)) 0 ds st0).T o e) ∧ IsEff P S ops (base + offOp ops.toList j) o (stE (fun n => decide (n < 0 + j)) 0 ds st0) e ∧ e.obl ≠ some false
 ok : drawOk base ops.toList ds = true
theorem drawOps_spec {P : Program} {S : FuncId → Option Summ} {ops : Array Oper} {base : Nat} {st0 : St} {Q : St → Prop} : ∀ (rest done : List Oper) (acc : List DEff) (st : St), ops.toList = done ++ rest → acc.length = done.length → st = stE (fun _ => true) 0 acc st0 →
  (∀ j o, done[j]? = some o → ∃ e, acc[j]? = some (deffOf ops (stE (fun _ => true) 0 (acc.take j) st0).T o e) ∧ IsEff P S ops (base + offOp ops.toList j) o (stE (fun _ => true) 0 (acc.take j) st0) e ∧ e.obl ≠ some false) →
  drawOps P S ops base done.length rest st acc Q → ∃ ds, Drawn P S ops base st0 ds ∧ Q (stE (fun _ => true) 0 ds st0)
 | [], done, acc, st, hops, hl, hst, heach, h => by
  simp only [drawOps, asrt_iff] at h
  refine ⟨acc, ⟨by rw [hops, hl]; simp, fun j o hj => ?_, h.1⟩, hst ▸ h.2⟩
  rw [hops, List.append_nil] at hj
  obtain ⟨e, h1, h2, h3⟩ := heach j o hj
  exact ⟨e, by rw [stE_lt]; exact h1, by rw [stE_lt]; exact h2, h3⟩
 | o :: rest, done, acc, st, hops, hl, hst, heach, h => by
  have hstep : ∃ e, IsEff P S ops (base + offOp ops.toList done.length) o st e ∧ e.obl ≠ some false ∧ drawOps P S ops base (done.length + 1) rest (applyD (deffOf ops st.T o e) st) (acc ++ [deffOf ops st.T o e]) Q := by
   simp only [drawOps] at h
   split at h
   ·rename_i e he
    obtain ⟨h1, h2⟩ := must_iff.1 h
    exact ⟨e, .inl he, h1, h2⟩
   ·split at h
    ·rename_i n z ok id es hl
     obtain ⟨e, g1, g2, g3⟩ := lookBrs_spec rfl h
     exact ⟨e, .inr ⟨n, z, ok, id, es, hl, g1⟩, g2, g3⟩
    ·exact h.elim
  obtain ⟨e, he, h1, h2⟩ := hstep
  have h2' : drawOps P S ops base (done ++ [o]).length rest (applyD (deffOf ops st.T o e) st) (acc ++ [deffOf ops st.T o e]) Q := by simpa using h2
  refine drawOps_spec rest (done ++ [o]) (acc ++ [deffOf ops st.T o e]) _ (by rw [hops]; simp) (by simp [hl]) (by rw [stE_snoc, hst]) ?_ h2'
  intro j o' hj
  by_cases hlt : j < done.length
  ·rw [List.getElem?_append_left hlt] at hj
   obtain ⟨e', g1, g2, g3⟩ := heach j o' hj
   rw [List.take_append_of_le_length (by omega)]
   exact ⟨e', by rw [List.getElem?_append_left (by omega)]; exact g1, g2, g3⟩
  ·have hj' : j = done.length := by
    have := (List.getElem?_eq_some_iff.1 hj).1
    simp at this
    omega
   subst hj'
   rw [List.getElem?_append_right (Nat.le_refl _)] at hj
   simp at hj
   subst hj
   rw [List.take_append_of_le_length (by omega), List.take_of_length_le (by omega), ← hst]
   exact ⟨e, by rw [List.getElem?_append_right (by omega)]; simp [hl], he, h1⟩
section
variable {P : Program} {w0 : Base} {S : FuncId → Option Summ}
theorem HeapOK.congr {H H' : Heap} {c : Cx} (h : HeapOK w0 H c) (he : ∀ id, H'.at id = H.at id) : HeapOK w0 H' c := by
 have hlive : ∀ id p, Live H' c id p → Live H c id p := by
  rintro id p ⟨o, h1, h2, h3⟩
  exact ⟨o, by rw [← he]; exact h1, h2, h3⟩
 refine ⟨fun id o ho => h.obj id o (by rw [← he]; exact ho), fun id id' p p' h1 h2 => h.apart id id' p p' (hlive _ _ h1) (hlive _ _ h2), fun id p hp => h.out id p (hlive _ _ hp), fun id hid => h.free id (by rw [← he]; exact hid), h.stable, h.kept, h.grown, h.born⟩
theorem guardB_same {T T' : List AV} : ∀ (n jt : Nat) (want : Bool), (∀ x ∈ condNames T n jt, T'[x]? = T[x]?) → guardB T' n jt want = guardB T n jt want
 | 0, _, _, _ => rfl
 | n + 1, jt, want, h => by
  have h1 : T'.getD jt .top = T.getD jt .top := by
   rw [List.getD_eq_getElem?_getD, List.getD_eq_getElem?_getD, h jt (by simp [condNames])]
  unfold guardB
  rw [h1]
  split
  ·rfl
  ·rename_i j b p hb
   rw [guardB_same n j b (fun x hx => h x (by unfold condNames; rw [hb]; exact List.mem_cons_of_mem _ hx))]
  ·rfl
theorem names_eq {ops : Array Oper} {o : Oper} {T T' : List AV} (h : ∀ x ∈ namesOf ops T o, T'[x]? = T[x]?) : TSame T T' o.op.operands.toList ∧ ∀ j want jt, o.guard = some (j, want) → guardTmp ops j = some jt → guardB T' 6 jt want = guardB T 6 jt want := by
 refine ⟨fun i hi => ?_, fun j want jt hg hj => ?_⟩
 ·have : i ∈ namesOf ops T o := by
   unfold namesOf
   refine List.mem_append.2 (.inl ?_)
   rw [List.mem_filterMap]
   exact ⟨.tmp i, hi, rfl⟩
  rw [List.getD_eq_getElem?_getD, List.getD_eq_getElem?_getD, h i this]
 ·refine guardB_same 6 jt want fun x hx => h x ?_
  unfold namesOf
  refine List.mem_append.2 (.inr ?_)
  simp only [hg, hj]
  exact hx
theorem drawEff_same (hL : ∀ k s, S k = some s → SummLocal s) {ops : Array Oper} {fr : Nat} {o : Oper} {st st' : St} {e : Eff} (he : drawEff P S ops fr o st = some e) (hT : ∀ x ∈ namesOf ops st.T o, st'.T[x]? = st.T[x]?) (hH : ∀ id ∈ e.reads, st'.H.at id = st.H.at id) : drawEff P S ops fr o st' = some e := by
 obtain ⟨h1, h2⟩ := names_eq hT
 unfold drawEff at he ⊢
 split at he
 ·exact opEff_same hL h1 he hH
 ·rename_i j want hg
  split at he
  ·cases he
  ·rename_i jt hj
   rw [h2 j want jt hg hj]
   split at he
   ·rename_i q hq
    split at he
    ·rename_i obl v rd hop
     cases he
     rw [opEff_same hL h1 hop hH]
    ·rename_i obl v rd w ws hop
     cases he
     rw [opEff_same hL h1 hop hH]
    ·cases he
   ·cases he
theorem lookAt_same {o : Oper} {T T' : List AV} {H H' : Heap} {n : Int} {z : AV} {ok : Bool} {id : Nat} {es : List (Int × AV)} (h : lookAt P T H o = some (n, z, ok, id, es)) (hT : TSame T T' o.op.operands.toList) (hH : H'.at id = H.at id) : lookAt P T' H' o = some (n, z, ok, id, es) := by
 unfold lookAt at h ⊢
 split at h
 ·cases h
 ·rename_i hg
  split at h
  ·rename_i t m k ok' hop
   rw [hop] at hT
   have e1 := opd_same (P := P) hT (x := m) (by simp [Op.operands]) none 0
   have e2 := opd_same (P := P) hT (x := k) (by simp [Op.operands]) none 3
   rw [e1, e2]
   split at h
   ·rename_i kt e id' n' hu hm hk
    split at h
    ·rename_i es' z' hkt hid hz
     cases h
     simp only [hH, hid, hkt, hz]
    ·cases h
   ·cases h
  ·cases h
theorem isEff_same (hL : ∀ k s, S k = some s → SummLocal s) {ops : Array Oper} {fr : Nat} {o : Oper} {st st' : St} {e : Eff} (he : IsEff P S ops fr o st e) (hT : ∀ x ∈ namesOf ops st.T o, st'.T[x]? = st.T[x]?) (hH : ∀ id ∈ e.reads, st'.H.at id = st.H.at id) : IsEff P S ops fr o st' e := by
 rcases he with he | ⟨n, z, ok, id, es, h1, h2⟩
 ·exact .inl (drawEff_same hL he hT hH)
 ·refine .inr ⟨n, z, ok, id, es, lookAt_same h1 (names_eq hT).1 (hH id ?_), h2⟩
  rw [(lookEffs_reads h2).1]
  simp
theorem lookAt_guard {o : Oper} {T : List AV} {H : Heap} {x : Int × AV × Bool × Nat × List (Int × AV)} (h : lookAt P T H o = some x) : o.guard = none := by
 unfold lookAt at h
 split at h
 ·cases h
 ·rename_i hg; exact hg
theorem look_sound {o : Oper} {T : List AV} {H : Heap} {c : Cx} {a : Act} (h : At P w0 T H c a.tmps none) {n : Int} {z : AV} {ok : Bool} {id : Nat} {es : List (Int × AV)} {e : Eff} (hl : lookAt P T H o = some (n, z, ok, id, es)) (he : e ∈ lookEffs n z ok id es true) (ho : e.obl ≠ some false) :
  OpGoes P o a w0 (writeAll H e.writes) c e.val := by
 intro next Q hn
 obtain ⟨_, hb⟩ := lookEffs_br he ho
 rw [(lookEffs_reads he).2] at hn
 unfold lookAt at hl
 split at hl
 ·cases hl
 ·split at hl
  ·rename_i t m k ok' hop
   have hs : lookupOp P T H none t m k ok' (fun v H' => v = e.val ∧ H' = H) := by
    unfold lookupOp
    split at hl
    ·rename_i kt e' id' n' hu hm hk
     split at hl
     ·rename_i es' z' hkt hid hz
      cases hl
      simp only [hid, hkt, hz]
      simpa using hb
     ·cases hl
    ·cases hl
   refine lookup_sound h hop hs ?_
   rintro v c' av H' g1 g2 g3 ⟨rfl, rfl⟩
   exact hn v c' g1 g2 g3
  ·cases hl
theorem TOK.putSet {T : List AV} {c : Cx} {a : Act} (h : TOK c T a.tmps) {d : Option Nat} {x : AV} {v : Value} (hno : ∀ (y j : Nat) (b : Bool) (w : AV), T[y]? = some (.cond j b w) → d ≠ some j) (hx : ∀ i, d = some i → i < a.tmps.size → RelT c (a.put d v).tmps x v) :
  TOK c (d.elim T fun i => T.set i x) (a.put d v).tmps := by
 cases d with
 | none => exact h
 | some d =>
  show TOK c (T.set d x) (a.put (some d) v).tmps
  refine ⟨by simp [Act.put, h.1], fun i y hi => ?_⟩
  simp only [Act.put, List.getElem?_set] at hi ⊢
  by_cases hd : d = i
  ·subst hd
   simp only [if_true] at hi
   split at hi
   ·rename_i hlt
    cases hi
    have hlt' : d < a.tmps.size := by rw [← h.1]; exact hlt
    exact ⟨v, by simp [hlt'], hx d rfl hlt'⟩
   ·cases hi
  ·rw [if_neg hd] at hi
   obtain ⟨u, hu, hr⟩ := h.2 i y hi
   refine ⟨u, by rw [Array.getElem?_setIfInBounds_ne (by omega), hu], ?_⟩
   cases y with
   | cond j b w =>
    have hne := hno i j b w hi
    simp only [RelT]
    rw [Array.getElem?_setIfInBounds_ne (by rintro rfl; exact hne rfl)]
    exact hr
   | _ => exact hr
theorem tok_applyD {ops : Array Oper} {T0 : List AV} {o : Oper} {e : Eff} {st : St} {c : Cx} {a : Act} (h : TOK c st.T a.tmps) {v : Value} (hno : ∀ (y j : Nat) (b : Bool) (w : AV), st.T[y]? = some (.cond j b w) → o.dst ≠ some j) (hx : ∀ i, o.dst = some i → i < a.tmps.size → RelT c (a.put o.dst v).tmps e.val v) :
  TOK c (applyD (deffOf ops T0 o e) st).T (a.put o.dst v).tmps := by
 have h1 := TOK.putSet h hno hx
 have h2 : (applyD (deffOf ops T0 o e) st).T = o.dst.elim st.T fun i => st.T.set i e.val := by
  unfold applyD deffOf
  cases o.dst <;> rfl
 rw [h2]
 exact h1
theorem countP_lt {p q : Nat → Bool} {j : Nat} : ∀ {l : List Nat}, j ∈ l → (∀ i ∈ l, q i = true → p i = true) → p j = true → q j = false → l.countP q < l.countP p
 | [], h, _, _, _ => by simp at h
 | x :: l, h, hm, hp, hq => by
  have hmono := List.countP_mono_left (l := l) (p := q) (q := p) (fun i hi => hm i (by simp [hi]))
  rw [List.countP_cons, List.countP_cons]
  by_cases hx : x = j
  ·subst hx
   rw [hp, hq]
   simp
   omega
  ·have hj : j ∈ l := by
    rcases List.mem_cons.1 h with h1 | h1
    ·exact absurd h1.symm hx
    ·exact h1
   have ih := countP_lt hj (fun i hi => hm i (by simp [hi])) hp hq
   have hxx := hm x (by simp)
   cases hqx : q x
   ·simp; omega
   ·simp [hxx hqx]; omega
theorem draw_sound (hS : ∀ k s, S k = some s → SummOK P k s) (hL : ∀ k s, S k = some s → SummLocal s) {ops : Array Oper} {st0 : St} {ds : List DEff} (hd : Drawn P S ops st0.H.length st0 ds) (hT0 : ∀ (x j : Nat) (b : Bool) (v : AV), st0.T[x]? ≠ some (.cond j b v))
  {QQ : Exit → Act → World → Prop} {c0 : Cx} (hn : ∀ c a, StOK w0 (stE (fun _ => true) 0 ds st0) c a → c0.le c → QQ .normal a c.w) :
  ∀ (fuel : Nat) (listed : Array Bool) (a : Act) (c : Cx), listed.size = ops.size → (List.range ops.size).countP (fun i => !listed.getD i true) ≤ fuel →
   (∀ j o, ops.toList[j]? = some o → listed.getD j false = true → ∀ e ∈ o.after.toList, Region.binds .any e = true → listed.getD e.on false = true) →
   StOK w0 (stE (fun i => listed.getD i false) 0 ds st0) c a → c0.le c → wpAny P .any ops QQ fuel listed a c.w := by
 have hok := hd.ok
 simp only [drawOk, Bool.and_eq_true] at hok
 obtain ⟨⟨⟨ok1, ok2⟩, ok3⟩, ok4⟩ := hok
 have hlenD : ds.length = ops.size := by rw [hd.len]; simp
 intro fuel
 induction fuel with
 | zero =>
  intro listed a c hsz hcnt hclosed hst hle
  have hall : ∀ i, i < ops.size → listed.getD i true = true := by
   intro i hi
   have := List.countP_eq_zero.1 (Nat.le_zero.1 hcnt) i (List.mem_range.2 hi)
   simpa using this
  have hready : Region.ready .any ops listed = [] := by
   unfold Region.ready
   rw [List.filter_eq_nil_iff]
   intro i hi
   rw [hall i (List.mem_range.1 hi)]
   simp
  refine ⟨hready, hn c a ?_ hle⟩
  have hLt : ∀ i, i < ops.size → listed.getD i false = true := by
   intro i hi
   have := hall i hi
   rw [Array.getD_eq_getD_getElem?, Array.getElem?_eq_getElem (by omega)] at this ⊢
   exact this
  have hTe : (stE (fun _ => true) 0 ds st0).T = (stE (fun i => listed.getD i false) 0 ds st0).T := by
   apply List.ext_getElem?
   intro x
   refine stE_agree_T x ds 0 st0 st0 rfl (fun k d hk _ => ?_)
   have := (List.getElem?_eq_some_iff.1 hk).1
   rw [Nat.zero_add, hLt k (by omega)]
  refine ⟨hst.heap.congr fun id => ?_, hTe ▸ hst.tok, hst.plain⟩
  refine stE_agree_H id ds 0 st0 st0 rfl (fun k d hk _ => ?_)
  have := (List.getElem?_eq_some_iff.1 hk).1
  rw [Nat.zero_add, hLt k (by omega)]
 | succ fuel ih =>
  intro listed a c hsz hcnt hclosed hst hle
  have hLf : ∀ i, i < ops.size → listed.getD i false = listed.getD i true := by
   intro i hi
   rw [Array.getD_eq_getD_getElem?, Array.getD_eq_getD_getElem?, Array.getElem?_eq_getElem (by omega)]
   rfl
  refine ⟨fun hnil => ?_, fun j hj => ?_⟩
  ·have hall : ∀ i, i < ops.size → listed.getD i true = true := by
    intro i
    induction i using Nat.strongRecOn with
    | _ i ihs =>
     intro hi
     cases hLi : listed.getD i true with
     | true => rfl
     | false =>
      have hmem : i ∈ Region.ready .any ops listed := by
       unfold Region.ready
       rw [List.mem_filter]
       refine ⟨List.mem_range.2 hi, ?_⟩
       rw [hLi, Array.getElem?_eq_getElem hi]
       simp only [Bool.not_false, Option.map_some, Option.getD_some, Bool.true_and]
       rw [← Array.all_toList, List.all_eq_true]
       intro e he
       cases hb : Region.binds .any e with
       | false => rfl
       | true =>
        have hlt := edgesBack_spec ok1 i ops[i] (by simp [hi]) e he hb
        have h1 := ihs e.on (by omega) (by omega)
        rw [← hLf e.on (by omega)] at h1
        rw [h1]
        rfl
      rw [hnil] at hmem
      cases hmem
   have hzero : (List.range ops.size).countP (fun i => !listed.getD i true) = 0 := by
    rw [List.countP_eq_zero]
    intro i hi
    rw [hall i (List.mem_range.1 hi)]
    simp
   have := (ih listed a c hsz (by omega) hclosed hst hle)
   cases fuel with
   | zero => exact this.2
   | succ f => exact this.1 hnil
  ·unfold Region.ready at hj
   rw [List.mem_filter] at hj
   obtain ⟨hjr, hjc⟩ := hj
   have hjn := List.mem_range.1 hjr
   rw [Array.getElem?_eq_getElem hjn] at hjc
   simp only [Option.map_some, Option.getD_some, Bool.and_eq_true, Bool.not_eq_true'] at hjc
   obtain ⟨hjl, hje⟩ := hjc
   have hoj' : ops[j]? = some ops[j] := Array.getElem?_eq_getElem hjn
   generalize ops[j] = o at hje hoj'
   have hoj : ops.toList[j]? = some o := by rw [Array.getElem?_toList]; exact hoj'
   have hLj : listed.getD j false = false := by rw [hLf j hjn, hjl]
   have hedges : ∀ e ∈ o.after.toList, Region.binds .any e = true → listed.getD e.on false = true := by
    intro e he hb
    rw [← Array.all_toList, List.all_eq_true] at hje
    have := hje e he
    simpa [hb] using this
   have hbef : ∀ i, ((befs [] ops.toList).getD j 0).testBit i = true → listed.getD i false = true := fun i hi => bef_done (L := fun i => listed.getD i false) hclosed j o i hoj hedges hi
   obtain ⟨e, hdj, heff, hobl⟩ := hd.each j o hoj
   have hAfter : ∀ (k : Nat) (dk : DEff), ds[k]? = some dk → listed.getD k false = true → ((befs [] ops.toList).getD k 0).testBit j = true → False := by
    intro k dk hk hLk hb
    have hkl : k < ops.toList.length := by rw [← hd.len]; exact (List.getElem?_eq_some_iff.1 hk).1
    have hok := List.getElem?_eq_getElem hkl
    have := bef_done (L := fun i => listed.getD i false) hclosed k _ j hok (fun e he hb' => hclosed k _ hok hLk e he hb') hb
    rw [show listed.getD j false = true from this] at hLj
    cases hLj
   have hA : ∀ (k : Nat) (dk : DEff), k < j → ds[k]? = some dk → listed.getD k false = false → apartD dk (deffOf ops (stE (fun n => decide (n < 0 + j)) 0 ds st0).T o e) = true := by
    intro k dk hkj hk hLk
    rcases allApart_spec ok2 k j dk _ hkj hk hdj with hb | hb
    ·rw [Nat.zero_add] at hb
     rw [hbef k hb] at hLk
     cases hLk
    ·exact hb
   have hB : ∀ (k : Nat) (dk : DEff), j < k → ds[k]? = some dk → listed.getD k false = true → apartD (deffOf ops (stE (fun n => decide (n < 0 + j)) 0 ds st0).T o e) dk = true := by
    intro k dk hkj hk hLk
    rcases allApart_spec ok2 j k _ dk hkj hdj hk with hb | hb
    ·rw [Nat.zero_add] at hb
     exact (hAfter k dk hk hLk hb).elim
    ·exact hb
   have hTn : ∀ x ∈ namesOf ops (stE (fun n => decide (n < 0 + j)) 0 ds st0).T o, (stE (fun i => listed.getD i false) 0 ds st0).T[x]? = (stE (fun n => decide (n < 0 + j)) 0 ds st0).T[x]? := by
    intro x hx
    refine stE_agree_T x ds 0 st0 st0 rfl (fun k dk hk hw => ?_)
    rw [Nat.zero_add, Nat.zero_add]
    rcases Nat.lt_trichotomy k j with hkj | hkj | hkj
    ·cases hLk : listed.getD k false with
     | true => simp [hkj]
     | false => exact absurd hx ((apartD_spec (hA k dk hkj hk hLk)).1 x hw).2
    ·subst hkj
     rw [hLj]
     simp
    ·cases hLk : listed.getD k false with
     | false => simp; omega
     | true => exact absurd hx ((apartD_spec (hB k dk hkj hk hLk)).2.1 x hw)
   have hHr : ∀ id ∈ e.reads, (stE (fun i => listed.getD i false) 0 ds st0).H.at id = (stE (fun n => decide (n < 0 + j)) 0 ds st0).H.at id := by
    intro id hid
    refine stE_agree_H id ds 0 st0 st0 rfl (fun k dk hk hw => ?_)
    rw [Nat.zero_add, Nat.zero_add]
    rcases Nat.lt_trichotomy k j with hkj | hkj | hkj
    ·cases hLk : listed.getD k false with
     | true => simp [hkj]
     | false => exact absurd hid ((apartD_spec (hA k dk hkj hk hLk)).2.2.1 id hw).1
    ·subst hkj
     rw [hLj]
     simp
    ·cases hLk : listed.getD k false with
     | false => simp; omega
     | true => exact absurd hid ((apartD_spec (hB k dk hkj hk hLk)).2.2.2 id hw)
   have heff' := isEff_same hL heff hTn hHr
   have hfr1 : ∀ id, st0.H.length + offOp ops.toList j ≤ id → id < st0.H.length + offOp ops.toList j + sizeOp o → (stE (fun i => listed.getD i false) 0 ds st0).H.at id = none := by
    intro id h1 h2
    have := stE_agree_H (L := fun i => listed.getD i false) (L' := fun _ => false) id ds 0 st0 st0 rfl (fun k dk hk hw => by
     rw [Nat.zero_add]
     cases hLk : listed.getD k false with
     | false => rfl
     | true =>
      obtain ⟨w, hw1, hw2⟩ := List.mem_map.1 hw
      have hdiv : ownOp ops.toList (w.1 - st0.H.length) 0 = j := by
       rw [hw2]
       have := ownOp_off ops.toList j 0 (id - st0.H.length) hoj (by omega) (by omega)
       simpa using this
      rcases (eachOk_spec ok3 k dk hk).1 w hw1 with h3 | h3 | h3
      ·omega
      ·rw [hdiv, Nat.zero_add] at h3
       subst h3
       rw [hLj] at hLk
       cases hLk
      ·rw [hdiv] at h3
       exact (hAfter k dk hk hLk h3).elim)
    rw [this, stE_none]
    unfold Heap.at
    rw [List.getElem?_eq_none (by omega)]
   have hf0 := hfr1 (st0.H.length + offOp ops.toList j) (Nat.le_refl _) (by have := sizeOp_pos o; omega)
   have hfresh : sizeOp o = 128 → Fresh (stE (fun i => listed.getD i false) 0 ds st0).H (st0.H.length + offOp ops.toList j) := fun hs id h1 h2 => hfr1 id h1 (by omega)
   let L' : Nat → Bool := fun i => (listed.setIfInBounds j true).getD i false
   have hL' : ∀ n, L' n = (listed.getD n false || n == 0 + j) := by
    intro n
    simp only [L', Array.getD_eq_getD_getElem?, Nat.zero_add]
    by_cases hnj : n = j
    ·subst hnj
     rw [Array.getElem?_setIfInBounds_self_of_lt (by omega)]
     simp
    ·rw [Array.getElem?_setIfInBounds_ne (Ne.symm hnj)]
     simp [hnj]
   have after : ∀ (v : Value) (c' : Cx), c.le c' → HeapOK w0 (writeAll (stE (fun i => listed.getD i false) 0 ds st0).H e.writes) c' → (∀ i, o.dst = some i → i < a.tmps.size → RelT c' (a.put o.dst v).tmps e.val v) → wpAny P .any ops QQ fuel (listed.setIfInBounds j true) (a.put o.dst v) c'.w := by
    intro v c' hcc hh hr
    refine ih (listed.setIfInBounds j true) (a.put o.dst v) c' (by simp [hsz]) ?_ ?_ ?_ (hle.trans hcc)
    ·have hlt := countP_lt (p := fun i => !listed.getD i true) (q := fun i => !(listed.setIfInBounds j true).getD i true) (j := j) (l := List.range ops.size) (List.mem_range.2 hjn) (fun i hi hq => ?_) (by simp [hjl]) (by
      rw [Array.getD_eq_getD_getElem?, Array.getElem?_setIfInBounds_self_of_lt (by omega)]
      rfl)
     ·omega
     ·by_cases hij : i = j
      ·subst hij
       rw [hjl]
       rfl
      ·rw [Array.getD_eq_getD_getElem?, Array.getElem?_setIfInBounds_ne (Ne.symm hij)] at hq
       rw [Array.getD_eq_getD_getElem?]
       exact hq
    ·intro k ok hk hLk e' he' hb'
     have hmono : ∀ n, listed.getD n false = true → (listed.setIfInBounds j true).getD n false = true := by
      intro n hn'
      have := hL' n
      simp only [L'] at this
      rw [this, hn']
      rfl
     have hcase := hL' k
     simp only [L'] at hcase
     rw [hLk] at hcase
     cases hLk' : listed.getD k false with
     | true => exact hmono _ (hclosed k ok hk hLk' e' he' hb')
     | false =>
      rw [hLk'] at hcase
      have hkj : k = j := by simpa using hcase.symm
      subst hkj
      rw [hoj] at hk
      cases hk
      exact hmono _ (hedges e' he' hb')
    ·have hT : (stE L' 0 ds st0).T = (applyD (deffOf ops (stE (fun n => decide (n < 0 + j)) 0 ds st0).T o e) (stE (fun i => listed.getD i false) 0 ds st0)).T := by
      apply List.ext_getElem?
      intro x
      refine stE_insert_T x ds 0 j _ st0 hdj (by rw [Nat.zero_add]; exact hLj) hL' (fun hw k dk hkj hk hLk hw' => ?_)
      rw [Nat.zero_add] at hLk
      exact ((apartD_spec (hB k dk hkj hk hLk)).1 x hw).1 hw'
     refine ⟨hh.congr fun id => ?_, ?_, by rw [put_defers]; exact hst.plain⟩
     ·refine stE_insert_H id ds 0 j _ st0 hdj (by rw [Nat.zero_add]; exact hLj) hL' (fun hw k dk hkj hk hLk hw' => ?_)
      rw [Nat.zero_add] at hLk
      exact ((apartD_spec (hB k dk hkj hk hLk)).2.2.1 id hw).2 hw'
     ·show TOK c' (stE L' 0 ds st0).T _
      rw [hT]
      refine tok_applyD (hst.tok.mono hcc) ?_ hr
      intro y j' b w hy hdst
      rcases stE_cond ds 0 st0 hy with h1 | ⟨k, dk, h1, h2, h3, h4⟩
      ·exact hT0 y j' b w h1
      ·rw [Nat.zero_add] at h2
       obtain ⟨_, g2, g3⟩ := eachOk_spec ok3 k dk h1
       cases hg : dk.guard with
       | none => exact g3 hg j' b w h4
       | some gg =>
        obtain ⟨gk, jt⟩ := gg
        obtain ⟨g4, g5⟩ := g2 gk jt hg
        have hjt := g5 j' b w h4
        have hkl : k < ops.toList.length := by rw [← hd.len]; exact (List.getElem?_eq_some_iff.1 h1).1
        obtain ⟨ek, hek, _, _⟩ := hd.each k _ (List.getElem?_eq_getElem hkl)
        rw [h1] at hek
        cases hek
        have hjt' : guardTmp ops gk = some j' := by
         simp only [deffOf] at hg
         cases hgo : (ops.toList[k]).guard with
         | none => rw [hgo] at hg; cases hg
         | some q =>
          rw [hgo] at hg
          simp only [Option.map_some, Option.some.injEq, Prod.mk.injEq] at hg
          obtain ⟨q1, q2⟩ := hg
          rw [← q1, q2, hjt]
        unfold guardTmp at hjt'
        cases hog : ops[gk]? with
        | none => rw [hog] at hjt'; cases hjt'
        | some og =>
         rw [hog] at hjt'
         simp only [Option.bind_some] at hjt'
         obtain ⟨eg, heg, _, _⟩ := hd.each gk og (by rw [← hog]; simp)
         have hgj : gk = j := nodup_dst ok4 gk j _ _ j' heg hdj hjt' hdst
         subst hgj
         exact hAfter k _ h1 h2 g4
   unfold wpOp
   rw [hoj']
   simp only
   rcases heff' with heff' | ⟨ln, lz, lok, lid, les, hl1, hl2⟩
   case inr =>
    have hg := lookAt_guard hl1
    rw [if_pos (by simp [Region.wanted, hg])]
    refine .inl (look_sound ⟨hst.heap, hst.tok, by simp⟩ hl1 hl2 hobl _ _ ?_)
    intro v c' h1 h2 h3
    exact after v c' h1 h2 (fun _ _ _ => relT_of_rel h3)
   unfold drawEff at heff'
   cases hg : o.guard with
   | none =>
    rw [hg] at heff'
    simp only at heff'
    rw [if_pos (by simp [Region.wanted, hg])]
    refine .inl (opEff_sound hS (g := none) ⟨hst.heap, hst.tok, by simp⟩ hf0 hfresh heff' hobl _ _ ?_)
    intro v c' h1 h2 h3
    exact after v c' h1 h2 (fun _ _ _ => relT_of_rel h3)
   | some gw =>
    obtain ⟨gj, want⟩ := gw
    rw [hg] at heff'
    simp only at heff'
    split at heff'
    ·cases heff'
    ·rename_i jt hjt
     split at heff'
     ·rename_i q hq
      have hsp := guardB_spec hst.tok 6 jt want q hq
      have hwi := wanted_iff (a := a) hg hjt
      have hne : ∀ i, o.dst = some i → i ≠ jt := by
       intro i hi
       have hgs := (eachOk_spec ok3 j _ hdj).2.1 gj (guardTmp ops gj) (by simp [deffOf, hg])
       have hLg := hbef gj hgs.1
       rintro rfl
       unfold guardTmp at hjt
       cases hog : ops[gj]? with
       | none => rw [hog] at hjt; cases hjt
       | some og =>
        rw [hog] at hjt
        simp only [Option.bind_some] at hjt
        obtain ⟨eg, heg, _, _⟩ := hd.each gj og (by rw [← hog]; simp)
        have hgj : gj = j := nodup_dst ok4 gj j _ _ i heg hdj hjt hi
        subst hgj
        rw [hLj] at hLg
        cases hLg
      split at heff'
      ·rename_i obl v rd hop
       cases heff'
       cases hqb : q with
       | true =>
        subst hqb
        have hbt := hsp.2 rfl
        rw [if_pos (hwi.2 hbt)]
        refine .inl (opEff_sound hS (g := some (jt, want)) ⟨hst.heap, hst.tok, by rintro j' b' e; cases e; exact hbt⟩ hf0 hfresh hop ?_ _ _ ?_)
        ·intro hf
         apply hobl
         simp only at hf
         rw [hf]
         simp [bimp]
        ·intro u c' h3 h4 h5
         refine after u c' h3 h4 (fun i hi hlt => ⟨fun _ => h5, fun hn => absurd ?_ hn⟩)
         rw [hi]
         simp only [Act.put]
         rw [Array.getElem?_setIfInBounds_ne (hne i hi), hbt]
       | false =>
        subst hqb
        have hbt : a.tmps[jt]? ≠ some (.bool want) := fun e => by simpa using hsp.1 e
        rw [if_neg (fun e => hbt (hwi.1 e))]
        refine after undef c (Cx.le.refl c) hst.heap ?_
        intro i hi hlt
        refine ⟨fun hjb => absurd ?_ hbt, fun _ => rfl⟩
        rw [hi] at hjb
        simp only [Act.put] at hjb
        rw [Array.getElem?_setIfInBounds_ne (hne i hi)] at hjb
        exact hjb
      ·rename_i obl v rd w ws hop
       cases heff'
       have hq1 : q = true ∧ obl ≠ some false := by
        cases obl with
        | none => exact ⟨by simpa using hobl, by simp⟩
        | some x =>
         cases q
         ·exact absurd rfl hobl
         ·cases x
          ·exact absurd rfl hobl
          ·exact ⟨rfl, by simp⟩
       obtain ⟨hqb, hob⟩ := hq1
       subst hqb
       have hbt := hsp.2 rfl
       rw [if_pos (hwi.2 hbt)]
       refine .inl (opEff_sound hS (g := some (jt, want)) ⟨hst.heap, hst.tok, by rintro j' b' e; cases e; exact hbt⟩ hf0 hfresh hop hob _ _ ?_)
       intro u c' h3 h4 h5
       refine after u c' h3 h4 (fun i hi hlt => ⟨fun _ => h5, fun hn => absurd ?_ hn⟩)
       rw [hi]
       simp only [Act.put]
       rw [Array.getElem?_setIfInBounds_ne (hne i hi), hbt]
      ·cases heff'
     ·cases heff'
end
end Go.Own
end
section
namespace Go.Own
open Go
def exOf : Ex → Exit
 | .normal => .normal
 | .exit i => if i < 1000000 then .exit i else .goto (i - 1000000)
 | .ret => .ret
theorem exOf_exit {i : Nat} (h : i < 1000000) : exOf (.exit i) = .exit i := if_pos h
theorem exOf_then {K : Act → World → Prop} {QQ : Exit → Act → World → Prop} (i : Nat) (a : Act) (w : World) (h : QQ (exOf (.exit i)) a w) : Exit.then K QQ (exOf (.exit i)) a w := by
 unfold exOf at h ⊢
 by_cases hi : i < 1000000
 ·simp only [hi, if_true] at h ⊢
  exact h
 ·simp only [hi, if_false] at h ⊢
  exact h
structure Cx.leF (fl : Nat) (c c' : Cx) : Prop where
 π : ∀ id, id < fl → ∀ p, c.π id = some p → c'.π id = some p
 S : ∀ b, c.S b → c'.S b
 w : ∀ b, c.S b → c'.w.heap[b]? = c.w.heap[b]?
 size : c.w.heap.size ≤ c'.w.heap.size
 rest : Rest c.w c'.w
theorem Cx.le.F {fl : Nat} {c c' : Cx} (h : c.le c') : c.leF fl c' := ⟨fun id _ p => h.π id p, h.S, h.w, h.size, h.rest⟩
theorem Cx.leF.trans {fl : Nat} {a b c : Cx} (h : a.leF fl b) (h' : b.leF fl c) : a.leF fl c :=
 ⟨fun id hid p x => h'.π id hid p (h.π id hid p x), fun b x => h'.S b (h.S b x), fun b x => (h'.w b (h.S b x)).trans (h.w b x), Nat.le_trans h.size h'.size, h'.rest.1.trans h.rest.1, h'.rest.2.1.trans h.rest.2.1, h'.rest.2.2.trans h.rest.2.2⟩
def Does (P : Program) (w0 : Base) (fl : Nat) (c : Code) (st : St) (Q : Ex → St → Prop) : Prop :=
 ∀ (c0 : Cx) (a : Act) (QQ : Exit → Act → World → Prop), StOK w0 st c0 a → (∀ e st' c' a', StOK w0 st' c' a' → c0.leF fl c' → Q e st' → QQ (exOf e) a' c'.w) → c.wp P QQ a c0.w
def LoopOK (P : Program) (c : Code) (s : St → (Ex → St → Prop) → Prop) : Prop := ∀ w0 st Q, s st Q → Does P w0 0 (.loop c) st Q
def LoopFr (P : Program) (c : Code) (s : St → (Ex → St → Prop) → Prop) : Prop := ∀ w0 fl st Q, s st Q → Does P w0 fl (.loop c) st Q
def LoopHas (P : Program) (fl : Nat) (c : Code) : LoopS → Prop
 | .unroll _ => True
 | .summ s => fl = 0 ∧ LoopOK P c s
 | .frame s => LoopFr P c s
def LoopIs (P : Program) (c : Code) : LoopS → Prop
 | .unroll _ => True
 | .summ s => LoopOK P c s
 | .frame s => LoopFr P c s
def LoopsOK (P : Program) (fl : Nat) (L : Nat → Option LoopS) (c : Code) (i : Nat) : Prop := ∀ p ∈ loopsOf c i, ∀ x, L p.1 = some x → LoopHas P fl p.2 x
section
variable {P : Program} {w0 : Base} {S : FuncId → Option Summ} {callf : CallF}
theorem TOK.clear {c : Cx} {T : List AV} {tmps : Array Value} (h : TOK c T tmps) : TOK c (clearConds T) tmps := by
 refine ⟨by simp [clearConds, h.1], fun i y hi => ?_⟩
 simp only [clearConds, List.getElem?_map] at hi
 cases hT : T[i]? with
 | none => simp [hT] at hi
 | some z =>
  simp only [hT, Option.map_some, Option.some.injEq] at hi
  obtain ⟨u, hu, hr⟩ := h.2 i z hT
  refine ⟨u, hu, ?_⟩
  subst hi
  cases z with
  | cond => simp [RelT, Rel]
  | _ => exact hr
theorem clear_none {T : List AV} (x j : Nat) (b : Bool) (v : AV) : (clearConds T)[x]? ≠ some (.cond j b v) := by
 simp only [clearConds, List.getElem?_map]
 cases hT : T[x]? with
 | none => simp
 | some z => cases z <;> simp
theorem StOK.at {st : St} {c : Cx} {a : Act} (h : StOK w0 st c a) : At P w0 st.T st.H c a.tmps none := ⟨h.heap, h.tok, by simp⟩
theorem cond_tmp {c : Cx} {st : St} {a : Act} (h : StOK w0 st c a) {x : Operand} {b : Bool} (hx : opd P st.T none 0 x = .bool b) : a.eval x = .bool b ∧ ∀ j, x = .tmp j → a.tmps[j]? = some (.bool b) := by
 constructor
 ·exact rel_bool (hx ▸ opd_rel (P := P) h.at 0 x)
 ·rintro j rfl
  refine tok_bool h.tok ?_
  simp only [opd, plainUnder] at hx
  split at hx
  ·cases hx
  ·exact hx
theorem runCode_sound (hm : P.follows .mixedOrders = true) (hS : ∀ k s, S k = some s → SummOK P k s) (hL : ∀ k s, S k = some s → SummLocal s) (hc : CallfOK P callf) {L : Nat → Option LoopS} {fl : Nat} :
  ∀ (c : Code) (i : Nat) (st : St) (Q : Ex → St → Prop), LoopsOK P fl L c i → runCode P S callf L c i st Q → Does P w0 fl c st Q
 | .skip, _, st, Q, _, h => fun c0 a QQ hst hn => wp_skip (hn .normal st c0 a hst (Cx.le.refl _).F h)
 | .label _, _, st, Q, _, h => fun c0 a QQ hst hn => wp_label (hn .normal st c0 a hst (Cx.le.refl _).F h)
 | .exit id, _, st, Q, _, h => by
  intro c0 a QQ hst hn
  simp only [runCode] at h
  split at h
  ·rename_i hi
   refine wp_exit ?_
   have := hn (.exit id) st c0 a hst (Cx.le.refl _).F h
   rw [exOf_exit hi] at this
   exact this
  ·exact h.elim
 | .goto l, _, st, Q, _, h => by
  intro c0 a QQ hst hn
  simp only [runCode] at h
  refine wp_goto ?_
  have := hn (.exit (1000000 + l)) st c0 a hst (Cx.le.refl _).F h
  have e : exOf (.exit (1000000 + l)) = .goto l := by
   show (if 1000000 + l < 1000000 then Exit.exit (1000000 + l) else Exit.goto (1000000 + l - 1000000)) = Exit.goto l
   rw [if_neg (by omega), Nat.add_sub_cancel_left]
  rw [e] at this
  exact this
 | .ret, _, st, Q, _, h => fun c0 a QQ hst hn => wp_ret (hn .ret st c0 a hst (Cx.le.refl _).F h)
 | .region _ ops draw, _, st, Q, _, h => by
  intro c0 a QQ hst hn
  simp only [runCode] at h
  cases draw with
  | false =>
   simp only [Bool.false_eq_true, if_false] at h
   exact wp_region_list (runOps_sound hS hc _ st c0 a h hst fun st' c' a' h1 h2 h3 => hn .normal st' c' a' h1 h2.F h3)
  | true =>
   simp only [if_true] at h
   obtain ⟨ds, hd, hq⟩ := drawOps_spec (ops := ops) ops.toList [] [] ⟨clearConds st.T, st.H⟩ (by simp) rfl rfl (by simp) h
   refine wp_region_any hm ?_
   obtain ⟨hh, hle⟩ := hst.heap.same { c0.w with drawn := c0.w.drawn + 1 } rfl ⟨rfl, rfl, rfl⟩
   refine draw_sound (w0 := w0) hS hL (st0 := ⟨clearConds st.T, st.H⟩) (c0 := c0.with { c0.w with drawn := c0.w.drawn + 1 }) hd clear_none ?_ ops.size (Array.replicate ops.size false) a (c0.with { c0.w with drawn := c0.w.drawn + 1 }) (by simp) ?_ ?_ ?_ (Cx.le.refl _)
   ·intro c a' h1 h2
    exact hn .normal _ c a' h1 (hle.trans h2).F hq
   ·exact Nat.le_trans (List.countP_le_length) (by simp)
   ·intro j o hj hl
    rw [Array.getD_eq_getD_getElem?] at hl
    by_cases hlt : j < ops.size
    ·rw [Array.getElem?_replicate, if_pos hlt] at hl
     simp at hl
    ·rw [Array.getElem?_replicate, if_neg hlt] at hl
     simp at hl
   ·have : (fun i => (Array.replicate ops.size false).getD i false) = fun _ => false := by
     funext i
     rw [Array.getD_eq_getD_getElem?, Array.getElem?_replicate]
     split <;> rfl
    rw [this, stE_none]
    exact ⟨hh, hst.tok.clear.mono hle, hst.plain⟩
 | .seq x y, i, st, Q, hl, h => by
  intro c0 a QQ hst hn
  simp only [runCode] at h
  refine wp_seq ?_
  refine runCode_sound hm hS hL hc x i st _ (fun p hp => hl p (by simp [loopsOf, hp])) h c0 a _ hst ?_
  intro e st' c' a' h1 h2 h3
  cases e with
  | normal =>
   refine runCode_sound hm hS hL hc y i st' _ (fun p hp => hl p (by simp [loopsOf, hp])) h3 c' a' _ h1 ?_
   intro e st'' c'' a'' h4 h5 h6
   exact hn e st'' c'' a'' h4 (h2.trans h5) h6
  | exit id => exact exOf_then id _ _ (hn _ st' c' a' h1 h2 h3)
  | ret => exact hn _ st' c' a' h1 h2 h3
 | .cond cd x y, i, st, Q, hl, h => by
  intro c0 a QQ hst hn
  simp only [runCode] at h
  split at h
  ·rename_i b hb
   obtain ⟨h1, h2⟩ := cond_tmp hst hb
   have lx : LoopsOK P fl L x i := fun p hp => hl p (by simp [loopsOf, hp])
   have ly : LoopsOK P fl L y i := fun p hp => hl p (by simp [loopsOf, hp])
   split at h
   ·rename_i j
    obtain ⟨h3, h4⟩ := br_iff.1 h
    have hj := h2 j rfl
    refine wp_cond_split h1 ?_ ?_
    ·intro e
     subst e
     exact runCode_sound hm hS hL hc x i _ _ lx (h3 rfl) c0 a QQ ⟨hst.heap, hst.tok.refine hj, hst.plain⟩ hn
    ·intro e
     subst e
     exact runCode_sound hm hS hL hc y i _ _ ly (h4 rfl) c0 a QQ ⟨hst.heap, hst.tok.refine hj, hst.plain⟩ hn
   ·obtain ⟨h3, h4⟩ := br_iff.1 h
    exact wp_cond_split h1 (fun e => runCode_sound hm hS hL hc x i _ _ lx (h3 e) c0 a QQ hst hn) (fun e => runCode_sound hm hS hL hc y i _ _ ly (h4 e) c0 a QQ hst hn)
  ·exact h.elim
 | .block id x, i, st, Q, hl, h => by
  intro c0 a QQ hst hn
  simp only [runCode] at h
  split at h
  case isFalse => exact h.elim
  rename_i hid
  refine wp_block ?_
  refine runCode_sound hm hS hL hc x id st _ (fun p hp => hl p (by simp [loopsOf, hp])) h c0 a _ hst ?_
  intro e st' c' a' h1 h2 h3
  cases e with
  | normal => exact hn _ st' c' a' h1 h2 h3
  | exit id' =>
   by_cases hi' : id' < 1000000
   case neg =>
    have e : exOf (.exit id') = .goto (id' - 1000000) := if_neg hi'
    simp only at h3
    rw [if_neg (by omega)] at h3
    have := hn _ st' c' a' h1 h2 h3
    rw [e] at this ⊢
    exact this
   have e0 := exOf_exit hi'
   rw [e0]
   show Exit.inBlock id QQ (.exit id') a' c'.w
   simp only [Exit.inBlock]
   simp only at h3
   split
   ·rename_i e
    rw [if_pos e] at h3
    exact hn _ st' c' a' h1 h2 h3
   ·rename_i e
    rw [if_neg e] at h3
    have := hn _ st' c' a' h1 h2 h3
    rw [e0] at this
    exact this
  | ret => exact hn _ st' c' a' h1 h2 h3
 | .loop x, i, st, Q, hl, h => by
  simp only [runCode] at h
  split at h
  ·rename_i n hn
   intro c0 a QQ hst hQ
   refine wp_loop_rounds n ?_
   have body : ∀ (st : St) (Q : Ex → St → Prop), runCode P S callf L x i st Q → Does P w0 fl x st Q := fun st Q h => runCode_sound hm hS hL hc x i st Q (fun p hp => hl p (by simp [loopsOf, hp])) h
   clear hn
   induction n generalizing st c0 a with
   | zero => exact h.elim
   | succ n ih =>
    simp only [iter] at h
    rw [rounds_succ]
    refine body st _ h c0 a _ hst ?_
    intro e st' c' a' h1 h2 h3
    cases e with
    | normal =>
     refine ih st' h3 c' a' h1 ?_
     intro e st'' c'' a'' h4 h5 h6
     exact hQ e st'' c'' a'' h4 (h2.trans h5) h6
    | exit id => exact exOf_then id _ _ (hQ _ st' c' a' h1 h2 h3)
    | ret => exact hQ _ st' c' a' h1 h2 h3
  ·rename_i s hs
   obtain ⟨hfl, hok⟩ := hl (i, x) (by simp [loopsOf]) (.summ s) hs
   subst hfl
   exact hok w0 st Q h
  ·rename_i s hs
   exact hl (i, x) (by simp [loopsOf]) (.frame s) hs w0 fl st Q h
  ·exact h.elim
 | .rangeFunc _ _ _ _, _, _, _, _, h => h.elim
 | .scope _, _, _, _, _, h => h.elim
def scopeQ (P : Program) (rest : Code) (Q : Exit → Act → World → Prop) : Nat → Exit → Act → World → Prop
 | n, .goto l, a, w => match l, n with
  | 0, n + 1 => rest.wp P (scopeQ P rest Q n) a w
  | _, _ => False
 | _, e, a, w => Q e a w
theorem wp_scope_rounds {P : Program} {y rest : Code} {Q : Exit → Act → World → Prop} (hl : findLabel y 0 = some rest) {n : Nat} {a : Act} {w : World} (h : y.wp P (scopeQ P rest Q n) a w) : (Code.scope y).wp P Q a w := by
 intro b k cs
 have key : ∀ (n : Nat) (c : Code) (a : Act) (w : World), c.wp P (scopeQ P rest Q n) a w →
   ∃ e a' w', Q e a' w' ∧ Arrives P (lone (b.at a (.code c :: .inScope y :: k)) cs w) b k cs e a' w' := by
  intro n
  induction n with
  | zero =>
   intro c a w h
   obtain ⟨e, a₁, w₁, hq, harr⟩ := h b (.inScope y :: k) cs
   cases e with
   | normal => exact ⟨.normal, a₁, w₁, hq, Steps.trans harr (.one (step_lone_go (by simp [stepG, stepG.exec, Frame.at])))⟩
   | exit id => exact ⟨.exit id, a₁, w₁, hq, fun k' hk => harr k' (by simpa [exitTo] using hk)⟩
   | goto l => cases l <;> exact hq.elim
   | ret => exact ⟨.ret, a₁, w₁, hq, harr⟩
   | panic chain => exact ⟨.panic chain, a₁, w₁, hq, harr⟩
   | outgrown => exact ⟨.outgrown, a₁, w₁, hq, harr⟩
  | succ n ih =>
   intro c a w h
   obtain ⟨e, a₁, w₁, hq, harr⟩ := h b (.inScope y :: k) cs
   cases e with
   | normal => exact ⟨.normal, a₁, w₁, hq, Steps.trans harr (.one (step_lone_go (by simp [stepG, stepG.exec, Frame.at])))⟩
   | exit id => exact ⟨.exit id, a₁, w₁, hq, fun k' hk => harr k' (by simpa [exitTo] using hk)⟩
   | goto l =>
    cases l with
    | zero =>
     obtain ⟨e₂, a₂, w₂, hq₂, harr₂⟩ := ih rest a₁ w₁ hq
     refine ⟨e₂, a₂, w₂, hq₂, .of_steps (harr _ ?_) harr₂⟩
     simp [gotoIn, hl]
    | succ l => exact hq.elim
   | ret => exact ⟨.ret, a₁, w₁, hq, harr⟩
   | panic chain => exact ⟨.panic chain, a₁, w₁, hq, harr⟩
   | outgrown => exact ⟨.outgrown, a₁, w₁, hq, harr⟩
 obtain ⟨e, a', w', hq, harr⟩ := key n y a w h
 exact ⟨e, a', w', hq, .of_steps (.one (step_lone_go (by simp [stepG, stepG.exec, Frame.at]))) harr⟩
theorem runBody_sound (hm : P.follows .mixedOrders = true) (hS : ∀ k s, S k = some s → SummOK P k s) (hL : ∀ k s, S k = some s → SummLocal s) (hc : CallfOK P callf) {L : Nat → Option LoopS} {fl : Nat} (c : Code) (i : Nat) (st : St) (Q : Ex → St → Prop) (hl : LoopsOK P fl L c i) (h : runBody P S callf L c i st Q) : Does P w0 fl c st Q := by
 unfold runBody at h
 split at h
 ·rename_i x y
  split at h
  ·rename_i rest n hr hn
   split at h
   ·rename_i hemp
    simp only [Bool.and_eq_true, List.isEmpty_iff] at hemp
    have hly : LoopsOK P fl L y i := fun p hp => by rw [hemp.1] at hp; cases hp
    have hlr : LoopsOK P fl L rest i := fun p hp => by rw [hemp.2] at hp; cases hp
    intro c0 a QQ hst hQ
    refine wp_seq ?_
    refine runCode_sound hm hS hL hc x i st _ (fun p hp => hl p (by simp [loopsOf, hp])) h c0 a _ hst ?_
    intro e st' c' a' h1 h2 h3
    cases e with
    | normal =>
     refine wp_scope_rounds hr (n := n) ?_
     have key : ∀ (n : Nat) (e : Ex) (st' : St) (c' : Cx) (a' : Act), StOK w0 st' c' a' → c0.leF fl c' → scopeRun (fun st Q => runCode P S callf L rest i st Q) n e st' Q → scopeQ P rest QQ n (exOf e) a' c'.w := by
      intro n
      induction n with
      | zero =>
       intro e st' c' a' k1 k2 k3
       cases e with
       | normal => exact hQ .normal st' c' a' k1 k2 k3
       | ret => exact hQ .ret st' c' a' k1 k2 k3
       | exit id =>
        simp only [scopeRun] at k3
        split at k3
        ·rename_i hi
         have := hQ (.exit id) st' c' a' k1 k2 k3
         rw [exOf_exit hi] at this ⊢
         exact this
        ·split at k3 <;> exact k3.elim
      | succ n ih =>
       intro e st' c' a' k1 k2 k3
       cases e with
       | normal => exact hQ .normal st' c' a' k1 k2 k3
       | ret => exact hQ .ret st' c' a' k1 k2 k3
       | exit id =>
        simp only [scopeRun] at k3
        split at k3
        ·rename_i hi
         have := hQ (.exit id) st' c' a' k1 k2 k3
         rw [exOf_exit hi] at this ⊢
         exact this
        ·split at k3
         ·rename_i hi
          subst hi
          show rest.wp P (scopeQ P rest QQ n) a' c'.w
          refine runCode_sound hm hS hL hc rest i st' _ hlr k3 c' a' _ k1 ?_
          intro e'' st'' c'' a'' g1 g2 g3
          exact ih e'' st'' c'' a'' g1 (k2.trans g2) g3
         ·exact k3.elim
     refine runCode_sound hm hS hL hc y i st' _ hly h3 c' a' _ h1 ?_
     intro e'' st'' c'' a'' g1 g2 g3
     exact key n e'' st'' c'' a'' g1 (h2.trans g2) g3
    | exit id => exact exOf_then id _ _ (hQ _ st' c' a' h1 h2 h3)
    | ret => exact hQ _ st' c' a' h1 h2 h3
   ·exact h.elim
  ·exact h.elim
 ·exact runCode_sound hm hS hL hc c i st Q hl h
end
section
variable {P : Program} {w0 : Base} {S : FuncId → Option Summ} {callf : CallF}
def readR (tmps : Array Value) : ResultVar → Sem Value
 | .tmp t => pure (tmps.getD t undef)
 | .cell x t => do loadVar t (← asAddr (tmps.getD x undef))
def oneV : List Value → Value
 | [v] => v
 | vs => .tuple vs.toArray
theorem results_sound {st : St} {c : Cx} {a : Act} (h : StOK w0 st c a) : ∀ (rs : List ResultVar) (Q : List AV → Prop), resultsOf P st rs Q →
  ∃ avs vs, Q avs ∧ RelL c avs vs ∧ (rs.mapM (readR a.tmps)).run P c.w = .ok vs c.w
 | [], Q, hq => ⟨[], [], hq, by simp [RelL], rfl⟩
 | .tmp t :: rs, Q, hq => by
  simp only [resultsOf] at hq
  obtain ⟨avs, vs, h1, h2, h3⟩ := results_sound h rs _ hq
  refine ⟨_, a.tmps.getD t undef :: vs, h1, ⟨opd_rel (P := P) (w0 := w0) h.at 0 (.tmp t), h2⟩, ?_⟩
  simp only [List.mapM_cons, readR, Sem.run_bind, Sem.run_pure, Result.andThen_ok]
  rw [h3]
  rfl
 | .cell x t :: rs, Q, hq => by
  simp only [resultsOf] at hq
  split at hq
  ·rename_i n hs
   split at hq
   ·rename_i b cs rd hx
    split at hq
    ·rename_i v hw
     obtain ⟨hb, hq⟩ := must_iff.1 hq
     obtain ⟨avs, vs, h1, h2, h3⟩ := results_sound h rs _ hq
     obtain ⟨ad, us, hv, _, hl, hr, hc⟩ := readCells_rel h.heap hx hb (opd_rel (P := P) h.at 0 (.tmp x))
     have e1 : isAggT P t = false → n = 1 := fun hA => by have := wrap_one hw hA; have := hr.length; omega
     refine ⟨_, valOf P t us :: vs, h1, ⟨wrap_rel hw hr, h2⟩, ?_⟩
     have hv' : a.tmps.getD x undef = .pointer (some ad) := hv
     have e2 : (readR a.tmps (.cell x t)).run P c.w = .ok (valOf P t us) c.w := by
      simp only [readR, hv', asAddr, Sem.run_bind, Sem.run_pure, Result.andThen_ok, run_loadVar hs hl e1 hc]
     simp only [List.mapM_cons, Sem.run_bind, e2, h3, Sem.run_pure, Result.andThen_ok]
    ·exact hq.elim
   ·exact hq.elim
  ·exact hq.elim
theorem run_results {fn : Func} {tmps : Array Value} {w : World} {vs : List Value} (h : (fn.results.toList.mapM (readR tmps)).run P w = .ok vs w) : (results fn tmps).run P w = .ok (oneV vs) w := by
 have e : results fn tmps = (do
  let vs ← fn.results.mapM (readR tmps)
  pure (if h : vs.size = 1 then vs[0] else .tuple vs)) := rfl
 rw [e, Array.mapM_eq_mapM_toList]
 simp only [Sem.run_bind, map_eq_pure_bind, Sem.run_pure, h, Result.andThen_ok]
 match vs with
 | [] => rfl
 | [v] => rfl
 | v :: v' :: vs => simp [oneV]
theorem oneOf_rel {c : Cx} {avs : List AV} {vs : List Value} (h : RelL c avs vs) : Rel c (oneOf avs) (oneV vs) := by
 match avs, vs, h with
 | [], [], _ => exact ⟨#[], rfl, by simp [RelL]⟩
 | [x], [v], h => exact h.1
 | x :: y :: l, v :: u :: vs, h => exact ⟨_, rfl, by simpa using h⟩
theorem loops_at {H : Heap} {L : Nat → Option LoopS} {c : Code} {i : Nat} (h : ∀ p ∈ loopsOf c i, ∀ x, L p.1 = some x → LoopIs P p.2 x) : LoopsOK P H.length (loopsAt H L) c i := by
 intro p hp x hx
 cases H with
 | nil =>
  have := h p hp x hx
  cases x with
  | unroll _ => trivial
  | summ s => exact ⟨rfl, this⟩
  | frame s => exact this
 | cons o H =>
  simp only [loopsAt] at hx
  split at hx
  ·cases hx; trivial
  ·rename_i s hs
   cases hx
   exact h p hp (.frame s) hs
  ·cases hx
theorem callN_sound (hm : P.follows .mixedOrders = true) (hS : ∀ k s, S k = some s → SummOK P k s) (hL : ∀ k s, S k = some s → SummLocal s) {L : FuncId → Nat → Option LoopS}
  (hl : ∀ k fn c, P.funcs[k]? = some fn → fn.body = some c → ∀ p ∈ loopsOf c 1000, ∀ x, L k p.1 = some x → LoopIs P p.2 x) : ∀ n, CallfOK P (callN P S L n)
 | 0 => fun _ _ _ _ h => h.elim
 | n + 1 => by
  intro k args H Q h
  unfold callN at h
  split at h
  ·rename_i fn hf
   split at h
   ·exact h.elim
   ·rename_i hname
    split at h
    ·rename_i c hb
     refine ⟨⟨fn, hf, by simpa using hname, by simp [hb]⟩, fun w0 cx vs hh hr => ?_⟩
     have hlen := hr.length
     simp only [Array.length_toList] at hlen
     refine calls_of_wp hf hb ?_
     refine runBody_sound hm hS hL (callN_sound hm hS hL hl n) (fl := H.length) c 1000 _ _ (loops_at (hl k fn c hf hb)) h cx _ _ ⟨hh, ⟨by simp [hlen], fun i x hi => ?_⟩, rfl⟩ ?_
     ·simp only [List.getElem?_append, Array.getElem?_append] at hi ⊢
      rw [hlen] at hi
      split at hi
      ·rename_i hlt
       rw [if_pos hlt]
       have hi' : i < args.length := by omega
       have := (List.getElem?_eq_some_iff.1 hi).2
       obtain ⟨u, hu, hru⟩ := hr.get hi
       refine ⟨u, by simpa using hu, relT_of_rel hru⟩
      ·rename_i hlt
       rw [if_neg hlt]
       rw [List.getElem?_replicate] at hi
       split at hi
       ·rename_i h2
        cases hi
        exact ⟨undef, by rw [Array.getElem?_replicate, if_pos h2], trivial⟩
       ·cases hi
     ·intro e st' c' a' h1 h2F h3
      have hπ : ∀ id p, cx.π id = some p → c'.π id = some p := by
       intro id p hp
       rcases Nat.lt_or_ge id H.length with hlt | hge
       ·exact h2F.π id hlt p hp
       ·have := hh.free id (by unfold Heap.at; rw [List.getElem?_eq_none hge])
        rw [this] at hp
        cases hp
      have h2 : cx.le c' := ⟨hπ, h2F.S, h2F.w, h2F.size, h2F.rest⟩
      have fin : (∃ avs vs, oneOf avs = oneOf avs ∧ Q (oneOf avs) st'.H ∧ RelL c' avs vs ∧ (results fn a'.tmps).run P c'.w = .ok (oneV vs) c'.w) → a'.defers = [] ∧ ∃ v, (results fn a'.tmps).run P c'.w = .ok v c'.w ∧ ∃ v' c'' av H', Ending.returned v = .returned v' ∧ c'.w = c''.w ∧ cx.le c'' ∧ HeapOK w0 H' c'' ∧ Rel c'' av v' ∧ Q av H' := by
       rintro ⟨avs, vs, _, g1, g2, g3⟩
       exact ⟨h1.plain, _, g3, _, c', _, st'.H, rfl, rfl, h2, h1.heap, oneOf_rel g2, g1⟩
      cases e with
      | exit id => exact h3.elim
      | normal =>
       obtain ⟨avs, vs, g1, g2, g3⟩ := results_sound h1 _ _ h3
       exact fin ⟨avs, vs, rfl, g1, g2, run_results g3⟩
      | ret =>
       obtain ⟨avs, vs, g1, g2, g3⟩ := results_sound h1 _ _ h3
       exact fin ⟨avs, vs, rfl, g1, g2, run_results g3⟩
    ·exact h.elim
  ·exact h.elim
end
end Go.Own
end
section
namespace Go.Own
open Go
theorem Col.part_all {x : Col} {n : Nat} (h : x.len = n) : x.part 0 n = x := by
 cases x <;> simp only [Col.len] at h <;> subst h <;> simp [Col.part, pt]
theorem parts_all {cols : List Col} {n : Nat} (h : ∀ col ∈ cols, col.len = n) : cols.map (·.part 0 n) = cols := by
 induction cols with
 | nil => rfl
 | cons x xs ih => simp [Col.part_all (h x (by simp)), ih fun c hc => h c (by simp [hc])]
section
variable {w0 : Base} {H : Heap} {c : Cx}
theorem ColIs.grow {col : Col} {i : Nat} {u : Value} {π1 : Nat → Option Place} {S1 : Nat → Prop} (hS : ∀ b, c.S b → S1 b) (h : ColIs c col i u) : ColIs ⟨c.w, π1, S1⟩ col i u := by
 cases col with
 | int k l => exact h
 | bool l => exact h
 | ints k l =>
  obtain ⟨base, cap, h1, h2, h3⟩ := h
  refine ⟨base, cap, h1, h2, h3.imp id ?_⟩
  rintro ⟨ad, e1, e2, e3, e4⟩
  exact ⟨ad, e1, e2, hS _ e3, e4⟩
theorem ColIs.flat {col : Col} {i : Nat} {u : Value} {c' : Cx} (hf : col.flat = true) (h : ColIs c col i u) : ColIs c' col i u := by
 cases col with
 | int k l => exact h
 | bool l => exact h
 | ints k l => simp [Col.flat] at hf
theorem ColsAt.grow {cols : List Col} {n : Nat} {base : Option Addr} {π1 : Nat → Option Place} {S1 : Nat → Prop} (hS : ∀ b, c.S b → S1 b) (h : ColsAt c cols n base) : ColsAt ⟨c.w, π1, S1⟩ cols n base := by
 refine ⟨h.1, h.2.imp id ?_⟩
 rintro ⟨ad, e1, e2, e3, e4⟩
 exact ⟨ad, e1, e2, hS _ e3, fun i hi j col hj => let ⟨u, h1, h2⟩ := e4 i hi j col hj; ⟨u, h1, h2.grow hS⟩⟩
theorem freeze_part (hh : HeapOK w0 H c) {id : Nat} {e : TypeId} {n : Nat} {cols : List Col} (hid : H.at id = some (.row e n cols)) {p : Place} (hp : c.π id = some p) {off m : Nat} {ad : Option Addr} (hoff : off + m ≤ p.n) (had : off < p.cap → ad = some ⟨p.b, off * p.sz, none⟩)
  {π1 : Nat → Option Place} {S1 : Nat → Prop} (hS : ∀ b, c.S b → S1 b) (hb : ∀ q, Live H c id q → S1 q.b) : ColsAt ⟨c.w, π1, S1⟩ (cols.map (·.part off m)) m ad := by
 obtain ⟨p', hp', hob⟩ := hh.obj id _ hid
 rw [hp] at hp'
 cases hp'
 obtain ⟨q1, q2, q3, q4, q5, q6⟩ := hob
 subst q1
 have r3 : ∀ col ∈ cols.map (·.part off m), col.len = m := by
  intro col hcol
  obtain ⟨col0, h2, rfl⟩ := List.mem_map.1 hcol
  exact (Col.part_spec (c := c) (by rw [q5 col0 h2]; exact hoff)).1
 refine ⟨r3, ?_⟩
 by_cases h0 : m = 0
 ·exact .inl h0
 ·obtain ⟨arr, t, ha, hs, hx⟩ := q6 (by omega)
  refine .inr ⟨_, had (by omega), rfl, hb p ⟨_, hid, hp, show p.cap ≠ 0 by omega⟩, fun i hi j col hj => ?_⟩
  rw [List.getElem?_map] at hj
  cases hc : cols[j]? with
  | none => simp [hc] at hj
  | some col0 =>
   simp [hc] at hj
   subst hj
   obtain ⟨u, h2, h3⟩ := hx (off + i) (by omega) j col0 hc
   refine ⟨u, ?_, ((Col.part_spec (by rw [q5 col0 (List.mem_of_getElem? hc)]; exact hoff)).2 i u hi h3).grow hS⟩
   show c.w.cell? ⟨p.b, off * p.sz + (i * (cols.map _).length + j), none⟩ = some u
   rw [cell_of_arr ha, List.length_map, ← q2]
   rw [Nat.add_mul, Nat.add_assoc] at h2
   simpa using h2
theorem freeze_rel (hh : HeapOK w0 H c) {x : AV} {m : Nat} {ys : List Col} {rd : List Nat} {v : Value} (hx : sliceOf H x = some (m, ys, rd)) (hr : Rel c x v)
  {π1 : Nat → Option Place} {S1 : Nat → Prop} (hS : ∀ b, c.S b → S1 b) (hb : ∀ id ∈ rd, ∀ q, Live H c id q → S1 q.b) : Rel ⟨c.w, π1, S1⟩ (.sl m ys) v := by
 unfold sliceOf at hx
 split at hx
 ·cases hx
  simp only [Rel] at hr ⊢
  obtain ⟨base, cap, h1, h2, h3⟩ := hr
  exact ⟨base, cap, h1, h2, h3.grow hS⟩
 ·cases hx
  simp only [Rel] at hr ⊢
  obtain ⟨hlen, b, h1⟩ := hr
  exact ⟨b, 0, h1, Nat.le_refl _, hlen, .inl rfl⟩
 ·rename_i id
  split at hx
  ·rename_i e n cols hid
   cases hx
   simp only [Rel] at hr ⊢
   obtain ⟨p, ad, hp, h1, had⟩ := hr
   obtain ⟨p', hp', hob⟩ := hh.obj id _ hid
   rw [hp] at hp'
   cases hp'
   have := freeze_part (π1 := π1) hh hid hp (off := 0) (m := p.n) (ad := ad) (by omega) (fun h => by rw [had (by omega)]; simp) hS (hb _ (by simp))
   rw [hob.1] at this h1
   rw [parts_all hob.2.2.2.2.1] at this
   exact ⟨ad, p.cap, h1, hob.2.2.1, this⟩
  ·cases hx
 ·rename_i id off n
  split at hx
  ·rename_i e k cols hid
   cases hx
   simp only [Rel] at hr ⊢
   obtain ⟨p, ad, hp, h1, hoff, hcap, had⟩ := hr
   exact ⟨ad, _, h1, by omega, freeze_part hh hid hp hoff had hS (hb _ (by simp))⟩
  ·cases hx
 ·cases hx
theorem pureLeaf0_rel (hh : HeapOK w0 H c) {x y : AV} {rd : List Nat} {v : Value} (hx : pureLeaf0 H x = some (y, rd)) (hr : Rel c x v)
  {π1 : Nat → Option Place} {S1 : Nat → Prop} (hS : ∀ b, c.S b → S1 b) (hb : ∀ id ∈ rd, ∀ q, Live H c id q → S1 q.b) : Rel ⟨c.w, π1, S1⟩ y v := by
 cases x <;> simp only [pureLeaf0, reduceCtorEq] at hx
 case bool b => cases hx; exact hr
 case int k n => cases hx; exact hr
 case sl n cols => cases hx; exact freeze_rel hh (x := .sl n cols) rfl hr hS (by simp)
 case emp e cols => cases hx; exact freeze_rel hh (x := .emp e cols) rfl hr hS (by simp)
 case full id =>
  split at hx
  ·rename_i e n cols hid
   cases hx
   exact freeze_rel hh (x := .full id) (by simp [sliceOf, hid]) hr hS hb
  ·cases hx
 case osl id off n =>
  split at hx
  ·rename_i e k cols hid
   cases hx
   exact freeze_rel hh (x := .osl id off n) (by simp [sliceOf, hid]) hr hS hb
  ·cases hx
 case mapv ks cols one =>
  cases hx
  simp only [Rel] at hr ⊢
  obtain ⟨b, es, clk, h1, h2, h3⟩ := hr
  exact ⟨b, es, clk, h1, hS _ h2, h3⟩
 case mp id =>
  split at hx
  ·rename_i ks cols one hid
   cases hx
   simp only [Rel] at hr ⊢
   obtain ⟨p, hp, hv⟩ := hr
   obtain ⟨p', hp', hob⟩ := hh.obj id _ hid
   rw [hp] at hp'
   cases hp'
   obtain ⟨hc, es, clk, hm⟩ := hob
   exact ⟨p.b, es, clk, hv, hb id (by simp) p ⟨_, hid, hp, trivial⟩, hm⟩
  ·cases hx
theorem mapIds_rel {f : AV → Option (AV × List Nat)} {c1 : Cx} {R : List Nat → Prop} (hR : ∀ a b, R (a ++ b) → R a ∧ R b) (hf : ∀ x y ids v, f x = some (y, ids) → Rel c x v → R ids → Rel c1 y v) : ∀ {xs ys : List AV} {ids : List Nat} {vs : List Value}, mapIds f xs = some (ys, ids) → RelL c xs vs → R ids → RelL c1 ys vs
 | [], ys, ids, vs, h, hr, _ => by
  simp only [mapIds, Option.some.injEq, Prod.mk.injEq] at h
  obtain ⟨rfl, rfl⟩ := h
  cases vs with
  | nil => trivial
  | cons v vs => exact hr.elim
 | x :: xs, ys, ids, [], h, hr, _ => hr.elim
 | x :: xs, ys, ids, v :: vs, h, hr, hi => by
  simp only [mapIds] at h
  split at h
  ·rename_i y i1 ys' i2 h1 h2
   cases h
   obtain ⟨g1, g2⟩ := hR _ _ hi
   exact ⟨hf _ _ _ _ h1 hr.1 g1, mapIds_rel hR hf h2 hr.2 g2⟩
  ·cases h
theorem pureLeaf_rel (hh : HeapOK w0 H c) {x y : AV} {rd : List Nat} {v : Value} (hx : pureLeaf H x = some (y, rd)) (hr : Rel c x v)
  {π1 : Nat → Option Place} {S1 : Nat → Prop} (hS : ∀ b, c.S b → S1 b) (hb : ∀ id ∈ rd, ∀ q, Live H c id q → S1 q.b) : Rel ⟨c.w, π1, S1⟩ y v := by
 have hR : ∀ a b : List Nat, (∀ id ∈ a ++ b, ∀ q, Live H c id q → S1 q.b) → (∀ id ∈ a, ∀ q, Live H c id q → S1 q.b) ∧ (∀ id ∈ b, ∀ q, Live H c id q → S1 q.b) :=
  fun a b h => ⟨fun id hi => h id (by simp [hi]), fun id hi => h id (by simp [hi])⟩
 unfold pureLeaf at hx
 split at hx
 ·cases hx
  exact hr
 ·rename_i cells
  split at hx
  ·rename_i cs ids hm
   cases hx
   simp only [Rel] at hr ⊢
   obtain ⟨ad, us, h1, h2, h3, h4, h5⟩ := hr
   exact ⟨ad, us, h1, h2, hS _ h3, mapIds_rel (R := fun ids => ∀ id ∈ ids, ∀ q, Live H c id q → S1 q.b) hR (fun x y ids v g1 g2 g3 => pureLeaf0_rel hh g1 g2 hS g3) hm h4 hb, h5⟩
  ·cases hx
 ·rename_i id
  split at hx
  ·rename_i cells hid
   split at hx
   ·rename_i cs ids hm
    cases hx
    simp only [Rel] at hr ⊢
    obtain ⟨p, hp, hv⟩ := hr
    obtain ⟨p', hp', hob⟩ := hh.obj id _ hid
    rw [hp] at hp'
    cases hp'
    obtain ⟨arr, t, ha, hrl⟩ := hob
    refine ⟨_, arr.toList, hv, rfl, hb id (by simp) p ⟨_, hid, hp, trivial⟩, mapIds_rel (R := fun ids => ∀ id ∈ ids, ∀ q, Live H c id q → S1 q.b) hR (fun x y ids v g1 g2 g3 => pureLeaf0_rel hh g1 g2 hS g3) hm hrl (fun i hi => hb i (by simp [hi])), fun j u hj => ?_⟩
    show c.w.cell? ⟨p.b, 0 * p.sz + 0 + j, none⟩ = some u
    rw [cell_of_arr ha]
    simpa using hj
   ·cases hx
  ·cases hx
 ·exact pureLeaf0_rel hh hx hr hS hb
theorem pureArg_rel (hh : HeapOK w0 H c) {x y : AV} {rd : List Nat} {v : Value} (hx : pureArg H x = some (y, rd)) (hr : Rel c x v)
  {π1 : Nat → Option Place} {S1 : Nat → Prop} (hS : ∀ b, c.S b → S1 b) (hb : ∀ id ∈ rd, ∀ q, Live H c id q → S1 q.b) : Rel ⟨c.w, π1, S1⟩ y v := by
 have hR : ∀ a b : List Nat, (∀ id ∈ a ++ b, ∀ q, Live H c id q → S1 q.b) → (∀ id ∈ a, ∀ q, Live H c id q → S1 q.b) ∧ (∀ id ∈ b, ∀ q, Live H c id q → S1 q.b) :=
  fun a b h => ⟨fun id hi => h id (by simp [hi]), fun id hi => h id (by simp [hi])⟩
 unfold pureArg at hx
 split at hx
 ·rename_i cs
  split at hx
  ·rename_i r ids hm
   cases hx
   simp only [Rel] at hr ⊢
   obtain ⟨vs, hv, h1⟩ := hr
   exact ⟨vs, hv, mapIds_rel (R := fun ids => ∀ id ∈ ids, ∀ q, Live H c id q → S1 q.b) hR (fun x y ids v g1 g2 g3 => pureLeaf0_rel hh g1 g2 hS g3) hm h1 hb⟩
  ·cases hx
 ·rename_i f a b
  split at hx
  ·rename_i x' i1 y' i2 h1 h2
   cases hx
   simp only [Rel] at hr ⊢
   obtain ⟨as, bs, hv, g1, g2⟩ := hr
   obtain ⟨k1, k2⟩ := hR _ _ hb
   exact ⟨as, bs, hv, mapIds_rel (R := fun ids => ∀ id ∈ ids, ∀ q, Live H c id q → S1 q.b) hR (fun x y ids v g1 g2 g3 => pureLeaf_rel hh g1 g2 hS g3) h1 g1 k1,
    mapIds_rel (R := fun ids => ∀ id ∈ ids, ∀ q, Live H c id q → S1 q.b) hR (fun x y ids v g1 g2 g3 => pureLeaf_rel hh g1 g2 hS g3) h2 g2 k2⟩
  ·cases hx
 ·exact pureLeaf_rel hh hx hr hS hb
theorem pureArgs_rel (hh : HeapOK w0 H c) {xs ys : List AV} {rd : List Nat} {vs : List Value} (hx : pureArgs H xs = some (ys, rd)) (hr : RelL c xs vs)
  {π1 : Nat → Option Place} {S1 : Nat → Prop} (hS : ∀ b, c.S b → S1 b) (hb : ∀ id ∈ rd, ∀ q, Live H c id q → S1 q.b) : RelL ⟨c.w, π1, S1⟩ ys vs := by
 have hR : ∀ a b : List Nat, (∀ id ∈ a ++ b, ∀ q, Live H c id q → S1 q.b) → (∀ id ∈ a, ∀ q, Live H c id q → S1 q.b) ∧ (∀ id ∈ b, ∀ q, Live H c id q → S1 q.b) :=
  fun a b h => ⟨fun id hi => h id (by simp [hi]), fun id hi => h id (by simp [hi])⟩
 exact mapIds_rel (R := fun ids => ∀ id ∈ ids, ∀ q, Live H c id q → S1 q.b) hR (fun x y ids v g1 g2 g3 => pureArg_rel hh g1 g2 hS g3) hx hr hb
def GiveLeaf (c : Cx) : AV → Value → List Place → Prop
 | .own e n cols, v, ps => ∃ p a, ps = [p] ∧ v = .slice a p.n p.cap ∧ (p.cap ≠ 0 → a = some ⟨p.b, 0, none⟩) ∧ ObjAt c (.row e n cols) p
 | .omap ks cols one, v, ps => ∃ p, ps = [p] ∧ v = .map (some p.b) ∧ ObjAt c (.tmap ks cols one) p
 | .int k n, v, ps => ps = [] ∧ v = .int k n
 | .bool b, v, ps => ps = [] ∧ v = .bool b
 | .val u, v, ps => ps = [] ∧ v = u
 | .sl n cols, v, ps => ps = [] ∧ Rel c (.sl n cols) v
 | _, _, _ => False
def GiveList (c : Cx) : List AV → List Value → List Place → Prop
 | [], [], ps => ps = []
 | x :: xs, v :: vs, ps => ∃ p1 p2, ps = p1 ++ p2 ∧ GiveLeaf c x v p1 ∧ GiveList c xs vs p2
 | _, _, _ => False
def GiveCells (c : Cx) : AV → Value → List Place → Prop
 | .agg cs, v, ps => ∃ vs : Array Value, v = .agg vs ∧ GiveList c cs vs.toList ps
 | x, v, ps => GiveLeaf c x v ps
def GiveTup (c : Cx) : List AV → List Value → List Place → Prop
 | [], [], ps => ps = []
 | x :: xs, v :: vs, ps => ∃ p1 p2, ps = p1 ++ p2 ∧ GiveCells c x v p1 ∧ GiveTup c xs vs p2
 | _, _, _ => False
def Gives (c : Cx) : AV → Value → List Place → Prop
 | .tup xs, v, ps => ∃ vs : Array Value, v = .tuple vs ∧ GiveTup c xs vs.toList ps
 | x, v, ps => GiveCells c x v ps
def Apart (ps : List Place) : Prop := ps.Pairwise fun p q => p.cap ≠ 0 → q.cap ≠ 0 → p.b ≠ q.b
def NewAt (lo : Nat) (c : Cx) (ps : List Place) : Prop := ∀ p ∈ ps, p.cap ≠ 0 → lo ≤ p.b ∧ p.b < c.w.heap.size ∧ ¬ c.S p.b
def Placed (c : Cx) : List (Nat × AObj) → List Place → Prop
 | [], [] => True
 | w :: ws, p :: ps => (((∃ e n cols, w.2 = .row e n cols) ∨ ∃ ks cols one, w.2 = .tmap ks cols one) ∧ ObjAt c w.2 p) ∧ Placed c ws ps
 | _, _ => False
def Puts (π : Nat → Option Place) : List (Nat × AObj) → List Place → Prop
 | [], [] => True
 | w :: ws, p :: ps => π w.1 = some p ∧ Puts π ws ps
 | _, _ => False
theorem Placed.append {ws vs : List (Nat × AObj)} : ∀ {ps : List Place} {qs : List Place}, Placed c ws ps → Placed c vs qs → Placed c (ws ++ vs) (ps ++ qs) := by
 induction ws with
 | nil =>
  intro ps qs h h'
  cases ps with
  | nil => exact h'
  | cons p ps => exact h.elim
 | cons w ws ih =>
  intro ps qs h h'
  cases ps with
  | nil => exact h.elim
  | cons p ps => exact ⟨h.1, ih h.2 h'⟩
theorem Puts.append {π : Nat → Option Place} {ws vs : List (Nat × AObj)} : ∀ {ps qs : List Place}, ws.length = ps.length → Puts π (ws ++ vs) (ps ++ qs) → Puts π ws ps ∧ Puts π vs qs := by
 induction ws with
 | nil =>
  intro ps qs hl h
  cases ps with
  | nil => exact ⟨trivial, h⟩
  | cons p ps => simp at hl
 | cons w ws ih =>
  intro ps qs hl h
  cases ps with
  | nil => simp at hl
  | cons p ps =>
   obtain ⟨h1, h2⟩ := h
   obtain ⟨h3, h4⟩ := ih (by simpa using hl) h2
   exact ⟨⟨h1, h3⟩, h4⟩
theorem Placed.length {ws : List (Nat × AObj)} : ∀ {ps : List Place}, Placed c ws ps → ws.length = ps.length := by
 induction ws with
 | nil =>
  intro ps h
  cases ps with
  | nil => rfl
  | cons p ps => exact h.elim
 | cons w ws ih =>
  intro ps h
  cases ps with
  | nil => exact h.elim
  | cons p ps => simp [ih h.2]
def Takes (c : Cx) (r : AV × List (Nat × AObj)) (v : Value) (ps : List Place) : Prop :=
 Placed c r.2 ps ∧ ∀ π, Puts π r.2 ps → Rel ⟨c.w, π, c.S⟩ r.1 v
theorem takes_leaf {fr : Nat} {x : AV} {v : Value} {ps : List Place} (h : GiveLeaf c x v ps) : Takes c (adoptLeaf fr x) v ps := by
 cases x <;> simp only [GiveLeaf] at h
 case own e n cols =>
  obtain ⟨p, a, rfl, h1, h2, h3⟩ := h
  refine ⟨⟨⟨.inl ⟨e, n, cols, rfl⟩, h3⟩, trivial⟩, fun π hp => ?_⟩
  simp only [adoptLeaf, Rel]
  exact ⟨p, a, hp.1, h1, h2⟩
 case omap ks cols one =>
  obtain ⟨p, rfl, h1, h2⟩ := h
  refine ⟨⟨⟨.inr ⟨ks, cols, one, rfl⟩, h2⟩, trivial⟩, fun π hp => ?_⟩
  simp only [adoptLeaf, Rel]
  exact ⟨p, hp.1, h1⟩
 case int k n => obtain ⟨rfl, h⟩ := h; exact ⟨trivial, fun π _ => by simpa [adoptLeaf, Rel] using h⟩
 case bool b => obtain ⟨rfl, h⟩ := h; exact ⟨trivial, fun π _ => by simpa [adoptLeaf, Rel] using h⟩
 case val u => obtain ⟨rfl, h⟩ := h; exact ⟨trivial, fun π _ => by simpa [adoptLeaf, Rel] using h⟩
 case sl n cols => obtain ⟨rfl, h⟩ := h; exact ⟨trivial, fun π _ => h⟩
theorem takes_list : ∀ {fr : Nat} {xs : List AV} {vs : List Value} {ps : List Place}, GiveList c xs vs ps → Placed c (adoptList fr xs).2 ps ∧ ∀ π, Puts π (adoptList fr xs).2 ps → RelL ⟨c.w, π, c.S⟩ (adoptList fr xs).1 vs
 | _, [], [], ps, h => by
  simp only [GiveList] at h
  subst h
  exact ⟨trivial, fun _ _ => trivial⟩
 | fr, x :: xs, v :: vs, ps, h => by
  obtain ⟨p1, p2, rfl, h1, h2⟩ := h
  obtain ⟨g1, g2⟩ := takes_leaf (fr := fr) h1
  obtain ⟨g3, g4⟩ := takes_list (fr := fr + 1) h2
  refine ⟨g1.append g3, fun π hp => ?_⟩
  obtain ⟨k1, k2⟩ := hp.append g1.length
  exact ⟨g2 π k1, g4 π k2⟩
 | _, [], _ :: _, _, h => h.elim
 | _, _ :: _, [], _, h => h.elim
theorem takes_cells {fr : Nat} {x : AV} {v : Value} {ps : List Place} (h : GiveCells c x v ps) : Takes c (adoptCells fr x) v ps := by
 cases x
 case agg cs =>
  obtain ⟨vs, rfl, h⟩ := h
  obtain ⟨g1, g2⟩ := takes_list (fr := fr) h
  exact ⟨g1, fun π hp => ⟨vs, rfl, g2 π hp⟩⟩
 all_goals exact takes_leaf (fr := fr) h
theorem takes_tup : ∀ {fr : Nat} {xs : List AV} {vs : List Value} {ps : List Place}, GiveTup c xs vs ps → Placed c (adoptTup fr xs).2 ps ∧ ∀ π, Puts π (adoptTup fr xs).2 ps → RelL ⟨c.w, π, c.S⟩ (adoptTup fr xs).1 vs
 | _, [], [], ps, h => by
  simp only [GiveTup] at h
  subst h
  exact ⟨trivial, fun _ _ => trivial⟩
 | fr, x :: xs, v :: vs, ps, h => by
  obtain ⟨p1, p2, rfl, h1, h2⟩ := h
  obtain ⟨g1, g2⟩ := takes_cells (fr := fr) h1
  obtain ⟨g3, g4⟩ := takes_tup (fr := fr + 32) h2
  refine ⟨g1.append g3, fun π hp => ?_⟩
  obtain ⟨k1, k2⟩ := hp.append g1.length
  exact ⟨g2 π k1, g4 π k2⟩
 | _, [], _ :: _, _, h => h.elim
 | _, _ :: _, [], _, h => h.elim
theorem takes {fr : Nat} {x : AV} {v : Value} {ps : List Place} (h : Gives c x v ps) : Takes c (adopt fr x) v ps := by
 cases x
 case tup xs =>
  obtain ⟨vs, rfl, h⟩ := h
  obtain ⟨g1, g2⟩ := takes_tup (fr := fr) h
  exact ⟨g1, fun π hp => ⟨vs, rfl, g2 π hp⟩⟩
 all_goals exact takes_cells (fr := fr) h
end
end Go.Own
end
