/- A state, as a record. -/
import Derived.Test.YtdoapbopldhakaaGreatFabB
namespace Go.Own
open Go Go.Proofs
set_option maxRecDepth 100000
set_option linter.unusedVariables false
set_option linter.unusedSimpArgs false

structure SR where
  lg : Int
  th : Int
  po : Int
  wt : Int
  sp : Int
  yi : Int
  sg : Bool
  hd : Int
  tl : Int
  md : Int
  ns : Nat
  ss : List Int
  sv : List Int
  n1 : Nat
  l1 : List Int
  n2 : Nat
  l2 : List Int
  fe : Int
  n3 : Nat
  l3 : List Int
  ee : Int
  n4 : Nat
  l4 : List Int
  now : Int
  nt : Nat
  st : List Int
  kd : List Int
  vl : List Int
  un : List Int
  pc : List Int
  rg : List Int
  sn : List Int
  tr : List Int
  lt : List Bool
  rs : List Int
  gt : List Int
  nl : Nat
  c0 : List Int
  ks : List Int
  vs : List Int
  rr : List Int
  gs : List Int
  deriving DecidableEq


def SR.cells (s : SR) : List AV := [.int .i64 s.lg, .int .i64 s.th, .int .i64 s.po, .int .i64 s.wt, .int .i64 s.sp, .int .i64 s.yi, .bool s.sg, .int .i64 s.hd, .int .i64 s.tl, .int .i64 s.md, .sl s.ns [.int .i64 s.ss, .int .i64 s.sv], .sl s.n1 [.int .i64 s.l1], .sl s.n2 [.int .i64 s.l2], .int .i64 s.fe, .sl s.n3 [.int .i64 s.l3], .int .i64 s.ee, .sl s.n4 [.int .i64 s.l4], .int .i64 s.now, .sl s.nt [.int .i64 s.st, .int .i64 s.kd, .int .i64 s.vl, .int .i64 s.un, .int .i64 s.pc, .int .i64 s.rg, .int .i64 s.sn, .int .i64 s.tr, .bool s.lt, .int .i64 s.rs, .int .i64 s.gt], .sl s.nl [.int .i64 s.c0, .int .i64 s.ks, .int .i64 s.vs, .int .i64 s.rr, .int .i64 s.gs]]

def SR.av (s : SR) : AV := .agg s.cells

def SR.new (s : SR) : AV := .agg [.int .i64 s.lg, .int .i64 s.th, .int .i64 s.po, .int .i64 s.wt, .int .i64 s.sp, .int .i64 s.yi, .bool s.sg, .int .i64 s.hd, .int .i64 s.tl, .int .i64 s.md, .own 87 s.ns [.int .i64 s.ss, .int .i64 s.sv], .own 3 s.n1 [.int .i64 s.l1], .own 3 s.n2 [.int .i64 s.l2], .int .i64 s.fe, .own 3 s.n3 [.int .i64 s.l3], .int .i64 s.ee, .own 3 s.n4 [.int .i64 s.l4], .int .i64 s.now, .own 49 s.nt [.int .i64 s.st, .int .i64 s.kd, .int .i64 s.vl, .int .i64 s.un, .int .i64 s.pc, .int .i64 s.rg, .int .i64 s.sn, .int .i64 s.tr, .bool s.lt, .int .i64 s.rs, .int .i64 s.gt], .own 51 s.nl [.int .i64 s.c0, .int .i64 s.ks, .int .i64 s.vs, .int .i64 s.rr, .int .i64 s.gs]]

def asSR : AV → Option SR
  | .agg [.int .i64 lg, .int .i64 th, .int .i64 po, .int .i64 wt, .int .i64 sp, .int .i64 yi, .bool sg, .int .i64 hd, .int .i64 tl, .int .i64 md, .sl ns [.int .i64 ss, .int .i64 sv], .sl n1 [.int .i64 l1], .sl n2 [.int .i64 l2], .int .i64 fe, .sl n3 [.int .i64 l3], .int .i64 ee, .sl n4 [.int .i64 l4], .int .i64 now, .sl nt [.int .i64 st, .int .i64 kd, .int .i64 vl, .int .i64 un, .int .i64 pc, .int .i64 rg, .int .i64 sn, .int .i64 tr, .bool lt, .int .i64 rs, .int .i64 gt], .sl nl [.int .i64 c0, .int .i64 ks, .int .i64 vs, .int .i64 rr, .int .i64 gs]] => some ⟨lg, th, po, wt, sp, yi, sg, hd, tl, md, ns, ss, sv, n1, l1, n2, l2, fe, n3, l3, ee, n4, l4, now, nt, st, kd, vl, un, pc, rg, sn, tr, lt, rs, gt, nl, c0, ks, vs, rr, gs⟩
  | _ => none

theorem asSR_some {a : AV} {s : SR} (h : asSR a = some s) : a = s.av := by
  unfold asSR at h
  split at h
  · cases h; rfl
  · cases h

theorem cells_of {cs : List AV} {s : SR} (h : asSR (.agg cs) = some s) : cs = s.cells := by
  have := asSR_some h
  simp only [SR.av, AV.agg.injEq] at this
  exact this

theorem asSR_cases {a : AV} {X : SR → Prop} (h : match asSR a with | some s => X s | none => False) : ∃ s, asSR a = some s := by
  cases h' : asSR a with
  | some s => exact ⟨s, rfl⟩
  | none => rw [h'] at h; exact h.elim

theorem asSR_av (s : SR) : asSR s.av = some s := rfl

def SR.ok (s : SR) : Bool := stOk s.lg s.th s.po s.wt s.sp s.yi s.hd s.tl s.md s.ns s.ss s.n1 s.l1 s.n2 s.l2 s.fe s.n3 s.l3 s.ee s.n4 s.l4 s.now s.nt s.st s.kd s.un s.pc s.rg s.sn s.tr s.lt s.rs

def SR.few (s : SR) : Bool := fewB s.ns s.n1 s.n2 s.n3 s.n4 s.nt s.nl

def SR.fit (s : SR) : Bool := in64 s.hd s.tl && fewB s.ns s.n1 s.n2 s.n3 s.n4 s.nt s.nl

def SR.wid (s : SR) : Bool := wideB s.ns s.n1 s.n2 s.n3 s.n4 s.nt s.nl

def SR.fitW (s : SR) : Bool := in64 s.hd s.tl && wideB s.ns s.n1 s.n2 s.n3 s.n4 s.nt s.nl


theorem SR.wid_few {s : SR} (h : s.few = true) : s.wid = true := by
  simp only [SR.few, fewB, SR.wid, wideB, decide_eq_true_eq] at h ⊢
  omega

theorem SR.fitW_fit {s : SR} (h : s.fit = true) : s.fitW = true := by
  simp only [SR.fit, fewB, SR.fitW, wideB, Bool.and_eq_true, decide_eq_true_eq] at h ⊢
  exact ⟨h.1, by omega⟩

theorem SR.wid_fitW {s : SR} (h : s.fitW = true) : s.wid = true := by
  simp only [SR.fitW, Bool.and_eq_true] at h
  exact h.2

theorem SR.wid_fit {s : SR} (h : s.fit = true) : s.wid = true := SR.wid_fitW (SR.fitW_fit h)

/-- Each row is as long as is said. -/
structure SR.rows (s : SR) : Prop where
  ss : s.ss.length = s.ns
  sv : s.sv.length = s.ns
  l1 : s.l1.length = s.n1
  l2 : s.l2.length = s.n2
  l3 : s.l3.length = s.n3
  l4 : s.l4.length = s.n4
  st : s.st.length = s.nt
  kd : s.kd.length = s.nt
  vl : s.vl.length = s.nt
  un : s.un.length = s.nt
  pc : s.pc.length = s.nt
  rg : s.rg.length = s.nt
  sn : s.sn.length = s.nt
  tr : s.tr.length = s.nt
  lt : s.lt.length = s.nt
  rs : s.rs.length = s.nt
  gt : s.gt.length = s.nt
  c0 : s.c0.length = s.nl
  ks : s.ks.length = s.nl
  vs : s.vs.length = s.nl
  rr : s.rr.length = s.nl
  gs : s.gs.length = s.nl

theorem wf_av (s : SR) : WF s.av ↔ s.rows := by
  simp only [SR.av, SR.cells, WF, WFL, List.mem_cons, List.not_mem_nil, or_false, forall_eq_or_imp, forall_eq, Col.len, and_true, true_and]
  constructor
  · rintro ⟨⟨h1, h2⟩, h3, h4, h5, h6, ⟨h7, h8, h9, h10, h11, h12, h13, h14, h15, h16, h17⟩, h18, h19, h20, h21, h22⟩
    exact ⟨h1, h2, h3, h4, h5, h6, h7, h8, h9, h10, h11, h12, h13, h14, h15, h16, h17, h18, h19, h20, h21, h22⟩
  · rintro ⟨h1, h2, h3, h4, h5, h6, h7, h8, h9, h10, h11, h12, h13, h14, h15, h16, h17, h18, h19, h20, h21, h22⟩
    exact ⟨⟨h1, h2⟩, h3, h4, h5, h6, ⟨h7, h8, h9, h10, h11, h12, h13, h14, h15, h16, h17⟩, h18, h19, h20, h21, h22⟩

end Go.Own
