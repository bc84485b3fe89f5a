/- What is public of a board, in memory. -/
import Derived.Test.YteoeahmnonolmaaSPl
import Derived.Test.YteoeahmnonolmaaBR
import Derived.Deep.DeepCutAuto
import Derived.LoopTactic
import Derived.Deep.MidRow
namespace Go.Proofs.Yteoeahmnonolmaa
open Go.RowKit Plain
set_option linter.unusedVariables false
set_option linter.unusedSimpArgs false

/-- the slices of what is public -/
structure Ps where
  f0 : Sl
  g0 : Sl
  f1 : Sl
  g1 : Sl
  st : Sl
  qu : Sl
  at' : Sl
  bl : Sl
def pcells (s : Ps) (P : Pu) : Array Value := #[.int .i64 P.s0.li, .int .i64 P.s0.p0, .int .i64 P.s0.p1, .int .i64 P.s0.p2, .int .i64 P.s0.p3, .int .i64 P.s0.lib, .int .i64 P.s0.hand, s.f0.v, s.g0.v, .bool P.s0.em, .bool P.s0.py, .bool P.s0.kp, .int .i64 P.s0.mu, .int .i64 P.s0.ac, .int .i64 P.s1.li, .int .i64 P.s1.p0, .int .i64 P.s1.p1, .int .i64 P.s1.p2, .int .i64 P.s1.p3, .int .i64 P.s1.lib, .int .i64 P.s1.hand, s.f1.v, s.g1.v, .bool P.s1.em, .bool P.s1.py, .bool P.s1.kp, .int .i64 P.s1.mu, .int .i64 P.s1.ac, s.st.v, s.qu.v, s.at'.v, s.bl.v, .int .i64 P.tu, .int .i64 P.ac, .int .i64 P.ph, .int .i64 P.ho, .int .i64 P.pa]
def pv (s : Ps) (P : Pu) : Value := .agg (pcells s P)
def Plain.zeroVs : Vs := ⟨0, 0, 0, 0, 0, 0, 0, [], [], false, false, false, 0, 0⟩
def Plain.zeroPu : Pu := ⟨zeroVs, zeroVs, [], [], [], [], 0, 0, 0, 0, 0⟩
def nilPs : Ps := ⟨nilSl, nilSl, nilSl, nilSl, nilSl, nilSl, nilSl, nilSl⟩
/-- it can be read -/
structure PuR (w : World) (s : Ps) (P : Pu) : Prop where
  f0 : Rw oc 12 w s.f0.v P.s0.fld
  g0 : Rw oc 12 w s.g0.v P.s0.grv
  f1 : Rw oc 12 w s.f1.v P.s1.fld
  g1 : Rw oc 12 w s.g1.v P.s1.grv
  st : ItR w s.st.v P.st
  qu : ItR w s.qu.v P.qu
  att : Rw ic 1 w s.at'.v P.att
  bl : Rw kc 2 w s.bl.v P.bl
theorem PuR.below {w w' : World} {s : Ps} {P : Pu} (h : PuR w s P) (hb : Below w.heap.size w w') : PuR w' s P := ⟨h.f0.below hb, h.g0.below hb, h.f1.below hb, h.g1.below hb, h.st.below hb, h.qu.below hb, h.att.below hb, h.bl.below hb⟩
/-- it lies in blocks of its own -/
structure PuO (lo hi : Nat) (w : World) (s : Ps) (P : Pu) : Prop where
  f0 : Ox oc 12 79 lo hi w s.f0.v P.s0.fld
  g0 : Ox oc 12 79 lo hi w s.g0.v P.s0.grv
  f1 : Ox oc 12 79 lo hi w s.f1.v P.s1.fld
  g1 : Ox oc 12 79 lo hi w s.g1.v P.s1.grv
  st : ItO lo hi w s.st.v P.st
  qu : ItO lo hi w s.qu.v P.qu
  att : Ox ic 1 3 lo hi w s.at'.v P.att
  bl : Ox kc 2 107 lo hi w s.bl.v P.bl
theorem PuO.keep {lo hi : Nat} {w w' : World} {s : Ps} {P : Pu} (h : PuO lo hi w s P) (hk : ∀ k, lo ≤ k → k < hi → w'.heap[k]? = w.heap[k]?) : PuO lo hi w' s P :=
  ⟨h.f0.keep (fun k a b _ => hk k a b), h.g0.keep (fun k a b _ => hk k a b), h.f1.keep (fun k a b _ => hk k a b), h.g1.keep (fun k a b _ => hk k a b), h.st.keep hk, h.qu.keep hk, h.att.keep (fun k a b _ => hk k a b), h.bl.keep (fun k a b _ => hk k a b)⟩
theorem PuO.below {lo hi : Nat} {w w' : World} {s : Ps} {P : Pu} (h : PuO lo hi w s P) (hb : Below w.heap.size w w') : PuO lo hi w' s P :=
  ⟨h.f0.below hb, h.g0.below hb, h.f1.below hb, h.g1.below hb, h.st.below hb, h.qu.below hb, h.att.below hb, h.bl.below hb⟩
theorem PuO.mono {lo hi lo' hi' : Nat} {w : World} {s : Ps} {P : Pu} (h : PuO lo hi w s P) (h1 : lo' ≤ lo) (h2 : hi ≤ hi') : PuO lo' hi' w s P :=
  ⟨h.f0.mono h1 h2, h.g0.mono h1 h2, h.f1.mono h1 h2, h.g1.mono h1 h2, h.st.mono h1 h2, h.qu.mono h1 h2, h.att.mono h1 h2, h.bl.mono h1 h2⟩
theorem PuO.rd {lo hi : Nat} {w : World} {s : Ps} {P : Pu} (h : PuO lo hi w s P) : PuR w s P :=
  ⟨h.f0.rw oc_len, h.g0.rw oc_len, h.f1.rw oc_len, h.g1.rw oc_len, h.st.rd, h.qu.rd, h.att.rw ic_len, h.bl.rw kc_len⟩
theorem PuO.rng {lo hi lo' hi' : Nat} {w w' : World} {s : Ps} {P : Pu} (h : PuO lo hi w s P) (hr : Rng lo' hi' w w') (hd : hi ≤ lo' ∨ hi' ≤ lo) (hs : hi ≤ w.heap.size) : PuO lo hi w' s P :=
  h.keep (fun k a b => hr.block k (by omega) (by omega))
theorem PuO.zero (lo hi : Nat) (w : World) : PuO lo hi w nilPs zeroPu := ⟨Ox.nil _ _ _ _, Ox.nil _ _ _ _, Ox.nil _ _ _ _, Ox.nil _ _ _ _, ItO.nil _ _ _, ItO.nil _ _ _, Ox.nil _ _ _ _, Ox.nil _ _ _ _⟩
/-- in a block of its own -/
def Px (w : World) (Q : Nat) (s : Ps) (P : Pu) : Prop := w.heap[Q]? = some (.cells (pcells s P) 49 (0, 0))
theorem Px.cell {w : World} {Q : Nat} {s : Ps} {P : Pu} (h : Px w Q s P) (i : Nat) : w.cell? ⟨Q, i, none⟩ = (pcells s P)[i]? := cell_of_row w Q i _ 49 (0, 0) h
theorem Px.lt {w : World} {Q : Nat} {s : Ps} {P : Pu} (h : Px w Q s P) : Q < w.heap.size := (Array.getElem?_eq_some_iff.1 h).1
theorem Px.below {w w' : World} {Q : Nat} {s : Ps} {P : Pu} (h : Px w Q s P) (hb : Below w.heap.size w w') : Px w' Q s P := (hb.block Q h.lt).trans h
theorem Px.onl {w w' : World} {Q : Nat} {s : Ps} {P : Pu} {S : List Nat} (h : Px w Q s P) (ho : Onl S w w') (hS : Q ∉ S) : Px w' Q s P := (ho.block Q h.lt hS).trans h
theorem Px.put {w : World} {Q : Nat} {s s' : Ps} {P P' : Pu} (h : Px w Q s P) (i : Nat) (v : Value) (he : (pcells s P).setIfInBounds i v = pcells s' P') : Px (w.setCell ⟨Q, i, none⟩ v) Q s' P' := by
  unfold Px at *
  rw [← he]
  exact heap_setCell_same w Q i _ _ v h
theorem Px.free {w : World} {Q : Nat} {s : Ps} {P : Pu} (h : Px w Q s P) (i : Nat) : w.frozen? ⟨Q, i, none⟩ = false := by
  unfold World.frozen?
  rw [show w.heap[Q]? = _ from h]
  simp
theorem pcells_one (s : Ps) (P : Pu) : (pcells s P).all (·.oneCell') = true := by simp [pcells, Value.oneCell', Sl.v]
theorem wpList_store_ph {ops : Array Oper} {rest : List Oper} {op : Oper} {a : Act} {w : World} {Q : Exit → Act → World → Prop} (hgd : op.guard = none) {R : Nat} {s : Ps} {P : Pu} (x y : Operand) (ho : op.op = .store 49 x y) (hx : a.eval x = .pointer (some ⟨R, 0, none⟩)) (hy : a.eval y = pv s P) {old : Array Value} (hg : w.heap[R]? = some (.cells old 49 (0, 0))) (hsz : old.size = 37)
    (hK : ∀ w', Hid (w' = w.setRow R (pcells s P)) → wpList Try.prog ops Q rest (a.put op.dst undef) w') : wpList Try.prog ops Q (op :: rest) a w :=
  wpList_store_row hgd 49 x y ho R (pcells s P) hx hy 49 old hg (by kernel_rfl) (by rw [hsz]; rfl) (pcells_one s P) (hK _ (Lib.hid rfl))
theorem Px.row {w : World} {Q : Nat} {old : Array Value} (hg : w.heap[Q]? = some (.cells old 49 (0, 0))) (s : Ps) (P : Pu) : Px (w.setRow Q (pcells s P)) Q s P := setRow_heap _ Q old _ 49 _ hg
theorem pboxed {W W' : World} {old : Array Value} {s : Ps} {P : Pu} (h : W' = (W.alloc (.cells old 49)).setRow W.heap.size (pcells s P)) : Below W.heap.size W W' ∧ Px W' W.heap.size s P := by
  have b1 : Below W.heap.size W (W.alloc (.cells old 49)) := (Below.refl _ _).alloc (Nat.le_refl _) _
  exact ⟨belowOnl b1 (by rw [h]; exact Onl.setRow (Onl.refl _ _) (.inl (by simp)) _ : Onl [W.heap.size] _ W') (by simp) b1.size, by rw [h]; exact Px.row (heap_alloc_new _ _) s P⟩
theorem Px.all {w : World} {Q : Nat} {s : Ps} {P : Pu} (h : Px w Q s P) : w.rangeAt Q 0 (pcells s P).toList := fun j v hv => by
  rw [Nat.zero_add, h.cell j, ← Array.getElem?_toList]
  exact hv
theorem wpList_load_px {ops : Array Oper} {rest : List Oper} {op : Oper} {a : Act} {w : World} {Q : Exit → Act → World → Prop} {R : Nat} {s : Ps} {P : Pu} (x : Operand) (ho : op.op = .load 49 x) (hx : a.eval x = .pointer (some ⟨R, 0, none⟩)) (h : Px w R s P) (hw : Region.wanted op (yielded ops a.tmps) = true)
    (hK : wpList Try.prog ops Q rest (a.put op.dst (pv s P)) w) : wpList Try.prog ops Q (op :: rest) a w := by
  unfold wpList
  rw [if_pos hw]
  exact .inl (wp_load_mid 49 x ho R 0 hx (pcells s P).toList _ (Px.all h) Try.underlying49 rfl (by kernel_rfl) (by rw [Array.toArray_toList]; exact hK))
theorem results_p1 {fn : Func} {p u : Tmp} (h : fn.results = #[.cell p 49, .tmp u]) (tmps : Array Value) (w : World) {Q : Nat} {s : Ps} {P : Pu} {y : Value} (hx : Px w Q s P) (hp : tmps.getD p undef = .pointer (some ⟨Q, 0, none⟩)) (hy : tmps.getD u undef = y) : (results fn tmps).run Try.prog w = .ok (.tuple #[pv s P, y]) w := by
  have hl : (loadVar 49 ⟨Q, 0, none⟩).run Try.prog w = .ok (pv s P) w := run_loadVar_row w Q 49 49 _ (0, 0) _ hx Try.underlying49 rfl (by kernel_rfl)
  rw [results_cell_tmp h, hp, hy]
  simp [asAddr, hl]
theorem results_p0 {fn : Func} {p : Tmp} (h : fn.results = #[.cell p 49]) (tmps : Array Value) (w : World) {Q : Nat} {s : Ps} {P : Pu} (hx : Px w Q s P) (hp : tmps.getD p undef = .pointer (some ⟨Q, 0, none⟩)) : (results fn tmps).run Try.prog w = .ok (pv s P) w :=
  results_cell_row h tmps w Q 49 _ (0, 0) _ hp hx Try.underlying49 rfl (by kernel_rfl)
/-- behind a function that returns what is public, in memory of its own -/
def PrA (w : World) (P : Pu) (y : Value) (e : Ending) (w' : World) : Prop := ∃ s', e = .returned (.tuple #[pv s' P, y]) ∧ PuO w.heap.size w'.heap.size w' s' P ∧ Below w.heap.size w w'
def PcA (w : World) (P : Pu) (e : Ending) (w' : World) : Prop := ∃ s', e = .returned (pv s' P) ∧ PuO w.heap.size w'.heap.size w' s' P ∧ Below w.heap.size w w'
end Go.Proofs.Yteoeahmnonolmaa
