/- Boards in memory. -/
import Derived.Test.YteoeahmnonolmaaRows
import Derived.Test.YteoeahmnonolmaaReg
import Derived.Test.YteoeahmnonolmaaRw
import Derived.Test.YteoeahmnonolmaaBPl
import Derived.WalkKit
import Derived.ProofKit
import Derived.LoopTactic
import Derived.Lib.Hide
import Derived.Lib.SliceRun
import Derived.Laws.CopyOwn
import Derived.Laws.IdiomCopy
namespace Go.Proofs.Yteoeahmnonolmaa
open Go.RowKit Plain
set_option linter.unusedVariables false
set_option linter.unusedSimpArgs false

structure Sl where
  a : Option Addr
  n : Nat
  c : Nat
def Sl.v (s : Sl) : Value := .slice s.a s.n s.c
def ic (z : Int) : List Value := [.int .i64 z]
theorem ic_ok : ∀ z : Int, (ic z).length = 1 ∧ ∀ u ∈ ic z, u.oneCell' = true := fun z => ⟨rfl, fun u hu => by simp [ic] at hu; subst hu; rfl⟩
theorem ic1 : ∀ x, ic x = [Value.int .i64 x] := fun _ => rfl
theorem ic_len {l : List Int} : ∀ x ∈ l, (ic x).length = 1 := fun _ _ => rfl
def oc (o : Ob) : List Value := [.int .i64 o.id, .int .i64 o.cd, .int .i64 o.ow, .int .i64 o.po, .int .i64 o.tg, .int .i64 o.da, .int .i64 o.co, .int .i64 o.pp, .int .i64 o.pt, .bool o.ta, .bool o.si, .bool o.dm]
theorem oc_ok : ∀ z : Ob, (oc z).length = 12 ∧ ∀ u ∈ oc z, u.oneCell' = true := fun z => ⟨rfl, fun u hu => by simp [oc] at hu; rcases hu with rfl | rfl | rfl | rfl | rfl | rfl | rfl | rfl | rfl | rfl | rfl | rfl <;> rfl⟩
def tc (t : Tg) : List Value := [.int .i64 t.id, .int .i64 t.pl]
theorem tc_ok : ∀ z : Tg, (tc z).length = 2 ∧ ∀ u ∈ tc z, u.oneCell' = true := fun z => ⟨rfl, fun u hu => by simp [tc] at hu; rcases hu with rfl | rfl <;> rfl⟩
def kc (t : Bk) : List Value := [.int .i64 t.bl, .int .i64 t.at']
theorem kc_ok : ∀ z : Bk, (kc z).length = 2 ∧ ∀ u ∈ kc z, u.oneCell' = true := fun z => ⟨rfl, fun u hu => by simp [kc] at hu; rcases hu with rfl | rfl <;> rfl⟩
def itc (x : It × Sl) : List Value := [.int .i64 x.1.pl, .int .i64 x.1.id, .int .i64 x.1.cd, .int .i64 x.1.tr, x.2.v]
theorem itc_ok : ∀ z : It × Sl, (itc z).length = 5 ∧ ∀ u ∈ itc z, u.oneCell' = true := fun z => ⟨rfl, fun u hu => by simp [itc, Sl.v] at hu; rcases hu with rfl | rfl | rfl | rfl | rfl <;> rfl⟩
/-- items that can be read: their cells, and their targets -/
def ItR (w : World) (v : Value) (l : List It) : Prop := ∃ l' : List (It × Sl), l'.map Prod.fst = l ∧ Rw itc 5 w v l' ∧ ∀ x ∈ l', Rw tc 2 w x.2.v x.1.tg
/-- the slices of a board -/
structure Bs where
  ob : Sl
  l0 : Sl
  h0 : Sl
  f0 : Sl
  g0 : Sl
  l1 : Sl
  h1 : Sl
  f1 : Sl
  g1 : Sl
  st : Sl
  qu : Sl
  at' : Sl
  bl : Sl
def bcells (s : Bs) (B : Bd) : Array Value := #[s.ob.v, .int .i64 B.s0.li, .int .i64 B.s0.p0, .int .i64 B.s0.p1, .int .i64 B.s0.p2, .int .i64 B.s0.p3, s.l0.v, s.h0.v, s.f0.v, s.g0.v, .bool B.s0.em, .bool B.s0.py, .bool B.s0.kp, .int .i64 B.s0.mu, .int .i64 B.s0.ac, .int .i64 B.s1.li, .int .i64 B.s1.p0, .int .i64 B.s1.p1, .int .i64 B.s1.p2, .int .i64 B.s1.p3, s.l1.v, s.h1.v, s.f1.v, s.g1.v, .bool B.s1.em, .bool B.s1.py, .bool B.s1.kp, .int .i64 B.s1.mu, .int .i64 B.s1.ac, s.st.v, s.qu.v, s.at'.v, s.bl.v, .int .i64 B.tu, .int .i64 B.ac, .int .i64 B.ph, .int .i64 B.ho, .int .i64 B.pa]
def bv (s : Bs) (B : Bd) : Value := .agg (bcells s B)
structure SeR (w : World) (l h f g : Sl) (S : Se) : Prop where
  l : Rw ic 1 w l.v S.lib
  h : Rw ic 1 w h.v S.hand
  f : Rw ic 1 w f.v S.fld
  g : Rw ic 1 w g.v S.grv
/-- a board that can be read -/
structure BdR (w : World) (s : Bs) (B : Bd) : Prop where
  ob : Rw oc 12 w s.ob.v B.ob
  s0 : SeR w s.l0 s.h0 s.f0 s.g0 B.s0
  s1 : SeR w s.l1 s.h1 s.f1 s.g1 B.s1
  st : ItR w s.st.v B.st
  qu : ItR w s.qu.v B.qu
  att : Rw ic 1 w s.at'.v B.att
  bl : Rw kc 2 w s.bl.v B.bl
theorem ItR.below {w w' : World} {v : Value} {l : List It} (h : ItR w v l) (hb : Below w.heap.size w w') : ItR w' v l := by
  obtain ⟨l', h1, h2, h3⟩ := h
  exact ⟨l', h1, h2.below hb, fun x hx => (h3 x hx).below hb⟩
theorem SeR.below {w w' : World} {l h f g : Sl} {S : Se} (r : SeR w l h f g S) (hb : Below w.heap.size w w') : SeR w' l h f g S := ⟨r.l.below hb, r.h.below hb, r.f.below hb, r.g.below hb⟩
theorem BdR.below {w w' : World} {s : Bs} {B : Bd} (h : BdR w s B) (hb : Below w.heap.size w w') : BdR w' s B := ⟨h.ob.below hb, h.s0.below hb, h.s1.below hb, h.st.below hb, h.qu.below hb, h.att.below hb, h.bl.below hb⟩
theorem bcells_size (s : Bs) (B : Bd) : (bcells s B).size = 38 := rfl
theorem bv_cells (s : Bs) (B : Bd) : (bv s B).cells = bcells s B := rfl
end Go.Proofs.Yteoeahmnonolmaa
