/- Of what was there only the blocks of a list have changed ('Onl'). -/
import Derived.Test.YteoeahmnonolmaaAb
import Derived.Laws.Tables
import Derived.Laws.IdiomCopy
namespace Go.Proofs.Yteoeahmnonolmaa
open Go.RowKit
set_option linter.unusedVariables false

structure Onl (S : List Nat) (W W' : World) : Prop where
  os : W'.os = W.os
  tape : W'.tape = W.tape
  output : W'.output = W.output
  size : W.heap.size ≤ W'.heap.size
  block : ∀ k, k < W.heap.size → k ∉ S → W'.heap[k]? = W.heap[k]?

theorem Onl.of {S : List Nat} {W W' : World} (h : Below W.heap.size W W') : Onl S W W' := ⟨h.os, h.tape, h.output, h.size, fun k hk _ => h.block k hk⟩
theorem Onl.refl (S : List Nat) (W : World) : Onl S W W := .of (Below.refl _ _)
theorem Onl.trans {S : List Nat} {a b c : World} (h : Onl S a b) (k : Onl S b c) : Onl S a c :=
  ⟨k.os.trans h.os, k.tape.trans h.tape, k.output.trans h.output, Nat.le_trans h.size k.size, fun i hi hne => (k.block i (Nat.lt_of_lt_of_le hi h.size) hne).trans (h.block i hi hne)⟩
theorem Onl.grow {S : List Nat} {w W W' : World} (h : Onl S w W) (g : Below W.heap.size W W') : Onl S w W' := h.trans (.of g)
theorem Onl.drew {S : List Nat} {w W : World} (h : Onl S w W) : Onl S w W.drew := ⟨h.os, h.tape, h.output, h.size, h.block⟩
theorem Onl.setCell {S : List Nat} {w W : World} (h : Onl S w W) {q : Addr} (hq : q.block ∈ S ∨ w.heap.size ≤ q.block) (v : Value) : Onl S w (W.setCell q v) :=
  ⟨h.os, h.tape, h.output, by simp [World.setCell, h.size], fun k hk hne => (Below.heap_setCell _ _ _ _ (by rintro rfl; rcases hq with h1 | h1; exact hne h1; omega)).trans (h.block k hk hne)⟩
theorem Onl.setRow {S : List Nat} {w W : World} (h : Onl S w W) {g : Nat} (hq : g ∈ S ∨ w.heap.size ≤ g) (cs : Array Value) : Onl S w (W.setRow g cs) :=
  ⟨h.os, h.tape, h.output, by simp [World.setRow, h.size], fun k hk hne => (setRow_other _ _ _ _ (by rintro rfl; rcases hq with h1 | h1; exact hne h1; omega)).trans (h.block k hk hne)⟩
theorem Onl.setCells {S : List Nat} {w : World} {g : Nat} : ∀ (vs : List Value) (o : Nat) (W : World), Onl S w W → (g ∈ S ∨ w.heap.size ≤ g) → Onl S w (W.setCells g o vs)
  | [], _, _, h, _ => h
  | v :: r, o, W, h, hq => Onl.setCells r (o + 1) _ (h.setCell (q := ⟨g, o, none⟩) hq v) hq
/-- fewer blocks named: those that were not there before need not be -/
theorem Onl.less {S S' : List Nat} {w W : World} (h : Onl S w W) (hs : ∀ k ∈ S, k ∈ S' ∨ w.heap.size ≤ k) : Onl S' w W :=
  ⟨h.os, h.tape, h.output, h.size, fun k hk hne => h.block k hk (fun hm => by rcases hs k hm with h1 | h1; exact hne h1; omega)⟩
theorem Onl.below {S : List Nat} {w W : World} (h : Onl S w W) (hs : ∀ k ∈ S, w.heap.size ≤ k) : Below w.heap.size w W :=
  ⟨h.os, h.tape, h.output, h.size, fun k hk => h.block k hk (fun hm => by have := hs k hm; omega)⟩
theorem Onl.cell {S : List Nat} {W W' : World} (h : Onl S W W') {b o : Nat} (hlt : b < W.heap.size) (hb : b ∉ S) : W'.cell? ⟨b, o, none⟩ = W.cell? ⟨b, o, none⟩ := World.cell?_of_block (w := W) (h.block b hlt hb)
theorem Onl.frozen {S : List Nat} {W W' : World} (h : Onl S W W') {b o : Nat} (hlt : b < W.heap.size) (hb : b ∉ S) : W'.frozen? ⟨b, o, none⟩ = W.frozen? ⟨b, o, none⟩ := World.frozen?_of_block (w := W) (h.block b hlt hb)

theorem Kept.onl {B n : Nat} {S : List Nat} {w W W' : World} {L : List (Nat × Nat × Value)} (k : Kept B w n L W) (h : Onl S W W') (hB : B ≤ n) (hS : ∀ b ∈ S, B ≤ b) (hne : ∀ x ∈ L, x.1 ∉ S) : Kept B w n L W' :=
  ⟨⟨h.os.trans k.below.os, h.tape.trans k.below.tape, h.output.trans k.below.output, Nat.le_trans k.below.size h.size, fun i hi => (h.block i (Nat.lt_of_lt_of_le hi (Nat.le_trans hB k.size)) (fun hm => by have := hS i hm; omega)).trans (k.below.block i hi)⟩,
   Nat.le_trans k.size h.size, fun x hx => by
    obtain ⟨h1, h2, h3⟩ := k.cells x hx
    have hlt : x.1 < W.heap.size := Nat.lt_of_lt_of_le h1 k.size
    exact ⟨h1, (h.cell hlt (hne x hx)).trans h2, (h.frozen hlt (hne x hx)).trans h3⟩⟩
end Go.Proofs.Yteoeahmnonolmaa
