/- What a function's own variables hold while its callees make new memory ('Kept'), and regions that draw their order, whose operations read such memory and whose callees only make new memory: walked once, in the order of the text. -/
import Derived.WalkKit
import Derived.Deep.QuietTactic
import Derived.BigQuiet
import Derived.Lib.Hide
import Derived.Handy
namespace Go.Proofs.Yteoeahmnonolmaa
open Go.RowKit

/-- W is w below B; it has n blocks at least; the cells of L hold what L says and may be written -/
structure Kept (B : Nat) (w : World) (n : Nat) (L : List (Nat × Nat × Value)) (W : World) : Prop where
  below : Below B w W
  size : n ≤ W.heap.size
  cells : ∀ x ∈ L, x.1 < n ∧ W.cell? ⟨x.1, x.2.1, none⟩ = some x.2.2 ∧ W.frozen? ⟨x.1, x.2.1, none⟩ = false

theorem Kept.step {B n : Nat} {w W W' : World} {L : List (Nat × Nat × Value)} (k : Kept B w n L W) (hB : B ≤ n) (hb : Below W.heap.size W W') : Kept B w n L W' :=
  ⟨k.below.trans (hb.mono (Nat.le_trans hB k.size)), Nat.le_trans k.size hb.size, fun x hx => by
    obtain ⟨h1, h2, h3⟩ := k.cells x hx
    have hlt : x.1 < W.heap.size := Nat.lt_of_lt_of_le h1 k.size
    exact ⟨h1, (hb.cell (p := ⟨x.1, x.2.1, none⟩) hlt).trans h2, (hb.frozen (p := ⟨x.1, x.2.1, none⟩) hlt).trans h3⟩⟩

/-- behind a call that only made new memory -/
theorem Kept.of {B n : Nat} {w W W' : World} {L : List (Nat × Nat × Value)} (hb : Below W.heap.size W W') (h1 : Below B w W) (h2 : n ≤ W.heap.size) (hB : B ≤ n)
    (h3 : ∀ x ∈ L, x.1 < n ∧ W.cell? ⟨x.1, x.2.1, none⟩ = some x.2.2 ∧ W.frozen? ⟨x.1, x.2.1, none⟩ = false) : Kept B w n L W' := Kept.step ⟨h1, h2, h3⟩ hB hb

theorem Kept.drew {B n : Nat} {w W : World} {L : List (Nat × Nat × Value)} (k : Kept B w n L W) : Kept B w n L W.drew :=
  ⟨k.below.drew, k.size, k.cells⟩

theorem Kept.at {B n : Nat} {w W : World} {L : List (Nat × Nat × Value)} (k : Kept B w n L W) {b o : Nat} {v : Value} (h : (b, o, v) ∈ L) : W.cell? ⟨b, o, none⟩ = some v := (k.cells _ h).2.1
theorem Kept.free {B n : Nat} {w W : World} {L : List (Nat × Nat × Value)} (k : Kept B w n L W) {b o : Nat} {v : Value} (h : (b, o, v) ∈ L) : W.frozen? ⟨b, o, none⟩ = false := (k.cells _ h).2.2

/-- such a world, as a structure of its own (simp does not take it apart) -/
structure KW (B : Nat) (w : World) (n : Nat) (L : List (Nat × Nat × Value)) where
  val : World
  kept : Kept B w n L val

theorem wp_region_kept {P : Program} {id : Nat} {Q : Exit → Act → World → Prop} {a : Act} {w W : World} {B n : Nat} {L : List (Nat × Nat × Value)} {l : List Oper}
    (k : Kept B w n L W) (hm : P.follows .mixedOrders = true) (hB : Region.lexB .any l.toArray = true)
    (h : Nonempty (KW B w n L) → wpQuiet P l.toArray (fun w' => ∃ s : KW B w n L, w' = s.val) (fun a' => ∀ w', (∃ s : KW B w n L, w' = s.val) → Q .normal a' w') l a) : (Code.region id l.toArray true).wp P Q a W :=
  wp_region_quiet (C := fun w' => ∃ s : KW B w n L, w' = s.val) hm hB ⟨⟨W.drew, k.drew⟩, rfl⟩ (by simpa using h ⟨⟨W, k⟩⟩)

theorem calls_kept {P : Program} {f : FuncId} {args : Array Value} {w : World} {v : Value} {B n : Nat} {L : List (Nat × Nat × Value)} (hB : B ≤ n) {s : KW B w n L}
    (h : Calls P f args s.val fun e w' => e = .returned v ∧ Below s.val.heap.size s.val w') : Calls P f args s.val fun e w'' => e = .returned v ∧ ∃ s' : KW B w n L, w'' = s'.val :=
  h.mono fun _ w' ⟨he, hb⟩ => ⟨he, ⟨w', s.kept.step hB hb⟩, rfl⟩

/-- the same of a callee that leaves the world alone -/
theorem calls_kept0 {P : Program} {f : FuncId} {args : Array Value} {w : World} {v : Value} {B n : Nat} {L : List (Nat × Nat × Value)} {s : KW B w n L}
    (h : Calls P f args s.val fun e w' => e = .returned v ∧ s.val = w') : Calls P f args s.val fun e w'' => e = .returned v ∧ ∃ s' : KW B w n L, w'' = s'.val :=
  h.mono fun _ _ ⟨he, hb⟩ => ⟨he, s, hb.symm⟩

/-- such a world of which a further fact E holds -/
structure KX (B : Nat) (w : World) (n : Nat) (L : List (Nat × Nat × Value)) (E : World → Prop) where
  val : World
  kept : Kept B w n L val
  ex : E val

theorem wp_region_keptX {P : Program} {id : Nat} {Q : Exit → Act → World → Prop} {a : Act} {w W : World} {B n : Nat} {L : List (Nat × Nat × Value)} {E : World → Prop} {l : List Oper}
    (k : Kept B w n L W) (he : E W) (hE : ∀ W W', E W → Below W.heap.size W W' → E W') (hm : P.follows .mixedOrders = true) (hB : Region.lexB .any l.toArray = true)
    (h : Nonempty (KX B w n L E) → wpQuiet P l.toArray (fun w' => ∃ s : KX B w n L E, w' = s.val) (fun a' => ∀ w', (∃ s : KX B w n L E, w' = s.val) → Q .normal a' w') l a) : (Code.region id l.toArray true).wp P Q a W :=
  wp_region_quiet (C := fun w' => ∃ s : KX B w n L E, w' = s.val) hm hB ⟨⟨W.drew, k.drew, hE _ _ he ((Below.refl _ _).drew)⟩, rfl⟩ (by simpa using h ⟨⟨W, k, he⟩⟩)

theorem calls_keptX {P : Program} {f : FuncId} {args : Array Value} {w : World} {v : Value} {B n : Nat} {L : List (Nat × Nat × Value)} {E : World → Prop} (hB : B ≤ n) (hE : ∀ W W', E W → Below W.heap.size W W' → E W') {s : KX B w n L E}
    (h : Calls P f args s.val fun e w' => e = .returned v ∧ Below s.val.heap.size s.val w') : Calls P f args s.val fun e w'' => e = .returned v ∧ ∃ s' : KX B w n L E, w'' = s'.val :=
  h.mono fun _ w' ⟨he, hb⟩ => ⟨he, ⟨w', s.kept.step hB hb, hE _ _ s.ex hb⟩, rfl⟩

theorem calls_keptX0 {P : Program} {f : FuncId} {args : Array Value} {w : World} {v : Value} {B n : Nat} {L : List (Nat × Nat × Value)} {E : World → Prop} {s : KX B w n L E}
    (h : Calls P f args s.val fun e w' => e = .returned v ∧ s.val = w') : Calls P f args s.val fun e w'' => e = .returned v ∧ ∃ s' : KX B w n L E, w'' = s'.val :=
  h.mono fun _ _ ⟨he, hb⟩ => ⟨he, s, hb.symm⟩

/-- of what was there only block P has changed -/
structure Only (P : Nat) (W W' : World) : Prop where
  os : W'.os = W.os
  tape : W'.tape = W.tape
  output : W'.output = W.output
  size : W.heap.size ≤ W'.heap.size
  block : ∀ k, k < W.heap.size → k ≠ P → W'.heap[k]? = W.heap[k]?

theorem Only.of {P : Nat} {W W' : World} (h : Below W.heap.size W W') : Only P W W' := ⟨h.os, h.tape, h.output, h.size, fun k hk _ => h.block k hk⟩
theorem Only.refl (P : Nat) (W : World) : Only P W W := .of (Below.refl _ _)
theorem Only.drew {P : Nat} {W W' : World} (h : Only P W W') : Only P W W'.drew := ⟨h.os, h.tape, h.output, h.size, h.block⟩
theorem Only.drewN {P : Nat} {W W' : World} (h : Only P W W') (n : Nat) : Only P W (W'.drewN n) := ⟨h.os, h.tape, h.output, h.size, h.block⟩
theorem Only.setCell {P : Nat} {W W' : World} (h : Only P W W') (i : Nat) (v : Value) : Only P W (W'.setCell ⟨P, i, none⟩ v) :=
  ⟨h.os, h.tape, h.output, by simp [World.setCell, h.size], fun k hk hne => (Below.heap_setCell _ _ _ _ hne).trans (h.block k hk hne)⟩
theorem Only.trans {P : Nat} {a b c : World} (h : Only P a b) (k : Only P b c) : Only P a c :=
  ⟨k.os.trans h.os, k.tape.trans h.tape, k.output.trans h.output, Nat.le_trans h.size k.size, fun i hi hne => (k.block i (Nat.lt_of_lt_of_le hi h.size) hne).trans (h.block i hi hne)⟩
theorem Only.grow {P : Nat} {w W W' : World} (h : Only P w W) (g : Below W.heap.size W W') : Only P w W' := h.trans (Only.of g)
theorem Only.setNew {P : Nat} {w W : World} (h : Only P w W) {q : Addr} (hq : w.heap.size ≤ q.block) (v : Value) : Only P w (W.setCell q v) :=
  ⟨h.os, h.tape, h.output, by simp [World.setCell, h.size], fun k hk hne => (Below.heap_setCell _ _ _ _ (by omega)).trans (h.block k hk hne)⟩
theorem Only.cell {P : Nat} {W W' : World} (h : Only P W W') {b o : Nat} (hlt : b < W.heap.size) (hb : b ≠ P) : W'.cell? ⟨b, o, none⟩ = W.cell? ⟨b, o, none⟩ := World.cell?_of_block (w := W) (h.block b hlt hb)
theorem Only.frozen {P : Nat} {W W' : World} (h : Only P W W') {b o : Nat} (hlt : b < W.heap.size) (hb : b ≠ P) : W'.frozen? ⟨b, o, none⟩ = W.frozen? ⟨b, o, none⟩ := World.frozen?_of_block (w := W) (h.block b hlt hb)
theorem Only.below {B P : Nat} {w W W' : World} (h : Only P W W') (hb : Below B w W) (hP : B ≤ P) (hB : B ≤ W.heap.size) : Below B w W' :=
  ⟨h.os.trans hb.os, h.tape.trans hb.tape, h.output.trans hb.output, Nat.le_trans hb.size h.size, fun k hk => (h.block k (by omega) (by omega)).trans (hb.block k hk)⟩

theorem Kept.only {B n P : Nat} {w W W' : World} {L : List (Nat × Nat × Value)} (k : Kept B w n L W) (h : Only P W W') (hB : B ≤ n) (hP : B ≤ P) (hne : ∀ x ∈ L, x.1 ≠ P) : Kept B w n L W' :=
  ⟨h.below k.below hP (Nat.le_trans hB k.size), Nat.le_trans k.size h.size, fun x hx => by
    obtain ⟨h1, h2, h3⟩ := k.cells x hx
    have hlt : x.1 < W.heap.size := Nat.lt_of_lt_of_le h1 k.size
    exact ⟨h1, (h.cell hlt (hne x hx)).trans h2, (h.frozen hlt (hne x hx)).trans h3⟩⟩

/-- behind a call that changed block P alone -/
theorem Kept.ofOnly {B n P : Nat} {w W W' : World} {L : List (Nat × Nat × Value)} (h : Only P W W') (hB : B ≤ n) (hP : B ≤ P) (hne : ∀ x ∈ L, x.1 ≠ P) (h1 : Below B w W) (h2 : n ≤ W.heap.size)
    (h3 : ∀ x ∈ L, x.1 < n ∧ W.cell? ⟨x.1, x.2.1, none⟩ = some x.2.2 ∧ W.frozen? ⟨x.1, x.2.1, none⟩ = false) : Kept B w n L W' := Kept.only ⟨h1, h2, h3⟩ h hB hP hne

theorem live {W w1 : World} (hb : Below W.heap.size W w1) {b o : Nat} {v : Value} (h : b < W.heap.size) (hc : W.cell? ⟨b, o, none⟩ = some v) : w1.cell? ⟨b, o, none⟩ = some v := (hb.cell (p := ⟨b, o, none⟩) h).trans hc
theorem liveF {W w1 : World} (hb : Below W.heap.size W w1) {b o : Nat} (h : b < W.heap.size) (hc : W.frozen? ⟨b, o, none⟩ = false) : w1.frozen? ⟨b, o, none⟩ = false := (hb.frozen (p := ⟨b, o, none⟩) h).trans hc
theorem below_via {w W w1 : World} (h : Below w.heap.size w W) (hb : Below W.heap.size W w1) : Below w.heap.size w w1 := h.trans (hb.mono h.size)

theorem ret_bool {a b : Bool} (h : a = b) : Ending.returned (.bool a) = .returned (.bool b) := by rw [h]
theorem ret_int {k : IntKind} {a b : Int} (h : a = b) : Ending.returned (.int k a) = .returned (.int k b) := by rw [h]
theorem val_int {k : IntKind} {a b : Int} (h : a = b) : Value.int k a = .int k b := by rw [h]
theorem ret_two {k l : IntKind} {a b c d : Int} (h : a = b) (g : c = d) : Ending.returned (.tuple #[.int k a, .int l c]) = .returned (.tuple #[.int k b, .int l d]) := by rw [h, g]
end Go.Proofs.Yteoeahmnonolmaa
