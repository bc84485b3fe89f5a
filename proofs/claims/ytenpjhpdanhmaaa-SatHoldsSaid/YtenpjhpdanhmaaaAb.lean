/- What a function's own variables hold while its callees make new memory ('Kept'), and regions that draw their order, whose operations read such memory and whose callees only make new memory: walked once, in the order of the text. -/
import Derived.WalkKit
import Derived.Deep.QuietTactic
import Derived.BigQuiet
import Derived.Lib.Hide
import Derived.Handy
namespace Go.Proofs.Ytenpjhpdanhmaaa
open Go.RowKit

/-- W is w below B; it has n blocks at least; the cells of L hold what L says and may be written -/
structure Kept (B : Nat) (w : World) (n : Nat) (L : List (Nat × Nat × Value)) (W : World) : Prop where
  below : Below B w W
  size : n ≤ W.heap.size
  cells : ∀ x ∈ L, x.1 < n ∧ W.cell? ⟨x.1, x.2.1, none⟩ = some x.2.2 ∧ W.frozen? ⟨x.1, x.2.1, none⟩ = false

theorem Kept.step {B n : Nat} {w W W' : World} {L : List (Nat × Nat × Value)} (k : Kept B w n L W) (hB : B ≤ n) (hb : Below W.heap.size W W') : Kept B w n L W' :=
  ⟨k.below.trans (hb.mono (Nat.le_trans hB k.size)), Nat.le_trans k.size hb.size, fun x hx => by
    obtain ⟨h1, h2, h3⟩ := k.cells x hx
    have hlt : x.1 < W.heap.size := Nat.lt_of_lt_of_le h1 k.size
    exact ⟨h1, (hb.cell (p := ⟨x.1, x.2.1, none⟩) hlt).trans h2, (hb.frozen (p := ⟨x.1, x.2.1, none⟩) hlt).trans h3⟩⟩

/-- behind a call that only made new memory -/
theorem Kept.of {B n : Nat} {w W W' : World} {L : List (Nat × Nat × Value)} (hb : Below W.heap.size W W') (h1 : Below B w W) (h2 : n ≤ W.heap.size) (hB : B ≤ n)
    (h3 : ∀ x ∈ L, x.1 < n ∧ W.cell? ⟨x.1, x.2.1, none⟩ = some x.2.2 ∧ W.frozen? ⟨x.1, x.2.1, none⟩ = false) : Kept B w n L W' := Kept.step ⟨h1, h2, h3⟩ hB hb

theorem Kept.drew {B n : Nat} {w W : World} {L : List (Nat × Nat × Value)} (k : Kept B w n L W) : Kept B w n L W.drew :=
  ⟨k.below.drew, k.size, k.cells⟩

theorem Kept.at {B n : Nat} {w W : World} {L : List (Nat × Nat × Value)} (k : Kept B w n L W) {b o : Nat} {v : Value} (h : (b, o, v) ∈ L) : W.cell? ⟨b, o, none⟩ = some v := (k.cells _ h).2.1
theorem Kept.free {B n : Nat} {w W : World} {L : List (Nat × Nat × Value)} (k : Kept B w n L W) {b o : Nat} {v : Value} (h : (b, o, v) ∈ L) : W.frozen? ⟨b, o, none⟩ = false := (k.cells _ h).2.2

/-- such a world, as a structure of its own (simp does not take it apart) -/
structure KW (B : Nat) (w : World) (n : Nat) (L : List (Nat × Nat × Value)) where
  val : World
  kept : Kept B w n L val

theorem wp_region_kept {P : Program} {id : Nat} {Q : Exit → Act → World → Prop} {a : Act} {w W : World} {B n : Nat} {L : List (Nat × Nat × Value)} {l : List Oper}
    (k : Kept B w n L W) (hm : P.follows .mixedOrders = true) (hB : Region.lexB .any l.toArray = true)
    (h : Nonempty (KW B w n L) → wpQuiet P l.toArray (fun w' => ∃ s : KW B w n L, w' = s.val) (fun a' => ∀ w', (∃ s : KW B w n L, w' = s.val) → Q .normal a' w') l a) : (Code.region id l.toArray true).wp P Q a W :=
  wp_region_quiet (C := fun w' => ∃ s : KW B w n L, w' = s.val) hm hB ⟨⟨W.drew, k.drew⟩, rfl⟩ (by simpa using h ⟨⟨W, k⟩⟩)

theorem calls_kept {P : Program} {f : FuncId} {args : Array Value} {w : World} {v : Value} {B n : Nat} {L : List (Nat × Nat × Value)} (hB : B ≤ n) {s : KW B w n L}
    (h : Calls P f args s.val fun e w' => e = .returned v ∧ Below s.val.heap.size s.val w') : Calls P f args s.val fun e w'' => e = .returned v ∧ ∃ s' : KW B w n L, w'' = s'.val :=
  h.mono fun _ w' ⟨he, hb⟩ => ⟨he, ⟨w', s.kept.step hB hb⟩, rfl⟩

/-- the same of a callee that leaves the world alone -/
theorem calls_kept0 {P : Program} {f : FuncId} {args : Array Value} {w : World} {v : Value} {B n : Nat} {L : List (Nat × Nat × Value)} {s : KW B w n L}
    (h : Calls P f args s.val fun e w' => e = .returned v ∧ s.val = w') : Calls P f args s.val fun e w'' => e = .returned v ∧ ∃ s' : KW B w n L, w'' = s'.val :=
  h.mono fun _ _ ⟨he, hb⟩ => ⟨he, s, hb.symm⟩

theorem live {W w1 : World} (hb : Below W.heap.size W w1) {b o : Nat} {v : Value} (h : b < W.heap.size) (hc : W.cell? ⟨b, o, none⟩ = some v) : w1.cell? ⟨b, o, none⟩ = some v := (hb.cell (p := ⟨b, o, none⟩) h).trans hc
theorem liveF {W w1 : World} (hb : Below W.heap.size W w1) {b o : Nat} (h : b < W.heap.size) (hc : W.frozen? ⟨b, o, none⟩ = false) : w1.frozen? ⟨b, o, none⟩ = false := (hb.frozen (p := ⟨b, o, none⟩) h).trans hc
theorem below_via {w W w1 : World} (h : Below w.heap.size w W) (hb : Below W.heap.size W w1) : Below w.heap.size w w1 := h.trans (hb.mono h.size)

theorem ret_bool {a b : Bool} (h : a = b) : Ending.returned (.bool a) = .returned (.bool b) := by rw [h]
theorem ret_int {k : IntKind} {a b : Int} (h : a = b) : Ending.returned (.int k a) = .returned (.int k b) := by rw [h]
theorem val_int {k : IntKind} {a b : Int} (h : a = b) : Value.int k a = .int k b := by rw [h]
theorem ret_two {k l : IntKind} {a b c d : Int} (h : a = b) (g : c = d) : Ending.returned (.tuple #[.int k a, .int l c]) = .returned (.tuple #[.int k b, .int l d]) := by rw [h, g]
end Go.Proofs.Ytenpjhpdanhmaaa
