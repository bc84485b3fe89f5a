/-
  No cell of these rows narrows 'for every input' (looked for: loops, veiled, ifaces, maps, wideKeys, modest, calm, conditions, laid).
  DERIVED. THE GIVEN ROWS OF THIS SEAT. 5 by the template 'for every input the law returns true; each argument reads behind the call as it read before'; 0 by the template 'total and deterministic' (their statements: YtkjakcoejnhojaaTotals.lean).
  GIVEN WITH THE SEED: the statements are not yours to turn. If you find one false, say at which input.
  Laid BY PROGRAM, IN A SANDBOX (cutbox-rows.mjs): the forced cells as the released guide's own fill.sh prints them over the translation dcd6b60f5eebcb84… (all of the seat's roots in one cut). By AI agents, Wed Nov 11 2026. No macro, syntax, notation, axiom, sorry.
-/
import Derived.Test.YtkjakcoejnhojaaChecked
import GoSem.Claim
import GoSem.ClaimJoined
import GoSem.ClaimMapViews
import Derived.JoinedTies
import Derived.KernelRfl
namespace Go.Proofs.Ytkjakcoejnhojaa
/- THE CELL 'sum', in the pinned program and in every row, IS THE sha256 OF THE DUMP (.gsa) THAT YtkjakcoejnhojaaProg.lean LOADS. Nothing in Lean hashes anything: it is a label: what it is worth is what the hold of that sum in a sandbox is worth. -/
noncomputable def Try.pinned : Pinned := { name := "ytkjakcoejnhojaa", sum := "dcd6b60f5eebcb8414431caf30164cfd80459fb4dcd0014d7a90d6e1f1fb4efd", checked := Try.checked }
namespace Rows
def none {H : Type} : Left H := { results := [], args := [] }

/-- 'zeitnotlaw12.RopeCharges': WHATEVER THE INPUT: true; the input reads as it did. -/
def ropeChargesSpec : ChangeSpec := { name := "ropeCharges", fn := fun _ => fun
  | [d1, d2] => { results := [.lit (.bool true)], args := [d1, d2] }
  | _ => none }
def ropeChargesRow : OpenClaim := { program := "ytkjakcoejnhojaa", sum := "dcd6b60f5eebcb8414431caf30164cfd80459fb4dcd0014d7a90d6e1f1fb4efd", func := "zeitnot/zeitnotlaw12.RopeCharges", spec := "ropeCharges", unfollowed := true, recurses := true, apart := false }
def RopeChargesSaid : Prop := ropeChargesRow.holds Try.pinned (OpenSpec.ofChange ropeChargesSpec)

/-- ITS FALSE NEIGHBOUR: 'it returns false'. Refute it at one input. -/
def ropeChargesWrong : ChangeSpec := { name := "ropeCharges", fn := fun _ => fun
  | [d1, d2] => { results := [.lit (.bool false)], args := [d1, d2] }
  | _ => none }
def RopeChargesWrongFalsely : Prop := ropeChargesRow.holds Try.pinned (OpenSpec.ofChange ropeChargesWrong)

/-- 'zeitnotlaw12.RopeRefills': WHATEVER THE INPUT: true; the input reads as it did. -/
def ropeRefillsSpec : ChangeSpec := { name := "ropeRefills", fn := fun _ => fun
  | [d1, d2] => { results := [.lit (.bool true)], args := [d1, d2] }
  | _ => none }
def ropeRefillsRow : OpenClaim := { program := "ytkjakcoejnhojaa", sum := "dcd6b60f5eebcb8414431caf30164cfd80459fb4dcd0014d7a90d6e1f1fb4efd", func := "zeitnot/zeitnotlaw12.RopeRefills", spec := "ropeRefills", unfollowed := true, recurses := true, apart := false }
def RopeRefillsSaid : Prop := ropeRefillsRow.holds Try.pinned (OpenSpec.ofChange ropeRefillsSpec)

/-- ITS FALSE NEIGHBOUR: 'it returns false'. Refute it at one input. -/
def ropeRefillsWrong : ChangeSpec := { name := "ropeRefills", fn := fun _ => fun
  | [d1, d2] => { results := [.lit (.bool false)], args := [d1, d2] }
  | _ => none }
def RopeRefillsWrongFalsely : Prop := ropeRefillsRow.holds Try.pinned (OpenSpec.ofChange ropeRefillsWrong)

/-- 'zeitnotlaw12.RopeUntils': WHATEVER THE INPUT: true; the input reads as it did. -/
def ropeUntilsSpec : ChangeSpec := { name := "ropeUntils", fn := fun _ => fun
  | [d] => { results := [.lit (.bool true)], args := [d] }
  | _ => none }
def ropeUntilsRow : OpenClaim := { program := "ytkjakcoejnhojaa", sum := "dcd6b60f5eebcb8414431caf30164cfd80459fb4dcd0014d7a90d6e1f1fb4efd", func := "zeitnot/zeitnotlaw12.RopeUntils", spec := "ropeUntils", unfollowed := true, recurses := true, apart := false }
def RopeUntilsSaid : Prop := ropeUntilsRow.holds Try.pinned (OpenSpec.ofChange ropeUntilsSpec)

/-- ITS FALSE NEIGHBOUR: 'it returns false'. Refute it at one input. -/
def ropeUntilsWrong : ChangeSpec := { name := "ropeUntils", fn := fun _ => fun
  | [d] => { results := [.lit (.bool false)], args := [d] }
  | _ => none }
def RopeUntilsWrongFalsely : Prop := ropeUntilsRow.holds Try.pinned (OpenSpec.ofChange ropeUntilsWrong)

/-- 'zeitnotlaw12.RopeTurns': WHATEVER THE INPUT: true; the input reads as it did. -/
def ropeTurnsSpec : ChangeSpec := { name := "ropeTurns", fn := fun _ => fun
  | [d1, d2] => { results := [.lit (.bool true)], args := [d1, d2] }
  | _ => none }
def ropeTurnsRow : OpenClaim := { program := "ytkjakcoejnhojaa", sum := "dcd6b60f5eebcb8414431caf30164cfd80459fb4dcd0014d7a90d6e1f1fb4efd", func := "zeitnot/zeitnotlaw12.RopeTurns", spec := "ropeTurns", unfollowed := true, recurses := true, apart := false }
def RopeTurnsSaid : Prop := ropeTurnsRow.holds Try.pinned (OpenSpec.ofChange ropeTurnsSpec)

/-- ITS FALSE NEIGHBOUR: 'it returns false'. Refute it at one input. -/
def ropeTurnsWrong : ChangeSpec := { name := "ropeTurns", fn := fun _ => fun
  | [d1, d2] => { results := [.lit (.bool false)], args := [d1, d2] }
  | _ => none }
def RopeTurnsWrongFalsely : Prop := ropeTurnsRow.holds Try.pinned (OpenSpec.ofChange ropeTurnsWrong)

/-- 'zeitnotlaw12.RopeHolds': WHATEVER THE INPUT: true; the input reads as it did. -/
def ropeHoldsSpec : ChangeSpec := { name := "ropeHolds", fn := fun _ => fun
  | [d1, d2, d3] => { results := [.lit (.bool true)], args := [d1, d2, d3] }
  | _ => none }
def ropeHoldsRow : OpenClaim := { program := "ytkjakcoejnhojaa", sum := "dcd6b60f5eebcb8414431caf30164cfd80459fb4dcd0014d7a90d6e1f1fb4efd", func := "zeitnot/zeitnotlaw12.RopeHolds", spec := "ropeHolds", unfollowed := true, recurses := true, apart := false }
def RopeHoldsSaid : Prop := ropeHoldsRow.holds Try.pinned (OpenSpec.ofChange ropeHoldsSpec)

/-- ITS FALSE NEIGHBOUR: 'it returns false'. Refute it at one input. -/
def ropeHoldsWrong : ChangeSpec := { name := "ropeHolds", fn := fun _ => fun
  | [d1, d2, d3] => { results := [.lit (.bool false)], args := [d1, d2, d3] }
  | _ => none }
def RopeHoldsWrongFalsely : Prop := ropeHoldsRow.holds Try.pinned (OpenSpec.ofChange ropeHoldsWrong)

/- THE SECOND FORM. 'bulk': how many values and letters a reading holds, each counted each time it is reached (what is shared counts as often as it is met; a slice's spare places count too). A statement '..UptoSaid' is the law's where the arguments, and the package variables that the reading takes, are together of bulk at most 1048576: NARROWER than '..Said'. Prove '..Said' where nothing that the law and all that it calls make is longer than what came in: it says more and counts as full. Else prove '..UptoSaid'. A law counts once. -/
mutual
def uptoBulk {H : Type} : DataW H → Nat
  | .lit (.string bytes) => bytes.length + 1
  | .lit _ => 1
  | .nil => 1
  | .ptr d => uptoBulk d + 1
  | .slice elems spare => uptoBulkAll elems + uptoBulkAll spare + 1
  | .agg parts => uptoBulkAll parts + 1
  | .iface _ d => uptoBulk d + 1
  | .map entries => uptoBulkEntries entries + 1
  | .held _ => 1
def uptoBulkAll {H : Type} : List (DataW H) → Nat
  | [] => 0
  | d :: r => uptoBulk d + uptoBulkAll r
def uptoBulkEntries {H : Type} : List (Lit × DataW H) → Nat
  | [] => 0
  | x :: r => uptoBulkEntry x + uptoBulkEntries r
def uptoBulkEntry {H : Type} : Lit × DataW H → Nat
  | (.string bytes, d) => bytes.length + uptoBulk d + 1
  | (_, d) => uptoBulk d + 1
 end
def uptoSmall : (H : Type) → List (DataW H) → Bool := fun _ ds => decide (uptoBulkAll ds ≤ 1048576)
def OpenSpec.upto (s : _root_.Go.ChangeSpec) : _root_.Go.OpenSpec := { _root_.Go.OpenSpec.ofChange s with cond := some uptoSmall }

/-- 'zeitnotlaw12.RopeCharges', WHERE WHAT IT READS IS OF BULK AT MOST 1048576: true; the input reads as it did. -/
def ropeChargesUptoRow : OpenClaim := { program := "ytkjakcoejnhojaa", sum := "dcd6b60f5eebcb8414431caf30164cfd80459fb4dcd0014d7a90d6e1f1fb4efd", func := "zeitnot/zeitnotlaw12.RopeCharges", spec := "ropeCharges", unfollowed := true, recurses := true, apart := false, narrowed := true }
def RopeChargesUptoSaid : Prop := ropeChargesUptoRow.holds Try.pinned (OpenSpec.upto ropeChargesSpec)

/-- 'zeitnotlaw12.RopeRefills', WHERE WHAT IT READS IS OF BULK AT MOST 1048576: true; the input reads as it did. -/
def ropeRefillsUptoRow : OpenClaim := { program := "ytkjakcoejnhojaa", sum := "dcd6b60f5eebcb8414431caf30164cfd80459fb4dcd0014d7a90d6e1f1fb4efd", func := "zeitnot/zeitnotlaw12.RopeRefills", spec := "ropeRefills", unfollowed := true, recurses := true, apart := false, narrowed := true }
def RopeRefillsUptoSaid : Prop := ropeRefillsUptoRow.holds Try.pinned (OpenSpec.upto ropeRefillsSpec)

/-- 'zeitnotlaw12.RopeUntils', WHERE WHAT IT READS IS OF BULK AT MOST 1048576: true; the input reads as it did. -/
def ropeUntilsUptoRow : OpenClaim := { program := "ytkjakcoejnhojaa", sum := "dcd6b60f5eebcb8414431caf30164cfd80459fb4dcd0014d7a90d6e1f1fb4efd", func := "zeitnot/zeitnotlaw12.RopeUntils", spec := "ropeUntils", unfollowed := true, recurses := true, apart := false, narrowed := true }
def RopeUntilsUptoSaid : Prop := ropeUntilsUptoRow.holds Try.pinned (OpenSpec.upto ropeUntilsSpec)

/-- 'zeitnotlaw12.RopeTurns', WHERE WHAT IT READS IS OF BULK AT MOST 1048576: true; the input reads as it did. -/
def ropeTurnsUptoRow : OpenClaim := { program := "ytkjakcoejnhojaa", sum := "dcd6b60f5eebcb8414431caf30164cfd80459fb4dcd0014d7a90d6e1f1fb4efd", func := "zeitnot/zeitnotlaw12.RopeTurns", spec := "ropeTurns", unfollowed := true, recurses := true, apart := false, narrowed := true }
def RopeTurnsUptoSaid : Prop := ropeTurnsUptoRow.holds Try.pinned (OpenSpec.upto ropeTurnsSpec)

/-- 'zeitnotlaw12.RopeHolds', WHERE WHAT IT READS IS OF BULK AT MOST 1048576: true; the input reads as it did. -/
def ropeHoldsUptoRow : OpenClaim := { program := "ytkjakcoejnhojaa", sum := "dcd6b60f5eebcb8414431caf30164cfd80459fb4dcd0014d7a90d6e1f1fb4efd", func := "zeitnot/zeitnotlaw12.RopeHolds", spec := "ropeHolds", unfollowed := true, recurses := true, apart := false, narrowed := true }
def RopeHoldsUptoSaid : Prop := ropeHoldsUptoRow.holds Try.pinned (OpenSpec.upto ropeHoldsSpec)

end Rows
end Go.Proofs.Ytkjakcoejnhojaa
