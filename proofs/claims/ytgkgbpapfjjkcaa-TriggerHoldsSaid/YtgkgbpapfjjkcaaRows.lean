/-
  No cell of these rows narrows 'for every input' (looked for: loops, veiled, ifaces, maps, wideKeys, modest, calm, conditions, laid).
  DERIVED. THE GIVEN ROWS OF THIS SEAT. 5 by the template 'for every input the law returns true; each argument reads behind the call as it read before'; 0 by the template 'total and deterministic' (their statements: YtgkgbpapfjjkcaaTotals.lean).
  GIVEN WITH THE SEED: the statements are not yours to turn. If you find one false, say at which input.
  Laid BY PROGRAM, IN A SANDBOX (cutbox-rows.mjs): the forced cells as the released guide's own fill.sh prints them over the translation f94a020485258803… (all of the seat's roots in one cut). By AI agents, Wed Nov 11 2026. No macro, syntax, notation, axiom, sorry.
-/
import Derived.Test.YtgkgbpapfjjkcaaChecked
import GoSem.Claim
import GoSem.ClaimJoined
import GoSem.ClaimMapViews
import Derived.JoinedTies
import Derived.KernelRfl
namespace Go.Proofs.Ytgkgbpapfjjkcaa
/- THE CELL 'sum', in the pinned program and in every row, IS THE sha256 OF THE DUMP (.gsa) THAT YtgkgbpapfjjkcaaProg.lean LOADS. Nothing in Lean hashes anything: it is a label: what it is worth is what the hold of that sum in a sandbox is worth. -/
noncomputable def Try.pinned : Pinned := { name := "ytgkgbpapfjjkcaa", sum := "f94a0204852588030825bc4309fee1a7d43233d88e58be82a08790f47e204664", checked := Try.checked }
namespace Rows
def none {H : Type} : Left H := { results := [], args := [] }

/-- 'zeitnotlaw19.TriggerOf': WHATEVER THE INPUT: true; the input reads as it did. -/
def triggerOfSpec : ChangeSpec := { name := "triggerOf", fn := fun _ => fun
  | [d1, d2, d3] => { results := [.lit (.bool true)], args := [d1, d2, d3] }
  | _ => none }
def triggerOfRow : OpenClaim := { program := "ytgkgbpapfjjkcaa", sum := "f94a0204852588030825bc4309fee1a7d43233d88e58be82a08790f47e204664", func := "zeitnot/zeitnotlaw19.TriggerOf", spec := "triggerOf", unfollowed := true, recurses := true, apart := false }
def TriggerOfSaid : Prop := triggerOfRow.holds Try.pinned (OpenSpec.ofChange triggerOfSpec)

/-- ITS FALSE NEIGHBOUR: 'it returns false'. Refute it at one input. -/
def triggerOfWrong : ChangeSpec := { name := "triggerOf", fn := fun _ => fun
  | [d1, d2, d3] => { results := [.lit (.bool false)], args := [d1, d2, d3] }
  | _ => none }
def TriggerOfWrongFalsely : Prop := triggerOfRow.holds Try.pinned (OpenSpec.ofChange triggerOfWrong)

/-- 'zeitnotlaw19.TriggerCollects': WHATEVER THE INPUT: true; the input reads as it did. -/
def triggerCollectsSpec : ChangeSpec := { name := "triggerCollects", fn := fun _ => fun
  | [d1, d2, d3, d4] => { results := [.lit (.bool true)], args := [d1, d2, d3, d4] }
  | _ => none }
def triggerCollectsRow : OpenClaim := { program := "ytgkgbpapfjjkcaa", sum := "f94a0204852588030825bc4309fee1a7d43233d88e58be82a08790f47e204664", func := "zeitnot/zeitnotlaw19.TriggerCollects", spec := "triggerCollects", unfollowed := true, recurses := true, apart := false }
def TriggerCollectsSaid : Prop := triggerCollectsRow.holds Try.pinned (OpenSpec.ofChange triggerCollectsSpec)

/-- ITS FALSE NEIGHBOUR: 'it returns false'. Refute it at one input. -/
def triggerCollectsWrong : ChangeSpec := { name := "triggerCollects", fn := fun _ => fun
  | [d1, d2, d3, d4] => { results := [.lit (.bool false)], args := [d1, d2, d3, d4] }
  | _ => none }
def TriggerCollectsWrongFalsely : Prop := triggerCollectsRow.holds Try.pinned (OpenSpec.ofChange triggerCollectsWrong)

/-- 'zeitnotlaw19.TriggerDrains': WHATEVER THE INPUT: true; the input reads as it did. -/
def triggerDrainsSpec : ChangeSpec := { name := "triggerDrains", fn := fun _ => fun
  | [d] => { results := [.lit (.bool true)], args := [d] }
  | _ => none }
def triggerDrainsRow : OpenClaim := { program := "ytgkgbpapfjjkcaa", sum := "f94a0204852588030825bc4309fee1a7d43233d88e58be82a08790f47e204664", func := "zeitnot/zeitnotlaw19.TriggerDrains", spec := "triggerDrains", unfollowed := true, recurses := true, apart := false }
def TriggerDrainsSaid : Prop := triggerDrainsRow.holds Try.pinned (OpenSpec.ofChange triggerDrainsSpec)

/-- ITS FALSE NEIGHBOUR: 'it returns false'. Refute it at one input. -/
def triggerDrainsWrong : ChangeSpec := { name := "triggerDrains", fn := fun _ => fun
  | [d] => { results := [.lit (.bool false)], args := [d] }
  | _ => none }
def TriggerDrainsWrongFalsely : Prop := triggerDrainsRow.holds Try.pinned (OpenSpec.ofChange triggerDrainsWrong)

/-- 'zeitnotlaw19.TriggerFulls': WHATEVER THE INPUT: true; the input reads as it did. -/
def triggerFullsSpec : ChangeSpec := { name := "triggerFulls", fn := fun _ => fun
  | [d1, d2, d3] => { results := [.lit (.bool true)], args := [d1, d2, d3] }
  | _ => none }
def triggerFullsRow : OpenClaim := { program := "ytgkgbpapfjjkcaa", sum := "f94a0204852588030825bc4309fee1a7d43233d88e58be82a08790f47e204664", func := "zeitnot/zeitnotlaw19.TriggerFulls", spec := "triggerFulls", unfollowed := true, recurses := true, apart := false }
def TriggerFullsSaid : Prop := triggerFullsRow.holds Try.pinned (OpenSpec.ofChange triggerFullsSpec)

/-- ITS FALSE NEIGHBOUR: 'it returns false'. Refute it at one input. -/
def triggerFullsWrong : ChangeSpec := { name := "triggerFulls", fn := fun _ => fun
  | [d1, d2, d3] => { results := [.lit (.bool false)], args := [d1, d2, d3] }
  | _ => none }
def TriggerFullsWrongFalsely : Prop := triggerFullsRow.holds Try.pinned (OpenSpec.ofChange triggerFullsWrong)

/-- 'zeitnotlaw19.TriggerHolds': WHATEVER THE INPUT: true; the input reads as it did. -/
def triggerHoldsSpec : ChangeSpec := { name := "triggerHolds", fn := fun _ => fun
  | [d1, d2, d3, d4, d5] => { results := [.lit (.bool true)], args := [d1, d2, d3, d4, d5] }
  | _ => none }
def triggerHoldsRow : OpenClaim := { program := "ytgkgbpapfjjkcaa", sum := "f94a0204852588030825bc4309fee1a7d43233d88e58be82a08790f47e204664", func := "zeitnot/zeitnotlaw19.TriggerHolds", spec := "triggerHolds", unfollowed := true, recurses := true, apart := false }
def TriggerHoldsSaid : Prop := triggerHoldsRow.holds Try.pinned (OpenSpec.ofChange triggerHoldsSpec)

/-- ITS FALSE NEIGHBOUR: 'it returns false'. Refute it at one input. -/
def triggerHoldsWrong : ChangeSpec := { name := "triggerHolds", fn := fun _ => fun
  | [d1, d2, d3, d4, d5] => { results := [.lit (.bool false)], args := [d1, d2, d3, d4, d5] }
  | _ => none }
def TriggerHoldsWrongFalsely : Prop := triggerHoldsRow.holds Try.pinned (OpenSpec.ofChange triggerHoldsWrong)

/- THE SECOND FORM. 'bulk': how many values and letters a reading holds, each counted each time it is reached (what is shared counts as often as it is met; a slice's spare places count too). A statement '..UptoSaid' is the law's where the arguments, and the package variables that the reading takes, are together of bulk at most 1048576: NARROWER than '..Said'. Prove '..Said' where nothing that the law and all that it calls make is longer than what came in: it says more and counts as full. Else prove '..UptoSaid'. A law counts once. -/
mutual
def uptoBulk {H : Type} : DataW H → Nat
  | .lit (.string bytes) => bytes.length + 1
  | .lit _ => 1
  | .nil => 1
  | .ptr d => uptoBulk d + 1
  | .slice elems spare => uptoBulkAll elems + uptoBulkAll spare + 1
  | .agg parts => uptoBulkAll parts + 1
  | .iface _ d => uptoBulk d + 1
  | .map entries => uptoBulkEntries entries + 1
  | .held _ => 1
def uptoBulkAll {H : Type} : List (DataW H) → Nat
  | [] => 0
  | d :: r => uptoBulk d + uptoBulkAll r
def uptoBulkEntries {H : Type} : List (Lit × DataW H) → Nat
  | [] => 0
  | x :: r => uptoBulkEntry x + uptoBulkEntries r
def uptoBulkEntry {H : Type} : Lit × DataW H → Nat
  | (.string bytes, d) => bytes.length + uptoBulk d + 1
  | (_, d) => uptoBulk d + 1
 end
def uptoSmall : (H : Type) → List (DataW H) → Bool := fun _ ds => decide (uptoBulkAll ds ≤ 1048576)
def OpenSpec.upto (s : _root_.Go.ChangeSpec) : _root_.Go.OpenSpec := { _root_.Go.OpenSpec.ofChange s with cond := some uptoSmall }

/-- 'zeitnotlaw19.TriggerOf', WHERE WHAT IT READS IS OF BULK AT MOST 1048576: true; the input reads as it did. -/
def triggerOfUptoRow : OpenClaim := { program := "ytgkgbpapfjjkcaa", sum := "f94a0204852588030825bc4309fee1a7d43233d88e58be82a08790f47e204664", func := "zeitnot/zeitnotlaw19.TriggerOf", spec := "triggerOf", unfollowed := true, recurses := true, apart := false, narrowed := true }
def TriggerOfUptoSaid : Prop := triggerOfUptoRow.holds Try.pinned (OpenSpec.upto triggerOfSpec)

/-- 'zeitnotlaw19.TriggerCollects', WHERE WHAT IT READS IS OF BULK AT MOST 1048576: true; the input reads as it did. -/
def triggerCollectsUptoRow : OpenClaim := { program := "ytgkgbpapfjjkcaa", sum := "f94a0204852588030825bc4309fee1a7d43233d88e58be82a08790f47e204664", func := "zeitnot/zeitnotlaw19.TriggerCollects", spec := "triggerCollects", unfollowed := true, recurses := true, apart := false, narrowed := true }
def TriggerCollectsUptoSaid : Prop := triggerCollectsUptoRow.holds Try.pinned (OpenSpec.upto triggerCollectsSpec)

/-- 'zeitnotlaw19.TriggerDrains', WHERE WHAT IT READS IS OF BULK AT MOST 1048576: true; the input reads as it did. -/
def triggerDrainsUptoRow : OpenClaim := { program := "ytgkgbpapfjjkcaa", sum := "f94a0204852588030825bc4309fee1a7d43233d88e58be82a08790f47e204664", func := "zeitnot/zeitnotlaw19.TriggerDrains", spec := "triggerDrains", unfollowed := true, recurses := true, apart := false, narrowed := true }
def TriggerDrainsUptoSaid : Prop := triggerDrainsUptoRow.holds Try.pinned (OpenSpec.upto triggerDrainsSpec)

/-- 'zeitnotlaw19.TriggerFulls', WHERE WHAT IT READS IS OF BULK AT MOST 1048576: true; the input reads as it did. -/
def triggerFullsUptoRow : OpenClaim := { program := "ytgkgbpapfjjkcaa", sum := "f94a0204852588030825bc4309fee1a7d43233d88e58be82a08790f47e204664", func := "zeitnot/zeitnotlaw19.TriggerFulls", spec := "triggerFulls", unfollowed := true, recurses := true, apart := false, narrowed := true }
def TriggerFullsUptoSaid : Prop := triggerFullsUptoRow.holds Try.pinned (OpenSpec.upto triggerFullsSpec)

/-- 'zeitnotlaw19.TriggerHolds', WHERE WHAT IT READS IS OF BULK AT MOST 1048576: true; the input reads as it did. -/
def triggerHoldsUptoRow : OpenClaim := { program := "ytgkgbpapfjjkcaa", sum := "f94a0204852588030825bc4309fee1a7d43233d88e58be82a08790f47e204664", func := "zeitnot/zeitnotlaw19.TriggerHolds", spec := "triggerHolds", unfollowed := true, recurses := true, apart := false, narrowed := true }
def TriggerHoldsUptoSaid : Prop := triggerHoldsUptoRow.holds Try.pinned (OpenSpec.upto triggerHoldsSpec)

end Rows
end Go.Proofs.Ytgkgbpapfjjkcaa
