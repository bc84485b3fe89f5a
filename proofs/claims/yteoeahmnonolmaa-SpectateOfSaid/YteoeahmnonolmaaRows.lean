/-
  No cell of these rows narrows 'for every input' (looked for: loops, veiled, ifaces, maps, wideKeys, modest, calm, conditions, laid).
  DERIVED. THE GIVEN ROWS OF THIS SEAT. 5 by the template 'for every input the law returns true; each argument reads behind the call as it read before'; 0 by the template 'total and deterministic' (their statements: YteoeahmnonolmaaTotals.lean).
  GIVEN WITH THE SEED: the statements are not yours to turn. If you find one false, say at which input.
  Laid BY PROGRAM, IN A SANDBOX (cutbox-rows.mjs): the forced cells as the released guide's own fill.sh prints them over the translation 6c6c9a73fcfb30bb… (all of the seat's roots in one cut). By AI agents, Wed Nov 11 2026. No macro, syntax, notation, axiom, sorry.
-/
import Derived.Test.YteoeahmnonolmaaChecked
import GoSem.Claim
import GoSem.ClaimJoined
import GoSem.ClaimMapViews
import Derived.JoinedTies
import Derived.KernelRfl
namespace Go.Proofs.Yteoeahmnonolmaa
/- THE CELL 'sum', in the pinned program and in every row, IS THE sha256 OF THE DUMP (.gsa) THAT YteoeahmnonolmaaProg.lean LOADS. Nothing in Lean hashes anything: it is a label: what it is worth is what the hold of that sum in a sandbox is worth. -/
noncomputable def Try.pinned : Pinned := { name := "yteoeahmnonolmaa", sum := "6c6c9a73fcfb30bbe2580c11367ec9b07428534aa81509f1074c0a2b96ded931", checked := Try.checked }
namespace Rows
def none {H : Type} : Left H := { results := [], args := [] }

/-- 'zeitnotlaw48.SpectateFulls': WHATEVER THE INPUT: true; the input reads as it did. -/
def spectateFullsSpec : ChangeSpec := { name := "spectateFulls", fn := fun _ => fun
  | [d] => { results := [.lit (.bool true)], args := [d] }
  | _ => none }
def spectateFullsRow : OpenClaim := { program := "yteoeahmnonolmaa", sum := "6c6c9a73fcfb30bbe2580c11367ec9b07428534aa81509f1074c0a2b96ded931", func := "zeitnot/zeitnotlaw48.SpectateFulls", spec := "spectateFulls", unfollowed := true, recurses := true, apart := false }
def SpectateFullsSaid : Prop := spectateFullsRow.holds Try.pinned (OpenSpec.ofChange spectateFullsSpec)

/-- ITS FALSE NEIGHBOUR: 'it returns false'. Refute it at one input. -/
def spectateFullsWrong : ChangeSpec := { name := "spectateFulls", fn := fun _ => fun
  | [d] => { results := [.lit (.bool false)], args := [d] }
  | _ => none }
def SpectateFullsWrongFalsely : Prop := spectateFullsRow.holds Try.pinned (OpenSpec.ofChange spectateFullsWrong)

/-- 'zeitnotlaw48.SpectatePlays': WHATEVER THE INPUT: true; the input reads as it did. -/
def spectatePlaysSpec : ChangeSpec := { name := "spectatePlays", fn := fun _ => fun
  | [d1, d2, d3] => { results := [.lit (.bool true)], args := [d1, d2, d3] }
  | _ => none }
def spectatePlaysRow : OpenClaim := { program := "yteoeahmnonolmaa", sum := "6c6c9a73fcfb30bbe2580c11367ec9b07428534aa81509f1074c0a2b96ded931", func := "zeitnot/zeitnotlaw48.SpectatePlays", spec := "spectatePlays", unfollowed := true, recurses := true, apart := false }
def SpectatePlaysSaid : Prop := spectatePlaysRow.holds Try.pinned (OpenSpec.ofChange spectatePlaysSpec)

/-- ITS FALSE NEIGHBOUR: 'it returns false'. Refute it at one input. -/
def spectatePlaysWrong : ChangeSpec := { name := "spectatePlays", fn := fun _ => fun
  | [d1, d2, d3] => { results := [.lit (.bool false)], args := [d1, d2, d3] }
  | _ => none }
def SpectatePlaysWrongFalsely : Prop := spectatePlaysRow.holds Try.pinned (OpenSpec.ofChange spectatePlaysWrong)

/-- 'zeitnotlaw48.SpectateNone': WHATEVER THE INPUT: true; the input reads as it did. -/
def spectateNoneSpec : ChangeSpec := { name := "spectateNone", fn := fun _ => fun
  | [d1, d2] => { results := [.lit (.bool true)], args := [d1, d2] }
  | _ => none }
def spectateNoneRow : OpenClaim := { program := "yteoeahmnonolmaa", sum := "6c6c9a73fcfb30bbe2580c11367ec9b07428534aa81509f1074c0a2b96ded931", func := "zeitnot/zeitnotlaw48.SpectateNone", spec := "spectateNone", unfollowed := true, recurses := true, apart := false }
def SpectateNoneSaid : Prop := spectateNoneRow.holds Try.pinned (OpenSpec.ofChange spectateNoneSpec)

/-- ITS FALSE NEIGHBOUR: 'it returns false'. Refute it at one input. -/
def spectateNoneWrong : ChangeSpec := { name := "spectateNone", fn := fun _ => fun
  | [d1, d2] => { results := [.lit (.bool false)], args := [d1, d2] }
  | _ => none }
def SpectateNoneWrongFalsely : Prop := spectateNoneRow.holds Try.pinned (OpenSpec.ofChange spectateNoneWrong)

/-- 'zeitnotlaw48.SpectateHolds': WHATEVER THE INPUT: true; the input reads as it did. -/
def spectateHoldsSpec : ChangeSpec := { name := "spectateHolds", fn := fun _ => fun
  | [d1, d2, d3, d4] => { results := [.lit (.bool true)], args := [d1, d2, d3, d4] }
  | _ => none }
def spectateHoldsRow : OpenClaim := { program := "yteoeahmnonolmaa", sum := "6c6c9a73fcfb30bbe2580c11367ec9b07428534aa81509f1074c0a2b96ded931", func := "zeitnot/zeitnotlaw48.SpectateHolds", spec := "spectateHolds", unfollowed := true, recurses := true, apart := false }
def SpectateHoldsSaid : Prop := spectateHoldsRow.holds Try.pinned (OpenSpec.ofChange spectateHoldsSpec)

/-- ITS FALSE NEIGHBOUR: 'it returns false'. Refute it at one input. -/
def spectateHoldsWrong : ChangeSpec := { name := "spectateHolds", fn := fun _ => fun
  | [d1, d2, d3, d4] => { results := [.lit (.bool false)], args := [d1, d2, d3, d4] }
  | _ => none }
def SpectateHoldsWrongFalsely : Prop := spectateHoldsRow.holds Try.pinned (OpenSpec.ofChange spectateHoldsWrong)

/-- 'zeitnotlaw48.SpectateOf': WHATEVER THE INPUT: true; the input reads as it did. -/
def spectateOfSpec : ChangeSpec := { name := "spectateOf", fn := fun _ => fun
  | [d1, d2] => { results := [.lit (.bool true)], args := [d1, d2] }
  | _ => none }
def spectateOfRow : OpenClaim := { program := "yteoeahmnonolmaa", sum := "6c6c9a73fcfb30bbe2580c11367ec9b07428534aa81509f1074c0a2b96ded931", func := "zeitnot/zeitnotlaw48.SpectateOf", spec := "spectateOf", unfollowed := true, recurses := true, apart := false }
def SpectateOfSaid : Prop := spectateOfRow.holds Try.pinned (OpenSpec.ofChange spectateOfSpec)

/-- ITS FALSE NEIGHBOUR: 'it returns false'. Refute it at one input. -/
def spectateOfWrong : ChangeSpec := { name := "spectateOf", fn := fun _ => fun
  | [d1, d2] => { results := [.lit (.bool false)], args := [d1, d2] }
  | _ => none }
def SpectateOfWrongFalsely : Prop := spectateOfRow.holds Try.pinned (OpenSpec.ofChange spectateOfWrong)

/- THE SECOND FORM. 'bulk': how many values and letters a reading holds, each counted each time it is reached (what is shared counts as often as it is met; a slice's spare places count too). A statement '..UptoSaid' is the law's where the arguments, and the package variables that the reading takes, are together of bulk at most 1048576: NARROWER than '..Said'. Prove '..Said' where nothing that the law and all that it calls make is longer than what came in: it says more and counts as full. Else prove '..UptoSaid'. A law counts once. -/
mutual
def uptoBulk {H : Type} : DataW H → Nat
  | .lit (.string bytes) => bytes.length + 1
  | .lit _ => 1
  | .nil => 1
  | .ptr d => uptoBulk d + 1
  | .slice elems spare => uptoBulkAll elems + uptoBulkAll spare + 1
  | .agg parts => uptoBulkAll parts + 1
  | .iface _ d => uptoBulk d + 1
  | .map entries => uptoBulkEntries entries + 1
  | .held _ => 1
def uptoBulkAll {H : Type} : List (DataW H) → Nat
  | [] => 0
  | d :: r => uptoBulk d + uptoBulkAll r
def uptoBulkEntries {H : Type} : List (Lit × DataW H) → Nat
  | [] => 0
  | x :: r => uptoBulkEntry x + uptoBulkEntries r
def uptoBulkEntry {H : Type} : Lit × DataW H → Nat
  | (.string bytes, d) => bytes.length + uptoBulk d + 1
  | (_, d) => uptoBulk d + 1
 end
def uptoSmall : (H : Type) → List (DataW H) → Bool := fun _ ds => decide (uptoBulkAll ds ≤ 1048576)
def OpenSpec.upto (s : _root_.Go.ChangeSpec) : _root_.Go.OpenSpec := { _root_.Go.OpenSpec.ofChange s with cond := some uptoSmall }

/-- 'zeitnotlaw48.SpectateFulls', WHERE WHAT IT READS IS OF BULK AT MOST 1048576: true; the input reads as it did. -/
def spectateFullsUptoRow : OpenClaim := { program := "yteoeahmnonolmaa", sum := "6c6c9a73fcfb30bbe2580c11367ec9b07428534aa81509f1074c0a2b96ded931", func := "zeitnot/zeitnotlaw48.SpectateFulls", spec := "spectateFulls", unfollowed := true, recurses := true, apart := false, narrowed := true }
def SpectateFullsUptoSaid : Prop := spectateFullsUptoRow.holds Try.pinned (OpenSpec.upto spectateFullsSpec)

/-- 'zeitnotlaw48.SpectatePlays', WHERE WHAT IT READS IS OF BULK AT MOST 1048576: true; the input reads as it did. -/
def spectatePlaysUptoRow : OpenClaim := { program := "yteoeahmnonolmaa", sum := "6c6c9a73fcfb30bbe2580c11367ec9b07428534aa81509f1074c0a2b96ded931", func := "zeitnot/zeitnotlaw48.SpectatePlays", spec := "spectatePlays", unfollowed := true, recurses := true, apart := false, narrowed := true }
def SpectatePlaysUptoSaid : Prop := spectatePlaysUptoRow.holds Try.pinned (OpenSpec.upto spectatePlaysSpec)

/-- 'zeitnotlaw48.SpectateNone', WHERE WHAT IT READS IS OF BULK AT MOST 1048576: true; the input reads as it did. -/
def spectateNoneUptoRow : OpenClaim := { program := "yteoeahmnonolmaa", sum := "6c6c9a73fcfb30bbe2580c11367ec9b07428534aa81509f1074c0a2b96ded931", func := "zeitnot/zeitnotlaw48.SpectateNone", spec := "spectateNone", unfollowed := true, recurses := true, apart := false, narrowed := true }
def SpectateNoneUptoSaid : Prop := spectateNoneUptoRow.holds Try.pinned (OpenSpec.upto spectateNoneSpec)

/-- 'zeitnotlaw48.SpectateHolds', WHERE WHAT IT READS IS OF BULK AT MOST 1048576: true; the input reads as it did. -/
def spectateHoldsUptoRow : OpenClaim := { program := "yteoeahmnonolmaa", sum := "6c6c9a73fcfb30bbe2580c11367ec9b07428534aa81509f1074c0a2b96ded931", func := "zeitnot/zeitnotlaw48.SpectateHolds", spec := "spectateHolds", unfollowed := true, recurses := true, apart := false, narrowed := true }
def SpectateHoldsUptoSaid : Prop := spectateHoldsUptoRow.holds Try.pinned (OpenSpec.upto spectateHoldsSpec)

/-- 'zeitnotlaw48.SpectateOf', WHERE WHAT IT READS IS OF BULK AT MOST 1048576: true; the input reads as it did. -/
def spectateOfUptoRow : OpenClaim := { program := "yteoeahmnonolmaa", sum := "6c6c9a73fcfb30bbe2580c11367ec9b07428534aa81509f1074c0a2b96ded931", func := "zeitnot/zeitnotlaw48.SpectateOf", spec := "spectateOf", unfollowed := true, recurses := true, apart := false, narrowed := true }
def SpectateOfUptoSaid : Prop := spectateOfUptoRow.holds Try.pinned (OpenSpec.upto spectateOfSpec)

end Rows
end Go.Proofs.Yteoeahmnonolmaa
