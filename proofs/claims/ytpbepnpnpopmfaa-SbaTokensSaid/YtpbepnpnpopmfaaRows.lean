/-
  No cell of these rows narrows 'for every input' (looked for: loops, veiled, ifaces, maps, wideKeys, modest, calm, conditions, laid).
  DERIVED. THE GIVEN ROWS OF THIS SEAT. 2 by the template 'for every input the law returns true; each argument reads behind the call as it read before'; 0 by the template 'total and deterministic' (their statements: YtpbepnpnpopmfaaTotals.lean).
  GIVEN WITH THE SEED: the statements are not yours to turn. If you find one false, say at which input.
  Laid BY PROGRAM, IN A SANDBOX (cutbox-rows.mjs): the forced cells as the released guide's own fill.sh prints them over the translation 963aa42b85c715c8… (all of the seat's roots in one cut). By AI agents, Wed Nov 11 2026. No macro, syntax, notation, axiom, sorry.
-/
import Derived.Test.YtpbepnpnpopmfaaChecked
import GoSem.Claim
import GoSem.ClaimJoined
import GoSem.ClaimMapViews
import Derived.JoinedTies
import Derived.KernelRfl
namespace Go.Proofs.Ytpbepnpnpopmfaa
/- THE CELL 'sum', in the pinned program and in every row, IS THE sha256 OF THE DUMP (.gsa) THAT YtpbepnpnpopmfaaProg.lean LOADS. Nothing in Lean hashes anything: it is a label: what it is worth is what the hold of that sum in a sandbox is worth. -/
noncomputable def Try.pinned : Pinned := { name := "ytpbepnpnpopmfaa", sum := "963aa42b85c715c83dff3c5b6c40bb48eb51966d0c6467e131077d0ac394da9a", checked := Try.checked }
namespace Rows
def none {H : Type} : Left H := { results := [], args := [] }

/-- 'zeitnotlaw21.SbaTriggers': WHATEVER THE INPUT: true; the input reads as it did. -/
def sbaTriggersSpec : ChangeSpec := { name := "sbaTriggers", fn := fun _ => fun
  | [d1, d2, d3] => { results := [.lit (.bool true)], args := [d1, d2, d3] }
  | _ => none }
def sbaTriggersRow : OpenClaim := { program := "ytpbepnpnpopmfaa", sum := "963aa42b85c715c83dff3c5b6c40bb48eb51966d0c6467e131077d0ac394da9a", func := "zeitnot/zeitnotlaw21.SbaTriggers", spec := "sbaTriggers", unfollowed := true, recurses := true, apart := false }
def SbaTriggersSaid : Prop := sbaTriggersRow.holds Try.pinned (OpenSpec.ofChange sbaTriggersSpec)

/-- ITS FALSE NEIGHBOUR: 'it returns false'. Refute it at one input. -/
def sbaTriggersWrong : ChangeSpec := { name := "sbaTriggers", fn := fun _ => fun
  | [d1, d2, d3] => { results := [.lit (.bool false)], args := [d1, d2, d3] }
  | _ => none }
def SbaTriggersWrongFalsely : Prop := sbaTriggersRow.holds Try.pinned (OpenSpec.ofChange sbaTriggersWrong)

/-- 'zeitnotlaw21.SbaTokens': WHATEVER THE INPUT: true; the input reads as it did. -/
def sbaTokensSpec : ChangeSpec := { name := "sbaTokens", fn := fun _ => fun
  | [d1, d2, d3, d4] => { results := [.lit (.bool true)], args := [d1, d2, d3, d4] }
  | _ => none }
def sbaTokensRow : OpenClaim := { program := "ytpbepnpnpopmfaa", sum := "963aa42b85c715c83dff3c5b6c40bb48eb51966d0c6467e131077d0ac394da9a", func := "zeitnot/zeitnotlaw21.SbaTokens", spec := "sbaTokens", unfollowed := true, recurses := true, apart := false }
def SbaTokensSaid : Prop := sbaTokensRow.holds Try.pinned (OpenSpec.ofChange sbaTokensSpec)

/-- ITS FALSE NEIGHBOUR: 'it returns false'. Refute it at one input. -/
def sbaTokensWrong : ChangeSpec := { name := "sbaTokens", fn := fun _ => fun
  | [d1, d2, d3, d4] => { results := [.lit (.bool false)], args := [d1, d2, d3, d4] }
  | _ => none }
def SbaTokensWrongFalsely : Prop := sbaTokensRow.holds Try.pinned (OpenSpec.ofChange sbaTokensWrong)

/- THE SECOND FORM. 'bulk': how many values and letters a reading holds, each counted each time it is reached (what is shared counts as often as it is met; a slice's spare places count too). A statement '..UptoSaid' is the law's where the arguments, and the package variables that the reading takes, are together of bulk at most 1048576: NARROWER than '..Said'. Prove '..Said' where nothing that the law and all that it calls make is longer than what came in: it says more and counts as full. Else prove '..UptoSaid'. A law counts once. -/
mutual
def uptoBulk {H : Type} : DataW H → Nat
  | .lit (.string bytes) => bytes.length + 1
  | .lit _ => 1
  | .nil => 1
  | .ptr d => uptoBulk d + 1
  | .slice elems spare => uptoBulkAll elems + uptoBulkAll spare + 1
  | .agg parts => uptoBulkAll parts + 1
  | .iface _ d => uptoBulk d + 1
  | .map entries => uptoBulkEntries entries + 1
  | .held _ => 1
def uptoBulkAll {H : Type} : List (DataW H) → Nat
  | [] => 0
  | d :: r => uptoBulk d + uptoBulkAll r
def uptoBulkEntries {H : Type} : List (Lit × DataW H) → Nat
  | [] => 0
  | x :: r => uptoBulkEntry x + uptoBulkEntries r
def uptoBulkEntry {H : Type} : Lit × DataW H → Nat
  | (.string bytes, d) => bytes.length + uptoBulk d + 1
  | (_, d) => uptoBulk d + 1
 end
def uptoSmall : (H : Type) → List (DataW H) → Bool := fun _ ds => decide (uptoBulkAll ds ≤ 1048576)
def OpenSpec.upto (s : _root_.Go.ChangeSpec) : _root_.Go.OpenSpec := { _root_.Go.OpenSpec.ofChange s with cond := some uptoSmall }

/-- 'zeitnotlaw21.SbaTriggers', WHERE WHAT IT READS IS OF BULK AT MOST 1048576: true; the input reads as it did. -/
def sbaTriggersUptoRow : OpenClaim := { program := "ytpbepnpnpopmfaa", sum := "963aa42b85c715c83dff3c5b6c40bb48eb51966d0c6467e131077d0ac394da9a", func := "zeitnot/zeitnotlaw21.SbaTriggers", spec := "sbaTriggers", unfollowed := true, recurses := true, apart := false, narrowed := true }
def SbaTriggersUptoSaid : Prop := sbaTriggersUptoRow.holds Try.pinned (OpenSpec.upto sbaTriggersSpec)

/-- 'zeitnotlaw21.SbaTokens', WHERE WHAT IT READS IS OF BULK AT MOST 1048576: true; the input reads as it did. -/
def sbaTokensUptoRow : OpenClaim := { program := "ytpbepnpnpopmfaa", sum := "963aa42b85c715c83dff3c5b6c40bb48eb51966d0c6467e131077d0ac394da9a", func := "zeitnot/zeitnotlaw21.SbaTokens", spec := "sbaTokens", unfollowed := true, recurses := true, apart := false, narrowed := true }
def SbaTokensUptoSaid : Prop := sbaTokensUptoRow.holds Try.pinned (OpenSpec.upto sbaTokensSpec)

end Rows
end Go.Proofs.Ytpbepnpnpopmfaa
