/-
  No cell of these rows narrows 'for every input' (looked for: loops, veiled, ifaces, maps, wideKeys, modest, calm, conditions, laid).
  DERIVED. THE GIVEN ROWS OF THIS SEAT. 4 by the template 'for every input the law returns true; each argument reads behind the call as it read before'; 0 by the template 'total and deterministic' (their statements: YtjedflfgafhlkaaTotals.lean).
  GIVEN WITH THE SEED: the statements are not yours to turn. If you find one false, say at which input.
  Laid BY PROGRAM, IN A SANDBOX (cutbox-rows.mjs): the forced cells as the released guide's own fill.sh prints them over the translation 973f93efb0c8598c… (all of the seat's roots in one cut). By AI agents, Wed Nov 11 2026. No macro, syntax, notation, axiom, sorry.
-/
import Derived.Test.YtjedflfgafhlkaaChecked
import GoSem.Claim
import GoSem.ClaimJoined
import GoSem.ClaimMapViews
import Derived.JoinedTies
import Derived.KernelRfl
namespace Go.Proofs.Ytjedflfgafhlkaa
/- THE CELL 'sum', in the pinned program and in every row, IS THE sha256 OF THE DUMP (.gsa) THAT YtjedflfgafhlkaaProg.lean LOADS. Nothing in Lean hashes anything: it is a label: what it is worth is what the hold of that sum in a sandbox is worth. -/
noncomputable def Try.pinned : Pinned := { name := "ytjedflfgafhlkaa", sum := "973f93efb0c8598cb129594b4e6145fb43ece1b7f2a999a66eb0ada096184955", checked := Try.checked }
namespace Rows
def none {H : Type} : Left H := { results := [], args := [] }

/-- 'zeitnotlaw14.ObjectNews': WHATEVER THE INPUT: true; the input reads as it did. -/
def objectNewsSpec : ChangeSpec := { name := "objectNews", fn := fun _ => fun
  | [d1, d2, d3, d4, d5] => { results := [.lit (.bool true)], args := [d1, d2, d3, d4, d5] }
  | _ => none }
def objectNewsRow : OpenClaim := { program := "ytjedflfgafhlkaa", sum := "973f93efb0c8598cb129594b4e6145fb43ece1b7f2a999a66eb0ada096184955", func := "zeitnot/zeitnotlaw14.ObjectNews", spec := "objectNews", unfollowed := true, recurses := true, apart := false }
def ObjectNewsSaid : Prop := objectNewsRow.holds Try.pinned (OpenSpec.ofChange objectNewsSpec)

/-- ITS FALSE NEIGHBOUR: 'it returns false'. Refute it at one input. -/
def objectNewsWrong : ChangeSpec := { name := "objectNews", fn := fun _ => fun
  | [d1, d2, d3, d4, d5] => { results := [.lit (.bool false)], args := [d1, d2, d3, d4, d5] }
  | _ => none }
def ObjectNewsWrongFalsely : Prop := objectNewsRow.holds Try.pinned (OpenSpec.ofChange objectNewsWrong)

/-- 'zeitnotlaw14.ObjectBytes': WHATEVER THE INPUT: true; the input reads as it did. -/
def objectBytesSpec : ChangeSpec := { name := "objectBytes", fn := fun _ => fun
  | [d1, d2] => { results := [.lit (.bool true)], args := [d1, d2] }
  | _ => none }
def objectBytesRow : OpenClaim := { program := "ytjedflfgafhlkaa", sum := "973f93efb0c8598cb129594b4e6145fb43ece1b7f2a999a66eb0ada096184955", func := "zeitnot/zeitnotlaw14.ObjectBytes", spec := "objectBytes", unfollowed := true, recurses := true, apart := false }
def ObjectBytesSaid : Prop := objectBytesRow.holds Try.pinned (OpenSpec.ofChange objectBytesSpec)

/-- ITS FALSE NEIGHBOUR: 'it returns false'. Refute it at one input. -/
def objectBytesWrong : ChangeSpec := { name := "objectBytes", fn := fun _ => fun
  | [d1, d2] => { results := [.lit (.bool false)], args := [d1, d2] }
  | _ => none }
def ObjectBytesWrongFalsely : Prop := objectBytesRow.holds Try.pinned (OpenSpec.ofChange objectBytesWrong)

/-- 'zeitnotlaw14.ObjectHolds': WHATEVER THE INPUT: true; the input reads as it did. -/
def objectHoldsSpec : ChangeSpec := { name := "objectHolds", fn := fun _ => fun
  | [d1, d2, d3] => { results := [.lit (.bool true)], args := [d1, d2, d3] }
  | _ => none }
def objectHoldsRow : OpenClaim := { program := "ytjedflfgafhlkaa", sum := "973f93efb0c8598cb129594b4e6145fb43ece1b7f2a999a66eb0ada096184955", func := "zeitnot/zeitnotlaw14.ObjectHolds", spec := "objectHolds", unfollowed := true, recurses := true, apart := false }
def ObjectHoldsSaid : Prop := objectHoldsRow.holds Try.pinned (OpenSpec.ofChange objectHoldsSpec)

/-- ITS FALSE NEIGHBOUR: 'it returns false'. Refute it at one input. -/
def objectHoldsWrong : ChangeSpec := { name := "objectHolds", fn := fun _ => fun
  | [d1, d2, d3] => { results := [.lit (.bool false)], args := [d1, d2, d3] }
  | _ => none }
def ObjectHoldsWrongFalsely : Prop := objectHoldsRow.holds Try.pinned (OpenSpec.ofChange objectHoldsWrong)

/-- 'zeitnotlaw14.ObjectTurns': WHATEVER THE INPUT: true; the input reads as it did. -/
def objectTurnsSpec : ChangeSpec := { name := "objectTurns", fn := fun _ => fun
  | [d1, d2] => { results := [.lit (.bool true)], args := [d1, d2] }
  | _ => none }
def objectTurnsRow : OpenClaim := { program := "ytjedflfgafhlkaa", sum := "973f93efb0c8598cb129594b4e6145fb43ece1b7f2a999a66eb0ada096184955", func := "zeitnot/zeitnotlaw14.ObjectTurns", spec := "objectTurns", unfollowed := true, recurses := true, apart := false }
def ObjectTurnsSaid : Prop := objectTurnsRow.holds Try.pinned (OpenSpec.ofChange objectTurnsSpec)

/-- ITS FALSE NEIGHBOUR: 'it returns false'. Refute it at one input. -/
def objectTurnsWrong : ChangeSpec := { name := "objectTurns", fn := fun _ => fun
  | [d1, d2] => { results := [.lit (.bool false)], args := [d1, d2] }
  | _ => none }
def ObjectTurnsWrongFalsely : Prop := objectTurnsRow.holds Try.pinned (OpenSpec.ofChange objectTurnsWrong)

/- THE SECOND FORM. 'bulk': how many values and letters a reading holds, each counted each time it is reached (what is shared counts as often as it is met; a slice's spare places count too). A statement '..UptoSaid' is the law's where the arguments, and the package variables that the reading takes, are together of bulk at most 1048576: NARROWER than '..Said'. Prove '..Said' where nothing that the law and all that it calls make is longer than what came in: it says more and counts as full. Else prove '..UptoSaid'. A law counts once. -/
mutual
def uptoBulk {H : Type} : DataW H → Nat
  | .lit (.string bytes) => bytes.length + 1
  | .lit _ => 1
  | .nil => 1
  | .ptr d => uptoBulk d + 1
  | .slice elems spare => uptoBulkAll elems + uptoBulkAll spare + 1
  | .agg parts => uptoBulkAll parts + 1
  | .iface _ d => uptoBulk d + 1
  | .map entries => uptoBulkEntries entries + 1
  | .held _ => 1
def uptoBulkAll {H : Type} : List (DataW H) → Nat
  | [] => 0
  | d :: r => uptoBulk d + uptoBulkAll r
def uptoBulkEntries {H : Type} : List (Lit × DataW H) → Nat
  | [] => 0
  | x :: r => uptoBulkEntry x + uptoBulkEntries r
def uptoBulkEntry {H : Type} : Lit × DataW H → Nat
  | (.string bytes, d) => bytes.length + uptoBulk d + 1
  | (_, d) => uptoBulk d + 1
 end
def uptoSmall : (H : Type) → List (DataW H) → Bool := fun _ ds => decide (uptoBulkAll ds ≤ 1048576)
def OpenSpec.upto (s : _root_.Go.ChangeSpec) : _root_.Go.OpenSpec := { _root_.Go.OpenSpec.ofChange s with cond := some uptoSmall }

/-- 'zeitnotlaw14.ObjectNews', WHERE WHAT IT READS IS OF BULK AT MOST 1048576: true; the input reads as it did. -/
def objectNewsUptoRow : OpenClaim := { program := "ytjedflfgafhlkaa", sum := "973f93efb0c8598cb129594b4e6145fb43ece1b7f2a999a66eb0ada096184955", func := "zeitnot/zeitnotlaw14.ObjectNews", spec := "objectNews", unfollowed := true, recurses := true, apart := false, narrowed := true }
def ObjectNewsUptoSaid : Prop := objectNewsUptoRow.holds Try.pinned (OpenSpec.upto objectNewsSpec)

/-- 'zeitnotlaw14.ObjectBytes', WHERE WHAT IT READS IS OF BULK AT MOST 1048576: true; the input reads as it did. -/
def objectBytesUptoRow : OpenClaim := { program := "ytjedflfgafhlkaa", sum := "973f93efb0c8598cb129594b4e6145fb43ece1b7f2a999a66eb0ada096184955", func := "zeitnot/zeitnotlaw14.ObjectBytes", spec := "objectBytes", unfollowed := true, recurses := true, apart := false, narrowed := true }
def ObjectBytesUptoSaid : Prop := objectBytesUptoRow.holds Try.pinned (OpenSpec.upto objectBytesSpec)

/-- 'zeitnotlaw14.ObjectHolds', WHERE WHAT IT READS IS OF BULK AT MOST 1048576: true; the input reads as it did. -/
def objectHoldsUptoRow : OpenClaim := { program := "ytjedflfgafhlkaa", sum := "973f93efb0c8598cb129594b4e6145fb43ece1b7f2a999a66eb0ada096184955", func := "zeitnot/zeitnotlaw14.ObjectHolds", spec := "objectHolds", unfollowed := true, recurses := true, apart := false, narrowed := true }
def ObjectHoldsUptoSaid : Prop := objectHoldsUptoRow.holds Try.pinned (OpenSpec.upto objectHoldsSpec)

/-- 'zeitnotlaw14.ObjectTurns', WHERE WHAT IT READS IS OF BULK AT MOST 1048576: true; the input reads as it did. -/
def objectTurnsUptoRow : OpenClaim := { program := "ytjedflfgafhlkaa", sum := "973f93efb0c8598cb129594b4e6145fb43ece1b7f2a999a66eb0ada096184955", func := "zeitnot/zeitnotlaw14.ObjectTurns", spec := "objectTurns", unfollowed := true, recurses := true, apart := false, narrowed := true }
def ObjectTurnsUptoSaid : Prop := objectTurnsUptoRow.holds Try.pinned (OpenSpec.upto objectTurnsSpec)

end Rows
end Go.Proofs.Ytjedflfgafhlkaa
