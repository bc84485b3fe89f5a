/-
  No cell of these rows narrows 'for every input' (looked for: loops, veiled, ifaces, maps, wideKeys, modest, calm, conditions, laid).
  DERIVED. THE GIVEN ROWS OF THIS SEAT. 5 by the template 'for every input the law returns true; each argument reads behind the call as it read before'; 0 by the template 'total and deterministic' (their statements: YteocplabibhecaaTotals.lean).
  GIVEN WITH THE SEED: the statements are not yours to turn. If you find one false, say at which input.
  Laid BY PROGRAM, IN A SANDBOX (cutbox-rows.mjs): the forced cells as the released guide's own fill.sh prints them over the translation db111c8b81227211… (all of the seat's roots in one cut). By AI agents, Wed Nov 11 2026. No macro, syntax, notation, axiom, sorry.
-/
import Derived.Test.YteocplabibhecaaChecked
import GoSem.Claim
import GoSem.ClaimJoined
import GoSem.ClaimMapViews
import Derived.JoinedTies
import Derived.KernelRfl
namespace Go.Proofs.Yteocplabibhecaa
/- THE CELL 'sum', in the pinned program and in every row, IS THE sha256 OF THE DUMP (.gsa) THAT YteocplabibhecaaProg.lean LOADS. Nothing in Lean hashes anything: it is a label: what it is worth is what the hold of that sum in a sandbox is worth. -/
noncomputable def Try.pinned : Pinned := { name := "yteocplabibhecaa", sum := "db111c8b81227211aa2048ee4b46a50044d7f4d9a3383b6fb39f29e88789f62a", checked := Try.checked }
namespace Rows
def none {H : Type} : Left H := { results := [], args := [] }

/-- 'zeitnotlaw45.DraftNew': WHATEVER THE INPUT: true; the input reads as it did. -/
def draftNewSpec : ChangeSpec := { name := "draftNew", fn := fun _ => fun
  | [d] => { results := [.lit (.bool true)], args := [d] }
  | _ => none }
def draftNewRow : OpenClaim := { program := "yteocplabibhecaa", sum := "db111c8b81227211aa2048ee4b46a50044d7f4d9a3383b6fb39f29e88789f62a", func := "zeitnot/zeitnotlaw45.DraftNew", spec := "draftNew", unfollowed := true, recurses := true, apart := false }
def DraftNewSaid : Prop := draftNewRow.holds Try.pinned (OpenSpec.ofChange draftNewSpec)

/-- ITS FALSE NEIGHBOUR: 'it returns false'. Refute it at one input. -/
def draftNewWrong : ChangeSpec := { name := "draftNew", fn := fun _ => fun
  | [d] => { results := [.lit (.bool false)], args := [d] }
  | _ => none }
def DraftNewWrongFalsely : Prop := draftNewRow.holds Try.pinned (OpenSpec.ofChange draftNewWrong)

/-- 'zeitnotlaw45.DraftWhole': WHATEVER THE INPUT: true; the input reads as it did. -/
def draftWholeSpec : ChangeSpec := { name := "draftWhole", fn := fun _ => fun
  | [d1, d2, d3] => { results := [.lit (.bool true)], args := [d1, d2, d3] }
  | _ => none }
def draftWholeRow : OpenClaim := { program := "yteocplabibhecaa", sum := "db111c8b81227211aa2048ee4b46a50044d7f4d9a3383b6fb39f29e88789f62a", func := "zeitnot/zeitnotlaw45.DraftWhole", spec := "draftWhole", unfollowed := true, recurses := true, apart := false }
def DraftWholeSaid : Prop := draftWholeRow.holds Try.pinned (OpenSpec.ofChange draftWholeSpec)

/-- ITS FALSE NEIGHBOUR: 'it returns false'. Refute it at one input. -/
def draftWholeWrong : ChangeSpec := { name := "draftWhole", fn := fun _ => fun
  | [d1, d2, d3] => { results := [.lit (.bool false)], args := [d1, d2, d3] }
  | _ => none }
def DraftWholeWrongFalsely : Prop := draftWholeRow.holds Try.pinned (OpenSpec.ofChange draftWholeWrong)

/-- 'zeitnotlaw45.DraftHolds': WHATEVER THE INPUT: true; the input reads as it did. -/
def draftHoldsSpec : ChangeSpec := { name := "draftHolds", fn := fun _ => fun
  | [d1, d2] => { results := [.lit (.bool true)], args := [d1, d2] }
  | _ => none }
def draftHoldsRow : OpenClaim := { program := "yteocplabibhecaa", sum := "db111c8b81227211aa2048ee4b46a50044d7f4d9a3383b6fb39f29e88789f62a", func := "zeitnot/zeitnotlaw45.DraftHolds", spec := "draftHolds", unfollowed := true, recurses := true, apart := false }
def DraftHoldsSaid : Prop := draftHoldsRow.holds Try.pinned (OpenSpec.ofChange draftHoldsSpec)

/-- ITS FALSE NEIGHBOUR: 'it returns false'. Refute it at one input. -/
def draftHoldsWrong : ChangeSpec := { name := "draftHolds", fn := fun _ => fun
  | [d1, d2] => { results := [.lit (.bool false)], args := [d1, d2] }
  | _ => none }
def DraftHoldsWrongFalsely : Prop := draftHoldsRow.holds Try.pinned (OpenSpec.ofChange draftHoldsWrong)

/-- 'zeitnotlaw45.DraftPlays': WHATEVER THE INPUT: true; the input reads as it did. -/
def draftPlaysSpec : ChangeSpec := { name := "draftPlays", fn := fun _ => fun
  | [d1, d2] => { results := [.lit (.bool true)], args := [d1, d2] }
  | _ => none }
def draftPlaysRow : OpenClaim := { program := "yteocplabibhecaa", sum := "db111c8b81227211aa2048ee4b46a50044d7f4d9a3383b6fb39f29e88789f62a", func := "zeitnot/zeitnotlaw45.DraftPlays", spec := "draftPlays", unfollowed := true, recurses := true, apart := false }
def DraftPlaysSaid : Prop := draftPlaysRow.holds Try.pinned (OpenSpec.ofChange draftPlaysSpec)

/-- ITS FALSE NEIGHBOUR: 'it returns false'. Refute it at one input. -/
def draftPlaysWrong : ChangeSpec := { name := "draftPlays", fn := fun _ => fun
  | [d1, d2] => { results := [.lit (.bool false)], args := [d1, d2] }
  | _ => none }
def DraftPlaysWrongFalsely : Prop := draftPlaysRow.holds Try.pinned (OpenSpec.ofChange draftPlaysWrong)

/-- 'zeitnotlaw45.DraftNone': WHATEVER THE INPUT: true; the input reads as it did. -/
def draftNoneSpec : ChangeSpec := { name := "draftNone", fn := fun _ => fun
  | [d1, d2] => { results := [.lit (.bool true)], args := [d1, d2] }
  | _ => none }
def draftNoneRow : OpenClaim := { program := "yteocplabibhecaa", sum := "db111c8b81227211aa2048ee4b46a50044d7f4d9a3383b6fb39f29e88789f62a", func := "zeitnot/zeitnotlaw45.DraftNone", spec := "draftNone", unfollowed := true, recurses := true, apart := false }
def DraftNoneSaid : Prop := draftNoneRow.holds Try.pinned (OpenSpec.ofChange draftNoneSpec)

/-- ITS FALSE NEIGHBOUR: 'it returns false'. Refute it at one input. -/
def draftNoneWrong : ChangeSpec := { name := "draftNone", fn := fun _ => fun
  | [d1, d2] => { results := [.lit (.bool false)], args := [d1, d2] }
  | _ => none }
def DraftNoneWrongFalsely : Prop := draftNoneRow.holds Try.pinned (OpenSpec.ofChange draftNoneWrong)

/- THE SECOND FORM. 'bulk': how many values and letters a reading holds, each counted each time it is reached (what is shared counts as often as it is met; a slice's spare places count too). A statement '..UptoSaid' is the law's where the arguments, and the package variables that the reading takes, are together of bulk at most 1048576: NARROWER than '..Said'. Prove '..Said' where nothing that the law and all that it calls make is longer than what came in: it says more and counts as full. Else prove '..UptoSaid'. A law counts once. -/
mutual
def uptoBulk {H : Type} : DataW H → Nat
  | .lit (.string bytes) => bytes.length + 1
  | .lit _ => 1
  | .nil => 1
  | .ptr d => uptoBulk d + 1
  | .slice elems spare => uptoBulkAll elems + uptoBulkAll spare + 1
  | .agg parts => uptoBulkAll parts + 1
  | .iface _ d => uptoBulk d + 1
  | .map entries => uptoBulkEntries entries + 1
  | .held _ => 1
def uptoBulkAll {H : Type} : List (DataW H) → Nat
  | [] => 0
  | d :: r => uptoBulk d + uptoBulkAll r
def uptoBulkEntries {H : Type} : List (Lit × DataW H) → Nat
  | [] => 0
  | x :: r => uptoBulkEntry x + uptoBulkEntries r
def uptoBulkEntry {H : Type} : Lit × DataW H → Nat
  | (.string bytes, d) => bytes.length + uptoBulk d + 1
  | (_, d) => uptoBulk d + 1
 end
def uptoSmall : (H : Type) → List (DataW H) → Bool := fun _ ds => decide (uptoBulkAll ds ≤ 1048576)
def OpenSpec.upto (s : _root_.Go.ChangeSpec) : _root_.Go.OpenSpec := { _root_.Go.OpenSpec.ofChange s with cond := some uptoSmall }

/-- 'zeitnotlaw45.DraftNew', WHERE WHAT IT READS IS OF BULK AT MOST 1048576: true; the input reads as it did. -/
def draftNewUptoRow : OpenClaim := { program := "yteocplabibhecaa", sum := "db111c8b81227211aa2048ee4b46a50044d7f4d9a3383b6fb39f29e88789f62a", func := "zeitnot/zeitnotlaw45.DraftNew", spec := "draftNew", unfollowed := true, recurses := true, apart := false, narrowed := true }
def DraftNewUptoSaid : Prop := draftNewUptoRow.holds Try.pinned (OpenSpec.upto draftNewSpec)

/-- 'zeitnotlaw45.DraftWhole', WHERE WHAT IT READS IS OF BULK AT MOST 1048576: true; the input reads as it did. -/
def draftWholeUptoRow : OpenClaim := { program := "yteocplabibhecaa", sum := "db111c8b81227211aa2048ee4b46a50044d7f4d9a3383b6fb39f29e88789f62a", func := "zeitnot/zeitnotlaw45.DraftWhole", spec := "draftWhole", unfollowed := true, recurses := true, apart := false, narrowed := true }
def DraftWholeUptoSaid : Prop := draftWholeUptoRow.holds Try.pinned (OpenSpec.upto draftWholeSpec)

/-- 'zeitnotlaw45.DraftHolds', WHERE WHAT IT READS IS OF BULK AT MOST 1048576: true; the input reads as it did. -/
def draftHoldsUptoRow : OpenClaim := { program := "yteocplabibhecaa", sum := "db111c8b81227211aa2048ee4b46a50044d7f4d9a3383b6fb39f29e88789f62a", func := "zeitnot/zeitnotlaw45.DraftHolds", spec := "draftHolds", unfollowed := true, recurses := true, apart := false, narrowed := true }
def DraftHoldsUptoSaid : Prop := draftHoldsUptoRow.holds Try.pinned (OpenSpec.upto draftHoldsSpec)

/-- 'zeitnotlaw45.DraftPlays', WHERE WHAT IT READS IS OF BULK AT MOST 1048576: true; the input reads as it did. -/
def draftPlaysUptoRow : OpenClaim := { program := "yteocplabibhecaa", sum := "db111c8b81227211aa2048ee4b46a50044d7f4d9a3383b6fb39f29e88789f62a", func := "zeitnot/zeitnotlaw45.DraftPlays", spec := "draftPlays", unfollowed := true, recurses := true, apart := false, narrowed := true }
def DraftPlaysUptoSaid : Prop := draftPlaysUptoRow.holds Try.pinned (OpenSpec.upto draftPlaysSpec)

/-- 'zeitnotlaw45.DraftNone', WHERE WHAT IT READS IS OF BULK AT MOST 1048576: true; the input reads as it did. -/
def draftNoneUptoRow : OpenClaim := { program := "yteocplabibhecaa", sum := "db111c8b81227211aa2048ee4b46a50044d7f4d9a3383b6fb39f29e88789f62a", func := "zeitnot/zeitnotlaw45.DraftNone", spec := "draftNone", unfollowed := true, recurses := true, apart := false, narrowed := true }
def DraftNoneUptoSaid : Prop := draftNoneUptoRow.holds Try.pinned (OpenSpec.upto draftNoneSpec)

end Rows
end Go.Proofs.Yteocplabibhecaa
