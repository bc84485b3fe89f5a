/-
  No cell of these rows narrows 'for every input' (looked for: loops, veiled, ifaces, maps, wideKeys, modest, calm, conditions, laid).
  DERIVED. THE GIVEN ROWS OF THIS SEAT. 6 by the template 'for every input the law returns true; each argument reads behind the call as it read before'; 0 by the template 'total and deterministic' (their statements: YthibagfmglnejaaTotals.lean).
  GIVEN WITH THE SEED: the statements are not yours to turn. If you find one false, say at which input.
  Laid BY PROGRAM, IN A SANDBOX (cutbox-rows.mjs): the forced cells as the released guide's own fill.sh prints them over the translation 83efcdf104bc8d59… (all of the seat's roots in one cut). By AI agents, Wed Nov 11 2026. No macro, syntax, notation, axiom, sorry.
-/
import Derived.Test.YthibagfmglnejaaChecked
import GoSem.Claim
import GoSem.ClaimJoined
import GoSem.ClaimMapViews
import Derived.JoinedTies
import Derived.KernelRfl
namespace Go.Proofs.Ythibagfmglnejaa
/- THE CELL 'sum', in the pinned program and in every row, IS THE sha256 OF THE DUMP (.gsa) THAT YthibagfmglnejaaProg.lean LOADS. Nothing in Lean hashes anything: it is a label: what it is worth is what the hold of that sum in a sandbox is worth. -/
noncomputable def Try.pinned : Pinned := { name := "ythibagfmglnejaa", sum := "83efcdf104bc8d593d185ea46a410f8cecd47d5758c988dd89a83328c92bda50", checked := Try.checked }
namespace Rows
def none {H : Type} : Left H := { results := [], args := [] }

/-- 'zeitnotlaw13.SeqnoNumbers': WHATEVER THE INPUT: true; the input reads as it did. -/
def seqnoNumbersSpec : ChangeSpec := { name := "seqnoNumbers", fn := fun _ => fun
  | [d1, d2] => { results := [.lit (.bool true)], args := [d1, d2] }
  | _ => none }
def seqnoNumbersRow : OpenClaim := { program := "ythibagfmglnejaa", sum := "83efcdf104bc8d593d185ea46a410f8cecd47d5758c988dd89a83328c92bda50", func := "zeitnot/zeitnotlaw13.SeqnoNumbers", spec := "seqnoNumbers", apart := false }
def SeqnoNumbersSaid : Prop := seqnoNumbersRow.holds Try.pinned (OpenSpec.ofChange seqnoNumbersSpec)

/-- ITS FALSE NEIGHBOUR: 'it returns false'. Refute it at one input. -/
def seqnoNumbersWrong : ChangeSpec := { name := "seqnoNumbers", fn := fun _ => fun
  | [d1, d2] => { results := [.lit (.bool false)], args := [d1, d2] }
  | _ => none }
def SeqnoNumbersWrongFalsely : Prop := seqnoNumbersRow.holds Try.pinned (OpenSpec.ofChange seqnoNumbersWrong)

/-- 'zeitnotlaw13.SeqnoWindows': WHATEVER THE INPUT: true; the input reads as it did. -/
def seqnoWindowsSpec : ChangeSpec := { name := "seqnoWindows", fn := fun _ => fun
  | [d1, d2, d3] => { results := [.lit (.bool true)], args := [d1, d2, d3] }
  | _ => none }
def seqnoWindowsRow : OpenClaim := { program := "ythibagfmglnejaa", sum := "83efcdf104bc8d593d185ea46a410f8cecd47d5758c988dd89a83328c92bda50", func := "zeitnot/zeitnotlaw13.SeqnoWindows", spec := "seqnoWindows", apart := false }
def SeqnoWindowsSaid : Prop := seqnoWindowsRow.holds Try.pinned (OpenSpec.ofChange seqnoWindowsSpec)

/-- ITS FALSE NEIGHBOUR: 'it returns false'. Refute it at one input. -/
def seqnoWindowsWrong : ChangeSpec := { name := "seqnoWindows", fn := fun _ => fun
  | [d1, d2, d3] => { results := [.lit (.bool false)], args := [d1, d2, d3] }
  | _ => none }
def SeqnoWindowsWrongFalsely : Prop := seqnoWindowsRow.holds Try.pinned (OpenSpec.ofChange seqnoWindowsWrong)

/-- 'zeitnotlaw13.SeqnoRounds': WHATEVER THE INPUT: true; the input reads as it did. -/
def seqnoRoundsSpec : ChangeSpec := { name := "seqnoRounds", fn := fun _ => fun
  | [d1, d2, d3, d4] => { results := [.lit (.bool true)], args := [d1, d2, d3, d4] }
  | _ => none }
def seqnoRoundsRow : OpenClaim := { program := "ythibagfmglnejaa", sum := "83efcdf104bc8d593d185ea46a410f8cecd47d5758c988dd89a83328c92bda50", func := "zeitnot/zeitnotlaw13.SeqnoRounds", spec := "seqnoRounds", apart := false }
def SeqnoRoundsSaid : Prop := seqnoRoundsRow.holds Try.pinned (OpenSpec.ofChange seqnoRoundsSpec)

/-- ITS FALSE NEIGHBOUR: 'it returns false'. Refute it at one input. -/
def seqnoRoundsWrong : ChangeSpec := { name := "seqnoRounds", fn := fun _ => fun
  | [d1, d2, d3, d4] => { results := [.lit (.bool false)], args := [d1, d2, d3, d4] }
  | _ => none }
def SeqnoRoundsWrongFalsely : Prop := seqnoRoundsRow.holds Try.pinned (OpenSpec.ofChange seqnoRoundsWrong)

/-- 'zeitnotlaw13.SeqnoHolds': WHATEVER THE INPUT: true; the input reads as it did. -/
def seqnoHoldsSpec : ChangeSpec := { name := "seqnoHolds", fn := fun _ => fun
  | [d1, d2, d3] => { results := [.lit (.bool true)], args := [d1, d2, d3] }
  | _ => none }
def seqnoHoldsRow : OpenClaim := { program := "ythibagfmglnejaa", sum := "83efcdf104bc8d593d185ea46a410f8cecd47d5758c988dd89a83328c92bda50", func := "zeitnot/zeitnotlaw13.SeqnoHolds", spec := "seqnoHolds", apart := false }
def SeqnoHoldsSaid : Prop := seqnoHoldsRow.holds Try.pinned (OpenSpec.ofChange seqnoHoldsSpec)

/-- ITS FALSE NEIGHBOUR: 'it returns false'. Refute it at one input. -/
def seqnoHoldsWrong : ChangeSpec := { name := "seqnoHolds", fn := fun _ => fun
  | [d1, d2, d3] => { results := [.lit (.bool false)], args := [d1, d2, d3] }
  | _ => none }
def SeqnoHoldsWrongFalsely : Prop := seqnoHoldsRow.holds Try.pinned (OpenSpec.ofChange seqnoHoldsWrong)

/-- 'zeitnotlaw13.SeqnoPlays': WHATEVER THE INPUT: true; the input reads as it did. -/
def seqnoPlaysSpec : ChangeSpec := { name := "seqnoPlays", fn := fun _ => fun
  | [d1, d2, d3, d4] => { results := [.lit (.bool true)], args := [d1, d2, d3, d4] }
  | _ => none }
def seqnoPlaysRow : OpenClaim := { program := "ythibagfmglnejaa", sum := "83efcdf104bc8d593d185ea46a410f8cecd47d5758c988dd89a83328c92bda50", func := "zeitnot/zeitnotlaw13.SeqnoPlays", spec := "seqnoPlays", apart := false }
def SeqnoPlaysSaid : Prop := seqnoPlaysRow.holds Try.pinned (OpenSpec.ofChange seqnoPlaysSpec)

/-- ITS FALSE NEIGHBOUR: 'it returns false'. Refute it at one input. -/
def seqnoPlaysWrong : ChangeSpec := { name := "seqnoPlays", fn := fun _ => fun
  | [d1, d2, d3, d4] => { results := [.lit (.bool false)], args := [d1, d2, d3, d4] }
  | _ => none }
def SeqnoPlaysWrongFalsely : Prop := seqnoPlaysRow.holds Try.pinned (OpenSpec.ofChange seqnoPlaysWrong)

/-- 'zeitnotlaw13.SeqnoNil': WHATEVER THE INPUT: true; the input reads as it did. -/
def seqnoNilSpec : ChangeSpec := { name := "seqnoNil", fn := fun _ => fun
  | [d] => { results := [.lit (.bool true)], args := [d] }
  | _ => none }
def seqnoNilRow : OpenClaim := { program := "ythibagfmglnejaa", sum := "83efcdf104bc8d593d185ea46a410f8cecd47d5758c988dd89a83328c92bda50", func := "zeitnot/zeitnotlaw13.SeqnoNil", spec := "seqnoNil", apart := false }
def SeqnoNilSaid : Prop := seqnoNilRow.holds Try.pinned (OpenSpec.ofChange seqnoNilSpec)

/-- ITS FALSE NEIGHBOUR: 'it returns false'. Refute it at one input. -/
def seqnoNilWrong : ChangeSpec := { name := "seqnoNil", fn := fun _ => fun
  | [d] => { results := [.lit (.bool false)], args := [d] }
  | _ => none }
def SeqnoNilWrongFalsely : Prop := seqnoNilRow.holds Try.pinned (OpenSpec.ofChange seqnoNilWrong)

/- THE SECOND FORM. 'bulk': how many values and letters a reading holds, each counted each time it is reached (what is shared counts as often as it is met; a slice's spare places count too). A statement '..UptoSaid' is the law's where the arguments, and the package variables that the reading takes, are together of bulk at most 1048576: NARROWER than '..Said'. Prove '..Said' where nothing that the law and all that it calls make is longer than what came in: it says more and counts as full. Else prove '..UptoSaid'. A law counts once. -/
mutual
def uptoBulk {H : Type} : DataW H → Nat
  | .lit (.string bytes) => bytes.length + 1
  | .lit _ => 1
  | .nil => 1
  | .ptr d => uptoBulk d + 1
  | .slice elems spare => uptoBulkAll elems + uptoBulkAll spare + 1
  | .agg parts => uptoBulkAll parts + 1
  | .iface _ d => uptoBulk d + 1
  | .map entries => uptoBulkEntries entries + 1
  | .held _ => 1
def uptoBulkAll {H : Type} : List (DataW H) → Nat
  | [] => 0
  | d :: r => uptoBulk d + uptoBulkAll r
def uptoBulkEntries {H : Type} : List (Lit × DataW H) → Nat
  | [] => 0
  | x :: r => uptoBulkEntry x + uptoBulkEntries r
def uptoBulkEntry {H : Type} : Lit × DataW H → Nat
  | (.string bytes, d) => bytes.length + uptoBulk d + 1
  | (_, d) => uptoBulk d + 1
 end
def uptoSmall : (H : Type) → List (DataW H) → Bool := fun _ ds => decide (uptoBulkAll ds ≤ 1048576)
def OpenSpec.upto (s : _root_.Go.ChangeSpec) : _root_.Go.OpenSpec := { _root_.Go.OpenSpec.ofChange s with cond := some uptoSmall }

/-- 'zeitnotlaw13.SeqnoNumbers', WHERE WHAT IT READS IS OF BULK AT MOST 1048576: true; the input reads as it did. -/
def seqnoNumbersUptoRow : OpenClaim := { program := "ythibagfmglnejaa", sum := "83efcdf104bc8d593d185ea46a410f8cecd47d5758c988dd89a83328c92bda50", func := "zeitnot/zeitnotlaw13.SeqnoNumbers", spec := "seqnoNumbers", apart := false, narrowed := true }
def SeqnoNumbersUptoSaid : Prop := seqnoNumbersUptoRow.holds Try.pinned (OpenSpec.upto seqnoNumbersSpec)

/-- 'zeitnotlaw13.SeqnoWindows', WHERE WHAT IT READS IS OF BULK AT MOST 1048576: true; the input reads as it did. -/
def seqnoWindowsUptoRow : OpenClaim := { program := "ythibagfmglnejaa", sum := "83efcdf104bc8d593d185ea46a410f8cecd47d5758c988dd89a83328c92bda50", func := "zeitnot/zeitnotlaw13.SeqnoWindows", spec := "seqnoWindows", apart := false, narrowed := true }
def SeqnoWindowsUptoSaid : Prop := seqnoWindowsUptoRow.holds Try.pinned (OpenSpec.upto seqnoWindowsSpec)

/-- 'zeitnotlaw13.SeqnoRounds', WHERE WHAT IT READS IS OF BULK AT MOST 1048576: true; the input reads as it did. -/
def seqnoRoundsUptoRow : OpenClaim := { program := "ythibagfmglnejaa", sum := "83efcdf104bc8d593d185ea46a410f8cecd47d5758c988dd89a83328c92bda50", func := "zeitnot/zeitnotlaw13.SeqnoRounds", spec := "seqnoRounds", apart := false, narrowed := true }
def SeqnoRoundsUptoSaid : Prop := seqnoRoundsUptoRow.holds Try.pinned (OpenSpec.upto seqnoRoundsSpec)

/-- 'zeitnotlaw13.SeqnoHolds', WHERE WHAT IT READS IS OF BULK AT MOST 1048576: true; the input reads as it did. -/
def seqnoHoldsUptoRow : OpenClaim := { program := "ythibagfmglnejaa", sum := "83efcdf104bc8d593d185ea46a410f8cecd47d5758c988dd89a83328c92bda50", func := "zeitnot/zeitnotlaw13.SeqnoHolds", spec := "seqnoHolds", apart := false, narrowed := true }
def SeqnoHoldsUptoSaid : Prop := seqnoHoldsUptoRow.holds Try.pinned (OpenSpec.upto seqnoHoldsSpec)

/-- 'zeitnotlaw13.SeqnoPlays', WHERE WHAT IT READS IS OF BULK AT MOST 1048576: true; the input reads as it did. -/
def seqnoPlaysUptoRow : OpenClaim := { program := "ythibagfmglnejaa", sum := "83efcdf104bc8d593d185ea46a410f8cecd47d5758c988dd89a83328c92bda50", func := "zeitnot/zeitnotlaw13.SeqnoPlays", spec := "seqnoPlays", apart := false, narrowed := true }
def SeqnoPlaysUptoSaid : Prop := seqnoPlaysUptoRow.holds Try.pinned (OpenSpec.upto seqnoPlaysSpec)

/-- 'zeitnotlaw13.SeqnoNil', WHERE WHAT IT READS IS OF BULK AT MOST 1048576: true; the input reads as it did. -/
def seqnoNilUptoRow : OpenClaim := { program := "ythibagfmglnejaa", sum := "83efcdf104bc8d593d185ea46a410f8cecd47d5758c988dd89a83328c92bda50", func := "zeitnot/zeitnotlaw13.SeqnoNil", spec := "seqnoNil", apart := false, narrowed := true }
def SeqnoNilUptoSaid : Prop := seqnoNilUptoRow.holds Try.pinned (OpenSpec.upto seqnoNilSpec)

end Rows
end Go.Proofs.Ythibagfmglnejaa
