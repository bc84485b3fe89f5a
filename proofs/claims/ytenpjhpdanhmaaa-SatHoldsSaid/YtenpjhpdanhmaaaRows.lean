/-
  No cell of these rows narrows 'for every input' (looked for: loops, veiled, ifaces, maps, wideKeys, modest, calm, conditions, laid).
  DERIVED. THE GIVEN ROWS OF THIS SEAT. 6 by the template 'for every input the law returns true; each argument reads behind the call as it read before'; 0 by the template 'total and deterministic' (their statements: YtenpjhpdanhmaaaTotals.lean).
  GIVEN WITH THE SEED: the statements are not yours to turn. If you find one false, say at which input.
  Laid BY PROGRAM, IN A SANDBOX (cutbox-rows.mjs): the forced cells as the released guide's own fill.sh prints them over the translation ba821b048ed0cdd5… (all of the seat's roots in one cut). By AI agents, Wed Nov 11 2026. No macro, syntax, notation, axiom, sorry.
-/
import Derived.Test.YtenpjhpdanhmaaaChecked
import GoSem.Claim
import GoSem.ClaimJoined
import GoSem.ClaimMapViews
import Derived.JoinedTies
import Derived.KernelRfl
namespace Go.Proofs.Ytenpjhpdanhmaaa
/- THE CELL 'sum', in the pinned program and in every row, IS THE sha256 OF THE DUMP (.gsa) THAT YtenpjhpdanhmaaaProg.lean LOADS. Nothing in Lean hashes anything: it is a label: what it is worth is what the hold of that sum in a sandbox is worth. -/
noncomputable def Try.pinned : Pinned := { name := "ytenpjhpdanhmaaa", sum := "ba821b048ed0cdd53fb1f399907ad4b97bedbd93625a6860a308fe3fe0cc2289", checked := Try.checked }
namespace Rows
def none {H : Type} : Left H := { results := [], args := [] }

/-- 'zeitnotlaw01.SatClamps': WHATEVER THE INPUT: true; the input reads as it did. -/
def satClampsSpec : ChangeSpec := { name := "satClamps", fn := fun _ => fun
  | [d1, d2, d3] => { results := [.lit (.bool true)], args := [d1, d2, d3] }
  | _ => none }
def satClampsRow : OpenClaim := { program := "ytenpjhpdanhmaaa", sum := "ba821b048ed0cdd53fb1f399907ad4b97bedbd93625a6860a308fe3fe0cc2289", func := "zeitnot/zeitnotlaw01.SatClamps", spec := "satClamps", apart := false }
def SatClampsSaid : Prop := satClampsRow.holds Try.pinned (OpenSpec.ofChange satClampsSpec)

/-- ITS FALSE NEIGHBOUR: 'it returns false'. Refute it at one input. -/
def satClampsWrong : ChangeSpec := { name := "satClamps", fn := fun _ => fun
  | [d1, d2, d3] => { results := [.lit (.bool false)], args := [d1, d2, d3] }
  | _ => none }
def SatClampsWrongFalsely : Prop := satClampsRow.holds Try.pinned (OpenSpec.ofChange satClampsWrong)

/-- 'zeitnotlaw01.SatSubs': WHATEVER THE INPUT: true; the input reads as it did. -/
def satSubsSpec : ChangeSpec := { name := "satSubs", fn := fun _ => fun
  | [d1, d2, d3] => { results := [.lit (.bool true)], args := [d1, d2, d3] }
  | _ => none }
def satSubsRow : OpenClaim := { program := "ytenpjhpdanhmaaa", sum := "ba821b048ed0cdd53fb1f399907ad4b97bedbd93625a6860a308fe3fe0cc2289", func := "zeitnot/zeitnotlaw01.SatSubs", spec := "satSubs", apart := false }
def SatSubsSaid : Prop := satSubsRow.holds Try.pinned (OpenSpec.ofChange satSubsSpec)

/-- ITS FALSE NEIGHBOUR: 'it returns false'. Refute it at one input. -/
def satSubsWrong : ChangeSpec := { name := "satSubs", fn := fun _ => fun
  | [d1, d2, d3] => { results := [.lit (.bool false)], args := [d1, d2, d3] }
  | _ => none }
def SatSubsWrongFalsely : Prop := satSubsRow.holds Try.pinned (OpenSpec.ofChange satSubsWrong)

/-- 'zeitnotlaw01.SatTimes': WHATEVER THE INPUT: true; the input reads as it did. -/
def satTimesSpec : ChangeSpec := { name := "satTimes", fn := fun _ => fun
  | [d1, d2, d3] => { results := [.lit (.bool true)], args := [d1, d2, d3] }
  | _ => none }
def satTimesRow : OpenClaim := { program := "ytenpjhpdanhmaaa", sum := "ba821b048ed0cdd53fb1f399907ad4b97bedbd93625a6860a308fe3fe0cc2289", func := "zeitnot/zeitnotlaw01.SatTimes", spec := "satTimes", apart := false }
def SatTimesSaid : Prop := satTimesRow.holds Try.pinned (OpenSpec.ofChange satTimesSpec)

/-- ITS FALSE NEIGHBOUR: 'it returns false'. Refute it at one input. -/
def satTimesWrong : ChangeSpec := { name := "satTimes", fn := fun _ => fun
  | [d1, d2, d3] => { results := [.lit (.bool false)], args := [d1, d2, d3] }
  | _ => none }
def SatTimesWrongFalsely : Prop := satTimesRow.holds Try.pinned (OpenSpec.ofChange satTimesWrong)

/-- 'zeitnotlaw01.SatDrops': WHATEVER THE INPUT: true; the input reads as it did. -/
def satDropsSpec : ChangeSpec := { name := "satDrops", fn := fun _ => fun
  | [d1, d2, d3] => { results := [.lit (.bool true)], args := [d1, d2, d3] }
  | _ => none }
def satDropsRow : OpenClaim := { program := "ytenpjhpdanhmaaa", sum := "ba821b048ed0cdd53fb1f399907ad4b97bedbd93625a6860a308fe3fe0cc2289", func := "zeitnot/zeitnotlaw01.SatDrops", spec := "satDrops", apart := false }
def SatDropsSaid : Prop := satDropsRow.holds Try.pinned (OpenSpec.ofChange satDropsSpec)

/-- ITS FALSE NEIGHBOUR: 'it returns false'. Refute it at one input. -/
def satDropsWrong : ChangeSpec := { name := "satDrops", fn := fun _ => fun
  | [d1, d2, d3] => { results := [.lit (.bool false)], args := [d1, d2, d3] }
  | _ => none }
def SatDropsWrongFalsely : Prop := satDropsRow.holds Try.pinned (OpenSpec.ofChange satDropsWrong)

/-- 'zeitnotlaw01.SatSums': WHATEVER THE INPUT: true; the input reads as it did. -/
def satSumsSpec : ChangeSpec := { name := "satSums", fn := fun _ => fun
  | [d1, d2] => { results := [.lit (.bool true)], args := [d1, d2] }
  | _ => none }
def satSumsRow : OpenClaim := { program := "ytenpjhpdanhmaaa", sum := "ba821b048ed0cdd53fb1f399907ad4b97bedbd93625a6860a308fe3fe0cc2289", func := "zeitnot/zeitnotlaw01.SatSums", spec := "satSums", apart := false }
def SatSumsSaid : Prop := satSumsRow.holds Try.pinned (OpenSpec.ofChange satSumsSpec)

/-- ITS FALSE NEIGHBOUR: 'it returns false'. Refute it at one input. -/
def satSumsWrong : ChangeSpec := { name := "satSums", fn := fun _ => fun
  | [d1, d2] => { results := [.lit (.bool false)], args := [d1, d2] }
  | _ => none }
def SatSumsWrongFalsely : Prop := satSumsRow.holds Try.pinned (OpenSpec.ofChange satSumsWrong)

/-- 'zeitnotlaw01.SatHolds': WHATEVER THE INPUT: true; the input reads as it did. -/
def satHoldsSpec : ChangeSpec := { name := "satHolds", fn := fun _ => fun
  | [d1, d2, d3] => { results := [.lit (.bool true)], args := [d1, d2, d3] }
  | _ => none }
def satHoldsRow : OpenClaim := { program := "ytenpjhpdanhmaaa", sum := "ba821b048ed0cdd53fb1f399907ad4b97bedbd93625a6860a308fe3fe0cc2289", func := "zeitnot/zeitnotlaw01.SatHolds", spec := "satHolds", apart := false }
def SatHoldsSaid : Prop := satHoldsRow.holds Try.pinned (OpenSpec.ofChange satHoldsSpec)

/-- ITS FALSE NEIGHBOUR: 'it returns false'. Refute it at one input. -/
def satHoldsWrong : ChangeSpec := { name := "satHolds", fn := fun _ => fun
  | [d1, d2, d3] => { results := [.lit (.bool false)], args := [d1, d2, d3] }
  | _ => none }
def SatHoldsWrongFalsely : Prop := satHoldsRow.holds Try.pinned (OpenSpec.ofChange satHoldsWrong)

/- THE SECOND FORM. 'bulk': how many values and letters a reading holds, each counted each time it is reached (what is shared counts as often as it is met; a slice's spare places count too). A statement '..UptoSaid' is the law's where the arguments, and the package variables that the reading takes, are together of bulk at most 1048576: NARROWER than '..Said'. Prove '..Said' where nothing that the law and all that it calls make is longer than what came in: it says more and counts as full. Else prove '..UptoSaid'. A law counts once. -/
mutual
def uptoBulk {H : Type} : DataW H → Nat
  | .lit (.string bytes) => bytes.length + 1
  | .lit _ => 1
  | .nil => 1
  | .ptr d => uptoBulk d + 1
  | .slice elems spare => uptoBulkAll elems + uptoBulkAll spare + 1
  | .agg parts => uptoBulkAll parts + 1
  | .iface _ d => uptoBulk d + 1
  | .map entries => uptoBulkEntries entries + 1
  | .held _ => 1
def uptoBulkAll {H : Type} : List (DataW H) → Nat
  | [] => 0
  | d :: r => uptoBulk d + uptoBulkAll r
def uptoBulkEntries {H : Type} : List (Lit × DataW H) → Nat
  | [] => 0
  | x :: r => uptoBulkEntry x + uptoBulkEntries r
def uptoBulkEntry {H : Type} : Lit × DataW H → Nat
  | (.string bytes, d) => bytes.length + uptoBulk d + 1
  | (_, d) => uptoBulk d + 1
 end
def uptoSmall : (H : Type) → List (DataW H) → Bool := fun _ ds => decide (uptoBulkAll ds ≤ 1048576)
def OpenSpec.upto (s : _root_.Go.ChangeSpec) : _root_.Go.OpenSpec := { _root_.Go.OpenSpec.ofChange s with cond := some uptoSmall }

/-- 'zeitnotlaw01.SatClamps', WHERE WHAT IT READS IS OF BULK AT MOST 1048576: true; the input reads as it did. -/
def satClampsUptoRow : OpenClaim := { program := "ytenpjhpdanhmaaa", sum := "ba821b048ed0cdd53fb1f399907ad4b97bedbd93625a6860a308fe3fe0cc2289", func := "zeitnot/zeitnotlaw01.SatClamps", spec := "satClamps", apart := false, narrowed := true }
def SatClampsUptoSaid : Prop := satClampsUptoRow.holds Try.pinned (OpenSpec.upto satClampsSpec)

/-- 'zeitnotlaw01.SatSubs', WHERE WHAT IT READS IS OF BULK AT MOST 1048576: true; the input reads as it did. -/
def satSubsUptoRow : OpenClaim := { program := "ytenpjhpdanhmaaa", sum := "ba821b048ed0cdd53fb1f399907ad4b97bedbd93625a6860a308fe3fe0cc2289", func := "zeitnot/zeitnotlaw01.SatSubs", spec := "satSubs", apart := false, narrowed := true }
def SatSubsUptoSaid : Prop := satSubsUptoRow.holds Try.pinned (OpenSpec.upto satSubsSpec)

/-- 'zeitnotlaw01.SatTimes', WHERE WHAT IT READS IS OF BULK AT MOST 1048576: true; the input reads as it did. -/
def satTimesUptoRow : OpenClaim := { program := "ytenpjhpdanhmaaa", sum := "ba821b048ed0cdd53fb1f399907ad4b97bedbd93625a6860a308fe3fe0cc2289", func := "zeitnot/zeitnotlaw01.SatTimes", spec := "satTimes", apart := false, narrowed := true }
def SatTimesUptoSaid : Prop := satTimesUptoRow.holds Try.pinned (OpenSpec.upto satTimesSpec)

/-- 'zeitnotlaw01.SatDrops', WHERE WHAT IT READS IS OF BULK AT MOST 1048576: true; the input reads as it did. -/
def satDropsUptoRow : OpenClaim := { program := "ytenpjhpdanhmaaa", sum := "ba821b048ed0cdd53fb1f399907ad4b97bedbd93625a6860a308fe3fe0cc2289", func := "zeitnot/zeitnotlaw01.SatDrops", spec := "satDrops", apart := false, narrowed := true }
def SatDropsUptoSaid : Prop := satDropsUptoRow.holds Try.pinned (OpenSpec.upto satDropsSpec)

/-- 'zeitnotlaw01.SatSums', WHERE WHAT IT READS IS OF BULK AT MOST 1048576: true; the input reads as it did. -/
def satSumsUptoRow : OpenClaim := { program := "ytenpjhpdanhmaaa", sum := "ba821b048ed0cdd53fb1f399907ad4b97bedbd93625a6860a308fe3fe0cc2289", func := "zeitnot/zeitnotlaw01.SatSums", spec := "satSums", apart := false, narrowed := true }
def SatSumsUptoSaid : Prop := satSumsUptoRow.holds Try.pinned (OpenSpec.upto satSumsSpec)

/-- 'zeitnotlaw01.SatHolds', WHERE WHAT IT READS IS OF BULK AT MOST 1048576: true; the input reads as it did. -/
def satHoldsUptoRow : OpenClaim := { program := "ytenpjhpdanhmaaa", sum := "ba821b048ed0cdd53fb1f399907ad4b97bedbd93625a6860a308fe3fe0cc2289", func := "zeitnot/zeitnotlaw01.SatHolds", spec := "satHolds", apart := false, narrowed := true }
def SatHoldsUptoSaid : Prop := satHoldsUptoRow.holds Try.pinned (OpenSpec.upto satHoldsSpec)

end Rows
end Go.Proofs.Ytenpjhpdanhmaaa
