/-
  NARROWER THAN 'FOR EVERY INPUT', by the rows' own cells (each row's printed sentence says how): TurnPhases: laid · TurnGives: laid · TurnBegins: laid · TurnRows: laid · TurnHolds: laid.
  DERIVED. THE GIVEN ROWS OF THIS SEAT. 5 by the template 'for every input the law returns true; each argument reads behind the call as it read before'; 0 by the template 'total and deterministic' (their statements: YtkkpckkkcclhhaaDoorTotals.lean).
  GIVEN WITH THE SEED: the statements are not yours to turn. If you find one false, say at which input.
  Laid BY PROGRAM, IN A SANDBOX (cutbox-rows.mjs): the forced cells as the released guide's own fill.sh prints them over the translation 2c96dcd2c8656abb… (all of the seat's roots in one cut). By AI agents, Wed Nov 11 2026. No macro, syntax, notation, axiom, sorry.
-/
import Derived.Test.YtkkpckkkcclhhaaDoorChecked
import GoSem.Claim
import GoSem.ClaimJoined
import GoSem.ClaimMapViews
import Derived.JoinedTies
import Derived.KernelRfl
namespace Go.Proofs.YtkkpckkkcclhhaaDoor
/- THE CELL 'sum', in the pinned program and in every row, IS THE sha256 OF THE DUMP (.gsa) THAT YtkkpckkkcclhhaaDoorProg.lean LOADS. Nothing in Lean hashes anything: it is a label: what it is worth is what the hold of that sum in a sandbox is worth. -/
noncomputable def Tryd.pinned : Pinned := { name := "ytkkpckkkcclhhaadoor", sum := "2c96dcd2c8656abbfedb51ea489a260366030c99f33f419037b239cb008eee2f", checked := Tryd.checked }
namespace Rows
def none {H : Type} : Left H := { results := [], args := [] }

/- WHAT THE LISTED PACKAGE-LEVEL VARIABLES READ AS WHEN THE CALL BEGINS. Each datum BY PROGRAM (the guide's laid-datum.mjs) off the statement by which the dump's own 'gosem.cut.vars' lays the variable. In a bare row this is a premise. The card (YtkkpckkkcclhhaaDoorCards.lean) ties it to the program's text. -/
def laid_zeitnot_turn_words {H : Type} : DataW H := .agg [.lit (.string [115, 101, 116, 117, 112]), .lit (.string [117, 110, 116, 97, 112]), .lit (.string [117, 112, 107, 101, 101, 112]), .lit (.string [100, 114, 97, 119]), .lit (.string [109, 97, 105, 110]), .lit (.string [97, 116, 116, 97, 99, 107]), .lit (.string [98, 108, 111, 99, 107]), .lit (.string [102, 105, 103, 104, 116]), .lit (.string [100, 97, 109, 97, 103, 101]), .lit (.string [115, 101, 99, 111, 110, 100]), .lit (.string [101, 110, 100])]

/-- 'zeitnotlaw23.TurnPhases': WHATEVER THE INPUT: true; the input reads as it did. -/
def turnPhasesSpec : ChangeSpec := { name := "turnPhases", fn := fun _ => fun
  | [d] => { results := [.lit (.bool true)], args := [d] }
  | _ => none }
def turnPhasesRow : OpenClaim := { program := "ytkkpckkkcclhhaadoor", sum := "2c96dcd2c8656abbfedb51ea489a260366030c99f33f419037b239cb008eee2f", func := "zeitnot/zeitnotlaw23.TurnPhases", spec := "turnPhases", unfollowed := true, recurses := true, named := ["zeitnot/turn.words"], apart := false, laid := [("zeitnot/turn.words", laid_zeitnot_turn_words)] }
def TurnPhasesSaid : Prop := turnPhasesRow.holds Tryd.pinned (OpenSpec.ofChange turnPhasesSpec)

/-- ITS FALSE NEIGHBOUR: 'it returns false'. Refute it at one input. -/
def turnPhasesWrong : ChangeSpec := { name := "turnPhases", fn := fun _ => fun
  | [d] => { results := [.lit (.bool false)], args := [d] }
  | _ => none }
def TurnPhasesWrongFalsely : Prop := turnPhasesRow.holds Tryd.pinned (OpenSpec.ofChange turnPhasesWrong)

/-- 'zeitnotlaw23.TurnGives': WHATEVER THE INPUT: true; the input reads as it did. -/
def turnGivesSpec : ChangeSpec := { name := "turnGives", fn := fun _ => fun
  | [d1, d2, d3, d4] => { results := [.lit (.bool true)], args := [d1, d2, d3, d4] }
  | _ => none }
def turnGivesRow : OpenClaim := { program := "ytkkpckkkcclhhaadoor", sum := "2c96dcd2c8656abbfedb51ea489a260366030c99f33f419037b239cb008eee2f", func := "zeitnot/zeitnotlaw23.TurnGives", spec := "turnGives", unfollowed := true, recurses := true, named := ["zeitnot/turn.words"], apart := false, laid := [("zeitnot/turn.words", laid_zeitnot_turn_words)] }
def TurnGivesSaid : Prop := turnGivesRow.holds Tryd.pinned (OpenSpec.ofChange turnGivesSpec)

/-- ITS FALSE NEIGHBOUR: 'it returns false'. Refute it at one input. -/
def turnGivesWrong : ChangeSpec := { name := "turnGives", fn := fun _ => fun
  | [d1, d2, d3, d4] => { results := [.lit (.bool false)], args := [d1, d2, d3, d4] }
  | _ => none }
def TurnGivesWrongFalsely : Prop := turnGivesRow.holds Tryd.pinned (OpenSpec.ofChange turnGivesWrong)

/-- 'zeitnotlaw23.TurnBegins': WHATEVER THE INPUT: true; the input reads as it did. -/
def turnBeginsSpec : ChangeSpec := { name := "turnBegins", fn := fun _ => fun
  | [d] => { results := [.lit (.bool true)], args := [d] }
  | _ => none }
def turnBeginsRow : OpenClaim := { program := "ytkkpckkkcclhhaadoor", sum := "2c96dcd2c8656abbfedb51ea489a260366030c99f33f419037b239cb008eee2f", func := "zeitnot/zeitnotlaw23.TurnBegins", spec := "turnBegins", unfollowed := true, recurses := true, named := ["zeitnot/turn.words"], apart := false, laid := [("zeitnot/turn.words", laid_zeitnot_turn_words)] }
def TurnBeginsSaid : Prop := turnBeginsRow.holds Tryd.pinned (OpenSpec.ofChange turnBeginsSpec)

/-- ITS FALSE NEIGHBOUR: 'it returns false'. Refute it at one input. -/
def turnBeginsWrong : ChangeSpec := { name := "turnBegins", fn := fun _ => fun
  | [d] => { results := [.lit (.bool false)], args := [d] }
  | _ => none }
def TurnBeginsWrongFalsely : Prop := turnBeginsRow.holds Tryd.pinned (OpenSpec.ofChange turnBeginsWrong)

/-- 'zeitnotlaw23.TurnRows': WHATEVER THE INPUT: true; the input reads as it did. -/
def turnRowsSpec : ChangeSpec := { name := "turnRows", fn := fun _ => fun
  | [d1, d2] => { results := [.lit (.bool true)], args := [d1, d2] }
  | _ => none }
def turnRowsRow : OpenClaim := { program := "ytkkpckkkcclhhaadoor", sum := "2c96dcd2c8656abbfedb51ea489a260366030c99f33f419037b239cb008eee2f", func := "zeitnot/zeitnotlaw23.TurnRows", spec := "turnRows", unfollowed := true, recurses := true, named := ["zeitnot/turn.words"], apart := false, laid := [("zeitnot/turn.words", laid_zeitnot_turn_words)] }
def TurnRowsSaid : Prop := turnRowsRow.holds Tryd.pinned (OpenSpec.ofChange turnRowsSpec)

/-- ITS FALSE NEIGHBOUR: 'it returns false'. Refute it at one input. -/
def turnRowsWrong : ChangeSpec := { name := "turnRows", fn := fun _ => fun
  | [d1, d2] => { results := [.lit (.bool false)], args := [d1, d2] }
  | _ => none }
def TurnRowsWrongFalsely : Prop := turnRowsRow.holds Tryd.pinned (OpenSpec.ofChange turnRowsWrong)

/-- 'zeitnotlaw23.TurnHolds': WHATEVER THE INPUT: true; the input reads as it did. -/
def turnHoldsSpec : ChangeSpec := { name := "turnHolds", fn := fun _ => fun
  | [d1, d2] => { results := [.lit (.bool true)], args := [d1, d2] }
  | _ => none }
def turnHoldsRow : OpenClaim := { program := "ytkkpckkkcclhhaadoor", sum := "2c96dcd2c8656abbfedb51ea489a260366030c99f33f419037b239cb008eee2f", func := "zeitnot/zeitnotlaw23.TurnHolds", spec := "turnHolds", unfollowed := true, recurses := true, named := ["zeitnot/turn.words"], apart := false, laid := [("zeitnot/turn.words", laid_zeitnot_turn_words)] }
def TurnHoldsSaid : Prop := turnHoldsRow.holds Tryd.pinned (OpenSpec.ofChange turnHoldsSpec)

/-- ITS FALSE NEIGHBOUR: 'it returns false'. Refute it at one input. -/
def turnHoldsWrong : ChangeSpec := { name := "turnHolds", fn := fun _ => fun
  | [d1, d2] => { results := [.lit (.bool false)], args := [d1, d2] }
  | _ => none }
def TurnHoldsWrongFalsely : Prop := turnHoldsRow.holds Tryd.pinned (OpenSpec.ofChange turnHoldsWrong)

/- THE SECOND FORM. 'bulk': how many values and letters a reading holds, each counted each time it is reached (what is shared counts as often as it is met; a slice's spare places count too). A statement '..UptoSaid' is the law's where the arguments, and the package variables that the reading takes, are together of bulk at most 1048576: NARROWER than '..Said'. Prove '..Said' where nothing that the law and all that it calls make is longer than what came in: it says more and counts as full. Else prove '..UptoSaid'. A law counts once. -/
mutual
def uptoBulk {H : Type} : DataW H → Nat
  | .lit (.string bytes) => bytes.length + 1
  | .lit _ => 1
  | .nil => 1
  | .ptr d => uptoBulk d + 1
  | .slice elems spare => uptoBulkAll elems + uptoBulkAll spare + 1
  | .agg parts => uptoBulkAll parts + 1
  | .iface _ d => uptoBulk d + 1
  | .map entries => uptoBulkEntries entries + 1
  | .held _ => 1
def uptoBulkAll {H : Type} : List (DataW H) → Nat
  | [] => 0
  | d :: r => uptoBulk d + uptoBulkAll r
def uptoBulkEntries {H : Type} : List (Lit × DataW H) → Nat
  | [] => 0
  | x :: r => uptoBulkEntry x + uptoBulkEntries r
def uptoBulkEntry {H : Type} : Lit × DataW H → Nat
  | (.string bytes, d) => bytes.length + uptoBulk d + 1
  | (_, d) => uptoBulk d + 1
 end
def uptoSmall : (H : Type) → List (DataW H) → Bool := fun _ ds => decide (uptoBulkAll ds ≤ 1048576)
def OpenSpec.upto (s : _root_.Go.ChangeSpec) : _root_.Go.OpenSpec := { _root_.Go.OpenSpec.ofChange s with cond := some uptoSmall }

/-- 'zeitnotlaw23.TurnPhases', WHERE WHAT IT READS IS OF BULK AT MOST 1048576: true; the input reads as it did. -/
def turnPhasesUptoRow : OpenClaim := { program := "ytkkpckkkcclhhaadoor", sum := "2c96dcd2c8656abbfedb51ea489a260366030c99f33f419037b239cb008eee2f", func := "zeitnot/zeitnotlaw23.TurnPhases", spec := "turnPhases", unfollowed := true, recurses := true, named := ["zeitnot/turn.words"], apart := false, laid := [("zeitnot/turn.words", laid_zeitnot_turn_words)], narrowed := true }
def TurnPhasesUptoSaid : Prop := turnPhasesUptoRow.holds Tryd.pinned (OpenSpec.upto turnPhasesSpec)

/-- 'zeitnotlaw23.TurnGives', WHERE WHAT IT READS IS OF BULK AT MOST 1048576: true; the input reads as it did. -/
def turnGivesUptoRow : OpenClaim := { program := "ytkkpckkkcclhhaadoor", sum := "2c96dcd2c8656abbfedb51ea489a260366030c99f33f419037b239cb008eee2f", func := "zeitnot/zeitnotlaw23.TurnGives", spec := "turnGives", unfollowed := true, recurses := true, named := ["zeitnot/turn.words"], apart := false, laid := [("zeitnot/turn.words", laid_zeitnot_turn_words)], narrowed := true }
def TurnGivesUptoSaid : Prop := turnGivesUptoRow.holds Tryd.pinned (OpenSpec.upto turnGivesSpec)

/-- 'zeitnotlaw23.TurnBegins', WHERE WHAT IT READS IS OF BULK AT MOST 1048576: true; the input reads as it did. -/
def turnBeginsUptoRow : OpenClaim := { program := "ytkkpckkkcclhhaadoor", sum := "2c96dcd2c8656abbfedb51ea489a260366030c99f33f419037b239cb008eee2f", func := "zeitnot/zeitnotlaw23.TurnBegins", spec := "turnBegins", unfollowed := true, recurses := true, named := ["zeitnot/turn.words"], apart := false, laid := [("zeitnot/turn.words", laid_zeitnot_turn_words)], narrowed := true }
def TurnBeginsUptoSaid : Prop := turnBeginsUptoRow.holds Tryd.pinned (OpenSpec.upto turnBeginsSpec)

/-- 'zeitnotlaw23.TurnRows', WHERE WHAT IT READS IS OF BULK AT MOST 1048576: true; the input reads as it did. -/
def turnRowsUptoRow : OpenClaim := { program := "ytkkpckkkcclhhaadoor", sum := "2c96dcd2c8656abbfedb51ea489a260366030c99f33f419037b239cb008eee2f", func := "zeitnot/zeitnotlaw23.TurnRows", spec := "turnRows", unfollowed := true, recurses := true, named := ["zeitnot/turn.words"], apart := false, laid := [("zeitnot/turn.words", laid_zeitnot_turn_words)], narrowed := true }
def TurnRowsUptoSaid : Prop := turnRowsUptoRow.holds Tryd.pinned (OpenSpec.upto turnRowsSpec)

/-- 'zeitnotlaw23.TurnHolds', WHERE WHAT IT READS IS OF BULK AT MOST 1048576: true; the input reads as it did. -/
def turnHoldsUptoRow : OpenClaim := { program := "ytkkpckkkcclhhaadoor", sum := "2c96dcd2c8656abbfedb51ea489a260366030c99f33f419037b239cb008eee2f", func := "zeitnot/zeitnotlaw23.TurnHolds", spec := "turnHolds", unfollowed := true, recurses := true, named := ["zeitnot/turn.words"], apart := false, laid := [("zeitnot/turn.words", laid_zeitnot_turn_words)], narrowed := true }
def TurnHoldsUptoSaid : Prop := turnHoldsUptoRow.holds Tryd.pinned (OpenSpec.upto turnHoldsSpec)

end Rows
end Go.Proofs.YtkkpckkkcclhhaaDoor
