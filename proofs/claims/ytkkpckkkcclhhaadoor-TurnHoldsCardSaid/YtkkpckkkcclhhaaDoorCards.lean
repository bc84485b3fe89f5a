/-
  DERIVED. GIVEN WITH THE SEED: THE CARDS: each row of YtkkpckkkcclhhaaDoorRows.lean that lists a variable, with what it lists TIED to the program's text (the seventh form; the later family's looks); each row that meets fmt, with fmt's text TOLD by the authors' own Lean function (tested against real Go, not proved from fmt's source: count such statements apart). THE CARD IS WHAT COUNTS. Prove the row's statement (the work); the ties are given (YtkkpckkkcclhhaaDoorTie.lean); close each card by the builder's one call (the guide's Derived/Test/ToyasCard.lean, 'card_holds'). Laid BY PROGRAM, IN A SANDBOX (cutbox-door.mjs). By AI agents, Wed Nov 11 2026. No macro, syntax, notation, axiom, sorry.
-/
import Derived.Test.YtkkpckkkcclhhaaDoorRows
import GoSem.ClaimSeven
namespace Go.Proofs.YtkkpckkkcclhhaaDoor
namespace Rows

/-- THE TIED CARD OF 'zeitnotlaw23.TurnPhases'. -/
def turnPhasesCard : Claim7 := { stood := { row := turnPhasesRow, standIns := [], harness := (true, "d0843cdb669e043ca5893928cba7782b8456895d2600c58fe1a45161bb522cb0"), looks := false }, kinds := [], alts := [], laidByText := true, laidKinds := [.data], laidTests := true, laidLooks := .later }
def TurnPhasesCardSaid : Prop := Claim7.holds Tryd.pinned (.plain (OpenSpec.ofChange turnPhasesSpec)) turnPhasesCard

/-- THE TIED CARD OF 'zeitnotlaw23.TurnGives'. -/
def turnGivesCard : Claim7 := { stood := { row := turnGivesRow, standIns := [], harness := (true, "d0843cdb669e043ca5893928cba7782b8456895d2600c58fe1a45161bb522cb0"), looks := false }, kinds := [], alts := [], laidByText := true, laidKinds := [.data], laidTests := true, laidLooks := .later }
def TurnGivesCardSaid : Prop := Claim7.holds Tryd.pinned (.plain (OpenSpec.ofChange turnGivesSpec)) turnGivesCard

/-- THE TIED CARD OF 'zeitnotlaw23.TurnBegins'. -/
def turnBeginsCard : Claim7 := { stood := { row := turnBeginsRow, standIns := [], harness := (true, "d0843cdb669e043ca5893928cba7782b8456895d2600c58fe1a45161bb522cb0"), looks := false }, kinds := [], alts := [], laidByText := true, laidKinds := [.data], laidTests := true, laidLooks := .later }
def TurnBeginsCardSaid : Prop := Claim7.holds Tryd.pinned (.plain (OpenSpec.ofChange turnBeginsSpec)) turnBeginsCard

/-- THE TIED CARD OF 'zeitnotlaw23.TurnRows'. -/
def turnRowsCard : Claim7 := { stood := { row := turnRowsRow, standIns := [], harness := (true, "d0843cdb669e043ca5893928cba7782b8456895d2600c58fe1a45161bb522cb0"), looks := false }, kinds := [], alts := [], laidByText := true, laidKinds := [.data], laidTests := true, laidLooks := .later }
def TurnRowsCardSaid : Prop := Claim7.holds Tryd.pinned (.plain (OpenSpec.ofChange turnRowsSpec)) turnRowsCard

/-- THE TIED CARD OF 'zeitnotlaw23.TurnHolds'. -/
def turnHoldsCard : Claim7 := { stood := { row := turnHoldsRow, standIns := [], harness := (true, "d0843cdb669e043ca5893928cba7782b8456895d2600c58fe1a45161bb522cb0"), looks := false }, kinds := [], alts := [], laidByText := true, laidKinds := [.data], laidTests := true, laidLooks := .later }
def TurnHoldsCardSaid : Prop := Claim7.holds Tryd.pinned (.plain (OpenSpec.ofChange turnHoldsSpec)) turnHoldsCard

/-- THE SECOND FORM's CARD OF 'zeitnotlaw23.TurnPhases'. -/
def turnPhasesUptoCard : Claim7 := { stood := { row := turnPhasesUptoRow, standIns := [], harness := (true, "d0843cdb669e043ca5893928cba7782b8456895d2600c58fe1a45161bb522cb0"), looks := false }, kinds := [], alts := [], laidByText := true, laidKinds := [.data], laidTests := true, laidLooks := .later }
def TurnPhasesUptoCardSaid : Prop := Claim7.holds Tryd.pinned (.plain (OpenSpec.upto turnPhasesSpec)) turnPhasesUptoCard

/-- THE SECOND FORM's CARD OF 'zeitnotlaw23.TurnGives'. -/
def turnGivesUptoCard : Claim7 := { stood := { row := turnGivesUptoRow, standIns := [], harness := (true, "d0843cdb669e043ca5893928cba7782b8456895d2600c58fe1a45161bb522cb0"), looks := false }, kinds := [], alts := [], laidByText := true, laidKinds := [.data], laidTests := true, laidLooks := .later }
def TurnGivesUptoCardSaid : Prop := Claim7.holds Tryd.pinned (.plain (OpenSpec.upto turnGivesSpec)) turnGivesUptoCard

/-- THE SECOND FORM's CARD OF 'zeitnotlaw23.TurnBegins'. -/
def turnBeginsUptoCard : Claim7 := { stood := { row := turnBeginsUptoRow, standIns := [], harness := (true, "d0843cdb669e043ca5893928cba7782b8456895d2600c58fe1a45161bb522cb0"), looks := false }, kinds := [], alts := [], laidByText := true, laidKinds := [.data], laidTests := true, laidLooks := .later }
def TurnBeginsUptoCardSaid : Prop := Claim7.holds Tryd.pinned (.plain (OpenSpec.upto turnBeginsSpec)) turnBeginsUptoCard

/-- THE SECOND FORM's CARD OF 'zeitnotlaw23.TurnRows'. -/
def turnRowsUptoCard : Claim7 := { stood := { row := turnRowsUptoRow, standIns := [], harness := (true, "d0843cdb669e043ca5893928cba7782b8456895d2600c58fe1a45161bb522cb0"), looks := false }, kinds := [], alts := [], laidByText := true, laidKinds := [.data], laidTests := true, laidLooks := .later }
def TurnRowsUptoCardSaid : Prop := Claim7.holds Tryd.pinned (.plain (OpenSpec.upto turnRowsSpec)) turnRowsUptoCard

/-- THE SECOND FORM's CARD OF 'zeitnotlaw23.TurnHolds'. -/
def turnHoldsUptoCard : Claim7 := { stood := { row := turnHoldsUptoRow, standIns := [], harness := (true, "d0843cdb669e043ca5893928cba7782b8456895d2600c58fe1a45161bb522cb0"), looks := false }, kinds := [], alts := [], laidByText := true, laidKinds := [.data], laidTests := true, laidLooks := .later }
def TurnHoldsUptoCardSaid : Prop := Claim7.holds Tryd.pinned (.plain (OpenSpec.upto turnHoldsSpec)) turnHoldsUptoCard
end Rows
end Go.Proofs.YtkkpckkkcclhhaaDoor
