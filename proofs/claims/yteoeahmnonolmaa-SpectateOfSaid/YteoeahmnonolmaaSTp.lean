/- Stands. -/
import Derived.Test.YteoeahmnonolmaaSPl
namespace Go.Proofs.Yteoeahmnonolmaa.Plain
set_option linter.unusedVariables false
def U (a : Int) : Prop := 0 ≤ a ∧ a ≤ 18446744073709551615
def addN (a b : Int) : Int := if 18446744073709551615 - a < b then 18446744073709551615 else a + b
def over (d t : Int) : Bool := (d != 18446744073709551615) && decide (d ≤ t)
/-- is a board that was shown then to be seen -/
def dueT (dl nw at' : Int) : Bool := over (addN at' dl) nw
/-- the boards that are still kept -/
def drp {α : Type} (dl nw : Int) : List (α × Int) → List (α × Int)
  | [] => []
  | [a] => [a]
  | a :: b :: l => if dueT dl nw b.2 = true then drp dl nw (b :: l) else a :: b :: l
structure Sd where
  dl : Int
  nw : Int
  l : List (Pu × Int)
def Sd.go (s : Sd) (t : Int) : Sd := { s with nw := max s.nw t, l := drp s.dl (max s.nw t) s.l }
theorem addN_U {a b : Int} (ha : U a) (hb : U b) : U (addN a b) := by unfold addN U at *; split <;> omega
end Go.Proofs.Yteoeahmnonolmaa.Plain
