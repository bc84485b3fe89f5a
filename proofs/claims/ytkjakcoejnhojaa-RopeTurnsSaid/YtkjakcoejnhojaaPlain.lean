/- The plain mathematics of ropes: no program in sight. -/
namespace Go.Proofs.Ytkjakcoejnhojaa.Plain
/-- the greatest number of a rope and of a bank -/
def vR (r b : Int) : Bool := decide (r ≤ 1099511627776 ∧ b ≤ 1099511627776)
/-- what is left of a after b -/
def sub0 (a b : Int) : Int := if a ≤ b then 0 else a - b
/-- a time that is later -/
def addN (a b : Int) : Int := if 18446744073709551615 - a < b then 18446744073709551615 else a + b
/-- a number of 64 bits -/
def U (a : Int) : Prop := 0 ≤ a ∧ a ≤ 18446744073709551615
theorem vR_true {r b : Int} (h : vR r b = true) : r ≤ 1099511627776 ∧ b ≤ 1099511627776 := by simpa [vR] using h
theorem sub0_bd {a b : Int} (ha : 0 ≤ a) (hb : 0 ≤ b) : 0 ≤ sub0 a b ∧ sub0 a b ≤ a := by unfold sub0; split <;> omega
theorem U_sub0 {a b : Int} (ha : U a) (hb : U b) : U (sub0 a b) := by unfold U at *; have := sub0_bd ha.1 hb.1; omega
end Go.Proofs.Ytkjakcoejnhojaa.Plain
