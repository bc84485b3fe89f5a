/- The plain mathematics of saturating numbers: no program in sight. -/
namespace Go.Proofs.Ytenpjhpdanhmaaa.Plain
/-- a number of 64 bits -/
def I (a : Int) : Prop := -9223372036854775808 ≤ a ∧ a ≤ 9223372036854775807
/-- the number from 0 to m that is next to n -/
def cl (n m : Int) : Int := max 0 (min n m)
/-- the number of 64 bits that is next to n -/
def sat (n : Int) : Int := max (-9223372036854775808) (min n 9223372036854775807)
/-- by how much a sum is above a maximum -/
def dr (a b m : Int) : Int := min 9223372036854775807 (max 0 (a + b - max 0 m))
theorem I_sat (n : Int) : I (sat n) := by unfold I sat; omega
theorem cl_bd (n : Int) {m : Int} (hm : I m) : 0 ≤ cl n m ∧ cl n m ≤ 9223372036854775807 := by unfold cl I at *; omega
theorem I_cl (n : Int) {m : Int} (hm : I m) : I (cl n m) := by have := cl_bd n hm; unfold I; omega
theorem cl_sat (n : Int) {m : Int} (hm : I m) : cl (sat n) m = cl n m := by unfold cl sat I at *; omega
/-- the sum, clamped after each number -/
def sums (m : Int) (l : List Int) : Int := l.foldl (fun n x => cl (n + x) m) 0
end Go.Proofs.Ytenpjhpdanhmaaa.Plain
