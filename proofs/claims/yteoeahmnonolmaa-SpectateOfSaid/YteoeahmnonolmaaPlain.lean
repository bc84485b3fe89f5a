/- The plain mathematics of objects. -/
namespace Go.Proofs.Yteoeahmnonolmaa.Plain
set_option linter.unusedVariables false
/-- an object -/
structure Ob where
  id : Int
  cd : Int
  ow : Int
  po : Int
  tg : Int
  da : Int
  co : Int
  pp : Int
  pt : Int
  ta : Bool
  si : Bool
  dm : Bool
/-- a number of 64 bits -/
def I (a : Int) : Prop := -9223372036854775808 ≤ a ∧ a ≤ 9223372036854775807
def cl (n m : Int) : Int := max 0 (min n m)
def sat (n : Int) : Int := max (-9223372036854775808) (min n 9223372036854775807)
theorem I_sat (n : Int) : I (sat n) := by unfold I sat; omega
theorem cl_sat (n : Int) {m : Int} (hm : I m) : cl (sat n) m = cl n m := by unfold cl sat I at *; omega
/-- adding to one of an object's numbers -/
def ad (a b : Int) : Int := cl (max 0 a + max 0 b) 99
theorem ad_bd (a b : Int) : 0 ≤ ad a b ∧ ad a b ≤ 99 := by unfold ad cl; omega
theorem I_ad (a b : Int) : I (ad a b) := by have := ad_bd a b; unfold I; omega
structure Ob.I (o : Ob) : Prop where
  id : Plain.I o.id
  cd : Plain.I o.cd
  ow : Plain.I o.ow
  po : Plain.I o.po
  tg : Plain.I o.tg
  da : Plain.I o.da
  co : Plain.I o.co
  pp : Plain.I o.pp
  pt : Plain.I o.pt
/-- is an object valid -/
def vO (o : Ob) : Bool := decide (1 ≤ o.id ∧ o.id ≤ 500 ∧ -1 ≤ o.cd ∧ o.cd ≤ 399 ∧ (o.ow = 0 ∨ o.ow = 1) ∧ (o.cd = -1 ∨ (o.po = 0 ∧ o.tg = 0)) ∧ (0 ≤ o.po ∧ o.po ≤ 99) ∧ (0 ≤ o.tg ∧ o.tg ≤ 99) ∧ (0 ≤ o.da ∧ o.da ≤ 99) ∧ (0 ≤ o.co ∧ o.co ≤ 99) ∧ (0 ≤ o.pp ∧ o.pp ≤ 99) ∧ (0 ≤ o.pt ∧ o.pt ≤ 99))
end Go.Proofs.Yteoeahmnonolmaa.Plain
