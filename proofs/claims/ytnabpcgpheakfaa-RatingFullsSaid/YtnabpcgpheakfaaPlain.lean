/- The plain mathematics of ratings: no program in sight. -/
namespace Go.Proofs.Ytnabpcgpheakfaa.Plain

/-- a number is a rating -/
def vB (a : Int) : Bool := decide (0 ≤ a ∧ a ≤ 4000)
/-- the steps of the table -/
def st (d : Int) : Int := if d ≤ 400 then d / 2 else min 490 (200 + (d - 400) / 3)
/-- the expectation -/
def ex (a b : Int) : Int := if b ≤ a then 500 + st (a - b) else 500 - st (b - a)
/-- the change of a match -/
def chg (a b f s : Int) : Int :=
  min (min (max (max ((f * (500 * s - ex a b)).tdiv 1000) (-a)) (b - 4000)) (4000 - a)) b
/-- a factor and a score that are allowed -/
def alB (f s : Int) : Bool := decide (1 ≤ f ∧ f ≤ 64 ∧ 0 ≤ s ∧ s ≤ 2)

theorem vB_true {a : Int} (h : vB a = true) : 0 ≤ a ∧ a ≤ 4000 := by simpa [vB] using h
theorem vB_false {a : Int} (h : vB a = false) : a < 0 ∨ 4000 < a := by
  simp [vB] at h; omega
theorem alB_true {f s : Int} (h : alB f s = true) : 1 ≤ f ∧ f ≤ 64 ∧ 0 ≤ s ∧ s ≤ 2 := by simpa [alB] using h
theorem alB_false {f s : Int} (h : alB f s = false) : f < 1 ∨ 64 < f ∨ s < 0 ∨ 2 < s := by
  simp [alB] at h; omega

theorem st_bd {d : Int} (h : 0 ≤ d) : 0 ≤ st d ∧ st d ≤ 490 := by unfold st; split <;> omega
theorem ex_bd (a b : Int) : 10 ≤ ex a b ∧ ex a b ≤ 990 := by
  unfold ex
  split
  · have := st_bd (d := a - b) (by omega); omega
  · have := st_bd (d := b - a) (by omega); omega

end Go.Proofs.Ytnabpcgpheakfaa.Plain
