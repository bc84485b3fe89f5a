/- The plain laws of stage 40: expectations add up to 1000, they are monotone, and a change is the opposite of the other player's. -/
import Derived.Test.YtnabpcgpheakfaaPlain
namespace Go.Proofs.Ytnabpcgpheakfaa.Plain

theorem st_mono {x y : Int} (h0 : 0 ≤ x) (h : x ≤ y) : st x ≤ st y := by unfold st; split <;> split <;> omega
theorem st_zero : st 0 = 0 := by decide
theorem ex_sum (a b : Int) : ex a b + ex b a = 1000 := by
  unfold ex
  rcases Int.lt_trichotomy a b with h | h | h
  · rw [if_neg (by omega), if_pos (by omega)]; omega
  · subst h; simp [st_zero]
  · rw [if_pos (by omega), if_neg (by omega)]; omega
theorem ex_mono {a c : Int} (b : Int) (h : c ≤ a) : ex c b ≤ ex a b := by
  unfold ex
  by_cases h1 : b ≤ c
  · rw [if_pos h1, if_pos (by omega)]; have := st_mono (x := c - b) (y := a - b) (by omega) (by omega); omega
  · rw [if_neg h1]
    by_cases h2 : b ≤ a
    · rw [if_pos h2]
      have h3 := st_bd (d := a - b) (by omega)
      have h4 := st_bd (d := b - c) (by omega)
      omega
    · rw [if_neg h2]; have := st_mono (x := b - a) (y := b - c) (by omega) (by omega); omega
theorem chg_opp {a b f s : Int} (ha : vB a = true) (hb : vB b = true) : chg b a f (2 - s) = - chg a b f s := by
  have ⟨a0, a1⟩ := vB_true ha
  have ⟨b0, b1⟩ := vB_true hb
  unfold chg
  have e1 : f * (500 * (2 - s) - ex b a) = - (f * (500 * s - ex a b)) := by
    have h := ex_sum a b
    have : 500 * (2 - s) - ex b a = - (500 * s - ex a b) := by omega
    rw [this, Int.mul_neg]
  rw [e1, Int.neg_tdiv]
  generalize (f * (500 * s - ex a b)).tdiv 1000 = n
  omega
theorem chg_win {a b f s : Int} (ha : vB a = true) (hb : vB b = true) (hf : 1 ≤ f) (hs : 2 ≤ s) : 0 ≤ chg a b f s := by
  have ⟨a0, a1⟩ := vB_true ha
  have ⟨b0, b1⟩ := vB_true hb
  have hx := ex_bd a b
  have h : 0 ≤ f * (500 * s - ex a b) := Int.mul_nonneg (by omega) (by omega)
  have h' : 0 ≤ (f * (500 * s - ex a b)).tdiv 1000 := Int.tdiv_nonneg h (by omega)
  unfold chg
  generalize (f * (500 * s - ex a b)).tdiv 1000 = n at *
  omega
theorem chg_loss {a b f s : Int} (ha : vB a = true) (hb : vB b = true) (hf : 1 ≤ f) (hs : s ≤ 0) : chg a b f s ≤ 0 := by
  have := chg_opp (f := f) (s := s) ha hb
  have := chg_win (f := f) (s := 2 - s) hb ha hf (by omega)
  omega
end Go.Proofs.Ytnabpcgpheakfaa.Plain
