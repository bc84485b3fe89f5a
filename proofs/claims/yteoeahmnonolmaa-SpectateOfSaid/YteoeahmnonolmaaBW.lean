/- Small functions about boards. -/
import Derived.Test.YteoeahmnonolmaaBM
import Derived.Deep.DeepCutAuto
import Derived.Deep.MidRow
import Derived.LoopTactic
namespace Go.Proofs.Yteoeahmnonolmaa
open Go.RowKit Plain
set_option linter.unusedVariables false
set_option linter.unusedSimpArgs false

/-- block P is a board -/
def Bx (w : World) (P : Nat) (s : Bs) (B : Bd) : Prop := w.heap[P]? = some (.cells (bcells s B) 34 (0, 0))
theorem Bx.cell {w : World} {P : Nat} {s : Bs} {B : Bd} (h : Bx w P s B) (i : Nat) : w.cell? ⟨P, i, none⟩ = (bcells s B)[i]? := cell_of_row w P i _ 34 (0, 0) h
theorem Bx.lt {w : World} {P : Nat} {s : Bs} {B : Bd} (h : Bx w P s B) : P < w.heap.size := (Array.getElem?_eq_some_iff.1 h).1
theorem Bx.below {w w' : World} {P : Nat} {s : Bs} {B : Bd} (h : Bx w P s B) (hb : Below w.heap.size w w') : Bx w' P s B := (hb.block P h.lt).trans h
theorem Bx.load {w : World} {P : Nat} {s : Bs} {B : Bd} (h : Bx w P s B) : (Instr.loadAt 34 (.pointer (some ⟨P, 0, none⟩))).run Try.prog w = .ok (bv s B) w := by
  simp only [Instr.loadAt, Instr.sureAddr, Sem.run_bind, Sem.run_pure, Result.andThen_ok]
  exact run_loadVar_row w P 34 34 _ (0, 0) _ h Try.underlying34 rfl (by kernel_rfl)
def sev (l h f g : Sl) (S : Se) : Value := .agg #[.int .i64 S.li, .int .i64 S.p0, .int .i64 S.p1, .int .i64 S.p2, .int .i64 S.p3, l.v, h.v, f.v, g.v, .bool S.em, .bool S.py, .bool S.kp, .int .i64 S.mu, .int .i64 S.ac]
set_option maxRecDepth 100000 in
set_option maxHeartbeats 4000000 in
theorem within (n a b : Int) (w : World) : Calls Try.prog 28 #[.int .i64 n, .int .i64 a, .int .i64 b] w fun e w' => e = .returned (.bool (decide (a ≤ n ∧ n ≤ b))) ∧ w = w' := by
  by_cases h1 : a ≤ n
  · by_cases h2 : n ≤ b
    · go_enter Try.func28, Try.ntmps28
      go_wp2_with fail
      go_returns
      exact ⟨by simp [h1, h2], rfl⟩
    · go_enter Try.func28, Try.ntmps28
      go_wp2_with fail
      go_returns
      exact ⟨by simp [h1, h2], rfl⟩
  · go_enter Try.func28, Try.ntmps28
    go_wp2_with fail
    go_returns
    exact ⟨by simp <;> omega, rfl⟩
theorem withinc (n a b : Int) (r : Bool) (w : World) (h : decide (a ≤ n ∧ n ≤ b) = r) : Calls Try.prog 28 #[.int .i64 n, .int .i64 a, .int .i64 b] w fun e w' => e = .returned (.bool r) ∧ w = w' := by
  subst h
  exact within n a b w
end Go.Proofs.Yteoeahmnonolmaa
