/- The walks of package rope, ticks, and of the references. -/
import Derived.Test.YtkjakcoejnhojaaRows
import Derived.Test.YtkjakcoejnhojaaPlain
import Derived.WalkKit
import Derived.WalkSpells
import Derived.WalkLawsBesides
import Derived.Lib.Hide
import Derived.Handy
import Derived.Test.YtkjakcoejnhojaaAb
namespace Go.Proofs.Ytkjakcoejnhojaa
open Go.RowKit Plain
set_option linter.unusedVariables false


set_option maxHeartbeats 400000 in
theorem valid9 (r b : Int) (w : World) :
    Calls Try.prog 9 #[.agg #[.int .u64 r, .int .u64 b]] w fun e w' => e = .returned (.bool (vR r b)) ∧ Below w.heap.size w w' := by
  by_cases h1 : r ≤ 1099511627776
  · by_cases h2 : b ≤ 1099511627776
    all_goals
      go_enter Try.func9, Try.ntmps9
      go_wp2
      go_returns
      exact ⟨ret_bool (by simp [vR]; omega), by go_grown⟩
  · go_enter Try.func9, Try.ntmps9
    go_wp2
    go_returns
    exact ⟨ret_bool (by simp [vR]; omega), by go_grown⟩

set_option maxHeartbeats 400000 in
theorem since28 (a b : Int) (w : World) (ha : U a) (hb : U b) :
    Calls Try.prog 28 #[.int .u64 a, .int .u64 b] w fun e w' => e = .returned (.int .u64 (sub0 a b)) ∧ w = w' := by
  obtain ⟨a0, a1⟩ := ha
  obtain ⟨b0, b1⟩ := hb
  by_cases h1 : a ≤ b
  all_goals
    go_enter Try.func28, Try.ntmps28
    go_wp2
    go_returns
    exact ⟨ret_int (by unfold sub0; split <;> omega), rfl⟩
end Go.Proofs.Ytkjakcoejnhojaa
