/- The walks of package sat and of its reference: numbers. -/
import Derived.Test.YtenpjhpdanhmaaaRows
import Derived.Test.YtenpjhpdanhmaaaPlain
import Derived.Test.YtenpjhpdanhmaaaAb
import Derived.WalkSpells
import Derived.WalkLawsBesides
namespace Go.Proofs.Ytenpjhpdanhmaaa
open Go.RowKit Plain
set_option linter.unusedVariables false
set_option linter.unusedSimpArgs false

set_option maxRecDepth 100000 in
set_option maxHeartbeats 1000000 in
theorem clamp9 (n m : Int) (w : World)  :
    Calls Try.prog 9 #[.int .i64 n, .int .i64 m] w fun e w' => e = .returned (.int .i64 (cl n m)) ∧ w = w' := by
  go_enter Try.func9, Try.ntmps9
  go_wp2
  all_goals
    go_returns
    exact ⟨ret_int (by unfold cl; omega), rfl⟩

set_option maxRecDepth 100000 in
set_option maxHeartbeats 1000000 in
theorem clamp10 (n m : Int) (w : World)  :
    Calls Try.prog 10 #[.int .i64 n, .int .i64 m] w fun e w' => e = .returned (.int .i64 (cl n m)) ∧ w = w' := by
  go_enter Try.func10, Try.ntmps10
  go_wp2
  all_goals
    go_returns
    exact ⟨ret_int (by unfold cl; omega), rfl⟩

set_option maxRecDepth 100000 in
set_option maxHeartbeats 1000000 in
theorem plus22 (a b : Int) (w : World) (ha : I a) (hb : I b) :
    Calls Try.prog 22 #[.int .i64 a, .int .i64 b] w fun e w' => e = .returned (.int .i64 (sat (a + b))) ∧ w = w' := by
  obtain ⟨a0, a1⟩ := ha
  obtain ⟨b0, b1⟩ := hb
  by_cases h1 : 9223372036854775807 < a + b
  · have hw : wrap64 (a + b) ≤ 0 := by unfold wrap64; omega
    have hp : 0 < a := by omega
    have hq : 0 < b := by omega
    go_enter Try.func22, Try.ntmps22
    go_wp2
    all_goals
      go_returns
      exact ⟨ret_int (by unfold sat; omega), rfl⟩
  by_cases h2 : a + b < -9223372036854775808
  · have hw : 0 ≤ wrap64 (a + b) := by unfold wrap64; omega
    have hp : a < 0 := by omega
    have hq : b < 0 := by omega
    go_enter Try.func22, Try.ntmps22
    go_wp2
    all_goals
      go_returns
      exact ⟨ret_int (by unfold sat; omega), rfl⟩
  have h3 : a + b ≤ 9223372036854775807 := by omega
  have h4 : -9223372036854775808 ≤ a + b := by omega
  clear h1 h2
  by_cases hp : 0 < a
  · by_cases hq : 0 < b
    · have hs : 0 < a + b := by omega
      go_enter Try.func22, Try.ntmps22
      go_wp2
      all_goals
        go_returns
        exact ⟨ret_int (by unfold sat; omega), rfl⟩
    · clear h3 h4
      have h3 : a + b ≤ 9223372036854775807 := by omega
      have h4 : -9223372036854775808 ≤ a + b := by omega
      go_enter Try.func22, Try.ntmps22
      go_wp2
      all_goals
        go_returns
        exact ⟨ret_int (by unfold sat; omega), rfl⟩
  by_cases hn : a < 0
  · by_cases hq : b < 0
    · have hs : a + b < 0 := by omega
      go_enter Try.func22, Try.ntmps22
      go_wp2
      all_goals
        go_returns
        exact ⟨ret_int (by unfold sat; omega), rfl⟩
    · 
      go_enter Try.func22, Try.ntmps22
      go_wp2
      all_goals
        go_returns
        exact ⟨ret_int (by unfold sat; omega), rfl⟩
  · 
    go_enter Try.func22, Try.ntmps22
    go_wp2
    all_goals
      go_returns
      exact ⟨ret_int (by unfold sat; omega), rfl⟩

set_option maxRecDepth 100000 in
set_option maxHeartbeats 1000000 in
theorem add11 (a b m : Int) (w : World) (ha : I a) (hb : I b) (hm : I m) :
    Calls Try.prog 11 #[.int .i64 a, .int .i64 b, .int .i64 m] w fun e w' => e = .returned (.int .i64 (cl (a + b) m)) ∧ w = w' := by
  go_enter Try.func11, Try.ntmps11
  go_wp2_with fail
  with_reducible refine (plus22 _ _ _ ha hb).mono ?_
  rintro e w' ⟨rfl, rfl⟩
  go_wp2_with fail
  with_reducible refine (clamp9 _ _ _).mono ?_
  rintro e w' ⟨rfl, rfl⟩
  go_wp2_with fail
  go_returns
  exact ⟨ret_int (cl_sat _ hm), rfl⟩

set_option maxRecDepth 100000 in
set_option maxHeartbeats 1000000 in
theorem sub14 (a b m : Int) (w : World) (ha : I a) (hb : I b) (hm : I m) :
    Calls Try.prog 14 #[.int .i64 a, .int .i64 b, .int .i64 m] w fun e w' => e = .returned (.int .i64 (cl (a - b) m)) ∧ w = w' := by
  by_cases h : b = -9223372036854775808
  · subst h
    clear hb
    go_enter Try.func14, Try.ntmps14
    go_wp2_with fail
    with_reducible refine (plus22 _ _ _ ha (by unfold I; omega)).mono ?_
    rintro e w' ⟨rfl, rfl⟩
    go_wp2_with fail
    with_reducible refine (plus22 _ _ _ (I_sat _) (by unfold I; omega)).mono ?_
    rintro e w' ⟨rfl, rfl⟩
    go_wp2_with fail
    with_reducible refine (clamp9 _ _ _).mono ?_
    rintro e w' ⟨rfl, rfl⟩
    go_wp2_with fail
    go_returns
    exact ⟨ret_int (by rw [cl_sat _ hm]; unfold cl sat I at *; omega), rfl⟩
  · have hq : (b == -9223372036854775808) = false := by simpa using h
    have ⟨b0, b1⟩ := id hb
    have b2 : -9223372036854775807 ≤ b := by omega
    go_enter Try.func14, Try.ntmps14
    go_wp2_with fail
    with_reducible refine (add11 _ _ _ _ ha (by unfold I at *; omega) hm).mono ?_
    rintro e w' ⟨rfl, rfl⟩
    go_wp2_with fail
    go_returns
    exact ⟨ret_int (by congr 1), rfl⟩

end Go.Proofs.Ytenpjhpdanhmaaa
