/- The examples of the chapter. -/
import Derived.Test.YtnabpcgpheakfaaWk2
namespace Go.Proofs.Ytnabpcgpheakfaa
open Go.RowKit Plain
set_option linter.unusedVariables false

set_option maxHeartbeats 800000 in
theorem known11 (w : World) : Calls Try.prog 11 #[] w fun e w' => e = .returned (.bool true) ∧ w = w' := by
  go_enter Try.func11, Try.ntmps11
  go_wp2_with fail
  with_reducible refine (expects10 1000 1000 500 0 _ (by decide +kernel) (by decide +kernel) (by decide +kernel) rfl).mono ?_
  rintro e w' ⟨rfl, rfl⟩
  go_wp2_with fail
  with_reducible refine (expects10 1002 1000 501 0 _ (by decide +kernel) (by decide +kernel) (by decide +kernel) rfl).mono ?_
  rintro e w' ⟨rfl, rfl⟩
  go_wp2_with fail
  with_reducible refine (expects10 1000 1403 299 0 _ (by decide +kernel) (by decide +kernel) (by decide +kernel) rfl).mono ?_
  rintro e w' ⟨rfl, rfl⟩
  go_wp2_with fail
  with_reducible refine (expects10 4000 0 990 0 _ (by decide +kernel) (by decide +kernel) (by decide +kernel) rfl).mono ?_
  rintro e w' ⟨rfl, rfl⟩
  go_wp2_with fail
  with_reducible refine (matches15 1000 1000 32 2 1016 984 0 _ (by decide +kernel) (by decide +kernel) (by decide +kernel) (by decide +kernel) (by decide +kernel) rfl).mono ?_
  rintro e w' ⟨rfl, rfl⟩
  go_wp2_with fail
  with_reducible refine (matches15 1000 1000 32 1 1000 1000 0 _ (by decide +kernel) (by decide +kernel) (by decide +kernel) (by decide +kernel) (by decide +kernel) rfl).mono ?_
  rintro e w' ⟨rfl, rfl⟩
  go_wp2_with fail
  with_reducible refine (matches15 1000 1403 32 2 1022 1381 0 _ (by decide +kernel) (by decide +kernel) (by decide +kernel) (by decide +kernel) (by decide +kernel) rfl).mono ?_
  rintro e w' ⟨rfl, rfl⟩
  go_wp2_with fail
  with_reducible refine (matches15 1403 1000 32 2 1412 991 0 _ (by decide +kernel) (by decide +kernel) (by decide +kernel) (by decide +kernel) (by decide +kernel) rfl).mono ?_
  rintro e w' ⟨rfl, rfl⟩
  go_wp2_with fail
  with_reducible refine (changes14 0 100 64 0 0 0 _ (by decide +kernel) (by decide +kernel) (by decide +kernel) (by decide +kernel) rfl).mono ?_
  rintro e w' ⟨rfl, rfl⟩
  go_wp2_with fail
  with_reducible refine (changes14 3990 4000 64 2 10 0 _ (by decide +kernel) (by decide +kernel) (by decide +kernel) (by decide +kernel) rfl).mono ?_
  rintro e w' ⟨rfl, rfl⟩
  go_wp2_with fail
  with_reducible refine (changes14_no 1000 1000 65 2 _ (by decide +kernel)).mono ?_
  rintro e w' ⟨rfl, rfl⟩
  go_wp2_with fail
  go_ret
  exact ⟨rfl, rfl⟩
end Go.Proofs.Ytnabpcgpheakfaa
