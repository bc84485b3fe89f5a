/- The examples of the chapter. -/
import Derived.Test.YtenpjhpdanhmaaaSum
namespace Go.Proofs.Ytenpjhpdanhmaaa
open Go.RowKit Plain
set_option linter.unusedVariables false
set_option linter.unusedSimpArgs false

theorem clamp9c (n m x : Int) (w : World)  (hx : cl n m = x) : Calls Try.prog 9 #[.int .i64 n, .int .i64 m] w fun e w' => e = .returned (.int .i64 x) ∧ w = w' := by
  subst hx
  exact clamp9 n m w 
theorem add11c (a b m x : Int) (w : World) (ha : I a) (hb : I b) (hm : I m) (hx : cl (a + b) m = x) : Calls Try.prog 11 #[.int .i64 a, .int .i64 b, .int .i64 m] w fun e w' => e = .returned (.int .i64 x) ∧ w = w' := by
  subst hx
  exact add11 a b m w ha hb hm
theorem sub14c (a b m x : Int) (w : World) (ha : I a) (hb : I b) (hm : I m) (hx : cl (a - b) m = x) : Calls Try.prog 14 #[.int .i64 a, .int .i64 b, .int .i64 m] w fun e w' => e = .returned (.int .i64 x) ∧ w = w' := by
  subst hx
  exact sub14 a b m w ha hb hm
theorem times16c (a b m x : Int) (w : World) (ha : I a) (hb : I b) (hm : I m) (hx : cl (a * b) m = x) : Calls Try.prog 16 #[.int .i64 a, .int .i64 b, .int .i64 m] w fun e w' => e = .returned (.int .i64 x) ∧ w = w' := by
  subst hx
  exact times16 a b m w ha hb hm
theorem dropped18c (a b m x : Int) (w : World) (ha : I a) (hb : I b) (hm : I m) (hx : dr a b m = x) : Calls Try.prog 18 #[.int .i64 a, .int .i64 b, .int .i64 m] w fun e w' => e = .returned (.int .i64 x) ∧ w = w' := by
  subst hx
  exact dropped18 a b m w ha hb hm
theorem sum20c (v : Value) (zs : List Int) (m x : Int) (w : World) (hs : Seg w .i64 v zs) (hz : ∀ z ∈ zs, I z) (hm : I m) (hx : sums m zs = x) :
    Calls Try.prog 20 #[v, .int .i64 m] w fun e w' => e = .returned (.int .i64 x) ∧ w = w' := by
  subst hx
  exact sum20 v zs m w hs hz hm

set_option maxRecDepth 100000 in
set_option maxHeartbeats 4000000 in
theorem known13 (w : World) : Calls Try.prog 13 #[] w fun e w' => e = .returned (.bool true) ∧ Below w.heap.size w w' := by
  go_enter Try.func13, Try.ntmps13
  go_wp2_with fail
  with_reducible refine (clamp9c (-3) 99 0 _ (by decide +kernel)).mono ?_
  rintro e w' ⟨rfl, rfl⟩
  go_wp2_with fail
  with_reducible refine (clamp9c 100 99 99 _ (by decide +kernel)).mono ?_
  rintro e w' ⟨rfl, rfl⟩
  go_wp2_with fail
  with_reducible refine (clamp9c 5 (-1) 0 _ (by decide +kernel)).mono ?_
  rintro e w' ⟨rfl, rfl⟩
  go_wp2_with fail
  with_reducible refine (add11c 95 10 99 99 _ (by unfold I; omega) (by unfold I; omega) (by unfold I; omega) (by decide +kernel)).mono ?_
  rintro e w' ⟨rfl, rfl⟩
  go_wp2_with fail
  with_reducible refine (sub14c 3 5 99 0 _ (by unfold I; omega) (by unfold I; omega) (by unfold I; omega) (by decide +kernel)).mono ?_
  rintro e w' ⟨rfl, rfl⟩
  go_wp2_with fail
  with_reducible refine (times16c 7 20 99 99 _ (by unfold I; omega) (by unfold I; omega) (by unfold I; omega) (by decide +kernel)).mono ?_
  rintro e w' ⟨rfl, rfl⟩
  go_wp2_with fail
  with_reducible refine (dropped18c 95 10 99 6 _ (by unfold I; omega) (by unfold I; omega) (by unfold I; omega) (by decide +kernel)).mono ?_
  rintro e w' ⟨rfl, rfl⟩
  go_wp2_with fail
  with_reducible refine (dropped18c 95 4 99 0 _ (by unfold I; omega) (by unfold I; omega) (by unfold I; omega) (by decide +kernel)).mono ?_
  rintro e w' ⟨rfl, rfl⟩
  go_wp2_with fail
  with_reducible refine (add11c 9223372036854775807 9223372036854775807 9999 9999 _ (by unfold I; omega) (by unfold I; omega) (by unfold I; omega) (by decide +kernel)).mono ?_
  rintro e w' ⟨rfl, rfl⟩
  go_wp2_with fail
  with_reducible refine (sub14c 0 (-9223372036854775808) 9999 9999 _ (by unfold I; omega) (by unfold I; omega) (by unfold I; omega) (by decide +kernel)).mono ?_
  rintro e w' ⟨rfl, rfl⟩
  go_wp2_with fail
  with_reducible refine (times16c (-4) (-5) 99 20 _ (by unfold I; omega) (by unfold I; omega) (by unfold I; omega) (by decide +kernel)).mono ?_
  rintro e w' ⟨rfl, rfl⟩
  go_wp2_with fail
  with_reducible refine (sum20c _ [60, 50, -9] 99 90 _ (by simpa using seg_new w .i64 3 [60, 50, -9] 3 (by simp) (by simp [maxLen])) (by intro z hz; simp at hz; unfold I; omega) (by unfold I; omega) (by decide +kernel)).mono ?_
  rintro e w' ⟨rfl, rfl⟩
  go_wp2_with fail
  with_reducible refine (sum20c _ [-9, 60, 50] 99 99 _ (by simpa using seg_new (w.alloc _) .i64 3 [-9, 60, 50] 3 (by simp) (by simp [maxLen])) (by intro z hz; simp at hz; unfold I; omega) (by unfold I; omega) (by decide +kernel)).mono ?_
  rintro e w' ⟨rfl, rfl⟩
  go_wp2_with fail
  with_reducible refine (dropped18c 9223372036854775807 9223372036854775807 0 9223372036854775807 _ (by unfold I; omega) (by unfold I; omega) (by unfold I; omega) (by decide +kernel)).mono ?_
  rintro e w' ⟨rfl, rfl⟩
  go_wp2_with fail
  go_returns
  exact ⟨rfl, by go_grown⟩
end Go.Proofs.Ytenpjhpdanhmaaa
