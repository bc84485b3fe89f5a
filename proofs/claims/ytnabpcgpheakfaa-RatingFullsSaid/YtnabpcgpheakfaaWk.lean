/- The walks of package rating and of the law's helpers. -/
import Derived.Test.YtnabpcgpheakfaaRows
import Derived.Test.YtnabpcgpheakfaaPlain
import Derived.WalkKit
import Derived.WalkSpells
import Derived.WalkLawsBesides
import Derived.Lib.Hide
namespace Go.Proofs.Ytnabpcgpheakfaa
open Go.RowKit Plain
set_option linter.unusedVariables false

theorem ret_bool {a b : Bool} (h : a = b) : Ending.returned (.bool a) = .returned (.bool b) := by rw [h]
theorem ret_int {k : IntKind} {a b : Int} (h : a = b) : Ending.returned (.int k a) = .returned (.int k b) := by rw [h]
theorem ret_two {k l : IntKind} {a b c d : Int} (h : a = b) (g : c = d) : Ending.returned (.tuple #[.int k a, .int l c]) = .returned (.tuple #[.int k b, .int l d]) := by rw [h, g]

set_option maxHeartbeats 400000 in
theorem valid8 (a : Int) (w : World) :
    Calls Try.prog 8 #[.int .i64 a] w fun e w' => e = .returned (.bool (vB a)) ∧ w = w' := by
  by_cases h1 : 0 ≤ a
  · by_cases h2 : a ≤ 4000
    all_goals
      go_enter Try.func8, Try.ntmps8
      go_wp2
      go_ret
      exact ⟨ret_bool (by simp [vB]; omega), rfl⟩
  · go_enter Try.func8, Try.ntmps8
    go_wp2
    go_ret
    exact ⟨ret_bool (by simp [vB]; omega), rfl⟩

set_option maxHeartbeats 400000 in
theorem valid9 (a : Int) (w : World) :
    Calls Try.prog 9 #[.int .i64 a] w fun e w' => e = .returned (.bool (vB a)) ∧ w = w' := by
  by_cases h1 : 0 ≤ a
  · by_cases h2 : a ≤ 4000
    all_goals
      go_enter Try.func9, Try.ntmps9
      go_wp2
      go_ret
      exact ⟨ret_bool (by simp [vB]; omega), rfl⟩
  · go_enter Try.func9, Try.ntmps9
    go_wp2
    go_ret
    exact ⟨ret_bool (by simp [vB]; omega), rfl⟩

set_option maxHeartbeats 400000 in
theorem steps22 (d : Int) (w : World) (h0 : 0 ≤ d) (h1 : d ≤ 4000) :
    Calls Try.prog 22 #[.int .i64 d] w fun e w' => e = .returned (.int .i64 (st d)) ∧ w = w' := by
  by_cases h2 : d ≤ 400
  all_goals
    go_enter Try.func22, Try.ntmps22
    go_wp2
    all_goals
      go_ret
      exact ⟨ret_int (by unfold st; split <;> omega), rfl⟩

set_option maxHeartbeats 400000 in
theorem expect17 (a b : Int) (w : World) (ha : vB a = true) (hb : vB b = true) :
    Calls Try.prog 17 #[.int .i64 a, .int .i64 b] w fun e w' => e = .returned (.tuple #[.int .i64 (ex a b), .int .i64 0]) ∧ w = w' := by
  have ⟨a0, a1⟩ := vB_true ha
  have ⟨b0, b1⟩ := vB_true hb
  by_cases h : b ≤ a
  · have hs := st_bd (d := a - b) (by omega)
    have e : Hid (ex a b = 500 + st (a - b)) := Lib.hid (by unfold ex; rw [if_pos h])
    go_enter Try.func17, Try.ntmps17
    go_wp2_with (first | (go_at_call 8; refine (valid8 _ _).mono ?_; rintro e w' ⟨rfl, rfl⟩) | (go_at_call 22; refine (steps22 _ _ (by omega) (by omega)).mono ?_; rintro e w' ⟨rfl, rfl⟩))
    go_ret2
    exact ⟨ret_two (by rw [e.out]) rfl, rfl⟩
  · have hs := st_bd (d := b - a) (by omega)
    have e : Hid (ex a b = 500 - st (b - a)) := Lib.hid (by unfold ex; rw [if_neg h])
    go_enter Try.func17, Try.ntmps17
    go_wp2_with (first | (go_at_call 8; refine (valid8 _ _).mono ?_; rintro e w' ⟨rfl, rfl⟩) | (go_at_call 22; refine (steps22 _ _ (by omega) (by omega)).mono ?_; rintro e w' ⟨rfl, rfl⟩))
    go_ret2
    exact ⟨ret_two (by rw [e.out]) rfl, rfl⟩

set_option maxHeartbeats 400000 in
theorem expect17_no (a b : Int) (w : World) (h : (vB a && vB b) = false) :
    Calls Try.prog 17 #[.int .i64 a, .int .i64 b] w fun e w' => e = .returned (.tuple #[.int .i64 0, .int .i64 3]) ∧ w = w' := by
  cases ha : vB a
  · clear h
    go_enter Try.func17, Try.ntmps17
    go_wp2_with (first | (go_at_call 8; refine (valid8 _ _).mono ?_; rintro e w' ⟨rfl, rfl⟩))
    go_ret2
    exact ⟨rfl, rfl⟩
  · have hb : vB b = false := by simpa [ha] using h
    clear h
    go_enter Try.func17, Try.ntmps17
    go_wp2_with (first | (go_at_call 8; refine (valid8 _ _).mono ?_; rintro e w' ⟨rfl, rfl⟩))
    go_ret2
    exact ⟨rfl, rfl⟩

theorem chg_pre (f s x : Int) (h : alB f s = true) (hx : 10 ≤ x ∧ x ≤ 990) : -64000 ≤ f * (500 * s - x) ∧ f * (500 * s - x) ≤ 64000 := by
  have ⟨f0, f1, s0, s1⟩ := alB_true h
  have : s = 0 ∨ s = 1 ∨ s = 2 := by omega
  constructor
  · have h1 : f * (-1000) ≤ f * (500 * s - x) := Int.mul_le_mul_of_nonneg_left (by omega) (by omega)
    omega
  · have h1 : f * (500 * s - x) ≤ f * 1000 := Int.mul_le_mul_of_nonneg_left (by omega) (by omega)
    omega

set_option maxHeartbeats 800000 in
theorem change21 (a b f s : Int) (w : World) (ha : vB a = true) (hb : vB b = true) (hf : alB f s = true) :
    Calls Try.prog 21 #[.int .i64 a, .int .i64 b, .int .i64 f, .int .i64 s] w fun e w' => e = .returned (.tuple #[.int .i64 (chg a b f s), .int .i64 0]) ∧ w = w' := by
  have ⟨a0, a1⟩ := vB_true ha
  have ⟨b0, b1⟩ := vB_true hb
  have ⟨f0, f1, s0, s1⟩ := alB_true hf
  have hx := ex_bd a b
  have hp := chg_pre f s _ hf hx
  have e : Hid (chg a b f s = min (min (max (max ((f * (500 * s - ex a b)).tdiv 1000) (-a)) (b - 4000)) (4000 - a)) b) := Lib.hid rfl
  have HA := Lib.hid ha
  have HB := Lib.hid hb
  clear ha hb hf
  go_enter Try.func21, Try.ntmps21
  go_wp2_with (first | (go_at_call 17; refine (expect17 _ _ _ HA.out HB.out).mono ?_; rintro e w' ⟨rfl, rfl⟩))
  all_goals
    go_ret2
    exact ⟨ret_two (by rw [e.out]; generalize (f * (500 * s - ex a b)).tdiv 1000 = n at *; omega) rfl, rfl⟩

set_option maxHeartbeats 800000 in
theorem change21_no (a b f s : Int) (w : World) (h : (vB a && vB b && alB f s) = false) :
    Calls Try.prog 21 #[.int .i64 a, .int .i64 b, .int .i64 f, .int .i64 s] w fun e w' => e = .returned (.tuple #[.int .i64 0, .int .i64 3]) ∧ w = w' := by
  cases hv : vB a && vB b
  · have HV := Lib.hid hv
    clear h hv
    go_enter Try.func21, Try.ntmps21
    go_wp2_with (first | (go_at_call 17; refine (expect17_no _ _ _ HV.out).mono ?_; rintro e w' ⟨rfl, rfl⟩))
    go_ret2
    exact ⟨rfl, rfl⟩
  · have hf : alB f s = false := by simpa [hv] using h
    have hc := alB_false hf
    rw [Bool.and_eq_true] at hv
    have HA := Lib.hid hv.1
    have HB := Lib.hid hv.2
    clear h hv hf
    by_cases c1 : f < 1
    · clear hc
      go_enter Try.func21, Try.ntmps21
      go_wp2_with (first | (go_at_call 17; refine (expect17 _ _ _ HA.out HB.out).mono ?_; rintro e w' ⟨rfl, rfl⟩))
      go_ret2
      exact ⟨rfl, rfl⟩
    by_cases c2 : 64 < f
    · clear hc
      go_enter Try.func21, Try.ntmps21
      go_wp2_with (first | (go_at_call 17; refine (expect17 _ _ _ HA.out HB.out).mono ?_; rintro e w' ⟨rfl, rfl⟩))
      go_ret2
      exact ⟨rfl, rfl⟩
    by_cases c3 : s < 0
    · clear hc
      go_enter Try.func21, Try.ntmps21
      go_wp2_with (first | (go_at_call 17; refine (expect17 _ _ _ HA.out HB.out).mono ?_; rintro e w' ⟨rfl, rfl⟩))
      go_ret2
      exact ⟨rfl, rfl⟩
    have c4 : 2 < s := by omega
    clear hc
    go_enter Try.func21, Try.ntmps21
    go_wp2_with (first | (go_at_call 17; refine (expect17 _ _ _ HA.out HB.out).mono ?_; rintro e w' ⟨rfl, rfl⟩))
    go_ret2
    exact ⟨rfl, rfl⟩

theorem chg_bd (a b f s : Int) (ha : vB a = true) (hb : vB b = true) : 0 ≤ a + chg a b f s ∧ a + chg a b f s ≤ 4000 ∧ 0 ≤ b - chg a b f s ∧ b - chg a b f s ≤ 4000 := by
  have ⟨a0, a1⟩ := vB_true ha
  have ⟨b0, b1⟩ := vB_true hb
  unfold chg
  generalize (f * (500 * s - ex a b)).tdiv 1000 = n at *
  omega

theorem ret_three {k l m : IntKind} {a b c d x y : Int} (h : a = b) (g : c = d) (i : x = y) : Ending.returned (.tuple #[.int k a, .int l c, .int m x]) = .returned (.tuple #[.int k b, .int l d, .int m y]) := by rw [h, g, i]

set_option maxHeartbeats 800000 in
theorem match18 (a b f s : Int) (w : World) (ha : vB a = true) (hb : vB b = true) (hf : alB f s = true) :
    Calls Try.prog 18 #[.int .i64 a, .int .i64 b, .int .i64 f, .int .i64 s] w fun e w' => e = .returned (.tuple #[.int .i64 (a + chg a b f s), .int .i64 (b - chg a b f s), .int .i64 0]) ∧ w = w' := by
  have hc := chg_bd a b f s ha hb
  have HA := Lib.hid ha
  have HB := Lib.hid hb
  have HF := Lib.hid hf
  clear ha hb hf
  go_enter Try.func18, Try.ntmps18
  go_wp2_with (first | (go_at_call 21; refine (change21 _ _ _ _ _ HA.out HB.out HF.out).mono ?_; rintro e w' ⟨rfl, rfl⟩))
  go_ret3
  exact ⟨rfl, rfl⟩

set_option maxHeartbeats 800000 in
theorem match18_no (a b f s : Int) (w : World) (h : (vB a && vB b && alB f s) = false) :
    Calls Try.prog 18 #[.int .i64 a, .int .i64 b, .int .i64 f, .int .i64 s] w fun e w' => e = .returned (.tuple #[.int .i64 0, .int .i64 0, .int .i64 3]) ∧ w = w' := by
  have HA := Lib.hid h
  clear h
  go_enter Try.func18, Try.ntmps18
  go_wp2_with (first | (go_at_call 21; refine (change21_no _ _ _ _ _ HA.out).mono ?_; rintro e w' ⟨rfl, rfl⟩))
  go_ret3
  exact ⟨rfl, rfl⟩

set_option maxHeartbeats 800000 in
theorem allowed13 (f s : Int) (w : World) :
    Calls Try.prog 13 #[.int .i64 f, .int .i64 s] w fun e w' => e = .returned (.bool (alB f s)) ∧ w = w' := by
  by_cases c1 : 1 ≤ f
  · by_cases c2 : f ≤ 64
    · by_cases c3 : 0 ≤ s
      · by_cases c4 : s ≤ 2
        all_goals
          go_enter Try.func13, Try.ntmps13
          go_wp2
          go_ret
          exact ⟨ret_bool (by simp [alB]; omega), rfl⟩
      · go_enter Try.func13, Try.ntmps13
        go_wp2
        go_ret
        exact ⟨ret_bool (by simp [alB]; omega), rfl⟩
    · go_enter Try.func13, Try.ntmps13
      go_wp2
      go_ret
      exact ⟨ret_bool (by simp [alB]; omega), rfl⟩
  · go_enter Try.func13, Try.ntmps13
    go_wp2
    go_ret
    exact ⟨ret_bool (by simp [alB]; omega), rfl⟩
end Go.Proofs.Ytnabpcgpheakfaa
