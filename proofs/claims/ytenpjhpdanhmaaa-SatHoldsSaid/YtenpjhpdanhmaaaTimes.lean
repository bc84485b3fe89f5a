/- The walks of Times. -/
import Derived.Test.YtenpjhpdanhmaaaWk2
namespace Go.Proofs.Ytenpjhpdanhmaaa
open Go.RowKit Plain
set_option linter.unusedVariables false
set_option linter.unusedSimpArgs false

theorem size23c (n x : Int) (w : World) (hn : I n) (hx : sz n = x) : Calls Try.prog 23 #[.int .i64 n] w fun e w' => e = .returned (.int .u64 x) ∧ w = w' := by
  subst hx
  exact size23 n w hn
theorem size24c (n x : Int) (w : World) (hn : I n) (hx : sz n = x) : Calls Try.prog 24 #[.int .i64 n] w fun e w' => e = .returned (.int .u64 x) ∧ w = w' := by
  subst hx
  exact size24 n w hn
theorem mul_pos' {a b : Int} (h : (0 < a ∧ 0 < b) ∨ (a < 0 ∧ b < 0)) : 0 < a * b := by
  rcases h with ⟨h1, h2⟩ | ⟨h1, h2⟩
  · exact Int.mul_pos h1 h2
  · exact Int.mul_pos_of_neg_of_neg h1 h2
theorem mul_neg' {a b : Int} (h : (0 < a ∧ b < 0) ∨ (a < 0 ∧ 0 < b)) : a * b < 0 := by
  rcases h with ⟨h1, h2⟩ | ⟨h1, h2⟩
  · exact Int.mul_neg_of_pos_of_neg h1 h2
  · exact Int.mul_neg_of_neg_of_pos h1 h2
theorem cl_zero (m : Int) : cl 0 m = 0 := by unfold cl; omega
theorem cl_neg {n : Int} (m : Int) (h : n < 0) : cl n m = 0 := by unfold cl; omega

set_option maxRecDepth 100000 in
set_option maxHeartbeats 1000000 in
theorem times16 (a b m : Int) (w : World) (ha : I a) (hb : I b) (hm : I m) :
    Calls Try.prog 16 #[.int .i64 a, .int .i64 b, .int .i64 m] w fun e w' => e = .returned (.int .i64 (cl (a * b) m)) ∧ w = w' := by
  obtain ⟨x, hx⟩ : ∃ x, sz a = x := ⟨_, rfl⟩
  obtain ⟨y, hy⟩ : ∃ y, sz b = y := ⟨_, rfl⟩
  have bx := sz_bd ha
  have bY := sz_bd hb
  rw [hx] at bx
  rw [hy] at bY
  have X := Lib.hid hx
  have Y := Lib.hid hy
  clear hx hy
  have hm := hm
  have ⟨a0, a1⟩ := id ha
  have ⟨b0, b1⟩ := id hb
  have ⟨m0, m1⟩ := id hm
  by_cases za : a = 0
  · have ex : (x == 0) = true := by have := X.out; rw [za] at this; simp [sz] at this; simp [← this]
    have ZA := Lib.hid za
    clear za
    skip
    go_enter Try.func16, Try.ntmps16
    go_wp2_with fail
    with_reducible refine (size23c _ _ _ ha X.out).mono ?_
    rintro e w' ⟨rfl, rfl⟩
    go_wp2_with fail
    with_reducible refine (size23c _ _ _ hb Y.out).mono ?_
    rintro e w' ⟨rfl, rfl⟩
    go_wp2_with fail
    go_returns
    exact ⟨ret_int (by rw [ZA.out, Int.zero_mul, cl_zero]), rfl⟩
  by_cases zb : b = 0
  · have ex : (x == 0) = false := by have := X.out; unfold sz at this; split at this <;> simp <;> omega
    have ey : (y == 0) = true := by have := Y.out; rw [zb] at this; simp [sz] at this; simp [← this]
    have ZB := Lib.hid zb
    clear zb
    skip
    go_enter Try.func16, Try.ntmps16
    go_wp2_with fail
    with_reducible refine (size23c _ _ _ ha X.out).mono ?_
    rintro e w' ⟨rfl, rfl⟩
    go_wp2_with fail
    with_reducible refine (size23c _ _ _ hb Y.out).mono ?_
    rintro e w' ⟨rfl, rfl⟩
    go_wp2_with fail
    go_returns
    exact ⟨ret_int (by rw [ZB.out, Int.mul_zero, cl_zero]), rfl⟩
  by_cases na : a < 0
  · by_cases nb : b < 0
    ·
      have p1 : 0 < a * b := mul_pos' (by omega)
      have xy : x * y = a * b := by rw [← X.out, ← Y.out, sz_mul, if_pos (by simp; omega)]
      have XY := Lib.hid xy
      clear xy p1
      have x1 : 1 ≤ x := by have := X.out; unfold sz at this; split at this <;> omega
      have y1 : 1 ≤ y := by have := Y.out; unfold sz at this; split at this <;> omega
      have ex : (x == 0) = false := by simp; omega
      have ey : (y == 0) = false := by simp; omega
      by_cases hm0 : m ≤ 0
      · 
        skip
        go_enter Try.func16, Try.ntmps16
        go_wp2_with fail
        with_reducible refine (size23c _ _ _ ha X.out).mono ?_
        rintro e w' ⟨rfl, rfl⟩
        go_wp2_with fail
        with_reducible refine (size23c _ _ _ hb Y.out).mono ?_
        rintro e w' ⟨rfl, rfl⟩
        go_wp2_with fail
        go_returns
        exact ⟨ret_int (by have := XY.out; have := mul_pos' (a := a) (b := b) (by omega); unfold cl; omega), rfl⟩
      · have m0 : 0 < m := by omega
        clear hm0
        by_cases hq : m / y < x
        · have big : Hid (m < x * y) := Lib.hid (by have := Int.le_ediv_iff_mul_le (a := x) (b := m) (c := y) (by omega); omega)
          skip
          go_enter Try.func16, Try.ntmps16
          go_wp2_with fail
          with_reducible refine (size23c _ _ _ ha X.out).mono ?_
          rintro e w' ⟨rfl, rfl⟩
          go_wp2_with fail
          with_reducible refine (size23c _ _ _ hb Y.out).mono ?_
          rintro e w' ⟨rfl, rfl⟩
          go_wp2_with fail
          go_returns
          exact ⟨ret_int (by have := big.out; rw [XY.out] at this; unfold cl; omega), rfl⟩
        · have sm : x * y ≤ m := (Int.le_ediv_iff_mul_le (a := x) (b := m) (c := y) (by omega)).1 (by omega)
          have p0 : 0 ≤ x * y := Int.mul_nonneg (by omega) (by omega)
          skip
          go_enter Try.func16, Try.ntmps16
          go_wp2_with fail
          with_reducible refine (size23c _ _ _ ha X.out).mono ?_
          rintro e w' ⟨rfl, rfl⟩
          go_wp2_with fail
          with_reducible refine (size23c _ _ _ hb Y.out).mono ?_
          rintro e w' ⟨rfl, rfl⟩
          go_wp2_with fail
          go_returns
          exact ⟨ret_int (by rw [XY.out]; rw [XY.out] at sm p0; unfold cl; omega), rfl⟩
    ·
      have da : decide (a < 0) = true := by simp; omega
      have db : decide (b < 0) = false := by simp; omega
      have ex : (x == 0) = false := by have := X.out; unfold sz at this; split at this <;> simp <;> omega
      have ey : (y == 0) = false := by have := Y.out; unfold sz at this; split at this <;> simp <;> omega
      skip
      go_enter Try.func16, Try.ntmps16
      go_wp2_with fail
      with_reducible refine (size23c _ _ _ ha X.out).mono ?_
      rintro e w' ⟨rfl, rfl⟩
      go_wp2_with fail
      with_reducible refine (size23c _ _ _ hb Y.out).mono ?_
      rintro e w' ⟨rfl, rfl⟩
      go_wp2_with fail
      go_returns
      exact ⟨ret_int ((cl_neg m (mul_neg' (by omega))).symm), rfl⟩
  by_cases nb : b < 0
  ·
    have da : decide (a < 0) = false := by simp; omega
    have db : decide (b < 0) = true := by simp; omega
    have ex : (x == 0) = false := by have := X.out; unfold sz at this; split at this <;> simp <;> omega
    have ey : (y == 0) = false := by have := Y.out; unfold sz at this; split at this <;> simp <;> omega
    skip
    go_enter Try.func16, Try.ntmps16
    go_wp2_with fail
    with_reducible refine (size23c _ _ _ ha X.out).mono ?_
    rintro e w' ⟨rfl, rfl⟩
    go_wp2_with fail
    with_reducible refine (size23c _ _ _ hb Y.out).mono ?_
    rintro e w' ⟨rfl, rfl⟩
    go_wp2_with fail
    go_returns
    exact ⟨ret_int ((cl_neg m (mul_neg' (by omega))).symm), rfl⟩
  ·
    have da : decide (a < 0) = false := by simp; omega
    have db : decide (b < 0) = false := by simp; omega
    have p1 : 0 < a * b := mul_pos' (by omega)
    have xy : x * y = a * b := by rw [← X.out, ← Y.out, sz_mul, if_pos (by simp; omega)]
    have XY := Lib.hid xy
    clear xy p1
    have x1 : 1 ≤ x := by have := X.out; unfold sz at this; split at this <;> omega
    have y1 : 1 ≤ y := by have := Y.out; unfold sz at this; split at this <;> omega
    have ex : (x == 0) = false := by simp; omega
    have ey : (y == 0) = false := by simp; omega
    by_cases hm0 : m ≤ 0
    · 
      skip
      go_enter Try.func16, Try.ntmps16
      go_wp2_with fail
      with_reducible refine (size23c _ _ _ ha X.out).mono ?_
      rintro e w' ⟨rfl, rfl⟩
      go_wp2_with fail
      with_reducible refine (size23c _ _ _ hb Y.out).mono ?_
      rintro e w' ⟨rfl, rfl⟩
      go_wp2_with fail
      go_returns
      exact ⟨ret_int (by have := XY.out; have := mul_pos' (a := a) (b := b) (by omega); unfold cl; omega), rfl⟩
    · have m0 : 0 < m := by omega
      clear hm0
      by_cases hq : m / y < x
      · have big : Hid (m < x * y) := Lib.hid (by have := Int.le_ediv_iff_mul_le (a := x) (b := m) (c := y) (by omega); omega)
        skip
        go_enter Try.func16, Try.ntmps16
        go_wp2_with fail
        with_reducible refine (size23c _ _ _ ha X.out).mono ?_
        rintro e w' ⟨rfl, rfl⟩
        go_wp2_with fail
        with_reducible refine (size23c _ _ _ hb Y.out).mono ?_
        rintro e w' ⟨rfl, rfl⟩
        go_wp2_with fail
        go_returns
        exact ⟨ret_int (by have := big.out; rw [XY.out] at this; unfold cl; omega), rfl⟩
      · have sm : x * y ≤ m := (Int.le_ediv_iff_mul_le (a := x) (b := m) (c := y) (by omega)).1 (by omega)
        have p0 : 0 ≤ x * y := Int.mul_nonneg (by omega) (by omega)
        skip
        go_enter Try.func16, Try.ntmps16
        go_wp2_with fail
        with_reducible refine (size23c _ _ _ ha X.out).mono ?_
        rintro e w' ⟨rfl, rfl⟩
        go_wp2_with fail
        with_reducible refine (size23c _ _ _ hb Y.out).mono ?_
        rintro e w' ⟨rfl, rfl⟩
        go_wp2_with fail
        go_returns
        exact ⟨ret_int (by rw [XY.out]; rw [XY.out] at sm p0; unfold cl; omega), rfl⟩

set_option maxRecDepth 100000 in
set_option maxHeartbeats 1000000 in
theorem times17 (a b m : Int) (w : World) (ha : I a) (hb : I b) (hm : I m) :
    Calls Try.prog 17 #[.int .i64 a, .int .i64 b, .int .i64 m] w fun e w' => e = .returned (.int .i64 (cl (a * b) m)) ∧ w = w' := by
  obtain ⟨x, hx⟩ : ∃ x, sz a = x := ⟨_, rfl⟩
  obtain ⟨y, hy⟩ : ∃ y, sz b = y := ⟨_, rfl⟩
  have bx := sz_bd ha
  have bY := sz_bd hb
  rw [hx] at bx
  rw [hy] at bY
  have X := Lib.hid hx
  have Y := Lib.hid hy
  clear hx hy
  have ⟨a0, a1⟩ := id ha
  have ⟨b0, b1⟩ := id hb
  have ⟨m0, m1⟩ := id hm
  by_cases hm0 : m < 0
  ·
    go_enter Try.func17, Try.ntmps17
    go_wp2_with fail
    go_returns
    exact ⟨ret_int (by unfold cl; omega), rfl⟩
  have m2 : 0 ≤ m := by omega
  clear hm0
  by_cases za : a = 0
  · subst za
    go_enter Try.func17, Try.ntmps17
    go_wp2_with fail
    go_returns
    exact ⟨ret_int (by rw [Int.zero_mul, cl_zero]), rfl⟩
  by_cases zb : b = 0
  · subst zb
    have zz : (a == 0) = false := by simpa using za
    go_enter Try.func17, Try.ntmps17
    go_wp2_with fail
    go_returns
    exact ⟨ret_int (by rw [Int.mul_zero, cl_zero]), rfl⟩
  have zz : (a == 0) = false := by simpa using za
  have zy : (b == 0) = false := by simpa using zb
  by_cases na : a < 0
  · by_cases nb : b < 0
    ·
      have p1 : 0 < a * b := mul_pos' (by omega)
      have xy : x * y = a * b := by rw [← X.out, ← Y.out, sz_mul, if_pos (by simp; omega)]
      have XY := Lib.hid xy
      clear xy p1
      have x1 : 1 ≤ x := by have := X.out; unfold sz at this; split at this <;> omega
      have y1 : 1 ≤ y := by have := Y.out; unfold sz at this; split at this <;> omega
      have ex : (x == 0) = false := by simp; omega
      have ey : (y == 0) = false := by simp; omega
      by_cases hq : m / y < x
      · have big : Hid (m < x * y) := Lib.hid (by have := Int.le_ediv_iff_mul_le (a := x) (b := m) (c := y) (by omega); omega)
        go_enter Try.func17, Try.ntmps17
        go_wp2_with fail
        with_reducible refine (size24c _ _ _ hb Y.out).mono ?_
        rintro e w' ⟨rfl, rfl⟩
        go_wp2_with fail
        with_reducible refine (size24c _ _ _ ha X.out).mono ?_
        rintro e w' ⟨rfl, rfl⟩
        go_wp2_with fail
        go_returns
        exact ⟨ret_int (by have := big.out; rw [XY.out] at this; unfold cl; omega), rfl⟩
      · have sm : x * y ≤ m := (Int.le_ediv_iff_mul_le (a := x) (b := m) (c := y) (by omega)).1 (by omega)
        have p0 : 0 ≤ x * y := Int.mul_nonneg (by omega) (by omega)
        go_enter Try.func17, Try.ntmps17
        go_wp2_with fail
        with_reducible refine (size24c _ _ _ hb Y.out).mono ?_
        rintro e w' ⟨rfl, rfl⟩
        go_wp2_with fail
        with_reducible refine (size24c _ _ _ ha X.out).mono ?_
        rintro e w' ⟨rfl, rfl⟩
        go_wp2_with fail
        with_reducible refine (size24c _ _ _ ha X.out).mono ?_
        rintro e w' ⟨rfl, rfl⟩
        go_wp2_with fail
        with_reducible refine (size24c _ _ _ hb Y.out).mono ?_
        rintro e w' ⟨rfl, rfl⟩
        go_wp2_with fail
        go_returns
        exact ⟨ret_int (by rw [XY.out]; rw [XY.out] at sm p0; unfold cl; omega), rfl⟩
    · have nb' : 0 < b := by omega
      go_enter Try.func17, Try.ntmps17
      go_wp2_with fail
      go_returns
      exact ⟨ret_int ((cl_neg m (mul_neg' (by omega))).symm), rfl⟩
  have na' : 0 < a := by omega
  by_cases nb : b < 0
  ·
    go_enter Try.func17, Try.ntmps17
    go_wp2_with fail
    go_returns
    exact ⟨ret_int ((cl_neg m (mul_neg' (by omega))).symm), rfl⟩
  · have nb' : 0 < b := by omega
    have p1 : 0 < a * b := mul_pos' (by omega)
    have xy : x * y = a * b := by rw [← X.out, ← Y.out, sz_mul, if_pos (by simp; omega)]
    have XY := Lib.hid xy
    clear xy p1
    have x1 : 1 ≤ x := by have := X.out; unfold sz at this; split at this <;> omega
    have y1 : 1 ≤ y := by have := Y.out; unfold sz at this; split at this <;> omega
    have ex : (x == 0) = false := by simp; omega
    have ey : (y == 0) = false := by simp; omega
    by_cases hq : m / y < x
    · have big : Hid (m < x * y) := Lib.hid (by have := Int.le_ediv_iff_mul_le (a := x) (b := m) (c := y) (by omega); omega)
      go_enter Try.func17, Try.ntmps17
      go_wp2_with fail
      with_reducible refine (size24c _ _ _ hb Y.out).mono ?_
      rintro e w' ⟨rfl, rfl⟩
      go_wp2_with fail
      with_reducible refine (size24c _ _ _ ha X.out).mono ?_
      rintro e w' ⟨rfl, rfl⟩
      go_wp2_with fail
      go_returns
      exact ⟨ret_int (by have := big.out; rw [XY.out] at this; unfold cl; omega), rfl⟩
    · have sm : x * y ≤ m := (Int.le_ediv_iff_mul_le (a := x) (b := m) (c := y) (by omega)).1 (by omega)
      have p0 : 0 ≤ x * y := Int.mul_nonneg (by omega) (by omega)
      go_enter Try.func17, Try.ntmps17
      go_wp2_with fail
      with_reducible refine (size24c _ _ _ hb Y.out).mono ?_
      rintro e w' ⟨rfl, rfl⟩
      go_wp2_with fail
      with_reducible refine (size24c _ _ _ ha X.out).mono ?_
      rintro e w' ⟨rfl, rfl⟩
      go_wp2_with fail
      with_reducible refine (size24c _ _ _ ha X.out).mono ?_
      rintro e w' ⟨rfl, rfl⟩
      go_wp2_with fail
      with_reducible refine (size24c _ _ _ hb Y.out).mono ?_
      rintro e w' ⟨rfl, rfl⟩
      go_wp2_with fail
      go_returns
      exact ⟨ret_int (by rw [XY.out]; rw [XY.out] at sm p0; unfold cl; omega), rfl⟩

end Go.Proofs.Ytenpjhpdanhmaaa
