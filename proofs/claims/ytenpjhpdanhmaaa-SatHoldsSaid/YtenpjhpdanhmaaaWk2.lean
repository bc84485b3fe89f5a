/- The walks of package sat and of its reference: more numbers. -/
import Derived.Test.YtenpjhpdanhmaaaWk
namespace Go.Proofs.Ytenpjhpdanhmaaa
open Go.RowKit Plain
set_option linter.unusedVariables false
set_option linter.unusedSimpArgs false

set_option maxRecDepth 100000 in
set_option maxHeartbeats 1000000 in
theorem add12 (a b m : Int) (w : World) (ha : I a) (hb : I b) (hm : I m) :
    Calls Try.prog 12 #[.int .i64 a, .int .i64 b, .int .i64 m] w fun e w' => e = .returned (.int .i64 (cl (a + b) m)) ∧ w = w' := by
  obtain ⟨a0, a1⟩ := ha
  obtain ⟨b0, b1⟩ := hb
  obtain ⟨m0, m1⟩ := hm
  by_cases hm : m < 0
  ·
    go_enter Try.func12, Try.ntmps12
    go_wp2
    all_goals
      go_returns
      exact ⟨ret_int (by unfold cl; omega), rfl⟩
  by_cases ha : a < 0
  · by_cases hb : b < 0
    all_goals
      go_enter Try.func12, Try.ntmps12
      go_wp2_with (first | (go_at_call 10; refine (clamp10 _ _ _).mono ?_; rintro e w' ⟨rfl, rfl⟩))
      all_goals
        go_returns
        exact ⟨ret_int (by unfold cl; omega), rfl⟩
  by_cases hb : b < 0
  ·
    go_enter Try.func12, Try.ntmps12
    go_wp2_with (first | (go_at_call 10; refine (clamp10 _ _ _).mono ?_; rintro e w' ⟨rfl, rfl⟩))
    all_goals
      go_returns
      exact ⟨ret_int (by unfold cl; omega), rfl⟩
  by_cases hc : m < a
  ·
    go_enter Try.func12, Try.ntmps12
    go_wp2
    all_goals
      go_returns
      exact ⟨ret_int (by unfold cl; omega), rfl⟩
  by_cases hd : m - a < b
  all_goals
    go_enter Try.func12, Try.ntmps12
    go_wp2
    all_goals
      go_returns
      exact ⟨ret_int (by unfold cl; omega), rfl⟩

set_option maxRecDepth 100000 in
set_option maxHeartbeats 1000000 in
theorem sub15 (a b m : Int) (w : World) (ha : I a) (hb : I b) (hm : I m) :
    Calls Try.prog 15 #[.int .i64 a, .int .i64 b, .int .i64 m] w fun e w' => e = .returned (.int .i64 (cl (a - b) m)) ∧ w = w' := by
  obtain ⟨a0, a1⟩ := ha
  obtain ⟨b0, b1⟩ := hb
  obtain ⟨m0, m1⟩ := hm
  by_cases hm : m < 0
  ·
    go_enter Try.func15, Try.ntmps15
    go_wp2
    all_goals
      go_returns
      exact ⟨ret_int (by unfold cl; omega), rfl⟩
  by_cases hb : 0 ≤ b
  · by_cases ha : a < 0
    all_goals
      go_enter Try.func15, Try.ntmps15
      go_wp2_with (first | (go_at_call 10; refine (clamp10 _ _ _).mono ?_; rintro e w' ⟨rfl, rfl⟩))
      all_goals
        go_returns
        exact ⟨ret_int (by unfold cl; omega), rfl⟩
  by_cases ha : a < 0
  ·
    go_enter Try.func15, Try.ntmps15
    go_wp2_with (first | (go_at_call 10; refine (clamp10 _ _ _).mono ?_; rintro e w' ⟨rfl, rfl⟩))
    all_goals
      go_returns
      exact ⟨ret_int (by unfold cl; omega), rfl⟩
  by_cases hc : m < a
  ·
    go_enter Try.func15, Try.ntmps15
    go_wp2
    all_goals
      go_returns
      exact ⟨ret_int (by unfold cl; omega), rfl⟩
  by_cases hd : b < a - m
  all_goals
    go_enter Try.func15, Try.ntmps15
    go_wp2
    all_goals
      go_returns
      exact ⟨ret_int (by unfold cl; omega), rfl⟩

/-- a number without its sign -/
def sz (n : Int) : Int := if n < 0 then -n else n
theorem sz_bd {n : Int} (h : I n) : 0 ≤ sz n ∧ sz n ≤ 9223372036854775808 := by unfold sz; unfold I at h; split <;> omega
theorem sz_mul (a b : Int) : sz a * sz b = if (a < 0) = (b < 0) then a * b else -(a * b) := by
  unfold sz
  by_cases ha : a < 0 <;> by_cases hb : b < 0 <;> simp [ha, hb, Int.neg_mul, Int.mul_neg]

set_option maxRecDepth 100000 in
set_option maxHeartbeats 1000000 in
theorem size23 (n : Int) (w : World) (hn : I n) :
    Calls Try.prog 23 #[.int .i64 n] w fun e w' => e = .returned (.int .u64 (sz n)) ∧ w = w' := by
  obtain ⟨n0, n1⟩ := hn
  by_cases h : n < 0
  all_goals
    go_enter Try.func23, Try.ntmps23
    go_wp2
    all_goals
      go_returns
      exact ⟨ret_int (by unfold sz; split <;> first | omega | (simp [IntKind.wrap, IntKind.bits, IntKind.signed]; omega)), rfl⟩

set_option maxRecDepth 100000 in
set_option maxHeartbeats 1000000 in
theorem size24 (n : Int) (w : World) (hn : I n) :
    Calls Try.prog 24 #[.int .i64 n] w fun e w' => e = .returned (.int .u64 (sz n)) ∧ w = w' := by
  obtain ⟨n0, n1⟩ := hn
  by_cases h : n < 0
  all_goals
    go_enter Try.func24, Try.ntmps24
    go_wp2
    all_goals
      go_returns
      exact ⟨ret_int (by unfold sz; split <;> first | omega | (simp [IntKind.wrap, IntKind.bits, IntKind.signed]; omega)), rfl⟩

set_option maxRecDepth 100000 in
set_option maxHeartbeats 1000000 in
theorem dropped18 (a b m : Int) (w : World) (ha : I a) (hb : I b) (hm : I m) :
    Calls Try.prog 18 #[.int .i64 a, .int .i64 b, .int .i64 m] w fun e w' => e = .returned (.int .i64 (dr a b m)) ∧ w = w' := by
  obtain ⟨a0, a1⟩ := ha
  obtain ⟨b0, b1⟩ := hb
  obtain ⟨m0, m1⟩ := hm
  by_cases hm : m < 0
  · by_cases hab : a < b
    · have s1 : -9223372036854775808 ≤ sat (b + a) := (I_sat _).1
      have s2 : sat (b + a) ≤ 9223372036854775807 := (I_sat _).2
      by_cases hs : 0 < sat (b + a)
      all_goals
        by_cases hy : 0 < a
        all_goals
          go_enter Try.func18, Try.ntmps18
          go_wp2_with (first | (go_at_call 22; refine (plus22 _ _ _ (by unfold I; omega) (by unfold I; omega)).mono ?_; rintro e w' ⟨rfl, rfl⟩))
          all_goals
            go_returns
            exact ⟨ret_int (by unfold dr; unfold sat at *; omega), rfl⟩
    · have s1 : -9223372036854775808 ≤ sat (a + b) := (I_sat _).1
      have s2 : sat (a + b) ≤ 9223372036854775807 := (I_sat _).2
      by_cases hs : 0 < sat (a + b)
      all_goals
        by_cases hy : 0 < b
        all_goals
          go_enter Try.func18, Try.ntmps18
          go_wp2_with (first | (go_at_call 22; refine (plus22 _ _ _ (by unfold I; omega) (by unfold I; omega)).mono ?_; rintro e w' ⟨rfl, rfl⟩))
          all_goals
            go_returns
            exact ⟨ret_int (by unfold dr; unfold sat at *; omega), rfl⟩
  · by_cases hab : a < b
    · have s1 : -9223372036854775808 ≤ sat (b + a) := (I_sat _).1
      have s2 : sat (b + a) ≤ 9223372036854775807 := (I_sat _).2
      by_cases hs : 0 < sat (b + a)
      all_goals
        by_cases hy : 0 < a
        all_goals
          go_enter Try.func18, Try.ntmps18
          go_wp2_with (first | (go_at_call 22; refine (plus22 _ _ _ (by unfold I; omega) (by unfold I; omega)).mono ?_; rintro e w' ⟨rfl, rfl⟩))
          all_goals
            go_returns
            exact ⟨ret_int (by unfold dr; unfold sat at *; omega), rfl⟩
    · have s1 : -9223372036854775808 ≤ sat (a + b) := (I_sat _).1
      have s2 : sat (a + b) ≤ 9223372036854775807 := (I_sat _).2
      by_cases hs : 0 < sat (a + b)
      all_goals
        by_cases hy : 0 < b
        all_goals
          go_enter Try.func18, Try.ntmps18
          go_wp2_with (first | (go_at_call 22; refine (plus22 _ _ _ (by unfold I; omega) (by unfold I; omega)).mono ?_; rintro e w' ⟨rfl, rfl⟩))
          all_goals
            go_returns
            exact ⟨ret_int (by unfold dr; unfold sat at *; omega), rfl⟩

set_option maxRecDepth 100000 in
set_option maxHeartbeats 1000000 in
theorem dropped19 (a b m : Int) (w : World) (ha : I a) (hb : I b) (hm : I m) :
    Calls Try.prog 19 #[.int .i64 a, .int .i64 b, .int .i64 m] w fun e w' => e = .returned (.int .i64 (dr a b m)) ∧ w = w' := by
  obtain ⟨a0, a1⟩ := ha
  obtain ⟨b0, b1⟩ := hb
  obtain ⟨m0, m1⟩ := hm
  by_cases hm : m < 0
  all_goals
    by_cases ha : a < 0
    · by_cases hb : b < 0
      all_goals
        go_enter Try.func19, Try.ntmps19
        go_wp2
        all_goals
          go_returns
          exact ⟨ret_int (by unfold dr; omega), rfl⟩
    · by_cases hb : b < 0
      all_goals
        go_enter Try.func19, Try.ntmps19
        go_wp2
        all_goals
          go_returns
          exact ⟨ret_int (by unfold dr; omega), rfl⟩

end Go.Proofs.Ytenpjhpdanhmaaa
