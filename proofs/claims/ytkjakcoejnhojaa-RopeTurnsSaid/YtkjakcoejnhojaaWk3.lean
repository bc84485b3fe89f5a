/- The walks of package rope, ticks and of the references. -/
import Derived.Test.YtkjakcoejnhojaaWk2
import Derived.Test.YtkjakcoejnhojaaAb
namespace Go.Proofs.Ytkjakcoejnhojaa
open Go.RowKit Plain
set_option linter.unusedVariables false
set_option linter.unusedSimpArgs false

theorem ret_agg {a a' b b' : Int} (h : a = a') (g : b = b') : Ending.returned (.agg #[.int .u64 a, .int .u64 b]) = .returned (.agg #[.int .u64 a', .int .u64 b']) := by rw [h, g]

set_option maxRecDepth 100000 in
set_option maxHeartbeats 1000000 in
theorem valid10 (r b : Int) (w : World) :
    Calls Try.prog 10 #[.agg #[.int .u64 r, .int .u64 b]] w fun e w' => e = .returned (.bool (vR r b)) ∧ Below w.heap.size w w' := by
  by_cases h1 : r ≤ 1099511627776
  · by_cases h2 : b ≤ 1099511627776
    all_goals
      go_enter Try.func10, Try.ntmps10
      go_wp2
      go_returns
      exact ⟨ret_bool (by simp [vR]; omega), by go_grown⟩
  · go_enter Try.func10, Try.ntmps10
    go_wp2
    go_returns
    exact ⟨ret_bool (by simp [vR]; omega), by go_grown⟩

set_option maxRecDepth 100000 in
set_option maxHeartbeats 1000000 in
theorem since26 (a b : Int) (w : World) (ha : U a) (hb : U b) :
    Calls Try.prog 26 #[.int .u64 a, .int .u64 b] w fun e w' => e = .returned (.int .u64 (sub0 a b)) ∧ w = w' := by
  obtain ⟨a0, a1⟩ := ha
  obtain ⟨b0, b1⟩ := hb
  by_cases h1 : a ≤ b
  all_goals
    go_enter Try.func26, Try.ntmps26
    go_wp2
    go_returns
    exact ⟨ret_int (by unfold sub0; split <;> omega), rfl⟩

set_option maxRecDepth 100000 in
set_option maxHeartbeats 1000000 in
theorem add24 (a b : Int) (w : World) (ha : U a) (hb : U b) :
    Calls Try.prog 24 #[.int .u64 a, .int .u64 b] w fun e w' => e = .returned (.int .u64 (addN a b)) ∧ w = w' := by
  obtain ⟨a0, a1⟩ := ha
  obtain ⟨b0, b1⟩ := hb
  by_cases h1 : 18446744073709551615 - a < b
  all_goals
    go_enter Try.func24, Try.ntmps24
    go_wp2
    go_returns
    exact ⟨ret_int (by unfold addN; split <;> omega), rfl⟩

set_option maxRecDepth 100000 in
set_option maxHeartbeats 1000000 in
theorem take22 (a b : Int) (w : World) (ha : U a) (hb : U b) :
    Calls Try.prog 22 #[.int .u64 a, .int .u64 b] w fun e w' => e = .returned (.tuple #[.int .u64 (sub0 a b), .int .u64 (sub0 b a)]) ∧ w = w' := by
  go_enter Try.func22, Try.ntmps22
  go_wp2_with fail
  with_reducible refine (since26 _ _ _ ha hb).mono ?_
  rintro e w' ⟨rfl, rfl⟩
  go_wp2_with fail
  with_reducible refine (since26 _ _ _ hb ha).mono ?_
  rintro e w' ⟨rfl, rfl⟩
  go_wp2_with fail
  go_returns
  exact ⟨rfl, rfl⟩

set_option maxRecDepth 100000 in
set_option maxHeartbeats 1000000 in
theorem of23 (a b : Int) (w : World) :
    Calls Try.prog 23 #[.int .u64 a, .int .u64 b] w fun e w' => e = .returned (.agg #[.int .u64 a, .int .u64 b]) ∧ Below w.heap.size w w' := by
  go_enter Try.func23, Try.ntmps23
  go_wp2_with fail
  go_returns
  exact ⟨rfl, by go_grown⟩

set_option maxRecDepth 100000 in
set_option maxHeartbeats 1000000 in
theorem empty18 (r b : Int) (w : World) :
    Calls Try.prog 18 #[.agg #[.int .u64 r, .int .u64 b]] w fun e w' => e = .returned (.bool (r == 0 && b == 0)) ∧ Below w.heap.size w w' := by
  go_enter Try.func18, Try.ntmps18
  go_wp2_with fail
  all_goals
    go_returns
    exact ⟨ret_bool (by simp [*]), by go_grown⟩

set_option maxRecDepth 100000 in
set_option maxHeartbeats 1000000 in
theorem charge8_no (r b n : Int) (w : World) (h : vR r b = false) :
    Calls Try.prog 8 #[.agg #[.int .u64 r, .int .u64 b], .int .u64 n] w fun e w' => e = .returned (.tuple #[.agg #[.int .u64 0, .int .u64 0], .int .u64 0, .int .i64 2]) ∧ Below w.heap.size w w' := by
  go_enter Try.func8, Try.ntmps8
  go_wp2_with fail
  with_reducible refine (valid10 _ _ _).mono ?_
  rintro e w1 ⟨rfl, hb_w1⟩
  have K_w1 : Kept w.heap.size w (w.heap.size + 3) [(w.heap.size, 0, .int .u64 r), (w.heap.size, 1, .int .u64 b), (w.heap.size + 1, 0, .int .u64 0), (w.heap.size + 1, 1, .int .u64 0), (w.heap.size + 2, 0, .int .u64 0), (w.heap.size + 2, 1, .int .u64 0)] w1 := Kept.of hb_w1 (by go_grown) (by go_size) (by omega) (by simp [go_sem] <;> omega)
  clear hb_w1
  have hw_w1 := K_w1.below
  have hz_w1 := K_w1.size
  have lP_w1 : w.heap.size < w1.heap.size := by omega
  have cP0_w1 := K_w1.at (b := w.heap.size) (o := 0) (v := .int .u64 r) (by simp)
  have fP0_w1 := K_w1.free (b := w.heap.size) (o := 0) (v := .int .u64 r) (by simp)
  have cP1_w1 := K_w1.at (b := w.heap.size) (o := 1) (v := .int .u64 b) (by simp)
  have fP1_w1 := K_w1.free (b := w.heap.size) (o := 1) (v := .int .u64 b) (by simp)
  have lZ_w1 : w.heap.size + 1 < w1.heap.size := by omega
  have cZ0_w1 := K_w1.at (b := w.heap.size + 1) (o := 0) (v := .int .u64 0) (by simp)
  have fZ0_w1 := K_w1.free (b := w.heap.size + 1) (o := 0) (v := .int .u64 0) (by simp)
  have cZ1_w1 := K_w1.at (b := w.heap.size + 1) (o := 1) (v := .int .u64 0) (by simp)
  have fZ1_w1 := K_w1.free (b := w.heap.size + 1) (o := 1) (v := .int .u64 0) (by simp)
  have lY_w1 : w.heap.size + 2 < w1.heap.size := by omega
  have cY0_w1 := K_w1.at (b := w.heap.size + 2) (o := 0) (v := .int .u64 0) (by simp)
  have fY0_w1 := K_w1.free (b := w.heap.size + 2) (o := 0) (v := .int .u64 0) (by simp)
  have cY1_w1 := K_w1.at (b := w.heap.size + 2) (o := 1) (v := .int .u64 0) (by simp)
  have fY1_w1 := K_w1.free (b := w.heap.size + 2) (o := 1) (v := .int .u64 0) (by simp)
  clear K_w1
  go_wp2_with fail
  exact bodyPost_ret (v := .tuple #[.agg #[.int .u64 0, .int .u64 0], .int .u64 0, .int .i64 2]) (by simp [results, Try.results8, go_sem, lP_w1, cP0_w1, fP0_w1, cP1_w1, fP1_w1, lZ_w1, cZ0_w1, fZ0_w1, cZ1_w1, fZ1_w1, lY_w1, cY0_w1, fY0_w1, cY1_w1, fY1_w1]) rfl ⟨rfl, by go_grown⟩

set_option maxRecDepth 100000 in
set_option maxHeartbeats 1000000 in
theorem charge8 (r b n : Int) (w : World) (hr : U r) (hb : U b) (hn : U n) (h : vR r b = true) :
    Calls Try.prog 8 #[.agg #[.int .u64 r, .int .u64 b], .int .u64 n] w fun e w' => e = .returned (.tuple #[.agg #[.int .u64 (sub0 r n), .int .u64 (sub0 b (sub0 n r))], .int .u64 (sub0 (sub0 n r) b), .int .i64 0]) ∧ Below w.heap.size w w' := by
  have hx := U_sub0 hn hr
  go_enter Try.func8, Try.ntmps8
  go_wp2_with fail
  with_reducible refine (valid10 _ _ _).mono ?_
  rintro e w1 ⟨rfl, hb_w1⟩
  have K_w1 : Kept w.heap.size w (w.heap.size + 3) [(w.heap.size, 0, .int .u64 r), (w.heap.size, 1, .int .u64 b), (w.heap.size + 1, 0, .int .u64 0), (w.heap.size + 1, 1, .int .u64 0)] w1 := Kept.of hb_w1 (by go_grown) (by go_size) (by omega) (by simp [go_sem] <;> omega)
  clear hb_w1
  have hw_w1 := K_w1.below
  have hz_w1 := K_w1.size
  have lP_w1 : w.heap.size < w1.heap.size := by omega
  have cP0_w1 := K_w1.at (b := w.heap.size) (o := 0) (v := .int .u64 r) (by simp)
  have fP0_w1 := K_w1.free (b := w.heap.size) (o := 0) (v := .int .u64 r) (by simp)
  have cP1_w1 := K_w1.at (b := w.heap.size) (o := 1) (v := .int .u64 b) (by simp)
  have fP1_w1 := K_w1.free (b := w.heap.size) (o := 1) (v := .int .u64 b) (by simp)
  have lZ_w1 : w.heap.size + 1 < w1.heap.size := by omega
  have cZ0_w1 := K_w1.at (b := w.heap.size + 1) (o := 0) (v := .int .u64 0) (by simp)
  have fZ0_w1 := K_w1.free (b := w.heap.size + 1) (o := 0) (v := .int .u64 0) (by simp)
  have cZ1_w1 := K_w1.at (b := w.heap.size + 1) (o := 1) (v := .int .u64 0) (by simp)
  have fZ1_w1 := K_w1.free (b := w.heap.size + 1) (o := 1) (v := .int .u64 0) (by simp)
  clear K_w1
  go_wp2_with fail
  with_reducible refine (take22 _ _ _ hr hn).mono ?_
  rintro e w' ⟨rfl, rfl⟩
  go_wp2_with fail
  with_reducible refine (take22 _ _ _ hb hx).mono ?_
  rintro e w' ⟨rfl, rfl⟩
  go_wp2_with fail
  exact bodyPost_ret (v := .tuple #[.agg #[.int .u64 (sub0 r n), .int .u64 (sub0 b (sub0 n r))], .int .u64 (sub0 (sub0 n r) b), .int .i64 0]) (by simp [results, Try.results8, go_sem, lP_w1, cP0_w1, fP0_w1, cP1_w1, fP1_w1, lZ_w1, cZ0_w1, fZ0_w1, cZ1_w1, fZ1_w1]) rfl ⟨rfl, by go_grown⟩

set_option maxRecDepth 100000 in
set_option maxHeartbeats 1000000 in
theorem refill15_no (r b n : Int) (w : World) (h : vR r b = false ∨ 1099511627776 < n) :
    Calls Try.prog 15 #[.agg #[.int .u64 r, .int .u64 b], .int .u64 n] w fun e w' => e = .returned (.tuple #[.agg #[.int .u64 0, .int .u64 0], .int .i64 2]) ∧ Below w.heap.size w w' := by
  cases hv : vR r b
  · clear h
    go_enter Try.func15, Try.ntmps15
    go_wp2_with fail
    with_reducible refine (valid10 _ _ _).mono ?_
    rintro e w1 ⟨rfl, hb_w1⟩
    have K_w1 : Kept w.heap.size w (w.heap.size + 3) [(w.heap.size, 0, .int .u64 r), (w.heap.size, 1, .int .u64 b), (w.heap.size + 1, 0, .int .u64 0), (w.heap.size + 1, 1, .int .u64 0), (w.heap.size + 2, 0, .int .u64 0), (w.heap.size + 2, 1, .int .u64 0)] w1 := Kept.of hb_w1 (by go_grown) (by go_size) (by omega) (by simp [go_sem] <;> omega)
    clear hb_w1
    have hw_w1 := K_w1.below
    have hz_w1 := K_w1.size
    have lP_w1 : w.heap.size < w1.heap.size := by omega
    have cP0_w1 := K_w1.at (b := w.heap.size) (o := 0) (v := .int .u64 r) (by simp)
    have fP0_w1 := K_w1.free (b := w.heap.size) (o := 0) (v := .int .u64 r) (by simp)
    have cP1_w1 := K_w1.at (b := w.heap.size) (o := 1) (v := .int .u64 b) (by simp)
    have fP1_w1 := K_w1.free (b := w.heap.size) (o := 1) (v := .int .u64 b) (by simp)
    have lZ_w1 : w.heap.size + 1 < w1.heap.size := by omega
    have cZ0_w1 := K_w1.at (b := w.heap.size + 1) (o := 0) (v := .int .u64 0) (by simp)
    have fZ0_w1 := K_w1.free (b := w.heap.size + 1) (o := 0) (v := .int .u64 0) (by simp)
    have cZ1_w1 := K_w1.at (b := w.heap.size + 1) (o := 1) (v := .int .u64 0) (by simp)
    have fZ1_w1 := K_w1.free (b := w.heap.size + 1) (o := 1) (v := .int .u64 0) (by simp)
    have lY_w1 : w.heap.size + 2 < w1.heap.size := by omega
    have cY0_w1 := K_w1.at (b := w.heap.size + 2) (o := 0) (v := .int .u64 0) (by simp)
    have fY0_w1 := K_w1.free (b := w.heap.size + 2) (o := 0) (v := .int .u64 0) (by simp)
    have cY1_w1 := K_w1.at (b := w.heap.size + 2) (o := 1) (v := .int .u64 0) (by simp)
    have fY1_w1 := K_w1.free (b := w.heap.size + 2) (o := 1) (v := .int .u64 0) (by simp)
    clear K_w1
    go_wp2_with fail
    exact bodyPost_ret (v := .tuple #[.agg #[.int .u64 0, .int .u64 0], .int .i64 2]) (by simp [results, Try.results15, go_sem, lP_w1, cP0_w1, fP0_w1, cP1_w1, fP1_w1, lZ_w1, cZ0_w1, fZ0_w1, cZ1_w1, fZ1_w1, lY_w1, cY0_w1, fY0_w1, cY1_w1, fY1_w1]) rfl ⟨rfl, by go_grown⟩
  · replace h : 1099511627776 < n := by simpa [hv] using h
    go_enter Try.func15, Try.ntmps15
    go_wp2_with fail
    with_reducible refine (valid10 _ _ _).mono ?_
    rintro e w1 ⟨rfl, hb_w1⟩
    have K_w1 : Kept w.heap.size w (w.heap.size + 3) [(w.heap.size, 0, .int .u64 r), (w.heap.size, 1, .int .u64 b), (w.heap.size + 1, 0, .int .u64 0), (w.heap.size + 1, 1, .int .u64 0), (w.heap.size + 2, 0, .int .u64 0), (w.heap.size + 2, 1, .int .u64 0)] w1 := Kept.of hb_w1 (by go_grown) (by go_size) (by omega) (by simp [go_sem] <;> omega)
    clear hb_w1
    have hw_w1 := K_w1.below
    have hz_w1 := K_w1.size
    have lP_w1 : w.heap.size < w1.heap.size := by omega
    have cP0_w1 := K_w1.at (b := w.heap.size) (o := 0) (v := .int .u64 r) (by simp)
    have fP0_w1 := K_w1.free (b := w.heap.size) (o := 0) (v := .int .u64 r) (by simp)
    have cP1_w1 := K_w1.at (b := w.heap.size) (o := 1) (v := .int .u64 b) (by simp)
    have fP1_w1 := K_w1.free (b := w.heap.size) (o := 1) (v := .int .u64 b) (by simp)
    have lZ_w1 : w.heap.size + 1 < w1.heap.size := by omega
    have cZ0_w1 := K_w1.at (b := w.heap.size + 1) (o := 0) (v := .int .u64 0) (by simp)
    have fZ0_w1 := K_w1.free (b := w.heap.size + 1) (o := 0) (v := .int .u64 0) (by simp)
    have cZ1_w1 := K_w1.at (b := w.heap.size + 1) (o := 1) (v := .int .u64 0) (by simp)
    have fZ1_w1 := K_w1.free (b := w.heap.size + 1) (o := 1) (v := .int .u64 0) (by simp)
    have lY_w1 : w.heap.size + 2 < w1.heap.size := by omega
    have cY0_w1 := K_w1.at (b := w.heap.size + 2) (o := 0) (v := .int .u64 0) (by simp)
    have fY0_w1 := K_w1.free (b := w.heap.size + 2) (o := 0) (v := .int .u64 0) (by simp)
    have cY1_w1 := K_w1.at (b := w.heap.size + 2) (o := 1) (v := .int .u64 0) (by simp)
    have fY1_w1 := K_w1.free (b := w.heap.size + 2) (o := 1) (v := .int .u64 0) (by simp)
    clear K_w1
    go_wp2_with fail
    exact bodyPost_ret (v := .tuple #[.agg #[.int .u64 0, .int .u64 0], .int .i64 2]) (by simp [results, Try.results15, go_sem, lP_w1, cP0_w1, fP0_w1, cP1_w1, fP1_w1, lZ_w1, cZ0_w1, fZ0_w1, cZ1_w1, fZ1_w1, lY_w1, cY0_w1, fY0_w1, cY1_w1, fY1_w1]) rfl ⟨rfl, by go_grown⟩

set_option maxRecDepth 100000 in
set_option maxHeartbeats 1000000 in
theorem refill15 (r b n : Int) (w : World) (hv : vR r b = true) (h : n ≤ 1099511627776) :
    Calls Try.prog 15 #[.agg #[.int .u64 r, .int .u64 b], .int .u64 n] w fun e w' => e = .returned (.tuple #[.agg #[.int .u64 n, .int .u64 b], .int .i64 0]) ∧ Below w.heap.size w w' := by
  go_enter Try.func15, Try.ntmps15
  go_wp2_with fail
  with_reducible refine (valid10 _ _ _).mono ?_
  rintro e w1 ⟨rfl, hb_w1⟩
  have K_w1 : Kept w.heap.size w (w.heap.size + 3) [(w.heap.size, 0, .int .u64 r), (w.heap.size, 1, .int .u64 b), (w.heap.size + 1, 0, .int .u64 0), (w.heap.size + 1, 1, .int .u64 0)] w1 := Kept.of hb_w1 (by go_grown) (by go_size) (by omega) (by simp [go_sem] <;> omega)
  clear hb_w1
  have hw_w1 := K_w1.below
  have hz_w1 := K_w1.size
  have lP_w1 : w.heap.size < w1.heap.size := by omega
  have cP0_w1 := K_w1.at (b := w.heap.size) (o := 0) (v := .int .u64 r) (by simp)
  have fP0_w1 := K_w1.free (b := w.heap.size) (o := 0) (v := .int .u64 r) (by simp)
  have cP1_w1 := K_w1.at (b := w.heap.size) (o := 1) (v := .int .u64 b) (by simp)
  have fP1_w1 := K_w1.free (b := w.heap.size) (o := 1) (v := .int .u64 b) (by simp)
  have lZ_w1 : w.heap.size + 1 < w1.heap.size := by omega
  have cZ0_w1 := K_w1.at (b := w.heap.size + 1) (o := 0) (v := .int .u64 0) (by simp)
  have fZ0_w1 := K_w1.free (b := w.heap.size + 1) (o := 0) (v := .int .u64 0) (by simp)
  have cZ1_w1 := K_w1.at (b := w.heap.size + 1) (o := 1) (v := .int .u64 0) (by simp)
  have fZ1_w1 := K_w1.free (b := w.heap.size + 1) (o := 1) (v := .int .u64 0) (by simp)
  clear K_w1
  go_wp2_with fail
  exact bodyPost_ret (v := .tuple #[.agg #[.int .u64 n, .int .u64 b], .int .i64 0]) (by simp [results, Try.results15, go_sem, lP_w1, cP0_w1, fP0_w1, cP1_w1, fP1_w1, lZ_w1, cZ0_w1, fZ0_w1, cZ1_w1, fZ1_w1]) rfl ⟨rfl, by go_grown⟩

/-- a bank after more ticks -/
def more (b n : Int) : Int := if 1099511627776 - b < n then 1099511627776 else b + n

set_option maxRecDepth 100000 in
set_option maxHeartbeats 1000000 in
theorem extend16_no (r b n : Int) (w : World) (h : vR r b = false) :
    Calls Try.prog 16 #[.agg #[.int .u64 r, .int .u64 b], .int .u64 n] w fun e w' => e = .returned (.tuple #[.agg #[.int .u64 0, .int .u64 0], .int .i64 2]) ∧ Below w.heap.size w w' := by
  go_enter Try.func16, Try.ntmps16
  go_wp2_with fail
  with_reducible refine (valid10 _ _ _).mono ?_
  rintro e w1 ⟨rfl, hb_w1⟩
  have K_w1 : Kept w.heap.size w (w.heap.size + 3) [(w.heap.size, 0, .int .u64 r), (w.heap.size, 1, .int .u64 b), (w.heap.size + 1, 0, .int .u64 0), (w.heap.size + 1, 1, .int .u64 0), (w.heap.size + 2, 0, .int .u64 0), (w.heap.size + 2, 1, .int .u64 0)] w1 := Kept.of hb_w1 (by go_grown) (by go_size) (by omega) (by simp [go_sem] <;> omega)
  clear hb_w1
  have hw_w1 := K_w1.below
  have hz_w1 := K_w1.size
  have lP_w1 : w.heap.size < w1.heap.size := by omega
  have cP0_w1 := K_w1.at (b := w.heap.size) (o := 0) (v := .int .u64 r) (by simp)
  have fP0_w1 := K_w1.free (b := w.heap.size) (o := 0) (v := .int .u64 r) (by simp)
  have cP1_w1 := K_w1.at (b := w.heap.size) (o := 1) (v := .int .u64 b) (by simp)
  have fP1_w1 := K_w1.free (b := w.heap.size) (o := 1) (v := .int .u64 b) (by simp)
  have lZ_w1 : w.heap.size + 1 < w1.heap.size := by omega
  have cZ0_w1 := K_w1.at (b := w.heap.size + 1) (o := 0) (v := .int .u64 0) (by simp)
  have fZ0_w1 := K_w1.free (b := w.heap.size + 1) (o := 0) (v := .int .u64 0) (by simp)
  have cZ1_w1 := K_w1.at (b := w.heap.size + 1) (o := 1) (v := .int .u64 0) (by simp)
  have fZ1_w1 := K_w1.free (b := w.heap.size + 1) (o := 1) (v := .int .u64 0) (by simp)
  have lY_w1 : w.heap.size + 2 < w1.heap.size := by omega
  have cY0_w1 := K_w1.at (b := w.heap.size + 2) (o := 0) (v := .int .u64 0) (by simp)
  have fY0_w1 := K_w1.free (b := w.heap.size + 2) (o := 0) (v := .int .u64 0) (by simp)
  have cY1_w1 := K_w1.at (b := w.heap.size + 2) (o := 1) (v := .int .u64 0) (by simp)
  have fY1_w1 := K_w1.free (b := w.heap.size + 2) (o := 1) (v := .int .u64 0) (by simp)
  clear K_w1
  go_wp2_with fail
  exact bodyPost_ret (v := .tuple #[.agg #[.int .u64 0, .int .u64 0], .int .i64 2]) (by simp [results, Try.results16, go_sem, lP_w1, cP0_w1, fP0_w1, cP1_w1, fP1_w1, lZ_w1, cZ0_w1, fZ0_w1, cZ1_w1, fZ1_w1, lY_w1, cY0_w1, fY0_w1, cY1_w1, fY1_w1]) rfl ⟨rfl, by go_grown⟩

set_option maxRecDepth 100000 in
set_option maxHeartbeats 1000000 in
theorem extend16 (r b n : Int) (w : World) (hbu : U b) (hn : U n) (hv : vR r b = true) :
    Calls Try.prog 16 #[.agg #[.int .u64 r, .int .u64 b], .int .u64 n] w fun e w' => e = .returned (.tuple #[.agg #[.int .u64 r, .int .u64 (more b n)], .int .i64 0]) ∧ Below w.heap.size w w' := by
  have ⟨v1, v2⟩ := vR_true hv
  obtain ⟨b0, b1⟩ := hbu
  obtain ⟨n0, n1⟩ := hn
  by_cases h : 1099511627776 - b < n
  · have e1 : Hid (more b n = 1099511627776) := Lib.hid (by unfold more; rw [if_pos h])
    go_enter Try.func16, Try.ntmps16
    go_wp2_with fail
    with_reducible refine (valid10 _ _ _).mono ?_
    rintro e w1 ⟨rfl, hb_w1⟩
    have K_w1 : Kept w.heap.size w (w.heap.size + 3) [(w.heap.size, 0, .int .u64 r), (w.heap.size, 1, .int .u64 b), (w.heap.size + 1, 0, .int .u64 0), (w.heap.size + 1, 1, .int .u64 0)] w1 := Kept.of hb_w1 (by go_grown) (by go_size) (by omega) (by simp [go_sem] <;> omega)
    clear hb_w1
    have hw_w1 := K_w1.below
    have hz_w1 := K_w1.size
    have lP_w1 : w.heap.size < w1.heap.size := by omega
    have cP0_w1 := K_w1.at (b := w.heap.size) (o := 0) (v := .int .u64 r) (by simp)
    have fP0_w1 := K_w1.free (b := w.heap.size) (o := 0) (v := .int .u64 r) (by simp)
    have cP1_w1 := K_w1.at (b := w.heap.size) (o := 1) (v := .int .u64 b) (by simp)
    have fP1_w1 := K_w1.free (b := w.heap.size) (o := 1) (v := .int .u64 b) (by simp)
    have lZ_w1 : w.heap.size + 1 < w1.heap.size := by omega
    have cZ0_w1 := K_w1.at (b := w.heap.size + 1) (o := 0) (v := .int .u64 0) (by simp)
    have fZ0_w1 := K_w1.free (b := w.heap.size + 1) (o := 0) (v := .int .u64 0) (by simp)
    have cZ1_w1 := K_w1.at (b := w.heap.size + 1) (o := 1) (v := .int .u64 0) (by simp)
    have fZ1_w1 := K_w1.free (b := w.heap.size + 1) (o := 1) (v := .int .u64 0) (by simp)
    clear K_w1
    go_wp2_with fail
    exact bodyPost_ret (v := .tuple #[.agg #[.int .u64 r, .int .u64 1099511627776], .int .i64 0]) (by simp [results, Try.results16, go_sem, lP_w1, cP0_w1, fP0_w1, cP1_w1, fP1_w1, lZ_w1, cZ0_w1, fZ0_w1, cZ1_w1, fZ1_w1]) rfl ⟨by rw [e1.out], by go_grown⟩
  · have e1 : Hid (more b n = b + n) := Lib.hid (by unfold more; rw [if_neg h])
    go_enter Try.func16, Try.ntmps16
    go_wp2_with fail
    with_reducible refine (valid10 _ _ _).mono ?_
    rintro e w1 ⟨rfl, hb_w1⟩
    have K_w1 : Kept w.heap.size w (w.heap.size + 3) [(w.heap.size, 0, .int .u64 r), (w.heap.size, 1, .int .u64 b), (w.heap.size + 1, 0, .int .u64 0), (w.heap.size + 1, 1, .int .u64 0)] w1 := Kept.of hb_w1 (by go_grown) (by go_size) (by omega) (by simp [go_sem] <;> omega)
    clear hb_w1
    have hw_w1 := K_w1.below
    have hz_w1 := K_w1.size
    have lP_w1 : w.heap.size < w1.heap.size := by omega
    have cP0_w1 := K_w1.at (b := w.heap.size) (o := 0) (v := .int .u64 r) (by simp)
    have fP0_w1 := K_w1.free (b := w.heap.size) (o := 0) (v := .int .u64 r) (by simp)
    have cP1_w1 := K_w1.at (b := w.heap.size) (o := 1) (v := .int .u64 b) (by simp)
    have fP1_w1 := K_w1.free (b := w.heap.size) (o := 1) (v := .int .u64 b) (by simp)
    have lZ_w1 : w.heap.size + 1 < w1.heap.size := by omega
    have cZ0_w1 := K_w1.at (b := w.heap.size + 1) (o := 0) (v := .int .u64 0) (by simp)
    have fZ0_w1 := K_w1.free (b := w.heap.size + 1) (o := 0) (v := .int .u64 0) (by simp)
    have cZ1_w1 := K_w1.at (b := w.heap.size + 1) (o := 1) (v := .int .u64 0) (by simp)
    have fZ1_w1 := K_w1.free (b := w.heap.size + 1) (o := 1) (v := .int .u64 0) (by simp)
    clear K_w1
    go_wp2_with fail
    exact bodyPost_ret (v := .tuple #[.agg #[.int .u64 r, .int .u64 (b + n)], .int .i64 0]) (by simp [results, Try.results16, go_sem, lP_w1, cP0_w1, fP0_w1, cP1_w1, fP1_w1, lZ_w1, cZ0_w1, fZ0_w1, cZ1_w1, fZ1_w1]) rfl ⟨by rw [e1.out], by go_grown⟩

end Go.Proofs.Ytkjakcoejnhojaa
