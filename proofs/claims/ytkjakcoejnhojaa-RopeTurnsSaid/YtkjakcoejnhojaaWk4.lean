/- The walks of package rope: Refill, Extend, Until; the law's helpers. -/
import Derived.Test.YtkjakcoejnhojaaWk3
namespace Go.Proofs.Ytkjakcoejnhojaa
open Go.RowKit Plain
set_option linter.unusedVariables false
set_option linter.unusedSimpArgs false

set_option maxRecDepth 100000 in
set_option maxHeartbeats 1000000 in
theorem refill13_no (r b n : Int) (w : World) (h : vR n b = false ∨ 1099511627776 < r) :
    Calls Try.prog 13 #[.agg #[.int .u64 r, .int .u64 b], .int .u64 n] w fun e w' => e = .returned (.tuple #[.agg #[.int .u64 0, .int .u64 0], .int .i64 2]) ∧ Below w.heap.size w w' := by
  cases hv : vR n b
  · clear h
    go_enter Try.func13, Try.ntmps13
    go_wp2_with fail
    with_reducible refine (valid9 _ _ _).mono ?_
    rintro e w1 ⟨rfl, hb_w1⟩
    have K_w1 : Kept w.heap.size w (w.heap.size + 2) [(w.heap.size, 0, .int .u64 n), (w.heap.size, 1, .int .u64 b), (w.heap.size + 1, 0, .int .u64 0), (w.heap.size + 1, 1, .int .u64 0)] w1 := Kept.of hb_w1 (by go_grown) (by go_size) (by omega) (by simp [go_sem] <;> omega)
    clear hb_w1
    have hw_w1 := K_w1.below
    have hz_w1 := K_w1.size
    have lP_w1 : w.heap.size < w1.heap.size := by omega
    have cP0_w1 := K_w1.at (b := w.heap.size) (o := 0) (v := .int .u64 n) (by simp)
    have fP0_w1 := K_w1.free (b := w.heap.size) (o := 0) (v := .int .u64 n) (by simp)
    have cP1_w1 := K_w1.at (b := w.heap.size) (o := 1) (v := .int .u64 b) (by simp)
    have fP1_w1 := K_w1.free (b := w.heap.size) (o := 1) (v := .int .u64 b) (by simp)
    have lZ_w1 : w.heap.size + 1 < w1.heap.size := by omega
    have cZ0_w1 := K_w1.at (b := w.heap.size + 1) (o := 0) (v := .int .u64 0) (by simp)
    have fZ0_w1 := K_w1.free (b := w.heap.size + 1) (o := 0) (v := .int .u64 0) (by simp)
    have cZ1_w1 := K_w1.at (b := w.heap.size + 1) (o := 1) (v := .int .u64 0) (by simp)
    have fZ1_w1 := K_w1.free (b := w.heap.size + 1) (o := 1) (v := .int .u64 0) (by simp)
    clear K_w1
    go_wp2_with fail
    exact bodyPost_ret (v := .tuple #[.agg #[.int .u64 0, .int .u64 0], .int .i64 2]) (by simp [results, Try.results13, go_sem, lP_w1, cP0_w1, fP0_w1, cP1_w1, fP1_w1, lZ_w1, cZ0_w1, fZ0_w1, cZ1_w1, fZ1_w1]) rfl ⟨rfl, by go_grown⟩
  · replace h : 1099511627776 < r := by simpa [hv] using h
    go_enter Try.func13, Try.ntmps13
    go_wp2_with fail
    with_reducible refine (valid9 _ _ _).mono ?_
    rintro e w1 ⟨rfl, hb_w1⟩
    have K_w1 : Kept w.heap.size w (w.heap.size + 2) [(w.heap.size, 0, .int .u64 n), (w.heap.size, 1, .int .u64 b), (w.heap.size + 1, 0, .int .u64 0), (w.heap.size + 1, 1, .int .u64 0)] w1 := Kept.of hb_w1 (by go_grown) (by go_size) (by omega) (by simp [go_sem] <;> omega)
    clear hb_w1
    have hw_w1 := K_w1.below
    have hz_w1 := K_w1.size
    have lP_w1 : w.heap.size < w1.heap.size := by omega
    have cP0_w1 := K_w1.at (b := w.heap.size) (o := 0) (v := .int .u64 n) (by simp)
    have fP0_w1 := K_w1.free (b := w.heap.size) (o := 0) (v := .int .u64 n) (by simp)
    have cP1_w1 := K_w1.at (b := w.heap.size) (o := 1) (v := .int .u64 b) (by simp)
    have fP1_w1 := K_w1.free (b := w.heap.size) (o := 1) (v := .int .u64 b) (by simp)
    have lZ_w1 : w.heap.size + 1 < w1.heap.size := by omega
    have cZ0_w1 := K_w1.at (b := w.heap.size + 1) (o := 0) (v := .int .u64 0) (by simp)
    have fZ0_w1 := K_w1.free (b := w.heap.size + 1) (o := 0) (v := .int .u64 0) (by simp)
    have cZ1_w1 := K_w1.at (b := w.heap.size + 1) (o := 1) (v := .int .u64 0) (by simp)
    have fZ1_w1 := K_w1.free (b := w.heap.size + 1) (o := 1) (v := .int .u64 0) (by simp)
    clear K_w1
    go_wp2_with fail
    exact bodyPost_ret (v := .tuple #[.agg #[.int .u64 0, .int .u64 0], .int .i64 2]) (by simp [results, Try.results13, go_sem, lP_w1, cP0_w1, fP0_w1, cP1_w1, fP1_w1, lZ_w1, cZ0_w1, fZ0_w1, cZ1_w1, fZ1_w1]) rfl ⟨rfl, by go_grown⟩

set_option maxRecDepth 100000 in
set_option maxHeartbeats 1000000 in
theorem refill13 (r b n : Int) (w : World) (hv : vR n b = true) (h : r ≤ 1099511627776) :
    Calls Try.prog 13 #[.agg #[.int .u64 r, .int .u64 b], .int .u64 n] w fun e w' => e = .returned (.tuple #[.agg #[.int .u64 n, .int .u64 b], .int .i64 0]) ∧ Below w.heap.size w w' := by
  go_enter Try.func13, Try.ntmps13
  go_wp2_with fail
  with_reducible refine (valid9 _ _ _).mono ?_
  rintro e w1 ⟨rfl, hb_w1⟩
  have K_w1 : Kept w.heap.size w (w.heap.size + 2) [(w.heap.size, 0, .int .u64 n), (w.heap.size, 1, .int .u64 b), (w.heap.size + 1, 0, .int .u64 0), (w.heap.size + 1, 1, .int .u64 0)] w1 := Kept.of hb_w1 (by go_grown) (by go_size) (by omega) (by simp [go_sem] <;> omega)
  clear hb_w1
  have hw_w1 := K_w1.below
  have hz_w1 := K_w1.size
  have lP_w1 : w.heap.size < w1.heap.size := by omega
  have cP0_w1 := K_w1.at (b := w.heap.size) (o := 0) (v := .int .u64 n) (by simp)
  have fP0_w1 := K_w1.free (b := w.heap.size) (o := 0) (v := .int .u64 n) (by simp)
  have cP1_w1 := K_w1.at (b := w.heap.size) (o := 1) (v := .int .u64 b) (by simp)
  have fP1_w1 := K_w1.free (b := w.heap.size) (o := 1) (v := .int .u64 b) (by simp)
  have lZ_w1 : w.heap.size + 1 < w1.heap.size := by omega
  have cZ0_w1 := K_w1.at (b := w.heap.size + 1) (o := 0) (v := .int .u64 0) (by simp)
  have fZ0_w1 := K_w1.free (b := w.heap.size + 1) (o := 0) (v := .int .u64 0) (by simp)
  have cZ1_w1 := K_w1.at (b := w.heap.size + 1) (o := 1) (v := .int .u64 0) (by simp)
  have fZ1_w1 := K_w1.free (b := w.heap.size + 1) (o := 1) (v := .int .u64 0) (by simp)
  clear K_w1
  go_wp2_with fail
  exact bodyPost_ret (v := .tuple #[.agg #[.int .u64 n, .int .u64 b], .int .i64 0]) (by simp [results, Try.results13, go_sem, lP_w1, cP0_w1, fP0_w1, cP1_w1, fP1_w1, lZ_w1, cZ0_w1, fZ0_w1, cZ1_w1, fZ1_w1]) rfl ⟨rfl, by go_grown⟩

set_option maxRecDepth 100000 in
set_option maxHeartbeats 1000000 in
theorem extend14_no (r b n : Int) (w : World) (h : vR r b = false) :
    Calls Try.prog 14 #[.agg #[.int .u64 r, .int .u64 b], .int .u64 n] w fun e w' => e = .returned (.tuple #[.agg #[.int .u64 0, .int .u64 0], .int .i64 2]) ∧ Below w.heap.size w w' := by
  go_enter Try.func14, Try.ntmps14
  go_wp2_with fail
  with_reducible refine (valid9 _ _ _).mono ?_
  rintro e w1 ⟨rfl, hb_w1⟩
  have K_w1 : Kept w.heap.size w (w.heap.size + 2) [(w.heap.size, 0, .int .u64 r), (w.heap.size, 1, .int .u64 b), (w.heap.size + 1, 0, .int .u64 0), (w.heap.size + 1, 1, .int .u64 0)] w1 := Kept.of hb_w1 (by go_grown) (by go_size) (by omega) (by simp [go_sem] <;> omega)
  clear hb_w1
  have hw_w1 := K_w1.below
  have hz_w1 := K_w1.size
  have lP_w1 : w.heap.size < w1.heap.size := by omega
  have cP0_w1 := K_w1.at (b := w.heap.size) (o := 0) (v := .int .u64 r) (by simp)
  have fP0_w1 := K_w1.free (b := w.heap.size) (o := 0) (v := .int .u64 r) (by simp)
  have cP1_w1 := K_w1.at (b := w.heap.size) (o := 1) (v := .int .u64 b) (by simp)
  have fP1_w1 := K_w1.free (b := w.heap.size) (o := 1) (v := .int .u64 b) (by simp)
  have lZ_w1 : w.heap.size + 1 < w1.heap.size := by omega
  have cZ0_w1 := K_w1.at (b := w.heap.size + 1) (o := 0) (v := .int .u64 0) (by simp)
  have fZ0_w1 := K_w1.free (b := w.heap.size + 1) (o := 0) (v := .int .u64 0) (by simp)
  have cZ1_w1 := K_w1.at (b := w.heap.size + 1) (o := 1) (v := .int .u64 0) (by simp)
  have fZ1_w1 := K_w1.free (b := w.heap.size + 1) (o := 1) (v := .int .u64 0) (by simp)
  clear K_w1
  go_wp2_with fail
  exact bodyPost_ret (v := .tuple #[.agg #[.int .u64 0, .int .u64 0], .int .i64 2]) (by simp [results, Try.results14, go_sem, lP_w1, cP0_w1, fP0_w1, cP1_w1, fP1_w1, lZ_w1, cZ0_w1, fZ0_w1, cZ1_w1, fZ1_w1]) rfl ⟨rfl, by go_grown⟩

set_option maxRecDepth 100000 in
set_option maxHeartbeats 1000000 in
theorem extend14 (r b n : Int) (w : World) (hbu : U b) (hn : U n) (hv : vR r b = true) :
    Calls Try.prog 14 #[.agg #[.int .u64 r, .int .u64 b], .int .u64 n] w fun e w' => e = .returned (.tuple #[.agg #[.int .u64 r, .int .u64 (more b n)], .int .i64 0]) ∧ Below w.heap.size w w' := by
  have ⟨v1, v2⟩ := vR_true hv
  have ⟨b0, b1⟩ := id hbu
  have ⟨n0, n1⟩ := id hn
  by_cases h : 1099511627776 - b < n
  · have e1 : Hid (more b n = 1099511627776) := Lib.hid (by unfold more; rw [if_pos h])
    by_cases h' : 18446744073709551615 - b < n
    · have e2 : Hid (addN b n = 18446744073709551615) := Lib.hid (by unfold addN; rw [if_pos h'])
      go_enter Try.func14, Try.ntmps14
      go_wp2_with fail
      with_reducible refine (valid9 _ _ _).mono ?_
      rintro e w1 ⟨rfl, hb_w1⟩
      have K_w1 : Kept w.heap.size w (w.heap.size + 2) [(w.heap.size, 0, .int .u64 r), (w.heap.size, 1, .int .u64 b), (w.heap.size + 1, 0, .int .u64 0), (w.heap.size + 1, 1, .int .u64 0)] w1 := Kept.of hb_w1 (by go_grown) (by go_size) (by omega) (by simp [go_sem] <;> omega)
      clear hb_w1
      have hw_w1 := K_w1.below
      have hz_w1 := K_w1.size
      have lP_w1 : w.heap.size < w1.heap.size := by omega
      have cP0_w1 := K_w1.at (b := w.heap.size) (o := 0) (v := .int .u64 r) (by simp)
      have fP0_w1 := K_w1.free (b := w.heap.size) (o := 0) (v := .int .u64 r) (by simp)
      have cP1_w1 := K_w1.at (b := w.heap.size) (o := 1) (v := .int .u64 b) (by simp)
      have fP1_w1 := K_w1.free (b := w.heap.size) (o := 1) (v := .int .u64 b) (by simp)
      have lZ_w1 : w.heap.size + 1 < w1.heap.size := by omega
      have cZ0_w1 := K_w1.at (b := w.heap.size + 1) (o := 0) (v := .int .u64 0) (by simp)
      have fZ0_w1 := K_w1.free (b := w.heap.size + 1) (o := 0) (v := .int .u64 0) (by simp)
      have cZ1_w1 := K_w1.at (b := w.heap.size + 1) (o := 1) (v := .int .u64 0) (by simp)
      have fZ1_w1 := K_w1.free (b := w.heap.size + 1) (o := 1) (v := .int .u64 0) (by simp)
      clear K_w1
      go_wp2_with fail
      with_reducible refine (add24 _ _ _ hbu hn).mono ?_
      rintro e w' ⟨rfl, rfl⟩
      rw [e2.out]
      go_wp2_with fail
      go_wp2_with fail
      exact bodyPost_ret (v := .tuple #[.agg #[.int .u64 r, .int .u64 1099511627776], .int .i64 0]) (by simp [results, Try.results14, go_sem, lP_w1, cP0_w1, fP0_w1, cP1_w1, fP1_w1, lZ_w1, cZ0_w1, fZ0_w1, cZ1_w1, fZ1_w1]) rfl ⟨by rw [e1.out], by go_grown⟩
    · have e2 : Hid (addN b n = b + n) := Lib.hid (by unfold addN; rw [if_neg h'])
      go_enter Try.func14, Try.ntmps14
      go_wp2_with fail
      with_reducible refine (valid9 _ _ _).mono ?_
      rintro e w1 ⟨rfl, hb_w1⟩
      have K_w1 : Kept w.heap.size w (w.heap.size + 2) [(w.heap.size, 0, .int .u64 r), (w.heap.size, 1, .int .u64 b), (w.heap.size + 1, 0, .int .u64 0), (w.heap.size + 1, 1, .int .u64 0)] w1 := Kept.of hb_w1 (by go_grown) (by go_size) (by omega) (by simp [go_sem] <;> omega)
      clear hb_w1
      have hw_w1 := K_w1.below
      have hz_w1 := K_w1.size
      have lP_w1 : w.heap.size < w1.heap.size := by omega
      have cP0_w1 := K_w1.at (b := w.heap.size) (o := 0) (v := .int .u64 r) (by simp)
      have fP0_w1 := K_w1.free (b := w.heap.size) (o := 0) (v := .int .u64 r) (by simp)
      have cP1_w1 := K_w1.at (b := w.heap.size) (o := 1) (v := .int .u64 b) (by simp)
      have fP1_w1 := K_w1.free (b := w.heap.size) (o := 1) (v := .int .u64 b) (by simp)
      have lZ_w1 : w.heap.size + 1 < w1.heap.size := by omega
      have cZ0_w1 := K_w1.at (b := w.heap.size + 1) (o := 0) (v := .int .u64 0) (by simp)
      have fZ0_w1 := K_w1.free (b := w.heap.size + 1) (o := 0) (v := .int .u64 0) (by simp)
      have cZ1_w1 := K_w1.at (b := w.heap.size + 1) (o := 1) (v := .int .u64 0) (by simp)
      have fZ1_w1 := K_w1.free (b := w.heap.size + 1) (o := 1) (v := .int .u64 0) (by simp)
      clear K_w1
      go_wp2_with fail
      with_reducible refine (add24 _ _ _ hbu hn).mono ?_
      rintro e w' ⟨rfl, rfl⟩
      rw [e2.out]
      go_wp2_with fail
      go_wp2_with fail
      exact bodyPost_ret (v := .tuple #[.agg #[.int .u64 r, .int .u64 1099511627776], .int .i64 0]) (by simp [results, Try.results14, go_sem, lP_w1, cP0_w1, fP0_w1, cP1_w1, fP1_w1, lZ_w1, cZ0_w1, fZ0_w1, cZ1_w1, fZ1_w1]) rfl ⟨by rw [e1.out], by go_grown⟩
  · have e1 : Hid (more b n = b + n) := Lib.hid (by unfold more; rw [if_neg h])
    have e2 : Hid (addN b n = b + n) := Lib.hid (by unfold addN; rw [if_neg (by omega)])
    go_enter Try.func14, Try.ntmps14
    go_wp2_with fail
    with_reducible refine (valid9 _ _ _).mono ?_
    rintro e w1 ⟨rfl, hb_w1⟩
    have K_w1 : Kept w.heap.size w (w.heap.size + 2) [(w.heap.size, 0, .int .u64 r), (w.heap.size, 1, .int .u64 b), (w.heap.size + 1, 0, .int .u64 0), (w.heap.size + 1, 1, .int .u64 0)] w1 := Kept.of hb_w1 (by go_grown) (by go_size) (by omega) (by simp [go_sem] <;> omega)
    clear hb_w1
    have hw_w1 := K_w1.below
    have hz_w1 := K_w1.size
    have lP_w1 : w.heap.size < w1.heap.size := by omega
    have cP0_w1 := K_w1.at (b := w.heap.size) (o := 0) (v := .int .u64 r) (by simp)
    have fP0_w1 := K_w1.free (b := w.heap.size) (o := 0) (v := .int .u64 r) (by simp)
    have cP1_w1 := K_w1.at (b := w.heap.size) (o := 1) (v := .int .u64 b) (by simp)
    have fP1_w1 := K_w1.free (b := w.heap.size) (o := 1) (v := .int .u64 b) (by simp)
    have lZ_w1 : w.heap.size + 1 < w1.heap.size := by omega
    have cZ0_w1 := K_w1.at (b := w.heap.size + 1) (o := 0) (v := .int .u64 0) (by simp)
    have fZ0_w1 := K_w1.free (b := w.heap.size + 1) (o := 0) (v := .int .u64 0) (by simp)
    have cZ1_w1 := K_w1.at (b := w.heap.size + 1) (o := 1) (v := .int .u64 0) (by simp)
    have fZ1_w1 := K_w1.free (b := w.heap.size + 1) (o := 1) (v := .int .u64 0) (by simp)
    clear K_w1
    go_wp2_with fail
    with_reducible refine (add24 _ _ _ hbu hn).mono ?_
    rintro e w' ⟨rfl, rfl⟩
    rw [e2.out]
    go_wp2_with fail
    go_wp2_with fail
    exact bodyPost_ret (v := .tuple #[.agg #[.int .u64 r, .int .u64 (b + n)], .int .i64 0]) (by simp [results, Try.results14, go_sem, lP_w1, cP0_w1, fP0_w1, cP1_w1, fP1_w1, lZ_w1, cZ0_w1, fZ0_w1, cZ1_w1, fZ1_w1]) rfl ⟨by rw [e1.out], by go_grown⟩

set_option maxRecDepth 100000 in
set_option maxHeartbeats 1000000 in
theorem until21_no (r b : Int) (w : World) (h : vR r b = false) :
    Calls Try.prog 21 #[.agg #[.int .u64 r, .int .u64 b]] w fun e w' => e = .returned (.tuple #[.int .u64 0, .int .i64 2]) ∧ Below w.heap.size w w' := by
  go_enter Try.func21, Try.ntmps21
  go_wp2_with fail
  with_reducible refine (valid9 _ _ _).mono ?_
  rintro e w1 ⟨rfl, hb_w1⟩
  have K_w1 : Kept w.heap.size w (w.heap.size + 1) [(w.heap.size, 0, .int .u64 r), (w.heap.size, 1, .int .u64 b)] w1 := Kept.of hb_w1 (by go_grown) (by go_size) (by omega) (by simp [go_sem] <;> omega)
  clear hb_w1
  have hw_w1 := K_w1.below
  have hz_w1 := K_w1.size
  have lP_w1 : w.heap.size < w1.heap.size := by omega
  have cP0_w1 := K_w1.at (b := w.heap.size) (o := 0) (v := .int .u64 r) (by simp)
  have fP0_w1 := K_w1.free (b := w.heap.size) (o := 0) (v := .int .u64 r) (by simp)
  have cP1_w1 := K_w1.at (b := w.heap.size) (o := 1) (v := .int .u64 b) (by simp)
  have fP1_w1 := K_w1.free (b := w.heap.size) (o := 1) (v := .int .u64 b) (by simp)
  clear K_w1
  go_wp2_with fail
  go_returns
  exact ⟨rfl, by go_grown⟩

set_option maxRecDepth 100000 in
set_option maxHeartbeats 1000000 in
theorem until21 (r b : Int) (w : World) (hr : U r) (hbu : U b) (h : vR r b = true) :
    Calls Try.prog 21 #[.agg #[.int .u64 r, .int .u64 b]] w fun e w' => e = .returned (.tuple #[.int .u64 (r + b), .int .i64 0]) ∧ Below w.heap.size w w' := by
  have ⟨v1, v2⟩ := vR_true h
  go_enter Try.func21, Try.ntmps21
  go_wp2_with fail
  with_reducible refine (valid9 _ _ _).mono ?_
  rintro e w1 ⟨rfl, hb_w1⟩
  have K_w1 : Kept w.heap.size w (w.heap.size + 1) [(w.heap.size, 0, .int .u64 r), (w.heap.size, 1, .int .u64 b)] w1 := Kept.of hb_w1 (by go_grown) (by go_size) (by omega) (by simp [go_sem] <;> omega)
  clear hb_w1
  have hw_w1 := K_w1.below
  have hz_w1 := K_w1.size
  have lP_w1 : w.heap.size < w1.heap.size := by omega
  have cP0_w1 := K_w1.at (b := w.heap.size) (o := 0) (v := .int .u64 r) (by simp)
  have fP0_w1 := K_w1.free (b := w.heap.size) (o := 0) (v := .int .u64 r) (by simp)
  have cP1_w1 := K_w1.at (b := w.heap.size) (o := 1) (v := .int .u64 b) (by simp)
  have fP1_w1 := K_w1.free (b := w.heap.size) (o := 1) (v := .int .u64 b) (by simp)
  clear K_w1
  go_wp2_with fail
  with_reducible refine (add24 _ _ _ hr hbu).mono ?_
  rintro e w' ⟨rfl, rfl⟩
  go_wp2_with fail
  go_returns
  exact ⟨ret_two (by unfold addN; rw [if_neg (by omega)]) rfl, by go_grown⟩

set_option maxRecDepth 100000 in
set_option maxHeartbeats 1000000 in
theorem gives17 (r b e0 r' b' e1 : Int) (w : World) (h1 : r = r') (h2 : b = b') (h3 : e0 = e1) :
    Calls Try.prog 17 #[.agg #[.int .u64 r, .int .u64 b], .int .i64 e0, .agg #[.int .u64 r', .int .u64 b'], .int .i64 e1] w fun e w' => e = .returned (.bool true) ∧ Below w.heap.size w w' := by
  subst h1 h2 h3
  go_enter Try.func17, Try.ntmps17
  go_wp2_with fail
  go_returns
  exact ⟨rfl, by go_grown⟩

set_option maxRecDepth 100000 in
set_option maxHeartbeats 1000000 in
theorem charges11 (r b n x y m no : Int) (w : World) (hr : U r) (hb : U b) (hn : U n) (h : vR r b = true) (hx : sub0 r n = x) (hy : sub0 b (sub0 n r) = y) (hm : sub0 (sub0 n r) b = m) (h0 : no = 0) :
    Calls Try.prog 11 #[.agg #[.int .u64 r, .int .u64 b], .int .u64 n, .agg #[.int .u64 x, .int .u64 y], .int .u64 m, .int .i64 no] w fun e w' => e = .returned (.bool true) ∧ Below w.heap.size w w' := by
  subst hx hy hm h0
  go_enter Try.func11, Try.ntmps11
  go_wp2_with fail
  with_reducible refine (charge20 _ _ _ _ hr hb hn h).mono ?_
  rintro e w1 ⟨rfl, hb_w1⟩
  have K_w1 : Kept w.heap.size w (w.heap.size + 2) [(w.heap.size, 0, .int .u64 r), (w.heap.size, 1, .int .u64 b), (w.heap.size + 1, 0, .int .u64 (sub0 r n)), (w.heap.size + 1, 1, .int .u64 (sub0 b (sub0 n r)))] w1 := Kept.of hb_w1 (by go_grown) (by go_size) (by omega) (by simp [go_sem] <;> omega)
  clear hb_w1
  have hw_w1 := K_w1.below
  have hz_w1 := K_w1.size
  have lP_w1 : w.heap.size < w1.heap.size := by omega
  have cP0_w1 := K_w1.at (b := w.heap.size) (o := 0) (v := .int .u64 r) (by simp)
  have fP0_w1 := K_w1.free (b := w.heap.size) (o := 0) (v := .int .u64 r) (by simp)
  have cP1_w1 := K_w1.at (b := w.heap.size) (o := 1) (v := .int .u64 b) (by simp)
  have fP1_w1 := K_w1.free (b := w.heap.size) (o := 1) (v := .int .u64 b) (by simp)
  have lQ_w1 : w.heap.size + 1 < w1.heap.size := by omega
  have cQ0_w1 := K_w1.at (b := w.heap.size + 1) (o := 0) (v := .int .u64 (sub0 r n)) (by simp)
  have fQ0_w1 := K_w1.free (b := w.heap.size + 1) (o := 0) (v := .int .u64 (sub0 r n)) (by simp)
  have cQ1_w1 := K_w1.at (b := w.heap.size + 1) (o := 1) (v := .int .u64 (sub0 b (sub0 n r))) (by simp)
  have fQ1_w1 := K_w1.free (b := w.heap.size + 1) (o := 1) (v := .int .u64 (sub0 b (sub0 n r))) (by simp)
  clear K_w1
  go_wp2_with fail
  go_returns
  exact ⟨rfl, by go_grown⟩

set_option maxRecDepth 100000 in
set_option maxHeartbeats 1000000 in
theorem charges11_no (r b n : Int) (w : World) (h : vR r b = false) :
    Calls Try.prog 11 #[.agg #[.int .u64 r, .int .u64 b], .int .u64 n, .agg #[.int .u64 0, .int .u64 0], .int .u64 0, .int .i64 2] w fun e w' => e = .returned (.bool true) ∧ Below w.heap.size w w' := by
  go_enter Try.func11, Try.ntmps11
  go_wp2_with fail
  with_reducible refine (charge20_no _ _ _ _ h).mono ?_
  rintro e w1 ⟨rfl, hb_w1⟩
  have K_w1 : Kept w.heap.size w (w.heap.size + 2) [(w.heap.size, 0, .int .u64 r), (w.heap.size, 1, .int .u64 b), (w.heap.size + 1, 0, .int .u64 0), (w.heap.size + 1, 1, .int .u64 0)] w1 := Kept.of hb_w1 (by go_grown) (by go_size) (by omega) (by simp [go_sem] <;> omega)
  clear hb_w1
  have hw_w1 := K_w1.below
  have hz_w1 := K_w1.size
  have lP_w1 : w.heap.size < w1.heap.size := by omega
  have cP0_w1 := K_w1.at (b := w.heap.size) (o := 0) (v := .int .u64 r) (by simp)
  have fP0_w1 := K_w1.free (b := w.heap.size) (o := 0) (v := .int .u64 r) (by simp)
  have cP1_w1 := K_w1.at (b := w.heap.size) (o := 1) (v := .int .u64 b) (by simp)
  have fP1_w1 := K_w1.free (b := w.heap.size) (o := 1) (v := .int .u64 b) (by simp)
  have lZ_w1 : w.heap.size + 1 < w1.heap.size := by omega
  have cZ0_w1 := K_w1.at (b := w.heap.size + 1) (o := 0) (v := .int .u64 0) (by simp)
  have fZ0_w1 := K_w1.free (b := w.heap.size + 1) (o := 0) (v := .int .u64 0) (by simp)
  have cZ1_w1 := K_w1.at (b := w.heap.size + 1) (o := 1) (v := .int .u64 0) (by simp)
  have fZ1_w1 := K_w1.free (b := w.heap.size + 1) (o := 1) (v := .int .u64 0) (by simp)
  clear K_w1
  go_wp2_with fail
  go_returns
  exact ⟨rfl, by go_grown⟩

set_option maxRecDepth 100000 in
set_option maxHeartbeats 1000000 in
theorem until19 (r b m no : Int) (w : World) (hr : U r) (hb : U b) (h : vR r b = true) (hm : r + b = m) (h0 : no = 0) :
    Calls Try.prog 19 #[.agg #[.int .u64 r, .int .u64 b], .int .u64 m, .int .i64 no] w fun e w' => e = .returned (.bool true) ∧ Below w.heap.size w w' := by
  subst hm h0
  go_enter Try.func19, Try.ntmps19
  go_wp2_with fail
  with_reducible refine (until21 _ _ _ hr hb h).mono ?_
  rintro e w1 ⟨rfl, hb_w1⟩
  have K_w1 : Kept w.heap.size w (w.heap.size + 1) [(w.heap.size, 0, .int .u64 r), (w.heap.size, 1, .int .u64 b)] w1 := Kept.of hb_w1 (by go_grown) (by go_size) (by omega) (by simp [go_sem] <;> omega)
  clear hb_w1
  have hw_w1 := K_w1.below
  have hz_w1 := K_w1.size
  have lP_w1 : w.heap.size < w1.heap.size := by omega
  have cP0_w1 := K_w1.at (b := w.heap.size) (o := 0) (v := .int .u64 r) (by simp)
  have fP0_w1 := K_w1.free (b := w.heap.size) (o := 0) (v := .int .u64 r) (by simp)
  have cP1_w1 := K_w1.at (b := w.heap.size) (o := 1) (v := .int .u64 b) (by simp)
  have fP1_w1 := K_w1.free (b := w.heap.size) (o := 1) (v := .int .u64 b) (by simp)
  clear K_w1
  go_wp2_with fail
  go_returns
  exact ⟨rfl, by go_grown⟩

set_option maxRecDepth 100000 in
set_option maxHeartbeats 1000000 in
theorem until19_no (r b : Int) (w : World) (h : vR r b = false) :
    Calls Try.prog 19 #[.agg #[.int .u64 r, .int .u64 b], .int .u64 0, .int .i64 2] w fun e w' => e = .returned (.bool true) ∧ Below w.heap.size w w' := by
  go_enter Try.func19, Try.ntmps19
  go_wp2_with fail
  with_reducible refine (until21_no _ _ _ h).mono ?_
  rintro e w1 ⟨rfl, hb_w1⟩
  have K_w1 : Kept w.heap.size w (w.heap.size + 1) [(w.heap.size, 0, .int .u64 r), (w.heap.size, 1, .int .u64 b)] w1 := Kept.of hb_w1 (by go_grown) (by go_size) (by omega) (by simp [go_sem] <;> omega)
  clear hb_w1
  have hw_w1 := K_w1.below
  have hz_w1 := K_w1.size
  have lP_w1 : w.heap.size < w1.heap.size := by omega
  have cP0_w1 := K_w1.at (b := w.heap.size) (o := 0) (v := .int .u64 r) (by simp)
  have fP0_w1 := K_w1.free (b := w.heap.size) (o := 0) (v := .int .u64 r) (by simp)
  have cP1_w1 := K_w1.at (b := w.heap.size) (o := 1) (v := .int .u64 b) (by simp)
  have fP1_w1 := K_w1.free (b := w.heap.size) (o := 1) (v := .int .u64 b) (by simp)
  clear K_w1
  go_wp2_with fail
  go_returns
  exact ⟨rfl, by go_grown⟩

theorem extend14c (r b n m : Int) (w : World) (hbu : U b) (hn : U n) (hv : vR r b = true) (hm : more b n = m) :
    Calls Try.prog 14 #[.agg #[.int .u64 r, .int .u64 b], .int .u64 n] w fun e w' => e = .returned (.tuple #[.agg #[.int .u64 r, .int .u64 m], .int .i64 0]) ∧ Below w.heap.size w w' := by
  subst hm
  exact extend14 r b n w hbu hn hv

end Go.Proofs.Ytkjakcoejnhojaa
