/- RopeTurns: the other cases. -/
import Derived.Test.YtkjakcoejnhojaaTurnsW
namespace Go.Proofs.Ytkjakcoejnhojaa
open Go.RowKit Plain
set_option linter.unusedVariables false
set_option linter.unusedSimpArgs false

set_option maxRecDepth 100000 in
set_option maxHeartbeats 1000000 in
theorem turns_no (r0 b0 : Int) (a : Option Addr) (len cap : Nat) (w : World) (h : vR r0 b0 = false ∨ 40 < len) (hl : len ≤ 9223372036854775807) :
    Calls Try.prog 6 #[.agg #[.int .u64 r0, .int .u64 b0], .slice a len cap] w fun e w' => e = .returned (.bool true) ∧ Below w.heap.size w w' := by
  cases hv : vR r0 b0
  · clear h
    go_enter Try.func6, Try.ntmps6
    go_wp2_with fail
    with_reducible refine (valid10 _ _ _).mono ?_
    rintro e w1 ⟨rfl, hb_w1⟩
    have K_w1 : Kept w.heap.size w (w.heap.size + 1) [(w.heap.size, 0, .int .u64 r0), (w.heap.size, 1, .int .u64 b0)] w1 := Kept.of hb_w1 (by go_grown) (by go_size) (by omega) (by simp [go_sem] <;> omega)
    clear hb_w1
    have hw_w1 := K_w1.below
    have hz_w1 := K_w1.size
    have lP_w1 : w.heap.size < w1.heap.size := by omega
    have cP0_w1 := K_w1.at (b := w.heap.size) (o := 0) (v := .int .u64 r0) (by simp)
    have fP0_w1 := K_w1.free (b := w.heap.size) (o := 0) (v := .int .u64 r0) (by simp)
    have cP1_w1 := K_w1.at (b := w.heap.size) (o := 1) (v := .int .u64 b0) (by simp)
    have fP1_w1 := K_w1.free (b := w.heap.size) (o := 1) (v := .int .u64 b0) (by simp)
    clear K_w1
    go_wp2_with fail
    with_reducible refine (known12 _).mono ?_
    rintro e w2 ⟨rfl, hb_w2⟩
    have K_w2 : Kept w.heap.size w (w.heap.size + 1) [(w.heap.size, 0, .int .u64 r0), (w.heap.size, 1, .int .u64 b0)] w2 := Kept.of hb_w2 (by go_grown) (by go_size) (by omega) (by simp [go_sem, lP_w1, cP0_w1, fP0_w1, cP1_w1, fP1_w1] <;> omega)
    clear hb_w2
    have hw_w2 := K_w2.below
    have hz_w2 := K_w2.size
    have lP_w2 : w.heap.size < w2.heap.size := by omega
    have cP0_w2 := K_w2.at (b := w.heap.size) (o := 0) (v := .int .u64 r0) (by simp)
    have fP0_w2 := K_w2.free (b := w.heap.size) (o := 0) (v := .int .u64 r0) (by simp)
    have cP1_w2 := K_w2.at (b := w.heap.size) (o := 1) (v := .int .u64 b0) (by simp)
    have fP1_w2 := K_w2.free (b := w.heap.size) (o := 1) (v := .int .u64 b0) (by simp)
    clear lP_w1 cP0_w1 fP0_w1 cP1_w1 fP1_w1
    clear K_w2
    go_wp2_with fail
    go_returns
    exact ⟨rfl, by go_grown⟩
  · replace h : 40 < len := by simpa [hv] using h
    have d40 : decide (40 < (len : Int)) = true := by simp; omega
    go_enter Try.func6, Try.ntmps6
    go_wp2_with fail
    with_reducible refine (valid10 _ _ _).mono ?_
    rintro e w1 ⟨rfl, hb_w1⟩
    have K_w1 : Kept w.heap.size w (w.heap.size + 1) [(w.heap.size, 0, .int .u64 r0), (w.heap.size, 1, .int .u64 b0)] w1 := Kept.of hb_w1 (by go_grown) (by go_size) (by omega) (by simp [go_sem] <;> omega)
    clear hb_w1
    have hw_w1 := K_w1.below
    have hz_w1 := K_w1.size
    have lP_w1 : w.heap.size < w1.heap.size := by omega
    have cP0_w1 := K_w1.at (b := w.heap.size) (o := 0) (v := .int .u64 r0) (by simp)
    have fP0_w1 := K_w1.free (b := w.heap.size) (o := 0) (v := .int .u64 r0) (by simp)
    have cP1_w1 := K_w1.at (b := w.heap.size) (o := 1) (v := .int .u64 b0) (by simp)
    have fP1_w1 := K_w1.free (b := w.heap.size) (o := 1) (v := .int .u64 b0) (by simp)
    clear K_w1
    go_wp2_with fail
    with_reducible refine (known12 _).mono ?_
    rintro e w2 ⟨rfl, hb_w2⟩
    have K_w2 : Kept w.heap.size w (w.heap.size + 1) [(w.heap.size, 0, .int .u64 r0), (w.heap.size, 1, .int .u64 b0)] w2 := Kept.of hb_w2 (by go_grown) (by go_size) (by omega) (by simp [go_sem, lP_w1, cP0_w1, fP0_w1, cP1_w1, fP1_w1] <;> omega)
    clear hb_w2
    have hw_w2 := K_w2.below
    have hz_w2 := K_w2.size
    have lP_w2 : w.heap.size < w2.heap.size := by omega
    have cP0_w2 := K_w2.at (b := w.heap.size) (o := 0) (v := .int .u64 r0) (by simp)
    have fP0_w2 := K_w2.free (b := w.heap.size) (o := 0) (v := .int .u64 r0) (by simp)
    have cP1_w2 := K_w2.at (b := w.heap.size) (o := 1) (v := .int .u64 b0) (by simp)
    have fP1_w2 := K_w2.free (b := w.heap.size) (o := 1) (v := .int .u64 b0) (by simp)
    clear lP_w1 cP0_w1 fP0_w1 cP1_w1 fP1_w1
    clear K_w2
    go_wp2_with fail
    go_returns
    exact ⟨rfl, by go_grown⟩

set_option maxRecDepth 100000 in
set_option maxHeartbeats 1000000 in
theorem turns_nil (r0 b0 : Int) (v : Value) (w : World) (h : vR r0 b0 = true) (hv : v = .slice none 0 0 ∨ ∃ a cap, v = .slice (some a) 0 cap) :
    Calls Try.prog 6 #[.agg #[.int .u64 r0, .int .u64 b0], v] w fun e w' => e = .returned (.bool true) ∧ Below w.heap.size w w' := by
  rcases hv with rfl | ⟨a, cap, rfl⟩
  ·
    go_enter Try.func6, Try.ntmps6
    go_wp2_with fail
    with_reducible refine (valid10 _ _ _).mono ?_
    rintro e w1 ⟨rfl, hb_w1⟩
    have K_w1 : Kept w.heap.size w (w.heap.size + 1) [(w.heap.size, 0, .int .u64 r0), (w.heap.size, 1, .int .u64 b0)] w1 := Kept.of hb_w1 (by go_grown) (by go_size) (by omega) (by simp [go_sem] <;> omega)
    clear hb_w1
    have hw_w1 := K_w1.below
    have hz_w1 := K_w1.size
    have lP_w1 : w.heap.size < w1.heap.size := by omega
    have cP0_w1 := K_w1.at (b := w.heap.size) (o := 0) (v := .int .u64 r0) (by simp)
    have fP0_w1 := K_w1.free (b := w.heap.size) (o := 0) (v := .int .u64 r0) (by simp)
    have cP1_w1 := K_w1.at (b := w.heap.size) (o := 1) (v := .int .u64 b0) (by simp)
    have fP1_w1 := K_w1.free (b := w.heap.size) (o := 1) (v := .int .u64 b0) (by simp)
    clear K_w1
    go_wp2_with fail
    refine wp_loop_rounds 1 ?_
    rw [rounds_succ]
    go_wp2_with fail
    with_reducible refine (known12 _).mono ?_
    rintro e w2 ⟨rfl, hb_w2⟩
    have K_w2 : Kept w.heap.size w (w1.heap.size + 1) [(w.heap.size, 0, .int .u64 r0), (w.heap.size, 1, .int .u64 b0), (w1.heap.size, 0, .int .u64 r0), (w1.heap.size, 1, .int .u64 b0)] w2 := Kept.of hb_w2 (by go_grown) (by go_size) (by omega) (by simp [go_sem, lP_w1, cP0_w1, fP0_w1, cP1_w1, fP1_w1] <;> omega)
    clear hb_w2
    have hw_w2 := K_w2.below
    have hz_w2 := K_w2.size
    have lP_w2 : w.heap.size < w2.heap.size := by omega
    have cP0_w2 := K_w2.at (b := w.heap.size) (o := 0) (v := .int .u64 r0) (by simp)
    have fP0_w2 := K_w2.free (b := w.heap.size) (o := 0) (v := .int .u64 r0) (by simp)
    have cP1_w2 := K_w2.at (b := w.heap.size) (o := 1) (v := .int .u64 b0) (by simp)
    have fP1_w2 := K_w2.free (b := w.heap.size) (o := 1) (v := .int .u64 b0) (by simp)
    have lW_w2 : w1.heap.size < w2.heap.size := by omega
    have cW0_w2 := K_w2.at (b := w1.heap.size) (o := 0) (v := .int .u64 r0) (by simp)
    have fW0_w2 := K_w2.free (b := w1.heap.size) (o := 0) (v := .int .u64 r0) (by simp)
    have cW1_w2 := K_w2.at (b := w1.heap.size) (o := 1) (v := .int .u64 b0) (by simp)
    have fW1_w2 := K_w2.free (b := w1.heap.size) (o := 1) (v := .int .u64 b0) (by simp)
    clear lP_w1 cP0_w1 fP0_w1 cP1_w1 fP1_w1
    clear K_w2
    go_wp2_with fail
    go_returns
    exact ⟨rfl, by go_grown⟩
  ·
    go_enter Try.func6, Try.ntmps6
    go_wp2_with fail
    with_reducible refine (valid10 _ _ _).mono ?_
    rintro e w1 ⟨rfl, hb_w1⟩
    have K_w1 : Kept w.heap.size w (w.heap.size + 1) [(w.heap.size, 0, .int .u64 r0), (w.heap.size, 1, .int .u64 b0)] w1 := Kept.of hb_w1 (by go_grown) (by go_size) (by omega) (by simp [go_sem] <;> omega)
    clear hb_w1
    have hw_w1 := K_w1.below
    have hz_w1 := K_w1.size
    have lP_w1 : w.heap.size < w1.heap.size := by omega
    have cP0_w1 := K_w1.at (b := w.heap.size) (o := 0) (v := .int .u64 r0) (by simp)
    have fP0_w1 := K_w1.free (b := w.heap.size) (o := 0) (v := .int .u64 r0) (by simp)
    have cP1_w1 := K_w1.at (b := w.heap.size) (o := 1) (v := .int .u64 b0) (by simp)
    have fP1_w1 := K_w1.free (b := w.heap.size) (o := 1) (v := .int .u64 b0) (by simp)
    clear K_w1
    go_wp2_with fail
    refine wp_loop_rounds 1 ?_
    rw [rounds_succ]
    go_wp2_with fail
    with_reducible refine (known12 _).mono ?_
    rintro e w2 ⟨rfl, hb_w2⟩
    have K_w2 : Kept w.heap.size w (w1.heap.size + 1) [(w.heap.size, 0, .int .u64 r0), (w.heap.size, 1, .int .u64 b0), (w1.heap.size, 0, .int .u64 r0), (w1.heap.size, 1, .int .u64 b0)] w2 := Kept.of hb_w2 (by go_grown) (by go_size) (by omega) (by simp [go_sem, lP_w1, cP0_w1, fP0_w1, cP1_w1, fP1_w1] <;> omega)
    clear hb_w2
    have hw_w2 := K_w2.below
    have hz_w2 := K_w2.size
    have lP_w2 : w.heap.size < w2.heap.size := by omega
    have cP0_w2 := K_w2.at (b := w.heap.size) (o := 0) (v := .int .u64 r0) (by simp)
    have fP0_w2 := K_w2.free (b := w.heap.size) (o := 0) (v := .int .u64 r0) (by simp)
    have cP1_w2 := K_w2.at (b := w.heap.size) (o := 1) (v := .int .u64 b0) (by simp)
    have fP1_w2 := K_w2.free (b := w.heap.size) (o := 1) (v := .int .u64 b0) (by simp)
    have lW_w2 : w1.heap.size < w2.heap.size := by omega
    have cW0_w2 := K_w2.at (b := w1.heap.size) (o := 0) (v := .int .u64 r0) (by simp)
    have fW0_w2 := K_w2.free (b := w1.heap.size) (o := 0) (v := .int .u64 r0) (by simp)
    have cW1_w2 := K_w2.at (b := w1.heap.size) (o := 1) (v := .int .u64 b0) (by simp)
    have fW1_w2 := K_w2.free (b := w1.heap.size) (o := 1) (v := .int .u64 b0) (by simp)
    clear lP_w1 cP0_w1 fP0_w1 cP1_w1 fP1_w1
    clear K_w2
    go_wp2_with fail
    go_returns
    exact ⟨rfl, by go_grown⟩

end Go.Proofs.Ytkjakcoejnhojaa
