/- The walks of package rope: charging. -/
import Derived.Test.YtkjakcoejnhojaaWk
namespace Go.Proofs.Ytkjakcoejnhojaa
open Go.RowKit Plain
set_option linter.unusedVariables false

set_option maxHeartbeats 1000000 in
theorem charge20_no (r b n : Int) (w : World) (h : vR r b = false) :
    Calls Try.prog 20 #[.agg #[.int .u64 r, .int .u64 b], .int .u64 n] w fun e w' => e = .returned (.tuple #[.agg #[.int .u64 0, .int .u64 0], .int .u64 0, .int .i64 2]) ∧ Below w.heap.size w w' := by
  go_enter Try.func20, Try.ntmps20
  go_wp2_with fail
  with_reducible refine (valid9 _ _ _).mono ?_
  rintro e w1 ⟨rfl, hb⟩
  have hw1 : Below w.heap.size w w1 := below_via (by go_grown) hb
  have hz := hb.size
  simp only [World.size_alloc] at hz
  have d0 := live hb (b := w.heap.size + 1) (o := 0) (v := .int .u64 0) (by simp) (by simp [go_sem])
  have d1 := live hb (b := w.heap.size + 1) (o := 1) (v := .int .u64 0) (by simp) (by simp [go_sem])
  have e0 := liveF hb (b := w.heap.size + 1) (o := 0) (by simp) (by simp [go_sem])
  have e1 := liveF hb (b := w.heap.size + 1) (o := 1) (by simp) (by simp [go_sem])
  go_wp2_with fail
  exact bodyPost_ret (v := .tuple #[.agg #[.int .u64 0, .int .u64 0], .int .u64 0, .int .i64 2]) (by simp [results, Try.results20, go_sem, d0, d1]) rfl ⟨rfl, by go_grown⟩

theorem idx0 (x y : Value) (w : World) : (Instr.index 54 (.agg #[x, y]) (.int .i64 0)).run Try.prog w = .ok x w := by kernel_rfl
theorem idx1 (x y : Value) (w : World) : (Instr.index 54 (.agg #[x, y]) (.int .i64 1)).run Try.prog w = .ok y w := by kernel_rfl

theorem ret_charge {a a' b b' c c' : Int} (h : a = a') (g : b = b') (i : c = c') : Ending.returned (.tuple #[.agg #[.int .u64 a, .int .u64 b], .int .u64 c, .int .i64 0]) = .returned (.tuple #[.agg #[.int .u64 a', .int .u64 b'], .int .u64 c', .int .i64 0]) := by rw [h, g, i]

set_option maxHeartbeats 1000000 in
theorem charge20 (r b n : Int) (w : World) (hr : U r) (hb : U b) (hn : U n) (h : vR r b = true) :
    Calls Try.prog 20 #[.agg #[.int .u64 r, .int .u64 b], .int .u64 n] w fun e w' => e = .returned (.tuple #[.agg #[.int .u64 (sub0 r n), .int .u64 (sub0 b (sub0 n r))], .int .u64 (sub0 (sub0 n r) b), .int .i64 0]) ∧ Below w.heap.size w w' := by
  have ⟨h1, h2⟩ := vR_true h
  obtain ⟨r0, r1⟩ := hr
  obtain ⟨b0, b1⟩ := hb
  obtain ⟨n0, n1⟩ := hn
  clear h
  have i0 := idx0
  have i1 := idx1
  by_cases c1 : n ≤ r
  · have e1 : Hid (sub0 r n = r - n ∧ sub0 n r = 0 ∧ sub0 b 0 = b ∧ sub0 0 b = 0) := Lib.hid (by unfold sub0; refine ⟨?_, ?_, ?_, ?_⟩ <;> split <;> omega)
    go_enter Try.func20, Try.ntmps20
    go_wp2
    refine wp_loop_rounds 3 ?_
    rw [rounds_succ]
    go_wp2
    rw [rounds_succ]
    go_wp2
    rw [rounds_succ]
    go_wp2
    go_returns
    exact ⟨ret_charge (by have := e1.out; omega) (by have := e1.out; rw [this.2.1]; omega) (by have := e1.out; rw [this.2.1]; omega), by go_grown⟩
  by_cases c2 : n - r ≤ b
  · have e1 : Hid (sub0 r n = 0 ∧ sub0 n r = n - r ∧ sub0 b (n - r) = b - (n - r) ∧ sub0 (n - r) b = 0) := Lib.hid (by unfold sub0; refine ⟨?_, ?_, ?_, ?_⟩ <;> split <;> omega)
    go_enter Try.func20, Try.ntmps20
    go_wp2
    refine wp_loop_rounds 3 ?_
    rw [rounds_succ]
    go_wp2
    rw [rounds_succ]
    go_wp2
    rw [rounds_succ]
    go_wp2
    go_returns
    exact ⟨ret_charge (by have := e1.out; omega) (by have := e1.out; rw [this.2.1]; omega) (by have := e1.out; rw [this.2.1]; omega), by go_grown⟩
  · have e1 : Hid (sub0 r n = 0 ∧ sub0 n r = n - r ∧ sub0 b (n - r) = 0 ∧ sub0 (n - r) b = n - r - b) := Lib.hid (by unfold sub0; refine ⟨?_, ?_, ?_, ?_⟩ <;> split <;> omega)
    go_enter Try.func20, Try.ntmps20
    go_wp2
    refine wp_loop_rounds 3 ?_
    rw [rounds_succ]
    go_wp2
    rw [rounds_succ]
    go_wp2
    rw [rounds_succ]
    go_wp2
    go_returns
    exact ⟨ret_charge (by have := e1.out; omega) (by have := e1.out; rw [this.2.1]; omega) (by have := e1.out; rw [this.2.1]; omega), by go_grown⟩
end Go.Proofs.Ytkjakcoejnhojaa
