/- The reference's changes of a book. -/
import Derived.Test.YtobkgdhniibopaaRef
import Derived.BigRegion
import Derived.RegionTactic
namespace Go.Proofs.Ytobkgdhniibopaa
open Go.RowKit Plain
set_option linter.unusedVariables false
set_option linter.unusedSimpArgs false

set_option maxRecDepth 100000 in
set_option maxHeartbeats 2000000 in
theorem strike32_0 (b : Bk) (w : World) (ok : b.Ok) :
    Calls Try.prog 32 #[.agg #[.int .i64 b.n, .int .u64 b.g, .int .i64 b.s0, .bool b.a0, .bool b.h0, .int .u64 b.t0, .int .i64 b.s1, .bool b.a1, .bool b.h1, .int .u64 b.t1], .int .i64 0] w fun e w' => e = .returned (.tuple #[.agg #[.int .i64 b.strike0.n, .int .u64 b.strike0.g, .int .i64 b.strike0.s0, .bool b.strike0.a0, .bool b.strike0.h0, .int .u64 b.strike0.t0, .int .i64 b.strike0.s1, .bool b.strike0.a1, .bool b.strike0.h1, .int .u64 b.strike0.t1], .bool b.strike0.a0, .int .i64 0]) ∧ Below w.heap.size w w' := by
  have h1 := ok.n1
  have h2 := ok.n2
  have h3 := ok.s0
  have h4 := ok.s0'
  have h5 := ok.a0
  clear ok
  by_cases hs : b.s0 + 1 < b.n
  · have e1 : Hid (b.strike0 = { b with s0 := b.s0 + 1, a0 := (b.s0 + 1 == b.n) }) := Lib.hid (by rw [Bk.strike0, if_pos (by omega)])
    have ha : b.a0 = false := by rw [h5]; simp; omega
    have hm : ¬ b.n ≤ b.s0 + 1 := by omega
    clear h5
    go_enter Try.func32, Try.ntmps32
    go_wp2_with fail
    with_reducible refine (is36_0 _).mono ?_
    rintro e w' ⟨rfl, rfl⟩
    go_wp2_with fail
    go_region
    all_goals
      go_wp2_with fail
      exact bodyPost_ret (v := .tuple #[.agg #[.int .i64 b.strike0.n, .int .u64 b.strike0.g, .int .i64 b.strike0.s0, .bool b.strike0.a0, .bool b.strike0.h0, .int .u64 b.strike0.t0, .int .i64 b.strike0.s1, .bool b.strike0.a1, .bool b.strike0.h1, .int .u64 b.strike0.t1], .bool b.strike0.a0, .int .i64 0]) (by rw [e1.out]; simp [results, Try.results32, go_sem]) rfl ⟨rfl, by go_grown⟩
  · have e1 : Hid (b.strike0 = { b with s0 := b.n, a0 := true }) := Lib.hid (by
      by_cases hq : b.s0 < b.n
      · have : b.s0 + 1 = b.n := by omega
        rw [Bk.strike0, if_pos hq, this]; simp
      · have : b.s0 = b.n := by omega
        rw [Bk.strike0, if_neg hq, this]; simp)
    have hm : b.n ≤ b.s0 + 1 := by omega
    cases ha : b.a0
    all_goals
      clear h5
      go_enter Try.func32, Try.ntmps32
      go_wp2_with fail
      with_reducible refine (is36_0 _).mono ?_
      rintro e w' ⟨rfl, rfl⟩
      go_wp2_with fail
      go_region
      all_goals
        go_wp2_with fail
        exact bodyPost_ret (v := .tuple #[.agg #[.int .i64 b.strike0.n, .int .u64 b.strike0.g, .int .i64 b.strike0.s0, .bool b.strike0.a0, .bool b.strike0.h0, .int .u64 b.strike0.t0, .int .i64 b.strike0.s1, .bool b.strike0.a1, .bool b.strike0.h1, .int .u64 b.strike0.t1], .bool b.strike0.a0, .int .i64 0]) (by rw [e1.out]; simp [results, Try.results32, go_sem]) rfl ⟨rfl, by go_grown⟩

theorem strike32_0c (b b' : Bk) (w : World) (ok : b.Ok) (hb : b.strike0 = b') :
    Calls Try.prog 32 #[.agg #[.int .i64 b.n, .int .u64 b.g, .int .i64 b.s0, .bool b.a0, .bool b.h0, .int .u64 b.t0, .int .i64 b.s1, .bool b.a1, .bool b.h1, .int .u64 b.t1], .int .i64 0] w fun e w' => e = .returned (.tuple #[.agg #[.int .i64 b'.n, .int .u64 b'.g, .int .i64 b'.s0, .bool b'.a0, .bool b'.h0, .int .u64 b'.t0, .int .i64 b'.s1, .bool b'.a1, .bool b'.h1, .int .u64 b'.t1], .bool b'.a0, .int .i64 0]) ∧ Below w.heap.size w w' := by
  subst hb
  exact strike32_0 b w ok

set_option maxRecDepth 100000 in
set_option maxHeartbeats 2000000 in
theorem strike32_1 (b : Bk) (w : World) (ok : b.Ok) :
    Calls Try.prog 32 #[.agg #[.int .i64 b.n, .int .u64 b.g, .int .i64 b.s0, .bool b.a0, .bool b.h0, .int .u64 b.t0, .int .i64 b.s1, .bool b.a1, .bool b.h1, .int .u64 b.t1], .int .i64 1] w fun e w' => e = .returned (.tuple #[.agg #[.int .i64 b.strike1.n, .int .u64 b.strike1.g, .int .i64 b.strike1.s0, .bool b.strike1.a0, .bool b.strike1.h0, .int .u64 b.strike1.t0, .int .i64 b.strike1.s1, .bool b.strike1.a1, .bool b.strike1.h1, .int .u64 b.strike1.t1], .bool b.strike1.a1, .int .i64 0]) ∧ Below w.heap.size w w' := by
  have h1 := ok.n1
  have h2 := ok.n2
  have h3 := ok.s1
  have h4 := ok.s1'
  have h5 := ok.a1
  clear ok
  by_cases hs : b.s1 + 1 < b.n
  · have e1 : Hid (b.strike1 = { b with s1 := b.s1 + 1, a1 := (b.s1 + 1 == b.n) }) := Lib.hid (by rw [Bk.strike1, if_pos (by omega)])
    have ha : b.a1 = false := by rw [h5]; simp; omega
    have hm : ¬ b.n ≤ b.s1 + 1 := by omega
    clear h5
    go_enter Try.func32, Try.ntmps32
    go_wp2_with fail
    with_reducible refine (is36_1 _).mono ?_
    rintro e w' ⟨rfl, rfl⟩
    go_wp2_with fail
    go_region
    all_goals
      go_wp2_with fail
      exact bodyPost_ret (v := .tuple #[.agg #[.int .i64 b.strike1.n, .int .u64 b.strike1.g, .int .i64 b.strike1.s0, .bool b.strike1.a0, .bool b.strike1.h0, .int .u64 b.strike1.t0, .int .i64 b.strike1.s1, .bool b.strike1.a1, .bool b.strike1.h1, .int .u64 b.strike1.t1], .bool b.strike1.a1, .int .i64 0]) (by rw [e1.out]; simp [results, Try.results32, go_sem]) rfl ⟨rfl, by go_grown⟩
  · have e1 : Hid (b.strike1 = { b with s1 := b.n, a1 := true }) := Lib.hid (by
      by_cases hq : b.s1 < b.n
      · have : b.s1 + 1 = b.n := by omega
        rw [Bk.strike1, if_pos hq, this]; simp
      · have : b.s1 = b.n := by omega
        rw [Bk.strike1, if_neg hq, this]; simp)
    have hm : b.n ≤ b.s1 + 1 := by omega
    cases ha : b.a1
    all_goals
      clear h5
      go_enter Try.func32, Try.ntmps32
      go_wp2_with fail
      with_reducible refine (is36_1 _).mono ?_
      rintro e w' ⟨rfl, rfl⟩
      go_wp2_with fail
      go_region
      all_goals
        go_wp2_with fail
        exact bodyPost_ret (v := .tuple #[.agg #[.int .i64 b.strike1.n, .int .u64 b.strike1.g, .int .i64 b.strike1.s0, .bool b.strike1.a0, .bool b.strike1.h0, .int .u64 b.strike1.t0, .int .i64 b.strike1.s1, .bool b.strike1.a1, .bool b.strike1.h1, .int .u64 b.strike1.t1], .bool b.strike1.a1, .int .i64 0]) (by rw [e1.out]; simp [results, Try.results32, go_sem]) rfl ⟨rfl, by go_grown⟩

theorem strike32_1c (b b' : Bk) (w : World) (ok : b.Ok) (hb : b.strike1 = b') :
    Calls Try.prog 32 #[.agg #[.int .i64 b.n, .int .u64 b.g, .int .i64 b.s0, .bool b.a0, .bool b.h0, .int .u64 b.t0, .int .i64 b.s1, .bool b.a1, .bool b.h1, .int .u64 b.t1], .int .i64 1] w fun e w' => e = .returned (.tuple #[.agg #[.int .i64 b'.n, .int .u64 b'.g, .int .i64 b'.s0, .bool b'.a0, .bool b'.h0, .int .u64 b'.t0, .int .i64 b'.s1, .bool b'.a1, .bool b'.h1, .int .u64 b'.t1], .bool b'.a1, .int .i64 0]) ∧ Below w.heap.size w w' := by
  subst hb
  exact strike32_1 b w ok

set_option maxRecDepth 100000 in
set_option maxHeartbeats 2000000 in
theorem answer33_0 (b : Bk) (w : World) :
    Calls Try.prog 33 #[.agg #[.int .i64 b.n, .int .u64 b.g, .int .i64 b.s0, .bool b.a0, .bool b.h0, .int .u64 b.t0, .int .i64 b.s1, .bool b.a1, .bool b.h1, .int .u64 b.t1], .int .i64 0] w fun e w' => e = .returned (.tuple #[.agg #[.int .i64 b.answer0.n, .int .u64 b.answer0.g, .int .i64 b.answer0.s0, .bool b.answer0.a0, .bool b.answer0.h0, .int .u64 b.answer0.t0, .int .i64 b.answer0.s1, .bool b.answer0.a1, .bool b.answer0.h1, .int .u64 b.answer0.t1], .int .i64 0]) ∧ Below w.heap.size w w' := by
  go_enter Try.func33, Try.ntmps33
  go_wp2_with fail
  with_reducible refine (is36_0 _).mono ?_
  rintro e w' ⟨rfl, rfl⟩
  go_wp2_with fail
  go_returns
  exact ⟨rfl, by go_grown⟩

theorem answer33_0c (b b' : Bk) (w : World) (hb : b.answer0 = b') :
    Calls Try.prog 33 #[.agg #[.int .i64 b.n, .int .u64 b.g, .int .i64 b.s0, .bool b.a0, .bool b.h0, .int .u64 b.t0, .int .i64 b.s1, .bool b.a1, .bool b.h1, .int .u64 b.t1], .int .i64 0] w fun e w' => e = .returned (.tuple #[.agg #[.int .i64 b'.n, .int .u64 b'.g, .int .i64 b'.s0, .bool b'.a0, .bool b'.h0, .int .u64 b'.t0, .int .i64 b'.s1, .bool b'.a1, .bool b'.h1, .int .u64 b'.t1], .int .i64 0]) ∧ Below w.heap.size w w' := by
  subst hb
  exact answer33_0 b w

set_option maxRecDepth 100000 in
set_option maxHeartbeats 2000000 in
theorem join34_0_late (b : Bk) (t : Int) (w : World) (ok : b.Ok) (hd : over b.d0 t = true) :
    Calls Try.prog 34 #[.agg #[.int .i64 b.n, .int .u64 b.g, .int .i64 b.s0, .bool b.a0, .bool b.h0, .int .u64 b.t0, .int .i64 b.s1, .bool b.a1, .bool b.h1, .int .u64 b.t1], .int .i64 0, .int .u64 t] w fun e w' => e = .returned (.tuple #[.agg #[.int .i64 b.n, .int .u64 b.g, .int .i64 b.s0, .bool b.a0, .bool b.h0, .int .u64 b.t0, .int .i64 b.s1, .bool b.a1, .bool b.h1, .int .u64 b.t1], .int .i64 15]) ∧ Below w.heap.size w w' := by
  have hg : U b.g := by have := ok.g1; have := ok.g2; unfold U; omega
  have HD := Lib.hid hd
  clear hd
  go_enter Try.func34, Try.ntmps34
  go_wp2_with fail
  with_reducible refine (is36_0 _).mono ?_
  rintro e w' ⟨rfl, rfl⟩
  go_wp2_with fail
  with_reducible refine (over37_0c b t _ _ ok.t0 hg HD.out).mono ?_
  rintro e w1 ⟨rfl, hb_w1⟩
  have K_w1 : Kept w.heap.size w (w.heap.size + 2) [(w.heap.size, 0, .int .i64 b.n), (w.heap.size, 1, .int .u64 b.g), (w.heap.size, 2, .int .i64 b.s0), (w.heap.size, 3, .bool b.a0), (w.heap.size, 4, .bool b.h0), (w.heap.size, 5, .int .u64 b.t0), (w.heap.size, 6, .int .i64 b.s1), (w.heap.size, 7, .bool b.a1), (w.heap.size, 8, .bool b.h1), (w.heap.size, 9, .int .u64 b.t1), (w.heap.size + 1, 0, .int .i64 0), (w.heap.size + 1, 1, .int .u64 0), (w.heap.size + 1, 2, .int .i64 0), (w.heap.size + 1, 3, .bool false), (w.heap.size + 1, 4, .bool false), (w.heap.size + 1, 5, .int .u64 0), (w.heap.size + 1, 6, .int .i64 0), (w.heap.size + 1, 7, .bool false), (w.heap.size + 1, 8, .bool false), (w.heap.size + 1, 9, .int .u64 0)] w1 := Kept.of hb_w1 (by go_grown) (by go_size) (by omega) (by simp [go_sem] <;> omega)
  clear hb_w1
  have hw_w1 := K_w1.below
  have hz_w1 := K_w1.size
  have lR_w1 : w.heap.size < w1.heap.size := by omega
  have cR0_w1 := K_w1.at (b := w.heap.size) (o := 0) (v := .int .i64 b.n) (by simp)
  have fR0_w1 := K_w1.free (b := w.heap.size) (o := 0) (v := .int .i64 b.n) (by simp)
  have cR1_w1 := K_w1.at (b := w.heap.size) (o := 1) (v := .int .u64 b.g) (by simp)
  have fR1_w1 := K_w1.free (b := w.heap.size) (o := 1) (v := .int .u64 b.g) (by simp)
  have cR2_w1 := K_w1.at (b := w.heap.size) (o := 2) (v := .int .i64 b.s0) (by simp)
  have fR2_w1 := K_w1.free (b := w.heap.size) (o := 2) (v := .int .i64 b.s0) (by simp)
  have cR3_w1 := K_w1.at (b := w.heap.size) (o := 3) (v := .bool b.a0) (by simp)
  have fR3_w1 := K_w1.free (b := w.heap.size) (o := 3) (v := .bool b.a0) (by simp)
  have cR4_w1 := K_w1.at (b := w.heap.size) (o := 4) (v := .bool b.h0) (by simp)
  have fR4_w1 := K_w1.free (b := w.heap.size) (o := 4) (v := .bool b.h0) (by simp)
  have cR5_w1 := K_w1.at (b := w.heap.size) (o := 5) (v := .int .u64 b.t0) (by simp)
  have fR5_w1 := K_w1.free (b := w.heap.size) (o := 5) (v := .int .u64 b.t0) (by simp)
  have cR6_w1 := K_w1.at (b := w.heap.size) (o := 6) (v := .int .i64 b.s1) (by simp)
  have fR6_w1 := K_w1.free (b := w.heap.size) (o := 6) (v := .int .i64 b.s1) (by simp)
  have cR7_w1 := K_w1.at (b := w.heap.size) (o := 7) (v := .bool b.a1) (by simp)
  have fR7_w1 := K_w1.free (b := w.heap.size) (o := 7) (v := .bool b.a1) (by simp)
  have cR8_w1 := K_w1.at (b := w.heap.size) (o := 8) (v := .bool b.h1) (by simp)
  have fR8_w1 := K_w1.free (b := w.heap.size) (o := 8) (v := .bool b.h1) (by simp)
  have cR9_w1 := K_w1.at (b := w.heap.size) (o := 9) (v := .int .u64 b.t1) (by simp)
  have fR9_w1 := K_w1.free (b := w.heap.size) (o := 9) (v := .int .u64 b.t1) (by simp)
  have lZ_w1 : w.heap.size + 1 < w1.heap.size := by omega
  have cZ0_w1 := K_w1.at (b := w.heap.size + 1) (o := 0) (v := .int .i64 0) (by simp)
  have fZ0_w1 := K_w1.free (b := w.heap.size + 1) (o := 0) (v := .int .i64 0) (by simp)
  have cZ1_w1 := K_w1.at (b := w.heap.size + 1) (o := 1) (v := .int .u64 0) (by simp)
  have fZ1_w1 := K_w1.free (b := w.heap.size + 1) (o := 1) (v := .int .u64 0) (by simp)
  have cZ2_w1 := K_w1.at (b := w.heap.size + 1) (o := 2) (v := .int .i64 0) (by simp)
  have fZ2_w1 := K_w1.free (b := w.heap.size + 1) (o := 2) (v := .int .i64 0) (by simp)
  have cZ3_w1 := K_w1.at (b := w.heap.size + 1) (o := 3) (v := .bool false) (by simp)
  have fZ3_w1 := K_w1.free (b := w.heap.size + 1) (o := 3) (v := .bool false) (by simp)
  have cZ4_w1 := K_w1.at (b := w.heap.size + 1) (o := 4) (v := .bool false) (by simp)
  have fZ4_w1 := K_w1.free (b := w.heap.size + 1) (o := 4) (v := .bool false) (by simp)
  have cZ5_w1 := K_w1.at (b := w.heap.size + 1) (o := 5) (v := .int .u64 0) (by simp)
  have fZ5_w1 := K_w1.free (b := w.heap.size + 1) (o := 5) (v := .int .u64 0) (by simp)
  have cZ6_w1 := K_w1.at (b := w.heap.size + 1) (o := 6) (v := .int .i64 0) (by simp)
  have fZ6_w1 := K_w1.free (b := w.heap.size + 1) (o := 6) (v := .int .i64 0) (by simp)
  have cZ7_w1 := K_w1.at (b := w.heap.size + 1) (o := 7) (v := .bool false) (by simp)
  have fZ7_w1 := K_w1.free (b := w.heap.size + 1) (o := 7) (v := .bool false) (by simp)
  have cZ8_w1 := K_w1.at (b := w.heap.size + 1) (o := 8) (v := .bool false) (by simp)
  have fZ8_w1 := K_w1.free (b := w.heap.size + 1) (o := 8) (v := .bool false) (by simp)
  have cZ9_w1 := K_w1.at (b := w.heap.size + 1) (o := 9) (v := .int .u64 0) (by simp)
  have fZ9_w1 := K_w1.free (b := w.heap.size + 1) (o := 9) (v := .int .u64 0) (by simp)
  clear K_w1
  go_wp2_with fail
  exact bodyPost_ret (v := .tuple #[.agg #[.int .i64 b.n, .int .u64 b.g, .int .i64 b.s0, .bool b.a0, .bool b.h0, .int .u64 b.t0, .int .i64 b.s1, .bool b.a1, .bool b.h1, .int .u64 b.t1], .int .i64 15]) (by simp [results, Try.results34, go_sem, lR_w1, cR0_w1, fR0_w1, cR1_w1, fR1_w1, cR2_w1, fR2_w1, cR3_w1, fR3_w1, cR4_w1, fR4_w1, cR5_w1, fR5_w1, cR6_w1, fR6_w1, cR7_w1, fR7_w1, cR8_w1, fR8_w1, cR9_w1, fR9_w1, lZ_w1, cZ0_w1, fZ0_w1, cZ1_w1, fZ1_w1, cZ2_w1, fZ2_w1, cZ3_w1, fZ3_w1, cZ4_w1, fZ4_w1, cZ5_w1, fZ5_w1, cZ6_w1, fZ6_w1, cZ7_w1, fZ7_w1, cZ8_w1, fZ8_w1, cZ9_w1, fZ9_w1]) rfl ⟨rfl, by go_grown⟩

set_option maxRecDepth 100000 in
set_option maxHeartbeats 2000000 in
theorem join34_0 (b : Bk) (t : Int) (w : World) (ok : b.Ok) (hd : over b.d0 t = false) :
    Calls Try.prog 34 #[.agg #[.int .i64 b.n, .int .u64 b.g, .int .i64 b.s0, .bool b.a0, .bool b.h0, .int .u64 b.t0, .int .i64 b.s1, .bool b.a1, .bool b.h1, .int .u64 b.t1], .int .i64 0, .int .u64 t] w fun e w' => e = .returned (.tuple #[.agg #[.int .i64 b.join0.n, .int .u64 b.join0.g, .int .i64 b.join0.s0, .bool b.join0.a0, .bool b.join0.h0, .int .u64 b.join0.t0, .int .i64 b.join0.s1, .bool b.join0.a1, .bool b.join0.h1, .int .u64 b.join0.t1], .int .i64 0]) ∧ Below w.heap.size w w' := by
  have hg : U b.g := by have := ok.g1; have := ok.g2; unfold U; omega
  have HD := Lib.hid hd
  clear hd
  go_enter Try.func34, Try.ntmps34
  go_wp2_with fail
  with_reducible refine (is36_0 _).mono ?_
  rintro e w' ⟨rfl, rfl⟩
  go_wp2_with fail
  with_reducible refine (over37_0c b t _ _ ok.t0 hg HD.out).mono ?_
  rintro e w1 ⟨rfl, hb_w1⟩
  have K_w1 : Kept w.heap.size w (w.heap.size + 2) [(w.heap.size, 0, .int .i64 b.n), (w.heap.size, 1, .int .u64 b.g), (w.heap.size, 2, .int .i64 b.s0), (w.heap.size, 3, .bool b.a0), (w.heap.size, 4, .bool b.h0), (w.heap.size, 5, .int .u64 b.t0), (w.heap.size, 6, .int .i64 b.s1), (w.heap.size, 7, .bool b.a1), (w.heap.size, 8, .bool b.h1), (w.heap.size, 9, .int .u64 b.t1), (w.heap.size + 1, 0, .int .i64 0), (w.heap.size + 1, 1, .int .u64 0), (w.heap.size + 1, 2, .int .i64 0), (w.heap.size + 1, 3, .bool false), (w.heap.size + 1, 4, .bool false), (w.heap.size + 1, 5, .int .u64 0), (w.heap.size + 1, 6, .int .i64 0), (w.heap.size + 1, 7, .bool false), (w.heap.size + 1, 8, .bool false), (w.heap.size + 1, 9, .int .u64 0)] w1 := Kept.of hb_w1 (by go_grown) (by go_size) (by omega) (by simp [go_sem] <;> omega)
  clear hb_w1
  have hw_w1 := K_w1.below
  have hz_w1 := K_w1.size
  have lR_w1 : w.heap.size < w1.heap.size := by omega
  have cR0_w1 := K_w1.at (b := w.heap.size) (o := 0) (v := .int .i64 b.n) (by simp)
  have fR0_w1 := K_w1.free (b := w.heap.size) (o := 0) (v := .int .i64 b.n) (by simp)
  have cR1_w1 := K_w1.at (b := w.heap.size) (o := 1) (v := .int .u64 b.g) (by simp)
  have fR1_w1 := K_w1.free (b := w.heap.size) (o := 1) (v := .int .u64 b.g) (by simp)
  have cR2_w1 := K_w1.at (b := w.heap.size) (o := 2) (v := .int .i64 b.s0) (by simp)
  have fR2_w1 := K_w1.free (b := w.heap.size) (o := 2) (v := .int .i64 b.s0) (by simp)
  have cR3_w1 := K_w1.at (b := w.heap.size) (o := 3) (v := .bool b.a0) (by simp)
  have fR3_w1 := K_w1.free (b := w.heap.size) (o := 3) (v := .bool b.a0) (by simp)
  have cR4_w1 := K_w1.at (b := w.heap.size) (o := 4) (v := .bool b.h0) (by simp)
  have fR4_w1 := K_w1.free (b := w.heap.size) (o := 4) (v := .bool b.h0) (by simp)
  have cR5_w1 := K_w1.at (b := w.heap.size) (o := 5) (v := .int .u64 b.t0) (by simp)
  have fR5_w1 := K_w1.free (b := w.heap.size) (o := 5) (v := .int .u64 b.t0) (by simp)
  have cR6_w1 := K_w1.at (b := w.heap.size) (o := 6) (v := .int .i64 b.s1) (by simp)
  have fR6_w1 := K_w1.free (b := w.heap.size) (o := 6) (v := .int .i64 b.s1) (by simp)
  have cR7_w1 := K_w1.at (b := w.heap.size) (o := 7) (v := .bool b.a1) (by simp)
  have fR7_w1 := K_w1.free (b := w.heap.size) (o := 7) (v := .bool b.a1) (by simp)
  have cR8_w1 := K_w1.at (b := w.heap.size) (o := 8) (v := .bool b.h1) (by simp)
  have fR8_w1 := K_w1.free (b := w.heap.size) (o := 8) (v := .bool b.h1) (by simp)
  have cR9_w1 := K_w1.at (b := w.heap.size) (o := 9) (v := .int .u64 b.t1) (by simp)
  have fR9_w1 := K_w1.free (b := w.heap.size) (o := 9) (v := .int .u64 b.t1) (by simp)
  have lZ_w1 : w.heap.size + 1 < w1.heap.size := by omega
  have cZ0_w1 := K_w1.at (b := w.heap.size + 1) (o := 0) (v := .int .i64 0) (by simp)
  have fZ0_w1 := K_w1.free (b := w.heap.size + 1) (o := 0) (v := .int .i64 0) (by simp)
  have cZ1_w1 := K_w1.at (b := w.heap.size + 1) (o := 1) (v := .int .u64 0) (by simp)
  have fZ1_w1 := K_w1.free (b := w.heap.size + 1) (o := 1) (v := .int .u64 0) (by simp)
  have cZ2_w1 := K_w1.at (b := w.heap.size + 1) (o := 2) (v := .int .i64 0) (by simp)
  have fZ2_w1 := K_w1.free (b := w.heap.size + 1) (o := 2) (v := .int .i64 0) (by simp)
  have cZ3_w1 := K_w1.at (b := w.heap.size + 1) (o := 3) (v := .bool false) (by simp)
  have fZ3_w1 := K_w1.free (b := w.heap.size + 1) (o := 3) (v := .bool false) (by simp)
  have cZ4_w1 := K_w1.at (b := w.heap.size + 1) (o := 4) (v := .bool false) (by simp)
  have fZ4_w1 := K_w1.free (b := w.heap.size + 1) (o := 4) (v := .bool false) (by simp)
  have cZ5_w1 := K_w1.at (b := w.heap.size + 1) (o := 5) (v := .int .u64 0) (by simp)
  have fZ5_w1 := K_w1.free (b := w.heap.size + 1) (o := 5) (v := .int .u64 0) (by simp)
  have cZ6_w1 := K_w1.at (b := w.heap.size + 1) (o := 6) (v := .int .i64 0) (by simp)
  have fZ6_w1 := K_w1.free (b := w.heap.size + 1) (o := 6) (v := .int .i64 0) (by simp)
  have cZ7_w1 := K_w1.at (b := w.heap.size + 1) (o := 7) (v := .bool false) (by simp)
  have fZ7_w1 := K_w1.free (b := w.heap.size + 1) (o := 7) (v := .bool false) (by simp)
  have cZ8_w1 := K_w1.at (b := w.heap.size + 1) (o := 8) (v := .bool false) (by simp)
  have fZ8_w1 := K_w1.free (b := w.heap.size + 1) (o := 8) (v := .bool false) (by simp)
  have cZ9_w1 := K_w1.at (b := w.heap.size + 1) (o := 9) (v := .int .u64 0) (by simp)
  have fZ9_w1 := K_w1.free (b := w.heap.size + 1) (o := 9) (v := .int .u64 0) (by simp)
  clear K_w1
  go_wp2_with fail
  exact bodyPost_ret (v := .tuple #[.agg #[.int .i64 b.join0.n, .int .u64 b.join0.g, .int .i64 b.join0.s0, .bool b.join0.a0, .bool b.join0.h0, .int .u64 b.join0.t0, .int .i64 b.join0.s1, .bool b.join0.a1, .bool b.join0.h1, .int .u64 b.join0.t1], .int .i64 0]) (by simp [results, Try.results34, go_sem, Bk.join0, lR_w1, cR0_w1, fR0_w1, cR1_w1, fR1_w1, cR2_w1, fR2_w1, cR3_w1, fR3_w1, cR4_w1, fR4_w1, cR5_w1, fR5_w1, cR6_w1, fR6_w1, cR7_w1, fR7_w1, cR8_w1, fR8_w1, cR9_w1, fR9_w1, lZ_w1, cZ0_w1, fZ0_w1, cZ1_w1, fZ1_w1, cZ2_w1, fZ2_w1, cZ3_w1, fZ3_w1, cZ4_w1, fZ4_w1, cZ5_w1, fZ5_w1, cZ6_w1, fZ6_w1, cZ7_w1, fZ7_w1, cZ8_w1, fZ8_w1, cZ9_w1, fZ9_w1]) rfl ⟨rfl, by go_grown⟩

theorem join34_0c (b b' : Bk) (t : Int) (w : World) (ok : b.Ok) (hd : over b.d0 t = false) (hb : b.join0 = b') :
    Calls Try.prog 34 #[.agg #[.int .i64 b.n, .int .u64 b.g, .int .i64 b.s0, .bool b.a0, .bool b.h0, .int .u64 b.t0, .int .i64 b.s1, .bool b.a1, .bool b.h1, .int .u64 b.t1], .int .i64 0, .int .u64 t] w fun e w' => e = .returned (.tuple #[.agg #[.int .i64 b'.n, .int .u64 b'.g, .int .i64 b'.s0, .bool b'.a0, .bool b'.h0, .int .u64 b'.t0, .int .i64 b'.s1, .bool b'.a1, .bool b'.h1, .int .u64 b'.t1], .int .i64 0]) ∧ Below w.heap.size w w' := by
  subst hb
  exact join34_0 b t w ok hd

set_option maxRecDepth 100000 in
set_option maxHeartbeats 2000000 in
theorem leave35_0 (b : Bk) (t : Int) (w : World) :
    Calls Try.prog 35 #[.agg #[.int .i64 b.n, .int .u64 b.g, .int .i64 b.s0, .bool b.a0, .bool b.h0, .int .u64 b.t0, .int .i64 b.s1, .bool b.a1, .bool b.h1, .int .u64 b.t1], .int .i64 0, .int .u64 t] w fun e w' => e = .returned (.tuple #[.agg #[.int .i64 (b.leave0 t).n, .int .u64 (b.leave0 t).g, .int .i64 (b.leave0 t).s0, .bool (b.leave0 t).a0, .bool (b.leave0 t).h0, .int .u64 (b.leave0 t).t0, .int .i64 (b.leave0 t).s1, .bool (b.leave0 t).a1, .bool (b.leave0 t).h1, .int .u64 (b.leave0 t).t1], .int .i64 0]) ∧ Below w.heap.size w w' := by
  cases hh : b.h0
  · have e1 : Hid (b.leave0 t = { b with h0 := false }) := Lib.hid (by simp only [Bk.leave0, hh]; cases b; simp_all)
    go_enter Try.func35, Try.ntmps35
    go_wp2_with fail
    with_reducible refine (is36_0 _).mono ?_
    rintro e w' ⟨rfl, rfl⟩
    go_wp2_with fail
    go_returns
    exact ⟨by rw [e1.out], by go_grown⟩
  · have e1 : Hid (b.leave0 t = { b with h0 := false, t0 := t }) := Lib.hid (by simp [Bk.leave0, hh])
    go_enter Try.func35, Try.ntmps35
    go_wp2_with fail
    with_reducible refine (is36_0 _).mono ?_
    rintro e w' ⟨rfl, rfl⟩
    go_wp2_with fail
    go_returns
    exact ⟨by rw [e1.out], by go_grown⟩

theorem leave35_0c (b b' : Bk) (t : Int) (w : World) (hb : b.leave0 t = b') :
    Calls Try.prog 35 #[.agg #[.int .i64 b.n, .int .u64 b.g, .int .i64 b.s0, .bool b.a0, .bool b.h0, .int .u64 b.t0, .int .i64 b.s1, .bool b.a1, .bool b.h1, .int .u64 b.t1], .int .i64 0, .int .u64 t] w fun e w' => e = .returned (.tuple #[.agg #[.int .i64 b'.n, .int .u64 b'.g, .int .i64 b'.s0, .bool b'.a0, .bool b'.h0, .int .u64 b'.t0, .int .i64 b'.s1, .bool b'.a1, .bool b'.h1, .int .u64 b'.t1], .int .i64 0]) ∧ Below w.heap.size w w' := by
  subst hb
  exact leave35_0 b t w

set_option maxRecDepth 100000 in
set_option maxHeartbeats 2000000 in
theorem answer33_1 (b : Bk) (w : World) :
    Calls Try.prog 33 #[.agg #[.int .i64 b.n, .int .u64 b.g, .int .i64 b.s0, .bool b.a0, .bool b.h0, .int .u64 b.t0, .int .i64 b.s1, .bool b.a1, .bool b.h1, .int .u64 b.t1], .int .i64 1] w fun e w' => e = .returned (.tuple #[.agg #[.int .i64 b.answer1.n, .int .u64 b.answer1.g, .int .i64 b.answer1.s0, .bool b.answer1.a0, .bool b.answer1.h0, .int .u64 b.answer1.t0, .int .i64 b.answer1.s1, .bool b.answer1.a1, .bool b.answer1.h1, .int .u64 b.answer1.t1], .int .i64 0]) ∧ Below w.heap.size w w' := by
  go_enter Try.func33, Try.ntmps33
  go_wp2_with fail
  with_reducible refine (is36_1 _).mono ?_
  rintro e w' ⟨rfl, rfl⟩
  go_wp2_with fail
  go_returns
  exact ⟨rfl, by go_grown⟩

theorem answer33_1c (b b' : Bk) (w : World) (hb : b.answer1 = b') :
    Calls Try.prog 33 #[.agg #[.int .i64 b.n, .int .u64 b.g, .int .i64 b.s0, .bool b.a0, .bool b.h0, .int .u64 b.t0, .int .i64 b.s1, .bool b.a1, .bool b.h1, .int .u64 b.t1], .int .i64 1] w fun e w' => e = .returned (.tuple #[.agg #[.int .i64 b'.n, .int .u64 b'.g, .int .i64 b'.s0, .bool b'.a0, .bool b'.h0, .int .u64 b'.t0, .int .i64 b'.s1, .bool b'.a1, .bool b'.h1, .int .u64 b'.t1], .int .i64 0]) ∧ Below w.heap.size w w' := by
  subst hb
  exact answer33_1 b w

set_option maxRecDepth 100000 in
set_option maxHeartbeats 2000000 in
theorem join34_1_late (b : Bk) (t : Int) (w : World) (ok : b.Ok) (hd : over b.d1 t = true) :
    Calls Try.prog 34 #[.agg #[.int .i64 b.n, .int .u64 b.g, .int .i64 b.s0, .bool b.a0, .bool b.h0, .int .u64 b.t0, .int .i64 b.s1, .bool b.a1, .bool b.h1, .int .u64 b.t1], .int .i64 1, .int .u64 t] w fun e w' => e = .returned (.tuple #[.agg #[.int .i64 b.n, .int .u64 b.g, .int .i64 b.s0, .bool b.a0, .bool b.h0, .int .u64 b.t0, .int .i64 b.s1, .bool b.a1, .bool b.h1, .int .u64 b.t1], .int .i64 15]) ∧ Below w.heap.size w w' := by
  have hg : U b.g := by have := ok.g1; have := ok.g2; unfold U; omega
  have HD := Lib.hid hd
  clear hd
  go_enter Try.func34, Try.ntmps34
  go_wp2_with fail
  with_reducible refine (is36_1 _).mono ?_
  rintro e w' ⟨rfl, rfl⟩
  go_wp2_with fail
  with_reducible refine (over37_1c b t _ _ ok.t1 hg HD.out).mono ?_
  rintro e w1 ⟨rfl, hb_w1⟩
  have K_w1 : Kept w.heap.size w (w.heap.size + 2) [(w.heap.size, 0, .int .i64 b.n), (w.heap.size, 1, .int .u64 b.g), (w.heap.size, 2, .int .i64 b.s0), (w.heap.size, 3, .bool b.a0), (w.heap.size, 4, .bool b.h0), (w.heap.size, 5, .int .u64 b.t0), (w.heap.size, 6, .int .i64 b.s1), (w.heap.size, 7, .bool b.a1), (w.heap.size, 8, .bool b.h1), (w.heap.size, 9, .int .u64 b.t1), (w.heap.size + 1, 0, .int .i64 0), (w.heap.size + 1, 1, .int .u64 0), (w.heap.size + 1, 2, .int .i64 0), (w.heap.size + 1, 3, .bool false), (w.heap.size + 1, 4, .bool false), (w.heap.size + 1, 5, .int .u64 0), (w.heap.size + 1, 6, .int .i64 0), (w.heap.size + 1, 7, .bool false), (w.heap.size + 1, 8, .bool false), (w.heap.size + 1, 9, .int .u64 0)] w1 := Kept.of hb_w1 (by go_grown) (by go_size) (by omega) (by simp [go_sem] <;> omega)
  clear hb_w1
  have hw_w1 := K_w1.below
  have hz_w1 := K_w1.size
  have lR_w1 : w.heap.size < w1.heap.size := by omega
  have cR0_w1 := K_w1.at (b := w.heap.size) (o := 0) (v := .int .i64 b.n) (by simp)
  have fR0_w1 := K_w1.free (b := w.heap.size) (o := 0) (v := .int .i64 b.n) (by simp)
  have cR1_w1 := K_w1.at (b := w.heap.size) (o := 1) (v := .int .u64 b.g) (by simp)
  have fR1_w1 := K_w1.free (b := w.heap.size) (o := 1) (v := .int .u64 b.g) (by simp)
  have cR2_w1 := K_w1.at (b := w.heap.size) (o := 2) (v := .int .i64 b.s0) (by simp)
  have fR2_w1 := K_w1.free (b := w.heap.size) (o := 2) (v := .int .i64 b.s0) (by simp)
  have cR3_w1 := K_w1.at (b := w.heap.size) (o := 3) (v := .bool b.a0) (by simp)
  have fR3_w1 := K_w1.free (b := w.heap.size) (o := 3) (v := .bool b.a0) (by simp)
  have cR4_w1 := K_w1.at (b := w.heap.size) (o := 4) (v := .bool b.h0) (by simp)
  have fR4_w1 := K_w1.free (b := w.heap.size) (o := 4) (v := .bool b.h0) (by simp)
  have cR5_w1 := K_w1.at (b := w.heap.size) (o := 5) (v := .int .u64 b.t0) (by simp)
  have fR5_w1 := K_w1.free (b := w.heap.size) (o := 5) (v := .int .u64 b.t0) (by simp)
  have cR6_w1 := K_w1.at (b := w.heap.size) (o := 6) (v := .int .i64 b.s1) (by simp)
  have fR6_w1 := K_w1.free (b := w.heap.size) (o := 6) (v := .int .i64 b.s1) (by simp)
  have cR7_w1 := K_w1.at (b := w.heap.size) (o := 7) (v := .bool b.a1) (by simp)
  have fR7_w1 := K_w1.free (b := w.heap.size) (o := 7) (v := .bool b.a1) (by simp)
  have cR8_w1 := K_w1.at (b := w.heap.size) (o := 8) (v := .bool b.h1) (by simp)
  have fR8_w1 := K_w1.free (b := w.heap.size) (o := 8) (v := .bool b.h1) (by simp)
  have cR9_w1 := K_w1.at (b := w.heap.size) (o := 9) (v := .int .u64 b.t1) (by simp)
  have fR9_w1 := K_w1.free (b := w.heap.size) (o := 9) (v := .int .u64 b.t1) (by simp)
  have lZ_w1 : w.heap.size + 1 < w1.heap.size := by omega
  have cZ0_w1 := K_w1.at (b := w.heap.size + 1) (o := 0) (v := .int .i64 0) (by simp)
  have fZ0_w1 := K_w1.free (b := w.heap.size + 1) (o := 0) (v := .int .i64 0) (by simp)
  have cZ1_w1 := K_w1.at (b := w.heap.size + 1) (o := 1) (v := .int .u64 0) (by simp)
  have fZ1_w1 := K_w1.free (b := w.heap.size + 1) (o := 1) (v := .int .u64 0) (by simp)
  have cZ2_w1 := K_w1.at (b := w.heap.size + 1) (o := 2) (v := .int .i64 0) (by simp)
  have fZ2_w1 := K_w1.free (b := w.heap.size + 1) (o := 2) (v := .int .i64 0) (by simp)
  have cZ3_w1 := K_w1.at (b := w.heap.size + 1) (o := 3) (v := .bool false) (by simp)
  have fZ3_w1 := K_w1.free (b := w.heap.size + 1) (o := 3) (v := .bool false) (by simp)
  have cZ4_w1 := K_w1.at (b := w.heap.size + 1) (o := 4) (v := .bool false) (by simp)
  have fZ4_w1 := K_w1.free (b := w.heap.size + 1) (o := 4) (v := .bool false) (by simp)
  have cZ5_w1 := K_w1.at (b := w.heap.size + 1) (o := 5) (v := .int .u64 0) (by simp)
  have fZ5_w1 := K_w1.free (b := w.heap.size + 1) (o := 5) (v := .int .u64 0) (by simp)
  have cZ6_w1 := K_w1.at (b := w.heap.size + 1) (o := 6) (v := .int .i64 0) (by simp)
  have fZ6_w1 := K_w1.free (b := w.heap.size + 1) (o := 6) (v := .int .i64 0) (by simp)
  have cZ7_w1 := K_w1.at (b := w.heap.size + 1) (o := 7) (v := .bool false) (by simp)
  have fZ7_w1 := K_w1.free (b := w.heap.size + 1) (o := 7) (v := .bool false) (by simp)
  have cZ8_w1 := K_w1.at (b := w.heap.size + 1) (o := 8) (v := .bool false) (by simp)
  have fZ8_w1 := K_w1.free (b := w.heap.size + 1) (o := 8) (v := .bool false) (by simp)
  have cZ9_w1 := K_w1.at (b := w.heap.size + 1) (o := 9) (v := .int .u64 0) (by simp)
  have fZ9_w1 := K_w1.free (b := w.heap.size + 1) (o := 9) (v := .int .u64 0) (by simp)
  clear K_w1
  go_wp2_with fail
  exact bodyPost_ret (v := .tuple #[.agg #[.int .i64 b.n, .int .u64 b.g, .int .i64 b.s0, .bool b.a0, .bool b.h0, .int .u64 b.t0, .int .i64 b.s1, .bool b.a1, .bool b.h1, .int .u64 b.t1], .int .i64 15]) (by simp [results, Try.results34, go_sem, lR_w1, cR0_w1, fR0_w1, cR1_w1, fR1_w1, cR2_w1, fR2_w1, cR3_w1, fR3_w1, cR4_w1, fR4_w1, cR5_w1, fR5_w1, cR6_w1, fR6_w1, cR7_w1, fR7_w1, cR8_w1, fR8_w1, cR9_w1, fR9_w1, lZ_w1, cZ0_w1, fZ0_w1, cZ1_w1, fZ1_w1, cZ2_w1, fZ2_w1, cZ3_w1, fZ3_w1, cZ4_w1, fZ4_w1, cZ5_w1, fZ5_w1, cZ6_w1, fZ6_w1, cZ7_w1, fZ7_w1, cZ8_w1, fZ8_w1, cZ9_w1, fZ9_w1]) rfl ⟨rfl, by go_grown⟩

set_option maxRecDepth 100000 in
set_option maxHeartbeats 2000000 in
theorem join34_1 (b : Bk) (t : Int) (w : World) (ok : b.Ok) (hd : over b.d1 t = false) :
    Calls Try.prog 34 #[.agg #[.int .i64 b.n, .int .u64 b.g, .int .i64 b.s0, .bool b.a0, .bool b.h0, .int .u64 b.t0, .int .i64 b.s1, .bool b.a1, .bool b.h1, .int .u64 b.t1], .int .i64 1, .int .u64 t] w fun e w' => e = .returned (.tuple #[.agg #[.int .i64 b.join1.n, .int .u64 b.join1.g, .int .i64 b.join1.s0, .bool b.join1.a0, .bool b.join1.h0, .int .u64 b.join1.t0, .int .i64 b.join1.s1, .bool b.join1.a1, .bool b.join1.h1, .int .u64 b.join1.t1], .int .i64 0]) ∧ Below w.heap.size w w' := by
  have hg : U b.g := by have := ok.g1; have := ok.g2; unfold U; omega
  have HD := Lib.hid hd
  clear hd
  go_enter Try.func34, Try.ntmps34
  go_wp2_with fail
  with_reducible refine (is36_1 _).mono ?_
  rintro e w' ⟨rfl, rfl⟩
  go_wp2_with fail
  with_reducible refine (over37_1c b t _ _ ok.t1 hg HD.out).mono ?_
  rintro e w1 ⟨rfl, hb_w1⟩
  have K_w1 : Kept w.heap.size w (w.heap.size + 2) [(w.heap.size, 0, .int .i64 b.n), (w.heap.size, 1, .int .u64 b.g), (w.heap.size, 2, .int .i64 b.s0), (w.heap.size, 3, .bool b.a0), (w.heap.size, 4, .bool b.h0), (w.heap.size, 5, .int .u64 b.t0), (w.heap.size, 6, .int .i64 b.s1), (w.heap.size, 7, .bool b.a1), (w.heap.size, 8, .bool b.h1), (w.heap.size, 9, .int .u64 b.t1), (w.heap.size + 1, 0, .int .i64 0), (w.heap.size + 1, 1, .int .u64 0), (w.heap.size + 1, 2, .int .i64 0), (w.heap.size + 1, 3, .bool false), (w.heap.size + 1, 4, .bool false), (w.heap.size + 1, 5, .int .u64 0), (w.heap.size + 1, 6, .int .i64 0), (w.heap.size + 1, 7, .bool false), (w.heap.size + 1, 8, .bool false), (w.heap.size + 1, 9, .int .u64 0)] w1 := Kept.of hb_w1 (by go_grown) (by go_size) (by omega) (by simp [go_sem] <;> omega)
  clear hb_w1
  have hw_w1 := K_w1.below
  have hz_w1 := K_w1.size
  have lR_w1 : w.heap.size < w1.heap.size := by omega
  have cR0_w1 := K_w1.at (b := w.heap.size) (o := 0) (v := .int .i64 b.n) (by simp)
  have fR0_w1 := K_w1.free (b := w.heap.size) (o := 0) (v := .int .i64 b.n) (by simp)
  have cR1_w1 := K_w1.at (b := w.heap.size) (o := 1) (v := .int .u64 b.g) (by simp)
  have fR1_w1 := K_w1.free (b := w.heap.size) (o := 1) (v := .int .u64 b.g) (by simp)
  have cR2_w1 := K_w1.at (b := w.heap.size) (o := 2) (v := .int .i64 b.s0) (by simp)
  have fR2_w1 := K_w1.free (b := w.heap.size) (o := 2) (v := .int .i64 b.s0) (by simp)
  have cR3_w1 := K_w1.at (b := w.heap.size) (o := 3) (v := .bool b.a0) (by simp)
  have fR3_w1 := K_w1.free (b := w.heap.size) (o := 3) (v := .bool b.a0) (by simp)
  have cR4_w1 := K_w1.at (b := w.heap.size) (o := 4) (v := .bool b.h0) (by simp)
  have fR4_w1 := K_w1.free (b := w.heap.size) (o := 4) (v := .bool b.h0) (by simp)
  have cR5_w1 := K_w1.at (b := w.heap.size) (o := 5) (v := .int .u64 b.t0) (by simp)
  have fR5_w1 := K_w1.free (b := w.heap.size) (o := 5) (v := .int .u64 b.t0) (by simp)
  have cR6_w1 := K_w1.at (b := w.heap.size) (o := 6) (v := .int .i64 b.s1) (by simp)
  have fR6_w1 := K_w1.free (b := w.heap.size) (o := 6) (v := .int .i64 b.s1) (by simp)
  have cR7_w1 := K_w1.at (b := w.heap.size) (o := 7) (v := .bool b.a1) (by simp)
  have fR7_w1 := K_w1.free (b := w.heap.size) (o := 7) (v := .bool b.a1) (by simp)
  have cR8_w1 := K_w1.at (b := w.heap.size) (o := 8) (v := .bool b.h1) (by simp)
  have fR8_w1 := K_w1.free (b := w.heap.size) (o := 8) (v := .bool b.h1) (by simp)
  have cR9_w1 := K_w1.at (b := w.heap.size) (o := 9) (v := .int .u64 b.t1) (by simp)
  have fR9_w1 := K_w1.free (b := w.heap.size) (o := 9) (v := .int .u64 b.t1) (by simp)
  have lZ_w1 : w.heap.size + 1 < w1.heap.size := by omega
  have cZ0_w1 := K_w1.at (b := w.heap.size + 1) (o := 0) (v := .int .i64 0) (by simp)
  have fZ0_w1 := K_w1.free (b := w.heap.size + 1) (o := 0) (v := .int .i64 0) (by simp)
  have cZ1_w1 := K_w1.at (b := w.heap.size + 1) (o := 1) (v := .int .u64 0) (by simp)
  have fZ1_w1 := K_w1.free (b := w.heap.size + 1) (o := 1) (v := .int .u64 0) (by simp)
  have cZ2_w1 := K_w1.at (b := w.heap.size + 1) (o := 2) (v := .int .i64 0) (by simp)
  have fZ2_w1 := K_w1.free (b := w.heap.size + 1) (o := 2) (v := .int .i64 0) (by simp)
  have cZ3_w1 := K_w1.at (b := w.heap.size + 1) (o := 3) (v := .bool false) (by simp)
  have fZ3_w1 := K_w1.free (b := w.heap.size + 1) (o := 3) (v := .bool false) (by simp)
  have cZ4_w1 := K_w1.at (b := w.heap.size + 1) (o := 4) (v := .bool false) (by simp)
  have fZ4_w1 := K_w1.free (b := w.heap.size + 1) (o := 4) (v := .bool false) (by simp)
  have cZ5_w1 := K_w1.at (b := w.heap.size + 1) (o := 5) (v := .int .u64 0) (by simp)
  have fZ5_w1 := K_w1.free (b := w.heap.size + 1) (o := 5) (v := .int .u64 0) (by simp)
  have cZ6_w1 := K_w1.at (b := w.heap.size + 1) (o := 6) (v := .int .i64 0) (by simp)
  have fZ6_w1 := K_w1.free (b := w.heap.size + 1) (o := 6) (v := .int .i64 0) (by simp)
  have cZ7_w1 := K_w1.at (b := w.heap.size + 1) (o := 7) (v := .bool false) (by simp)
  have fZ7_w1 := K_w1.free (b := w.heap.size + 1) (o := 7) (v := .bool false) (by simp)
  have cZ8_w1 := K_w1.at (b := w.heap.size + 1) (o := 8) (v := .bool false) (by simp)
  have fZ8_w1 := K_w1.free (b := w.heap.size + 1) (o := 8) (v := .bool false) (by simp)
  have cZ9_w1 := K_w1.at (b := w.heap.size + 1) (o := 9) (v := .int .u64 0) (by simp)
  have fZ9_w1 := K_w1.free (b := w.heap.size + 1) (o := 9) (v := .int .u64 0) (by simp)
  clear K_w1
  go_wp2_with fail
  exact bodyPost_ret (v := .tuple #[.agg #[.int .i64 b.join1.n, .int .u64 b.join1.g, .int .i64 b.join1.s0, .bool b.join1.a0, .bool b.join1.h0, .int .u64 b.join1.t0, .int .i64 b.join1.s1, .bool b.join1.a1, .bool b.join1.h1, .int .u64 b.join1.t1], .int .i64 0]) (by simp [results, Try.results34, go_sem, Bk.join1, lR_w1, cR0_w1, fR0_w1, cR1_w1, fR1_w1, cR2_w1, fR2_w1, cR3_w1, fR3_w1, cR4_w1, fR4_w1, cR5_w1, fR5_w1, cR6_w1, fR6_w1, cR7_w1, fR7_w1, cR8_w1, fR8_w1, cR9_w1, fR9_w1, lZ_w1, cZ0_w1, fZ0_w1, cZ1_w1, fZ1_w1, cZ2_w1, fZ2_w1, cZ3_w1, fZ3_w1, cZ4_w1, fZ4_w1, cZ5_w1, fZ5_w1, cZ6_w1, fZ6_w1, cZ7_w1, fZ7_w1, cZ8_w1, fZ8_w1, cZ9_w1, fZ9_w1]) rfl ⟨rfl, by go_grown⟩

theorem join34_1c (b b' : Bk) (t : Int) (w : World) (ok : b.Ok) (hd : over b.d1 t = false) (hb : b.join1 = b') :
    Calls Try.prog 34 #[.agg #[.int .i64 b.n, .int .u64 b.g, .int .i64 b.s0, .bool b.a0, .bool b.h0, .int .u64 b.t0, .int .i64 b.s1, .bool b.a1, .bool b.h1, .int .u64 b.t1], .int .i64 1, .int .u64 t] w fun e w' => e = .returned (.tuple #[.agg #[.int .i64 b'.n, .int .u64 b'.g, .int .i64 b'.s0, .bool b'.a0, .bool b'.h0, .int .u64 b'.t0, .int .i64 b'.s1, .bool b'.a1, .bool b'.h1, .int .u64 b'.t1], .int .i64 0]) ∧ Below w.heap.size w w' := by
  subst hb
  exact join34_1 b t w ok hd

set_option maxRecDepth 100000 in
set_option maxHeartbeats 2000000 in
theorem leave35_1 (b : Bk) (t : Int) (w : World) :
    Calls Try.prog 35 #[.agg #[.int .i64 b.n, .int .u64 b.g, .int .i64 b.s0, .bool b.a0, .bool b.h0, .int .u64 b.t0, .int .i64 b.s1, .bool b.a1, .bool b.h1, .int .u64 b.t1], .int .i64 1, .int .u64 t] w fun e w' => e = .returned (.tuple #[.agg #[.int .i64 (b.leave1 t).n, .int .u64 (b.leave1 t).g, .int .i64 (b.leave1 t).s0, .bool (b.leave1 t).a0, .bool (b.leave1 t).h0, .int .u64 (b.leave1 t).t0, .int .i64 (b.leave1 t).s1, .bool (b.leave1 t).a1, .bool (b.leave1 t).h1, .int .u64 (b.leave1 t).t1], .int .i64 0]) ∧ Below w.heap.size w w' := by
  cases hh : b.h1
  · have e1 : Hid (b.leave1 t = { b with h1 := false }) := Lib.hid (by simp only [Bk.leave1, hh]; cases b; simp_all)
    go_enter Try.func35, Try.ntmps35
    go_wp2_with fail
    with_reducible refine (is36_1 _).mono ?_
    rintro e w' ⟨rfl, rfl⟩
    go_wp2_with fail
    go_returns
    exact ⟨by rw [e1.out], by go_grown⟩
  · have e1 : Hid (b.leave1 t = { b with h1 := false, t1 := t }) := Lib.hid (by simp [Bk.leave1, hh])
    go_enter Try.func35, Try.ntmps35
    go_wp2_with fail
    with_reducible refine (is36_1 _).mono ?_
    rintro e w' ⟨rfl, rfl⟩
    go_wp2_with fail
    go_returns
    exact ⟨by rw [e1.out], by go_grown⟩

theorem leave35_1c (b b' : Bk) (t : Int) (w : World) (hb : b.leave1 t = b') :
    Calls Try.prog 35 #[.agg #[.int .i64 b.n, .int .u64 b.g, .int .i64 b.s0, .bool b.a0, .bool b.h0, .int .u64 b.t0, .int .i64 b.s1, .bool b.a1, .bool b.h1, .int .u64 b.t1], .int .i64 1, .int .u64 t] w fun e w' => e = .returned (.tuple #[.agg #[.int .i64 b'.n, .int .u64 b'.g, .int .i64 b'.s0, .bool b'.a0, .bool b'.h0, .int .u64 b'.t0, .int .i64 b'.s1, .bool b'.a1, .bool b'.h1, .int .u64 b'.t1], .int .i64 0]) ∧ Below w.heap.size w w' := by
  subst hb
  exact leave35_1 b t w

set_option maxRecDepth 100000 in
set_option maxHeartbeats 2000000 in
theorem strike32_bad (b : Bk) (p : Int) (w : World) (h2 : p ≠ 0) (h3 : p ≠ 1) :
    Calls Try.prog 32 #[.agg #[.int .i64 b.n, .int .u64 b.g, .int .i64 b.s0, .bool b.a0, .bool b.h0, .int .u64 b.t0, .int .i64 b.s1, .bool b.a1, .bool b.h1, .int .u64 b.t1], .int .i64 p] w fun e w' => e = .returned (.tuple #[.agg #[.int .i64 b.n, .int .u64 b.g, .int .i64 b.s0, .bool b.a0, .bool b.h0, .int .u64 b.t0, .int .i64 b.s1, .bool b.a1, .bool b.h1, .int .u64 b.t1], .bool false, .int .i64 2]) ∧ Below w.heap.size w w' := by
  have H2 := Lib.hid h2
  have H3 := Lib.hid h3
  clear h2 h3
  go_enter Try.func32, Try.ntmps32
  go_wp2_with fail
  with_reducible refine (is36_bad p _ H2.out H3.out).mono ?_
  rintro e w' ⟨rfl, rfl⟩
  go_wp2_with fail
  go_returns
  exact ⟨rfl, by go_grown⟩

set_option maxRecDepth 100000 in
set_option maxHeartbeats 2000000 in
theorem answer33_bad (b : Bk) (p : Int) (w : World) (h2 : p ≠ 0) (h3 : p ≠ 1) :
    Calls Try.prog 33 #[.agg #[.int .i64 b.n, .int .u64 b.g, .int .i64 b.s0, .bool b.a0, .bool b.h0, .int .u64 b.t0, .int .i64 b.s1, .bool b.a1, .bool b.h1, .int .u64 b.t1], .int .i64 p] w fun e w' => e = .returned (.tuple #[.agg #[.int .i64 b.n, .int .u64 b.g, .int .i64 b.s0, .bool b.a0, .bool b.h0, .int .u64 b.t0, .int .i64 b.s1, .bool b.a1, .bool b.h1, .int .u64 b.t1], .int .i64 2]) ∧ Below w.heap.size w w' := by
  have H2 := Lib.hid h2
  have H3 := Lib.hid h3
  clear h2 h3
  go_enter Try.func33, Try.ntmps33
  go_wp2_with fail
  with_reducible refine (is36_bad p _ H2.out H3.out).mono ?_
  rintro e w' ⟨rfl, rfl⟩
  go_wp2_with fail
  go_returns
  exact ⟨rfl, by go_grown⟩

set_option maxRecDepth 100000 in
set_option maxHeartbeats 2000000 in
theorem join34_bad (b : Bk) (p : Int) (t : Int) (w : World) (h2 : p ≠ 0) (h3 : p ≠ 1) :
    Calls Try.prog 34 #[.agg #[.int .i64 b.n, .int .u64 b.g, .int .i64 b.s0, .bool b.a0, .bool b.h0, .int .u64 b.t0, .int .i64 b.s1, .bool b.a1, .bool b.h1, .int .u64 b.t1], .int .i64 p, .int .u64 t] w fun e w' => e = .returned (.tuple #[.agg #[.int .i64 b.n, .int .u64 b.g, .int .i64 b.s0, .bool b.a0, .bool b.h0, .int .u64 b.t0, .int .i64 b.s1, .bool b.a1, .bool b.h1, .int .u64 b.t1], .int .i64 2]) ∧ Below w.heap.size w w' := by
  have H2 := Lib.hid h2
  have H3 := Lib.hid h3
  clear h2 h3
  go_enter Try.func34, Try.ntmps34
  go_wp2_with fail
  with_reducible refine (is36_bad p _ H2.out H3.out).mono ?_
  rintro e w' ⟨rfl, rfl⟩
  go_wp2_with fail
  go_returns
  exact ⟨rfl, by go_grown⟩

set_option maxRecDepth 100000 in
set_option maxHeartbeats 2000000 in
theorem leave35_bad (b : Bk) (p : Int) (t : Int) (w : World) (h2 : p ≠ 0) (h3 : p ≠ 1) :
    Calls Try.prog 35 #[.agg #[.int .i64 b.n, .int .u64 b.g, .int .i64 b.s0, .bool b.a0, .bool b.h0, .int .u64 b.t0, .int .i64 b.s1, .bool b.a1, .bool b.h1, .int .u64 b.t1], .int .i64 p, .int .u64 t] w fun e w' => e = .returned (.tuple #[.agg #[.int .i64 b.n, .int .u64 b.g, .int .i64 b.s0, .bool b.a0, .bool b.h0, .int .u64 b.t0, .int .i64 b.s1, .bool b.a1, .bool b.h1, .int .u64 b.t1], .int .i64 2]) ∧ Below w.heap.size w w' := by
  have H2 := Lib.hid h2
  have H3 := Lib.hid h3
  clear h2 h3
  go_enter Try.func35, Try.ntmps35
  go_wp2_with fail
  with_reducible refine (is36_bad p _ H2.out H3.out).mono ?_
  rintro e w' ⟨rfl, rfl⟩
  go_wp2_with fail
  go_returns
  exact ⟨rfl, by go_grown⟩

end Go.Proofs.Ytobkgdhniibopaa
