/- The reference's books. -/
import Derived.Test.YtobkgdhniibopaaWr
namespace Go.Proofs.Ytobkgdhniibopaa
open Go.RowKit Plain
set_option linter.unusedVariables false
set_option linter.unusedSimpArgs false

/-- the cells of a reference's book -/
def rvl (b : Bk) : Array Value := #[.int .i64 b.n, .int .u64 b.g, .int .i64 b.s0, .bool b.a0, .bool b.h0, .int .u64 b.t0, .int .i64 b.s1, .bool b.a1, .bool b.h1, .int .u64 b.t1]
/-- block R of W is the reference's book b -/
def RefAt (W : World) (R : Nat) (b : Bk) : Prop := W.heap[R]? = some (.cells (rvl b) 37 (0, 0))
theorem RefAt.lt {W : World} {R : Nat} {b : Bk} (h : RefAt W R b) : R < W.heap.size := (Array.getElem?_eq_some_iff.1 h).1
theorem RefAt.cell {W : World} {R : Nat} {b : Bk} (h : RefAt W R b) (i : Nat) : W.cell? ⟨R, i, none⟩ = (rvl b)[i]? := cell_of_row W R i _ 37 (0, 0) h
theorem RefAt.free {W : World} {R : Nat} {b : Bk} (h : RefAt W R b) (i : Nat) : W.frozen? ⟨R, i, none⟩ = false := frozen_of_row W R i _ 37 h
theorem RefAt.below {W W' : World} {R : Nat} {b : Bk} (h : RefAt W R b) (hb : Below W.heap.size W W') : RefAt W' R b := (hb.block R h.lt).trans h
theorem RefAt.alloc {W : World} {R : Nat} {b : Bk} (h : RefAt W R b) (o : Obj) : RefAt (W.alloc o) R b := (Below.heap_alloc W o R h.lt).trans h
theorem RefAt.only {W W' : World} {R Q : Nat} {b : Bk} (h : RefAt W R b) (ho : Only Q W W') (hne : R ≠ Q) : RefAt W' R b := (ho.block R h.lt hne).trans h
theorem RefAt.new (W : World) (b : Bk) : RefAt (W.alloc (.cells (rvl b) 37)) W.heap.size b := heap_alloc_new W _

set_option maxRecDepth 100000 in
set_option maxHeartbeats 2000000 in
theorem new13 (n g t : Int) (w : World) :
    Calls Try.prog 13 #[.agg #[.int .i64 n, .int .u64 g], .int .u64 t] w fun e w' => e = .returned (.agg #[.int .i64 n, .int .u64 g, .int .i64 0, .bool false, .bool false, .int .u64 t, .int .i64 0, .bool false, .bool false, .int .u64 t]) ∧ Below w.heap.size w w' := by
  go_enter Try.func13, Try.ntmps13
  go_wp2_with fail
  go_returns
  exact ⟨rfl, by go_grown⟩

set_option maxRecDepth 100000 in
set_option maxHeartbeats 2000000 in
theorem is36_0 (w : World) : Calls Try.prog 36 #[.int .i64 0] w fun e w' => e = .returned (.bool true) ∧ w = w' := by
  go_enter Try.func36, Try.ntmps36
  go_wp2_with fail
  go_returns
  exact ⟨rfl, rfl⟩

set_option maxRecDepth 100000 in
set_option maxHeartbeats 2000000 in
theorem is36_1 (w : World) : Calls Try.prog 36 #[.int .i64 1] w fun e w' => e = .returned (.bool true) ∧ w = w' := by
  go_enter Try.func36, Try.ntmps36
  go_wp2_with fail
  go_returns
  exact ⟨rfl, rfl⟩

set_option maxRecDepth 100000 in
set_option maxHeartbeats 2000000 in
theorem is36_bad (p : Int) (w : World) (h2 : p ≠ 0) (h3 : p ≠ 1) : Calls Try.prog 36 #[.int .i64 p] w fun e w' => e = .returned (.bool false) ∧ w = w' := by
  have q0 : (p == 0) = false := by simpa using h2
  have q1 : (p == 1) = false := by simpa using h3
  clear h2 h3
  go_enter Try.func36, Try.ntmps36
  go_wp2_with fail
  go_returns
  exact ⟨rfl, rfl⟩

set_option maxRecDepth 100000 in
set_option maxHeartbeats 2000000 in
theorem due27_0 (b : Bk) (w : World) (ht : U b.t0) (hg : U b.g) :
    Calls Try.prog 27 #[.agg #[.int .i64 b.n, .int .u64 b.g, .int .i64 b.s0, .bool b.a0, .bool b.h0, .int .u64 b.t0, .int .i64 b.s1, .bool b.a1, .bool b.h1, .int .u64 b.t1], .int .i64 0] w fun e w' => e = .returned (.int .u64 b.d0) ∧ Below w.heap.size w w' := by
  have ⟨t0, t1⟩ := id ht
  have ⟨g0, g1⟩ := id hg
  cases hh : b.h0
  · by_cases hc : 18446744073709551615 - b.t0 ≤ b.g
    · have e1 : Hid (b.d0 = 18446744073709551615) := Lib.hid (by simp [Bk.d0, Plain.due, hh, addN]; omega)
      go_enter Try.func27, Try.ntmps27
      go_wp2_with fail
      with_reducible refine (is36_0 _).mono ?_
      rintro e w' ⟨rfl, rfl⟩
      go_wp2_with fail
      go_returns
      exact ⟨ret_int e1.out.symm, by go_grown⟩
    · have e1 : Hid (b.d0 = b.t0 + b.g) := Lib.hid (by simp [Bk.d0, Plain.due, hh, addN]; omega)
      go_enter Try.func27, Try.ntmps27
      go_wp2_with fail
      with_reducible refine (is36_0 _).mono ?_
      rintro e w' ⟨rfl, rfl⟩
      go_wp2_with fail
      go_returns
      exact ⟨ret_int e1.out.symm, by go_grown⟩
  · have e1 : Hid (b.d0 = 18446744073709551615) := Lib.hid (by simp [Bk.d0, Plain.due, hh])
    go_enter Try.func27, Try.ntmps27
    go_wp2_with fail
    with_reducible refine (is36_0 _).mono ?_
    rintro e w' ⟨rfl, rfl⟩
    go_wp2_with fail
    go_returns
    exact ⟨ret_int e1.out.symm, by go_grown⟩

theorem due27_0c (b : Bk) (d : Int) (w : World) (ht : U b.t0) (hg : U b.g) (hd : b.d0 = d) :
    Calls Try.prog 27 #[.agg #[.int .i64 b.n, .int .u64 b.g, .int .i64 b.s0, .bool b.a0, .bool b.h0, .int .u64 b.t0, .int .i64 b.s1, .bool b.a1, .bool b.h1, .int .u64 b.t1], .int .i64 0] w fun e w' => e = .returned (.int .u64 d) ∧ Below w.heap.size w w' := by
  subst hd
  exact due27_0 b w ht hg

set_option maxRecDepth 100000 in
set_option maxHeartbeats 2000000 in
theorem over37_0 (b : Bk) (t : Int) (w : World) (ht : U b.t0) (hg : U b.g) :
    Calls Try.prog 37 #[.agg #[.int .i64 b.n, .int .u64 b.g, .int .i64 b.s0, .bool b.a0, .bool b.h0, .int .u64 b.t0, .int .i64 b.s1, .bool b.a1, .bool b.h1, .int .u64 b.t1], .int .i64 0, .int .u64 t] w fun e w' => e = .returned (.bool (over b.d0 t)) ∧ Below w.heap.size w w' := by
  obtain ⟨d, hd⟩ : ∃ d, b.d0 = d := ⟨_, rfl⟩
  rw [hd]
  have D := Lib.hid hd
  clear hd
  cases h1 : (d != 18446744073709551615)
  · have e1 : Hid (over d t = false) := Lib.hid (by simp [over, h1])
    go_enter Try.func37, Try.ntmps37
    go_wp2_with fail
    with_reducible refine (due27_0c b _ _ ht hg D.out).mono ?_
    rintro e w1 ⟨rfl, hb_w1⟩
    have K_w1 : Kept w.heap.size w (w.heap.size + 1) [(w.heap.size, 0, .int .i64 b.n), (w.heap.size, 1, .int .u64 b.g), (w.heap.size, 2, .int .i64 b.s0), (w.heap.size, 3, .bool b.a0), (w.heap.size, 4, .bool b.h0), (w.heap.size, 5, .int .u64 b.t0), (w.heap.size, 6, .int .i64 b.s1), (w.heap.size, 7, .bool b.a1), (w.heap.size, 8, .bool b.h1), (w.heap.size, 9, .int .u64 b.t1)] w1 := Kept.of hb_w1 (by go_grown) (by go_size) (by omega) (by simp [go_sem] <;> omega)
    clear hb_w1
    have hw_w1 := K_w1.below
    have hz_w1 := K_w1.size
    have lR_w1 : w.heap.size < w1.heap.size := by omega
    have cR0_w1 := K_w1.at (b := w.heap.size) (o := 0) (v := .int .i64 b.n) (by simp)
    have fR0_w1 := K_w1.free (b := w.heap.size) (o := 0) (v := .int .i64 b.n) (by simp)
    have cR1_w1 := K_w1.at (b := w.heap.size) (o := 1) (v := .int .u64 b.g) (by simp)
    have fR1_w1 := K_w1.free (b := w.heap.size) (o := 1) (v := .int .u64 b.g) (by simp)
    have cR2_w1 := K_w1.at (b := w.heap.size) (o := 2) (v := .int .i64 b.s0) (by simp)
    have fR2_w1 := K_w1.free (b := w.heap.size) (o := 2) (v := .int .i64 b.s0) (by simp)
    have cR3_w1 := K_w1.at (b := w.heap.size) (o := 3) (v := .bool b.a0) (by simp)
    have fR3_w1 := K_w1.free (b := w.heap.size) (o := 3) (v := .bool b.a0) (by simp)
    have cR4_w1 := K_w1.at (b := w.heap.size) (o := 4) (v := .bool b.h0) (by simp)
    have fR4_w1 := K_w1.free (b := w.heap.size) (o := 4) (v := .bool b.h0) (by simp)
    have cR5_w1 := K_w1.at (b := w.heap.size) (o := 5) (v := .int .u64 b.t0) (by simp)
    have fR5_w1 := K_w1.free (b := w.heap.size) (o := 5) (v := .int .u64 b.t0) (by simp)
    have cR6_w1 := K_w1.at (b := w.heap.size) (o := 6) (v := .int .i64 b.s1) (by simp)
    have fR6_w1 := K_w1.free (b := w.heap.size) (o := 6) (v := .int .i64 b.s1) (by simp)
    have cR7_w1 := K_w1.at (b := w.heap.size) (o := 7) (v := .bool b.a1) (by simp)
    have fR7_w1 := K_w1.free (b := w.heap.size) (o := 7) (v := .bool b.a1) (by simp)
    have cR8_w1 := K_w1.at (b := w.heap.size) (o := 8) (v := .bool b.h1) (by simp)
    have fR8_w1 := K_w1.free (b := w.heap.size) (o := 8) (v := .bool b.h1) (by simp)
    have cR9_w1 := K_w1.at (b := w.heap.size) (o := 9) (v := .int .u64 b.t1) (by simp)
    have fR9_w1 := K_w1.free (b := w.heap.size) (o := 9) (v := .int .u64 b.t1) (by simp)
    clear K_w1
    go_wp2_with fail
    go_returns
    exact ⟨ret_bool (by rw [e1.out] <;> (simp; omega)), by go_grown⟩
  · by_cases h2 : d ≤ t
    · have e1 : Hid (over d t = true) := Lib.hid (by simp [over, h1, h2])
      go_enter Try.func37, Try.ntmps37
      go_wp2_with fail
      with_reducible refine (due27_0c b _ _ ht hg D.out).mono ?_
      rintro e w1 ⟨rfl, hb_w1⟩
      have K_w1 : Kept w.heap.size w (w.heap.size + 1) [(w.heap.size, 0, .int .i64 b.n), (w.heap.size, 1, .int .u64 b.g), (w.heap.size, 2, .int .i64 b.s0), (w.heap.size, 3, .bool b.a0), (w.heap.size, 4, .bool b.h0), (w.heap.size, 5, .int .u64 b.t0), (w.heap.size, 6, .int .i64 b.s1), (w.heap.size, 7, .bool b.a1), (w.heap.size, 8, .bool b.h1), (w.heap.size, 9, .int .u64 b.t1)] w1 := Kept.of hb_w1 (by go_grown) (by go_size) (by omega) (by simp [go_sem] <;> omega)
      clear hb_w1
      have hw_w1 := K_w1.below
      have hz_w1 := K_w1.size
      have lR_w1 : w.heap.size < w1.heap.size := by omega
      have cR0_w1 := K_w1.at (b := w.heap.size) (o := 0) (v := .int .i64 b.n) (by simp)
      have fR0_w1 := K_w1.free (b := w.heap.size) (o := 0) (v := .int .i64 b.n) (by simp)
      have cR1_w1 := K_w1.at (b := w.heap.size) (o := 1) (v := .int .u64 b.g) (by simp)
      have fR1_w1 := K_w1.free (b := w.heap.size) (o := 1) (v := .int .u64 b.g) (by simp)
      have cR2_w1 := K_w1.at (b := w.heap.size) (o := 2) (v := .int .i64 b.s0) (by simp)
      have fR2_w1 := K_w1.free (b := w.heap.size) (o := 2) (v := .int .i64 b.s0) (by simp)
      have cR3_w1 := K_w1.at (b := w.heap.size) (o := 3) (v := .bool b.a0) (by simp)
      have fR3_w1 := K_w1.free (b := w.heap.size) (o := 3) (v := .bool b.a0) (by simp)
      have cR4_w1 := K_w1.at (b := w.heap.size) (o := 4) (v := .bool b.h0) (by simp)
      have fR4_w1 := K_w1.free (b := w.heap.size) (o := 4) (v := .bool b.h0) (by simp)
      have cR5_w1 := K_w1.at (b := w.heap.size) (o := 5) (v := .int .u64 b.t0) (by simp)
      have fR5_w1 := K_w1.free (b := w.heap.size) (o := 5) (v := .int .u64 b.t0) (by simp)
      have cR6_w1 := K_w1.at (b := w.heap.size) (o := 6) (v := .int .i64 b.s1) (by simp)
      have fR6_w1 := K_w1.free (b := w.heap.size) (o := 6) (v := .int .i64 b.s1) (by simp)
      have cR7_w1 := K_w1.at (b := w.heap.size) (o := 7) (v := .bool b.a1) (by simp)
      have fR7_w1 := K_w1.free (b := w.heap.size) (o := 7) (v := .bool b.a1) (by simp)
      have cR8_w1 := K_w1.at (b := w.heap.size) (o := 8) (v := .bool b.h1) (by simp)
      have fR8_w1 := K_w1.free (b := w.heap.size) (o := 8) (v := .bool b.h1) (by simp)
      have cR9_w1 := K_w1.at (b := w.heap.size) (o := 9) (v := .int .u64 b.t1) (by simp)
      have fR9_w1 := K_w1.free (b := w.heap.size) (o := 9) (v := .int .u64 b.t1) (by simp)
      clear K_w1
      go_wp2_with fail
      with_reducible refine (due27_0c b _ _ ht hg D.out).mono ?_
      rintro e w2 ⟨rfl, hb_w2⟩
      have K_w2 : Kept w.heap.size w (w.heap.size + 1) [(w.heap.size, 0, .int .i64 b.n), (w.heap.size, 1, .int .u64 b.g), (w.heap.size, 2, .int .i64 b.s0), (w.heap.size, 3, .bool b.a0), (w.heap.size, 4, .bool b.h0), (w.heap.size, 5, .int .u64 b.t0), (w.heap.size, 6, .int .i64 b.s1), (w.heap.size, 7, .bool b.a1), (w.heap.size, 8, .bool b.h1), (w.heap.size, 9, .int .u64 b.t1)] w2 := Kept.of hb_w2 (by go_grown) (by go_size) (by omega) (by simp [go_sem, lR_w1, cR0_w1, fR0_w1, cR1_w1, fR1_w1, cR2_w1, fR2_w1, cR3_w1, fR3_w1, cR4_w1, fR4_w1, cR5_w1, fR5_w1, cR6_w1, fR6_w1, cR7_w1, fR7_w1, cR8_w1, fR8_w1, cR9_w1, fR9_w1] <;> omega)
      clear hb_w2
      have hw_w2 := K_w2.below
      have hz_w2 := K_w2.size
      have lR_w2 : w.heap.size < w2.heap.size := by omega
      have cR0_w2 := K_w2.at (b := w.heap.size) (o := 0) (v := .int .i64 b.n) (by simp)
      have fR0_w2 := K_w2.free (b := w.heap.size) (o := 0) (v := .int .i64 b.n) (by simp)
      have cR1_w2 := K_w2.at (b := w.heap.size) (o := 1) (v := .int .u64 b.g) (by simp)
      have fR1_w2 := K_w2.free (b := w.heap.size) (o := 1) (v := .int .u64 b.g) (by simp)
      have cR2_w2 := K_w2.at (b := w.heap.size) (o := 2) (v := .int .i64 b.s0) (by simp)
      have fR2_w2 := K_w2.free (b := w.heap.size) (o := 2) (v := .int .i64 b.s0) (by simp)
      have cR3_w2 := K_w2.at (b := w.heap.size) (o := 3) (v := .bool b.a0) (by simp)
      have fR3_w2 := K_w2.free (b := w.heap.size) (o := 3) (v := .bool b.a0) (by simp)
      have cR4_w2 := K_w2.at (b := w.heap.size) (o := 4) (v := .bool b.h0) (by simp)
      have fR4_w2 := K_w2.free (b := w.heap.size) (o := 4) (v := .bool b.h0) (by simp)
      have cR5_w2 := K_w2.at (b := w.heap.size) (o := 5) (v := .int .u64 b.t0) (by simp)
      have fR5_w2 := K_w2.free (b := w.heap.size) (o := 5) (v := .int .u64 b.t0) (by simp)
      have cR6_w2 := K_w2.at (b := w.heap.size) (o := 6) (v := .int .i64 b.s1) (by simp)
      have fR6_w2 := K_w2.free (b := w.heap.size) (o := 6) (v := .int .i64 b.s1) (by simp)
      have cR7_w2 := K_w2.at (b := w.heap.size) (o := 7) (v := .bool b.a1) (by simp)
      have fR7_w2 := K_w2.free (b := w.heap.size) (o := 7) (v := .bool b.a1) (by simp)
      have cR8_w2 := K_w2.at (b := w.heap.size) (o := 8) (v := .bool b.h1) (by simp)
      have fR8_w2 := K_w2.free (b := w.heap.size) (o := 8) (v := .bool b.h1) (by simp)
      have cR9_w2 := K_w2.at (b := w.heap.size) (o := 9) (v := .int .u64 b.t1) (by simp)
      have fR9_w2 := K_w2.free (b := w.heap.size) (o := 9) (v := .int .u64 b.t1) (by simp)
      clear lR_w1 cR0_w1 fR0_w1 cR1_w1 fR1_w1 cR2_w1 fR2_w1 cR3_w1 fR3_w1 cR4_w1 fR4_w1 cR5_w1 fR5_w1 cR6_w1 fR6_w1 cR7_w1 fR7_w1 cR8_w1 fR8_w1 cR9_w1 fR9_w1
      clear K_w2
      go_wp2_with fail
      go_returns
      exact ⟨ret_bool (by rw [e1.out] <;> (simp; omega)), by go_grown⟩
    · have e1 : Hid (over d t = false) := Lib.hid (by simp [over, h1, h2])
      go_enter Try.func37, Try.ntmps37
      go_wp2_with fail
      with_reducible refine (due27_0c b _ _ ht hg D.out).mono ?_
      rintro e w1 ⟨rfl, hb_w1⟩
      have K_w1 : Kept w.heap.size w (w.heap.size + 1) [(w.heap.size, 0, .int .i64 b.n), (w.heap.size, 1, .int .u64 b.g), (w.heap.size, 2, .int .i64 b.s0), (w.heap.size, 3, .bool b.a0), (w.heap.size, 4, .bool b.h0), (w.heap.size, 5, .int .u64 b.t0), (w.heap.size, 6, .int .i64 b.s1), (w.heap.size, 7, .bool b.a1), (w.heap.size, 8, .bool b.h1), (w.heap.size, 9, .int .u64 b.t1)] w1 := Kept.of hb_w1 (by go_grown) (by go_size) (by omega) (by simp [go_sem] <;> omega)
      clear hb_w1
      have hw_w1 := K_w1.below
      have hz_w1 := K_w1.size
      have lR_w1 : w.heap.size < w1.heap.size := by omega
      have cR0_w1 := K_w1.at (b := w.heap.size) (o := 0) (v := .int .i64 b.n) (by simp)
      have fR0_w1 := K_w1.free (b := w.heap.size) (o := 0) (v := .int .i64 b.n) (by simp)
      have cR1_w1 := K_w1.at (b := w.heap.size) (o := 1) (v := .int .u64 b.g) (by simp)
      have fR1_w1 := K_w1.free (b := w.heap.size) (o := 1) (v := .int .u64 b.g) (by simp)
      have cR2_w1 := K_w1.at (b := w.heap.size) (o := 2) (v := .int .i64 b.s0) (by simp)
      have fR2_w1 := K_w1.free (b := w.heap.size) (o := 2) (v := .int .i64 b.s0) (by simp)
      have cR3_w1 := K_w1.at (b := w.heap.size) (o := 3) (v := .bool b.a0) (by simp)
      have fR3_w1 := K_w1.free (b := w.heap.size) (o := 3) (v := .bool b.a0) (by simp)
      have cR4_w1 := K_w1.at (b := w.heap.size) (o := 4) (v := .bool b.h0) (by simp)
      have fR4_w1 := K_w1.free (b := w.heap.size) (o := 4) (v := .bool b.h0) (by simp)
      have cR5_w1 := K_w1.at (b := w.heap.size) (o := 5) (v := .int .u64 b.t0) (by simp)
      have fR5_w1 := K_w1.free (b := w.heap.size) (o := 5) (v := .int .u64 b.t0) (by simp)
      have cR6_w1 := K_w1.at (b := w.heap.size) (o := 6) (v := .int .i64 b.s1) (by simp)
      have fR6_w1 := K_w1.free (b := w.heap.size) (o := 6) (v := .int .i64 b.s1) (by simp)
      have cR7_w1 := K_w1.at (b := w.heap.size) (o := 7) (v := .bool b.a1) (by simp)
      have fR7_w1 := K_w1.free (b := w.heap.size) (o := 7) (v := .bool b.a1) (by simp)
      have cR8_w1 := K_w1.at (b := w.heap.size) (o := 8) (v := .bool b.h1) (by simp)
      have fR8_w1 := K_w1.free (b := w.heap.size) (o := 8) (v := .bool b.h1) (by simp)
      have cR9_w1 := K_w1.at (b := w.heap.size) (o := 9) (v := .int .u64 b.t1) (by simp)
      have fR9_w1 := K_w1.free (b := w.heap.size) (o := 9) (v := .int .u64 b.t1) (by simp)
      clear K_w1
      go_wp2_with fail
      with_reducible refine (due27_0c b _ _ ht hg D.out).mono ?_
      rintro e w2 ⟨rfl, hb_w2⟩
      have K_w2 : Kept w.heap.size w (w.heap.size + 1) [(w.heap.size, 0, .int .i64 b.n), (w.heap.size, 1, .int .u64 b.g), (w.heap.size, 2, .int .i64 b.s0), (w.heap.size, 3, .bool b.a0), (w.heap.size, 4, .bool b.h0), (w.heap.size, 5, .int .u64 b.t0), (w.heap.size, 6, .int .i64 b.s1), (w.heap.size, 7, .bool b.a1), (w.heap.size, 8, .bool b.h1), (w.heap.size, 9, .int .u64 b.t1)] w2 := Kept.of hb_w2 (by go_grown) (by go_size) (by omega) (by simp [go_sem, lR_w1, cR0_w1, fR0_w1, cR1_w1, fR1_w1, cR2_w1, fR2_w1, cR3_w1, fR3_w1, cR4_w1, fR4_w1, cR5_w1, fR5_w1, cR6_w1, fR6_w1, cR7_w1, fR7_w1, cR8_w1, fR8_w1, cR9_w1, fR9_w1] <;> omega)
      clear hb_w2
      have hw_w2 := K_w2.below
      have hz_w2 := K_w2.size
      have lR_w2 : w.heap.size < w2.heap.size := by omega
      have cR0_w2 := K_w2.at (b := w.heap.size) (o := 0) (v := .int .i64 b.n) (by simp)
      have fR0_w2 := K_w2.free (b := w.heap.size) (o := 0) (v := .int .i64 b.n) (by simp)
      have cR1_w2 := K_w2.at (b := w.heap.size) (o := 1) (v := .int .u64 b.g) (by simp)
      have fR1_w2 := K_w2.free (b := w.heap.size) (o := 1) (v := .int .u64 b.g) (by simp)
      have cR2_w2 := K_w2.at (b := w.heap.size) (o := 2) (v := .int .i64 b.s0) (by simp)
      have fR2_w2 := K_w2.free (b := w.heap.size) (o := 2) (v := .int .i64 b.s0) (by simp)
      have cR3_w2 := K_w2.at (b := w.heap.size) (o := 3) (v := .bool b.a0) (by simp)
      have fR3_w2 := K_w2.free (b := w.heap.size) (o := 3) (v := .bool b.a0) (by simp)
      have cR4_w2 := K_w2.at (b := w.heap.size) (o := 4) (v := .bool b.h0) (by simp)
      have fR4_w2 := K_w2.free (b := w.heap.size) (o := 4) (v := .bool b.h0) (by simp)
      have cR5_w2 := K_w2.at (b := w.heap.size) (o := 5) (v := .int .u64 b.t0) (by simp)
      have fR5_w2 := K_w2.free (b := w.heap.size) (o := 5) (v := .int .u64 b.t0) (by simp)
      have cR6_w2 := K_w2.at (b := w.heap.size) (o := 6) (v := .int .i64 b.s1) (by simp)
      have fR6_w2 := K_w2.free (b := w.heap.size) (o := 6) (v := .int .i64 b.s1) (by simp)
      have cR7_w2 := K_w2.at (b := w.heap.size) (o := 7) (v := .bool b.a1) (by simp)
      have fR7_w2 := K_w2.free (b := w.heap.size) (o := 7) (v := .bool b.a1) (by simp)
      have cR8_w2 := K_w2.at (b := w.heap.size) (o := 8) (v := .bool b.h1) (by simp)
      have fR8_w2 := K_w2.free (b := w.heap.size) (o := 8) (v := .bool b.h1) (by simp)
      have cR9_w2 := K_w2.at (b := w.heap.size) (o := 9) (v := .int .u64 b.t1) (by simp)
      have fR9_w2 := K_w2.free (b := w.heap.size) (o := 9) (v := .int .u64 b.t1) (by simp)
      clear lR_w1 cR0_w1 fR0_w1 cR1_w1 fR1_w1 cR2_w1 fR2_w1 cR3_w1 fR3_w1 cR4_w1 fR4_w1 cR5_w1 fR5_w1 cR6_w1 fR6_w1 cR7_w1 fR7_w1 cR8_w1 fR8_w1 cR9_w1 fR9_w1
      clear K_w2
      go_wp2_with fail
      go_returns
      exact ⟨ret_bool (by rw [e1.out] <;> (simp; omega)), by go_grown⟩

theorem over37_0c (b : Bk) (t : Int) (v : Bool) (w : World) (ht : U b.t0) (hg : U b.g) (hv : over b.d0 t = v) :
    Calls Try.prog 37 #[.agg #[.int .i64 b.n, .int .u64 b.g, .int .i64 b.s0, .bool b.a0, .bool b.h0, .int .u64 b.t0, .int .i64 b.s1, .bool b.a1, .bool b.h1, .int .u64 b.t1], .int .i64 0, .int .u64 t] w fun e w' => e = .returned (.bool v) ∧ Below w.heap.size w w' := by
  subst hv
  exact over37_0 b t w ht hg

set_option maxRecDepth 100000 in
set_option maxHeartbeats 2000000 in
theorem due27_1 (b : Bk) (w : World) (ht : U b.t1) (hg : U b.g) :
    Calls Try.prog 27 #[.agg #[.int .i64 b.n, .int .u64 b.g, .int .i64 b.s0, .bool b.a0, .bool b.h0, .int .u64 b.t0, .int .i64 b.s1, .bool b.a1, .bool b.h1, .int .u64 b.t1], .int .i64 1] w fun e w' => e = .returned (.int .u64 b.d1) ∧ Below w.heap.size w w' := by
  have ⟨t0, t1⟩ := id ht
  have ⟨g0, g1⟩ := id hg
  cases hh : b.h1
  · by_cases hc : 18446744073709551615 - b.t1 ≤ b.g
    · have e1 : Hid (b.d1 = 18446744073709551615) := Lib.hid (by simp [Bk.d1, Plain.due, hh, addN]; omega)
      go_enter Try.func27, Try.ntmps27
      go_wp2_with fail
      with_reducible refine (is36_1 _).mono ?_
      rintro e w' ⟨rfl, rfl⟩
      go_wp2_with fail
      go_returns
      exact ⟨ret_int e1.out.symm, by go_grown⟩
    · have e1 : Hid (b.d1 = b.t1 + b.g) := Lib.hid (by simp [Bk.d1, Plain.due, hh, addN]; omega)
      go_enter Try.func27, Try.ntmps27
      go_wp2_with fail
      with_reducible refine (is36_1 _).mono ?_
      rintro e w' ⟨rfl, rfl⟩
      go_wp2_with fail
      go_returns
      exact ⟨ret_int e1.out.symm, by go_grown⟩
  · have e1 : Hid (b.d1 = 18446744073709551615) := Lib.hid (by simp [Bk.d1, Plain.due, hh])
    go_enter Try.func27, Try.ntmps27
    go_wp2_with fail
    with_reducible refine (is36_1 _).mono ?_
    rintro e w' ⟨rfl, rfl⟩
    go_wp2_with fail
    go_returns
    exact ⟨ret_int e1.out.symm, by go_grown⟩

theorem due27_1c (b : Bk) (d : Int) (w : World) (ht : U b.t1) (hg : U b.g) (hd : b.d1 = d) :
    Calls Try.prog 27 #[.agg #[.int .i64 b.n, .int .u64 b.g, .int .i64 b.s0, .bool b.a0, .bool b.h0, .int .u64 b.t0, .int .i64 b.s1, .bool b.a1, .bool b.h1, .int .u64 b.t1], .int .i64 1] w fun e w' => e = .returned (.int .u64 d) ∧ Below w.heap.size w w' := by
  subst hd
  exact due27_1 b w ht hg

set_option maxRecDepth 100000 in
set_option maxHeartbeats 2000000 in
theorem over37_1 (b : Bk) (t : Int) (w : World) (ht : U b.t1) (hg : U b.g) :
    Calls Try.prog 37 #[.agg #[.int .i64 b.n, .int .u64 b.g, .int .i64 b.s0, .bool b.a0, .bool b.h0, .int .u64 b.t0, .int .i64 b.s1, .bool b.a1, .bool b.h1, .int .u64 b.t1], .int .i64 1, .int .u64 t] w fun e w' => e = .returned (.bool (over b.d1 t)) ∧ Below w.heap.size w w' := by
  obtain ⟨d, hd⟩ : ∃ d, b.d1 = d := ⟨_, rfl⟩
  rw [hd]
  have D := Lib.hid hd
  clear hd
  cases h1 : (d != 18446744073709551615)
  · have e1 : Hid (over d t = false) := Lib.hid (by simp [over, h1])
    go_enter Try.func37, Try.ntmps37
    go_wp2_with fail
    with_reducible refine (due27_1c b _ _ ht hg D.out).mono ?_
    rintro e w1 ⟨rfl, hb_w1⟩
    have K_w1 : Kept w.heap.size w (w.heap.size + 1) [(w.heap.size, 0, .int .i64 b.n), (w.heap.size, 1, .int .u64 b.g), (w.heap.size, 2, .int .i64 b.s0), (w.heap.size, 3, .bool b.a0), (w.heap.size, 4, .bool b.h0), (w.heap.size, 5, .int .u64 b.t0), (w.heap.size, 6, .int .i64 b.s1), (w.heap.size, 7, .bool b.a1), (w.heap.size, 8, .bool b.h1), (w.heap.size, 9, .int .u64 b.t1)] w1 := Kept.of hb_w1 (by go_grown) (by go_size) (by omega) (by simp [go_sem] <;> omega)
    clear hb_w1
    have hw_w1 := K_w1.below
    have hz_w1 := K_w1.size
    have lR_w1 : w.heap.size < w1.heap.size := by omega
    have cR0_w1 := K_w1.at (b := w.heap.size) (o := 0) (v := .int .i64 b.n) (by simp)
    have fR0_w1 := K_w1.free (b := w.heap.size) (o := 0) (v := .int .i64 b.n) (by simp)
    have cR1_w1 := K_w1.at (b := w.heap.size) (o := 1) (v := .int .u64 b.g) (by simp)
    have fR1_w1 := K_w1.free (b := w.heap.size) (o := 1) (v := .int .u64 b.g) (by simp)
    have cR2_w1 := K_w1.at (b := w.heap.size) (o := 2) (v := .int .i64 b.s0) (by simp)
    have fR2_w1 := K_w1.free (b := w.heap.size) (o := 2) (v := .int .i64 b.s0) (by simp)
    have cR3_w1 := K_w1.at (b := w.heap.size) (o := 3) (v := .bool b.a0) (by simp)
    have fR3_w1 := K_w1.free (b := w.heap.size) (o := 3) (v := .bool b.a0) (by simp)
    have cR4_w1 := K_w1.at (b := w.heap.size) (o := 4) (v := .bool b.h0) (by simp)
    have fR4_w1 := K_w1.free (b := w.heap.size) (o := 4) (v := .bool b.h0) (by simp)
    have cR5_w1 := K_w1.at (b := w.heap.size) (o := 5) (v := .int .u64 b.t0) (by simp)
    have fR5_w1 := K_w1.free (b := w.heap.size) (o := 5) (v := .int .u64 b.t0) (by simp)
    have cR6_w1 := K_w1.at (b := w.heap.size) (o := 6) (v := .int .i64 b.s1) (by simp)
    have fR6_w1 := K_w1.free (b := w.heap.size) (o := 6) (v := .int .i64 b.s1) (by simp)
    have cR7_w1 := K_w1.at (b := w.heap.size) (o := 7) (v := .bool b.a1) (by simp)
    have fR7_w1 := K_w1.free (b := w.heap.size) (o := 7) (v := .bool b.a1) (by simp)
    have cR8_w1 := K_w1.at (b := w.heap.size) (o := 8) (v := .bool b.h1) (by simp)
    have fR8_w1 := K_w1.free (b := w.heap.size) (o := 8) (v := .bool b.h1) (by simp)
    have cR9_w1 := K_w1.at (b := w.heap.size) (o := 9) (v := .int .u64 b.t1) (by simp)
    have fR9_w1 := K_w1.free (b := w.heap.size) (o := 9) (v := .int .u64 b.t1) (by simp)
    clear K_w1
    go_wp2_with fail
    go_returns
    exact ⟨ret_bool (by rw [e1.out] <;> (simp; omega)), by go_grown⟩
  · by_cases h2 : d ≤ t
    · have e1 : Hid (over d t = true) := Lib.hid (by simp [over, h1, h2])
      go_enter Try.func37, Try.ntmps37
      go_wp2_with fail
      with_reducible refine (due27_1c b _ _ ht hg D.out).mono ?_
      rintro e w1 ⟨rfl, hb_w1⟩
      have K_w1 : Kept w.heap.size w (w.heap.size + 1) [(w.heap.size, 0, .int .i64 b.n), (w.heap.size, 1, .int .u64 b.g), (w.heap.size, 2, .int .i64 b.s0), (w.heap.size, 3, .bool b.a0), (w.heap.size, 4, .bool b.h0), (w.heap.size, 5, .int .u64 b.t0), (w.heap.size, 6, .int .i64 b.s1), (w.heap.size, 7, .bool b.a1), (w.heap.size, 8, .bool b.h1), (w.heap.size, 9, .int .u64 b.t1)] w1 := Kept.of hb_w1 (by go_grown) (by go_size) (by omega) (by simp [go_sem] <;> omega)
      clear hb_w1
      have hw_w1 := K_w1.below
      have hz_w1 := K_w1.size
      have lR_w1 : w.heap.size < w1.heap.size := by omega
      have cR0_w1 := K_w1.at (b := w.heap.size) (o := 0) (v := .int .i64 b.n) (by simp)
      have fR0_w1 := K_w1.free (b := w.heap.size) (o := 0) (v := .int .i64 b.n) (by simp)
      have cR1_w1 := K_w1.at (b := w.heap.size) (o := 1) (v := .int .u64 b.g) (by simp)
      have fR1_w1 := K_w1.free (b := w.heap.size) (o := 1) (v := .int .u64 b.g) (by simp)
      have cR2_w1 := K_w1.at (b := w.heap.size) (o := 2) (v := .int .i64 b.s0) (by simp)
      have fR2_w1 := K_w1.free (b := w.heap.size) (o := 2) (v := .int .i64 b.s0) (by simp)
      have cR3_w1 := K_w1.at (b := w.heap.size) (o := 3) (v := .bool b.a0) (by simp)
      have fR3_w1 := K_w1.free (b := w.heap.size) (o := 3) (v := .bool b.a0) (by simp)
      have cR4_w1 := K_w1.at (b := w.heap.size) (o := 4) (v := .bool b.h0) (by simp)
      have fR4_w1 := K_w1.free (b := w.heap.size) (o := 4) (v := .bool b.h0) (by simp)
      have cR5_w1 := K_w1.at (b := w.heap.size) (o := 5) (v := .int .u64 b.t0) (by simp)
      have fR5_w1 := K_w1.free (b := w.heap.size) (o := 5) (v := .int .u64 b.t0) (by simp)
      have cR6_w1 := K_w1.at (b := w.heap.size) (o := 6) (v := .int .i64 b.s1) (by simp)
      have fR6_w1 := K_w1.free (b := w.heap.size) (o := 6) (v := .int .i64 b.s1) (by simp)
      have cR7_w1 := K_w1.at (b := w.heap.size) (o := 7) (v := .bool b.a1) (by simp)
      have fR7_w1 := K_w1.free (b := w.heap.size) (o := 7) (v := .bool b.a1) (by simp)
      have cR8_w1 := K_w1.at (b := w.heap.size) (o := 8) (v := .bool b.h1) (by simp)
      have fR8_w1 := K_w1.free (b := w.heap.size) (o := 8) (v := .bool b.h1) (by simp)
      have cR9_w1 := K_w1.at (b := w.heap.size) (o := 9) (v := .int .u64 b.t1) (by simp)
      have fR9_w1 := K_w1.free (b := w.heap.size) (o := 9) (v := .int .u64 b.t1) (by simp)
      clear K_w1
      go_wp2_with fail
      with_reducible refine (due27_1c b _ _ ht hg D.out).mono ?_
      rintro e w2 ⟨rfl, hb_w2⟩
      have K_w2 : Kept w.heap.size w (w.heap.size + 1) [(w.heap.size, 0, .int .i64 b.n), (w.heap.size, 1, .int .u64 b.g), (w.heap.size, 2, .int .i64 b.s0), (w.heap.size, 3, .bool b.a0), (w.heap.size, 4, .bool b.h0), (w.heap.size, 5, .int .u64 b.t0), (w.heap.size, 6, .int .i64 b.s1), (w.heap.size, 7, .bool b.a1), (w.heap.size, 8, .bool b.h1), (w.heap.size, 9, .int .u64 b.t1)] w2 := Kept.of hb_w2 (by go_grown) (by go_size) (by omega) (by simp [go_sem, lR_w1, cR0_w1, fR0_w1, cR1_w1, fR1_w1, cR2_w1, fR2_w1, cR3_w1, fR3_w1, cR4_w1, fR4_w1, cR5_w1, fR5_w1, cR6_w1, fR6_w1, cR7_w1, fR7_w1, cR8_w1, fR8_w1, cR9_w1, fR9_w1] <;> omega)
      clear hb_w2
      have hw_w2 := K_w2.below
      have hz_w2 := K_w2.size
      have lR_w2 : w.heap.size < w2.heap.size := by omega
      have cR0_w2 := K_w2.at (b := w.heap.size) (o := 0) (v := .int .i64 b.n) (by simp)
      have fR0_w2 := K_w2.free (b := w.heap.size) (o := 0) (v := .int .i64 b.n) (by simp)
      have cR1_w2 := K_w2.at (b := w.heap.size) (o := 1) (v := .int .u64 b.g) (by simp)
      have fR1_w2 := K_w2.free (b := w.heap.size) (o := 1) (v := .int .u64 b.g) (by simp)
      have cR2_w2 := K_w2.at (b := w.heap.size) (o := 2) (v := .int .i64 b.s0) (by simp)
      have fR2_w2 := K_w2.free (b := w.heap.size) (o := 2) (v := .int .i64 b.s0) (by simp)
      have cR3_w2 := K_w2.at (b := w.heap.size) (o := 3) (v := .bool b.a0) (by simp)
      have fR3_w2 := K_w2.free (b := w.heap.size) (o := 3) (v := .bool b.a0) (by simp)
      have cR4_w2 := K_w2.at (b := w.heap.size) (o := 4) (v := .bool b.h0) (by simp)
      have fR4_w2 := K_w2.free (b := w.heap.size) (o := 4) (v := .bool b.h0) (by simp)
      have cR5_w2 := K_w2.at (b := w.heap.size) (o := 5) (v := .int .u64 b.t0) (by simp)
      have fR5_w2 := K_w2.free (b := w.heap.size) (o := 5) (v := .int .u64 b.t0) (by simp)
      have cR6_w2 := K_w2.at (b := w.heap.size) (o := 6) (v := .int .i64 b.s1) (by simp)
      have fR6_w2 := K_w2.free (b := w.heap.size) (o := 6) (v := .int .i64 b.s1) (by simp)
      have cR7_w2 := K_w2.at (b := w.heap.size) (o := 7) (v := .bool b.a1) (by simp)
      have fR7_w2 := K_w2.free (b := w.heap.size) (o := 7) (v := .bool b.a1) (by simp)
      have cR8_w2 := K_w2.at (b := w.heap.size) (o := 8) (v := .bool b.h1) (by simp)
      have fR8_w2 := K_w2.free (b := w.heap.size) (o := 8) (v := .bool b.h1) (by simp)
      have cR9_w2 := K_w2.at (b := w.heap.size) (o := 9) (v := .int .u64 b.t1) (by simp)
      have fR9_w2 := K_w2.free (b := w.heap.size) (o := 9) (v := .int .u64 b.t1) (by simp)
      clear lR_w1 cR0_w1 fR0_w1 cR1_w1 fR1_w1 cR2_w1 fR2_w1 cR3_w1 fR3_w1 cR4_w1 fR4_w1 cR5_w1 fR5_w1 cR6_w1 fR6_w1 cR7_w1 fR7_w1 cR8_w1 fR8_w1 cR9_w1 fR9_w1
      clear K_w2
      go_wp2_with fail
      go_returns
      exact ⟨ret_bool (by rw [e1.out] <;> (simp; omega)), by go_grown⟩
    · have e1 : Hid (over d t = false) := Lib.hid (by simp [over, h1, h2])
      go_enter Try.func37, Try.ntmps37
      go_wp2_with fail
      with_reducible refine (due27_1c b _ _ ht hg D.out).mono ?_
      rintro e w1 ⟨rfl, hb_w1⟩
      have K_w1 : Kept w.heap.size w (w.heap.size + 1) [(w.heap.size, 0, .int .i64 b.n), (w.heap.size, 1, .int .u64 b.g), (w.heap.size, 2, .int .i64 b.s0), (w.heap.size, 3, .bool b.a0), (w.heap.size, 4, .bool b.h0), (w.heap.size, 5, .int .u64 b.t0), (w.heap.size, 6, .int .i64 b.s1), (w.heap.size, 7, .bool b.a1), (w.heap.size, 8, .bool b.h1), (w.heap.size, 9, .int .u64 b.t1)] w1 := Kept.of hb_w1 (by go_grown) (by go_size) (by omega) (by simp [go_sem] <;> omega)
      clear hb_w1
      have hw_w1 := K_w1.below
      have hz_w1 := K_w1.size
      have lR_w1 : w.heap.size < w1.heap.size := by omega
      have cR0_w1 := K_w1.at (b := w.heap.size) (o := 0) (v := .int .i64 b.n) (by simp)
      have fR0_w1 := K_w1.free (b := w.heap.size) (o := 0) (v := .int .i64 b.n) (by simp)
      have cR1_w1 := K_w1.at (b := w.heap.size) (o := 1) (v := .int .u64 b.g) (by simp)
      have fR1_w1 := K_w1.free (b := w.heap.size) (o := 1) (v := .int .u64 b.g) (by simp)
      have cR2_w1 := K_w1.at (b := w.heap.size) (o := 2) (v := .int .i64 b.s0) (by simp)
      have fR2_w1 := K_w1.free (b := w.heap.size) (o := 2) (v := .int .i64 b.s0) (by simp)
      have cR3_w1 := K_w1.at (b := w.heap.size) (o := 3) (v := .bool b.a0) (by simp)
      have fR3_w1 := K_w1.free (b := w.heap.size) (o := 3) (v := .bool b.a0) (by simp)
      have cR4_w1 := K_w1.at (b := w.heap.size) (o := 4) (v := .bool b.h0) (by simp)
      have fR4_w1 := K_w1.free (b := w.heap.size) (o := 4) (v := .bool b.h0) (by simp)
      have cR5_w1 := K_w1.at (b := w.heap.size) (o := 5) (v := .int .u64 b.t0) (by simp)
      have fR5_w1 := K_w1.free (b := w.heap.size) (o := 5) (v := .int .u64 b.t0) (by simp)
      have cR6_w1 := K_w1.at (b := w.heap.size) (o := 6) (v := .int .i64 b.s1) (by simp)
      have fR6_w1 := K_w1.free (b := w.heap.size) (o := 6) (v := .int .i64 b.s1) (by simp)
      have cR7_w1 := K_w1.at (b := w.heap.size) (o := 7) (v := .bool b.a1) (by simp)
      have fR7_w1 := K_w1.free (b := w.heap.size) (o := 7) (v := .bool b.a1) (by simp)
      have cR8_w1 := K_w1.at (b := w.heap.size) (o := 8) (v := .bool b.h1) (by simp)
      have fR8_w1 := K_w1.free (b := w.heap.size) (o := 8) (v := .bool b.h1) (by simp)
      have cR9_w1 := K_w1.at (b := w.heap.size) (o := 9) (v := .int .u64 b.t1) (by simp)
      have fR9_w1 := K_w1.free (b := w.heap.size) (o := 9) (v := .int .u64 b.t1) (by simp)
      clear K_w1
      go_wp2_with fail
      with_reducible refine (due27_1c b _ _ ht hg D.out).mono ?_
      rintro e w2 ⟨rfl, hb_w2⟩
      have K_w2 : Kept w.heap.size w (w.heap.size + 1) [(w.heap.size, 0, .int .i64 b.n), (w.heap.size, 1, .int .u64 b.g), (w.heap.size, 2, .int .i64 b.s0), (w.heap.size, 3, .bool b.a0), (w.heap.size, 4, .bool b.h0), (w.heap.size, 5, .int .u64 b.t0), (w.heap.size, 6, .int .i64 b.s1), (w.heap.size, 7, .bool b.a1), (w.heap.size, 8, .bool b.h1), (w.heap.size, 9, .int .u64 b.t1)] w2 := Kept.of hb_w2 (by go_grown) (by go_size) (by omega) (by simp [go_sem, lR_w1, cR0_w1, fR0_w1, cR1_w1, fR1_w1, cR2_w1, fR2_w1, cR3_w1, fR3_w1, cR4_w1, fR4_w1, cR5_w1, fR5_w1, cR6_w1, fR6_w1, cR7_w1, fR7_w1, cR8_w1, fR8_w1, cR9_w1, fR9_w1] <;> omega)
      clear hb_w2
      have hw_w2 := K_w2.below
      have hz_w2 := K_w2.size
      have lR_w2 : w.heap.size < w2.heap.size := by omega
      have cR0_w2 := K_w2.at (b := w.heap.size) (o := 0) (v := .int .i64 b.n) (by simp)
      have fR0_w2 := K_w2.free (b := w.heap.size) (o := 0) (v := .int .i64 b.n) (by simp)
      have cR1_w2 := K_w2.at (b := w.heap.size) (o := 1) (v := .int .u64 b.g) (by simp)
      have fR1_w2 := K_w2.free (b := w.heap.size) (o := 1) (v := .int .u64 b.g) (by simp)
      have cR2_w2 := K_w2.at (b := w.heap.size) (o := 2) (v := .int .i64 b.s0) (by simp)
      have fR2_w2 := K_w2.free (b := w.heap.size) (o := 2) (v := .int .i64 b.s0) (by simp)
      have cR3_w2 := K_w2.at (b := w.heap.size) (o := 3) (v := .bool b.a0) (by simp)
      have fR3_w2 := K_w2.free (b := w.heap.size) (o := 3) (v := .bool b.a0) (by simp)
      have cR4_w2 := K_w2.at (b := w.heap.size) (o := 4) (v := .bool b.h0) (by simp)
      have fR4_w2 := K_w2.free (b := w.heap.size) (o := 4) (v := .bool b.h0) (by simp)
      have cR5_w2 := K_w2.at (b := w.heap.size) (o := 5) (v := .int .u64 b.t0) (by simp)
      have fR5_w2 := K_w2.free (b := w.heap.size) (o := 5) (v := .int .u64 b.t0) (by simp)
      have cR6_w2 := K_w2.at (b := w.heap.size) (o := 6) (v := .int .i64 b.s1) (by simp)
      have fR6_w2 := K_w2.free (b := w.heap.size) (o := 6) (v := .int .i64 b.s1) (by simp)
      have cR7_w2 := K_w2.at (b := w.heap.size) (o := 7) (v := .bool b.a1) (by simp)
      have fR7_w2 := K_w2.free (b := w.heap.size) (o := 7) (v := .bool b.a1) (by simp)
      have cR8_w2 := K_w2.at (b := w.heap.size) (o := 8) (v := .bool b.h1) (by simp)
      have fR8_w2 := K_w2.free (b := w.heap.size) (o := 8) (v := .bool b.h1) (by simp)
      have cR9_w2 := K_w2.at (b := w.heap.size) (o := 9) (v := .int .u64 b.t1) (by simp)
      have fR9_w2 := K_w2.free (b := w.heap.size) (o := 9) (v := .int .u64 b.t1) (by simp)
      clear lR_w1 cR0_w1 fR0_w1 cR1_w1 fR1_w1 cR2_w1 fR2_w1 cR3_w1 fR3_w1 cR4_w1 fR4_w1 cR5_w1 fR5_w1 cR6_w1 fR6_w1 cR7_w1 fR7_w1 cR8_w1 fR8_w1 cR9_w1 fR9_w1
      clear K_w2
      go_wp2_with fail
      go_returns
      exact ⟨ret_bool (by rw [e1.out] <;> (simp; omega)), by go_grown⟩

theorem over37_1c (b : Bk) (t : Int) (v : Bool) (w : World) (ht : U b.t1) (hg : U b.g) (hv : over b.d1 t = v) :
    Calls Try.prog 37 #[.agg #[.int .i64 b.n, .int .u64 b.g, .int .i64 b.s0, .bool b.a0, .bool b.h0, .int .u64 b.t0, .int .i64 b.s1, .bool b.a1, .bool b.h1, .int .u64 b.t1], .int .i64 1, .int .u64 t] w fun e w' => e = .returned (.bool v) ∧ Below w.heap.size w w' := by
  subst hv
  exact over37_1 b t w ht hg

set_option maxRecDepth 100000 in
set_option maxHeartbeats 2000000 in
theorem due27_bad (b : Bk) (p : Int) (w : World) (h2 : p ≠ 0) (h3 : p ≠ 1) :
    Calls Try.prog 27 #[.agg #[.int .i64 b.n, .int .u64 b.g, .int .i64 b.s0, .bool b.a0, .bool b.h0, .int .u64 b.t0, .int .i64 b.s1, .bool b.a1, .bool b.h1, .int .u64 b.t1], .int .i64 p] w fun e w' => e = .returned (.int .u64 18446744073709551615) ∧ Below w.heap.size w w' := by
  have H2 := Lib.hid h2
  have H3 := Lib.hid h3
  clear h2 h3
  go_enter Try.func27, Try.ntmps27
  go_wp2_with fail
  with_reducible refine (is36_bad p _ H2.out H3.out).mono ?_
  rintro e w' ⟨rfl, rfl⟩
  go_wp2_with fail
  go_returns
  exact ⟨rfl, by go_grown⟩

theorem lost_eq (d e t : Int) (hd : d ≤ 18446744073709551615) (he : e ≤ 18446744073709551615) : lost d e t = if over d t = true ∧ over e t = true ∧ d = e then 2 else if over d t = true ∧ d < e then 0 else if over e t = true then 1 else -1 := by
  simp only [lost, over, Bool.and_eq_false_iff, Bool.and_eq_true, bne_eq_false_iff_eq, bne_iff_ne, decide_eq_true_eq, decide_eq_false_iff_not]
  rcases Int.lt_trichotomy d e with h | h | h <;> (repeat' split) <;> omega

set_option maxRecDepth 100000 in
set_option maxHeartbeats 4000000 in
theorem lost28_ff (b : Bk) (t d0 d1 : Int) (w : World) (ht0 : U b.t0) (ht1 : U b.t1) (hg : U b.g) (D0 : Hid (b.d0 = d0)) (D1 : Hid (b.d1 = d1)) (V0 : Hid (over b.d0 t = false)) (V1 : Hid (over b.d1 t = false)) (e1 : Hid (lost d0 d1 t = -1)) :
    Calls Try.prog 28 #[.agg #[.int .i64 b.n, .int .u64 b.g, .int .i64 b.s0, .bool b.a0, .bool b.h0, .int .u64 b.t0, .int .i64 b.s1, .bool b.a1, .bool b.h1, .int .u64 b.t1], .int .u64 t] w fun e w' => e = .returned (.int .i64 (lost d0 d1 t)) ∧ Below w.heap.size w w' := by
  go_enter Try.func28, Try.ntmps28
  go_wp2_with fail
  refine wp_region_keptX (w := w) (B := w.heap.size) (n := w.heap.size + 1) (L := []) (E := fun W => RefAt W w.heap.size b) ⟨by go_grown, by go_size, (by simp [go_sem] <;> omega)⟩ (RefAt.new w b) (fun _ _ h hb => h.below hb) (by kernel_rfl) (by kernel_rfl) (fun _ne => ?_)
  have r0 : ∀ s : KX (w.heap.size) w (w.heap.size + 1) [] (fun W => RefAt W w.heap.size b), s.val.cell? ⟨w.heap.size, 0, none⟩ = some (.int .i64 b.n) := fun s => s.ex.cell 0
  have r1 : ∀ s : KX (w.heap.size) w (w.heap.size + 1) [] (fun W => RefAt W w.heap.size b), s.val.cell? ⟨w.heap.size, 1, none⟩ = some (.int .u64 b.g) := fun s => s.ex.cell 1
  have r2 : ∀ s : KX (w.heap.size) w (w.heap.size + 1) [] (fun W => RefAt W w.heap.size b), s.val.cell? ⟨w.heap.size, 2, none⟩ = some (.int .i64 b.s0) := fun s => s.ex.cell 2
  have r3 : ∀ s : KX (w.heap.size) w (w.heap.size + 1) [] (fun W => RefAt W w.heap.size b), s.val.cell? ⟨w.heap.size, 3, none⟩ = some (.bool b.a0) := fun s => s.ex.cell 3
  have r4 : ∀ s : KX (w.heap.size) w (w.heap.size + 1) [] (fun W => RefAt W w.heap.size b), s.val.cell? ⟨w.heap.size, 4, none⟩ = some (.bool b.h0) := fun s => s.ex.cell 4
  have r5 : ∀ s : KX (w.heap.size) w (w.heap.size + 1) [] (fun W => RefAt W w.heap.size b), s.val.cell? ⟨w.heap.size, 5, none⟩ = some (.int .u64 b.t0) := fun s => s.ex.cell 5
  have r6 : ∀ s : KX (w.heap.size) w (w.heap.size + 1) [] (fun W => RefAt W w.heap.size b), s.val.cell? ⟨w.heap.size, 6, none⟩ = some (.int .i64 b.s1) := fun s => s.ex.cell 6
  have r7 : ∀ s : KX (w.heap.size) w (w.heap.size + 1) [] (fun W => RefAt W w.heap.size b), s.val.cell? ⟨w.heap.size, 7, none⟩ = some (.bool b.a1) := fun s => s.ex.cell 7
  have r8 : ∀ s : KX (w.heap.size) w (w.heap.size + 1) [] (fun W => RefAt W w.heap.size b), s.val.cell? ⟨w.heap.size, 8, none⟩ = some (.bool b.h1) := fun s => s.ex.cell 8
  have r9 : ∀ s : KX (w.heap.size) w (w.heap.size + 1) [] (fun W => RefAt W w.heap.size b), s.val.cell? ⟨w.heap.size, 9, none⟩ = some (.int .u64 b.t1) := fun s => s.ex.cell 9
  repeat (go_big_quiet_step (first | (go_at_call 37; rename_i s; with_reducible exact calls_keptX (by omega) (fun _ _ h hb => h.below hb) (over37_0c b t _ _ ht0 hg V0.out)) | (go_at_call 37; rename_i s; with_reducible exact calls_keptX (by omega) (fun _ _ h hb => h.below hb) (over37_1c b t _ _ ht1 hg V1.out)) | (go_at_call 27; rename_i s; with_reducible exact calls_keptX (by omega) (fun _ _ h hb => h.below hb) (due27_0c b _ _ ht0 hg D0.out)) | (go_at_call 27; rename_i s; with_reducible exact calls_keptX (by omega) (fun _ _ h hb => h.below hb) (due27_1c b _ _ ht1 hg D1.out))))
  refine wpQuiet_nil ?_
  rintro w1 ⟨⟨_, K_w1, E_w1⟩, rfl⟩
  clear _ne r0 r1 r2 r3 r4 r5 r6 r7 r8 r9
  have hw_w1 := K_w1.below
  have hz_w1 := K_w1.size
  clear K_w1
  have E1 := Lib.hid E_w1
  clear E_w1
  go_wp2_with fail
  refine wp_region_keptX (w := w) (B := w.heap.size) (n := w.heap.size + 1) (L := []) (E := fun W => RefAt W w.heap.size b) ⟨by go_grown, by go_size, (by simp [go_sem] <;> omega)⟩ E1.out (fun _ _ h hb => h.below hb) (by kernel_rfl) (by kernel_rfl) (fun _ne => ?_)
  have r0 : ∀ s : KX (w.heap.size) w (w.heap.size + 1) [] (fun W => RefAt W w.heap.size b), s.val.cell? ⟨w.heap.size, 0, none⟩ = some (.int .i64 b.n) := fun s => s.ex.cell 0
  have r1 : ∀ s : KX (w.heap.size) w (w.heap.size + 1) [] (fun W => RefAt W w.heap.size b), s.val.cell? ⟨w.heap.size, 1, none⟩ = some (.int .u64 b.g) := fun s => s.ex.cell 1
  have r2 : ∀ s : KX (w.heap.size) w (w.heap.size + 1) [] (fun W => RefAt W w.heap.size b), s.val.cell? ⟨w.heap.size, 2, none⟩ = some (.int .i64 b.s0) := fun s => s.ex.cell 2
  have r3 : ∀ s : KX (w.heap.size) w (w.heap.size + 1) [] (fun W => RefAt W w.heap.size b), s.val.cell? ⟨w.heap.size, 3, none⟩ = some (.bool b.a0) := fun s => s.ex.cell 3
  have r4 : ∀ s : KX (w.heap.size) w (w.heap.size + 1) [] (fun W => RefAt W w.heap.size b), s.val.cell? ⟨w.heap.size, 4, none⟩ = some (.bool b.h0) := fun s => s.ex.cell 4
  have r5 : ∀ s : KX (w.heap.size) w (w.heap.size + 1) [] (fun W => RefAt W w.heap.size b), s.val.cell? ⟨w.heap.size, 5, none⟩ = some (.int .u64 b.t0) := fun s => s.ex.cell 5
  have r6 : ∀ s : KX (w.heap.size) w (w.heap.size + 1) [] (fun W => RefAt W w.heap.size b), s.val.cell? ⟨w.heap.size, 6, none⟩ = some (.int .i64 b.s1) := fun s => s.ex.cell 6
  have r7 : ∀ s : KX (w.heap.size) w (w.heap.size + 1) [] (fun W => RefAt W w.heap.size b), s.val.cell? ⟨w.heap.size, 7, none⟩ = some (.bool b.a1) := fun s => s.ex.cell 7
  have r8 : ∀ s : KX (w.heap.size) w (w.heap.size + 1) [] (fun W => RefAt W w.heap.size b), s.val.cell? ⟨w.heap.size, 8, none⟩ = some (.bool b.h1) := fun s => s.ex.cell 8
  have r9 : ∀ s : KX (w.heap.size) w (w.heap.size + 1) [] (fun W => RefAt W w.heap.size b), s.val.cell? ⟨w.heap.size, 9, none⟩ = some (.int .u64 b.t1) := fun s => s.ex.cell 9
  repeat (go_big_quiet_step (first | (go_at_call 37; rename_i s; with_reducible exact calls_keptX (by omega) (fun _ _ h hb => h.below hb) (over37_0c b t _ _ ht0 hg V0.out)) | (go_at_call 37; rename_i s; with_reducible exact calls_keptX (by omega) (fun _ _ h hb => h.below hb) (over37_1c b t _ _ ht1 hg V1.out)) | (go_at_call 27; rename_i s; with_reducible exact calls_keptX (by omega) (fun _ _ h hb => h.below hb) (due27_0c b _ _ ht0 hg D0.out)) | (go_at_call 27; rename_i s; with_reducible exact calls_keptX (by omega) (fun _ _ h hb => h.below hb) (due27_1c b _ _ ht1 hg D1.out))))
  refine wpQuiet_nil ?_
  rintro w2 ⟨⟨_, K_w2, E_w2⟩, rfl⟩
  clear _ne r0 r1 r2 r3 r4 r5 r6 r7 r8 r9
  have hw_w2 := K_w2.below
  have hz_w2 := K_w2.size
  clear K_w2
  have E2 := Lib.hid E_w2
  clear E_w2
  have q0_w2 : w2.cell? ⟨w.heap.size, 0, none⟩ = some (.int .i64 b.n) := E2.out.cell 0
  have q1_w2 : w2.cell? ⟨w.heap.size, 1, none⟩ = some (.int .u64 b.g) := E2.out.cell 1
  have q2_w2 : w2.cell? ⟨w.heap.size, 2, none⟩ = some (.int .i64 b.s0) := E2.out.cell 2
  have q3_w2 : w2.cell? ⟨w.heap.size, 3, none⟩ = some (.bool b.a0) := E2.out.cell 3
  have q4_w2 : w2.cell? ⟨w.heap.size, 4, none⟩ = some (.bool b.h0) := E2.out.cell 4
  have q5_w2 : w2.cell? ⟨w.heap.size, 5, none⟩ = some (.int .u64 b.t0) := E2.out.cell 5
  have q6_w2 : w2.cell? ⟨w.heap.size, 6, none⟩ = some (.int .i64 b.s1) := E2.out.cell 6
  have q7_w2 : w2.cell? ⟨w.heap.size, 7, none⟩ = some (.bool b.a1) := E2.out.cell 7
  have q8_w2 : w2.cell? ⟨w.heap.size, 8, none⟩ = some (.bool b.h1) := E2.out.cell 8
  have q9_w2 : w2.cell? ⟨w.heap.size, 9, none⟩ = some (.int .u64 b.t1) := E2.out.cell 9
  go_wp2_with fail
  with_reducible refine (over37_1c b t _ _ ht1 hg V1.out).mono ?_
  rintro e w3 ⟨rfl, hb_w3⟩
  have K_w3 : Kept w.heap.size w (w.heap.size + 1) [] w3 := Kept.of hb_w3 (by go_grown) (by go_size) (by omega) (by simp [go_sem] <;> omega)
  clear hb_w3
  have hw_w3 := K_w3.below
  have hz_w3 := K_w3.size
  clear K_w3
  go_wp2_with fail
  go_returns
  exact ⟨ret_int e1.out.symm, by go_grown⟩

set_option maxRecDepth 100000 in
set_option maxHeartbeats 4000000 in
theorem lost28_ft (b : Bk) (t d0 d1 : Int) (w : World) (ht0 : U b.t0) (ht1 : U b.t1) (hg : U b.g) (D0 : Hid (b.d0 = d0)) (D1 : Hid (b.d1 = d1)) (V0 : Hid (over b.d0 t = false)) (V1 : Hid (over b.d1 t = true)) (e1 : Hid (lost d0 d1 t = 1)) :
    Calls Try.prog 28 #[.agg #[.int .i64 b.n, .int .u64 b.g, .int .i64 b.s0, .bool b.a0, .bool b.h0, .int .u64 b.t0, .int .i64 b.s1, .bool b.a1, .bool b.h1, .int .u64 b.t1], .int .u64 t] w fun e w' => e = .returned (.int .i64 (lost d0 d1 t)) ∧ Below w.heap.size w w' := by
  go_enter Try.func28, Try.ntmps28
  go_wp2_with fail
  refine wp_region_keptX (w := w) (B := w.heap.size) (n := w.heap.size + 1) (L := []) (E := fun W => RefAt W w.heap.size b) ⟨by go_grown, by go_size, (by simp [go_sem] <;> omega)⟩ (RefAt.new w b) (fun _ _ h hb => h.below hb) (by kernel_rfl) (by kernel_rfl) (fun _ne => ?_)
  have r0 : ∀ s : KX (w.heap.size) w (w.heap.size + 1) [] (fun W => RefAt W w.heap.size b), s.val.cell? ⟨w.heap.size, 0, none⟩ = some (.int .i64 b.n) := fun s => s.ex.cell 0
  have r1 : ∀ s : KX (w.heap.size) w (w.heap.size + 1) [] (fun W => RefAt W w.heap.size b), s.val.cell? ⟨w.heap.size, 1, none⟩ = some (.int .u64 b.g) := fun s => s.ex.cell 1
  have r2 : ∀ s : KX (w.heap.size) w (w.heap.size + 1) [] (fun W => RefAt W w.heap.size b), s.val.cell? ⟨w.heap.size, 2, none⟩ = some (.int .i64 b.s0) := fun s => s.ex.cell 2
  have r3 : ∀ s : KX (w.heap.size) w (w.heap.size + 1) [] (fun W => RefAt W w.heap.size b), s.val.cell? ⟨w.heap.size, 3, none⟩ = some (.bool b.a0) := fun s => s.ex.cell 3
  have r4 : ∀ s : KX (w.heap.size) w (w.heap.size + 1) [] (fun W => RefAt W w.heap.size b), s.val.cell? ⟨w.heap.size, 4, none⟩ = some (.bool b.h0) := fun s => s.ex.cell 4
  have r5 : ∀ s : KX (w.heap.size) w (w.heap.size + 1) [] (fun W => RefAt W w.heap.size b), s.val.cell? ⟨w.heap.size, 5, none⟩ = some (.int .u64 b.t0) := fun s => s.ex.cell 5
  have r6 : ∀ s : KX (w.heap.size) w (w.heap.size + 1) [] (fun W => RefAt W w.heap.size b), s.val.cell? ⟨w.heap.size, 6, none⟩ = some (.int .i64 b.s1) := fun s => s.ex.cell 6
  have r7 : ∀ s : KX (w.heap.size) w (w.heap.size + 1) [] (fun W => RefAt W w.heap.size b), s.val.cell? ⟨w.heap.size, 7, none⟩ = some (.bool b.a1) := fun s => s.ex.cell 7
  have r8 : ∀ s : KX (w.heap.size) w (w.heap.size + 1) [] (fun W => RefAt W w.heap.size b), s.val.cell? ⟨w.heap.size, 8, none⟩ = some (.bool b.h1) := fun s => s.ex.cell 8
  have r9 : ∀ s : KX (w.heap.size) w (w.heap.size + 1) [] (fun W => RefAt W w.heap.size b), s.val.cell? ⟨w.heap.size, 9, none⟩ = some (.int .u64 b.t1) := fun s => s.ex.cell 9
  repeat (go_big_quiet_step (first | (go_at_call 37; rename_i s; with_reducible exact calls_keptX (by omega) (fun _ _ h hb => h.below hb) (over37_0c b t _ _ ht0 hg V0.out)) | (go_at_call 37; rename_i s; with_reducible exact calls_keptX (by omega) (fun _ _ h hb => h.below hb) (over37_1c b t _ _ ht1 hg V1.out)) | (go_at_call 27; rename_i s; with_reducible exact calls_keptX (by omega) (fun _ _ h hb => h.below hb) (due27_0c b _ _ ht0 hg D0.out)) | (go_at_call 27; rename_i s; with_reducible exact calls_keptX (by omega) (fun _ _ h hb => h.below hb) (due27_1c b _ _ ht1 hg D1.out))))
  refine wpQuiet_nil ?_
  rintro w1 ⟨⟨_, K_w1, E_w1⟩, rfl⟩
  clear _ne r0 r1 r2 r3 r4 r5 r6 r7 r8 r9
  have hw_w1 := K_w1.below
  have hz_w1 := K_w1.size
  clear K_w1
  have E1 := Lib.hid E_w1
  clear E_w1
  go_wp2_with fail
  refine wp_region_keptX (w := w) (B := w.heap.size) (n := w.heap.size + 1) (L := []) (E := fun W => RefAt W w.heap.size b) ⟨by go_grown, by go_size, (by simp [go_sem] <;> omega)⟩ E1.out (fun _ _ h hb => h.below hb) (by kernel_rfl) (by kernel_rfl) (fun _ne => ?_)
  have r0 : ∀ s : KX (w.heap.size) w (w.heap.size + 1) [] (fun W => RefAt W w.heap.size b), s.val.cell? ⟨w.heap.size, 0, none⟩ = some (.int .i64 b.n) := fun s => s.ex.cell 0
  have r1 : ∀ s : KX (w.heap.size) w (w.heap.size + 1) [] (fun W => RefAt W w.heap.size b), s.val.cell? ⟨w.heap.size, 1, none⟩ = some (.int .u64 b.g) := fun s => s.ex.cell 1
  have r2 : ∀ s : KX (w.heap.size) w (w.heap.size + 1) [] (fun W => RefAt W w.heap.size b), s.val.cell? ⟨w.heap.size, 2, none⟩ = some (.int .i64 b.s0) := fun s => s.ex.cell 2
  have r3 : ∀ s : KX (w.heap.size) w (w.heap.size + 1) [] (fun W => RefAt W w.heap.size b), s.val.cell? ⟨w.heap.size, 3, none⟩ = some (.bool b.a0) := fun s => s.ex.cell 3
  have r4 : ∀ s : KX (w.heap.size) w (w.heap.size + 1) [] (fun W => RefAt W w.heap.size b), s.val.cell? ⟨w.heap.size, 4, none⟩ = some (.bool b.h0) := fun s => s.ex.cell 4
  have r5 : ∀ s : KX (w.heap.size) w (w.heap.size + 1) [] (fun W => RefAt W w.heap.size b), s.val.cell? ⟨w.heap.size, 5, none⟩ = some (.int .u64 b.t0) := fun s => s.ex.cell 5
  have r6 : ∀ s : KX (w.heap.size) w (w.heap.size + 1) [] (fun W => RefAt W w.heap.size b), s.val.cell? ⟨w.heap.size, 6, none⟩ = some (.int .i64 b.s1) := fun s => s.ex.cell 6
  have r7 : ∀ s : KX (w.heap.size) w (w.heap.size + 1) [] (fun W => RefAt W w.heap.size b), s.val.cell? ⟨w.heap.size, 7, none⟩ = some (.bool b.a1) := fun s => s.ex.cell 7
  have r8 : ∀ s : KX (w.heap.size) w (w.heap.size + 1) [] (fun W => RefAt W w.heap.size b), s.val.cell? ⟨w.heap.size, 8, none⟩ = some (.bool b.h1) := fun s => s.ex.cell 8
  have r9 : ∀ s : KX (w.heap.size) w (w.heap.size + 1) [] (fun W => RefAt W w.heap.size b), s.val.cell? ⟨w.heap.size, 9, none⟩ = some (.int .u64 b.t1) := fun s => s.ex.cell 9
  repeat (go_big_quiet_step (first | (go_at_call 37; rename_i s; with_reducible exact calls_keptX (by omega) (fun _ _ h hb => h.below hb) (over37_0c b t _ _ ht0 hg V0.out)) | (go_at_call 37; rename_i s; with_reducible exact calls_keptX (by omega) (fun _ _ h hb => h.below hb) (over37_1c b t _ _ ht1 hg V1.out)) | (go_at_call 27; rename_i s; with_reducible exact calls_keptX (by omega) (fun _ _ h hb => h.below hb) (due27_0c b _ _ ht0 hg D0.out)) | (go_at_call 27; rename_i s; with_reducible exact calls_keptX (by omega) (fun _ _ h hb => h.below hb) (due27_1c b _ _ ht1 hg D1.out))))
  refine wpQuiet_nil ?_
  rintro w2 ⟨⟨_, K_w2, E_w2⟩, rfl⟩
  clear _ne r0 r1 r2 r3 r4 r5 r6 r7 r8 r9
  have hw_w2 := K_w2.below
  have hz_w2 := K_w2.size
  clear K_w2
  have E2 := Lib.hid E_w2
  clear E_w2
  have q0_w2 : w2.cell? ⟨w.heap.size, 0, none⟩ = some (.int .i64 b.n) := E2.out.cell 0
  have q1_w2 : w2.cell? ⟨w.heap.size, 1, none⟩ = some (.int .u64 b.g) := E2.out.cell 1
  have q2_w2 : w2.cell? ⟨w.heap.size, 2, none⟩ = some (.int .i64 b.s0) := E2.out.cell 2
  have q3_w2 : w2.cell? ⟨w.heap.size, 3, none⟩ = some (.bool b.a0) := E2.out.cell 3
  have q4_w2 : w2.cell? ⟨w.heap.size, 4, none⟩ = some (.bool b.h0) := E2.out.cell 4
  have q5_w2 : w2.cell? ⟨w.heap.size, 5, none⟩ = some (.int .u64 b.t0) := E2.out.cell 5
  have q6_w2 : w2.cell? ⟨w.heap.size, 6, none⟩ = some (.int .i64 b.s1) := E2.out.cell 6
  have q7_w2 : w2.cell? ⟨w.heap.size, 7, none⟩ = some (.bool b.a1) := E2.out.cell 7
  have q8_w2 : w2.cell? ⟨w.heap.size, 8, none⟩ = some (.bool b.h1) := E2.out.cell 8
  have q9_w2 : w2.cell? ⟨w.heap.size, 9, none⟩ = some (.int .u64 b.t1) := E2.out.cell 9
  go_wp2_with fail
  with_reducible refine (over37_1c b t _ _ ht1 hg V1.out).mono ?_
  rintro e w3 ⟨rfl, hb_w3⟩
  have K_w3 : Kept w.heap.size w (w.heap.size + 1) [] w3 := Kept.of hb_w3 (by go_grown) (by go_size) (by omega) (by simp [go_sem] <;> omega)
  clear hb_w3
  have hw_w3 := K_w3.below
  have hz_w3 := K_w3.size
  clear K_w3
  go_wp2_with fail
  go_returns
  exact ⟨ret_int e1.out.symm, by go_grown⟩

set_option maxRecDepth 100000 in
set_option maxHeartbeats 4000000 in
theorem lost28_tfl (b : Bk) (t d0 d1 : Int) (w : World) (ht0 : U b.t0) (ht1 : U b.t1) (hg : U b.g) (D0 : Hid (b.d0 = d0)) (D1 : Hid (b.d1 = d1)) (V0 : Hid (over b.d0 t = true)) (V1 : Hid (over b.d1 t = false)) (dd : decide (d0 < d1) = true) (dq : (d0 == d1) = false) (e1 : Hid (lost d0 d1 t = 0)) :
    Calls Try.prog 28 #[.agg #[.int .i64 b.n, .int .u64 b.g, .int .i64 b.s0, .bool b.a0, .bool b.h0, .int .u64 b.t0, .int .i64 b.s1, .bool b.a1, .bool b.h1, .int .u64 b.t1], .int .u64 t] w fun e w' => e = .returned (.int .i64 (lost d0 d1 t)) ∧ Below w.heap.size w w' := by
  go_enter Try.func28, Try.ntmps28
  go_wp2_with fail
  refine wp_region_keptX (w := w) (B := w.heap.size) (n := w.heap.size + 1) (L := []) (E := fun W => RefAt W w.heap.size b) ⟨by go_grown, by go_size, (by simp [go_sem] <;> omega)⟩ (RefAt.new w b) (fun _ _ h hb => h.below hb) (by kernel_rfl) (by kernel_rfl) (fun _ne => ?_)
  have r0 : ∀ s : KX (w.heap.size) w (w.heap.size + 1) [] (fun W => RefAt W w.heap.size b), s.val.cell? ⟨w.heap.size, 0, none⟩ = some (.int .i64 b.n) := fun s => s.ex.cell 0
  have r1 : ∀ s : KX (w.heap.size) w (w.heap.size + 1) [] (fun W => RefAt W w.heap.size b), s.val.cell? ⟨w.heap.size, 1, none⟩ = some (.int .u64 b.g) := fun s => s.ex.cell 1
  have r2 : ∀ s : KX (w.heap.size) w (w.heap.size + 1) [] (fun W => RefAt W w.heap.size b), s.val.cell? ⟨w.heap.size, 2, none⟩ = some (.int .i64 b.s0) := fun s => s.ex.cell 2
  have r3 : ∀ s : KX (w.heap.size) w (w.heap.size + 1) [] (fun W => RefAt W w.heap.size b), s.val.cell? ⟨w.heap.size, 3, none⟩ = some (.bool b.a0) := fun s => s.ex.cell 3
  have r4 : ∀ s : KX (w.heap.size) w (w.heap.size + 1) [] (fun W => RefAt W w.heap.size b), s.val.cell? ⟨w.heap.size, 4, none⟩ = some (.bool b.h0) := fun s => s.ex.cell 4
  have r5 : ∀ s : KX (w.heap.size) w (w.heap.size + 1) [] (fun W => RefAt W w.heap.size b), s.val.cell? ⟨w.heap.size, 5, none⟩ = some (.int .u64 b.t0) := fun s => s.ex.cell 5
  have r6 : ∀ s : KX (w.heap.size) w (w.heap.size + 1) [] (fun W => RefAt W w.heap.size b), s.val.cell? ⟨w.heap.size, 6, none⟩ = some (.int .i64 b.s1) := fun s => s.ex.cell 6
  have r7 : ∀ s : KX (w.heap.size) w (w.heap.size + 1) [] (fun W => RefAt W w.heap.size b), s.val.cell? ⟨w.heap.size, 7, none⟩ = some (.bool b.a1) := fun s => s.ex.cell 7
  have r8 : ∀ s : KX (w.heap.size) w (w.heap.size + 1) [] (fun W => RefAt W w.heap.size b), s.val.cell? ⟨w.heap.size, 8, none⟩ = some (.bool b.h1) := fun s => s.ex.cell 8
  have r9 : ∀ s : KX (w.heap.size) w (w.heap.size + 1) [] (fun W => RefAt W w.heap.size b), s.val.cell? ⟨w.heap.size, 9, none⟩ = some (.int .u64 b.t1) := fun s => s.ex.cell 9
  repeat (go_big_quiet_step (first | (go_at_call 37; rename_i s; with_reducible exact calls_keptX (by omega) (fun _ _ h hb => h.below hb) (over37_0c b t _ _ ht0 hg V0.out)) | (go_at_call 37; rename_i s; with_reducible exact calls_keptX (by omega) (fun _ _ h hb => h.below hb) (over37_1c b t _ _ ht1 hg V1.out)) | (go_at_call 27; rename_i s; with_reducible exact calls_keptX (by omega) (fun _ _ h hb => h.below hb) (due27_0c b _ _ ht0 hg D0.out)) | (go_at_call 27; rename_i s; with_reducible exact calls_keptX (by omega) (fun _ _ h hb => h.below hb) (due27_1c b _ _ ht1 hg D1.out))))
  refine wpQuiet_nil ?_
  rintro w1 ⟨⟨_, K_w1, E_w1⟩, rfl⟩
  clear _ne r0 r1 r2 r3 r4 r5 r6 r7 r8 r9
  have hw_w1 := K_w1.below
  have hz_w1 := K_w1.size
  clear K_w1
  have E1 := Lib.hid E_w1
  clear E_w1
  go_wp2_with fail
  refine wp_region_keptX (w := w) (B := w.heap.size) (n := w.heap.size + 1) (L := []) (E := fun W => RefAt W w.heap.size b) ⟨by go_grown, by go_size, (by simp [go_sem] <;> omega)⟩ E1.out (fun _ _ h hb => h.below hb) (by kernel_rfl) (by kernel_rfl) (fun _ne => ?_)
  have r0 : ∀ s : KX (w.heap.size) w (w.heap.size + 1) [] (fun W => RefAt W w.heap.size b), s.val.cell? ⟨w.heap.size, 0, none⟩ = some (.int .i64 b.n) := fun s => s.ex.cell 0
  have r1 : ∀ s : KX (w.heap.size) w (w.heap.size + 1) [] (fun W => RefAt W w.heap.size b), s.val.cell? ⟨w.heap.size, 1, none⟩ = some (.int .u64 b.g) := fun s => s.ex.cell 1
  have r2 : ∀ s : KX (w.heap.size) w (w.heap.size + 1) [] (fun W => RefAt W w.heap.size b), s.val.cell? ⟨w.heap.size, 2, none⟩ = some (.int .i64 b.s0) := fun s => s.ex.cell 2
  have r3 : ∀ s : KX (w.heap.size) w (w.heap.size + 1) [] (fun W => RefAt W w.heap.size b), s.val.cell? ⟨w.heap.size, 3, none⟩ = some (.bool b.a0) := fun s => s.ex.cell 3
  have r4 : ∀ s : KX (w.heap.size) w (w.heap.size + 1) [] (fun W => RefAt W w.heap.size b), s.val.cell? ⟨w.heap.size, 4, none⟩ = some (.bool b.h0) := fun s => s.ex.cell 4
  have r5 : ∀ s : KX (w.heap.size) w (w.heap.size + 1) [] (fun W => RefAt W w.heap.size b), s.val.cell? ⟨w.heap.size, 5, none⟩ = some (.int .u64 b.t0) := fun s => s.ex.cell 5
  have r6 : ∀ s : KX (w.heap.size) w (w.heap.size + 1) [] (fun W => RefAt W w.heap.size b), s.val.cell? ⟨w.heap.size, 6, none⟩ = some (.int .i64 b.s1) := fun s => s.ex.cell 6
  have r7 : ∀ s : KX (w.heap.size) w (w.heap.size + 1) [] (fun W => RefAt W w.heap.size b), s.val.cell? ⟨w.heap.size, 7, none⟩ = some (.bool b.a1) := fun s => s.ex.cell 7
  have r8 : ∀ s : KX (w.heap.size) w (w.heap.size + 1) [] (fun W => RefAt W w.heap.size b), s.val.cell? ⟨w.heap.size, 8, none⟩ = some (.bool b.h1) := fun s => s.ex.cell 8
  have r9 : ∀ s : KX (w.heap.size) w (w.heap.size + 1) [] (fun W => RefAt W w.heap.size b), s.val.cell? ⟨w.heap.size, 9, none⟩ = some (.int .u64 b.t1) := fun s => s.ex.cell 9
  repeat (go_big_quiet_step (first | (go_at_call 37; rename_i s; with_reducible exact calls_keptX (by omega) (fun _ _ h hb => h.below hb) (over37_0c b t _ _ ht0 hg V0.out)) | (go_at_call 37; rename_i s; with_reducible exact calls_keptX (by omega) (fun _ _ h hb => h.below hb) (over37_1c b t _ _ ht1 hg V1.out)) | (go_at_call 27; rename_i s; with_reducible exact calls_keptX (by omega) (fun _ _ h hb => h.below hb) (due27_0c b _ _ ht0 hg D0.out)) | (go_at_call 27; rename_i s; with_reducible exact calls_keptX (by omega) (fun _ _ h hb => h.below hb) (due27_1c b _ _ ht1 hg D1.out))))
  refine wpQuiet_nil ?_
  rintro w2 ⟨⟨_, K_w2, E_w2⟩, rfl⟩
  clear _ne r0 r1 r2 r3 r4 r5 r6 r7 r8 r9
  have hw_w2 := K_w2.below
  have hz_w2 := K_w2.size
  clear K_w2
  have E2 := Lib.hid E_w2
  clear E_w2
  go_wp2_with fail
  go_returns
  exact ⟨ret_int e1.out.symm, by go_grown⟩

set_option maxRecDepth 100000 in
set_option maxHeartbeats 4000000 in
theorem lost28_tfn (b : Bk) (t d0 d1 : Int) (w : World) (ht0 : U b.t0) (ht1 : U b.t1) (hg : U b.g) (D0 : Hid (b.d0 = d0)) (D1 : Hid (b.d1 = d1)) (V0 : Hid (over b.d0 t = true)) (V1 : Hid (over b.d1 t = false)) (dd : decide (d0 < d1) = false) (e1 : Hid (lost d0 d1 t = -1)) :
    Calls Try.prog 28 #[.agg #[.int .i64 b.n, .int .u64 b.g, .int .i64 b.s0, .bool b.a0, .bool b.h0, .int .u64 b.t0, .int .i64 b.s1, .bool b.a1, .bool b.h1, .int .u64 b.t1], .int .u64 t] w fun e w' => e = .returned (.int .i64 (lost d0 d1 t)) ∧ Below w.heap.size w w' := by
  go_enter Try.func28, Try.ntmps28
  go_wp2_with fail
  refine wp_region_keptX (w := w) (B := w.heap.size) (n := w.heap.size + 1) (L := []) (E := fun W => RefAt W w.heap.size b) ⟨by go_grown, by go_size, (by simp [go_sem] <;> omega)⟩ (RefAt.new w b) (fun _ _ h hb => h.below hb) (by kernel_rfl) (by kernel_rfl) (fun _ne => ?_)
  have r0 : ∀ s : KX (w.heap.size) w (w.heap.size + 1) [] (fun W => RefAt W w.heap.size b), s.val.cell? ⟨w.heap.size, 0, none⟩ = some (.int .i64 b.n) := fun s => s.ex.cell 0
  have r1 : ∀ s : KX (w.heap.size) w (w.heap.size + 1) [] (fun W => RefAt W w.heap.size b), s.val.cell? ⟨w.heap.size, 1, none⟩ = some (.int .u64 b.g) := fun s => s.ex.cell 1
  have r2 : ∀ s : KX (w.heap.size) w (w.heap.size + 1) [] (fun W => RefAt W w.heap.size b), s.val.cell? ⟨w.heap.size, 2, none⟩ = some (.int .i64 b.s0) := fun s => s.ex.cell 2
  have r3 : ∀ s : KX (w.heap.size) w (w.heap.size + 1) [] (fun W => RefAt W w.heap.size b), s.val.cell? ⟨w.heap.size, 3, none⟩ = some (.bool b.a0) := fun s => s.ex.cell 3
  have r4 : ∀ s : KX (w.heap.size) w (w.heap.size + 1) [] (fun W => RefAt W w.heap.size b), s.val.cell? ⟨w.heap.size, 4, none⟩ = some (.bool b.h0) := fun s => s.ex.cell 4
  have r5 : ∀ s : KX (w.heap.size) w (w.heap.size + 1) [] (fun W => RefAt W w.heap.size b), s.val.cell? ⟨w.heap.size, 5, none⟩ = some (.int .u64 b.t0) := fun s => s.ex.cell 5
  have r6 : ∀ s : KX (w.heap.size) w (w.heap.size + 1) [] (fun W => RefAt W w.heap.size b), s.val.cell? ⟨w.heap.size, 6, none⟩ = some (.int .i64 b.s1) := fun s => s.ex.cell 6
  have r7 : ∀ s : KX (w.heap.size) w (w.heap.size + 1) [] (fun W => RefAt W w.heap.size b), s.val.cell? ⟨w.heap.size, 7, none⟩ = some (.bool b.a1) := fun s => s.ex.cell 7
  have r8 : ∀ s : KX (w.heap.size) w (w.heap.size + 1) [] (fun W => RefAt W w.heap.size b), s.val.cell? ⟨w.heap.size, 8, none⟩ = some (.bool b.h1) := fun s => s.ex.cell 8
  have r9 : ∀ s : KX (w.heap.size) w (w.heap.size + 1) [] (fun W => RefAt W w.heap.size b), s.val.cell? ⟨w.heap.size, 9, none⟩ = some (.int .u64 b.t1) := fun s => s.ex.cell 9
  repeat (go_big_quiet_step (first | (go_at_call 37; rename_i s; with_reducible exact calls_keptX (by omega) (fun _ _ h hb => h.below hb) (over37_0c b t _ _ ht0 hg V0.out)) | (go_at_call 37; rename_i s; with_reducible exact calls_keptX (by omega) (fun _ _ h hb => h.below hb) (over37_1c b t _ _ ht1 hg V1.out)) | (go_at_call 27; rename_i s; with_reducible exact calls_keptX (by omega) (fun _ _ h hb => h.below hb) (due27_0c b _ _ ht0 hg D0.out)) | (go_at_call 27; rename_i s; with_reducible exact calls_keptX (by omega) (fun _ _ h hb => h.below hb) (due27_1c b _ _ ht1 hg D1.out))))
  refine wpQuiet_nil ?_
  rintro w1 ⟨⟨_, K_w1, E_w1⟩, rfl⟩
  clear _ne r0 r1 r2 r3 r4 r5 r6 r7 r8 r9
  have hw_w1 := K_w1.below
  have hz_w1 := K_w1.size
  clear K_w1
  have E1 := Lib.hid E_w1
  clear E_w1
  go_wp2_with fail
  refine wp_region_keptX (w := w) (B := w.heap.size) (n := w.heap.size + 1) (L := []) (E := fun W => RefAt W w.heap.size b) ⟨by go_grown, by go_size, (by simp [go_sem] <;> omega)⟩ E1.out (fun _ _ h hb => h.below hb) (by kernel_rfl) (by kernel_rfl) (fun _ne => ?_)
  have r0 : ∀ s : KX (w.heap.size) w (w.heap.size + 1) [] (fun W => RefAt W w.heap.size b), s.val.cell? ⟨w.heap.size, 0, none⟩ = some (.int .i64 b.n) := fun s => s.ex.cell 0
  have r1 : ∀ s : KX (w.heap.size) w (w.heap.size + 1) [] (fun W => RefAt W w.heap.size b), s.val.cell? ⟨w.heap.size, 1, none⟩ = some (.int .u64 b.g) := fun s => s.ex.cell 1
  have r2 : ∀ s : KX (w.heap.size) w (w.heap.size + 1) [] (fun W => RefAt W w.heap.size b), s.val.cell? ⟨w.heap.size, 2, none⟩ = some (.int .i64 b.s0) := fun s => s.ex.cell 2
  have r3 : ∀ s : KX (w.heap.size) w (w.heap.size + 1) [] (fun W => RefAt W w.heap.size b), s.val.cell? ⟨w.heap.size, 3, none⟩ = some (.bool b.a0) := fun s => s.ex.cell 3
  have r4 : ∀ s : KX (w.heap.size) w (w.heap.size + 1) [] (fun W => RefAt W w.heap.size b), s.val.cell? ⟨w.heap.size, 4, none⟩ = some (.bool b.h0) := fun s => s.ex.cell 4
  have r5 : ∀ s : KX (w.heap.size) w (w.heap.size + 1) [] (fun W => RefAt W w.heap.size b), s.val.cell? ⟨w.heap.size, 5, none⟩ = some (.int .u64 b.t0) := fun s => s.ex.cell 5
  have r6 : ∀ s : KX (w.heap.size) w (w.heap.size + 1) [] (fun W => RefAt W w.heap.size b), s.val.cell? ⟨w.heap.size, 6, none⟩ = some (.int .i64 b.s1) := fun s => s.ex.cell 6
  have r7 : ∀ s : KX (w.heap.size) w (w.heap.size + 1) [] (fun W => RefAt W w.heap.size b), s.val.cell? ⟨w.heap.size, 7, none⟩ = some (.bool b.a1) := fun s => s.ex.cell 7
  have r8 : ∀ s : KX (w.heap.size) w (w.heap.size + 1) [] (fun W => RefAt W w.heap.size b), s.val.cell? ⟨w.heap.size, 8, none⟩ = some (.bool b.h1) := fun s => s.ex.cell 8
  have r9 : ∀ s : KX (w.heap.size) w (w.heap.size + 1) [] (fun W => RefAt W w.heap.size b), s.val.cell? ⟨w.heap.size, 9, none⟩ = some (.int .u64 b.t1) := fun s => s.ex.cell 9
  repeat (go_big_quiet_step (first | (go_at_call 37; rename_i s; with_reducible exact calls_keptX (by omega) (fun _ _ h hb => h.below hb) (over37_0c b t _ _ ht0 hg V0.out)) | (go_at_call 37; rename_i s; with_reducible exact calls_keptX (by omega) (fun _ _ h hb => h.below hb) (over37_1c b t _ _ ht1 hg V1.out)) | (go_at_call 27; rename_i s; with_reducible exact calls_keptX (by omega) (fun _ _ h hb => h.below hb) (due27_0c b _ _ ht0 hg D0.out)) | (go_at_call 27; rename_i s; with_reducible exact calls_keptX (by omega) (fun _ _ h hb => h.below hb) (due27_1c b _ _ ht1 hg D1.out))))
  refine wpQuiet_nil ?_
  rintro w2 ⟨⟨_, K_w2, E_w2⟩, rfl⟩
  clear _ne r0 r1 r2 r3 r4 r5 r6 r7 r8 r9
  have hw_w2 := K_w2.below
  have hz_w2 := K_w2.size
  clear K_w2
  have E2 := Lib.hid E_w2
  clear E_w2
  have q0_w2 : w2.cell? ⟨w.heap.size, 0, none⟩ = some (.int .i64 b.n) := E2.out.cell 0
  have q1_w2 : w2.cell? ⟨w.heap.size, 1, none⟩ = some (.int .u64 b.g) := E2.out.cell 1
  have q2_w2 : w2.cell? ⟨w.heap.size, 2, none⟩ = some (.int .i64 b.s0) := E2.out.cell 2
  have q3_w2 : w2.cell? ⟨w.heap.size, 3, none⟩ = some (.bool b.a0) := E2.out.cell 3
  have q4_w2 : w2.cell? ⟨w.heap.size, 4, none⟩ = some (.bool b.h0) := E2.out.cell 4
  have q5_w2 : w2.cell? ⟨w.heap.size, 5, none⟩ = some (.int .u64 b.t0) := E2.out.cell 5
  have q6_w2 : w2.cell? ⟨w.heap.size, 6, none⟩ = some (.int .i64 b.s1) := E2.out.cell 6
  have q7_w2 : w2.cell? ⟨w.heap.size, 7, none⟩ = some (.bool b.a1) := E2.out.cell 7
  have q8_w2 : w2.cell? ⟨w.heap.size, 8, none⟩ = some (.bool b.h1) := E2.out.cell 8
  have q9_w2 : w2.cell? ⟨w.heap.size, 9, none⟩ = some (.int .u64 b.t1) := E2.out.cell 9
  go_wp2_with fail
  with_reducible refine (over37_1c b t _ _ ht1 hg V1.out).mono ?_
  rintro e w3 ⟨rfl, hb_w3⟩
  have K_w3 : Kept w.heap.size w (w.heap.size + 1) [] w3 := Kept.of hb_w3 (by go_grown) (by go_size) (by omega) (by simp [go_sem] <;> omega)
  clear hb_w3
  have hw_w3 := K_w3.below
  have hz_w3 := K_w3.size
  clear K_w3
  go_wp2_with fail
  go_returns
  exact ⟨ret_int e1.out.symm, by go_grown⟩

set_option maxRecDepth 100000 in
set_option maxHeartbeats 4000000 in
theorem lost28_tte (b : Bk) (t d0 d1 : Int) (w : World) (ht0 : U b.t0) (ht1 : U b.t1) (hg : U b.g) (D0 : Hid (b.d0 = d0)) (D1 : Hid (b.d1 = d1)) (V0 : Hid (over b.d0 t = true)) (V1 : Hid (over b.d1 t = true)) (dq : (d0 == d1) = true) (e1 : Hid (lost d0 d1 t = 2)) :
    Calls Try.prog 28 #[.agg #[.int .i64 b.n, .int .u64 b.g, .int .i64 b.s0, .bool b.a0, .bool b.h0, .int .u64 b.t0, .int .i64 b.s1, .bool b.a1, .bool b.h1, .int .u64 b.t1], .int .u64 t] w fun e w' => e = .returned (.int .i64 (lost d0 d1 t)) ∧ Below w.heap.size w w' := by
  go_enter Try.func28, Try.ntmps28
  go_wp2_with fail
  refine wp_region_keptX (w := w) (B := w.heap.size) (n := w.heap.size + 1) (L := []) (E := fun W => RefAt W w.heap.size b) ⟨by go_grown, by go_size, (by simp [go_sem] <;> omega)⟩ (RefAt.new w b) (fun _ _ h hb => h.below hb) (by kernel_rfl) (by kernel_rfl) (fun _ne => ?_)
  have r0 : ∀ s : KX (w.heap.size) w (w.heap.size + 1) [] (fun W => RefAt W w.heap.size b), s.val.cell? ⟨w.heap.size, 0, none⟩ = some (.int .i64 b.n) := fun s => s.ex.cell 0
  have r1 : ∀ s : KX (w.heap.size) w (w.heap.size + 1) [] (fun W => RefAt W w.heap.size b), s.val.cell? ⟨w.heap.size, 1, none⟩ = some (.int .u64 b.g) := fun s => s.ex.cell 1
  have r2 : ∀ s : KX (w.heap.size) w (w.heap.size + 1) [] (fun W => RefAt W w.heap.size b), s.val.cell? ⟨w.heap.size, 2, none⟩ = some (.int .i64 b.s0) := fun s => s.ex.cell 2
  have r3 : ∀ s : KX (w.heap.size) w (w.heap.size + 1) [] (fun W => RefAt W w.heap.size b), s.val.cell? ⟨w.heap.size, 3, none⟩ = some (.bool b.a0) := fun s => s.ex.cell 3
  have r4 : ∀ s : KX (w.heap.size) w (w.heap.size + 1) [] (fun W => RefAt W w.heap.size b), s.val.cell? ⟨w.heap.size, 4, none⟩ = some (.bool b.h0) := fun s => s.ex.cell 4
  have r5 : ∀ s : KX (w.heap.size) w (w.heap.size + 1) [] (fun W => RefAt W w.heap.size b), s.val.cell? ⟨w.heap.size, 5, none⟩ = some (.int .u64 b.t0) := fun s => s.ex.cell 5
  have r6 : ∀ s : KX (w.heap.size) w (w.heap.size + 1) [] (fun W => RefAt W w.heap.size b), s.val.cell? ⟨w.heap.size, 6, none⟩ = some (.int .i64 b.s1) := fun s => s.ex.cell 6
  have r7 : ∀ s : KX (w.heap.size) w (w.heap.size + 1) [] (fun W => RefAt W w.heap.size b), s.val.cell? ⟨w.heap.size, 7, none⟩ = some (.bool b.a1) := fun s => s.ex.cell 7
  have r8 : ∀ s : KX (w.heap.size) w (w.heap.size + 1) [] (fun W => RefAt W w.heap.size b), s.val.cell? ⟨w.heap.size, 8, none⟩ = some (.bool b.h1) := fun s => s.ex.cell 8
  have r9 : ∀ s : KX (w.heap.size) w (w.heap.size + 1) [] (fun W => RefAt W w.heap.size b), s.val.cell? ⟨w.heap.size, 9, none⟩ = some (.int .u64 b.t1) := fun s => s.ex.cell 9
  repeat (go_big_quiet_step (first | (go_at_call 37; rename_i s; with_reducible exact calls_keptX (by omega) (fun _ _ h hb => h.below hb) (over37_0c b t _ _ ht0 hg V0.out)) | (go_at_call 37; rename_i s; with_reducible exact calls_keptX (by omega) (fun _ _ h hb => h.below hb) (over37_1c b t _ _ ht1 hg V1.out)) | (go_at_call 27; rename_i s; with_reducible exact calls_keptX (by omega) (fun _ _ h hb => h.below hb) (due27_0c b _ _ ht0 hg D0.out)) | (go_at_call 27; rename_i s; with_reducible exact calls_keptX (by omega) (fun _ _ h hb => h.below hb) (due27_1c b _ _ ht1 hg D1.out))))
  refine wpQuiet_nil ?_
  rintro w1 ⟨⟨_, K_w1, E_w1⟩, rfl⟩
  clear _ne r0 r1 r2 r3 r4 r5 r6 r7 r8 r9
  have hw_w1 := K_w1.below
  have hz_w1 := K_w1.size
  clear K_w1
  have E1 := Lib.hid E_w1
  clear E_w1
  go_wp2_with fail
  go_returns
  exact ⟨ret_int e1.out.symm, by go_grown⟩

set_option maxRecDepth 100000 in
set_option maxHeartbeats 4000000 in
theorem lost28_ttl (b : Bk) (t d0 d1 : Int) (w : World) (ht0 : U b.t0) (ht1 : U b.t1) (hg : U b.g) (D0 : Hid (b.d0 = d0)) (D1 : Hid (b.d1 = d1)) (V0 : Hid (over b.d0 t = true)) (V1 : Hid (over b.d1 t = true)) (dd : decide (d0 < d1) = true) (dq : (d0 == d1) = false) (e1 : Hid (lost d0 d1 t = 0)) :
    Calls Try.prog 28 #[.agg #[.int .i64 b.n, .int .u64 b.g, .int .i64 b.s0, .bool b.a0, .bool b.h0, .int .u64 b.t0, .int .i64 b.s1, .bool b.a1, .bool b.h1, .int .u64 b.t1], .int .u64 t] w fun e w' => e = .returned (.int .i64 (lost d0 d1 t)) ∧ Below w.heap.size w w' := by
  go_enter Try.func28, Try.ntmps28
  go_wp2_with fail
  refine wp_region_keptX (w := w) (B := w.heap.size) (n := w.heap.size + 1) (L := []) (E := fun W => RefAt W w.heap.size b) ⟨by go_grown, by go_size, (by simp [go_sem] <;> omega)⟩ (RefAt.new w b) (fun _ _ h hb => h.below hb) (by kernel_rfl) (by kernel_rfl) (fun _ne => ?_)
  have r0 : ∀ s : KX (w.heap.size) w (w.heap.size + 1) [] (fun W => RefAt W w.heap.size b), s.val.cell? ⟨w.heap.size, 0, none⟩ = some (.int .i64 b.n) := fun s => s.ex.cell 0
  have r1 : ∀ s : KX (w.heap.size) w (w.heap.size + 1) [] (fun W => RefAt W w.heap.size b), s.val.cell? ⟨w.heap.size, 1, none⟩ = some (.int .u64 b.g) := fun s => s.ex.cell 1
  have r2 : ∀ s : KX (w.heap.size) w (w.heap.size + 1) [] (fun W => RefAt W w.heap.size b), s.val.cell? ⟨w.heap.size, 2, none⟩ = some (.int .i64 b.s0) := fun s => s.ex.cell 2
  have r3 : ∀ s : KX (w.heap.size) w (w.heap.size + 1) [] (fun W => RefAt W w.heap.size b), s.val.cell? ⟨w.heap.size, 3, none⟩ = some (.bool b.a0) := fun s => s.ex.cell 3
  have r4 : ∀ s : KX (w.heap.size) w (w.heap.size + 1) [] (fun W => RefAt W w.heap.size b), s.val.cell? ⟨w.heap.size, 4, none⟩ = some (.bool b.h0) := fun s => s.ex.cell 4
  have r5 : ∀ s : KX (w.heap.size) w (w.heap.size + 1) [] (fun W => RefAt W w.heap.size b), s.val.cell? ⟨w.heap.size, 5, none⟩ = some (.int .u64 b.t0) := fun s => s.ex.cell 5
  have r6 : ∀ s : KX (w.heap.size) w (w.heap.size + 1) [] (fun W => RefAt W w.heap.size b), s.val.cell? ⟨w.heap.size, 6, none⟩ = some (.int .i64 b.s1) := fun s => s.ex.cell 6
  have r7 : ∀ s : KX (w.heap.size) w (w.heap.size + 1) [] (fun W => RefAt W w.heap.size b), s.val.cell? ⟨w.heap.size, 7, none⟩ = some (.bool b.a1) := fun s => s.ex.cell 7
  have r8 : ∀ s : KX (w.heap.size) w (w.heap.size + 1) [] (fun W => RefAt W w.heap.size b), s.val.cell? ⟨w.heap.size, 8, none⟩ = some (.bool b.h1) := fun s => s.ex.cell 8
  have r9 : ∀ s : KX (w.heap.size) w (w.heap.size + 1) [] (fun W => RefAt W w.heap.size b), s.val.cell? ⟨w.heap.size, 9, none⟩ = some (.int .u64 b.t1) := fun s => s.ex.cell 9
  repeat (go_big_quiet_step (first | (go_at_call 37; rename_i s; with_reducible exact calls_keptX (by omega) (fun _ _ h hb => h.below hb) (over37_0c b t _ _ ht0 hg V0.out)) | (go_at_call 37; rename_i s; with_reducible exact calls_keptX (by omega) (fun _ _ h hb => h.below hb) (over37_1c b t _ _ ht1 hg V1.out)) | (go_at_call 27; rename_i s; with_reducible exact calls_keptX (by omega) (fun _ _ h hb => h.below hb) (due27_0c b _ _ ht0 hg D0.out)) | (go_at_call 27; rename_i s; with_reducible exact calls_keptX (by omega) (fun _ _ h hb => h.below hb) (due27_1c b _ _ ht1 hg D1.out))))
  refine wpQuiet_nil ?_
  rintro w1 ⟨⟨_, K_w1, E_w1⟩, rfl⟩
  clear _ne r0 r1 r2 r3 r4 r5 r6 r7 r8 r9
  have hw_w1 := K_w1.below
  have hz_w1 := K_w1.size
  clear K_w1
  have E1 := Lib.hid E_w1
  clear E_w1
  go_wp2_with fail
  refine wp_region_keptX (w := w) (B := w.heap.size) (n := w.heap.size + 1) (L := []) (E := fun W => RefAt W w.heap.size b) ⟨by go_grown, by go_size, (by simp [go_sem] <;> omega)⟩ E1.out (fun _ _ h hb => h.below hb) (by kernel_rfl) (by kernel_rfl) (fun _ne => ?_)
  have r0 : ∀ s : KX (w.heap.size) w (w.heap.size + 1) [] (fun W => RefAt W w.heap.size b), s.val.cell? ⟨w.heap.size, 0, none⟩ = some (.int .i64 b.n) := fun s => s.ex.cell 0
  have r1 : ∀ s : KX (w.heap.size) w (w.heap.size + 1) [] (fun W => RefAt W w.heap.size b), s.val.cell? ⟨w.heap.size, 1, none⟩ = some (.int .u64 b.g) := fun s => s.ex.cell 1
  have r2 : ∀ s : KX (w.heap.size) w (w.heap.size + 1) [] (fun W => RefAt W w.heap.size b), s.val.cell? ⟨w.heap.size, 2, none⟩ = some (.int .i64 b.s0) := fun s => s.ex.cell 2
  have r3 : ∀ s : KX (w.heap.size) w (w.heap.size + 1) [] (fun W => RefAt W w.heap.size b), s.val.cell? ⟨w.heap.size, 3, none⟩ = some (.bool b.a0) := fun s => s.ex.cell 3
  have r4 : ∀ s : KX (w.heap.size) w (w.heap.size + 1) [] (fun W => RefAt W w.heap.size b), s.val.cell? ⟨w.heap.size, 4, none⟩ = some (.bool b.h0) := fun s => s.ex.cell 4
  have r5 : ∀ s : KX (w.heap.size) w (w.heap.size + 1) [] (fun W => RefAt W w.heap.size b), s.val.cell? ⟨w.heap.size, 5, none⟩ = some (.int .u64 b.t0) := fun s => s.ex.cell 5
  have r6 : ∀ s : KX (w.heap.size) w (w.heap.size + 1) [] (fun W => RefAt W w.heap.size b), s.val.cell? ⟨w.heap.size, 6, none⟩ = some (.int .i64 b.s1) := fun s => s.ex.cell 6
  have r7 : ∀ s : KX (w.heap.size) w (w.heap.size + 1) [] (fun W => RefAt W w.heap.size b), s.val.cell? ⟨w.heap.size, 7, none⟩ = some (.bool b.a1) := fun s => s.ex.cell 7
  have r8 : ∀ s : KX (w.heap.size) w (w.heap.size + 1) [] (fun W => RefAt W w.heap.size b), s.val.cell? ⟨w.heap.size, 8, none⟩ = some (.bool b.h1) := fun s => s.ex.cell 8
  have r9 : ∀ s : KX (w.heap.size) w (w.heap.size + 1) [] (fun W => RefAt W w.heap.size b), s.val.cell? ⟨w.heap.size, 9, none⟩ = some (.int .u64 b.t1) := fun s => s.ex.cell 9
  repeat (go_big_quiet_step (first | (go_at_call 37; rename_i s; with_reducible exact calls_keptX (by omega) (fun _ _ h hb => h.below hb) (over37_0c b t _ _ ht0 hg V0.out)) | (go_at_call 37; rename_i s; with_reducible exact calls_keptX (by omega) (fun _ _ h hb => h.below hb) (over37_1c b t _ _ ht1 hg V1.out)) | (go_at_call 27; rename_i s; with_reducible exact calls_keptX (by omega) (fun _ _ h hb => h.below hb) (due27_0c b _ _ ht0 hg D0.out)) | (go_at_call 27; rename_i s; with_reducible exact calls_keptX (by omega) (fun _ _ h hb => h.below hb) (due27_1c b _ _ ht1 hg D1.out))))
  refine wpQuiet_nil ?_
  rintro w2 ⟨⟨_, K_w2, E_w2⟩, rfl⟩
  clear _ne r0 r1 r2 r3 r4 r5 r6 r7 r8 r9
  have hw_w2 := K_w2.below
  have hz_w2 := K_w2.size
  clear K_w2
  have E2 := Lib.hid E_w2
  clear E_w2
  go_wp2_with fail
  go_returns
  exact ⟨ret_int e1.out.symm, by go_grown⟩

set_option maxRecDepth 100000 in
set_option maxHeartbeats 4000000 in
theorem lost28_ttn (b : Bk) (t d0 d1 : Int) (w : World) (ht0 : U b.t0) (ht1 : U b.t1) (hg : U b.g) (D0 : Hid (b.d0 = d0)) (D1 : Hid (b.d1 = d1)) (V0 : Hid (over b.d0 t = true)) (V1 : Hid (over b.d1 t = true)) (dd : decide (d0 < d1) = false) (dq : (d0 == d1) = false) (e1 : Hid (lost d0 d1 t = 1)) :
    Calls Try.prog 28 #[.agg #[.int .i64 b.n, .int .u64 b.g, .int .i64 b.s0, .bool b.a0, .bool b.h0, .int .u64 b.t0, .int .i64 b.s1, .bool b.a1, .bool b.h1, .int .u64 b.t1], .int .u64 t] w fun e w' => e = .returned (.int .i64 (lost d0 d1 t)) ∧ Below w.heap.size w w' := by
  go_enter Try.func28, Try.ntmps28
  go_wp2_with fail
  refine wp_region_keptX (w := w) (B := w.heap.size) (n := w.heap.size + 1) (L := []) (E := fun W => RefAt W w.heap.size b) ⟨by go_grown, by go_size, (by simp [go_sem] <;> omega)⟩ (RefAt.new w b) (fun _ _ h hb => h.below hb) (by kernel_rfl) (by kernel_rfl) (fun _ne => ?_)
  have r0 : ∀ s : KX (w.heap.size) w (w.heap.size + 1) [] (fun W => RefAt W w.heap.size b), s.val.cell? ⟨w.heap.size, 0, none⟩ = some (.int .i64 b.n) := fun s => s.ex.cell 0
  have r1 : ∀ s : KX (w.heap.size) w (w.heap.size + 1) [] (fun W => RefAt W w.heap.size b), s.val.cell? ⟨w.heap.size, 1, none⟩ = some (.int .u64 b.g) := fun s => s.ex.cell 1
  have r2 : ∀ s : KX (w.heap.size) w (w.heap.size + 1) [] (fun W => RefAt W w.heap.size b), s.val.cell? ⟨w.heap.size, 2, none⟩ = some (.int .i64 b.s0) := fun s => s.ex.cell 2
  have r3 : ∀ s : KX (w.heap.size) w (w.heap.size + 1) [] (fun W => RefAt W w.heap.size b), s.val.cell? ⟨w.heap.size, 3, none⟩ = some (.bool b.a0) := fun s => s.ex.cell 3
  have r4 : ∀ s : KX (w.heap.size) w (w.heap.size + 1) [] (fun W => RefAt W w.heap.size b), s.val.cell? ⟨w.heap.size, 4, none⟩ = some (.bool b.h0) := fun s => s.ex.cell 4
  have r5 : ∀ s : KX (w.heap.size) w (w.heap.size + 1) [] (fun W => RefAt W w.heap.size b), s.val.cell? ⟨w.heap.size, 5, none⟩ = some (.int .u64 b.t0) := fun s => s.ex.cell 5
  have r6 : ∀ s : KX (w.heap.size) w (w.heap.size + 1) [] (fun W => RefAt W w.heap.size b), s.val.cell? ⟨w.heap.size, 6, none⟩ = some (.int .i64 b.s1) := fun s => s.ex.cell 6
  have r7 : ∀ s : KX (w.heap.size) w (w.heap.size + 1) [] (fun W => RefAt W w.heap.size b), s.val.cell? ⟨w.heap.size, 7, none⟩ = some (.bool b.a1) := fun s => s.ex.cell 7
  have r8 : ∀ s : KX (w.heap.size) w (w.heap.size + 1) [] (fun W => RefAt W w.heap.size b), s.val.cell? ⟨w.heap.size, 8, none⟩ = some (.bool b.h1) := fun s => s.ex.cell 8
  have r9 : ∀ s : KX (w.heap.size) w (w.heap.size + 1) [] (fun W => RefAt W w.heap.size b), s.val.cell? ⟨w.heap.size, 9, none⟩ = some (.int .u64 b.t1) := fun s => s.ex.cell 9
  repeat (go_big_quiet_step (first | (go_at_call 37; rename_i s; with_reducible exact calls_keptX (by omega) (fun _ _ h hb => h.below hb) (over37_0c b t _ _ ht0 hg V0.out)) | (go_at_call 37; rename_i s; with_reducible exact calls_keptX (by omega) (fun _ _ h hb => h.below hb) (over37_1c b t _ _ ht1 hg V1.out)) | (go_at_call 27; rename_i s; with_reducible exact calls_keptX (by omega) (fun _ _ h hb => h.below hb) (due27_0c b _ _ ht0 hg D0.out)) | (go_at_call 27; rename_i s; with_reducible exact calls_keptX (by omega) (fun _ _ h hb => h.below hb) (due27_1c b _ _ ht1 hg D1.out))))
  refine wpQuiet_nil ?_
  rintro w1 ⟨⟨_, K_w1, E_w1⟩, rfl⟩
  clear _ne r0 r1 r2 r3 r4 r5 r6 r7 r8 r9
  have hw_w1 := K_w1.below
  have hz_w1 := K_w1.size
  clear K_w1
  have E1 := Lib.hid E_w1
  clear E_w1
  go_wp2_with fail
  refine wp_region_keptX (w := w) (B := w.heap.size) (n := w.heap.size + 1) (L := []) (E := fun W => RefAt W w.heap.size b) ⟨by go_grown, by go_size, (by simp [go_sem] <;> omega)⟩ E1.out (fun _ _ h hb => h.below hb) (by kernel_rfl) (by kernel_rfl) (fun _ne => ?_)
  have r0 : ∀ s : KX (w.heap.size) w (w.heap.size + 1) [] (fun W => RefAt W w.heap.size b), s.val.cell? ⟨w.heap.size, 0, none⟩ = some (.int .i64 b.n) := fun s => s.ex.cell 0
  have r1 : ∀ s : KX (w.heap.size) w (w.heap.size + 1) [] (fun W => RefAt W w.heap.size b), s.val.cell? ⟨w.heap.size, 1, none⟩ = some (.int .u64 b.g) := fun s => s.ex.cell 1
  have r2 : ∀ s : KX (w.heap.size) w (w.heap.size + 1) [] (fun W => RefAt W w.heap.size b), s.val.cell? ⟨w.heap.size, 2, none⟩ = some (.int .i64 b.s0) := fun s => s.ex.cell 2
  have r3 : ∀ s : KX (w.heap.size) w (w.heap.size + 1) [] (fun W => RefAt W w.heap.size b), s.val.cell? ⟨w.heap.size, 3, none⟩ = some (.bool b.a0) := fun s => s.ex.cell 3
  have r4 : ∀ s : KX (w.heap.size) w (w.heap.size + 1) [] (fun W => RefAt W w.heap.size b), s.val.cell? ⟨w.heap.size, 4, none⟩ = some (.bool b.h0) := fun s => s.ex.cell 4
  have r5 : ∀ s : KX (w.heap.size) w (w.heap.size + 1) [] (fun W => RefAt W w.heap.size b), s.val.cell? ⟨w.heap.size, 5, none⟩ = some (.int .u64 b.t0) := fun s => s.ex.cell 5
  have r6 : ∀ s : KX (w.heap.size) w (w.heap.size + 1) [] (fun W => RefAt W w.heap.size b), s.val.cell? ⟨w.heap.size, 6, none⟩ = some (.int .i64 b.s1) := fun s => s.ex.cell 6
  have r7 : ∀ s : KX (w.heap.size) w (w.heap.size + 1) [] (fun W => RefAt W w.heap.size b), s.val.cell? ⟨w.heap.size, 7, none⟩ = some (.bool b.a1) := fun s => s.ex.cell 7
  have r8 : ∀ s : KX (w.heap.size) w (w.heap.size + 1) [] (fun W => RefAt W w.heap.size b), s.val.cell? ⟨w.heap.size, 8, none⟩ = some (.bool b.h1) := fun s => s.ex.cell 8
  have r9 : ∀ s : KX (w.heap.size) w (w.heap.size + 1) [] (fun W => RefAt W w.heap.size b), s.val.cell? ⟨w.heap.size, 9, none⟩ = some (.int .u64 b.t1) := fun s => s.ex.cell 9
  repeat (go_big_quiet_step (first | (go_at_call 37; rename_i s; with_reducible exact calls_keptX (by omega) (fun _ _ h hb => h.below hb) (over37_0c b t _ _ ht0 hg V0.out)) | (go_at_call 37; rename_i s; with_reducible exact calls_keptX (by omega) (fun _ _ h hb => h.below hb) (over37_1c b t _ _ ht1 hg V1.out)) | (go_at_call 27; rename_i s; with_reducible exact calls_keptX (by omega) (fun _ _ h hb => h.below hb) (due27_0c b _ _ ht0 hg D0.out)) | (go_at_call 27; rename_i s; with_reducible exact calls_keptX (by omega) (fun _ _ h hb => h.below hb) (due27_1c b _ _ ht1 hg D1.out))))
  refine wpQuiet_nil ?_
  rintro w2 ⟨⟨_, K_w2, E_w2⟩, rfl⟩
  clear _ne r0 r1 r2 r3 r4 r5 r6 r7 r8 r9
  have hw_w2 := K_w2.below
  have hz_w2 := K_w2.size
  clear K_w2
  have E2 := Lib.hid E_w2
  clear E_w2
  have q0_w2 : w2.cell? ⟨w.heap.size, 0, none⟩ = some (.int .i64 b.n) := E2.out.cell 0
  have q1_w2 : w2.cell? ⟨w.heap.size, 1, none⟩ = some (.int .u64 b.g) := E2.out.cell 1
  have q2_w2 : w2.cell? ⟨w.heap.size, 2, none⟩ = some (.int .i64 b.s0) := E2.out.cell 2
  have q3_w2 : w2.cell? ⟨w.heap.size, 3, none⟩ = some (.bool b.a0) := E2.out.cell 3
  have q4_w2 : w2.cell? ⟨w.heap.size, 4, none⟩ = some (.bool b.h0) := E2.out.cell 4
  have q5_w2 : w2.cell? ⟨w.heap.size, 5, none⟩ = some (.int .u64 b.t0) := E2.out.cell 5
  have q6_w2 : w2.cell? ⟨w.heap.size, 6, none⟩ = some (.int .i64 b.s1) := E2.out.cell 6
  have q7_w2 : w2.cell? ⟨w.heap.size, 7, none⟩ = some (.bool b.a1) := E2.out.cell 7
  have q8_w2 : w2.cell? ⟨w.heap.size, 8, none⟩ = some (.bool b.h1) := E2.out.cell 8
  have q9_w2 : w2.cell? ⟨w.heap.size, 9, none⟩ = some (.int .u64 b.t1) := E2.out.cell 9
  go_wp2_with fail
  with_reducible refine (over37_1c b t _ _ ht1 hg V1.out).mono ?_
  rintro e w3 ⟨rfl, hb_w3⟩
  have K_w3 : Kept w.heap.size w (w.heap.size + 1) [] w3 := Kept.of hb_w3 (by go_grown) (by go_size) (by omega) (by simp [go_sem] <;> omega)
  clear hb_w3
  have hw_w3 := K_w3.below
  have hz_w3 := K_w3.size
  clear K_w3
  go_wp2_with fail
  go_returns
  exact ⟨ret_int e1.out.symm, by go_grown⟩

set_option maxRecDepth 100000 in
set_option maxHeartbeats 2000000 in
theorem lost28 (b : Bk) (t : Int) (w : World) (ht0 : U b.t0) (ht1 : U b.t1) (hg : U b.g) :
    Calls Try.prog 28 #[.agg #[.int .i64 b.n, .int .u64 b.g, .int .i64 b.s0, .bool b.a0, .bool b.h0, .int .u64 b.t0, .int .i64 b.s1, .bool b.a1, .bool b.h1, .int .u64 b.t1], .int .u64 t] w fun e w' => e = .returned (.int .i64 (lost b.d0 b.d1 t)) ∧ Below w.heap.size w w' := by
  have u0 : U b.d0 := U_due ht0 hg
  have u1 : U b.d1 := U_due ht1 hg
  have LE := lost_eq b.d0 b.d1 t u0.2 u1.2
  obtain ⟨d0, hd0⟩ : ∃ d, b.d0 = d := ⟨_, rfl⟩
  obtain ⟨d1, hd1⟩ : ∃ d, b.d1 = d := ⟨_, rfl⟩
  cases v0 : over b.d0 t <;> cases v1 : over b.d1 t <;> rw [hd0, hd1] at LE ⊢ <;> rw [hd0] at v0 <;> rw [hd1] at v1
  · exact lost28_ff b t d0 d1 w ht0 ht1 hg hd0 hd1 (by rw [hd0]; exact v0) (by rw [hd1]; exact v1) (show lost d0 d1 t = -1 by rw [LE]; simp [v0, v1])
  · exact lost28_ft b t d0 d1 w ht0 ht1 hg hd0 hd1 (by rw [hd0]; exact v0) (by rw [hd1]; exact v1) (show lost d0 d1 t = 1 by rw [LE]; simp [v0, v1])
  · by_cases hlt : d0 < d1
    · exact lost28_tfl b t d0 d1 w ht0 ht1 hg hd0 hd1 (by rw [hd0]; exact v0) (by rw [hd1]; exact v1) (by simpa using hlt) (by simp; omega) (show lost d0 d1 t = 0 by rw [LE]; simp [v0, v1, hlt])
    · exact lost28_tfn b t d0 d1 w ht0 ht1 hg hd0 hd1 (by rw [hd0]; exact v0) (by rw [hd1]; exact v1) (by simpa using hlt) (show lost d0 d1 t = -1 by rw [LE]; simp [v0, v1, hlt])
  · by_cases heq : d0 = d1
    · exact lost28_tte b t d0 d1 w ht0 ht1 hg hd0 hd1 (by rw [hd0]; exact v0) (by rw [hd1]; exact v1) (by simpa using heq) (show lost d0 d1 t = 2 by rw [LE, if_pos ⟨v0, v1, heq⟩])
    · by_cases hlt : d0 < d1
      · exact lost28_ttl b t d0 d1 w ht0 ht1 hg hd0 hd1 (by rw [hd0]; exact v0) (by rw [hd1]; exact v1) (by simpa using hlt) (by simpa using heq) (show lost d0 d1 t = 0 by rw [LE]; simp [v0, v1, hlt, heq])
      · exact lost28_ttn b t d0 d1 w ht0 ht1 hg hd0 hd1 (by rw [hd0]; exact v0) (by rw [hd1]; exact v1) (by simpa using hlt) (by simpa using heq) (show lost d0 d1 t = 1 by rw [LE]; simp [v0, v1, hlt, heq])

end Go.Proofs.Ytobkgdhniibopaa
