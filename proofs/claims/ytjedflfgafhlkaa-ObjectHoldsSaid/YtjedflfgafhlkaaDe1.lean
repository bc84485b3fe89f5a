/- Objects are read. -/
import Derived.Test.YtjedflfgafhlkaaDe
import Derived.Deep.DeepCutAuto
import Derived.Laws.Cover3
import Derived.Laws.BitsLemmas
import Derived.Laws.Bits64
import Derived.BigQuiet
import Derived.Deep.QuietTactic
namespace Go.Proofs.Ytjedflfgafhlkaa
open Go.RowKit Plain
set_option linter.unusedVariables false
set_option linter.unusedSimpArgs false

set_option maxRecDepth 100000 in
set_option maxHeartbeats 8000000 in
theorem odec_ok (z0 z1 z2 z3 z4 z5 z6 z7 z8 z9 z10 z11 : Int) (T1 T2 T4 : Bool) (v : Value) (w : World) (hs : Seg w .u8 v [z0, z1, z2, z3, z4, z5, z6, z7, z8, z9, z10, z11]) (hz : ∀ z ∈ [z0, z1, z2, z3, z4, z5, z6, z7, z8, z9, z10, z11], 0 ≤ z ∧ z < 256) (h7 : z11 ≤ 7) (t1 : (bits .and .u8 z11 1 != 0) = T1) (t2 : (bits .and .u8 z11 2 != 0) = T2) (t4 : (bits .and .u8 z11 4 != 0) = T4) (hv : Hid (vO (⟨256 * z0 + z1, 256 * z2 + z3 - 1, z4, z5, z6, z7, z8, z9, z10, T1, T2, T4⟩ : Ob) = true)) : Calls Try.prog 33 #[v] w fun e w' => e = .returned (.tuple #[.agg #[.int .i64 (256 * z0 + z1), .int .i64 (256 * z2 + z3 - 1), .int .i64 z4, .int .i64 z5, .int .i64 z6, .int .i64 z7, .int .i64 z8, .int .i64 z9, .int .i64 z10, .bool T1, .bool T2, .bool T4], .int .i64 0]) ∧ Below w.heap.size w w' := by
  obtain ⟨m1, a1, c1, rfl, f1⟩ := seg_form hs
  obtain ⟨b1, o1, rfl, hb1, hc⟩ := f1 (by simp)
  have x0 : w.cell? ⟨b1, o1, none⟩ = some (.int .u8 z0) := by simpa using hc 0 z0 rfl
  have ⟨y0, u0⟩ := hz z0 (by simp)
  have x1 := hc 1 z1 rfl
  have ⟨y1, u1⟩ := hz z1 (by simp)
  have x2 := hc 2 z2 rfl
  have ⟨y2, u2⟩ := hz z2 (by simp)
  have x3 := hc 3 z3 rfl
  have ⟨y3, u3⟩ := hz z3 (by simp)
  have x4 := hc 4 z4 rfl
  have ⟨y4, u4⟩ := hz z4 (by simp)
  have x5 := hc 5 z5 rfl
  have ⟨y5, u5⟩ := hz z5 (by simp)
  have x6 := hc 6 z6 rfl
  have ⟨y6, u6⟩ := hz z6 (by simp)
  have x7 := hc 7 z7 rfl
  have ⟨y7, u7⟩ := hz z7 (by simp)
  have x8 := hc 8 z8 rfl
  have ⟨y8, u8⟩ := hz z8 (by simp)
  have x9 := hc 9 z9 rfl
  have ⟨y9, u9⟩ := hz z9 (by simp)
  have x10 := hc 10 z10 rfl
  have ⟨y10, u10⟩ := hz z10 (by simp)
  have x11 := hc 11 z11 rfl
  have ⟨y11, u11⟩ := hz z11 (by simp)
  have n1 : b1 ≠ w.heap.size := by omega
  have n2 : b1 ≠ w.heap.size + 1 := by omega
  clear hs f1 hc hz
  have harr := fun w => run_arrayAt (P := Try.prog) w 71 5 12 (some ⟨b1, o1, none⟩) 12 c1 Try.underlying71 (by omega)
  go_enter Try.func33, Try.ntmps33
  go_wp2_with fail
  with_reducible refine (two1 0 (w.heap.size + 1) 0 z0 z1 _ _ rfl (by omega) (by simp) (by simp) ⟨y0, u0⟩ ⟨y1, u1⟩ rfl).mono ?_
  rintro e w1 ⟨rfl, hb_w1⟩
  have K_w1 : Kept w.heap.size w (w.heap.size + 2) [(w.heap.size, 0, .int .i64 0), (w.heap.size, 1, .int .i64 0), (w.heap.size, 2, .int .i64 0), (w.heap.size, 3, .int .i64 0), (w.heap.size, 4, .int .i64 0), (w.heap.size, 5, .int .i64 0), (w.heap.size, 6, .int .i64 0), (w.heap.size, 7, .int .i64 0), (w.heap.size, 8, .int .i64 0), (w.heap.size, 9, .bool false), (w.heap.size, 10, .bool false), (w.heap.size, 11, .bool false), (w.heap.size + 1, 0, .int .u8 z0), (w.heap.size + 1, 1, .int .u8 z1), (w.heap.size + 1, 2, .int .u8 z2), (w.heap.size + 1, 3, .int .u8 z3), (w.heap.size + 1, 4, .int .u8 z4), (w.heap.size + 1, 5, .int .u8 z5), (w.heap.size + 1, 6, .int .u8 z6), (w.heap.size + 1, 7, .int .u8 z7), (w.heap.size + 1, 8, .int .u8 z8), (w.heap.size + 1, 9, .int .u8 z9), (w.heap.size + 1, 10, .int .u8 z10), (w.heap.size + 1, 11, .int .u8 z11)] w1 := Kept.of hb_w1 (by go_grown) (by go_size) (by omega) (by simp [go_sem] <;> omega)
  clear hb_w1
  have KH_w1 := Lib.hid K_w1
  have hw_w1 := K_w1.below
  have hz_w1 := K_w1.size
  have lR_w1 : w.heap.size < w1.heap.size := by omega
  have lA_w1 : w.heap.size + 1 < w1.heap.size := by omega
  clear K_w1
  go_wp2_with fail
  with_reducible refine (two1 2 (w.heap.size + 1) 2 z2 z3 _ _ rfl (by omega) (KH_w1.out.at (b := w.heap.size + 1) (o := 2) (v := .int .u8 z2) (by simp)) (KH_w1.out.at (b := w.heap.size + 1) (o := 3) (v := .int .u8 z3) (by simp)) ⟨y2, u2⟩ ⟨y3, u3⟩ rfl).mono ?_
  rintro e w2 ⟨rfl, hb_w2⟩
  have K_w2 := (KH_w1.out.step (by omega) (by go_grown)).step (by omega) hb_w2
  clear hb_w2
  have KH_w2 := Lib.hid K_w2
  have hw_w2 := K_w2.below
  have hz_w2 := K_w2.size
  have lR_w2 : w.heap.size < w2.heap.size := by omega
  have lA_w2 : w.heap.size + 1 < w2.heap.size := by omega
  clear lR_w1 lA_w1
  clear K_w2
  go_wp2_with fail
  with_reducible refine (one2 4 (w.heap.size + 1) 4 z4 _ rfl (by omega) (KH_w2.out.at (b := w.heap.size + 1) (o := 4) (v := .int .u8 z4) (by simp)) ⟨y4, u4⟩).mono ?_
  rintro e w' ⟨rfl, rfl⟩
  go_wp2_with fail
  with_reducible refine (one2 5 (w.heap.size + 1) 5 z5 _ rfl (by omega) (KH_w2.out.at (b := w.heap.size + 1) (o := 5) (v := .int .u8 z5) (by simp)) ⟨y5, u5⟩).mono ?_
  rintro e w' ⟨rfl, rfl⟩
  go_wp2_with fail
  with_reducible refine (one2 6 (w.heap.size + 1) 6 z6 _ rfl (by omega) (KH_w2.out.at (b := w.heap.size + 1) (o := 6) (v := .int .u8 z6) (by simp)) ⟨y6, u6⟩).mono ?_
  rintro e w' ⟨rfl, rfl⟩
  go_wp2_with fail
  with_reducible refine (one2 7 (w.heap.size + 1) 7 z7 _ rfl (by omega) (KH_w2.out.at (b := w.heap.size + 1) (o := 7) (v := .int .u8 z7) (by simp)) ⟨y7, u7⟩).mono ?_
  rintro e w' ⟨rfl, rfl⟩
  go_wp2_with fail
  with_reducible refine (one2 8 (w.heap.size + 1) 8 z8 _ rfl (by omega) (KH_w2.out.at (b := w.heap.size + 1) (o := 8) (v := .int .u8 z8) (by simp)) ⟨y8, u8⟩).mono ?_
  rintro e w' ⟨rfl, rfl⟩
  go_wp2_with fail
  with_reducible refine (one2 9 (w.heap.size + 1) 9 z9 _ rfl (by omega) (KH_w2.out.at (b := w.heap.size + 1) (o := 9) (v := .int .u8 z9) (by simp)) ⟨y9, u9⟩).mono ?_
  rintro e w' ⟨rfl, rfl⟩
  go_wp2_with fail
  with_reducible refine (one2 10 (w.heap.size + 1) 10 z10 _ rfl (by omega) (KH_w2.out.at (b := w.heap.size + 1) (o := 10) (v := .int .u8 z10) (by simp)) ⟨y10, u10⟩).mono ?_
  rintro e w' ⟨rfl, rfl⟩
  go_wp2_with fail
  have cR0_w2 := KH_w2.out.at (b := w.heap.size) (o := 0) (v := .int .i64 0) (by simp)
  have fR0_w2 := KH_w2.out.free (b := w.heap.size) (o := 0) (v := .int .i64 0) (by simp)
  have cR1_w2 := KH_w2.out.at (b := w.heap.size) (o := 1) (v := .int .i64 0) (by simp)
  have fR1_w2 := KH_w2.out.free (b := w.heap.size) (o := 1) (v := .int .i64 0) (by simp)
  have cR2_w2 := KH_w2.out.at (b := w.heap.size) (o := 2) (v := .int .i64 0) (by simp)
  have fR2_w2 := KH_w2.out.free (b := w.heap.size) (o := 2) (v := .int .i64 0) (by simp)
  have cR3_w2 := KH_w2.out.at (b := w.heap.size) (o := 3) (v := .int .i64 0) (by simp)
  have fR3_w2 := KH_w2.out.free (b := w.heap.size) (o := 3) (v := .int .i64 0) (by simp)
  have cR4_w2 := KH_w2.out.at (b := w.heap.size) (o := 4) (v := .int .i64 0) (by simp)
  have fR4_w2 := KH_w2.out.free (b := w.heap.size) (o := 4) (v := .int .i64 0) (by simp)
  have cR5_w2 := KH_w2.out.at (b := w.heap.size) (o := 5) (v := .int .i64 0) (by simp)
  have fR5_w2 := KH_w2.out.free (b := w.heap.size) (o := 5) (v := .int .i64 0) (by simp)
  have cR6_w2 := KH_w2.out.at (b := w.heap.size) (o := 6) (v := .int .i64 0) (by simp)
  have fR6_w2 := KH_w2.out.free (b := w.heap.size) (o := 6) (v := .int .i64 0) (by simp)
  have cR7_w2 := KH_w2.out.at (b := w.heap.size) (o := 7) (v := .int .i64 0) (by simp)
  have fR7_w2 := KH_w2.out.free (b := w.heap.size) (o := 7) (v := .int .i64 0) (by simp)
  have cR8_w2 := KH_w2.out.at (b := w.heap.size) (o := 8) (v := .int .i64 0) (by simp)
  have fR8_w2 := KH_w2.out.free (b := w.heap.size) (o := 8) (v := .int .i64 0) (by simp)
  have cR9_w2 := KH_w2.out.at (b := w.heap.size) (o := 9) (v := .bool false) (by simp)
  have fR9_w2 := KH_w2.out.free (b := w.heap.size) (o := 9) (v := .bool false) (by simp)
  have cR10_w2 := KH_w2.out.at (b := w.heap.size) (o := 10) (v := .bool false) (by simp)
  have fR10_w2 := KH_w2.out.free (b := w.heap.size) (o := 10) (v := .bool false) (by simp)
  have cR11_w2 := KH_w2.out.at (b := w.heap.size) (o := 11) (v := .bool false) (by simp)
  have fR11_w2 := KH_w2.out.free (b := w.heap.size) (o := 11) (v := .bool false) (by simp)
  with_reducible refine (ovalidc (⟨256 * z0 + z1, 256 * z2 + z3 - 1, z4, z5, z6, z7, z8, z9, z10, T1, T2, T4⟩ : Ob) true _ hv.out).mono ?_
  rintro e w3 ⟨rfl, hb_w3⟩
  have K_w3 : Kept w.heap.size w (w2.heap.size + 1) [(w.heap.size, 0, .int .i64 0), (w.heap.size, 1, .int .i64 0), (w.heap.size, 2, .int .i64 0), (w.heap.size, 3, .int .i64 0), (w.heap.size, 4, .int .i64 0), (w.heap.size, 5, .int .i64 0), (w.heap.size, 6, .int .i64 0), (w.heap.size, 7, .int .i64 0), (w.heap.size, 8, .int .i64 0), (w.heap.size, 9, .bool false), (w.heap.size, 10, .bool false), (w.heap.size, 11, .bool false), (w2.heap.size, 0, .int .i64 (256 * z0 + z1)), (w2.heap.size, 1, .int .i64 (256 * z2 + z3 - 1)), (w2.heap.size, 2, .int .i64 z4), (w2.heap.size, 3, .int .i64 z5), (w2.heap.size, 4, .int .i64 z6), (w2.heap.size, 5, .int .i64 z7), (w2.heap.size, 6, .int .i64 z8), (w2.heap.size, 7, .int .i64 z9), (w2.heap.size, 8, .int .i64 z10), (w2.heap.size, 9, .bool T1), (w2.heap.size, 10, .bool T2), (w2.heap.size, 11, .bool T4)] w3 := Kept.of hb_w3 (by go_grown) (by go_size) (by omega) (by simp [go_sem, lR_w2, lA_w2, cR0_w2, cR1_w2, cR2_w2, cR3_w2, cR4_w2, cR5_w2, cR6_w2, cR7_w2, cR8_w2, cR9_w2, cR10_w2, cR11_w2, fR0_w2, fR1_w2, fR2_w2, fR3_w2, fR4_w2, fR5_w2, fR6_w2, fR7_w2, fR8_w2, fR9_w2, fR10_w2, fR11_w2] <;> omega)
  clear hb_w3
  have KH_w3 := Lib.hid K_w3
  have hw_w3 := K_w3.below
  have hz_w3 := K_w3.size
  have lR_w3 : w.heap.size < w3.heap.size := by omega
  have lO_w3 : w2.heap.size < w3.heap.size := by omega
  clear lR_w2 lA_w2 cR0_w2 cR1_w2 cR2_w2 cR3_w2 cR4_w2 cR5_w2 cR6_w2 cR7_w2 cR8_w2 cR9_w2 cR10_w2 cR11_w2 fR0_w2 fR1_w2 fR2_w2 fR3_w2 fR4_w2 fR5_w2 fR6_w2 fR7_w2 fR8_w2 fR9_w2 fR10_w2 fR11_w2
  clear K_w3
  have cR0_w3 := KH_w3.out.at (b := w.heap.size) (o := 0) (v := .int .i64 0) (by simp)
  have fR0_w3 := KH_w3.out.free (b := w.heap.size) (o := 0) (v := .int .i64 0) (by simp)
  have cR1_w3 := KH_w3.out.at (b := w.heap.size) (o := 1) (v := .int .i64 0) (by simp)
  have fR1_w3 := KH_w3.out.free (b := w.heap.size) (o := 1) (v := .int .i64 0) (by simp)
  have cR2_w3 := KH_w3.out.at (b := w.heap.size) (o := 2) (v := .int .i64 0) (by simp)
  have fR2_w3 := KH_w3.out.free (b := w.heap.size) (o := 2) (v := .int .i64 0) (by simp)
  have cR3_w3 := KH_w3.out.at (b := w.heap.size) (o := 3) (v := .int .i64 0) (by simp)
  have fR3_w3 := KH_w3.out.free (b := w.heap.size) (o := 3) (v := .int .i64 0) (by simp)
  have cR4_w3 := KH_w3.out.at (b := w.heap.size) (o := 4) (v := .int .i64 0) (by simp)
  have fR4_w3 := KH_w3.out.free (b := w.heap.size) (o := 4) (v := .int .i64 0) (by simp)
  have cR5_w3 := KH_w3.out.at (b := w.heap.size) (o := 5) (v := .int .i64 0) (by simp)
  have fR5_w3 := KH_w3.out.free (b := w.heap.size) (o := 5) (v := .int .i64 0) (by simp)
  have cR6_w3 := KH_w3.out.at (b := w.heap.size) (o := 6) (v := .int .i64 0) (by simp)
  have fR6_w3 := KH_w3.out.free (b := w.heap.size) (o := 6) (v := .int .i64 0) (by simp)
  have cR7_w3 := KH_w3.out.at (b := w.heap.size) (o := 7) (v := .int .i64 0) (by simp)
  have fR7_w3 := KH_w3.out.free (b := w.heap.size) (o := 7) (v := .int .i64 0) (by simp)
  have cR8_w3 := KH_w3.out.at (b := w.heap.size) (o := 8) (v := .int .i64 0) (by simp)
  have fR8_w3 := KH_w3.out.free (b := w.heap.size) (o := 8) (v := .int .i64 0) (by simp)
  have cR9_w3 := KH_w3.out.at (b := w.heap.size) (o := 9) (v := .bool false) (by simp)
  have fR9_w3 := KH_w3.out.free (b := w.heap.size) (o := 9) (v := .bool false) (by simp)
  have cR10_w3 := KH_w3.out.at (b := w.heap.size) (o := 10) (v := .bool false) (by simp)
  have fR10_w3 := KH_w3.out.free (b := w.heap.size) (o := 10) (v := .bool false) (by simp)
  have cR11_w3 := KH_w3.out.at (b := w.heap.size) (o := 11) (v := .bool false) (by simp)
  have fR11_w3 := KH_w3.out.free (b := w.heap.size) (o := 11) (v := .bool false) (by simp)
  have cO0_w3 := KH_w3.out.at (b := w2.heap.size) (o := 0) (v := .int .i64 (256 * z0 + z1)) (by simp)
  have fO0_w3 := KH_w3.out.free (b := w2.heap.size) (o := 0) (v := .int .i64 (256 * z0 + z1)) (by simp)
  have cO1_w3 := KH_w3.out.at (b := w2.heap.size) (o := 1) (v := .int .i64 (256 * z2 + z3 - 1)) (by simp)
  have fO1_w3 := KH_w3.out.free (b := w2.heap.size) (o := 1) (v := .int .i64 (256 * z2 + z3 - 1)) (by simp)
  have cO2_w3 := KH_w3.out.at (b := w2.heap.size) (o := 2) (v := .int .i64 z4) (by simp)
  have fO2_w3 := KH_w3.out.free (b := w2.heap.size) (o := 2) (v := .int .i64 z4) (by simp)
  have cO3_w3 := KH_w3.out.at (b := w2.heap.size) (o := 3) (v := .int .i64 z5) (by simp)
  have fO3_w3 := KH_w3.out.free (b := w2.heap.size) (o := 3) (v := .int .i64 z5) (by simp)
  have cO4_w3 := KH_w3.out.at (b := w2.heap.size) (o := 4) (v := .int .i64 z6) (by simp)
  have fO4_w3 := KH_w3.out.free (b := w2.heap.size) (o := 4) (v := .int .i64 z6) (by simp)
  have cO5_w3 := KH_w3.out.at (b := w2.heap.size) (o := 5) (v := .int .i64 z7) (by simp)
  have fO5_w3 := KH_w3.out.free (b := w2.heap.size) (o := 5) (v := .int .i64 z7) (by simp)
  have cO6_w3 := KH_w3.out.at (b := w2.heap.size) (o := 6) (v := .int .i64 z8) (by simp)
  have fO6_w3 := KH_w3.out.free (b := w2.heap.size) (o := 6) (v := .int .i64 z8) (by simp)
  have cO7_w3 := KH_w3.out.at (b := w2.heap.size) (o := 7) (v := .int .i64 z9) (by simp)
  have fO7_w3 := KH_w3.out.free (b := w2.heap.size) (o := 7) (v := .int .i64 z9) (by simp)
  have cO8_w3 := KH_w3.out.at (b := w2.heap.size) (o := 8) (v := .int .i64 z10) (by simp)
  have fO8_w3 := KH_w3.out.free (b := w2.heap.size) (o := 8) (v := .int .i64 z10) (by simp)
  have cO9_w3 := KH_w3.out.at (b := w2.heap.size) (o := 9) (v := .bool T1) (by simp)
  have fO9_w3 := KH_w3.out.free (b := w2.heap.size) (o := 9) (v := .bool T1) (by simp)
  have cO10_w3 := KH_w3.out.at (b := w2.heap.size) (o := 10) (v := .bool T2) (by simp)
  have fO10_w3 := KH_w3.out.free (b := w2.heap.size) (o := 10) (v := .bool T2) (by simp)
  have cO11_w3 := KH_w3.out.at (b := w2.heap.size) (o := 11) (v := .bool T4) (by simp)
  have fO11_w3 := KH_w3.out.free (b := w2.heap.size) (o := 11) (v := .bool T4) (by simp)
  go_wp2_with fail
  exact bodyPost_ret (v := .tuple #[.agg #[.int .i64 (256 * z0 + z1), .int .i64 (256 * z2 + z3 - 1), .int .i64 z4, .int .i64 z5, .int .i64 z6, .int .i64 z7, .int .i64 z8, .int .i64 z9, .int .i64 z10, .bool T1, .bool T2, .bool T4], .int .i64 0]) (by simp [results, Try.results33, go_sem, lR_w3, lO_w3, cR0_w3, fR0_w3, cR1_w3, fR1_w3, cR2_w3, fR2_w3, cR3_w3, fR3_w3, cR4_w3, fR4_w3, cR5_w3, fR5_w3, cR6_w3, fR6_w3, cR7_w3, fR7_w3, cR8_w3, fR8_w3, cR9_w3, fR9_w3, cR10_w3, fR10_w3, cR11_w3, fR11_w3, cO0_w3, fO0_w3, cO1_w3, fO1_w3, cO2_w3, fO2_w3, cO3_w3, fO3_w3, cO4_w3, fO4_w3, cO5_w3, fO5_w3, cO6_w3, fO6_w3, cO7_w3, fO7_w3, cO8_w3, fO8_w3, cO9_w3, fO9_w3, cO10_w3, fO10_w3, cO11_w3, fO11_w3]) rfl ⟨rfl, by go_grown⟩

end Go.Proofs.Ytjedflfgafhlkaa
