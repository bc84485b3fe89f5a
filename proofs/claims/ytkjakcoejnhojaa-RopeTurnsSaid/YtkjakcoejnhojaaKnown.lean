/- The examples of the chapter. -/
import Derived.Test.YtkjakcoejnhojaaWk4
namespace Go.Proofs.Ytkjakcoejnhojaa
open Go.RowKit Plain
set_option linter.unusedVariables false
set_option linter.unusedSimpArgs false

set_option maxRecDepth 100000 in
set_option maxHeartbeats 4000000 in
theorem known12 (w : World) : Calls Try.prog 12 #[] w fun e w' => e = .returned (.bool true) ∧ Below w.heap.size w w' := by
  go_enter Try.func12, Try.ntmps12
  go_wp2_with fail
  with_reducible refine (of23 10 5 _).mono ?_
  rintro e w1 ⟨rfl, hb_w1⟩
  have K_w1 : Kept w.heap.size w (w.heap.size) [] w1 := Kept.of hb_w1 (by go_grown) (by go_size) (by omega) (by simp [go_sem] <;> omega)
  clear hb_w1
  have hw_w1 := K_w1.below
  have hz_w1 := K_w1.size
  clear K_w1
  go_wp2_with fail
  with_reducible refine (of23 0 0 _).mono ?_
  rintro e w2 ⟨rfl, hb_w2⟩
  have K_w2 : Kept w.heap.size w (w.heap.size) [] w2 := Kept.of hb_w2 (by go_grown) (by go_size) (by omega) (by simp [go_sem] <;> omega)
  clear hb_w2
  have hw_w2 := K_w2.below
  have hz_w2 := K_w2.size
  clear K_w2
  go_wp2_with fail
  refine wp_region_kept (w := w) (B := w.heap.size) (n := w2.heap.size + 2) (L := [(w2.heap.size, 0, .int .u64 10), (w2.heap.size, 1, .int .u64 5), (w2.heap.size + 1, 0, .int .u64 0), (w2.heap.size + 1, 1, .int .u64 0)]) ⟨by go_grown, by go_size, (by simp [go_sem] <;> omega)⟩ (by kernel_rfl) (by kernel_rfl) (fun _ne => ?_)
  have rA0 : ∀ s : KW w.heap.size w (w2.heap.size + 2) [(w2.heap.size, 0, .int .u64 10), (w2.heap.size, 1, .int .u64 5), (w2.heap.size + 1, 0, .int .u64 0), (w2.heap.size + 1, 1, .int .u64 0)], s.val.cell? ⟨w2.heap.size, 0, none⟩ = some (.int .u64 10) := fun s => s.kept.at (by simp)
  have rA1 : ∀ s : KW w.heap.size w (w2.heap.size + 2) [(w2.heap.size, 0, .int .u64 10), (w2.heap.size, 1, .int .u64 5), (w2.heap.size + 1, 0, .int .u64 0), (w2.heap.size + 1, 1, .int .u64 0)], s.val.cell? ⟨w2.heap.size, 1, none⟩ = some (.int .u64 5) := fun s => s.kept.at (by simp)
  have rO0 : ∀ s : KW w.heap.size w (w2.heap.size + 2) [(w2.heap.size, 0, .int .u64 10), (w2.heap.size, 1, .int .u64 5), (w2.heap.size + 1, 0, .int .u64 0), (w2.heap.size + 1, 1, .int .u64 0)], s.val.cell? ⟨w2.heap.size + 1, 0, none⟩ = some (.int .u64 0) := fun s => s.kept.at (by simp)
  have rO1 : ∀ s : KW w.heap.size w (w2.heap.size + 2) [(w2.heap.size, 0, .int .u64 10), (w2.heap.size, 1, .int .u64 5), (w2.heap.size + 1, 0, .int .u64 0), (w2.heap.size + 1, 1, .int .u64 0)], s.val.cell? ⟨w2.heap.size + 1, 1, none⟩ = some (.int .u64 0) := fun s => s.kept.at (by simp)
  repeat (go_big_quiet_step (first | (go_at_call 23; exact calls_kept (by omega) (of23 _ _ _)) | (go_at_call 11; exact calls_kept (by omega) (charges11 _ _ _ _ _ _ _ _ (by unfold U; omega) (by unfold U; omega) (by unfold U; omega) (by decide +kernel) (by decide +kernel) (by decide +kernel) (by decide +kernel) rfl)) | (go_at_call 11; exact calls_kept (by omega) (charges11_no _ _ _ _ (by decide +kernel))) | (go_at_call 17; exact calls_kept (by omega) (gives17 _ _ _ _ _ _ _ (by decide +kernel) (by decide +kernel) (by decide +kernel))) | (go_at_call 19; exact calls_kept (by omega) (until19 _ _ _ _ _ (by unfold U; omega) (by unfold U; omega) (by decide +kernel) (by decide +kernel) rfl)) | (go_at_call 18; exact calls_kept (by omega) (empty18 _ _ _))))
  refine wpQuiet_nil ?_
  rintro w3 ⟨⟨_, K_w3⟩, rfl⟩
  clear _ne rA0 rA1 rO0 rO1
  have hw_w3 := K_w3.below
  have hz_w3 := K_w3.size
  have lA_w3 : w2.heap.size < w3.heap.size := by omega
  have cA0_w3 := K_w3.at (b := w2.heap.size) (o := 0) (v := .int .u64 10) (by simp)
  have fA0_w3 := K_w3.free (b := w2.heap.size) (o := 0) (v := .int .u64 10) (by simp)
  have cA1_w3 := K_w3.at (b := w2.heap.size) (o := 1) (v := .int .u64 5) (by simp)
  have fA1_w3 := K_w3.free (b := w2.heap.size) (o := 1) (v := .int .u64 5) (by simp)
  have lO_w3 : w2.heap.size + 1 < w3.heap.size := by omega
  have cO0_w3 := K_w3.at (b := w2.heap.size + 1) (o := 0) (v := .int .u64 0) (by simp)
  have fO0_w3 := K_w3.free (b := w2.heap.size + 1) (o := 0) (v := .int .u64 0) (by simp)
  have cO1_w3 := K_w3.at (b := w2.heap.size + 1) (o := 1) (v := .int .u64 0) (by simp)
  have fO1_w3 := K_w3.free (b := w2.heap.size + 1) (o := 1) (v := .int .u64 0) (by simp)
  clear K_w3
  go_wp2_with fail
  with_reducible refine (of23 0 3 _).mono ?_
  rintro e w4 ⟨rfl, hb_w4⟩
  have K_w4 : Kept w.heap.size w (w2.heap.size + 2) [(w2.heap.size, 0, .int .u64 10), (w2.heap.size, 1, .int .u64 5), (w2.heap.size + 1, 0, .int .u64 0), (w2.heap.size + 1, 1, .int .u64 0)] w4 := Kept.of hb_w4 (by go_grown) (by go_size) (by omega) (by simp [go_sem, lA_w3, cA0_w3, fA0_w3, cA1_w3, fA1_w3, lO_w3, cO0_w3, fO0_w3, cO1_w3, fO1_w3] <;> omega)
  clear hb_w4
  have hw_w4 := K_w4.below
  have hz_w4 := K_w4.size
  have lA_w4 : w2.heap.size < w4.heap.size := by omega
  have cA0_w4 := K_w4.at (b := w2.heap.size) (o := 0) (v := .int .u64 10) (by simp)
  have fA0_w4 := K_w4.free (b := w2.heap.size) (o := 0) (v := .int .u64 10) (by simp)
  have cA1_w4 := K_w4.at (b := w2.heap.size) (o := 1) (v := .int .u64 5) (by simp)
  have fA1_w4 := K_w4.free (b := w2.heap.size) (o := 1) (v := .int .u64 5) (by simp)
  have lO_w4 : w2.heap.size + 1 < w4.heap.size := by omega
  have cO0_w4 := K_w4.at (b := w2.heap.size + 1) (o := 0) (v := .int .u64 0) (by simp)
  have fO0_w4 := K_w4.free (b := w2.heap.size + 1) (o := 0) (v := .int .u64 0) (by simp)
  have cO1_w4 := K_w4.at (b := w2.heap.size + 1) (o := 1) (v := .int .u64 0) (by simp)
  have fO1_w4 := K_w4.free (b := w2.heap.size + 1) (o := 1) (v := .int .u64 0) (by simp)
  clear lA_w3 cA0_w3 fA0_w3 cA1_w3 fA1_w3 lO_w3 cO0_w3 fO0_w3 cO1_w3 fO1_w3
  clear K_w4
  go_wp2_with fail
  with_reducible refine (refill13 0 3 10 _ (by decide +kernel) (by decide +kernel)).mono ?_
  rintro e w5 ⟨rfl, hb_w5⟩
  have K_w5 : Kept w.heap.size w (w2.heap.size + 2) [(w2.heap.size, 0, .int .u64 10), (w2.heap.size, 1, .int .u64 5), (w2.heap.size + 1, 0, .int .u64 0), (w2.heap.size + 1, 1, .int .u64 0)] w5 := Kept.of hb_w5 (by go_grown) (by go_size) (by omega) (by simp [go_sem, lA_w4, cA0_w4, fA0_w4, cA1_w4, fA1_w4, lO_w4, cO0_w4, fO0_w4, cO1_w4, fO1_w4] <;> omega)
  clear hb_w5
  have hw_w5 := K_w5.below
  have hz_w5 := K_w5.size
  have lA_w5 : w2.heap.size < w5.heap.size := by omega
  have cA0_w5 := K_w5.at (b := w2.heap.size) (o := 0) (v := .int .u64 10) (by simp)
  have fA0_w5 := K_w5.free (b := w2.heap.size) (o := 0) (v := .int .u64 10) (by simp)
  have cA1_w5 := K_w5.at (b := w2.heap.size) (o := 1) (v := .int .u64 5) (by simp)
  have fA1_w5 := K_w5.free (b := w2.heap.size) (o := 1) (v := .int .u64 5) (by simp)
  have lO_w5 : w2.heap.size + 1 < w5.heap.size := by omega
  have cO0_w5 := K_w5.at (b := w2.heap.size + 1) (o := 0) (v := .int .u64 0) (by simp)
  have fO0_w5 := K_w5.free (b := w2.heap.size + 1) (o := 0) (v := .int .u64 0) (by simp)
  have cO1_w5 := K_w5.at (b := w2.heap.size + 1) (o := 1) (v := .int .u64 0) (by simp)
  have fO1_w5 := K_w5.free (b := w2.heap.size + 1) (o := 1) (v := .int .u64 0) (by simp)
  clear lA_w4 cA0_w4 fA0_w4 cA1_w4 fA1_w4 lO_w4 cO0_w4 fO0_w4 cO1_w4 fO1_w4
  clear K_w5
  go_wp2_with fail
  with_reducible refine (of23 0 3 _).mono ?_
  rintro e w6 ⟨rfl, hb_w6⟩
  have K_w6 : Kept w.heap.size w (w5.heap.size + 1) [(w2.heap.size, 0, .int .u64 10), (w2.heap.size, 1, .int .u64 5), (w2.heap.size + 1, 0, .int .u64 0), (w2.heap.size + 1, 1, .int .u64 0), (w5.heap.size, 0, .int .u64 10), (w5.heap.size, 1, .int .u64 3)] w6 := Kept.of hb_w6 (by go_grown) (by go_size) (by omega) (by simp [go_sem, lA_w5, cA0_w5, fA0_w5, cA1_w5, fA1_w5, lO_w5, cO0_w5, fO0_w5, cO1_w5, fO1_w5] <;> omega)
  clear hb_w6
  have hw_w6 := K_w6.below
  have hz_w6 := K_w6.size
  have lA_w6 : w2.heap.size < w6.heap.size := by omega
  have cA0_w6 := K_w6.at (b := w2.heap.size) (o := 0) (v := .int .u64 10) (by simp)
  have fA0_w6 := K_w6.free (b := w2.heap.size) (o := 0) (v := .int .u64 10) (by simp)
  have cA1_w6 := K_w6.at (b := w2.heap.size) (o := 1) (v := .int .u64 5) (by simp)
  have fA1_w6 := K_w6.free (b := w2.heap.size) (o := 1) (v := .int .u64 5) (by simp)
  have lO_w6 : w2.heap.size + 1 < w6.heap.size := by omega
  have cO0_w6 := K_w6.at (b := w2.heap.size + 1) (o := 0) (v := .int .u64 0) (by simp)
  have fO0_w6 := K_w6.free (b := w2.heap.size + 1) (o := 0) (v := .int .u64 0) (by simp)
  have cO1_w6 := K_w6.at (b := w2.heap.size + 1) (o := 1) (v := .int .u64 0) (by simp)
  have fO1_w6 := K_w6.free (b := w2.heap.size + 1) (o := 1) (v := .int .u64 0) (by simp)
  have lB_w6 : w5.heap.size < w6.heap.size := by omega
  have cB0_w6 := K_w6.at (b := w5.heap.size) (o := 0) (v := .int .u64 10) (by simp)
  have fB0_w6 := K_w6.free (b := w5.heap.size) (o := 0) (v := .int .u64 10) (by simp)
  have cB1_w6 := K_w6.at (b := w5.heap.size) (o := 1) (v := .int .u64 3) (by simp)
  have fB1_w6 := K_w6.free (b := w5.heap.size) (o := 1) (v := .int .u64 3) (by simp)
  clear lA_w5 cA0_w5 fA0_w5 cA1_w5 fA1_w5 lO_w5 cO0_w5 fO0_w5 cO1_w5 fO1_w5
  clear K_w6
  go_wp2_with fail
  with_reducible refine (refill13_no 0 3 1099511627777 _ (Or.inl (by decide +kernel))).mono ?_
  rintro e w7 ⟨rfl, hb_w7⟩
  have K_w7 : Kept w.heap.size w (w5.heap.size + 1) [(w2.heap.size, 0, .int .u64 10), (w2.heap.size, 1, .int .u64 5), (w2.heap.size + 1, 0, .int .u64 0), (w2.heap.size + 1, 1, .int .u64 0), (w5.heap.size, 0, .int .u64 10), (w5.heap.size, 1, .int .u64 3)] w7 := Kept.of hb_w7 (by go_grown) (by go_size) (by omega) (by simp [go_sem, lA_w6, cA0_w6, fA0_w6, cA1_w6, fA1_w6, lO_w6, cO0_w6, fO0_w6, cO1_w6, fO1_w6, lB_w6, cB0_w6, fB0_w6, cB1_w6, fB1_w6] <;> omega)
  clear hb_w7
  have hw_w7 := K_w7.below
  have hz_w7 := K_w7.size
  have lA_w7 : w2.heap.size < w7.heap.size := by omega
  have cA0_w7 := K_w7.at (b := w2.heap.size) (o := 0) (v := .int .u64 10) (by simp)
  have fA0_w7 := K_w7.free (b := w2.heap.size) (o := 0) (v := .int .u64 10) (by simp)
  have cA1_w7 := K_w7.at (b := w2.heap.size) (o := 1) (v := .int .u64 5) (by simp)
  have fA1_w7 := K_w7.free (b := w2.heap.size) (o := 1) (v := .int .u64 5) (by simp)
  have lO_w7 : w2.heap.size + 1 < w7.heap.size := by omega
  have cO0_w7 := K_w7.at (b := w2.heap.size + 1) (o := 0) (v := .int .u64 0) (by simp)
  have fO0_w7 := K_w7.free (b := w2.heap.size + 1) (o := 0) (v := .int .u64 0) (by simp)
  have cO1_w7 := K_w7.at (b := w2.heap.size + 1) (o := 1) (v := .int .u64 0) (by simp)
  have fO1_w7 := K_w7.free (b := w2.heap.size + 1) (o := 1) (v := .int .u64 0) (by simp)
  have lB_w7 : w5.heap.size < w7.heap.size := by omega
  have cB0_w7 := K_w7.at (b := w5.heap.size) (o := 0) (v := .int .u64 10) (by simp)
  have fB0_w7 := K_w7.free (b := w5.heap.size) (o := 0) (v := .int .u64 10) (by simp)
  have cB1_w7 := K_w7.at (b := w5.heap.size) (o := 1) (v := .int .u64 3) (by simp)
  have fB1_w7 := K_w7.free (b := w5.heap.size) (o := 1) (v := .int .u64 3) (by simp)
  clear lA_w6 cA0_w6 fA0_w6 cA1_w6 fA1_w6 lO_w6 cO0_w6 fO0_w6 cO1_w6 fO1_w6 lB_w6 cB0_w6 fB0_w6 cB1_w6 fB1_w6
  clear K_w7
  go_wp2_with fail
  with_reducible refine (of23 0 3 _).mono ?_
  rintro e w8 ⟨rfl, hb_w8⟩
  have K_w8 : Kept w.heap.size w (w7.heap.size + 1) [(w2.heap.size, 0, .int .u64 10), (w2.heap.size, 1, .int .u64 5), (w2.heap.size + 1, 0, .int .u64 0), (w2.heap.size + 1, 1, .int .u64 0), (w5.heap.size, 0, .int .u64 10), (w5.heap.size, 1, .int .u64 3), (w7.heap.size, 0, .int .u64 0), (w7.heap.size, 1, .int .u64 0)] w8 := Kept.of hb_w8 (by go_grown) (by go_size) (by omega) (by simp [go_sem, lA_w7, cA0_w7, fA0_w7, cA1_w7, fA1_w7, lO_w7, cO0_w7, fO0_w7, cO1_w7, fO1_w7, lB_w7, cB0_w7, fB0_w7, cB1_w7, fB1_w7] <;> omega)
  clear hb_w8
  have hw_w8 := K_w8.below
  have hz_w8 := K_w8.size
  have lA_w8 : w2.heap.size < w8.heap.size := by omega
  have cA0_w8 := K_w8.at (b := w2.heap.size) (o := 0) (v := .int .u64 10) (by simp)
  have fA0_w8 := K_w8.free (b := w2.heap.size) (o := 0) (v := .int .u64 10) (by simp)
  have cA1_w8 := K_w8.at (b := w2.heap.size) (o := 1) (v := .int .u64 5) (by simp)
  have fA1_w8 := K_w8.free (b := w2.heap.size) (o := 1) (v := .int .u64 5) (by simp)
  have lO_w8 : w2.heap.size + 1 < w8.heap.size := by omega
  have cO0_w8 := K_w8.at (b := w2.heap.size + 1) (o := 0) (v := .int .u64 0) (by simp)
  have fO0_w8 := K_w8.free (b := w2.heap.size + 1) (o := 0) (v := .int .u64 0) (by simp)
  have cO1_w8 := K_w8.at (b := w2.heap.size + 1) (o := 1) (v := .int .u64 0) (by simp)
  have fO1_w8 := K_w8.free (b := w2.heap.size + 1) (o := 1) (v := .int .u64 0) (by simp)
  have lB_w8 : w5.heap.size < w8.heap.size := by omega
  have cB0_w8 := K_w8.at (b := w5.heap.size) (o := 0) (v := .int .u64 10) (by simp)
  have fB0_w8 := K_w8.free (b := w5.heap.size) (o := 0) (v := .int .u64 10) (by simp)
  have cB1_w8 := K_w8.at (b := w5.heap.size) (o := 1) (v := .int .u64 3) (by simp)
  have fB1_w8 := K_w8.free (b := w5.heap.size) (o := 1) (v := .int .u64 3) (by simp)
  have lC_w8 : w7.heap.size < w8.heap.size := by omega
  have cC0_w8 := K_w8.at (b := w7.heap.size) (o := 0) (v := .int .u64 0) (by simp)
  have fC0_w8 := K_w8.free (b := w7.heap.size) (o := 0) (v := .int .u64 0) (by simp)
  have cC1_w8 := K_w8.at (b := w7.heap.size) (o := 1) (v := .int .u64 0) (by simp)
  have fC1_w8 := K_w8.free (b := w7.heap.size) (o := 1) (v := .int .u64 0) (by simp)
  clear lA_w7 cA0_w7 fA0_w7 cA1_w7 fA1_w7 lO_w7 cO0_w7 fO0_w7 cO1_w7 fO1_w7 lB_w7 cB0_w7 fB0_w7 cB1_w7 fB1_w7
  clear K_w8
  go_wp2_with fail
  with_reducible refine (extend14c 0 3 4 7 _ (by unfold U; omega) (by unfold U; omega) (by decide +kernel) (by decide +kernel)).mono ?_
  rintro e w9 ⟨rfl, hb_w9⟩
  have K_w9 : Kept w.heap.size w (w7.heap.size + 1) [(w2.heap.size, 0, .int .u64 10), (w2.heap.size, 1, .int .u64 5), (w2.heap.size + 1, 0, .int .u64 0), (w2.heap.size + 1, 1, .int .u64 0), (w5.heap.size, 0, .int .u64 10), (w5.heap.size, 1, .int .u64 3), (w7.heap.size, 0, .int .u64 0), (w7.heap.size, 1, .int .u64 0)] w9 := Kept.of hb_w9 (by go_grown) (by go_size) (by omega) (by simp [go_sem, lA_w8, cA0_w8, fA0_w8, cA1_w8, fA1_w8, lO_w8, cO0_w8, fO0_w8, cO1_w8, fO1_w8, lB_w8, cB0_w8, fB0_w8, cB1_w8, fB1_w8, lC_w8, cC0_w8, fC0_w8, cC1_w8, fC1_w8] <;> omega)
  clear hb_w9
  have hw_w9 := K_w9.below
  have hz_w9 := K_w9.size
  have lA_w9 : w2.heap.size < w9.heap.size := by omega
  have cA0_w9 := K_w9.at (b := w2.heap.size) (o := 0) (v := .int .u64 10) (by simp)
  have fA0_w9 := K_w9.free (b := w2.heap.size) (o := 0) (v := .int .u64 10) (by simp)
  have cA1_w9 := K_w9.at (b := w2.heap.size) (o := 1) (v := .int .u64 5) (by simp)
  have fA1_w9 := K_w9.free (b := w2.heap.size) (o := 1) (v := .int .u64 5) (by simp)
  have lO_w9 : w2.heap.size + 1 < w9.heap.size := by omega
  have cO0_w9 := K_w9.at (b := w2.heap.size + 1) (o := 0) (v := .int .u64 0) (by simp)
  have fO0_w9 := K_w9.free (b := w2.heap.size + 1) (o := 0) (v := .int .u64 0) (by simp)
  have cO1_w9 := K_w9.at (b := w2.heap.size + 1) (o := 1) (v := .int .u64 0) (by simp)
  have fO1_w9 := K_w9.free (b := w2.heap.size + 1) (o := 1) (v := .int .u64 0) (by simp)
  have lB_w9 : w5.heap.size < w9.heap.size := by omega
  have cB0_w9 := K_w9.at (b := w5.heap.size) (o := 0) (v := .int .u64 10) (by simp)
  have fB0_w9 := K_w9.free (b := w5.heap.size) (o := 0) (v := .int .u64 10) (by simp)
  have cB1_w9 := K_w9.at (b := w5.heap.size) (o := 1) (v := .int .u64 3) (by simp)
  have fB1_w9 := K_w9.free (b := w5.heap.size) (o := 1) (v := .int .u64 3) (by simp)
  have lC_w9 : w7.heap.size < w9.heap.size := by omega
  have cC0_w9 := K_w9.at (b := w7.heap.size) (o := 0) (v := .int .u64 0) (by simp)
  have fC0_w9 := K_w9.free (b := w7.heap.size) (o := 0) (v := .int .u64 0) (by simp)
  have cC1_w9 := K_w9.at (b := w7.heap.size) (o := 1) (v := .int .u64 0) (by simp)
  have fC1_w9 := K_w9.free (b := w7.heap.size) (o := 1) (v := .int .u64 0) (by simp)
  clear lA_w8 cA0_w8 fA0_w8 cA1_w8 fA1_w8 lO_w8 cO0_w8 fO0_w8 cO1_w8 fO1_w8 lB_w8 cB0_w8 fB0_w8 cB1_w8 fB1_w8 lC_w8 cC0_w8 fC0_w8 cC1_w8 fC1_w8
  clear K_w9
  go_wp2_with fail
  with_reducible refine (of23 0 3 _).mono ?_
  rintro e w10 ⟨rfl, hb_w10⟩
  have K_w10 : Kept w.heap.size w (w9.heap.size + 1) [(w2.heap.size, 0, .int .u64 10), (w2.heap.size, 1, .int .u64 5), (w2.heap.size + 1, 0, .int .u64 0), (w2.heap.size + 1, 1, .int .u64 0), (w5.heap.size, 0, .int .u64 10), (w5.heap.size, 1, .int .u64 3), (w7.heap.size, 0, .int .u64 0), (w7.heap.size, 1, .int .u64 0), (w9.heap.size, 0, .int .u64 0), (w9.heap.size, 1, .int .u64 7)] w10 := Kept.of hb_w10 (by go_grown) (by go_size) (by omega) (by simp [go_sem, lA_w9, cA0_w9, fA0_w9, cA1_w9, fA1_w9, lO_w9, cO0_w9, fO0_w9, cO1_w9, fO1_w9, lB_w9, cB0_w9, fB0_w9, cB1_w9, fB1_w9, lC_w9, cC0_w9, fC0_w9, cC1_w9, fC1_w9] <;> omega)
  clear hb_w10
  have hw_w10 := K_w10.below
  have hz_w10 := K_w10.size
  have lA_w10 : w2.heap.size < w10.heap.size := by omega
  have cA0_w10 := K_w10.at (b := w2.heap.size) (o := 0) (v := .int .u64 10) (by simp)
  have fA0_w10 := K_w10.free (b := w2.heap.size) (o := 0) (v := .int .u64 10) (by simp)
  have cA1_w10 := K_w10.at (b := w2.heap.size) (o := 1) (v := .int .u64 5) (by simp)
  have fA1_w10 := K_w10.free (b := w2.heap.size) (o := 1) (v := .int .u64 5) (by simp)
  have lO_w10 : w2.heap.size + 1 < w10.heap.size := by omega
  have cO0_w10 := K_w10.at (b := w2.heap.size + 1) (o := 0) (v := .int .u64 0) (by simp)
  have fO0_w10 := K_w10.free (b := w2.heap.size + 1) (o := 0) (v := .int .u64 0) (by simp)
  have cO1_w10 := K_w10.at (b := w2.heap.size + 1) (o := 1) (v := .int .u64 0) (by simp)
  have fO1_w10 := K_w10.free (b := w2.heap.size + 1) (o := 1) (v := .int .u64 0) (by simp)
  have lB_w10 : w5.heap.size < w10.heap.size := by omega
  have cB0_w10 := K_w10.at (b := w5.heap.size) (o := 0) (v := .int .u64 10) (by simp)
  have fB0_w10 := K_w10.free (b := w5.heap.size) (o := 0) (v := .int .u64 10) (by simp)
  have cB1_w10 := K_w10.at (b := w5.heap.size) (o := 1) (v := .int .u64 3) (by simp)
  have fB1_w10 := K_w10.free (b := w5.heap.size) (o := 1) (v := .int .u64 3) (by simp)
  have lC_w10 : w7.heap.size < w10.heap.size := by omega
  have cC0_w10 := K_w10.at (b := w7.heap.size) (o := 0) (v := .int .u64 0) (by simp)
  have fC0_w10 := K_w10.free (b := w7.heap.size) (o := 0) (v := .int .u64 0) (by simp)
  have cC1_w10 := K_w10.at (b := w7.heap.size) (o := 1) (v := .int .u64 0) (by simp)
  have fC1_w10 := K_w10.free (b := w7.heap.size) (o := 1) (v := .int .u64 0) (by simp)
  have lD_w10 : w9.heap.size < w10.heap.size := by omega
  have cD0_w10 := K_w10.at (b := w9.heap.size) (o := 0) (v := .int .u64 0) (by simp)
  have fD0_w10 := K_w10.free (b := w9.heap.size) (o := 0) (v := .int .u64 0) (by simp)
  have cD1_w10 := K_w10.at (b := w9.heap.size) (o := 1) (v := .int .u64 7) (by simp)
  have fD1_w10 := K_w10.free (b := w9.heap.size) (o := 1) (v := .int .u64 7) (by simp)
  clear lA_w9 cA0_w9 fA0_w9 cA1_w9 fA1_w9 lO_w9 cO0_w9 fO0_w9 cO1_w9 fO1_w9 lB_w9 cB0_w9 fB0_w9 cB1_w9 fB1_w9 lC_w9 cC0_w9 fC0_w9 cC1_w9 fC1_w9
  clear K_w10
  go_wp2_with fail
  with_reducible refine (extend14c 0 3 18446744073709551615 1099511627776 _ (by unfold U; omega) (by unfold U; omega) (by decide +kernel) (by decide +kernel)).mono ?_
  rintro e w11 ⟨rfl, hb_w11⟩
  have K_w11 : Kept w.heap.size w (w9.heap.size + 1) [(w2.heap.size, 0, .int .u64 10), (w2.heap.size, 1, .int .u64 5), (w2.heap.size + 1, 0, .int .u64 0), (w2.heap.size + 1, 1, .int .u64 0), (w5.heap.size, 0, .int .u64 10), (w5.heap.size, 1, .int .u64 3), (w7.heap.size, 0, .int .u64 0), (w7.heap.size, 1, .int .u64 0), (w9.heap.size, 0, .int .u64 0), (w9.heap.size, 1, .int .u64 7)] w11 := Kept.of hb_w11 (by go_grown) (by go_size) (by omega) (by simp [go_sem, lA_w10, cA0_w10, fA0_w10, cA1_w10, fA1_w10, lO_w10, cO0_w10, fO0_w10, cO1_w10, fO1_w10, lB_w10, cB0_w10, fB0_w10, cB1_w10, fB1_w10, lC_w10, cC0_w10, fC0_w10, cC1_w10, fC1_w10, lD_w10, cD0_w10, fD0_w10, cD1_w10, fD1_w10] <;> omega)
  clear hb_w11
  have hw_w11 := K_w11.below
  have hz_w11 := K_w11.size
  have lA_w11 : w2.heap.size < w11.heap.size := by omega
  have cA0_w11 := K_w11.at (b := w2.heap.size) (o := 0) (v := .int .u64 10) (by simp)
  have fA0_w11 := K_w11.free (b := w2.heap.size) (o := 0) (v := .int .u64 10) (by simp)
  have cA1_w11 := K_w11.at (b := w2.heap.size) (o := 1) (v := .int .u64 5) (by simp)
  have fA1_w11 := K_w11.free (b := w2.heap.size) (o := 1) (v := .int .u64 5) (by simp)
  have lO_w11 : w2.heap.size + 1 < w11.heap.size := by omega
  have cO0_w11 := K_w11.at (b := w2.heap.size + 1) (o := 0) (v := .int .u64 0) (by simp)
  have fO0_w11 := K_w11.free (b := w2.heap.size + 1) (o := 0) (v := .int .u64 0) (by simp)
  have cO1_w11 := K_w11.at (b := w2.heap.size + 1) (o := 1) (v := .int .u64 0) (by simp)
  have fO1_w11 := K_w11.free (b := w2.heap.size + 1) (o := 1) (v := .int .u64 0) (by simp)
  have lB_w11 : w5.heap.size < w11.heap.size := by omega
  have cB0_w11 := K_w11.at (b := w5.heap.size) (o := 0) (v := .int .u64 10) (by simp)
  have fB0_w11 := K_w11.free (b := w5.heap.size) (o := 0) (v := .int .u64 10) (by simp)
  have cB1_w11 := K_w11.at (b := w5.heap.size) (o := 1) (v := .int .u64 3) (by simp)
  have fB1_w11 := K_w11.free (b := w5.heap.size) (o := 1) (v := .int .u64 3) (by simp)
  have lC_w11 : w7.heap.size < w11.heap.size := by omega
  have cC0_w11 := K_w11.at (b := w7.heap.size) (o := 0) (v := .int .u64 0) (by simp)
  have fC0_w11 := K_w11.free (b := w7.heap.size) (o := 0) (v := .int .u64 0) (by simp)
  have cC1_w11 := K_w11.at (b := w7.heap.size) (o := 1) (v := .int .u64 0) (by simp)
  have fC1_w11 := K_w11.free (b := w7.heap.size) (o := 1) (v := .int .u64 0) (by simp)
  have lD_w11 : w9.heap.size < w11.heap.size := by omega
  have cD0_w11 := K_w11.at (b := w9.heap.size) (o := 0) (v := .int .u64 0) (by simp)
  have fD0_w11 := K_w11.free (b := w9.heap.size) (o := 0) (v := .int .u64 0) (by simp)
  have cD1_w11 := K_w11.at (b := w9.heap.size) (o := 1) (v := .int .u64 7) (by simp)
  have fD1_w11 := K_w11.free (b := w9.heap.size) (o := 1) (v := .int .u64 7) (by simp)
  clear lA_w10 cA0_w10 fA0_w10 cA1_w10 fA1_w10 lO_w10 cO0_w10 fO0_w10 cO1_w10 fO1_w10 lB_w10 cB0_w10 fB0_w10 cB1_w10 fB1_w10 lC_w10 cC0_w10 fC0_w10 cC1_w10 fC1_w10 lD_w10 cD0_w10 fD0_w10 cD1_w10 fD1_w10
  clear K_w11
  go_wp2_with fail
  refine wp_region_kept (w := w) (B := w.heap.size) (n := w11.heap.size + 1) (L := [(w2.heap.size, 0, .int .u64 10), (w2.heap.size, 1, .int .u64 5), (w2.heap.size + 1, 0, .int .u64 0), (w2.heap.size + 1, 1, .int .u64 0), (w5.heap.size, 0, .int .u64 10), (w5.heap.size, 1, .int .u64 3), (w7.heap.size, 0, .int .u64 0), (w7.heap.size, 1, .int .u64 0), (w9.heap.size, 0, .int .u64 0), (w9.heap.size, 1, .int .u64 7), (w11.heap.size, 0, .int .u64 0), (w11.heap.size, 1, .int .u64 1099511627776)]) ⟨by go_grown, by go_size, (by simp [go_sem, lA_w11, cA0_w11, fA0_w11, cA1_w11, fA1_w11, lO_w11, cO0_w11, fO0_w11, cO1_w11, fO1_w11, lB_w11, cB0_w11, fB0_w11, cB1_w11, fB1_w11, lC_w11, cC0_w11, fC0_w11, cC1_w11, fC1_w11, lD_w11, cD0_w11, fD0_w11, cD1_w11, fD1_w11] <;> omega)⟩ (by kernel_rfl) (by kernel_rfl) (fun _ne => ?_)
  have rA0 : ∀ s : KW w.heap.size w (w11.heap.size + 1) [(w2.heap.size, 0, .int .u64 10), (w2.heap.size, 1, .int .u64 5), (w2.heap.size + 1, 0, .int .u64 0), (w2.heap.size + 1, 1, .int .u64 0), (w5.heap.size, 0, .int .u64 10), (w5.heap.size, 1, .int .u64 3), (w7.heap.size, 0, .int .u64 0), (w7.heap.size, 1, .int .u64 0), (w9.heap.size, 0, .int .u64 0), (w9.heap.size, 1, .int .u64 7), (w11.heap.size, 0, .int .u64 0), (w11.heap.size, 1, .int .u64 1099511627776)], s.val.cell? ⟨w2.heap.size, 0, none⟩ = some (.int .u64 10) := fun s => s.kept.at (by simp)
  have rA1 : ∀ s : KW w.heap.size w (w11.heap.size + 1) [(w2.heap.size, 0, .int .u64 10), (w2.heap.size, 1, .int .u64 5), (w2.heap.size + 1, 0, .int .u64 0), (w2.heap.size + 1, 1, .int .u64 0), (w5.heap.size, 0, .int .u64 10), (w5.heap.size, 1, .int .u64 3), (w7.heap.size, 0, .int .u64 0), (w7.heap.size, 1, .int .u64 0), (w9.heap.size, 0, .int .u64 0), (w9.heap.size, 1, .int .u64 7), (w11.heap.size, 0, .int .u64 0), (w11.heap.size, 1, .int .u64 1099511627776)], s.val.cell? ⟨w2.heap.size, 1, none⟩ = some (.int .u64 5) := fun s => s.kept.at (by simp)
  have rO0 : ∀ s : KW w.heap.size w (w11.heap.size + 1) [(w2.heap.size, 0, .int .u64 10), (w2.heap.size, 1, .int .u64 5), (w2.heap.size + 1, 0, .int .u64 0), (w2.heap.size + 1, 1, .int .u64 0), (w5.heap.size, 0, .int .u64 10), (w5.heap.size, 1, .int .u64 3), (w7.heap.size, 0, .int .u64 0), (w7.heap.size, 1, .int .u64 0), (w9.heap.size, 0, .int .u64 0), (w9.heap.size, 1, .int .u64 7), (w11.heap.size, 0, .int .u64 0), (w11.heap.size, 1, .int .u64 1099511627776)], s.val.cell? ⟨w2.heap.size + 1, 0, none⟩ = some (.int .u64 0) := fun s => s.kept.at (by simp)
  have rO1 : ∀ s : KW w.heap.size w (w11.heap.size + 1) [(w2.heap.size, 0, .int .u64 10), (w2.heap.size, 1, .int .u64 5), (w2.heap.size + 1, 0, .int .u64 0), (w2.heap.size + 1, 1, .int .u64 0), (w5.heap.size, 0, .int .u64 10), (w5.heap.size, 1, .int .u64 3), (w7.heap.size, 0, .int .u64 0), (w7.heap.size, 1, .int .u64 0), (w9.heap.size, 0, .int .u64 0), (w9.heap.size, 1, .int .u64 7), (w11.heap.size, 0, .int .u64 0), (w11.heap.size, 1, .int .u64 1099511627776)], s.val.cell? ⟨w2.heap.size + 1, 1, none⟩ = some (.int .u64 0) := fun s => s.kept.at (by simp)
  have rB0 : ∀ s : KW w.heap.size w (w11.heap.size + 1) [(w2.heap.size, 0, .int .u64 10), (w2.heap.size, 1, .int .u64 5), (w2.heap.size + 1, 0, .int .u64 0), (w2.heap.size + 1, 1, .int .u64 0), (w5.heap.size, 0, .int .u64 10), (w5.heap.size, 1, .int .u64 3), (w7.heap.size, 0, .int .u64 0), (w7.heap.size, 1, .int .u64 0), (w9.heap.size, 0, .int .u64 0), (w9.heap.size, 1, .int .u64 7), (w11.heap.size, 0, .int .u64 0), (w11.heap.size, 1, .int .u64 1099511627776)], s.val.cell? ⟨w5.heap.size, 0, none⟩ = some (.int .u64 10) := fun s => s.kept.at (by simp)
  have rB1 : ∀ s : KW w.heap.size w (w11.heap.size + 1) [(w2.heap.size, 0, .int .u64 10), (w2.heap.size, 1, .int .u64 5), (w2.heap.size + 1, 0, .int .u64 0), (w2.heap.size + 1, 1, .int .u64 0), (w5.heap.size, 0, .int .u64 10), (w5.heap.size, 1, .int .u64 3), (w7.heap.size, 0, .int .u64 0), (w7.heap.size, 1, .int .u64 0), (w9.heap.size, 0, .int .u64 0), (w9.heap.size, 1, .int .u64 7), (w11.heap.size, 0, .int .u64 0), (w11.heap.size, 1, .int .u64 1099511627776)], s.val.cell? ⟨w5.heap.size, 1, none⟩ = some (.int .u64 3) := fun s => s.kept.at (by simp)
  have rC0 : ∀ s : KW w.heap.size w (w11.heap.size + 1) [(w2.heap.size, 0, .int .u64 10), (w2.heap.size, 1, .int .u64 5), (w2.heap.size + 1, 0, .int .u64 0), (w2.heap.size + 1, 1, .int .u64 0), (w5.heap.size, 0, .int .u64 10), (w5.heap.size, 1, .int .u64 3), (w7.heap.size, 0, .int .u64 0), (w7.heap.size, 1, .int .u64 0), (w9.heap.size, 0, .int .u64 0), (w9.heap.size, 1, .int .u64 7), (w11.heap.size, 0, .int .u64 0), (w11.heap.size, 1, .int .u64 1099511627776)], s.val.cell? ⟨w7.heap.size, 0, none⟩ = some (.int .u64 0) := fun s => s.kept.at (by simp)
  have rC1 : ∀ s : KW w.heap.size w (w11.heap.size + 1) [(w2.heap.size, 0, .int .u64 10), (w2.heap.size, 1, .int .u64 5), (w2.heap.size + 1, 0, .int .u64 0), (w2.heap.size + 1, 1, .int .u64 0), (w5.heap.size, 0, .int .u64 10), (w5.heap.size, 1, .int .u64 3), (w7.heap.size, 0, .int .u64 0), (w7.heap.size, 1, .int .u64 0), (w9.heap.size, 0, .int .u64 0), (w9.heap.size, 1, .int .u64 7), (w11.heap.size, 0, .int .u64 0), (w11.heap.size, 1, .int .u64 1099511627776)], s.val.cell? ⟨w7.heap.size, 1, none⟩ = some (.int .u64 0) := fun s => s.kept.at (by simp)
  have rD0 : ∀ s : KW w.heap.size w (w11.heap.size + 1) [(w2.heap.size, 0, .int .u64 10), (w2.heap.size, 1, .int .u64 5), (w2.heap.size + 1, 0, .int .u64 0), (w2.heap.size + 1, 1, .int .u64 0), (w5.heap.size, 0, .int .u64 10), (w5.heap.size, 1, .int .u64 3), (w7.heap.size, 0, .int .u64 0), (w7.heap.size, 1, .int .u64 0), (w9.heap.size, 0, .int .u64 0), (w9.heap.size, 1, .int .u64 7), (w11.heap.size, 0, .int .u64 0), (w11.heap.size, 1, .int .u64 1099511627776)], s.val.cell? ⟨w9.heap.size, 0, none⟩ = some (.int .u64 0) := fun s => s.kept.at (by simp)
  have rD1 : ∀ s : KW w.heap.size w (w11.heap.size + 1) [(w2.heap.size, 0, .int .u64 10), (w2.heap.size, 1, .int .u64 5), (w2.heap.size + 1, 0, .int .u64 0), (w2.heap.size + 1, 1, .int .u64 0), (w5.heap.size, 0, .int .u64 10), (w5.heap.size, 1, .int .u64 3), (w7.heap.size, 0, .int .u64 0), (w7.heap.size, 1, .int .u64 0), (w9.heap.size, 0, .int .u64 0), (w9.heap.size, 1, .int .u64 7), (w11.heap.size, 0, .int .u64 0), (w11.heap.size, 1, .int .u64 1099511627776)], s.val.cell? ⟨w9.heap.size, 1, none⟩ = some (.int .u64 7) := fun s => s.kept.at (by simp)
  have rE0 : ∀ s : KW w.heap.size w (w11.heap.size + 1) [(w2.heap.size, 0, .int .u64 10), (w2.heap.size, 1, .int .u64 5), (w2.heap.size + 1, 0, .int .u64 0), (w2.heap.size + 1, 1, .int .u64 0), (w5.heap.size, 0, .int .u64 10), (w5.heap.size, 1, .int .u64 3), (w7.heap.size, 0, .int .u64 0), (w7.heap.size, 1, .int .u64 0), (w9.heap.size, 0, .int .u64 0), (w9.heap.size, 1, .int .u64 7), (w11.heap.size, 0, .int .u64 0), (w11.heap.size, 1, .int .u64 1099511627776)], s.val.cell? ⟨w11.heap.size, 0, none⟩ = some (.int .u64 0) := fun s => s.kept.at (by simp)
  have rE1 : ∀ s : KW w.heap.size w (w11.heap.size + 1) [(w2.heap.size, 0, .int .u64 10), (w2.heap.size, 1, .int .u64 5), (w2.heap.size + 1, 0, .int .u64 0), (w2.heap.size + 1, 1, .int .u64 0), (w5.heap.size, 0, .int .u64 10), (w5.heap.size, 1, .int .u64 3), (w7.heap.size, 0, .int .u64 0), (w7.heap.size, 1, .int .u64 0), (w9.heap.size, 0, .int .u64 0), (w9.heap.size, 1, .int .u64 7), (w11.heap.size, 0, .int .u64 0), (w11.heap.size, 1, .int .u64 1099511627776)], s.val.cell? ⟨w11.heap.size, 1, none⟩ = some (.int .u64 1099511627776) := fun s => s.kept.at (by simp)
  repeat (go_big_quiet_step (first | (go_at_call 23; exact calls_kept (by omega) (of23 _ _ _)) | (go_at_call 11; exact calls_kept (by omega) (charges11 _ _ _ _ _ _ _ _ (by unfold U; omega) (by unfold U; omega) (by unfold U; omega) (by decide +kernel) (by decide +kernel) (by decide +kernel) (by decide +kernel) rfl)) | (go_at_call 11; exact calls_kept (by omega) (charges11_no _ _ _ _ (by decide +kernel))) | (go_at_call 17; exact calls_kept (by omega) (gives17 _ _ _ _ _ _ _ (by decide +kernel) (by decide +kernel) (by decide +kernel))) | (go_at_call 19; exact calls_kept (by omega) (until19 _ _ _ _ _ (by unfold U; omega) (by unfold U; omega) (by decide +kernel) (by decide +kernel) rfl)) | (go_at_call 18; exact calls_kept (by omega) (empty18 _ _ _))))
  refine wpQuiet_nil ?_
  rintro w12 ⟨⟨_, K_w12⟩, rfl⟩
  clear _ne rA0 rA1 rO0 rO1 rB0 rB1 rC0 rC1 rD0 rD1 rE0 rE1
  have hw_w12 := K_w12.below
  have hz_w12 := K_w12.size
  have lA_w12 : w2.heap.size < w12.heap.size := by omega
  have cA0_w12 := K_w12.at (b := w2.heap.size) (o := 0) (v := .int .u64 10) (by simp)
  have fA0_w12 := K_w12.free (b := w2.heap.size) (o := 0) (v := .int .u64 10) (by simp)
  have cA1_w12 := K_w12.at (b := w2.heap.size) (o := 1) (v := .int .u64 5) (by simp)
  have fA1_w12 := K_w12.free (b := w2.heap.size) (o := 1) (v := .int .u64 5) (by simp)
  have lO_w12 : w2.heap.size + 1 < w12.heap.size := by omega
  have cO0_w12 := K_w12.at (b := w2.heap.size + 1) (o := 0) (v := .int .u64 0) (by simp)
  have fO0_w12 := K_w12.free (b := w2.heap.size + 1) (o := 0) (v := .int .u64 0) (by simp)
  have cO1_w12 := K_w12.at (b := w2.heap.size + 1) (o := 1) (v := .int .u64 0) (by simp)
  have fO1_w12 := K_w12.free (b := w2.heap.size + 1) (o := 1) (v := .int .u64 0) (by simp)
  have lB_w12 : w5.heap.size < w12.heap.size := by omega
  have cB0_w12 := K_w12.at (b := w5.heap.size) (o := 0) (v := .int .u64 10) (by simp)
  have fB0_w12 := K_w12.free (b := w5.heap.size) (o := 0) (v := .int .u64 10) (by simp)
  have cB1_w12 := K_w12.at (b := w5.heap.size) (o := 1) (v := .int .u64 3) (by simp)
  have fB1_w12 := K_w12.free (b := w5.heap.size) (o := 1) (v := .int .u64 3) (by simp)
  have lC_w12 : w7.heap.size < w12.heap.size := by omega
  have cC0_w12 := K_w12.at (b := w7.heap.size) (o := 0) (v := .int .u64 0) (by simp)
  have fC0_w12 := K_w12.free (b := w7.heap.size) (o := 0) (v := .int .u64 0) (by simp)
  have cC1_w12 := K_w12.at (b := w7.heap.size) (o := 1) (v := .int .u64 0) (by simp)
  have fC1_w12 := K_w12.free (b := w7.heap.size) (o := 1) (v := .int .u64 0) (by simp)
  have lD_w12 : w9.heap.size < w12.heap.size := by omega
  have cD0_w12 := K_w12.at (b := w9.heap.size) (o := 0) (v := .int .u64 0) (by simp)
  have fD0_w12 := K_w12.free (b := w9.heap.size) (o := 0) (v := .int .u64 0) (by simp)
  have cD1_w12 := K_w12.at (b := w9.heap.size) (o := 1) (v := .int .u64 7) (by simp)
  have fD1_w12 := K_w12.free (b := w9.heap.size) (o := 1) (v := .int .u64 7) (by simp)
  have lE_w12 : w11.heap.size < w12.heap.size := by omega
  have cE0_w12 := K_w12.at (b := w11.heap.size) (o := 0) (v := .int .u64 0) (by simp)
  have fE0_w12 := K_w12.free (b := w11.heap.size) (o := 0) (v := .int .u64 0) (by simp)
  have cE1_w12 := K_w12.at (b := w11.heap.size) (o := 1) (v := .int .u64 1099511627776) (by simp)
  have fE1_w12 := K_w12.free (b := w11.heap.size) (o := 1) (v := .int .u64 1099511627776) (by simp)
  clear lA_w11 cA0_w11 fA0_w11 cA1_w11 fA1_w11 lO_w11 cO0_w11 fO0_w11 cO1_w11 fO1_w11 lB_w11 cB0_w11 fB0_w11 cB1_w11 fB1_w11 lC_w11 cC0_w11 fC0_w11 cC1_w11 fC1_w11 lD_w11 cD0_w11 fD0_w11 cD1_w11 fD1_w11
  clear K_w12
  go_wp2_with fail
  refine wp_region_kept (w := w) (B := w.heap.size) (n := w11.heap.size + 1) (L := [(w2.heap.size, 0, .int .u64 10), (w2.heap.size, 1, .int .u64 5), (w2.heap.size + 1, 0, .int .u64 0), (w2.heap.size + 1, 1, .int .u64 0), (w5.heap.size, 0, .int .u64 10), (w5.heap.size, 1, .int .u64 3), (w7.heap.size, 0, .int .u64 0), (w7.heap.size, 1, .int .u64 0), (w9.heap.size, 0, .int .u64 0), (w9.heap.size, 1, .int .u64 7), (w11.heap.size, 0, .int .u64 0), (w11.heap.size, 1, .int .u64 1099511627776)]) ⟨by go_grown, by go_size, (by simp [go_sem, lA_w12, cA0_w12, fA0_w12, cA1_w12, fA1_w12, lO_w12, cO0_w12, fO0_w12, cO1_w12, fO1_w12, lB_w12, cB0_w12, fB0_w12, cB1_w12, fB1_w12, lC_w12, cC0_w12, fC0_w12, cC1_w12, fC1_w12, lD_w12, cD0_w12, fD0_w12, cD1_w12, fD1_w12, lE_w12, cE0_w12, fE0_w12, cE1_w12, fE1_w12] <;> omega)⟩ (by kernel_rfl) (by kernel_rfl) (fun _ne => ?_)
  have rA0 : ∀ s : KW w.heap.size w (w11.heap.size + 1) [(w2.heap.size, 0, .int .u64 10), (w2.heap.size, 1, .int .u64 5), (w2.heap.size + 1, 0, .int .u64 0), (w2.heap.size + 1, 1, .int .u64 0), (w5.heap.size, 0, .int .u64 10), (w5.heap.size, 1, .int .u64 3), (w7.heap.size, 0, .int .u64 0), (w7.heap.size, 1, .int .u64 0), (w9.heap.size, 0, .int .u64 0), (w9.heap.size, 1, .int .u64 7), (w11.heap.size, 0, .int .u64 0), (w11.heap.size, 1, .int .u64 1099511627776)], s.val.cell? ⟨w2.heap.size, 0, none⟩ = some (.int .u64 10) := fun s => s.kept.at (by simp)
  have rA1 : ∀ s : KW w.heap.size w (w11.heap.size + 1) [(w2.heap.size, 0, .int .u64 10), (w2.heap.size, 1, .int .u64 5), (w2.heap.size + 1, 0, .int .u64 0), (w2.heap.size + 1, 1, .int .u64 0), (w5.heap.size, 0, .int .u64 10), (w5.heap.size, 1, .int .u64 3), (w7.heap.size, 0, .int .u64 0), (w7.heap.size, 1, .int .u64 0), (w9.heap.size, 0, .int .u64 0), (w9.heap.size, 1, .int .u64 7), (w11.heap.size, 0, .int .u64 0), (w11.heap.size, 1, .int .u64 1099511627776)], s.val.cell? ⟨w2.heap.size, 1, none⟩ = some (.int .u64 5) := fun s => s.kept.at (by simp)
  have rO0 : ∀ s : KW w.heap.size w (w11.heap.size + 1) [(w2.heap.size, 0, .int .u64 10), (w2.heap.size, 1, .int .u64 5), (w2.heap.size + 1, 0, .int .u64 0), (w2.heap.size + 1, 1, .int .u64 0), (w5.heap.size, 0, .int .u64 10), (w5.heap.size, 1, .int .u64 3), (w7.heap.size, 0, .int .u64 0), (w7.heap.size, 1, .int .u64 0), (w9.heap.size, 0, .int .u64 0), (w9.heap.size, 1, .int .u64 7), (w11.heap.size, 0, .int .u64 0), (w11.heap.size, 1, .int .u64 1099511627776)], s.val.cell? ⟨w2.heap.size + 1, 0, none⟩ = some (.int .u64 0) := fun s => s.kept.at (by simp)
  have rO1 : ∀ s : KW w.heap.size w (w11.heap.size + 1) [(w2.heap.size, 0, .int .u64 10), (w2.heap.size, 1, .int .u64 5), (w2.heap.size + 1, 0, .int .u64 0), (w2.heap.size + 1, 1, .int .u64 0), (w5.heap.size, 0, .int .u64 10), (w5.heap.size, 1, .int .u64 3), (w7.heap.size, 0, .int .u64 0), (w7.heap.size, 1, .int .u64 0), (w9.heap.size, 0, .int .u64 0), (w9.heap.size, 1, .int .u64 7), (w11.heap.size, 0, .int .u64 0), (w11.heap.size, 1, .int .u64 1099511627776)], s.val.cell? ⟨w2.heap.size + 1, 1, none⟩ = some (.int .u64 0) := fun s => s.kept.at (by simp)
  have rB0 : ∀ s : KW w.heap.size w (w11.heap.size + 1) [(w2.heap.size, 0, .int .u64 10), (w2.heap.size, 1, .int .u64 5), (w2.heap.size + 1, 0, .int .u64 0), (w2.heap.size + 1, 1, .int .u64 0), (w5.heap.size, 0, .int .u64 10), (w5.heap.size, 1, .int .u64 3), (w7.heap.size, 0, .int .u64 0), (w7.heap.size, 1, .int .u64 0), (w9.heap.size, 0, .int .u64 0), (w9.heap.size, 1, .int .u64 7), (w11.heap.size, 0, .int .u64 0), (w11.heap.size, 1, .int .u64 1099511627776)], s.val.cell? ⟨w5.heap.size, 0, none⟩ = some (.int .u64 10) := fun s => s.kept.at (by simp)
  have rB1 : ∀ s : KW w.heap.size w (w11.heap.size + 1) [(w2.heap.size, 0, .int .u64 10), (w2.heap.size, 1, .int .u64 5), (w2.heap.size + 1, 0, .int .u64 0), (w2.heap.size + 1, 1, .int .u64 0), (w5.heap.size, 0, .int .u64 10), (w5.heap.size, 1, .int .u64 3), (w7.heap.size, 0, .int .u64 0), (w7.heap.size, 1, .int .u64 0), (w9.heap.size, 0, .int .u64 0), (w9.heap.size, 1, .int .u64 7), (w11.heap.size, 0, .int .u64 0), (w11.heap.size, 1, .int .u64 1099511627776)], s.val.cell? ⟨w5.heap.size, 1, none⟩ = some (.int .u64 3) := fun s => s.kept.at (by simp)
  have rC0 : ∀ s : KW w.heap.size w (w11.heap.size + 1) [(w2.heap.size, 0, .int .u64 10), (w2.heap.size, 1, .int .u64 5), (w2.heap.size + 1, 0, .int .u64 0), (w2.heap.size + 1, 1, .int .u64 0), (w5.heap.size, 0, .int .u64 10), (w5.heap.size, 1, .int .u64 3), (w7.heap.size, 0, .int .u64 0), (w7.heap.size, 1, .int .u64 0), (w9.heap.size, 0, .int .u64 0), (w9.heap.size, 1, .int .u64 7), (w11.heap.size, 0, .int .u64 0), (w11.heap.size, 1, .int .u64 1099511627776)], s.val.cell? ⟨w7.heap.size, 0, none⟩ = some (.int .u64 0) := fun s => s.kept.at (by simp)
  have rC1 : ∀ s : KW w.heap.size w (w11.heap.size + 1) [(w2.heap.size, 0, .int .u64 10), (w2.heap.size, 1, .int .u64 5), (w2.heap.size + 1, 0, .int .u64 0), (w2.heap.size + 1, 1, .int .u64 0), (w5.heap.size, 0, .int .u64 10), (w5.heap.size, 1, .int .u64 3), (w7.heap.size, 0, .int .u64 0), (w7.heap.size, 1, .int .u64 0), (w9.heap.size, 0, .int .u64 0), (w9.heap.size, 1, .int .u64 7), (w11.heap.size, 0, .int .u64 0), (w11.heap.size, 1, .int .u64 1099511627776)], s.val.cell? ⟨w7.heap.size, 1, none⟩ = some (.int .u64 0) := fun s => s.kept.at (by simp)
  have rD0 : ∀ s : KW w.heap.size w (w11.heap.size + 1) [(w2.heap.size, 0, .int .u64 10), (w2.heap.size, 1, .int .u64 5), (w2.heap.size + 1, 0, .int .u64 0), (w2.heap.size + 1, 1, .int .u64 0), (w5.heap.size, 0, .int .u64 10), (w5.heap.size, 1, .int .u64 3), (w7.heap.size, 0, .int .u64 0), (w7.heap.size, 1, .int .u64 0), (w9.heap.size, 0, .int .u64 0), (w9.heap.size, 1, .int .u64 7), (w11.heap.size, 0, .int .u64 0), (w11.heap.size, 1, .int .u64 1099511627776)], s.val.cell? ⟨w9.heap.size, 0, none⟩ = some (.int .u64 0) := fun s => s.kept.at (by simp)
  have rD1 : ∀ s : KW w.heap.size w (w11.heap.size + 1) [(w2.heap.size, 0, .int .u64 10), (w2.heap.size, 1, .int .u64 5), (w2.heap.size + 1, 0, .int .u64 0), (w2.heap.size + 1, 1, .int .u64 0), (w5.heap.size, 0, .int .u64 10), (w5.heap.size, 1, .int .u64 3), (w7.heap.size, 0, .int .u64 0), (w7.heap.size, 1, .int .u64 0), (w9.heap.size, 0, .int .u64 0), (w9.heap.size, 1, .int .u64 7), (w11.heap.size, 0, .int .u64 0), (w11.heap.size, 1, .int .u64 1099511627776)], s.val.cell? ⟨w9.heap.size, 1, none⟩ = some (.int .u64 7) := fun s => s.kept.at (by simp)
  have rE0 : ∀ s : KW w.heap.size w (w11.heap.size + 1) [(w2.heap.size, 0, .int .u64 10), (w2.heap.size, 1, .int .u64 5), (w2.heap.size + 1, 0, .int .u64 0), (w2.heap.size + 1, 1, .int .u64 0), (w5.heap.size, 0, .int .u64 10), (w5.heap.size, 1, .int .u64 3), (w7.heap.size, 0, .int .u64 0), (w7.heap.size, 1, .int .u64 0), (w9.heap.size, 0, .int .u64 0), (w9.heap.size, 1, .int .u64 7), (w11.heap.size, 0, .int .u64 0), (w11.heap.size, 1, .int .u64 1099511627776)], s.val.cell? ⟨w11.heap.size, 0, none⟩ = some (.int .u64 0) := fun s => s.kept.at (by simp)
  have rE1 : ∀ s : KW w.heap.size w (w11.heap.size + 1) [(w2.heap.size, 0, .int .u64 10), (w2.heap.size, 1, .int .u64 5), (w2.heap.size + 1, 0, .int .u64 0), (w2.heap.size + 1, 1, .int .u64 0), (w5.heap.size, 0, .int .u64 10), (w5.heap.size, 1, .int .u64 3), (w7.heap.size, 0, .int .u64 0), (w7.heap.size, 1, .int .u64 0), (w9.heap.size, 0, .int .u64 0), (w9.heap.size, 1, .int .u64 7), (w11.heap.size, 0, .int .u64 0), (w11.heap.size, 1, .int .u64 1099511627776)], s.val.cell? ⟨w11.heap.size, 1, none⟩ = some (.int .u64 1099511627776) := fun s => s.kept.at (by simp)
  repeat (go_big_quiet_step (first | (go_at_call 23; exact calls_kept (by omega) (of23 _ _ _)) | (go_at_call 11; exact calls_kept (by omega) (charges11 _ _ _ _ _ _ _ _ (by unfold U; omega) (by unfold U; omega) (by unfold U; omega) (by decide +kernel) (by decide +kernel) (by decide +kernel) (by decide +kernel) rfl)) | (go_at_call 11; exact calls_kept (by omega) (charges11_no _ _ _ _ (by decide +kernel))) | (go_at_call 17; exact calls_kept (by omega) (gives17 _ _ _ _ _ _ _ (by decide +kernel) (by decide +kernel) (by decide +kernel))) | (go_at_call 19; exact calls_kept (by omega) (until19 _ _ _ _ _ (by unfold U; omega) (by unfold U; omega) (by decide +kernel) (by decide +kernel) rfl)) | (go_at_call 18; exact calls_kept (by omega) (empty18 _ _ _))))
  refine wpQuiet_nil ?_
  rintro w13 ⟨⟨_, K_w13⟩, rfl⟩
  clear _ne rA0 rA1 rO0 rO1 rB0 rB1 rC0 rC1 rD0 rD1 rE0 rE1
  have hw_w13 := K_w13.below
  have hz_w13 := K_w13.size
  have lA_w13 : w2.heap.size < w13.heap.size := by omega
  have cA0_w13 := K_w13.at (b := w2.heap.size) (o := 0) (v := .int .u64 10) (by simp)
  have fA0_w13 := K_w13.free (b := w2.heap.size) (o := 0) (v := .int .u64 10) (by simp)
  have cA1_w13 := K_w13.at (b := w2.heap.size) (o := 1) (v := .int .u64 5) (by simp)
  have fA1_w13 := K_w13.free (b := w2.heap.size) (o := 1) (v := .int .u64 5) (by simp)
  have lO_w13 : w2.heap.size + 1 < w13.heap.size := by omega
  have cO0_w13 := K_w13.at (b := w2.heap.size + 1) (o := 0) (v := .int .u64 0) (by simp)
  have fO0_w13 := K_w13.free (b := w2.heap.size + 1) (o := 0) (v := .int .u64 0) (by simp)
  have cO1_w13 := K_w13.at (b := w2.heap.size + 1) (o := 1) (v := .int .u64 0) (by simp)
  have fO1_w13 := K_w13.free (b := w2.heap.size + 1) (o := 1) (v := .int .u64 0) (by simp)
  have lB_w13 : w5.heap.size < w13.heap.size := by omega
  have cB0_w13 := K_w13.at (b := w5.heap.size) (o := 0) (v := .int .u64 10) (by simp)
  have fB0_w13 := K_w13.free (b := w5.heap.size) (o := 0) (v := .int .u64 10) (by simp)
  have cB1_w13 := K_w13.at (b := w5.heap.size) (o := 1) (v := .int .u64 3) (by simp)
  have fB1_w13 := K_w13.free (b := w5.heap.size) (o := 1) (v := .int .u64 3) (by simp)
  have lC_w13 : w7.heap.size < w13.heap.size := by omega
  have cC0_w13 := K_w13.at (b := w7.heap.size) (o := 0) (v := .int .u64 0) (by simp)
  have fC0_w13 := K_w13.free (b := w7.heap.size) (o := 0) (v := .int .u64 0) (by simp)
  have cC1_w13 := K_w13.at (b := w7.heap.size) (o := 1) (v := .int .u64 0) (by simp)
  have fC1_w13 := K_w13.free (b := w7.heap.size) (o := 1) (v := .int .u64 0) (by simp)
  have lD_w13 : w9.heap.size < w13.heap.size := by omega
  have cD0_w13 := K_w13.at (b := w9.heap.size) (o := 0) (v := .int .u64 0) (by simp)
  have fD0_w13 := K_w13.free (b := w9.heap.size) (o := 0) (v := .int .u64 0) (by simp)
  have cD1_w13 := K_w13.at (b := w9.heap.size) (o := 1) (v := .int .u64 7) (by simp)
  have fD1_w13 := K_w13.free (b := w9.heap.size) (o := 1) (v := .int .u64 7) (by simp)
  have lE_w13 : w11.heap.size < w13.heap.size := by omega
  have cE0_w13 := K_w13.at (b := w11.heap.size) (o := 0) (v := .int .u64 0) (by simp)
  have fE0_w13 := K_w13.free (b := w11.heap.size) (o := 0) (v := .int .u64 0) (by simp)
  have cE1_w13 := K_w13.at (b := w11.heap.size) (o := 1) (v := .int .u64 1099511627776) (by simp)
  have fE1_w13 := K_w13.free (b := w11.heap.size) (o := 1) (v := .int .u64 1099511627776) (by simp)
  clear lA_w12 cA0_w12 fA0_w12 cA1_w12 fA1_w12 lO_w12 cO0_w12 fO0_w12 cO1_w12 fO1_w12 lB_w12 cB0_w12 fB0_w12 cB1_w12 fB1_w12 lC_w12 cC0_w12 fC0_w12 cC1_w12 fC1_w12 lD_w12 cD0_w12 fD0_w12 cD1_w12 fD1_w12 lE_w12 cE0_w12 fE0_w12 cE1_w12 fE1_w12
  clear K_w13
  go_wp2_with fail
  go_returns
  exact ⟨rfl, by go_grown⟩
end Go.Proofs.Ytkjakcoejnhojaa
