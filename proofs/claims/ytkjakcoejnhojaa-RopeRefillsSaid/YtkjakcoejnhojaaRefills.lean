/-
  PROVED: the law RopeRefills returns true for every input, and its arguments read afterwards as they read before (Rows.RopeRefillsSaid). CONDITIONS: none.
-/
import Derived.Test.YtkjakcoejnhojaaRows
import Derived.Test.YtkjakcoejnhojaaKnown
import Derived.WalkKit
import Derived.ProofKit
import Derived.OpenShut
import Derived.Lib.SmallJoins
import Derived.Carry
namespace Go.Proofs.Ytkjakcoejnhojaa.ropeRefills
open Go.ChangeShapes Go.WideShapes Go.ChangeAt Go.RowKit Go.WideMaps Go.WideElems
set_option linter.unusedVariables false
set_option linter.unusedSimpArgs false

theorem own : ownKnob Try.prog.godebug = none := by kernel_rfl
theorem laidOut : laidOutB Try.prog = true := by kernel_rfl
open Plain

set_option maxRecDepth 100000 in
set_option maxHeartbeats 4000000 in
theorem walk (a0_0 : Int) (a0_1 : Int) (a1 : Int) (w : World) (w0_0 : (Lit.int .u64 a0_0).wf = true) (w0_1 : (Lit.int .u64 a0_1).wf = true) (w1 : (Lit.int .u64 a1).wf = true) :
    Calls Try.prog 4 #[.agg #[.int .u64 a0_0, .int .u64 a0_1], .int .u64 a1] w fun e w' => e = .returned (.bool true) ∧ Below w.heap.size w w' := by
  have u0 : U a0_0 := by simpa [U, Lit.wf, IntKind.min, IntKind.max, IntKind.signed, IntKind.bits] using w0_0
  have u1 : U a0_1 := by simpa [U, Lit.wf, IntKind.min, IntKind.max, IntKind.signed, IntKind.bits] using w0_1
  have u2 : U a1 := by simpa [U, Lit.wf, IntKind.min, IntKind.max, IntKind.signed, IntKind.bits] using w1
  clear w0_0 w0_1 w1
  cases h : vR a0_0 a0_1
  · have h1 : vR a1 a0_1 = false ∨ 1099511627776 < a0_0 := by simp [vR] at h ⊢; omega
    have h3 : vR a0_0 a0_1 = false ∨ 1099511627776 < a1 := .inl h
    go_enter Try.func4, Try.ntmps4
    go_wp2_with fail
    with_reducible refine (refill13_no _ _ _ _ h1).mono ?_
    rintro e w1 ⟨rfl, hb_w1⟩
    have K_w1 : Kept w.heap.size w (w.heap.size + 1) [(w.heap.size, 0, .int .u64 a0_0), (w.heap.size, 1, .int .u64 a0_1)] w1 := Kept.of hb_w1 (by go_grown) (by go_size) (by omega) (by simp [go_sem] <;> omega)
    clear hb_w1
    have hw_w1 := K_w1.below
    have hz_w1 := K_w1.size
    have lP_w1 : w.heap.size < w1.heap.size := by omega
    have cP0_w1 := K_w1.at (b := w.heap.size) (o := 0) (v := .int .u64 a0_0) (by simp)
    have fP0_w1 := K_w1.free (b := w.heap.size) (o := 0) (v := .int .u64 a0_0) (by simp)
    have cP1_w1 := K_w1.at (b := w.heap.size) (o := 1) (v := .int .u64 a0_1) (by simp)
    have fP1_w1 := K_w1.free (b := w.heap.size) (o := 1) (v := .int .u64 a0_1) (by simp)
    clear K_w1
    go_wp2_with fail
    with_reducible refine (extend14_no _ _ _ _ h).mono ?_
    rintro e w2 ⟨rfl, hb_w2⟩
    have K_w2 : Kept w.heap.size w (w1.heap.size + 1) [(w.heap.size, 0, .int .u64 a0_0), (w.heap.size, 1, .int .u64 a0_1), (w1.heap.size, 0, .int .u64 0), (w1.heap.size, 1, .int .u64 0)] w2 := Kept.of hb_w2 (by go_grown) (by go_size) (by omega) (by simp [go_sem, lP_w1, cP0_w1, fP0_w1, cP1_w1, fP1_w1] <;> omega)
    clear hb_w2
    have hw_w2 := K_w2.below
    have hz_w2 := K_w2.size
    have lP_w2 : w.heap.size < w2.heap.size := by omega
    have cP0_w2 := K_w2.at (b := w.heap.size) (o := 0) (v := .int .u64 a0_0) (by simp)
    have fP0_w2 := K_w2.free (b := w.heap.size) (o := 0) (v := .int .u64 a0_0) (by simp)
    have cP1_w2 := K_w2.at (b := w.heap.size) (o := 1) (v := .int .u64 a0_1) (by simp)
    have fP1_w2 := K_w2.free (b := w.heap.size) (o := 1) (v := .int .u64 a0_1) (by simp)
    have lA_w2 : w1.heap.size < w2.heap.size := by omega
    have cA0_w2 := K_w2.at (b := w1.heap.size) (o := 0) (v := .int .u64 0) (by simp)
    have fA0_w2 := K_w2.free (b := w1.heap.size) (o := 0) (v := .int .u64 0) (by simp)
    have cA1_w2 := K_w2.at (b := w1.heap.size) (o := 1) (v := .int .u64 0) (by simp)
    have fA1_w2 := K_w2.free (b := w1.heap.size) (o := 1) (v := .int .u64 0) (by simp)
    clear lP_w1 cP0_w1 fP0_w1 cP1_w1 fP1_w1
    clear K_w2
    go_wp2_with fail
    with_reducible refine (refill15_no _ _ _ _ h3).mono ?_
    rintro e w3 ⟨rfl, hb_w3⟩
    have K_w3 : Kept w.heap.size w (w2.heap.size + 1) [(w.heap.size, 0, .int .u64 a0_0), (w.heap.size, 1, .int .u64 a0_1), (w1.heap.size, 0, .int .u64 0), (w1.heap.size, 1, .int .u64 0), (w2.heap.size, 0, .int .u64 0), (w2.heap.size, 1, .int .u64 0)] w3 := Kept.of hb_w3 (by go_grown) (by go_size) (by omega) (by simp [go_sem, lP_w2, cP0_w2, fP0_w2, cP1_w2, fP1_w2, lA_w2, cA0_w2, fA0_w2, cA1_w2, fA1_w2] <;> omega)
    clear hb_w3
    have hw_w3 := K_w3.below
    have hz_w3 := K_w3.size
    have lP_w3 : w.heap.size < w3.heap.size := by omega
    have cP0_w3 := K_w3.at (b := w.heap.size) (o := 0) (v := .int .u64 a0_0) (by simp)
    have fP0_w3 := K_w3.free (b := w.heap.size) (o := 0) (v := .int .u64 a0_0) (by simp)
    have cP1_w3 := K_w3.at (b := w.heap.size) (o := 1) (v := .int .u64 a0_1) (by simp)
    have fP1_w3 := K_w3.free (b := w.heap.size) (o := 1) (v := .int .u64 a0_1) (by simp)
    have lA_w3 : w1.heap.size < w3.heap.size := by omega
    have cA0_w3 := K_w3.at (b := w1.heap.size) (o := 0) (v := .int .u64 0) (by simp)
    have fA0_w3 := K_w3.free (b := w1.heap.size) (o := 0) (v := .int .u64 0) (by simp)
    have cA1_w3 := K_w3.at (b := w1.heap.size) (o := 1) (v := .int .u64 0) (by simp)
    have fA1_w3 := K_w3.free (b := w1.heap.size) (o := 1) (v := .int .u64 0) (by simp)
    have lB_w3 : w2.heap.size < w3.heap.size := by omega
    have cB0_w3 := K_w3.at (b := w2.heap.size) (o := 0) (v := .int .u64 0) (by simp)
    have fB0_w3 := K_w3.free (b := w2.heap.size) (o := 0) (v := .int .u64 0) (by simp)
    have cB1_w3 := K_w3.at (b := w2.heap.size) (o := 1) (v := .int .u64 0) (by simp)
    have fB1_w3 := K_w3.free (b := w2.heap.size) (o := 1) (v := .int .u64 0) (by simp)
    clear lP_w2 cP0_w2 fP0_w2 cP1_w2 fP1_w2 lA_w2 cA0_w2 fA0_w2 cA1_w2 fA1_w2
    clear K_w3
    go_wp2_with fail
    with_reducible refine (extend16_no _ _ _ _ h).mono ?_
    rintro e w4 ⟨rfl, hb_w4⟩
    have K_w4 : Kept w.heap.size w (w3.heap.size + 1) [(w.heap.size, 0, .int .u64 a0_0), (w.heap.size, 1, .int .u64 a0_1), (w1.heap.size, 0, .int .u64 0), (w1.heap.size, 1, .int .u64 0), (w2.heap.size, 0, .int .u64 0), (w2.heap.size, 1, .int .u64 0), (w3.heap.size, 0, .int .u64 0), (w3.heap.size, 1, .int .u64 0)] w4 := Kept.of hb_w4 (by go_grown) (by go_size) (by omega) (by simp [go_sem, lP_w3, cP0_w3, fP0_w3, cP1_w3, fP1_w3, lA_w3, cA0_w3, fA0_w3, cA1_w3, fA1_w3, lB_w3, cB0_w3, fB0_w3, cB1_w3, fB1_w3] <;> omega)
    clear hb_w4
    have hw_w4 := K_w4.below
    have hz_w4 := K_w4.size
    have lP_w4 : w.heap.size < w4.heap.size := by omega
    have cP0_w4 := K_w4.at (b := w.heap.size) (o := 0) (v := .int .u64 a0_0) (by simp)
    have fP0_w4 := K_w4.free (b := w.heap.size) (o := 0) (v := .int .u64 a0_0) (by simp)
    have cP1_w4 := K_w4.at (b := w.heap.size) (o := 1) (v := .int .u64 a0_1) (by simp)
    have fP1_w4 := K_w4.free (b := w.heap.size) (o := 1) (v := .int .u64 a0_1) (by simp)
    have lA_w4 : w1.heap.size < w4.heap.size := by omega
    have cA0_w4 := K_w4.at (b := w1.heap.size) (o := 0) (v := .int .u64 0) (by simp)
    have fA0_w4 := K_w4.free (b := w1.heap.size) (o := 0) (v := .int .u64 0) (by simp)
    have cA1_w4 := K_w4.at (b := w1.heap.size) (o := 1) (v := .int .u64 0) (by simp)
    have fA1_w4 := K_w4.free (b := w1.heap.size) (o := 1) (v := .int .u64 0) (by simp)
    have lB_w4 : w2.heap.size < w4.heap.size := by omega
    have cB0_w4 := K_w4.at (b := w2.heap.size) (o := 0) (v := .int .u64 0) (by simp)
    have fB0_w4 := K_w4.free (b := w2.heap.size) (o := 0) (v := .int .u64 0) (by simp)
    have cB1_w4 := K_w4.at (b := w2.heap.size) (o := 1) (v := .int .u64 0) (by simp)
    have fB1_w4 := K_w4.free (b := w2.heap.size) (o := 1) (v := .int .u64 0) (by simp)
    have lC_w4 : w3.heap.size < w4.heap.size := by omega
    have cC0_w4 := K_w4.at (b := w3.heap.size) (o := 0) (v := .int .u64 0) (by simp)
    have fC0_w4 := K_w4.free (b := w3.heap.size) (o := 0) (v := .int .u64 0) (by simp)
    have cC1_w4 := K_w4.at (b := w3.heap.size) (o := 1) (v := .int .u64 0) (by simp)
    have fC1_w4 := K_w4.free (b := w3.heap.size) (o := 1) (v := .int .u64 0) (by simp)
    clear lP_w3 cP0_w3 fP0_w3 cP1_w3 fP1_w3 lA_w3 cA0_w3 fA0_w3 cA1_w3 fA1_w3 lB_w3 cB0_w3 fB0_w3 cB1_w3 fB1_w3
    clear K_w4
    go_wp2_with fail
    with_reducible refine (gives17 _ _ _ _ _ _ _ rfl rfl rfl).mono ?_
    rintro e w5 ⟨rfl, hb_w5⟩
    have K_w5 : Kept w.heap.size w (w4.heap.size + 1) [(w.heap.size, 0, .int .u64 a0_0), (w.heap.size, 1, .int .u64 a0_1), (w1.heap.size, 0, .int .u64 0), (w1.heap.size, 1, .int .u64 0), (w2.heap.size, 0, .int .u64 0), (w2.heap.size, 1, .int .u64 0), (w3.heap.size, 0, .int .u64 0), (w3.heap.size, 1, .int .u64 0), (w4.heap.size, 0, .int .u64 0), (w4.heap.size, 1, .int .u64 0)] w5 := Kept.of hb_w5 (by go_grown) (by go_size) (by omega) (by simp [go_sem, lP_w4, cP0_w4, fP0_w4, cP1_w4, fP1_w4, lA_w4, cA0_w4, fA0_w4, cA1_w4, fA1_w4, lB_w4, cB0_w4, fB0_w4, cB1_w4, fB1_w4, lC_w4, cC0_w4, fC0_w4, cC1_w4, fC1_w4] <;> omega)
    clear hb_w5
    have hw_w5 := K_w5.below
    have hz_w5 := K_w5.size
    have lP_w5 : w.heap.size < w5.heap.size := by omega
    have cP0_w5 := K_w5.at (b := w.heap.size) (o := 0) (v := .int .u64 a0_0) (by simp)
    have fP0_w5 := K_w5.free (b := w.heap.size) (o := 0) (v := .int .u64 a0_0) (by simp)
    have cP1_w5 := K_w5.at (b := w.heap.size) (o := 1) (v := .int .u64 a0_1) (by simp)
    have fP1_w5 := K_w5.free (b := w.heap.size) (o := 1) (v := .int .u64 a0_1) (by simp)
    have lA_w5 : w1.heap.size < w5.heap.size := by omega
    have cA0_w5 := K_w5.at (b := w1.heap.size) (o := 0) (v := .int .u64 0) (by simp)
    have fA0_w5 := K_w5.free (b := w1.heap.size) (o := 0) (v := .int .u64 0) (by simp)
    have cA1_w5 := K_w5.at (b := w1.heap.size) (o := 1) (v := .int .u64 0) (by simp)
    have fA1_w5 := K_w5.free (b := w1.heap.size) (o := 1) (v := .int .u64 0) (by simp)
    have lB_w5 : w2.heap.size < w5.heap.size := by omega
    have cB0_w5 := K_w5.at (b := w2.heap.size) (o := 0) (v := .int .u64 0) (by simp)
    have fB0_w5 := K_w5.free (b := w2.heap.size) (o := 0) (v := .int .u64 0) (by simp)
    have cB1_w5 := K_w5.at (b := w2.heap.size) (o := 1) (v := .int .u64 0) (by simp)
    have fB1_w5 := K_w5.free (b := w2.heap.size) (o := 1) (v := .int .u64 0) (by simp)
    have lC_w5 : w3.heap.size < w5.heap.size := by omega
    have cC0_w5 := K_w5.at (b := w3.heap.size) (o := 0) (v := .int .u64 0) (by simp)
    have fC0_w5 := K_w5.free (b := w3.heap.size) (o := 0) (v := .int .u64 0) (by simp)
    have cC1_w5 := K_w5.at (b := w3.heap.size) (o := 1) (v := .int .u64 0) (by simp)
    have fC1_w5 := K_w5.free (b := w3.heap.size) (o := 1) (v := .int .u64 0) (by simp)
    have lD_w5 : w4.heap.size < w5.heap.size := by omega
    have cD0_w5 := K_w5.at (b := w4.heap.size) (o := 0) (v := .int .u64 0) (by simp)
    have fD0_w5 := K_w5.free (b := w4.heap.size) (o := 0) (v := .int .u64 0) (by simp)
    have cD1_w5 := K_w5.at (b := w4.heap.size) (o := 1) (v := .int .u64 0) (by simp)
    have fD1_w5 := K_w5.free (b := w4.heap.size) (o := 1) (v := .int .u64 0) (by simp)
    clear lP_w4 cP0_w4 fP0_w4 cP1_w4 fP1_w4 lA_w4 cA0_w4 fA0_w4 cA1_w4 fA1_w4 lB_w4 cB0_w4 fB0_w4 cB1_w4 fB1_w4 lC_w4 cC0_w4 fC0_w4 cC1_w4 fC1_w4
    clear K_w5
    go_wp2_with fail
    with_reducible refine (gives17 _ _ _ _ _ _ _ rfl rfl rfl).mono ?_
    rintro e w6 ⟨rfl, hb_w6⟩
    have K_w6 : Kept w.heap.size w (w4.heap.size + 1) [(w.heap.size, 0, .int .u64 a0_0), (w.heap.size, 1, .int .u64 a0_1), (w1.heap.size, 0, .int .u64 0), (w1.heap.size, 1, .int .u64 0), (w2.heap.size, 0, .int .u64 0), (w2.heap.size, 1, .int .u64 0), (w3.heap.size, 0, .int .u64 0), (w3.heap.size, 1, .int .u64 0), (w4.heap.size, 0, .int .u64 0), (w4.heap.size, 1, .int .u64 0)] w6 := Kept.of hb_w6 (by go_grown) (by go_size) (by omega) (by simp [go_sem, lP_w5, cP0_w5, fP0_w5, cP1_w5, fP1_w5, lA_w5, cA0_w5, fA0_w5, cA1_w5, fA1_w5, lB_w5, cB0_w5, fB0_w5, cB1_w5, fB1_w5, lC_w5, cC0_w5, fC0_w5, cC1_w5, fC1_w5, lD_w5, cD0_w5, fD0_w5, cD1_w5, fD1_w5] <;> omega)
    clear hb_w6
    have hw_w6 := K_w6.below
    have hz_w6 := K_w6.size
    have lP_w6 : w.heap.size < w6.heap.size := by omega
    have cP0_w6 := K_w6.at (b := w.heap.size) (o := 0) (v := .int .u64 a0_0) (by simp)
    have fP0_w6 := K_w6.free (b := w.heap.size) (o := 0) (v := .int .u64 a0_0) (by simp)
    have cP1_w6 := K_w6.at (b := w.heap.size) (o := 1) (v := .int .u64 a0_1) (by simp)
    have fP1_w6 := K_w6.free (b := w.heap.size) (o := 1) (v := .int .u64 a0_1) (by simp)
    have lA_w6 : w1.heap.size < w6.heap.size := by omega
    have cA0_w6 := K_w6.at (b := w1.heap.size) (o := 0) (v := .int .u64 0) (by simp)
    have fA0_w6 := K_w6.free (b := w1.heap.size) (o := 0) (v := .int .u64 0) (by simp)
    have cA1_w6 := K_w6.at (b := w1.heap.size) (o := 1) (v := .int .u64 0) (by simp)
    have fA1_w6 := K_w6.free (b := w1.heap.size) (o := 1) (v := .int .u64 0) (by simp)
    have lB_w6 : w2.heap.size < w6.heap.size := by omega
    have cB0_w6 := K_w6.at (b := w2.heap.size) (o := 0) (v := .int .u64 0) (by simp)
    have fB0_w6 := K_w6.free (b := w2.heap.size) (o := 0) (v := .int .u64 0) (by simp)
    have cB1_w6 := K_w6.at (b := w2.heap.size) (o := 1) (v := .int .u64 0) (by simp)
    have fB1_w6 := K_w6.free (b := w2.heap.size) (o := 1) (v := .int .u64 0) (by simp)
    have lC_w6 : w3.heap.size < w6.heap.size := by omega
    have cC0_w6 := K_w6.at (b := w3.heap.size) (o := 0) (v := .int .u64 0) (by simp)
    have fC0_w6 := K_w6.free (b := w3.heap.size) (o := 0) (v := .int .u64 0) (by simp)
    have cC1_w6 := K_w6.at (b := w3.heap.size) (o := 1) (v := .int .u64 0) (by simp)
    have fC1_w6 := K_w6.free (b := w3.heap.size) (o := 1) (v := .int .u64 0) (by simp)
    have lD_w6 : w4.heap.size < w6.heap.size := by omega
    have cD0_w6 := K_w6.at (b := w4.heap.size) (o := 0) (v := .int .u64 0) (by simp)
    have fD0_w6 := K_w6.free (b := w4.heap.size) (o := 0) (v := .int .u64 0) (by simp)
    have cD1_w6 := K_w6.at (b := w4.heap.size) (o := 1) (v := .int .u64 0) (by simp)
    have fD1_w6 := K_w6.free (b := w4.heap.size) (o := 1) (v := .int .u64 0) (by simp)
    clear lP_w5 cP0_w5 fP0_w5 cP1_w5 fP1_w5 lA_w5 cA0_w5 fA0_w5 cA1_w5 fA1_w5 lB_w5 cB0_w5 fB0_w5 cB1_w5 fB1_w5 lC_w5 cC0_w5 fC0_w5 cC1_w5 fC1_w5 lD_w5 cD0_w5 fD0_w5 cD1_w5 fD1_w5
    clear K_w6
    go_wp2_with fail
    with_reducible refine (known12 _).mono ?_
    rintro e w7 ⟨rfl, hb_w7⟩
    have K_w7 : Kept w.heap.size w (w4.heap.size + 1) [(w.heap.size, 0, .int .u64 a0_0), (w.heap.size, 1, .int .u64 a0_1), (w1.heap.size, 0, .int .u64 0), (w1.heap.size, 1, .int .u64 0), (w2.heap.size, 0, .int .u64 0), (w2.heap.size, 1, .int .u64 0), (w3.heap.size, 0, .int .u64 0), (w3.heap.size, 1, .int .u64 0), (w4.heap.size, 0, .int .u64 0), (w4.heap.size, 1, .int .u64 0)] w7 := Kept.of hb_w7 (by go_grown) (by go_size) (by omega) (by simp [go_sem, lP_w6, cP0_w6, fP0_w6, cP1_w6, fP1_w6, lA_w6, cA0_w6, fA0_w6, cA1_w6, fA1_w6, lB_w6, cB0_w6, fB0_w6, cB1_w6, fB1_w6, lC_w6, cC0_w6, fC0_w6, cC1_w6, fC1_w6, lD_w6, cD0_w6, fD0_w6, cD1_w6, fD1_w6] <;> omega)
    clear hb_w7
    have hw_w7 := K_w7.below
    have hz_w7 := K_w7.size
    have lP_w7 : w.heap.size < w7.heap.size := by omega
    have cP0_w7 := K_w7.at (b := w.heap.size) (o := 0) (v := .int .u64 a0_0) (by simp)
    have fP0_w7 := K_w7.free (b := w.heap.size) (o := 0) (v := .int .u64 a0_0) (by simp)
    have cP1_w7 := K_w7.at (b := w.heap.size) (o := 1) (v := .int .u64 a0_1) (by simp)
    have fP1_w7 := K_w7.free (b := w.heap.size) (o := 1) (v := .int .u64 a0_1) (by simp)
    have lA_w7 : w1.heap.size < w7.heap.size := by omega
    have cA0_w7 := K_w7.at (b := w1.heap.size) (o := 0) (v := .int .u64 0) (by simp)
    have fA0_w7 := K_w7.free (b := w1.heap.size) (o := 0) (v := .int .u64 0) (by simp)
    have cA1_w7 := K_w7.at (b := w1.heap.size) (o := 1) (v := .int .u64 0) (by simp)
    have fA1_w7 := K_w7.free (b := w1.heap.size) (o := 1) (v := .int .u64 0) (by simp)
    have lB_w7 : w2.heap.size < w7.heap.size := by omega
    have cB0_w7 := K_w7.at (b := w2.heap.size) (o := 0) (v := .int .u64 0) (by simp)
    have fB0_w7 := K_w7.free (b := w2.heap.size) (o := 0) (v := .int .u64 0) (by simp)
    have cB1_w7 := K_w7.at (b := w2.heap.size) (o := 1) (v := .int .u64 0) (by simp)
    have fB1_w7 := K_w7.free (b := w2.heap.size) (o := 1) (v := .int .u64 0) (by simp)
    have lC_w7 : w3.heap.size < w7.heap.size := by omega
    have cC0_w7 := K_w7.at (b := w3.heap.size) (o := 0) (v := .int .u64 0) (by simp)
    have fC0_w7 := K_w7.free (b := w3.heap.size) (o := 0) (v := .int .u64 0) (by simp)
    have cC1_w7 := K_w7.at (b := w3.heap.size) (o := 1) (v := .int .u64 0) (by simp)
    have fC1_w7 := K_w7.free (b := w3.heap.size) (o := 1) (v := .int .u64 0) (by simp)
    have lD_w7 : w4.heap.size < w7.heap.size := by omega
    have cD0_w7 := K_w7.at (b := w4.heap.size) (o := 0) (v := .int .u64 0) (by simp)
    have fD0_w7 := K_w7.free (b := w4.heap.size) (o := 0) (v := .int .u64 0) (by simp)
    have cD1_w7 := K_w7.at (b := w4.heap.size) (o := 1) (v := .int .u64 0) (by simp)
    have fD1_w7 := K_w7.free (b := w4.heap.size) (o := 1) (v := .int .u64 0) (by simp)
    clear lP_w6 cP0_w6 fP0_w6 cP1_w6 fP1_w6 lA_w6 cA0_w6 fA0_w6 cA1_w6 fA1_w6 lB_w6 cB0_w6 fB0_w6 cB1_w6 fB1_w6 lC_w6 cC0_w6 fC0_w6 cC1_w6 fC1_w6 lD_w6 cD0_w6 fD0_w6 cD1_w6 fD1_w6
    clear K_w7
    go_wp2_with fail
    go_returns
    exact ⟨rfl, by go_grown⟩
  by_cases h3 : a1 ≤ 1099511627776
  · have h1 : vR a1 a0_1 = true := by simp [vR] at h ⊢; omega
    have h2 : a0_0 ≤ 1099511627776 := by simp [vR] at h; omega
    go_enter Try.func4, Try.ntmps4
    go_wp2_with fail
    with_reducible refine (refill13 _ _ _ _ h1 h2).mono ?_
    rintro e w1 ⟨rfl, hb_w1⟩
    have K_w1 : Kept w.heap.size w (w.heap.size + 1) [(w.heap.size, 0, .int .u64 a0_0), (w.heap.size, 1, .int .u64 a0_1)] w1 := Kept.of hb_w1 (by go_grown) (by go_size) (by omega) (by simp [go_sem] <;> omega)
    clear hb_w1
    have hw_w1 := K_w1.below
    have hz_w1 := K_w1.size
    have lP_w1 : w.heap.size < w1.heap.size := by omega
    have cP0_w1 := K_w1.at (b := w.heap.size) (o := 0) (v := .int .u64 a0_0) (by simp)
    have fP0_w1 := K_w1.free (b := w.heap.size) (o := 0) (v := .int .u64 a0_0) (by simp)
    have cP1_w1 := K_w1.at (b := w.heap.size) (o := 1) (v := .int .u64 a0_1) (by simp)
    have fP1_w1 := K_w1.free (b := w.heap.size) (o := 1) (v := .int .u64 a0_1) (by simp)
    clear K_w1
    go_wp2_with fail
    with_reducible refine (extend14 _ _ _ _ u1 u2 h).mono ?_
    rintro e w2 ⟨rfl, hb_w2⟩
    have K_w2 : Kept w.heap.size w (w1.heap.size + 1) [(w.heap.size, 0, .int .u64 a0_0), (w.heap.size, 1, .int .u64 a0_1), (w1.heap.size, 0, .int .u64 a1), (w1.heap.size, 1, .int .u64 a0_1)] w2 := Kept.of hb_w2 (by go_grown) (by go_size) (by omega) (by simp [go_sem, lP_w1, cP0_w1, fP0_w1, cP1_w1, fP1_w1] <;> omega)
    clear hb_w2
    have hw_w2 := K_w2.below
    have hz_w2 := K_w2.size
    have lP_w2 : w.heap.size < w2.heap.size := by omega
    have cP0_w2 := K_w2.at (b := w.heap.size) (o := 0) (v := .int .u64 a0_0) (by simp)
    have fP0_w2 := K_w2.free (b := w.heap.size) (o := 0) (v := .int .u64 a0_0) (by simp)
    have cP1_w2 := K_w2.at (b := w.heap.size) (o := 1) (v := .int .u64 a0_1) (by simp)
    have fP1_w2 := K_w2.free (b := w.heap.size) (o := 1) (v := .int .u64 a0_1) (by simp)
    have lA_w2 : w1.heap.size < w2.heap.size := by omega
    have cA0_w2 := K_w2.at (b := w1.heap.size) (o := 0) (v := .int .u64 a1) (by simp)
    have fA0_w2 := K_w2.free (b := w1.heap.size) (o := 0) (v := .int .u64 a1) (by simp)
    have cA1_w2 := K_w2.at (b := w1.heap.size) (o := 1) (v := .int .u64 a0_1) (by simp)
    have fA1_w2 := K_w2.free (b := w1.heap.size) (o := 1) (v := .int .u64 a0_1) (by simp)
    clear lP_w1 cP0_w1 fP0_w1 cP1_w1 fP1_w1
    clear K_w2
    go_wp2_with fail
    with_reducible refine (refill15 _ _ _ _ h h3).mono ?_
    rintro e w3 ⟨rfl, hb_w3⟩
    have K_w3 : Kept w.heap.size w (w2.heap.size + 1) [(w.heap.size, 0, .int .u64 a0_0), (w.heap.size, 1, .int .u64 a0_1), (w1.heap.size, 0, .int .u64 a1), (w1.heap.size, 1, .int .u64 a0_1), (w2.heap.size, 0, .int .u64 a0_0), (w2.heap.size, 1, .int .u64 (more a0_1 a1))] w3 := Kept.of hb_w3 (by go_grown) (by go_size) (by omega) (by simp [go_sem, lP_w2, cP0_w2, fP0_w2, cP1_w2, fP1_w2, lA_w2, cA0_w2, fA0_w2, cA1_w2, fA1_w2] <;> omega)
    clear hb_w3
    have hw_w3 := K_w3.below
    have hz_w3 := K_w3.size
    have lP_w3 : w.heap.size < w3.heap.size := by omega
    have cP0_w3 := K_w3.at (b := w.heap.size) (o := 0) (v := .int .u64 a0_0) (by simp)
    have fP0_w3 := K_w3.free (b := w.heap.size) (o := 0) (v := .int .u64 a0_0) (by simp)
    have cP1_w3 := K_w3.at (b := w.heap.size) (o := 1) (v := .int .u64 a0_1) (by simp)
    have fP1_w3 := K_w3.free (b := w.heap.size) (o := 1) (v := .int .u64 a0_1) (by simp)
    have lA_w3 : w1.heap.size < w3.heap.size := by omega
    have cA0_w3 := K_w3.at (b := w1.heap.size) (o := 0) (v := .int .u64 a1) (by simp)
    have fA0_w3 := K_w3.free (b := w1.heap.size) (o := 0) (v := .int .u64 a1) (by simp)
    have cA1_w3 := K_w3.at (b := w1.heap.size) (o := 1) (v := .int .u64 a0_1) (by simp)
    have fA1_w3 := K_w3.free (b := w1.heap.size) (o := 1) (v := .int .u64 a0_1) (by simp)
    have lB_w3 : w2.heap.size < w3.heap.size := by omega
    have cB0_w3 := K_w3.at (b := w2.heap.size) (o := 0) (v := .int .u64 a0_0) (by simp)
    have fB0_w3 := K_w3.free (b := w2.heap.size) (o := 0) (v := .int .u64 a0_0) (by simp)
    have cB1_w3 := K_w3.at (b := w2.heap.size) (o := 1) (v := .int .u64 (more a0_1 a1)) (by simp)
    have fB1_w3 := K_w3.free (b := w2.heap.size) (o := 1) (v := .int .u64 (more a0_1 a1)) (by simp)
    clear lP_w2 cP0_w2 fP0_w2 cP1_w2 fP1_w2 lA_w2 cA0_w2 fA0_w2 cA1_w2 fA1_w2
    clear K_w3
    go_wp2_with fail
    with_reducible refine (extend16 _ _ _ _ u1 u2 h).mono ?_
    rintro e w4 ⟨rfl, hb_w4⟩
    have K_w4 : Kept w.heap.size w (w3.heap.size + 1) [(w.heap.size, 0, .int .u64 a0_0), (w.heap.size, 1, .int .u64 a0_1), (w1.heap.size, 0, .int .u64 a1), (w1.heap.size, 1, .int .u64 a0_1), (w2.heap.size, 0, .int .u64 a0_0), (w2.heap.size, 1, .int .u64 (more a0_1 a1)), (w3.heap.size, 0, .int .u64 a1), (w3.heap.size, 1, .int .u64 a0_1)] w4 := Kept.of hb_w4 (by go_grown) (by go_size) (by omega) (by simp [go_sem, lP_w3, cP0_w3, fP0_w3, cP1_w3, fP1_w3, lA_w3, cA0_w3, fA0_w3, cA1_w3, fA1_w3, lB_w3, cB0_w3, fB0_w3, cB1_w3, fB1_w3] <;> omega)
    clear hb_w4
    have hw_w4 := K_w4.below
    have hz_w4 := K_w4.size
    have lP_w4 : w.heap.size < w4.heap.size := by omega
    have cP0_w4 := K_w4.at (b := w.heap.size) (o := 0) (v := .int .u64 a0_0) (by simp)
    have fP0_w4 := K_w4.free (b := w.heap.size) (o := 0) (v := .int .u64 a0_0) (by simp)
    have cP1_w4 := K_w4.at (b := w.heap.size) (o := 1) (v := .int .u64 a0_1) (by simp)
    have fP1_w4 := K_w4.free (b := w.heap.size) (o := 1) (v := .int .u64 a0_1) (by simp)
    have lA_w4 : w1.heap.size < w4.heap.size := by omega
    have cA0_w4 := K_w4.at (b := w1.heap.size) (o := 0) (v := .int .u64 a1) (by simp)
    have fA0_w4 := K_w4.free (b := w1.heap.size) (o := 0) (v := .int .u64 a1) (by simp)
    have cA1_w4 := K_w4.at (b := w1.heap.size) (o := 1) (v := .int .u64 a0_1) (by simp)
    have fA1_w4 := K_w4.free (b := w1.heap.size) (o := 1) (v := .int .u64 a0_1) (by simp)
    have lB_w4 : w2.heap.size < w4.heap.size := by omega
    have cB0_w4 := K_w4.at (b := w2.heap.size) (o := 0) (v := .int .u64 a0_0) (by simp)
    have fB0_w4 := K_w4.free (b := w2.heap.size) (o := 0) (v := .int .u64 a0_0) (by simp)
    have cB1_w4 := K_w4.at (b := w2.heap.size) (o := 1) (v := .int .u64 (more a0_1 a1)) (by simp)
    have fB1_w4 := K_w4.free (b := w2.heap.size) (o := 1) (v := .int .u64 (more a0_1 a1)) (by simp)
    have lC_w4 : w3.heap.size < w4.heap.size := by omega
    have cC0_w4 := K_w4.at (b := w3.heap.size) (o := 0) (v := .int .u64 a1) (by simp)
    have fC0_w4 := K_w4.free (b := w3.heap.size) (o := 0) (v := .int .u64 a1) (by simp)
    have cC1_w4 := K_w4.at (b := w3.heap.size) (o := 1) (v := .int .u64 a0_1) (by simp)
    have fC1_w4 := K_w4.free (b := w3.heap.size) (o := 1) (v := .int .u64 a0_1) (by simp)
    clear lP_w3 cP0_w3 fP0_w3 cP1_w3 fP1_w3 lA_w3 cA0_w3 fA0_w3 cA1_w3 fA1_w3 lB_w3 cB0_w3 fB0_w3 cB1_w3 fB1_w3
    clear K_w4
    go_wp2_with fail
    with_reducible refine (gives17 _ _ _ _ _ _ _ rfl rfl rfl).mono ?_
    rintro e w5 ⟨rfl, hb_w5⟩
    have K_w5 : Kept w.heap.size w (w4.heap.size + 1) [(w.heap.size, 0, .int .u64 a0_0), (w.heap.size, 1, .int .u64 a0_1), (w1.heap.size, 0, .int .u64 a1), (w1.heap.size, 1, .int .u64 a0_1), (w2.heap.size, 0, .int .u64 a0_0), (w2.heap.size, 1, .int .u64 (more a0_1 a1)), (w3.heap.size, 0, .int .u64 a1), (w3.heap.size, 1, .int .u64 a0_1), (w4.heap.size, 0, .int .u64 a0_0), (w4.heap.size, 1, .int .u64 (more a0_1 a1))] w5 := Kept.of hb_w5 (by go_grown) (by go_size) (by omega) (by simp [go_sem, lP_w4, cP0_w4, fP0_w4, cP1_w4, fP1_w4, lA_w4, cA0_w4, fA0_w4, cA1_w4, fA1_w4, lB_w4, cB0_w4, fB0_w4, cB1_w4, fB1_w4, lC_w4, cC0_w4, fC0_w4, cC1_w4, fC1_w4] <;> omega)
    clear hb_w5
    have hw_w5 := K_w5.below
    have hz_w5 := K_w5.size
    have lP_w5 : w.heap.size < w5.heap.size := by omega
    have cP0_w5 := K_w5.at (b := w.heap.size) (o := 0) (v := .int .u64 a0_0) (by simp)
    have fP0_w5 := K_w5.free (b := w.heap.size) (o := 0) (v := .int .u64 a0_0) (by simp)
    have cP1_w5 := K_w5.at (b := w.heap.size) (o := 1) (v := .int .u64 a0_1) (by simp)
    have fP1_w5 := K_w5.free (b := w.heap.size) (o := 1) (v := .int .u64 a0_1) (by simp)
    have lA_w5 : w1.heap.size < w5.heap.size := by omega
    have cA0_w5 := K_w5.at (b := w1.heap.size) (o := 0) (v := .int .u64 a1) (by simp)
    have fA0_w5 := K_w5.free (b := w1.heap.size) (o := 0) (v := .int .u64 a1) (by simp)
    have cA1_w5 := K_w5.at (b := w1.heap.size) (o := 1) (v := .int .u64 a0_1) (by simp)
    have fA1_w5 := K_w5.free (b := w1.heap.size) (o := 1) (v := .int .u64 a0_1) (by simp)
    have lB_w5 : w2.heap.size < w5.heap.size := by omega
    have cB0_w5 := K_w5.at (b := w2.heap.size) (o := 0) (v := .int .u64 a0_0) (by simp)
    have fB0_w5 := K_w5.free (b := w2.heap.size) (o := 0) (v := .int .u64 a0_0) (by simp)
    have cB1_w5 := K_w5.at (b := w2.heap.size) (o := 1) (v := .int .u64 (more a0_1 a1)) (by simp)
    have fB1_w5 := K_w5.free (b := w2.heap.size) (o := 1) (v := .int .u64 (more a0_1 a1)) (by simp)
    have lC_w5 : w3.heap.size < w5.heap.size := by omega
    have cC0_w5 := K_w5.at (b := w3.heap.size) (o := 0) (v := .int .u64 a1) (by simp)
    have fC0_w5 := K_w5.free (b := w3.heap.size) (o := 0) (v := .int .u64 a1) (by simp)
    have cC1_w5 := K_w5.at (b := w3.heap.size) (o := 1) (v := .int .u64 a0_1) (by simp)
    have fC1_w5 := K_w5.free (b := w3.heap.size) (o := 1) (v := .int .u64 a0_1) (by simp)
    have lD_w5 : w4.heap.size < w5.heap.size := by omega
    have cD0_w5 := K_w5.at (b := w4.heap.size) (o := 0) (v := .int .u64 a0_0) (by simp)
    have fD0_w5 := K_w5.free (b := w4.heap.size) (o := 0) (v := .int .u64 a0_0) (by simp)
    have cD1_w5 := K_w5.at (b := w4.heap.size) (o := 1) (v := .int .u64 (more a0_1 a1)) (by simp)
    have fD1_w5 := K_w5.free (b := w4.heap.size) (o := 1) (v := .int .u64 (more a0_1 a1)) (by simp)
    clear lP_w4 cP0_w4 fP0_w4 cP1_w4 fP1_w4 lA_w4 cA0_w4 fA0_w4 cA1_w4 fA1_w4 lB_w4 cB0_w4 fB0_w4 cB1_w4 fB1_w4 lC_w4 cC0_w4 fC0_w4 cC1_w4 fC1_w4
    clear K_w5
    go_wp2_with fail
    with_reducible refine (gives17 _ _ _ _ _ _ _ rfl rfl rfl).mono ?_
    rintro e w6 ⟨rfl, hb_w6⟩
    have K_w6 : Kept w.heap.size w (w4.heap.size + 1) [(w.heap.size, 0, .int .u64 a0_0), (w.heap.size, 1, .int .u64 a0_1), (w1.heap.size, 0, .int .u64 a1), (w1.heap.size, 1, .int .u64 a0_1), (w2.heap.size, 0, .int .u64 a0_0), (w2.heap.size, 1, .int .u64 (more a0_1 a1)), (w3.heap.size, 0, .int .u64 a1), (w3.heap.size, 1, .int .u64 a0_1), (w4.heap.size, 0, .int .u64 a0_0), (w4.heap.size, 1, .int .u64 (more a0_1 a1))] w6 := Kept.of hb_w6 (by go_grown) (by go_size) (by omega) (by simp [go_sem, lP_w5, cP0_w5, fP0_w5, cP1_w5, fP1_w5, lA_w5, cA0_w5, fA0_w5, cA1_w5, fA1_w5, lB_w5, cB0_w5, fB0_w5, cB1_w5, fB1_w5, lC_w5, cC0_w5, fC0_w5, cC1_w5, fC1_w5, lD_w5, cD0_w5, fD0_w5, cD1_w5, fD1_w5] <;> omega)
    clear hb_w6
    have hw_w6 := K_w6.below
    have hz_w6 := K_w6.size
    have lP_w6 : w.heap.size < w6.heap.size := by omega
    have cP0_w6 := K_w6.at (b := w.heap.size) (o := 0) (v := .int .u64 a0_0) (by simp)
    have fP0_w6 := K_w6.free (b := w.heap.size) (o := 0) (v := .int .u64 a0_0) (by simp)
    have cP1_w6 := K_w6.at (b := w.heap.size) (o := 1) (v := .int .u64 a0_1) (by simp)
    have fP1_w6 := K_w6.free (b := w.heap.size) (o := 1) (v := .int .u64 a0_1) (by simp)
    have lA_w6 : w1.heap.size < w6.heap.size := by omega
    have cA0_w6 := K_w6.at (b := w1.heap.size) (o := 0) (v := .int .u64 a1) (by simp)
    have fA0_w6 := K_w6.free (b := w1.heap.size) (o := 0) (v := .int .u64 a1) (by simp)
    have cA1_w6 := K_w6.at (b := w1.heap.size) (o := 1) (v := .int .u64 a0_1) (by simp)
    have fA1_w6 := K_w6.free (b := w1.heap.size) (o := 1) (v := .int .u64 a0_1) (by simp)
    have lB_w6 : w2.heap.size < w6.heap.size := by omega
    have cB0_w6 := K_w6.at (b := w2.heap.size) (o := 0) (v := .int .u64 a0_0) (by simp)
    have fB0_w6 := K_w6.free (b := w2.heap.size) (o := 0) (v := .int .u64 a0_0) (by simp)
    have cB1_w6 := K_w6.at (b := w2.heap.size) (o := 1) (v := .int .u64 (more a0_1 a1)) (by simp)
    have fB1_w6 := K_w6.free (b := w2.heap.size) (o := 1) (v := .int .u64 (more a0_1 a1)) (by simp)
    have lC_w6 : w3.heap.size < w6.heap.size := by omega
    have cC0_w6 := K_w6.at (b := w3.heap.size) (o := 0) (v := .int .u64 a1) (by simp)
    have fC0_w6 := K_w6.free (b := w3.heap.size) (o := 0) (v := .int .u64 a1) (by simp)
    have cC1_w6 := K_w6.at (b := w3.heap.size) (o := 1) (v := .int .u64 a0_1) (by simp)
    have fC1_w6 := K_w6.free (b := w3.heap.size) (o := 1) (v := .int .u64 a0_1) (by simp)
    have lD_w6 : w4.heap.size < w6.heap.size := by omega
    have cD0_w6 := K_w6.at (b := w4.heap.size) (o := 0) (v := .int .u64 a0_0) (by simp)
    have fD0_w6 := K_w6.free (b := w4.heap.size) (o := 0) (v := .int .u64 a0_0) (by simp)
    have cD1_w6 := K_w6.at (b := w4.heap.size) (o := 1) (v := .int .u64 (more a0_1 a1)) (by simp)
    have fD1_w6 := K_w6.free (b := w4.heap.size) (o := 1) (v := .int .u64 (more a0_1 a1)) (by simp)
    clear lP_w5 cP0_w5 fP0_w5 cP1_w5 fP1_w5 lA_w5 cA0_w5 fA0_w5 cA1_w5 fA1_w5 lB_w5 cB0_w5 fB0_w5 cB1_w5 fB1_w5 lC_w5 cC0_w5 fC0_w5 cC1_w5 fC1_w5 lD_w5 cD0_w5 fD0_w5 cD1_w5 fD1_w5
    clear K_w6
    go_wp2_with fail
    with_reducible refine (known12 _).mono ?_
    rintro e w7 ⟨rfl, hb_w7⟩
    have K_w7 : Kept w.heap.size w (w4.heap.size + 1) [(w.heap.size, 0, .int .u64 a0_0), (w.heap.size, 1, .int .u64 a0_1), (w1.heap.size, 0, .int .u64 a1), (w1.heap.size, 1, .int .u64 a0_1), (w2.heap.size, 0, .int .u64 a0_0), (w2.heap.size, 1, .int .u64 (more a0_1 a1)), (w3.heap.size, 0, .int .u64 a1), (w3.heap.size, 1, .int .u64 a0_1), (w4.heap.size, 0, .int .u64 a0_0), (w4.heap.size, 1, .int .u64 (more a0_1 a1))] w7 := Kept.of hb_w7 (by go_grown) (by go_size) (by omega) (by simp [go_sem, lP_w6, cP0_w6, fP0_w6, cP1_w6, fP1_w6, lA_w6, cA0_w6, fA0_w6, cA1_w6, fA1_w6, lB_w6, cB0_w6, fB0_w6, cB1_w6, fB1_w6, lC_w6, cC0_w6, fC0_w6, cC1_w6, fC1_w6, lD_w6, cD0_w6, fD0_w6, cD1_w6, fD1_w6] <;> omega)
    clear hb_w7
    have hw_w7 := K_w7.below
    have hz_w7 := K_w7.size
    have lP_w7 : w.heap.size < w7.heap.size := by omega
    have cP0_w7 := K_w7.at (b := w.heap.size) (o := 0) (v := .int .u64 a0_0) (by simp)
    have fP0_w7 := K_w7.free (b := w.heap.size) (o := 0) (v := .int .u64 a0_0) (by simp)
    have cP1_w7 := K_w7.at (b := w.heap.size) (o := 1) (v := .int .u64 a0_1) (by simp)
    have fP1_w7 := K_w7.free (b := w.heap.size) (o := 1) (v := .int .u64 a0_1) (by simp)
    have lA_w7 : w1.heap.size < w7.heap.size := by omega
    have cA0_w7 := K_w7.at (b := w1.heap.size) (o := 0) (v := .int .u64 a1) (by simp)
    have fA0_w7 := K_w7.free (b := w1.heap.size) (o := 0) (v := .int .u64 a1) (by simp)
    have cA1_w7 := K_w7.at (b := w1.heap.size) (o := 1) (v := .int .u64 a0_1) (by simp)
    have fA1_w7 := K_w7.free (b := w1.heap.size) (o := 1) (v := .int .u64 a0_1) (by simp)
    have lB_w7 : w2.heap.size < w7.heap.size := by omega
    have cB0_w7 := K_w7.at (b := w2.heap.size) (o := 0) (v := .int .u64 a0_0) (by simp)
    have fB0_w7 := K_w7.free (b := w2.heap.size) (o := 0) (v := .int .u64 a0_0) (by simp)
    have cB1_w7 := K_w7.at (b := w2.heap.size) (o := 1) (v := .int .u64 (more a0_1 a1)) (by simp)
    have fB1_w7 := K_w7.free (b := w2.heap.size) (o := 1) (v := .int .u64 (more a0_1 a1)) (by simp)
    have lC_w7 : w3.heap.size < w7.heap.size := by omega
    have cC0_w7 := K_w7.at (b := w3.heap.size) (o := 0) (v := .int .u64 a1) (by simp)
    have fC0_w7 := K_w7.free (b := w3.heap.size) (o := 0) (v := .int .u64 a1) (by simp)
    have cC1_w7 := K_w7.at (b := w3.heap.size) (o := 1) (v := .int .u64 a0_1) (by simp)
    have fC1_w7 := K_w7.free (b := w3.heap.size) (o := 1) (v := .int .u64 a0_1) (by simp)
    have lD_w7 : w4.heap.size < w7.heap.size := by omega
    have cD0_w7 := K_w7.at (b := w4.heap.size) (o := 0) (v := .int .u64 a0_0) (by simp)
    have fD0_w7 := K_w7.free (b := w4.heap.size) (o := 0) (v := .int .u64 a0_0) (by simp)
    have cD1_w7 := K_w7.at (b := w4.heap.size) (o := 1) (v := .int .u64 (more a0_1 a1)) (by simp)
    have fD1_w7 := K_w7.free (b := w4.heap.size) (o := 1) (v := .int .u64 (more a0_1 a1)) (by simp)
    clear lP_w6 cP0_w6 fP0_w6 cP1_w6 fP1_w6 lA_w6 cA0_w6 fA0_w6 cA1_w6 fA1_w6 lB_w6 cB0_w6 fB0_w6 cB1_w6 fB1_w6 lC_w6 cC0_w6 fC0_w6 cC1_w6 fC1_w6 lD_w6 cD0_w6 fD0_w6 cD1_w6 fD1_w6
    clear K_w7
    go_wp2_with fail
    go_returns
    exact ⟨rfl, by go_grown⟩
  · have h1 : vR a1 a0_1 = false ∨ 1099511627776 < a0_0 := by simp [vR] at h ⊢; omega
    replace h3 : vR a0_0 a0_1 = false ∨ 1099511627776 < a1 := .inr (by omega)
    go_enter Try.func4, Try.ntmps4
    go_wp2_with fail
    with_reducible refine (refill13_no _ _ _ _ h1).mono ?_
    rintro e w1 ⟨rfl, hb_w1⟩
    have K_w1 : Kept w.heap.size w (w.heap.size + 1) [(w.heap.size, 0, .int .u64 a0_0), (w.heap.size, 1, .int .u64 a0_1)] w1 := Kept.of hb_w1 (by go_grown) (by go_size) (by omega) (by simp [go_sem] <;> omega)
    clear hb_w1
    have hw_w1 := K_w1.below
    have hz_w1 := K_w1.size
    have lP_w1 : w.heap.size < w1.heap.size := by omega
    have cP0_w1 := K_w1.at (b := w.heap.size) (o := 0) (v := .int .u64 a0_0) (by simp)
    have fP0_w1 := K_w1.free (b := w.heap.size) (o := 0) (v := .int .u64 a0_0) (by simp)
    have cP1_w1 := K_w1.at (b := w.heap.size) (o := 1) (v := .int .u64 a0_1) (by simp)
    have fP1_w1 := K_w1.free (b := w.heap.size) (o := 1) (v := .int .u64 a0_1) (by simp)
    clear K_w1
    go_wp2_with fail
    with_reducible refine (extend14 _ _ _ _ u1 u2 h).mono ?_
    rintro e w2 ⟨rfl, hb_w2⟩
    have K_w2 : Kept w.heap.size w (w1.heap.size + 1) [(w.heap.size, 0, .int .u64 a0_0), (w.heap.size, 1, .int .u64 a0_1), (w1.heap.size, 0, .int .u64 0), (w1.heap.size, 1, .int .u64 0)] w2 := Kept.of hb_w2 (by go_grown) (by go_size) (by omega) (by simp [go_sem, lP_w1, cP0_w1, fP0_w1, cP1_w1, fP1_w1] <;> omega)
    clear hb_w2
    have hw_w2 := K_w2.below
    have hz_w2 := K_w2.size
    have lP_w2 : w.heap.size < w2.heap.size := by omega
    have cP0_w2 := K_w2.at (b := w.heap.size) (o := 0) (v := .int .u64 a0_0) (by simp)
    have fP0_w2 := K_w2.free (b := w.heap.size) (o := 0) (v := .int .u64 a0_0) (by simp)
    have cP1_w2 := K_w2.at (b := w.heap.size) (o := 1) (v := .int .u64 a0_1) (by simp)
    have fP1_w2 := K_w2.free (b := w.heap.size) (o := 1) (v := .int .u64 a0_1) (by simp)
    have lA_w2 : w1.heap.size < w2.heap.size := by omega
    have cA0_w2 := K_w2.at (b := w1.heap.size) (o := 0) (v := .int .u64 0) (by simp)
    have fA0_w2 := K_w2.free (b := w1.heap.size) (o := 0) (v := .int .u64 0) (by simp)
    have cA1_w2 := K_w2.at (b := w1.heap.size) (o := 1) (v := .int .u64 0) (by simp)
    have fA1_w2 := K_w2.free (b := w1.heap.size) (o := 1) (v := .int .u64 0) (by simp)
    clear lP_w1 cP0_w1 fP0_w1 cP1_w1 fP1_w1
    clear K_w2
    go_wp2_with fail
    with_reducible refine (refill15_no _ _ _ _ h3).mono ?_
    rintro e w3 ⟨rfl, hb_w3⟩
    have K_w3 : Kept w.heap.size w (w2.heap.size + 1) [(w.heap.size, 0, .int .u64 a0_0), (w.heap.size, 1, .int .u64 a0_1), (w1.heap.size, 0, .int .u64 0), (w1.heap.size, 1, .int .u64 0), (w2.heap.size, 0, .int .u64 a0_0), (w2.heap.size, 1, .int .u64 (more a0_1 a1))] w3 := Kept.of hb_w3 (by go_grown) (by go_size) (by omega) (by simp [go_sem, lP_w2, cP0_w2, fP0_w2, cP1_w2, fP1_w2, lA_w2, cA0_w2, fA0_w2, cA1_w2, fA1_w2] <;> omega)
    clear hb_w3
    have hw_w3 := K_w3.below
    have hz_w3 := K_w3.size
    have lP_w3 : w.heap.size < w3.heap.size := by omega
    have cP0_w3 := K_w3.at (b := w.heap.size) (o := 0) (v := .int .u64 a0_0) (by simp)
    have fP0_w3 := K_w3.free (b := w.heap.size) (o := 0) (v := .int .u64 a0_0) (by simp)
    have cP1_w3 := K_w3.at (b := w.heap.size) (o := 1) (v := .int .u64 a0_1) (by simp)
    have fP1_w3 := K_w3.free (b := w.heap.size) (o := 1) (v := .int .u64 a0_1) (by simp)
    have lA_w3 : w1.heap.size < w3.heap.size := by omega
    have cA0_w3 := K_w3.at (b := w1.heap.size) (o := 0) (v := .int .u64 0) (by simp)
    have fA0_w3 := K_w3.free (b := w1.heap.size) (o := 0) (v := .int .u64 0) (by simp)
    have cA1_w3 := K_w3.at (b := w1.heap.size) (o := 1) (v := .int .u64 0) (by simp)
    have fA1_w3 := K_w3.free (b := w1.heap.size) (o := 1) (v := .int .u64 0) (by simp)
    have lB_w3 : w2.heap.size < w3.heap.size := by omega
    have cB0_w3 := K_w3.at (b := w2.heap.size) (o := 0) (v := .int .u64 a0_0) (by simp)
    have fB0_w3 := K_w3.free (b := w2.heap.size) (o := 0) (v := .int .u64 a0_0) (by simp)
    have cB1_w3 := K_w3.at (b := w2.heap.size) (o := 1) (v := .int .u64 (more a0_1 a1)) (by simp)
    have fB1_w3 := K_w3.free (b := w2.heap.size) (o := 1) (v := .int .u64 (more a0_1 a1)) (by simp)
    clear lP_w2 cP0_w2 fP0_w2 cP1_w2 fP1_w2 lA_w2 cA0_w2 fA0_w2 cA1_w2 fA1_w2
    clear K_w3
    go_wp2_with fail
    with_reducible refine (extend16 _ _ _ _ u1 u2 h).mono ?_
    rintro e w4 ⟨rfl, hb_w4⟩
    have K_w4 : Kept w.heap.size w (w3.heap.size + 1) [(w.heap.size, 0, .int .u64 a0_0), (w.heap.size, 1, .int .u64 a0_1), (w1.heap.size, 0, .int .u64 0), (w1.heap.size, 1, .int .u64 0), (w2.heap.size, 0, .int .u64 a0_0), (w2.heap.size, 1, .int .u64 (more a0_1 a1)), (w3.heap.size, 0, .int .u64 0), (w3.heap.size, 1, .int .u64 0)] w4 := Kept.of hb_w4 (by go_grown) (by go_size) (by omega) (by simp [go_sem, lP_w3, cP0_w3, fP0_w3, cP1_w3, fP1_w3, lA_w3, cA0_w3, fA0_w3, cA1_w3, fA1_w3, lB_w3, cB0_w3, fB0_w3, cB1_w3, fB1_w3] <;> omega)
    clear hb_w4
    have hw_w4 := K_w4.below
    have hz_w4 := K_w4.size
    have lP_w4 : w.heap.size < w4.heap.size := by omega
    have cP0_w4 := K_w4.at (b := w.heap.size) (o := 0) (v := .int .u64 a0_0) (by simp)
    have fP0_w4 := K_w4.free (b := w.heap.size) (o := 0) (v := .int .u64 a0_0) (by simp)
    have cP1_w4 := K_w4.at (b := w.heap.size) (o := 1) (v := .int .u64 a0_1) (by simp)
    have fP1_w4 := K_w4.free (b := w.heap.size) (o := 1) (v := .int .u64 a0_1) (by simp)
    have lA_w4 : w1.heap.size < w4.heap.size := by omega
    have cA0_w4 := K_w4.at (b := w1.heap.size) (o := 0) (v := .int .u64 0) (by simp)
    have fA0_w4 := K_w4.free (b := w1.heap.size) (o := 0) (v := .int .u64 0) (by simp)
    have cA1_w4 := K_w4.at (b := w1.heap.size) (o := 1) (v := .int .u64 0) (by simp)
    have fA1_w4 := K_w4.free (b := w1.heap.size) (o := 1) (v := .int .u64 0) (by simp)
    have lB_w4 : w2.heap.size < w4.heap.size := by omega
    have cB0_w4 := K_w4.at (b := w2.heap.size) (o := 0) (v := .int .u64 a0_0) (by simp)
    have fB0_w4 := K_w4.free (b := w2.heap.size) (o := 0) (v := .int .u64 a0_0) (by simp)
    have cB1_w4 := K_w4.at (b := w2.heap.size) (o := 1) (v := .int .u64 (more a0_1 a1)) (by simp)
    have fB1_w4 := K_w4.free (b := w2.heap.size) (o := 1) (v := .int .u64 (more a0_1 a1)) (by simp)
    have lC_w4 : w3.heap.size < w4.heap.size := by omega
    have cC0_w4 := K_w4.at (b := w3.heap.size) (o := 0) (v := .int .u64 0) (by simp)
    have fC0_w4 := K_w4.free (b := w3.heap.size) (o := 0) (v := .int .u64 0) (by simp)
    have cC1_w4 := K_w4.at (b := w3.heap.size) (o := 1) (v := .int .u64 0) (by simp)
    have fC1_w4 := K_w4.free (b := w3.heap.size) (o := 1) (v := .int .u64 0) (by simp)
    clear lP_w3 cP0_w3 fP0_w3 cP1_w3 fP1_w3 lA_w3 cA0_w3 fA0_w3 cA1_w3 fA1_w3 lB_w3 cB0_w3 fB0_w3 cB1_w3 fB1_w3
    clear K_w4
    go_wp2_with fail
    with_reducible refine (gives17 _ _ _ _ _ _ _ rfl rfl rfl).mono ?_
    rintro e w5 ⟨rfl, hb_w5⟩
    have K_w5 : Kept w.heap.size w (w4.heap.size + 1) [(w.heap.size, 0, .int .u64 a0_0), (w.heap.size, 1, .int .u64 a0_1), (w1.heap.size, 0, .int .u64 0), (w1.heap.size, 1, .int .u64 0), (w2.heap.size, 0, .int .u64 a0_0), (w2.heap.size, 1, .int .u64 (more a0_1 a1)), (w3.heap.size, 0, .int .u64 0), (w3.heap.size, 1, .int .u64 0), (w4.heap.size, 0, .int .u64 a0_0), (w4.heap.size, 1, .int .u64 (more a0_1 a1))] w5 := Kept.of hb_w5 (by go_grown) (by go_size) (by omega) (by simp [go_sem, lP_w4, cP0_w4, fP0_w4, cP1_w4, fP1_w4, lA_w4, cA0_w4, fA0_w4, cA1_w4, fA1_w4, lB_w4, cB0_w4, fB0_w4, cB1_w4, fB1_w4, lC_w4, cC0_w4, fC0_w4, cC1_w4, fC1_w4] <;> omega)
    clear hb_w5
    have hw_w5 := K_w5.below
    have hz_w5 := K_w5.size
    have lP_w5 : w.heap.size < w5.heap.size := by omega
    have cP0_w5 := K_w5.at (b := w.heap.size) (o := 0) (v := .int .u64 a0_0) (by simp)
    have fP0_w5 := K_w5.free (b := w.heap.size) (o := 0) (v := .int .u64 a0_0) (by simp)
    have cP1_w5 := K_w5.at (b := w.heap.size) (o := 1) (v := .int .u64 a0_1) (by simp)
    have fP1_w5 := K_w5.free (b := w.heap.size) (o := 1) (v := .int .u64 a0_1) (by simp)
    have lA_w5 : w1.heap.size < w5.heap.size := by omega
    have cA0_w5 := K_w5.at (b := w1.heap.size) (o := 0) (v := .int .u64 0) (by simp)
    have fA0_w5 := K_w5.free (b := w1.heap.size) (o := 0) (v := .int .u64 0) (by simp)
    have cA1_w5 := K_w5.at (b := w1.heap.size) (o := 1) (v := .int .u64 0) (by simp)
    have fA1_w5 := K_w5.free (b := w1.heap.size) (o := 1) (v := .int .u64 0) (by simp)
    have lB_w5 : w2.heap.size < w5.heap.size := by omega
    have cB0_w5 := K_w5.at (b := w2.heap.size) (o := 0) (v := .int .u64 a0_0) (by simp)
    have fB0_w5 := K_w5.free (b := w2.heap.size) (o := 0) (v := .int .u64 a0_0) (by simp)
    have cB1_w5 := K_w5.at (b := w2.heap.size) (o := 1) (v := .int .u64 (more a0_1 a1)) (by simp)
    have fB1_w5 := K_w5.free (b := w2.heap.size) (o := 1) (v := .int .u64 (more a0_1 a1)) (by simp)
    have lC_w5 : w3.heap.size < w5.heap.size := by omega
    have cC0_w5 := K_w5.at (b := w3.heap.size) (o := 0) (v := .int .u64 0) (by simp)
    have fC0_w5 := K_w5.free (b := w3.heap.size) (o := 0) (v := .int .u64 0) (by simp)
    have cC1_w5 := K_w5.at (b := w3.heap.size) (o := 1) (v := .int .u64 0) (by simp)
    have fC1_w5 := K_w5.free (b := w3.heap.size) (o := 1) (v := .int .u64 0) (by simp)
    have lD_w5 : w4.heap.size < w5.heap.size := by omega
    have cD0_w5 := K_w5.at (b := w4.heap.size) (o := 0) (v := .int .u64 a0_0) (by simp)
    have fD0_w5 := K_w5.free (b := w4.heap.size) (o := 0) (v := .int .u64 a0_0) (by simp)
    have cD1_w5 := K_w5.at (b := w4.heap.size) (o := 1) (v := .int .u64 (more a0_1 a1)) (by simp)
    have fD1_w5 := K_w5.free (b := w4.heap.size) (o := 1) (v := .int .u64 (more a0_1 a1)) (by simp)
    clear lP_w4 cP0_w4 fP0_w4 cP1_w4 fP1_w4 lA_w4 cA0_w4 fA0_w4 cA1_w4 fA1_w4 lB_w4 cB0_w4 fB0_w4 cB1_w4 fB1_w4 lC_w4 cC0_w4 fC0_w4 cC1_w4 fC1_w4
    clear K_w5
    go_wp2_with fail
    with_reducible refine (gives17 _ _ _ _ _ _ _ rfl rfl rfl).mono ?_
    rintro e w6 ⟨rfl, hb_w6⟩
    have K_w6 : Kept w.heap.size w (w4.heap.size + 1) [(w.heap.size, 0, .int .u64 a0_0), (w.heap.size, 1, .int .u64 a0_1), (w1.heap.size, 0, .int .u64 0), (w1.heap.size, 1, .int .u64 0), (w2.heap.size, 0, .int .u64 a0_0), (w2.heap.size, 1, .int .u64 (more a0_1 a1)), (w3.heap.size, 0, .int .u64 0), (w3.heap.size, 1, .int .u64 0), (w4.heap.size, 0, .int .u64 a0_0), (w4.heap.size, 1, .int .u64 (more a0_1 a1))] w6 := Kept.of hb_w6 (by go_grown) (by go_size) (by omega) (by simp [go_sem, lP_w5, cP0_w5, fP0_w5, cP1_w5, fP1_w5, lA_w5, cA0_w5, fA0_w5, cA1_w5, fA1_w5, lB_w5, cB0_w5, fB0_w5, cB1_w5, fB1_w5, lC_w5, cC0_w5, fC0_w5, cC1_w5, fC1_w5, lD_w5, cD0_w5, fD0_w5, cD1_w5, fD1_w5] <;> omega)
    clear hb_w6
    have hw_w6 := K_w6.below
    have hz_w6 := K_w6.size
    have lP_w6 : w.heap.size < w6.heap.size := by omega
    have cP0_w6 := K_w6.at (b := w.heap.size) (o := 0) (v := .int .u64 a0_0) (by simp)
    have fP0_w6 := K_w6.free (b := w.heap.size) (o := 0) (v := .int .u64 a0_0) (by simp)
    have cP1_w6 := K_w6.at (b := w.heap.size) (o := 1) (v := .int .u64 a0_1) (by simp)
    have fP1_w6 := K_w6.free (b := w.heap.size) (o := 1) (v := .int .u64 a0_1) (by simp)
    have lA_w6 : w1.heap.size < w6.heap.size := by omega
    have cA0_w6 := K_w6.at (b := w1.heap.size) (o := 0) (v := .int .u64 0) (by simp)
    have fA0_w6 := K_w6.free (b := w1.heap.size) (o := 0) (v := .int .u64 0) (by simp)
    have cA1_w6 := K_w6.at (b := w1.heap.size) (o := 1) (v := .int .u64 0) (by simp)
    have fA1_w6 := K_w6.free (b := w1.heap.size) (o := 1) (v := .int .u64 0) (by simp)
    have lB_w6 : w2.heap.size < w6.heap.size := by omega
    have cB0_w6 := K_w6.at (b := w2.heap.size) (o := 0) (v := .int .u64 a0_0) (by simp)
    have fB0_w6 := K_w6.free (b := w2.heap.size) (o := 0) (v := .int .u64 a0_0) (by simp)
    have cB1_w6 := K_w6.at (b := w2.heap.size) (o := 1) (v := .int .u64 (more a0_1 a1)) (by simp)
    have fB1_w6 := K_w6.free (b := w2.heap.size) (o := 1) (v := .int .u64 (more a0_1 a1)) (by simp)
    have lC_w6 : w3.heap.size < w6.heap.size := by omega
    have cC0_w6 := K_w6.at (b := w3.heap.size) (o := 0) (v := .int .u64 0) (by simp)
    have fC0_w6 := K_w6.free (b := w3.heap.size) (o := 0) (v := .int .u64 0) (by simp)
    have cC1_w6 := K_w6.at (b := w3.heap.size) (o := 1) (v := .int .u64 0) (by simp)
    have fC1_w6 := K_w6.free (b := w3.heap.size) (o := 1) (v := .int .u64 0) (by simp)
    have lD_w6 : w4.heap.size < w6.heap.size := by omega
    have cD0_w6 := K_w6.at (b := w4.heap.size) (o := 0) (v := .int .u64 a0_0) (by simp)
    have fD0_w6 := K_w6.free (b := w4.heap.size) (o := 0) (v := .int .u64 a0_0) (by simp)
    have cD1_w6 := K_w6.at (b := w4.heap.size) (o := 1) (v := .int .u64 (more a0_1 a1)) (by simp)
    have fD1_w6 := K_w6.free (b := w4.heap.size) (o := 1) (v := .int .u64 (more a0_1 a1)) (by simp)
    clear lP_w5 cP0_w5 fP0_w5 cP1_w5 fP1_w5 lA_w5 cA0_w5 fA0_w5 cA1_w5 fA1_w5 lB_w5 cB0_w5 fB0_w5 cB1_w5 fB1_w5 lC_w5 cC0_w5 fC0_w5 cC1_w5 fC1_w5 lD_w5 cD0_w5 fD0_w5 cD1_w5 fD1_w5
    clear K_w6
    go_wp2_with fail
    with_reducible refine (known12 _).mono ?_
    rintro e w7 ⟨rfl, hb_w7⟩
    have K_w7 : Kept w.heap.size w (w4.heap.size + 1) [(w.heap.size, 0, .int .u64 a0_0), (w.heap.size, 1, .int .u64 a0_1), (w1.heap.size, 0, .int .u64 0), (w1.heap.size, 1, .int .u64 0), (w2.heap.size, 0, .int .u64 a0_0), (w2.heap.size, 1, .int .u64 (more a0_1 a1)), (w3.heap.size, 0, .int .u64 0), (w3.heap.size, 1, .int .u64 0), (w4.heap.size, 0, .int .u64 a0_0), (w4.heap.size, 1, .int .u64 (more a0_1 a1))] w7 := Kept.of hb_w7 (by go_grown) (by go_size) (by omega) (by simp [go_sem, lP_w6, cP0_w6, fP0_w6, cP1_w6, fP1_w6, lA_w6, cA0_w6, fA0_w6, cA1_w6, fA1_w6, lB_w6, cB0_w6, fB0_w6, cB1_w6, fB1_w6, lC_w6, cC0_w6, fC0_w6, cC1_w6, fC1_w6, lD_w6, cD0_w6, fD0_w6, cD1_w6, fD1_w6] <;> omega)
    clear hb_w7
    have hw_w7 := K_w7.below
    have hz_w7 := K_w7.size
    have lP_w7 : w.heap.size < w7.heap.size := by omega
    have cP0_w7 := K_w7.at (b := w.heap.size) (o := 0) (v := .int .u64 a0_0) (by simp)
    have fP0_w7 := K_w7.free (b := w.heap.size) (o := 0) (v := .int .u64 a0_0) (by simp)
    have cP1_w7 := K_w7.at (b := w.heap.size) (o := 1) (v := .int .u64 a0_1) (by simp)
    have fP1_w7 := K_w7.free (b := w.heap.size) (o := 1) (v := .int .u64 a0_1) (by simp)
    have lA_w7 : w1.heap.size < w7.heap.size := by omega
    have cA0_w7 := K_w7.at (b := w1.heap.size) (o := 0) (v := .int .u64 0) (by simp)
    have fA0_w7 := K_w7.free (b := w1.heap.size) (o := 0) (v := .int .u64 0) (by simp)
    have cA1_w7 := K_w7.at (b := w1.heap.size) (o := 1) (v := .int .u64 0) (by simp)
    have fA1_w7 := K_w7.free (b := w1.heap.size) (o := 1) (v := .int .u64 0) (by simp)
    have lB_w7 : w2.heap.size < w7.heap.size := by omega
    have cB0_w7 := K_w7.at (b := w2.heap.size) (o := 0) (v := .int .u64 a0_0) (by simp)
    have fB0_w7 := K_w7.free (b := w2.heap.size) (o := 0) (v := .int .u64 a0_0) (by simp)
    have cB1_w7 := K_w7.at (b := w2.heap.size) (o := 1) (v := .int .u64 (more a0_1 a1)) (by simp)
    have fB1_w7 := K_w7.free (b := w2.heap.size) (o := 1) (v := .int .u64 (more a0_1 a1)) (by simp)
    have lC_w7 : w3.heap.size < w7.heap.size := by omega
    have cC0_w7 := K_w7.at (b := w3.heap.size) (o := 0) (v := .int .u64 0) (by simp)
    have fC0_w7 := K_w7.free (b := w3.heap.size) (o := 0) (v := .int .u64 0) (by simp)
    have cC1_w7 := K_w7.at (b := w3.heap.size) (o := 1) (v := .int .u64 0) (by simp)
    have fC1_w7 := K_w7.free (b := w3.heap.size) (o := 1) (v := .int .u64 0) (by simp)
    have lD_w7 : w4.heap.size < w7.heap.size := by omega
    have cD0_w7 := K_w7.at (b := w4.heap.size) (o := 0) (v := .int .u64 a0_0) (by simp)
    have fD0_w7 := K_w7.free (b := w4.heap.size) (o := 0) (v := .int .u64 a0_0) (by simp)
    have cD1_w7 := K_w7.at (b := w4.heap.size) (o := 1) (v := .int .u64 (more a0_1 a1)) (by simp)
    have fD1_w7 := K_w7.free (b := w4.heap.size) (o := 1) (v := .int .u64 (more a0_1 a1)) (by simp)
    clear lP_w6 cP0_w6 fP0_w6 cP1_w6 fP1_w6 lA_w6 cA0_w6 fA0_w6 cA1_w6 fA1_w6 lB_w6 cB0_w6 fB0_w6 cB1_w6 fB1_w6 lC_w6 cC0_w6 fC0_w6 cC1_w6 fC1_w6 lD_w6 cD0_w6 fD0_w6 cD1_w6 fD1_w6
    clear K_w7
    go_wp2_with fail
    go_returns
    exact ⟨rfl, by go_grown⟩

set_option maxRecDepth 100000 in
theorem lifted (os : Os) (started : os.Started) (H : Type) (enc : TypeId × Value → H) :
    ReturnsInHanded {} Try.checked os 4 .any (Rows.ropeRefillsSpec.pre6 enc Try.prog Try.f4 Rows.ropeRefillsRow.domain false) (Rows.ropeRefillsSpec.post enc Try.prog Try.f4 false true false false) := by
  refine returnsInHanded_of_change (C := Try.checked) own started (by kernel_rfl) Try.func4
    (ChangeSpec.witness6 (enc := enc) (C := Try.checked) false ⟨#[], #[.agg #[.int .u64 0, .int .u64 0], .int .u64 0], []⟩ 8 (by kernel_rfl) (by kernel_rfl) (by kernel_rfl) (by kernel_rfl)) ?_
  intro W base args ds gs before hval0 hW hcnd _
  have hval : ∀ (j : Nat) t v, Try.f4.params[j]? = some t → args[j]? = some v → Value.okWide Try.prog W .any base t v := hval0
  have hW' := hW
  obtain ⟨p, q, hA0, hV, rfl, hfz, hnd⟩ := hW
  have hA : DataW.TrodAll enc Try.prog W 0 (fun _ => true) true Try.f4.params.toList args.toList ds p := hA0
  rw [Try.params4] at hA hval
  obtain ⟨v0, vs0, d0, ds0, p0, q0, hargs, rfl, rfl, h0, r0⟩ := trodAll_cons hA
  obtain ⟨v1, vs1, d1, ds1, p1, q1, rfl, rfl, rfl, h1, r1⟩ := trodAll_cons r0
  obtain ⟨rfl, rfl, rfl⟩ := trodAll_nil r1
  obtain rfl : args = #[v0, v1] := by cases args; simp_all
  obtain ⟨rfl, rfl⟩ := trodVars_none hV
  have k0 := h0
  have lt0 : ∀ x ∈ p0, x.block < W.heap.size := by obtain ⟨m, hm⟩ := k0; exact DataW.trod_lt m _ _ _ hm
  have k1 := h1
  have lt1 : ∀ x ∈ p1, x.block < W.heap.size := by obtain ⟨m, hm⟩ := k1; exact DataW.trod_lt m _ _ _ hm
  obtain ⟨c0_0, c0_1, y0_0, y0_1, m0, rfl, rfl, rfl, hy0_0, hy0_1⟩ := Joins.open_agg2 Try.underlying25 (by kernel_rfl) (by kernel_rfl) (hval 0 25 v0 rfl rfl) h0
  obtain ⟨a0_0, e0_0, rfl, w0_0⟩ := DataW.trod_int Try.underlying23 hy0_0
  simp at e0_0
  subst e0_0
  obtain ⟨a0_1, e0_1, rfl, w0_1⟩ := DataW.trod_int Try.underlying23 hy0_1
  simp at e0_1
  subst e0_1
  obtain ⟨a1, rfl, rfl, rfl, w1⟩ := open_int Try.underlying23 (hval 1 23 v1 rfl rfl) h1
  clear hA0 hval0
  refine (walk a0_0 a0_1 a1 W w0_0 w0_1 w1).mono fun e W' ⟨he, bel⟩ => ?_
  subst he
  exact ⟨_, rfl, _, _, _, [], _, [], hW', trodAll_mk1 (shut_bool Try.underlying4 _), (trodAll_cons_mk (Below.trod laidOut (by kernel_rfl) (of_decide_eq_true (by kernel_rfl)) k0 bel lt0) (trodAll_cons_mk (Below.trod laidOut (by kernel_rfl) (of_decide_eq_true (by kernel_rfl)) k1 bel lt1) trodAll_mk0)), rfl, bel.frame _, fun h => by cases h⟩

theorem over : Rows.ropeRefillsRow.holds Try.pinned (OpenSpec.ofChange Rows.ropeRefillsSpec) :=
  OpenClaim.holds_of_wide 4 Try.f4 rfl rfl rfl rfl rfl rfl rfl ⟨rfl, rfl, rfl, rfl, rfl⟩ rfl rfl rfl rfl rfl (by kernel_rfl) Try.func4 (by kernel_rfl)
    (of_decide_eq_true (by kernel_rfl)) (by unfold Func.isWrapper; first | (rw [if_pos (by decide +kernel)]; kernel_rfl) | (rw [if_neg (by decide +kernel)]; exact ⟨rfl, rfl⟩))
    (fun os started H enc _ => lifted os started H enc)

/-- THE STATEMENT -/
theorem proved : Rows.RopeRefillsSaid := over
end Go.Proofs.Ytkjakcoejnhojaa.ropeRefills
