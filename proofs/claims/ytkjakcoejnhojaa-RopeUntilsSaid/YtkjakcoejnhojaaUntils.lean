/-
  PROVED: the law RopeUntils returns true for every input, and its arguments read afterwards as they read before (Rows.RopeUntilsSaid). CONDITIONS: none.
-/
import Derived.Test.YtkjakcoejnhojaaRows
import Derived.Test.YtkjakcoejnhojaaKnown
import Derived.WalkKit
import Derived.ProofKit
import Derived.OpenShut
import Derived.Lib.SmallJoins
import Derived.Carry
namespace Go.Proofs.Ytkjakcoejnhojaa.ropeUntils
open Go.ChangeShapes Go.WideShapes Go.ChangeAt Go.RowKit Go.WideMaps Go.WideElems
set_option linter.unusedVariables false
set_option linter.unusedSimpArgs false

theorem own : ownKnob Try.prog.godebug = none := by kernel_rfl
theorem laidOut : laidOutB Try.prog = true := by kernel_rfl
open Plain

set_option maxRecDepth 100000 in
set_option maxHeartbeats 4000000 in
theorem walk (a0_0 : Int) (a0_1 : Int) (w : World) (w0_0 : (Lit.int .u64 a0_0).wf = true) (w0_1 : (Lit.int .u64 a0_1).wf = true) :
    Calls Try.prog 5 #[.agg #[.int .u64 a0_0, .int .u64 a0_1]] w fun e w' => e = .returned (.bool true) ∧ Below w.heap.size w w' := by
  have u0 : U a0_0 := by simpa [U, Lit.wf, IntKind.min, IntKind.max, IntKind.signed, IntKind.bits] using w0_0
  have u1 : U a0_1 := by simpa [U, Lit.wf, IntKind.min, IntKind.max, IntKind.signed, IntKind.bits] using w0_1
  clear w0_0 w0_1
  cases h : vR a0_0 a0_1
  · cases z0 : decide (a0_0 = 0)
    · have e0 : (a0_0 == 0) = false := by simpa using z0
      cases z1 : decide (a0_1 = 0)
      · have e1 : (a0_1 == 0) = false := by simpa using z1
        clear z0 z1
        go_enter Try.func5, Try.ntmps5
        go_wp2_with fail
        refine wp_region_kept (w := w) (B := w.heap.size) (n := w.heap.size + 1) (L := [(w.heap.size, 0, .int .u64 a0_0), (w.heap.size, 1, .int .u64 a0_1)]) ⟨by go_grown, by go_size, (by simp [go_sem] <;> omega)⟩ (by kernel_rfl) (by kernel_rfl) (fun _ne => ?_)
        have rP0 : ∀ s : KW w.heap.size w (w.heap.size + 1) [(w.heap.size, 0, .int .u64 a0_0), (w.heap.size, 1, .int .u64 a0_1)], s.val.cell? ⟨w.heap.size, 0, none⟩ = some (.int .u64 a0_0) := fun s => s.kept.at (by simp)
        have rP1 : ∀ s : KW w.heap.size w (w.heap.size + 1) [(w.heap.size, 0, .int .u64 a0_0), (w.heap.size, 1, .int .u64 a0_1)], s.val.cell? ⟨w.heap.size, 1, none⟩ = some (.int .u64 a0_1) := fun s => s.kept.at (by simp)
        repeat (go_big_quiet_step (first | (go_at_call 18; exact calls_kept (by omega) (empty18 _ _ _))))
        refine wpQuiet_nil ?_
        rintro w1 ⟨⟨_, K_w1⟩, rfl⟩
        clear _ne rP0 rP1
        have hw_w1 := K_w1.below
        have hz_w1 := K_w1.size
        have lP_w1 : w.heap.size < w1.heap.size := by omega
        have cP0_w1 := K_w1.at (b := w.heap.size) (o := 0) (v := .int .u64 a0_0) (by simp)
        have fP0_w1 := K_w1.free (b := w.heap.size) (o := 0) (v := .int .u64 a0_0) (by simp)
        have cP1_w1 := K_w1.at (b := w.heap.size) (o := 1) (v := .int .u64 a0_1) (by simp)
        have fP1_w1 := K_w1.free (b := w.heap.size) (o := 1) (v := .int .u64 a0_1) (by simp)
        clear K_w1
        go_wp2_with fail
        with_reducible refine (valid10 _ _ _).mono ?_
        rintro e w2 ⟨rfl, hb_w2⟩
        have K_w2 : Kept w.heap.size w (w.heap.size + 1) [(w.heap.size, 0, .int .u64 a0_0), (w.heap.size, 1, .int .u64 a0_1)] w2 := Kept.of hb_w2 (by go_grown) (by go_size) (by omega) (by simp [go_sem, lP_w1, cP0_w1, fP0_w1, cP1_w1, fP1_w1] <;> omega)
        clear hb_w2
        have hw_w2 := K_w2.below
        have hz_w2 := K_w2.size
        have lP_w2 : w.heap.size < w2.heap.size := by omega
        have cP0_w2 := K_w2.at (b := w.heap.size) (o := 0) (v := .int .u64 a0_0) (by simp)
        have fP0_w2 := K_w2.free (b := w.heap.size) (o := 0) (v := .int .u64 a0_0) (by simp)
        have cP1_w2 := K_w2.at (b := w.heap.size) (o := 1) (v := .int .u64 a0_1) (by simp)
        have fP1_w2 := K_w2.free (b := w.heap.size) (o := 1) (v := .int .u64 a0_1) (by simp)
        clear lP_w1 cP0_w1 fP0_w1 cP1_w1 fP1_w1
        clear K_w2
        go_wp2_with fail
        with_reducible refine (until19_no _ _ _ h).mono ?_
        rintro e w3 ⟨rfl, hb_w3⟩
        have K_w3 : Kept w.heap.size w (w.heap.size + 1) [(w.heap.size, 0, .int .u64 a0_0), (w.heap.size, 1, .int .u64 a0_1)] w3 := Kept.of hb_w3 (by go_grown) (by go_size) (by omega) (by simp [go_sem, lP_w2, cP0_w2, fP0_w2, cP1_w2, fP1_w2] <;> omega)
        clear hb_w3
        have hw_w3 := K_w3.below
        have hz_w3 := K_w3.size
        have lP_w3 : w.heap.size < w3.heap.size := by omega
        have cP0_w3 := K_w3.at (b := w.heap.size) (o := 0) (v := .int .u64 a0_0) (by simp)
        have fP0_w3 := K_w3.free (b := w.heap.size) (o := 0) (v := .int .u64 a0_0) (by simp)
        have cP1_w3 := K_w3.at (b := w.heap.size) (o := 1) (v := .int .u64 a0_1) (by simp)
        have fP1_w3 := K_w3.free (b := w.heap.size) (o := 1) (v := .int .u64 a0_1) (by simp)
        clear lP_w2 cP0_w2 fP0_w2 cP1_w2 fP1_w2
        clear K_w3
        go_wp2_with fail
        with_reducible refine (known12 _).mono ?_
        rintro e w4 ⟨rfl, hb_w4⟩
        have K_w4 : Kept w.heap.size w (w.heap.size + 1) [(w.heap.size, 0, .int .u64 a0_0), (w.heap.size, 1, .int .u64 a0_1)] w4 := Kept.of hb_w4 (by go_grown) (by go_size) (by omega) (by simp [go_sem, lP_w3, cP0_w3, fP0_w3, cP1_w3, fP1_w3] <;> omega)
        clear hb_w4
        have hw_w4 := K_w4.below
        have hz_w4 := K_w4.size
        have lP_w4 : w.heap.size < w4.heap.size := by omega
        have cP0_w4 := K_w4.at (b := w.heap.size) (o := 0) (v := .int .u64 a0_0) (by simp)
        have fP0_w4 := K_w4.free (b := w.heap.size) (o := 0) (v := .int .u64 a0_0) (by simp)
        have cP1_w4 := K_w4.at (b := w.heap.size) (o := 1) (v := .int .u64 a0_1) (by simp)
        have fP1_w4 := K_w4.free (b := w.heap.size) (o := 1) (v := .int .u64 a0_1) (by simp)
        clear lP_w3 cP0_w3 fP0_w3 cP1_w3 fP1_w3
        clear K_w4
        go_wp2_with fail
        go_returns
        exact ⟨rfl, by go_grown⟩
      · have e1 : (a0_1 == 0) = true := by simpa using z1
        clear z0 z1
        go_enter Try.func5, Try.ntmps5
        go_wp2_with fail
        refine wp_region_kept (w := w) (B := w.heap.size) (n := w.heap.size + 1) (L := [(w.heap.size, 0, .int .u64 a0_0), (w.heap.size, 1, .int .u64 a0_1)]) ⟨by go_grown, by go_size, (by simp [go_sem] <;> omega)⟩ (by kernel_rfl) (by kernel_rfl) (fun _ne => ?_)
        have rP0 : ∀ s : KW w.heap.size w (w.heap.size + 1) [(w.heap.size, 0, .int .u64 a0_0), (w.heap.size, 1, .int .u64 a0_1)], s.val.cell? ⟨w.heap.size, 0, none⟩ = some (.int .u64 a0_0) := fun s => s.kept.at (by simp)
        have rP1 : ∀ s : KW w.heap.size w (w.heap.size + 1) [(w.heap.size, 0, .int .u64 a0_0), (w.heap.size, 1, .int .u64 a0_1)], s.val.cell? ⟨w.heap.size, 1, none⟩ = some (.int .u64 a0_1) := fun s => s.kept.at (by simp)
        repeat (go_big_quiet_step (first | (go_at_call 18; exact calls_kept (by omega) (empty18 _ _ _))))
        refine wpQuiet_nil ?_
        rintro w1 ⟨⟨_, K_w1⟩, rfl⟩
        clear _ne rP0 rP1
        have hw_w1 := K_w1.below
        have hz_w1 := K_w1.size
        have lP_w1 : w.heap.size < w1.heap.size := by omega
        have cP0_w1 := K_w1.at (b := w.heap.size) (o := 0) (v := .int .u64 a0_0) (by simp)
        have fP0_w1 := K_w1.free (b := w.heap.size) (o := 0) (v := .int .u64 a0_0) (by simp)
        have cP1_w1 := K_w1.at (b := w.heap.size) (o := 1) (v := .int .u64 a0_1) (by simp)
        have fP1_w1 := K_w1.free (b := w.heap.size) (o := 1) (v := .int .u64 a0_1) (by simp)
        clear K_w1
        go_wp2_with fail
        with_reducible refine (valid10 _ _ _).mono ?_
        rintro e w2 ⟨rfl, hb_w2⟩
        have K_w2 : Kept w.heap.size w (w.heap.size + 1) [(w.heap.size, 0, .int .u64 a0_0), (w.heap.size, 1, .int .u64 a0_1)] w2 := Kept.of hb_w2 (by go_grown) (by go_size) (by omega) (by simp [go_sem, lP_w1, cP0_w1, fP0_w1, cP1_w1, fP1_w1] <;> omega)
        clear hb_w2
        have hw_w2 := K_w2.below
        have hz_w2 := K_w2.size
        have lP_w2 : w.heap.size < w2.heap.size := by omega
        have cP0_w2 := K_w2.at (b := w.heap.size) (o := 0) (v := .int .u64 a0_0) (by simp)
        have fP0_w2 := K_w2.free (b := w.heap.size) (o := 0) (v := .int .u64 a0_0) (by simp)
        have cP1_w2 := K_w2.at (b := w.heap.size) (o := 1) (v := .int .u64 a0_1) (by simp)
        have fP1_w2 := K_w2.free (b := w.heap.size) (o := 1) (v := .int .u64 a0_1) (by simp)
        clear lP_w1 cP0_w1 fP0_w1 cP1_w1 fP1_w1
        clear K_w2
        go_wp2_with fail
        with_reducible refine (until19_no _ _ _ h).mono ?_
        rintro e w3 ⟨rfl, hb_w3⟩
        have K_w3 : Kept w.heap.size w (w.heap.size + 1) [(w.heap.size, 0, .int .u64 a0_0), (w.heap.size, 1, .int .u64 a0_1)] w3 := Kept.of hb_w3 (by go_grown) (by go_size) (by omega) (by simp [go_sem, lP_w2, cP0_w2, fP0_w2, cP1_w2, fP1_w2] <;> omega)
        clear hb_w3
        have hw_w3 := K_w3.below
        have hz_w3 := K_w3.size
        have lP_w3 : w.heap.size < w3.heap.size := by omega
        have cP0_w3 := K_w3.at (b := w.heap.size) (o := 0) (v := .int .u64 a0_0) (by simp)
        have fP0_w3 := K_w3.free (b := w.heap.size) (o := 0) (v := .int .u64 a0_0) (by simp)
        have cP1_w3 := K_w3.at (b := w.heap.size) (o := 1) (v := .int .u64 a0_1) (by simp)
        have fP1_w3 := K_w3.free (b := w.heap.size) (o := 1) (v := .int .u64 a0_1) (by simp)
        clear lP_w2 cP0_w2 fP0_w2 cP1_w2 fP1_w2
        clear K_w3
        go_wp2_with fail
        with_reducible refine (known12 _).mono ?_
        rintro e w4 ⟨rfl, hb_w4⟩
        have K_w4 : Kept w.heap.size w (w.heap.size + 1) [(w.heap.size, 0, .int .u64 a0_0), (w.heap.size, 1, .int .u64 a0_1)] w4 := Kept.of hb_w4 (by go_grown) (by go_size) (by omega) (by simp [go_sem, lP_w3, cP0_w3, fP0_w3, cP1_w3, fP1_w3] <;> omega)
        clear hb_w4
        have hw_w4 := K_w4.below
        have hz_w4 := K_w4.size
        have lP_w4 : w.heap.size < w4.heap.size := by omega
        have cP0_w4 := K_w4.at (b := w.heap.size) (o := 0) (v := .int .u64 a0_0) (by simp)
        have fP0_w4 := K_w4.free (b := w.heap.size) (o := 0) (v := .int .u64 a0_0) (by simp)
        have cP1_w4 := K_w4.at (b := w.heap.size) (o := 1) (v := .int .u64 a0_1) (by simp)
        have fP1_w4 := K_w4.free (b := w.heap.size) (o := 1) (v := .int .u64 a0_1) (by simp)
        clear lP_w3 cP0_w3 fP0_w3 cP1_w3 fP1_w3
        clear K_w4
        go_wp2_with fail
        go_returns
        exact ⟨rfl, by go_grown⟩
    · have e0 : (a0_0 == 0) = true := by simpa using z0
      cases z1 : decide (a0_1 = 0)
      · have e1 : (a0_1 == 0) = false := by simpa using z1
        clear z0 z1
        go_enter Try.func5, Try.ntmps5
        go_wp2_with fail
        refine wp_region_kept (w := w) (B := w.heap.size) (n := w.heap.size + 1) (L := [(w.heap.size, 0, .int .u64 a0_0), (w.heap.size, 1, .int .u64 a0_1)]) ⟨by go_grown, by go_size, (by simp [go_sem] <;> omega)⟩ (by kernel_rfl) (by kernel_rfl) (fun _ne => ?_)
        have rP0 : ∀ s : KW w.heap.size w (w.heap.size + 1) [(w.heap.size, 0, .int .u64 a0_0), (w.heap.size, 1, .int .u64 a0_1)], s.val.cell? ⟨w.heap.size, 0, none⟩ = some (.int .u64 a0_0) := fun s => s.kept.at (by simp)
        have rP1 : ∀ s : KW w.heap.size w (w.heap.size + 1) [(w.heap.size, 0, .int .u64 a0_0), (w.heap.size, 1, .int .u64 a0_1)], s.val.cell? ⟨w.heap.size, 1, none⟩ = some (.int .u64 a0_1) := fun s => s.kept.at (by simp)
        repeat (go_big_quiet_step (first | (go_at_call 18; exact calls_kept (by omega) (empty18 _ _ _))))
        refine wpQuiet_nil ?_
        rintro w1 ⟨⟨_, K_w1⟩, rfl⟩
        clear _ne rP0 rP1
        have hw_w1 := K_w1.below
        have hz_w1 := K_w1.size
        have lP_w1 : w.heap.size < w1.heap.size := by omega
        have cP0_w1 := K_w1.at (b := w.heap.size) (o := 0) (v := .int .u64 a0_0) (by simp)
        have fP0_w1 := K_w1.free (b := w.heap.size) (o := 0) (v := .int .u64 a0_0) (by simp)
        have cP1_w1 := K_w1.at (b := w.heap.size) (o := 1) (v := .int .u64 a0_1) (by simp)
        have fP1_w1 := K_w1.free (b := w.heap.size) (o := 1) (v := .int .u64 a0_1) (by simp)
        clear K_w1
        go_wp2_with fail
        with_reducible refine (valid10 _ _ _).mono ?_
        rintro e w2 ⟨rfl, hb_w2⟩
        have K_w2 : Kept w.heap.size w (w.heap.size + 1) [(w.heap.size, 0, .int .u64 a0_0), (w.heap.size, 1, .int .u64 a0_1)] w2 := Kept.of hb_w2 (by go_grown) (by go_size) (by omega) (by simp [go_sem, lP_w1, cP0_w1, fP0_w1, cP1_w1, fP1_w1] <;> omega)
        clear hb_w2
        have hw_w2 := K_w2.below
        have hz_w2 := K_w2.size
        have lP_w2 : w.heap.size < w2.heap.size := by omega
        have cP0_w2 := K_w2.at (b := w.heap.size) (o := 0) (v := .int .u64 a0_0) (by simp)
        have fP0_w2 := K_w2.free (b := w.heap.size) (o := 0) (v := .int .u64 a0_0) (by simp)
        have cP1_w2 := K_w2.at (b := w.heap.size) (o := 1) (v := .int .u64 a0_1) (by simp)
        have fP1_w2 := K_w2.free (b := w.heap.size) (o := 1) (v := .int .u64 a0_1) (by simp)
        clear lP_w1 cP0_w1 fP0_w1 cP1_w1 fP1_w1
        clear K_w2
        go_wp2_with fail
        with_reducible refine (until19_no _ _ _ h).mono ?_
        rintro e w3 ⟨rfl, hb_w3⟩
        have K_w3 : Kept w.heap.size w (w.heap.size + 1) [(w.heap.size, 0, .int .u64 a0_0), (w.heap.size, 1, .int .u64 a0_1)] w3 := Kept.of hb_w3 (by go_grown) (by go_size) (by omega) (by simp [go_sem, lP_w2, cP0_w2, fP0_w2, cP1_w2, fP1_w2] <;> omega)
        clear hb_w3
        have hw_w3 := K_w3.below
        have hz_w3 := K_w3.size
        have lP_w3 : w.heap.size < w3.heap.size := by omega
        have cP0_w3 := K_w3.at (b := w.heap.size) (o := 0) (v := .int .u64 a0_0) (by simp)
        have fP0_w3 := K_w3.free (b := w.heap.size) (o := 0) (v := .int .u64 a0_0) (by simp)
        have cP1_w3 := K_w3.at (b := w.heap.size) (o := 1) (v := .int .u64 a0_1) (by simp)
        have fP1_w3 := K_w3.free (b := w.heap.size) (o := 1) (v := .int .u64 a0_1) (by simp)
        clear lP_w2 cP0_w2 fP0_w2 cP1_w2 fP1_w2
        clear K_w3
        go_wp2_with fail
        with_reducible refine (known12 _).mono ?_
        rintro e w4 ⟨rfl, hb_w4⟩
        have K_w4 : Kept w.heap.size w (w.heap.size + 1) [(w.heap.size, 0, .int .u64 a0_0), (w.heap.size, 1, .int .u64 a0_1)] w4 := Kept.of hb_w4 (by go_grown) (by go_size) (by omega) (by simp [go_sem, lP_w3, cP0_w3, fP0_w3, cP1_w3, fP1_w3] <;> omega)
        clear hb_w4
        have hw_w4 := K_w4.below
        have hz_w4 := K_w4.size
        have lP_w4 : w.heap.size < w4.heap.size := by omega
        have cP0_w4 := K_w4.at (b := w.heap.size) (o := 0) (v := .int .u64 a0_0) (by simp)
        have fP0_w4 := K_w4.free (b := w.heap.size) (o := 0) (v := .int .u64 a0_0) (by simp)
        have cP1_w4 := K_w4.at (b := w.heap.size) (o := 1) (v := .int .u64 a0_1) (by simp)
        have fP1_w4 := K_w4.free (b := w.heap.size) (o := 1) (v := .int .u64 a0_1) (by simp)
        clear lP_w3 cP0_w3 fP0_w3 cP1_w3 fP1_w3
        clear K_w4
        go_wp2_with fail
        go_returns
        exact ⟨rfl, by go_grown⟩
      · have e1 : (a0_1 == 0) = true := by simpa using z1
        clear z0 z1
        go_enter Try.func5, Try.ntmps5
        go_wp2_with fail
        refine wp_region_kept (w := w) (B := w.heap.size) (n := w.heap.size + 1) (L := [(w.heap.size, 0, .int .u64 a0_0), (w.heap.size, 1, .int .u64 a0_1)]) ⟨by go_grown, by go_size, (by simp [go_sem] <;> omega)⟩ (by kernel_rfl) (by kernel_rfl) (fun _ne => ?_)
        have rP0 : ∀ s : KW w.heap.size w (w.heap.size + 1) [(w.heap.size, 0, .int .u64 a0_0), (w.heap.size, 1, .int .u64 a0_1)], s.val.cell? ⟨w.heap.size, 0, none⟩ = some (.int .u64 a0_0) := fun s => s.kept.at (by simp)
        have rP1 : ∀ s : KW w.heap.size w (w.heap.size + 1) [(w.heap.size, 0, .int .u64 a0_0), (w.heap.size, 1, .int .u64 a0_1)], s.val.cell? ⟨w.heap.size, 1, none⟩ = some (.int .u64 a0_1) := fun s => s.kept.at (by simp)
        repeat (go_big_quiet_step (first | (go_at_call 18; exact calls_kept (by omega) (empty18 _ _ _))))
        refine wpQuiet_nil ?_
        rintro w1 ⟨⟨_, K_w1⟩, rfl⟩
        clear _ne rP0 rP1
        have hw_w1 := K_w1.below
        have hz_w1 := K_w1.size
        have lP_w1 : w.heap.size < w1.heap.size := by omega
        have cP0_w1 := K_w1.at (b := w.heap.size) (o := 0) (v := .int .u64 a0_0) (by simp)
        have fP0_w1 := K_w1.free (b := w.heap.size) (o := 0) (v := .int .u64 a0_0) (by simp)
        have cP1_w1 := K_w1.at (b := w.heap.size) (o := 1) (v := .int .u64 a0_1) (by simp)
        have fP1_w1 := K_w1.free (b := w.heap.size) (o := 1) (v := .int .u64 a0_1) (by simp)
        clear K_w1
        go_wp2_with fail
        with_reducible refine (valid10 _ _ _).mono ?_
        rintro e w2 ⟨rfl, hb_w2⟩
        have K_w2 : Kept w.heap.size w (w.heap.size + 1) [(w.heap.size, 0, .int .u64 a0_0), (w.heap.size, 1, .int .u64 a0_1)] w2 := Kept.of hb_w2 (by go_grown) (by go_size) (by omega) (by simp [go_sem, lP_w1, cP0_w1, fP0_w1, cP1_w1, fP1_w1] <;> omega)
        clear hb_w2
        have hw_w2 := K_w2.below
        have hz_w2 := K_w2.size
        have lP_w2 : w.heap.size < w2.heap.size := by omega
        have cP0_w2 := K_w2.at (b := w.heap.size) (o := 0) (v := .int .u64 a0_0) (by simp)
        have fP0_w2 := K_w2.free (b := w.heap.size) (o := 0) (v := .int .u64 a0_0) (by simp)
        have cP1_w2 := K_w2.at (b := w.heap.size) (o := 1) (v := .int .u64 a0_1) (by simp)
        have fP1_w2 := K_w2.free (b := w.heap.size) (o := 1) (v := .int .u64 a0_1) (by simp)
        clear lP_w1 cP0_w1 fP0_w1 cP1_w1 fP1_w1
        clear K_w2
        go_wp2_with fail
        with_reducible refine (until19_no _ _ _ h).mono ?_
        rintro e w3 ⟨rfl, hb_w3⟩
        have K_w3 : Kept w.heap.size w (w.heap.size + 1) [(w.heap.size, 0, .int .u64 a0_0), (w.heap.size, 1, .int .u64 a0_1)] w3 := Kept.of hb_w3 (by go_grown) (by go_size) (by omega) (by simp [go_sem, lP_w2, cP0_w2, fP0_w2, cP1_w2, fP1_w2] <;> omega)
        clear hb_w3
        have hw_w3 := K_w3.below
        have hz_w3 := K_w3.size
        have lP_w3 : w.heap.size < w3.heap.size := by omega
        have cP0_w3 := K_w3.at (b := w.heap.size) (o := 0) (v := .int .u64 a0_0) (by simp)
        have fP0_w3 := K_w3.free (b := w.heap.size) (o := 0) (v := .int .u64 a0_0) (by simp)
        have cP1_w3 := K_w3.at (b := w.heap.size) (o := 1) (v := .int .u64 a0_1) (by simp)
        have fP1_w3 := K_w3.free (b := w.heap.size) (o := 1) (v := .int .u64 a0_1) (by simp)
        clear lP_w2 cP0_w2 fP0_w2 cP1_w2 fP1_w2
        clear K_w3
        go_wp2_with fail
        with_reducible refine (known12 _).mono ?_
        rintro e w4 ⟨rfl, hb_w4⟩
        have K_w4 : Kept w.heap.size w (w.heap.size + 1) [(w.heap.size, 0, .int .u64 a0_0), (w.heap.size, 1, .int .u64 a0_1)] w4 := Kept.of hb_w4 (by go_grown) (by go_size) (by omega) (by simp [go_sem, lP_w3, cP0_w3, fP0_w3, cP1_w3, fP1_w3] <;> omega)
        clear hb_w4
        have hw_w4 := K_w4.below
        have hz_w4 := K_w4.size
        have lP_w4 : w.heap.size < w4.heap.size := by omega
        have cP0_w4 := K_w4.at (b := w.heap.size) (o := 0) (v := .int .u64 a0_0) (by simp)
        have fP0_w4 := K_w4.free (b := w.heap.size) (o := 0) (v := .int .u64 a0_0) (by simp)
        have cP1_w4 := K_w4.at (b := w.heap.size) (o := 1) (v := .int .u64 a0_1) (by simp)
        have fP1_w4 := K_w4.free (b := w.heap.size) (o := 1) (v := .int .u64 a0_1) (by simp)
        clear lP_w3 cP0_w3 fP0_w3 cP1_w3 fP1_w3
        clear K_w4
        go_wp2_with fail
        go_returns
        exact ⟨rfl, by go_grown⟩
  · have hv := vR_true h
    have su : 0 ≤ a0_0 + a0_1 := by unfold U at u0 u1; omega
    have sv : a0_0 + a0_1 ≤ 2199023255552 := by omega
    cases z0 : decide (a0_0 = 0)
    · have e0 : (a0_0 == 0) = false := by simpa using z0
      cases z1 : decide (a0_1 = 0)
      · have e1 : (a0_1 == 0) = false := by simpa using z1
        clear z0 z1
        go_enter Try.func5, Try.ntmps5
        go_wp2_with fail
        refine wp_region_kept (w := w) (B := w.heap.size) (n := w.heap.size + 1) (L := [(w.heap.size, 0, .int .u64 a0_0), (w.heap.size, 1, .int .u64 a0_1)]) ⟨by go_grown, by go_size, (by simp [go_sem] <;> omega)⟩ (by kernel_rfl) (by kernel_rfl) (fun _ne => ?_)
        have rP0 : ∀ s : KW w.heap.size w (w.heap.size + 1) [(w.heap.size, 0, .int .u64 a0_0), (w.heap.size, 1, .int .u64 a0_1)], s.val.cell? ⟨w.heap.size, 0, none⟩ = some (.int .u64 a0_0) := fun s => s.kept.at (by simp)
        have rP1 : ∀ s : KW w.heap.size w (w.heap.size + 1) [(w.heap.size, 0, .int .u64 a0_0), (w.heap.size, 1, .int .u64 a0_1)], s.val.cell? ⟨w.heap.size, 1, none⟩ = some (.int .u64 a0_1) := fun s => s.kept.at (by simp)
        repeat (go_big_quiet_step (first | (go_at_call 18; exact calls_kept (by omega) (empty18 _ _ _))))
        refine wpQuiet_nil ?_
        rintro w1 ⟨⟨_, K_w1⟩, rfl⟩
        clear _ne rP0 rP1
        have hw_w1 := K_w1.below
        have hz_w1 := K_w1.size
        have lP_w1 : w.heap.size < w1.heap.size := by omega
        have cP0_w1 := K_w1.at (b := w.heap.size) (o := 0) (v := .int .u64 a0_0) (by simp)
        have fP0_w1 := K_w1.free (b := w.heap.size) (o := 0) (v := .int .u64 a0_0) (by simp)
        have cP1_w1 := K_w1.at (b := w.heap.size) (o := 1) (v := .int .u64 a0_1) (by simp)
        have fP1_w1 := K_w1.free (b := w.heap.size) (o := 1) (v := .int .u64 a0_1) (by simp)
        clear K_w1
        go_wp2_with fail
        with_reducible refine (valid10 _ _ _).mono ?_
        rintro e w2 ⟨rfl, hb_w2⟩
        have K_w2 : Kept w.heap.size w (w.heap.size + 1) [(w.heap.size, 0, .int .u64 a0_0), (w.heap.size, 1, .int .u64 a0_1)] w2 := Kept.of hb_w2 (by go_grown) (by go_size) (by omega) (by simp [go_sem, lP_w1, cP0_w1, fP0_w1, cP1_w1, fP1_w1] <;> omega)
        clear hb_w2
        have hw_w2 := K_w2.below
        have hz_w2 := K_w2.size
        have lP_w2 : w.heap.size < w2.heap.size := by omega
        have cP0_w2 := K_w2.at (b := w.heap.size) (o := 0) (v := .int .u64 a0_0) (by simp)
        have fP0_w2 := K_w2.free (b := w.heap.size) (o := 0) (v := .int .u64 a0_0) (by simp)
        have cP1_w2 := K_w2.at (b := w.heap.size) (o := 1) (v := .int .u64 a0_1) (by simp)
        have fP1_w2 := K_w2.free (b := w.heap.size) (o := 1) (v := .int .u64 a0_1) (by simp)
        clear lP_w1 cP0_w1 fP0_w1 cP1_w1 fP1_w1
        clear K_w2
        go_wp2_with fail
        with_reducible refine (until19 _ _ _ _ _ u0 u1 h rfl rfl).mono ?_
        rintro e w3 ⟨rfl, hb_w3⟩
        have K_w3 : Kept w.heap.size w (w.heap.size + 1) [(w.heap.size, 0, .int .u64 a0_0), (w.heap.size, 1, .int .u64 a0_1)] w3 := Kept.of hb_w3 (by go_grown) (by go_size) (by omega) (by simp [go_sem, lP_w2, cP0_w2, fP0_w2, cP1_w2, fP1_w2] <;> omega)
        clear hb_w3
        have hw_w3 := K_w3.below
        have hz_w3 := K_w3.size
        have lP_w3 : w.heap.size < w3.heap.size := by omega
        have cP0_w3 := K_w3.at (b := w.heap.size) (o := 0) (v := .int .u64 a0_0) (by simp)
        have fP0_w3 := K_w3.free (b := w.heap.size) (o := 0) (v := .int .u64 a0_0) (by simp)
        have cP1_w3 := K_w3.at (b := w.heap.size) (o := 1) (v := .int .u64 a0_1) (by simp)
        have fP1_w3 := K_w3.free (b := w.heap.size) (o := 1) (v := .int .u64 a0_1) (by simp)
        clear lP_w2 cP0_w2 fP0_w2 cP1_w2 fP1_w2
        clear K_w3
        go_wp2_with fail
        with_reducible refine (known12 _).mono ?_
        rintro e w4 ⟨rfl, hb_w4⟩
        have K_w4 : Kept w.heap.size w (w.heap.size + 1) [(w.heap.size, 0, .int .u64 a0_0), (w.heap.size, 1, .int .u64 a0_1)] w4 := Kept.of hb_w4 (by go_grown) (by go_size) (by omega) (by simp [go_sem, lP_w3, cP0_w3, fP0_w3, cP1_w3, fP1_w3] <;> omega)
        clear hb_w4
        have hw_w4 := K_w4.below
        have hz_w4 := K_w4.size
        have lP_w4 : w.heap.size < w4.heap.size := by omega
        have cP0_w4 := K_w4.at (b := w.heap.size) (o := 0) (v := .int .u64 a0_0) (by simp)
        have fP0_w4 := K_w4.free (b := w.heap.size) (o := 0) (v := .int .u64 a0_0) (by simp)
        have cP1_w4 := K_w4.at (b := w.heap.size) (o := 1) (v := .int .u64 a0_1) (by simp)
        have fP1_w4 := K_w4.free (b := w.heap.size) (o := 1) (v := .int .u64 a0_1) (by simp)
        clear lP_w3 cP0_w3 fP0_w3 cP1_w3 fP1_w3
        clear K_w4
        go_wp2_with fail
        go_returns
        exact ⟨rfl, by go_grown⟩
      · have e1 : (a0_1 == 0) = true := by simpa using z1
        clear z0 z1
        go_enter Try.func5, Try.ntmps5
        go_wp2_with fail
        refine wp_region_kept (w := w) (B := w.heap.size) (n := w.heap.size + 1) (L := [(w.heap.size, 0, .int .u64 a0_0), (w.heap.size, 1, .int .u64 a0_1)]) ⟨by go_grown, by go_size, (by simp [go_sem] <;> omega)⟩ (by kernel_rfl) (by kernel_rfl) (fun _ne => ?_)
        have rP0 : ∀ s : KW w.heap.size w (w.heap.size + 1) [(w.heap.size, 0, .int .u64 a0_0), (w.heap.size, 1, .int .u64 a0_1)], s.val.cell? ⟨w.heap.size, 0, none⟩ = some (.int .u64 a0_0) := fun s => s.kept.at (by simp)
        have rP1 : ∀ s : KW w.heap.size w (w.heap.size + 1) [(w.heap.size, 0, .int .u64 a0_0), (w.heap.size, 1, .int .u64 a0_1)], s.val.cell? ⟨w.heap.size, 1, none⟩ = some (.int .u64 a0_1) := fun s => s.kept.at (by simp)
        repeat (go_big_quiet_step (first | (go_at_call 18; exact calls_kept (by omega) (empty18 _ _ _))))
        refine wpQuiet_nil ?_
        rintro w1 ⟨⟨_, K_w1⟩, rfl⟩
        clear _ne rP0 rP1
        have hw_w1 := K_w1.below
        have hz_w1 := K_w1.size
        have lP_w1 : w.heap.size < w1.heap.size := by omega
        have cP0_w1 := K_w1.at (b := w.heap.size) (o := 0) (v := .int .u64 a0_0) (by simp)
        have fP0_w1 := K_w1.free (b := w.heap.size) (o := 0) (v := .int .u64 a0_0) (by simp)
        have cP1_w1 := K_w1.at (b := w.heap.size) (o := 1) (v := .int .u64 a0_1) (by simp)
        have fP1_w1 := K_w1.free (b := w.heap.size) (o := 1) (v := .int .u64 a0_1) (by simp)
        clear K_w1
        go_wp2_with fail
        with_reducible refine (valid10 _ _ _).mono ?_
        rintro e w2 ⟨rfl, hb_w2⟩
        have K_w2 : Kept w.heap.size w (w.heap.size + 1) [(w.heap.size, 0, .int .u64 a0_0), (w.heap.size, 1, .int .u64 a0_1)] w2 := Kept.of hb_w2 (by go_grown) (by go_size) (by omega) (by simp [go_sem, lP_w1, cP0_w1, fP0_w1, cP1_w1, fP1_w1] <;> omega)
        clear hb_w2
        have hw_w2 := K_w2.below
        have hz_w2 := K_w2.size
        have lP_w2 : w.heap.size < w2.heap.size := by omega
        have cP0_w2 := K_w2.at (b := w.heap.size) (o := 0) (v := .int .u64 a0_0) (by simp)
        have fP0_w2 := K_w2.free (b := w.heap.size) (o := 0) (v := .int .u64 a0_0) (by simp)
        have cP1_w2 := K_w2.at (b := w.heap.size) (o := 1) (v := .int .u64 a0_1) (by simp)
        have fP1_w2 := K_w2.free (b := w.heap.size) (o := 1) (v := .int .u64 a0_1) (by simp)
        clear lP_w1 cP0_w1 fP0_w1 cP1_w1 fP1_w1
        clear K_w2
        go_wp2_with fail
        with_reducible refine (until19 _ _ _ _ _ u0 u1 h rfl rfl).mono ?_
        rintro e w3 ⟨rfl, hb_w3⟩
        have K_w3 : Kept w.heap.size w (w.heap.size + 1) [(w.heap.size, 0, .int .u64 a0_0), (w.heap.size, 1, .int .u64 a0_1)] w3 := Kept.of hb_w3 (by go_grown) (by go_size) (by omega) (by simp [go_sem, lP_w2, cP0_w2, fP0_w2, cP1_w2, fP1_w2] <;> omega)
        clear hb_w3
        have hw_w3 := K_w3.below
        have hz_w3 := K_w3.size
        have lP_w3 : w.heap.size < w3.heap.size := by omega
        have cP0_w3 := K_w3.at (b := w.heap.size) (o := 0) (v := .int .u64 a0_0) (by simp)
        have fP0_w3 := K_w3.free (b := w.heap.size) (o := 0) (v := .int .u64 a0_0) (by simp)
        have cP1_w3 := K_w3.at (b := w.heap.size) (o := 1) (v := .int .u64 a0_1) (by simp)
        have fP1_w3 := K_w3.free (b := w.heap.size) (o := 1) (v := .int .u64 a0_1) (by simp)
        clear lP_w2 cP0_w2 fP0_w2 cP1_w2 fP1_w2
        clear K_w3
        go_wp2_with fail
        with_reducible refine (known12 _).mono ?_
        rintro e w4 ⟨rfl, hb_w4⟩
        have K_w4 : Kept w.heap.size w (w.heap.size + 1) [(w.heap.size, 0, .int .u64 a0_0), (w.heap.size, 1, .int .u64 a0_1)] w4 := Kept.of hb_w4 (by go_grown) (by go_size) (by omega) (by simp [go_sem, lP_w3, cP0_w3, fP0_w3, cP1_w3, fP1_w3] <;> omega)
        clear hb_w4
        have hw_w4 := K_w4.below
        have hz_w4 := K_w4.size
        have lP_w4 : w.heap.size < w4.heap.size := by omega
        have cP0_w4 := K_w4.at (b := w.heap.size) (o := 0) (v := .int .u64 a0_0) (by simp)
        have fP0_w4 := K_w4.free (b := w.heap.size) (o := 0) (v := .int .u64 a0_0) (by simp)
        have cP1_w4 := K_w4.at (b := w.heap.size) (o := 1) (v := .int .u64 a0_1) (by simp)
        have fP1_w4 := K_w4.free (b := w.heap.size) (o := 1) (v := .int .u64 a0_1) (by simp)
        clear lP_w3 cP0_w3 fP0_w3 cP1_w3 fP1_w3
        clear K_w4
        go_wp2_with fail
        go_returns
        exact ⟨rfl, by go_grown⟩
    · have e0 : (a0_0 == 0) = true := by simpa using z0
      cases z1 : decide (a0_1 = 0)
      · have e1 : (a0_1 == 0) = false := by simpa using z1
        clear z0 z1
        go_enter Try.func5, Try.ntmps5
        go_wp2_with fail
        refine wp_region_kept (w := w) (B := w.heap.size) (n := w.heap.size + 1) (L := [(w.heap.size, 0, .int .u64 a0_0), (w.heap.size, 1, .int .u64 a0_1)]) ⟨by go_grown, by go_size, (by simp [go_sem] <;> omega)⟩ (by kernel_rfl) (by kernel_rfl) (fun _ne => ?_)
        have rP0 : ∀ s : KW w.heap.size w (w.heap.size + 1) [(w.heap.size, 0, .int .u64 a0_0), (w.heap.size, 1, .int .u64 a0_1)], s.val.cell? ⟨w.heap.size, 0, none⟩ = some (.int .u64 a0_0) := fun s => s.kept.at (by simp)
        have rP1 : ∀ s : KW w.heap.size w (w.heap.size + 1) [(w.heap.size, 0, .int .u64 a0_0), (w.heap.size, 1, .int .u64 a0_1)], s.val.cell? ⟨w.heap.size, 1, none⟩ = some (.int .u64 a0_1) := fun s => s.kept.at (by simp)
        repeat (go_big_quiet_step (first | (go_at_call 18; exact calls_kept (by omega) (empty18 _ _ _))))
        refine wpQuiet_nil ?_
        rintro w1 ⟨⟨_, K_w1⟩, rfl⟩
        clear _ne rP0 rP1
        have hw_w1 := K_w1.below
        have hz_w1 := K_w1.size
        have lP_w1 : w.heap.size < w1.heap.size := by omega
        have cP0_w1 := K_w1.at (b := w.heap.size) (o := 0) (v := .int .u64 a0_0) (by simp)
        have fP0_w1 := K_w1.free (b := w.heap.size) (o := 0) (v := .int .u64 a0_0) (by simp)
        have cP1_w1 := K_w1.at (b := w.heap.size) (o := 1) (v := .int .u64 a0_1) (by simp)
        have fP1_w1 := K_w1.free (b := w.heap.size) (o := 1) (v := .int .u64 a0_1) (by simp)
        clear K_w1
        go_wp2_with fail
        with_reducible refine (valid10 _ _ _).mono ?_
        rintro e w2 ⟨rfl, hb_w2⟩
        have K_w2 : Kept w.heap.size w (w.heap.size + 1) [(w.heap.size, 0, .int .u64 a0_0), (w.heap.size, 1, .int .u64 a0_1)] w2 := Kept.of hb_w2 (by go_grown) (by go_size) (by omega) (by simp [go_sem, lP_w1, cP0_w1, fP0_w1, cP1_w1, fP1_w1] <;> omega)
        clear hb_w2
        have hw_w2 := K_w2.below
        have hz_w2 := K_w2.size
        have lP_w2 : w.heap.size < w2.heap.size := by omega
        have cP0_w2 := K_w2.at (b := w.heap.size) (o := 0) (v := .int .u64 a0_0) (by simp)
        have fP0_w2 := K_w2.free (b := w.heap.size) (o := 0) (v := .int .u64 a0_0) (by simp)
        have cP1_w2 := K_w2.at (b := w.heap.size) (o := 1) (v := .int .u64 a0_1) (by simp)
        have fP1_w2 := K_w2.free (b := w.heap.size) (o := 1) (v := .int .u64 a0_1) (by simp)
        clear lP_w1 cP0_w1 fP0_w1 cP1_w1 fP1_w1
        clear K_w2
        go_wp2_with fail
        with_reducible refine (until19 _ _ _ _ _ u0 u1 h rfl rfl).mono ?_
        rintro e w3 ⟨rfl, hb_w3⟩
        have K_w3 : Kept w.heap.size w (w.heap.size + 1) [(w.heap.size, 0, .int .u64 a0_0), (w.heap.size, 1, .int .u64 a0_1)] w3 := Kept.of hb_w3 (by go_grown) (by go_size) (by omega) (by simp [go_sem, lP_w2, cP0_w2, fP0_w2, cP1_w2, fP1_w2] <;> omega)
        clear hb_w3
        have hw_w3 := K_w3.below
        have hz_w3 := K_w3.size
        have lP_w3 : w.heap.size < w3.heap.size := by omega
        have cP0_w3 := K_w3.at (b := w.heap.size) (o := 0) (v := .int .u64 a0_0) (by simp)
        have fP0_w3 := K_w3.free (b := w.heap.size) (o := 0) (v := .int .u64 a0_0) (by simp)
        have cP1_w3 := K_w3.at (b := w.heap.size) (o := 1) (v := .int .u64 a0_1) (by simp)
        have fP1_w3 := K_w3.free (b := w.heap.size) (o := 1) (v := .int .u64 a0_1) (by simp)
        clear lP_w2 cP0_w2 fP0_w2 cP1_w2 fP1_w2
        clear K_w3
        go_wp2_with fail
        with_reducible refine (known12 _).mono ?_
        rintro e w4 ⟨rfl, hb_w4⟩
        have K_w4 : Kept w.heap.size w (w.heap.size + 1) [(w.heap.size, 0, .int .u64 a0_0), (w.heap.size, 1, .int .u64 a0_1)] w4 := Kept.of hb_w4 (by go_grown) (by go_size) (by omega) (by simp [go_sem, lP_w3, cP0_w3, fP0_w3, cP1_w3, fP1_w3] <;> omega)
        clear hb_w4
        have hw_w4 := K_w4.below
        have hz_w4 := K_w4.size
        have lP_w4 : w.heap.size < w4.heap.size := by omega
        have cP0_w4 := K_w4.at (b := w.heap.size) (o := 0) (v := .int .u64 a0_0) (by simp)
        have fP0_w4 := K_w4.free (b := w.heap.size) (o := 0) (v := .int .u64 a0_0) (by simp)
        have cP1_w4 := K_w4.at (b := w.heap.size) (o := 1) (v := .int .u64 a0_1) (by simp)
        have fP1_w4 := K_w4.free (b := w.heap.size) (o := 1) (v := .int .u64 a0_1) (by simp)
        clear lP_w3 cP0_w3 fP0_w3 cP1_w3 fP1_w3
        clear K_w4
        go_wp2_with fail
        go_returns
        exact ⟨rfl, by go_grown⟩
      · have e1 : (a0_1 == 0) = true := by simpa using z1
        clear z0 z1
        go_enter Try.func5, Try.ntmps5
        go_wp2_with fail
        refine wp_region_kept (w := w) (B := w.heap.size) (n := w.heap.size + 1) (L := [(w.heap.size, 0, .int .u64 a0_0), (w.heap.size, 1, .int .u64 a0_1)]) ⟨by go_grown, by go_size, (by simp [go_sem] <;> omega)⟩ (by kernel_rfl) (by kernel_rfl) (fun _ne => ?_)
        have rP0 : ∀ s : KW w.heap.size w (w.heap.size + 1) [(w.heap.size, 0, .int .u64 a0_0), (w.heap.size, 1, .int .u64 a0_1)], s.val.cell? ⟨w.heap.size, 0, none⟩ = some (.int .u64 a0_0) := fun s => s.kept.at (by simp)
        have rP1 : ∀ s : KW w.heap.size w (w.heap.size + 1) [(w.heap.size, 0, .int .u64 a0_0), (w.heap.size, 1, .int .u64 a0_1)], s.val.cell? ⟨w.heap.size, 1, none⟩ = some (.int .u64 a0_1) := fun s => s.kept.at (by simp)
        repeat (go_big_quiet_step (first | (go_at_call 18; exact calls_kept (by omega) (empty18 _ _ _))))
        refine wpQuiet_nil ?_
        rintro w1 ⟨⟨_, K_w1⟩, rfl⟩
        clear _ne rP0 rP1
        have hw_w1 := K_w1.below
        have hz_w1 := K_w1.size
        have lP_w1 : w.heap.size < w1.heap.size := by omega
        have cP0_w1 := K_w1.at (b := w.heap.size) (o := 0) (v := .int .u64 a0_0) (by simp)
        have fP0_w1 := K_w1.free (b := w.heap.size) (o := 0) (v := .int .u64 a0_0) (by simp)
        have cP1_w1 := K_w1.at (b := w.heap.size) (o := 1) (v := .int .u64 a0_1) (by simp)
        have fP1_w1 := K_w1.free (b := w.heap.size) (o := 1) (v := .int .u64 a0_1) (by simp)
        clear K_w1
        go_wp2_with fail
        with_reducible refine (valid10 _ _ _).mono ?_
        rintro e w2 ⟨rfl, hb_w2⟩
        have K_w2 : Kept w.heap.size w (w.heap.size + 1) [(w.heap.size, 0, .int .u64 a0_0), (w.heap.size, 1, .int .u64 a0_1)] w2 := Kept.of hb_w2 (by go_grown) (by go_size) (by omega) (by simp [go_sem, lP_w1, cP0_w1, fP0_w1, cP1_w1, fP1_w1] <;> omega)
        clear hb_w2
        have hw_w2 := K_w2.below
        have hz_w2 := K_w2.size
        have lP_w2 : w.heap.size < w2.heap.size := by omega
        have cP0_w2 := K_w2.at (b := w.heap.size) (o := 0) (v := .int .u64 a0_0) (by simp)
        have fP0_w2 := K_w2.free (b := w.heap.size) (o := 0) (v := .int .u64 a0_0) (by simp)
        have cP1_w2 := K_w2.at (b := w.heap.size) (o := 1) (v := .int .u64 a0_1) (by simp)
        have fP1_w2 := K_w2.free (b := w.heap.size) (o := 1) (v := .int .u64 a0_1) (by simp)
        clear lP_w1 cP0_w1 fP0_w1 cP1_w1 fP1_w1
        clear K_w2
        go_wp2_with fail
        with_reducible refine (until19 _ _ _ _ _ u0 u1 h rfl rfl).mono ?_
        rintro e w3 ⟨rfl, hb_w3⟩
        have K_w3 : Kept w.heap.size w (w.heap.size + 1) [(w.heap.size, 0, .int .u64 a0_0), (w.heap.size, 1, .int .u64 a0_1)] w3 := Kept.of hb_w3 (by go_grown) (by go_size) (by omega) (by simp [go_sem, lP_w2, cP0_w2, fP0_w2, cP1_w2, fP1_w2] <;> omega)
        clear hb_w3
        have hw_w3 := K_w3.below
        have hz_w3 := K_w3.size
        have lP_w3 : w.heap.size < w3.heap.size := by omega
        have cP0_w3 := K_w3.at (b := w.heap.size) (o := 0) (v := .int .u64 a0_0) (by simp)
        have fP0_w3 := K_w3.free (b := w.heap.size) (o := 0) (v := .int .u64 a0_0) (by simp)
        have cP1_w3 := K_w3.at (b := w.heap.size) (o := 1) (v := .int .u64 a0_1) (by simp)
        have fP1_w3 := K_w3.free (b := w.heap.size) (o := 1) (v := .int .u64 a0_1) (by simp)
        clear lP_w2 cP0_w2 fP0_w2 cP1_w2 fP1_w2
        clear K_w3
        go_wp2_with fail
        with_reducible refine (known12 _).mono ?_
        rintro e w4 ⟨rfl, hb_w4⟩
        have K_w4 : Kept w.heap.size w (w.heap.size + 1) [(w.heap.size, 0, .int .u64 a0_0), (w.heap.size, 1, .int .u64 a0_1)] w4 := Kept.of hb_w4 (by go_grown) (by go_size) (by omega) (by simp [go_sem, lP_w3, cP0_w3, fP0_w3, cP1_w3, fP1_w3] <;> omega)
        clear hb_w4
        have hw_w4 := K_w4.below
        have hz_w4 := K_w4.size
        have lP_w4 : w.heap.size < w4.heap.size := by omega
        have cP0_w4 := K_w4.at (b := w.heap.size) (o := 0) (v := .int .u64 a0_0) (by simp)
        have fP0_w4 := K_w4.free (b := w.heap.size) (o := 0) (v := .int .u64 a0_0) (by simp)
        have cP1_w4 := K_w4.at (b := w.heap.size) (o := 1) (v := .int .u64 a0_1) (by simp)
        have fP1_w4 := K_w4.free (b := w.heap.size) (o := 1) (v := .int .u64 a0_1) (by simp)
        clear lP_w3 cP0_w3 fP0_w3 cP1_w3 fP1_w3
        clear K_w4
        go_wp2_with fail
        go_returns
        exact ⟨rfl, by go_grown⟩

set_option maxRecDepth 100000 in
theorem lifted (os : Os) (started : os.Started) (H : Type) (enc : TypeId × Value → H) :
    ReturnsInHanded {} Try.checked os 5 .any (Rows.ropeUntilsSpec.pre6 enc Try.prog Try.f5 Rows.ropeUntilsRow.domain false) (Rows.ropeUntilsSpec.post enc Try.prog Try.f5 false true false false) := by
  refine returnsInHanded_of_change (C := Try.checked) own started (by kernel_rfl) Try.func5
    (ChangeSpec.witness6 (enc := enc) (C := Try.checked) false ⟨#[], #[.agg #[.int .u64 0, .int .u64 0]], []⟩ 8 (by kernel_rfl) (by kernel_rfl) (by kernel_rfl) (by kernel_rfl)) ?_
  intro W base args ds gs before hval0 hW hcnd _
  have hval : ∀ (j : Nat) t v, Try.f5.params[j]? = some t → args[j]? = some v → Value.okWide Try.prog W .any base t v := hval0
  have hW' := hW
  obtain ⟨p, q, hA0, hV, rfl, hfz, hnd⟩ := hW
  have hA : DataW.TrodAll enc Try.prog W 0 (fun _ => true) true Try.f5.params.toList args.toList ds p := hA0
  rw [Try.params5] at hA hval
  obtain ⟨v0, vs0, d0, ds0, p0, q0, hargs, rfl, rfl, h0, r0⟩ := trodAll_cons hA
  obtain ⟨rfl, rfl, rfl⟩ := trodAll_nil r0
  obtain rfl : args = #[v0] := by cases args; simp_all
  obtain ⟨rfl, rfl⟩ := trodVars_none hV
  have k0 := h0
  have lt0 : ∀ x ∈ p0, x.block < W.heap.size := by obtain ⟨m, hm⟩ := k0; exact DataW.trod_lt m _ _ _ hm
  obtain ⟨c0_0, c0_1, y0_0, y0_1, m0, rfl, rfl, rfl, hy0_0, hy0_1⟩ := Joins.open_agg2 Try.underlying25 (by kernel_rfl) (by kernel_rfl) (hval 0 25 v0 rfl rfl) h0
  obtain ⟨a0_0, e0_0, rfl, w0_0⟩ := DataW.trod_int Try.underlying23 hy0_0
  simp at e0_0
  subst e0_0
  obtain ⟨a0_1, e0_1, rfl, w0_1⟩ := DataW.trod_int Try.underlying23 hy0_1
  simp at e0_1
  subst e0_1
  clear hA0 hval0
  refine (walk a0_0 a0_1 W w0_0 w0_1).mono fun e W' ⟨he, bel⟩ => ?_
  subst he
  exact ⟨_, rfl, _, _, _, [], _, [], hW', trodAll_mk1 (shut_bool Try.underlying4 _), (trodAll_cons_mk (Below.trod laidOut (by kernel_rfl) (of_decide_eq_true (by kernel_rfl)) k0 bel lt0) trodAll_mk0), rfl, bel.frame _, fun h => by cases h⟩

theorem over : Rows.ropeUntilsRow.holds Try.pinned (OpenSpec.ofChange Rows.ropeUntilsSpec) :=
  OpenClaim.holds_of_wide 5 Try.f5 rfl rfl rfl rfl rfl rfl rfl ⟨rfl, rfl, rfl, rfl, rfl⟩ rfl rfl rfl rfl rfl (by kernel_rfl) Try.func5 (by kernel_rfl)
    (of_decide_eq_true (by kernel_rfl)) (by unfold Func.isWrapper; first | (rw [if_pos (by decide +kernel)]; kernel_rfl) | (rw [if_neg (by decide +kernel)]; exact ⟨rfl, rfl⟩))
    (fun os started H enc _ => lifted os started H enc)

/-- THE STATEMENT -/
theorem proved : Rows.RopeUntilsSaid := over
end Go.Proofs.Ytkjakcoejnhojaa.ropeUntils
