/-
  PROVED: the law LobbyNone returns true for every input, and its arguments read afterwards as they read before (Rows.LobbyNoneSaid). CONDITIONS: none.
-/
import Derived.Test.YtonaidjdkejoeaaRows
import Derived.Test.YtonaidjdkejoeaaKn
import Derived.WalkKit
import Derived.ProofKit
import Derived.OpenShut
import Derived.Lib.SmallJoins
import Derived.Carry
namespace Go.Proofs.Ytonaidjdkejoeaa.lobbyNone
open Go.ChangeShapes Go.WideShapes Go.ChangeAt Go.RowKit Go.WideMaps Go.WideElems
set_option linter.unusedVariables false
set_option linter.unusedSimpArgs false

theorem own : ownKnob Try.prog.godebug = none := by kernel_rfl
theorem laidOut : laidOutB Try.prog = true := by kernel_rfl
open Plain

set_option maxRecDepth 100000 in
set_option maxHeartbeats 4000000 in
theorem walk (a0_0 : Int) (a0_1 : Int) (a0_2 : Int) (a0_3 : Int) (w : World) (w0_0 : (Lit.int .i64 a0_0).wf = true) (w0_1 : (Lit.int .i64 a0_1).wf = true) (w0_2 : (Lit.int .i64 a0_2).wf = true) (w0_3 : (Lit.int .u64 a0_3).wf = true) :
    Calls Try.prog 7 #[.agg #[.int .i64 a0_0, .int .i64 a0_1, .int .i64 a0_2, .int .u64 a0_3]] w fun e w' => e = .returned (.bool true) ∧ Below w.heap.size w w' := by
  clear w0_0 w0_1 w0_2 w0_3
  go_enter Try.func7, Try.ntmps7
  go_wp2_with fail
  refine wp_loop_rounds 3 ?_
  rw [rounds_succ]
  go_wp2_with fail
  with_reducible refine (enter_none a0_3 a0_1 a0_2 (.pointer none) _ (none_nil _)).mono ?_
  rintro e w1 ⟨rfl, hb_w1⟩
  have K_w1 : Kept w.heap.size w (w.heap.size + 3) [(w.heap.size, 0, .int .i64 a0_0), (w.heap.size, 1, .int .i64 a0_1), (w.heap.size, 2, .int .i64 a0_2), (w.heap.size, 3, .int .u64 a0_3), (w.heap.size + 1, 0, .int .i64 0), (w.heap.size + 1, 1, .int .i64 0), (w.heap.size + 1, 2, .int .u64 0), (w.heap.size + 1, 3, .int .u64 0), (w.heap.size + 1, 4, .slice none 0 0), (w.heap.size + 2, 0, .pointer none), (w.heap.size + 2, 1, .pointer (some ⟨w.heap.size + 1, 0, none⟩))] w1 := Kept.of hb_w1 (by go_grown) (by go_size) (by omega) (by simp [go_sem] <;> omega)
  clear hb_w1
  have KH_w1 := Lib.hid K_w1
  have hw_w1 := K_w1.below
  have hz_w1 := K_w1.size
  have lA_w1 : w.heap.size < w1.heap.size := by omega
  have lZ_w1 : w.heap.size + 1 < w1.heap.size := by omega
  have lS_w1 : w.heap.size + 2 < w1.heap.size := by omega
  clear K_w1
  have cA0_w1 := KH_w1.out.at (b := w.heap.size) (o := 0) (v := .int .i64 a0_0) (by simp)
  have fA0_w1 := KH_w1.out.free (b := w.heap.size) (o := 0) (v := .int .i64 a0_0) (by simp)
  have cA1_w1 := KH_w1.out.at (b := w.heap.size) (o := 1) (v := .int .i64 a0_1) (by simp)
  have fA1_w1 := KH_w1.out.free (b := w.heap.size) (o := 1) (v := .int .i64 a0_1) (by simp)
  have cA2_w1 := KH_w1.out.at (b := w.heap.size) (o := 2) (v := .int .i64 a0_2) (by simp)
  have fA2_w1 := KH_w1.out.free (b := w.heap.size) (o := 2) (v := .int .i64 a0_2) (by simp)
  have cA3_w1 := KH_w1.out.at (b := w.heap.size) (o := 3) (v := .int .u64 a0_3) (by simp)
  have fA3_w1 := KH_w1.out.free (b := w.heap.size) (o := 3) (v := .int .u64 a0_3) (by simp)
  go_wp2_with fail
  with_reducible refine (leave_none a0_1 (.pointer none) _ (none_nil _)).mono ?_
  rintro e w2 ⟨rfl, hb_w2⟩
  have K_w2 := (KH_w1.out.step (by omega) (by go_grown)).step (by omega) hb_w2
  clear hb_w2
  have KH_w2 := Lib.hid K_w2
  have hw_w2 := K_w2.below
  have hz_w2 := K_w2.size
  have lA_w2 : w.heap.size < w2.heap.size := by omega
  have lZ_w2 : w.heap.size + 1 < w2.heap.size := by omega
  have lS_w2 : w.heap.size + 2 < w2.heap.size := by omega
  clear lA_w1 lZ_w1 lS_w1 cA0_w1 fA0_w1 cA1_w1 fA1_w1 cA2_w1 fA2_w1 cA3_w1 fA3_w1
  clear K_w2
  have cA0_w2 := KH_w2.out.at (b := w.heap.size) (o := 0) (v := .int .i64 a0_0) (by simp)
  have fA0_w2 := KH_w2.out.free (b := w.heap.size) (o := 0) (v := .int .i64 a0_0) (by simp)
  have cA1_w2 := KH_w2.out.at (b := w.heap.size) (o := 1) (v := .int .i64 a0_1) (by simp)
  have fA1_w2 := KH_w2.out.free (b := w.heap.size) (o := 1) (v := .int .i64 a0_1) (by simp)
  have cA2_w2 := KH_w2.out.at (b := w.heap.size) (o := 2) (v := .int .i64 a0_2) (by simp)
  have fA2_w2 := KH_w2.out.free (b := w.heap.size) (o := 2) (v := .int .i64 a0_2) (by simp)
  have cA3_w2 := KH_w2.out.at (b := w.heap.size) (o := 3) (v := .int .u64 a0_3) (by simp)
  have fA3_w2 := KH_w2.out.free (b := w.heap.size) (o := 3) (v := .int .u64 a0_3) (by simp)
  go_wp2_with fail
  with_reducible refine (matches19_none (.pointer none) a0_3 _ (none_nil _)).mono ?_
  rintro e w3 ⟨rfl, hb_w3⟩
  have K_w3 := (KH_w2.out.step (by omega) (by go_grown)).step (by omega) hb_w3
  clear hb_w3
  have KH_w3 := Lib.hid K_w3
  have hw_w3 := K_w3.below
  have hz_w3 := K_w3.size
  have lA_w3 : w.heap.size < w3.heap.size := by omega
  have lZ_w3 : w.heap.size + 1 < w3.heap.size := by omega
  have lS_w3 : w.heap.size + 2 < w3.heap.size := by omega
  clear lA_w2 lZ_w2 lS_w2 cA0_w2 fA0_w2 cA1_w2 fA1_w2 cA2_w2 fA2_w2 cA3_w2 fA3_w2
  clear K_w3
  have cA0_w3 := KH_w3.out.at (b := w.heap.size) (o := 0) (v := .int .i64 a0_0) (by simp)
  have fA0_w3 := KH_w3.out.free (b := w.heap.size) (o := 0) (v := .int .i64 a0_0) (by simp)
  have cA1_w3 := KH_w3.out.at (b := w.heap.size) (o := 1) (v := .int .i64 a0_1) (by simp)
  have fA1_w3 := KH_w3.out.free (b := w.heap.size) (o := 1) (v := .int .i64 a0_1) (by simp)
  have cA2_w3 := KH_w3.out.at (b := w.heap.size) (o := 2) (v := .int .i64 a0_2) (by simp)
  have fA2_w3 := KH_w3.out.free (b := w.heap.size) (o := 2) (v := .int .i64 a0_2) (by simp)
  have cA3_w3 := KH_w3.out.at (b := w.heap.size) (o := 3) (v := .int .u64 a0_3) (by simp)
  have fA3_w3 := KH_w3.out.free (b := w.heap.size) (o := 3) (v := .int .u64 a0_3) (by simp)
  go_wp2_with fail
  with_reducible refine (windows20_none (.pointer none) a0_1 _ (none_nil _)).mono ?_
  rintro e w4 ⟨rfl, hb_w4⟩
  have K_w4 := (KH_w3.out.step (by omega) (by go_grown)).step (by omega) hb_w4
  clear hb_w4
  have KH_w4 := Lib.hid K_w4
  have hw_w4 := K_w4.below
  have hz_w4 := K_w4.size
  have lA_w4 : w.heap.size < w4.heap.size := by omega
  have lZ_w4 : w.heap.size + 1 < w4.heap.size := by omega
  have lS_w4 : w.heap.size + 2 < w4.heap.size := by omega
  clear lA_w3 lZ_w3 lS_w3 cA0_w3 fA0_w3 cA1_w3 fA1_w3 cA2_w3 fA2_w3 cA3_w3 fA3_w3
  clear K_w4
  have cA0_w4 := KH_w4.out.at (b := w.heap.size) (o := 0) (v := .int .i64 a0_0) (by simp)
  have fA0_w4 := KH_w4.out.free (b := w.heap.size) (o := 0) (v := .int .i64 a0_0) (by simp)
  have cA1_w4 := KH_w4.out.at (b := w.heap.size) (o := 1) (v := .int .i64 a0_1) (by simp)
  have fA1_w4 := KH_w4.out.free (b := w.heap.size) (o := 1) (v := .int .i64 a0_1) (by simp)
  have cA2_w4 := KH_w4.out.at (b := w.heap.size) (o := 2) (v := .int .i64 a0_2) (by simp)
  have fA2_w4 := KH_w4.out.free (b := w.heap.size) (o := 2) (v := .int .i64 a0_2) (by simp)
  have cA3_w4 := KH_w4.out.at (b := w.heap.size) (o := 3) (v := .int .u64 a0_3) (by simp)
  have fA3_w4 := KH_w4.out.free (b := w.heap.size) (o := 3) (v := .int .u64 a0_3) (by simp)
  go_wp2_with fail
  with_reducible refine (waiting_none  (.pointer none) _ (none_nil _)).mono ?_
  rintro e w5 ⟨rfl, hb_w5⟩
  have K_w5 := (KH_w4.out.step (by omega) (by go_grown)).step (by omega) hb_w5
  clear hb_w5
  have KH_w5 := Lib.hid K_w5
  have hw_w5 := K_w5.below
  have hz_w5 := K_w5.size
  have lA_w5 : w.heap.size < w5.heap.size := by omega
  have lZ_w5 : w.heap.size + 1 < w5.heap.size := by omega
  have lS_w5 : w.heap.size + 2 < w5.heap.size := by omega
  clear lA_w4 lZ_w4 lS_w4 cA0_w4 fA0_w4 cA1_w4 fA1_w4 cA2_w4 fA2_w4 cA3_w4 fA3_w4
  clear K_w5
  have cA0_w5 := KH_w5.out.at (b := w.heap.size) (o := 0) (v := .int .i64 a0_0) (by simp)
  have fA0_w5 := KH_w5.out.free (b := w.heap.size) (o := 0) (v := .int .i64 a0_0) (by simp)
  have cA1_w5 := KH_w5.out.at (b := w.heap.size) (o := 1) (v := .int .i64 a0_1) (by simp)
  have fA1_w5 := KH_w5.out.free (b := w.heap.size) (o := 1) (v := .int .i64 a0_1) (by simp)
  have cA2_w5 := KH_w5.out.at (b := w.heap.size) (o := 2) (v := .int .i64 a0_2) (by simp)
  have fA2_w5 := KH_w5.out.free (b := w.heap.size) (o := 2) (v := .int .i64 a0_2) (by simp)
  have cA3_w5 := KH_w5.out.at (b := w.heap.size) (o := 3) (v := .int .u64 a0_3) (by simp)
  have fA3_w5 := KH_w5.out.free (b := w.heap.size) (o := 3) (v := .int .u64 a0_3) (by simp)
  go_wp2_with fail
  with_reducible refine (now_none  (.pointer none) _ (none_nil _)).mono ?_
  rintro e w6 ⟨rfl, hb_w6⟩
  have K_w6 := (KH_w5.out.step (by omega) (by go_grown)).step (by omega) hb_w6
  clear hb_w6
  have KH_w6 := Lib.hid K_w6
  have hw_w6 := K_w6.below
  have hz_w6 := K_w6.size
  have lA_w6 : w.heap.size < w6.heap.size := by omega
  have lZ_w6 : w.heap.size + 1 < w6.heap.size := by omega
  have lS_w6 : w.heap.size + 2 < w6.heap.size := by omega
  clear lA_w5 lZ_w5 lS_w5 cA0_w5 fA0_w5 cA1_w5 fA1_w5 cA2_w5 fA2_w5 cA3_w5 fA3_w5
  clear K_w6
  have cA0_w6 := KH_w6.out.at (b := w.heap.size) (o := 0) (v := .int .i64 a0_0) (by simp)
  have fA0_w6 := KH_w6.out.free (b := w.heap.size) (o := 0) (v := .int .i64 a0_0) (by simp)
  have cA1_w6 := KH_w6.out.at (b := w.heap.size) (o := 1) (v := .int .i64 a0_1) (by simp)
  have fA1_w6 := KH_w6.out.free (b := w.heap.size) (o := 1) (v := .int .i64 a0_1) (by simp)
  have cA2_w6 := KH_w6.out.at (b := w.heap.size) (o := 2) (v := .int .i64 a0_2) (by simp)
  have fA2_w6 := KH_w6.out.free (b := w.heap.size) (o := 2) (v := .int .i64 a0_2) (by simp)
  have cA3_w6 := KH_w6.out.at (b := w.heap.size) (o := 3) (v := .int .u64 a0_3) (by simp)
  have fA3_w6 := KH_w6.out.free (b := w.heap.size) (o := 3) (v := .int .u64 a0_3) (by simp)
  go_wp2_with fail
  with_reducible refine (copy_none  (.pointer none) _ (none_nil _)).mono ?_
  rintro e w7 ⟨rfl, hb_w7⟩
  have K_w7 := (KH_w6.out.step (by omega) (by go_grown)).step (by omega) hb_w7
  clear hb_w7
  have KH_w7 := Lib.hid K_w7
  have hw_w7 := K_w7.below
  have hz_w7 := K_w7.size
  have lA_w7 : w.heap.size < w7.heap.size := by omega
  have lZ_w7 : w.heap.size + 1 < w7.heap.size := by omega
  have lS_w7 : w.heap.size + 2 < w7.heap.size := by omega
  clear lA_w6 lZ_w6 lS_w6 cA0_w6 fA0_w6 cA1_w6 fA1_w6 cA2_w6 fA2_w6 cA3_w6 fA3_w6
  clear K_w7
  have cA0_w7 := KH_w7.out.at (b := w.heap.size) (o := 0) (v := .int .i64 a0_0) (by simp)
  have fA0_w7 := KH_w7.out.free (b := w.heap.size) (o := 0) (v := .int .i64 a0_0) (by simp)
  have cA1_w7 := KH_w7.out.at (b := w.heap.size) (o := 1) (v := .int .i64 a0_1) (by simp)
  have fA1_w7 := KH_w7.out.free (b := w.heap.size) (o := 1) (v := .int .i64 a0_1) (by simp)
  have cA2_w7 := KH_w7.out.at (b := w.heap.size) (o := 2) (v := .int .i64 a0_2) (by simp)
  have fA2_w7 := KH_w7.out.free (b := w.heap.size) (o := 2) (v := .int .i64 a0_2) (by simp)
  have cA3_w7 := KH_w7.out.at (b := w.heap.size) (o := 3) (v := .int .u64 a0_3) (by simp)
  have fA3_w7 := KH_w7.out.free (b := w.heap.size) (o := 3) (v := .int .u64 a0_3) (by simp)
  have cS0_w7 := KH_w7.out.at (b := w.heap.size + 2) (o := 0) (v := .pointer none) (by simp)
  have fS0_w7 := KH_w7.out.free (b := w.heap.size + 2) (o := 0) (v := .pointer none) (by simp)
  have cS1_w7 := KH_w7.out.at (b := w.heap.size + 2) (o := 1) (v := .pointer (some ⟨w.heap.size + 1, 0, none⟩)) (by simp)
  have fS1_w7 := KH_w7.out.free (b := w.heap.size + 2) (o := 1) (v := .pointer (some ⟨w.heap.size + 1, 0, none⟩)) (by simp)
  go_wp2_with fail
  rw [rounds_succ]
  go_wp2_with fail
  with_reducible refine (enter_none a0_3 a0_1 a0_2 (.pointer (some ⟨w.heap.size + 1, 0, none⟩)) _ (none_zero _ _ (KH_w7.out.at (b := w.heap.size + 1) (o := 2) (v := .int .u64 0) (by simp)))).mono ?_
  rintro e w8 ⟨rfl, hb_w8⟩
  have K_w8 := (KH_w7.out.step (by omega) (by go_grown)).step (by omega) hb_w8
  clear hb_w8
  have KH_w8 := Lib.hid K_w8
  have hw_w8 := K_w8.below
  have hz_w8 := K_w8.size
  have lA_w8 : w.heap.size < w8.heap.size := by omega
  have lZ_w8 : w.heap.size + 1 < w8.heap.size := by omega
  have lS_w8 : w.heap.size + 2 < w8.heap.size := by omega
  clear lA_w7 lZ_w7 lS_w7 cA0_w7 fA0_w7 cA1_w7 fA1_w7 cA2_w7 fA2_w7 cA3_w7 fA3_w7 cS0_w7 fS0_w7 cS1_w7 fS1_w7
  clear K_w8
  have cA0_w8 := KH_w8.out.at (b := w.heap.size) (o := 0) (v := .int .i64 a0_0) (by simp)
  have fA0_w8 := KH_w8.out.free (b := w.heap.size) (o := 0) (v := .int .i64 a0_0) (by simp)
  have cA1_w8 := KH_w8.out.at (b := w.heap.size) (o := 1) (v := .int .i64 a0_1) (by simp)
  have fA1_w8 := KH_w8.out.free (b := w.heap.size) (o := 1) (v := .int .i64 a0_1) (by simp)
  have cA2_w8 := KH_w8.out.at (b := w.heap.size) (o := 2) (v := .int .i64 a0_2) (by simp)
  have fA2_w8 := KH_w8.out.free (b := w.heap.size) (o := 2) (v := .int .i64 a0_2) (by simp)
  have cA3_w8 := KH_w8.out.at (b := w.heap.size) (o := 3) (v := .int .u64 a0_3) (by simp)
  have fA3_w8 := KH_w8.out.free (b := w.heap.size) (o := 3) (v := .int .u64 a0_3) (by simp)
  go_wp2_with fail
  with_reducible refine (leave_none a0_1 (.pointer (some ⟨w.heap.size + 1, 0, none⟩)) _ (none_zero _ _ (KH_w8.out.at (b := w.heap.size + 1) (o := 2) (v := .int .u64 0) (by simp)))).mono ?_
  rintro e w9 ⟨rfl, hb_w9⟩
  have K_w9 := (KH_w8.out.step (by omega) (by go_grown)).step (by omega) hb_w9
  clear hb_w9
  have KH_w9 := Lib.hid K_w9
  have hw_w9 := K_w9.below
  have hz_w9 := K_w9.size
  have lA_w9 : w.heap.size < w9.heap.size := by omega
  have lZ_w9 : w.heap.size + 1 < w9.heap.size := by omega
  have lS_w9 : w.heap.size + 2 < w9.heap.size := by omega
  clear lA_w8 lZ_w8 lS_w8 cA0_w8 fA0_w8 cA1_w8 fA1_w8 cA2_w8 fA2_w8 cA3_w8 fA3_w8
  clear K_w9
  have cA0_w9 := KH_w9.out.at (b := w.heap.size) (o := 0) (v := .int .i64 a0_0) (by simp)
  have fA0_w9 := KH_w9.out.free (b := w.heap.size) (o := 0) (v := .int .i64 a0_0) (by simp)
  have cA1_w9 := KH_w9.out.at (b := w.heap.size) (o := 1) (v := .int .i64 a0_1) (by simp)
  have fA1_w9 := KH_w9.out.free (b := w.heap.size) (o := 1) (v := .int .i64 a0_1) (by simp)
  have cA2_w9 := KH_w9.out.at (b := w.heap.size) (o := 2) (v := .int .i64 a0_2) (by simp)
  have fA2_w9 := KH_w9.out.free (b := w.heap.size) (o := 2) (v := .int .i64 a0_2) (by simp)
  have cA3_w9 := KH_w9.out.at (b := w.heap.size) (o := 3) (v := .int .u64 a0_3) (by simp)
  have fA3_w9 := KH_w9.out.free (b := w.heap.size) (o := 3) (v := .int .u64 a0_3) (by simp)
  go_wp2_with fail
  with_reducible refine (matches19_none (.pointer (some ⟨w.heap.size + 1, 0, none⟩)) a0_3 _ (none_zero _ _ (KH_w9.out.at (b := w.heap.size + 1) (o := 2) (v := .int .u64 0) (by simp)))).mono ?_
  rintro e w10 ⟨rfl, hb_w10⟩
  have K_w10 := (KH_w9.out.step (by omega) (by go_grown)).step (by omega) hb_w10
  clear hb_w10
  have KH_w10 := Lib.hid K_w10
  have hw_w10 := K_w10.below
  have hz_w10 := K_w10.size
  have lA_w10 : w.heap.size < w10.heap.size := by omega
  have lZ_w10 : w.heap.size + 1 < w10.heap.size := by omega
  have lS_w10 : w.heap.size + 2 < w10.heap.size := by omega
  clear lA_w9 lZ_w9 lS_w9 cA0_w9 fA0_w9 cA1_w9 fA1_w9 cA2_w9 fA2_w9 cA3_w9 fA3_w9
  clear K_w10
  have cA0_w10 := KH_w10.out.at (b := w.heap.size) (o := 0) (v := .int .i64 a0_0) (by simp)
  have fA0_w10 := KH_w10.out.free (b := w.heap.size) (o := 0) (v := .int .i64 a0_0) (by simp)
  have cA1_w10 := KH_w10.out.at (b := w.heap.size) (o := 1) (v := .int .i64 a0_1) (by simp)
  have fA1_w10 := KH_w10.out.free (b := w.heap.size) (o := 1) (v := .int .i64 a0_1) (by simp)
  have cA2_w10 := KH_w10.out.at (b := w.heap.size) (o := 2) (v := .int .i64 a0_2) (by simp)
  have fA2_w10 := KH_w10.out.free (b := w.heap.size) (o := 2) (v := .int .i64 a0_2) (by simp)
  have cA3_w10 := KH_w10.out.at (b := w.heap.size) (o := 3) (v := .int .u64 a0_3) (by simp)
  have fA3_w10 := KH_w10.out.free (b := w.heap.size) (o := 3) (v := .int .u64 a0_3) (by simp)
  go_wp2_with fail
  with_reducible refine (windows20_none (.pointer (some ⟨w.heap.size + 1, 0, none⟩)) a0_1 _ (none_zero _ _ (KH_w10.out.at (b := w.heap.size + 1) (o := 2) (v := .int .u64 0) (by simp)))).mono ?_
  rintro e w11 ⟨rfl, hb_w11⟩
  have K_w11 := (KH_w10.out.step (by omega) (by go_grown)).step (by omega) hb_w11
  clear hb_w11
  have KH_w11 := Lib.hid K_w11
  have hw_w11 := K_w11.below
  have hz_w11 := K_w11.size
  have lA_w11 : w.heap.size < w11.heap.size := by omega
  have lZ_w11 : w.heap.size + 1 < w11.heap.size := by omega
  have lS_w11 : w.heap.size + 2 < w11.heap.size := by omega
  clear lA_w10 lZ_w10 lS_w10 cA0_w10 fA0_w10 cA1_w10 fA1_w10 cA2_w10 fA2_w10 cA3_w10 fA3_w10
  clear K_w11
  have cA0_w11 := KH_w11.out.at (b := w.heap.size) (o := 0) (v := .int .i64 a0_0) (by simp)
  have fA0_w11 := KH_w11.out.free (b := w.heap.size) (o := 0) (v := .int .i64 a0_0) (by simp)
  have cA1_w11 := KH_w11.out.at (b := w.heap.size) (o := 1) (v := .int .i64 a0_1) (by simp)
  have fA1_w11 := KH_w11.out.free (b := w.heap.size) (o := 1) (v := .int .i64 a0_1) (by simp)
  have cA2_w11 := KH_w11.out.at (b := w.heap.size) (o := 2) (v := .int .i64 a0_2) (by simp)
  have fA2_w11 := KH_w11.out.free (b := w.heap.size) (o := 2) (v := .int .i64 a0_2) (by simp)
  have cA3_w11 := KH_w11.out.at (b := w.heap.size) (o := 3) (v := .int .u64 a0_3) (by simp)
  have fA3_w11 := KH_w11.out.free (b := w.heap.size) (o := 3) (v := .int .u64 a0_3) (by simp)
  go_wp2_with fail
  with_reducible refine (waiting_none  (.pointer (some ⟨w.heap.size + 1, 0, none⟩)) _ (none_zero _ _ (KH_w11.out.at (b := w.heap.size + 1) (o := 2) (v := .int .u64 0) (by simp)))).mono ?_
  rintro e w12 ⟨rfl, hb_w12⟩
  have K_w12 := (KH_w11.out.step (by omega) (by go_grown)).step (by omega) hb_w12
  clear hb_w12
  have KH_w12 := Lib.hid K_w12
  have hw_w12 := K_w12.below
  have hz_w12 := K_w12.size
  have lA_w12 : w.heap.size < w12.heap.size := by omega
  have lZ_w12 : w.heap.size + 1 < w12.heap.size := by omega
  have lS_w12 : w.heap.size + 2 < w12.heap.size := by omega
  clear lA_w11 lZ_w11 lS_w11 cA0_w11 fA0_w11 cA1_w11 fA1_w11 cA2_w11 fA2_w11 cA3_w11 fA3_w11
  clear K_w12
  have cA0_w12 := KH_w12.out.at (b := w.heap.size) (o := 0) (v := .int .i64 a0_0) (by simp)
  have fA0_w12 := KH_w12.out.free (b := w.heap.size) (o := 0) (v := .int .i64 a0_0) (by simp)
  have cA1_w12 := KH_w12.out.at (b := w.heap.size) (o := 1) (v := .int .i64 a0_1) (by simp)
  have fA1_w12 := KH_w12.out.free (b := w.heap.size) (o := 1) (v := .int .i64 a0_1) (by simp)
  have cA2_w12 := KH_w12.out.at (b := w.heap.size) (o := 2) (v := .int .i64 a0_2) (by simp)
  have fA2_w12 := KH_w12.out.free (b := w.heap.size) (o := 2) (v := .int .i64 a0_2) (by simp)
  have cA3_w12 := KH_w12.out.at (b := w.heap.size) (o := 3) (v := .int .u64 a0_3) (by simp)
  have fA3_w12 := KH_w12.out.free (b := w.heap.size) (o := 3) (v := .int .u64 a0_3) (by simp)
  go_wp2_with fail
  with_reducible refine (now_none  (.pointer (some ⟨w.heap.size + 1, 0, none⟩)) _ (none_zero _ _ (KH_w12.out.at (b := w.heap.size + 1) (o := 2) (v := .int .u64 0) (by simp)))).mono ?_
  rintro e w13 ⟨rfl, hb_w13⟩
  have K_w13 := (KH_w12.out.step (by omega) (by go_grown)).step (by omega) hb_w13
  clear hb_w13
  have KH_w13 := Lib.hid K_w13
  have hw_w13 := K_w13.below
  have hz_w13 := K_w13.size
  have lA_w13 : w.heap.size < w13.heap.size := by omega
  have lZ_w13 : w.heap.size + 1 < w13.heap.size := by omega
  have lS_w13 : w.heap.size + 2 < w13.heap.size := by omega
  clear lA_w12 lZ_w12 lS_w12 cA0_w12 fA0_w12 cA1_w12 fA1_w12 cA2_w12 fA2_w12 cA3_w12 fA3_w12
  clear K_w13
  have cA0_w13 := KH_w13.out.at (b := w.heap.size) (o := 0) (v := .int .i64 a0_0) (by simp)
  have fA0_w13 := KH_w13.out.free (b := w.heap.size) (o := 0) (v := .int .i64 a0_0) (by simp)
  have cA1_w13 := KH_w13.out.at (b := w.heap.size) (o := 1) (v := .int .i64 a0_1) (by simp)
  have fA1_w13 := KH_w13.out.free (b := w.heap.size) (o := 1) (v := .int .i64 a0_1) (by simp)
  have cA2_w13 := KH_w13.out.at (b := w.heap.size) (o := 2) (v := .int .i64 a0_2) (by simp)
  have fA2_w13 := KH_w13.out.free (b := w.heap.size) (o := 2) (v := .int .i64 a0_2) (by simp)
  have cA3_w13 := KH_w13.out.at (b := w.heap.size) (o := 3) (v := .int .u64 a0_3) (by simp)
  have fA3_w13 := KH_w13.out.free (b := w.heap.size) (o := 3) (v := .int .u64 a0_3) (by simp)
  go_wp2_with fail
  with_reducible refine (copy_none  (.pointer (some ⟨w.heap.size + 1, 0, none⟩)) _ (none_zero _ _ (KH_w13.out.at (b := w.heap.size + 1) (o := 2) (v := .int .u64 0) (by simp)))).mono ?_
  rintro e w14 ⟨rfl, hb_w14⟩
  have K_w14 := (KH_w13.out.step (by omega) (by go_grown)).step (by omega) hb_w14
  clear hb_w14
  have KH_w14 := Lib.hid K_w14
  have hw_w14 := K_w14.below
  have hz_w14 := K_w14.size
  have lA_w14 : w.heap.size < w14.heap.size := by omega
  have lZ_w14 : w.heap.size + 1 < w14.heap.size := by omega
  have lS_w14 : w.heap.size + 2 < w14.heap.size := by omega
  clear lA_w13 lZ_w13 lS_w13 cA0_w13 fA0_w13 cA1_w13 fA1_w13 cA2_w13 fA2_w13 cA3_w13 fA3_w13
  clear K_w14
  have cA0_w14 := KH_w14.out.at (b := w.heap.size) (o := 0) (v := .int .i64 a0_0) (by simp)
  have fA0_w14 := KH_w14.out.free (b := w.heap.size) (o := 0) (v := .int .i64 a0_0) (by simp)
  have cA1_w14 := KH_w14.out.at (b := w.heap.size) (o := 1) (v := .int .i64 a0_1) (by simp)
  have fA1_w14 := KH_w14.out.free (b := w.heap.size) (o := 1) (v := .int .i64 a0_1) (by simp)
  have cA2_w14 := KH_w14.out.at (b := w.heap.size) (o := 2) (v := .int .i64 a0_2) (by simp)
  have fA2_w14 := KH_w14.out.free (b := w.heap.size) (o := 2) (v := .int .i64 a0_2) (by simp)
  have cA3_w14 := KH_w14.out.at (b := w.heap.size) (o := 3) (v := .int .u64 a0_3) (by simp)
  have fA3_w14 := KH_w14.out.free (b := w.heap.size) (o := 3) (v := .int .u64 a0_3) (by simp)
  have cS0_w14 := KH_w14.out.at (b := w.heap.size + 2) (o := 0) (v := .pointer none) (by simp)
  have fS0_w14 := KH_w14.out.free (b := w.heap.size + 2) (o := 0) (v := .pointer none) (by simp)
  have cS1_w14 := KH_w14.out.at (b := w.heap.size + 2) (o := 1) (v := .pointer (some ⟨w.heap.size + 1, 0, none⟩)) (by simp)
  have fS1_w14 := KH_w14.out.free (b := w.heap.size + 2) (o := 1) (v := .pointer (some ⟨w.heap.size + 1, 0, none⟩)) (by simp)
  go_wp2_with fail
  rw [rounds_succ]
  go_wp2_with fail
  with_reducible refine (known _).mono ?_
  rintro e w15 ⟨rfl, hb_w15⟩
  have K_w15 := (KH_w14.out.step (by omega) (by go_grown)).step (by omega) hb_w15
  clear hb_w15
  have KH_w15 := Lib.hid K_w15
  have hw_w15 := K_w15.below
  have hz_w15 := K_w15.size
  have lA_w15 : w.heap.size < w15.heap.size := by omega
  have lZ_w15 : w.heap.size + 1 < w15.heap.size := by omega
  have lS_w15 : w.heap.size + 2 < w15.heap.size := by omega
  clear lA_w14 lZ_w14 lS_w14 cA0_w14 fA0_w14 cA1_w14 fA1_w14 cA2_w14 fA2_w14 cA3_w14 fA3_w14 cS0_w14 fS0_w14 cS1_w14 fS1_w14
  clear K_w15
  go_wp2_with fail
  go_returns
  exact ⟨rfl, by go_grown⟩

set_option maxRecDepth 100000 in
theorem lifted (os : Os) (started : os.Started) (H : Type) (enc : TypeId × Value → H) :
    ReturnsInHanded {} Try.checked os 7 .any (Rows.lobbyNoneSpec.pre6 enc Try.prog Try.f7 Rows.lobbyNoneRow.domain false) (Rows.lobbyNoneSpec.post enc Try.prog Try.f7 false true false false) := by
  refine returnsInHanded_of_change (C := Try.checked) own started (by kernel_rfl) Try.func7
    (ChangeSpec.witness6 (enc := enc) (C := Try.checked) false ⟨#[], #[.agg #[.int .i64 0, .int .i64 0, .int .i64 0, .int .u64 0]], []⟩ 8 (by kernel_rfl) (by kernel_rfl) (by kernel_rfl) (by kernel_rfl)) ?_
  intro W base args ds gs before hval0 hW hcnd _
  have hval : ∀ (j : Nat) t v, Try.f7.params[j]? = some t → args[j]? = some v → Value.okWide Try.prog W .any base t v := hval0
  have hW' := hW
  obtain ⟨p, q, hA0, hV, rfl, hfz, hnd⟩ := hW
  have hA : DataW.TrodAll enc Try.prog W 0 (fun _ => true) true Try.f7.params.toList args.toList ds p := hA0
  rw [Try.params7] at hA hval
  obtain ⟨v0, vs0, d0, ds0, p0, q0, hargs, rfl, rfl, h0, r0⟩ := trodAll_cons hA
  obtain ⟨rfl, rfl, rfl⟩ := trodAll_nil r0
  obtain rfl : args = #[v0] := by cases args; simp_all
  obtain ⟨rfl, rfl⟩ := trodVars_none hV
  have k0 := h0
  have lt0 : ∀ x ∈ p0, x.block < W.heap.size := by obtain ⟨m, hm⟩ := k0; exact DataW.trod_lt m _ _ _ hm
  obtain ⟨c0_0, c0_1, c0_2, c0_3, y0_0, y0_1, y0_2, y0_3, m0, rfl, rfl, rfl, hy0_0, hy0_1, hy0_2, hy0_3⟩ := Joins.open_agg4 Try.underlying57 (by kernel_rfl) (by kernel_rfl) (hval 0 57 v0 rfl rfl) h0
  obtain ⟨a0_0, e0_0, rfl, w0_0⟩ := DataW.trod_int Try.underlying3 hy0_0
  simp at e0_0
  subst e0_0
  obtain ⟨a0_1, e0_1, rfl, w0_1⟩ := DataW.trod_int Try.underlying3 hy0_1
  simp at e0_1
  subst e0_1
  obtain ⟨a0_2, e0_2, rfl, w0_2⟩ := DataW.trod_int Try.underlying3 hy0_2
  simp at e0_2
  subst e0_2
  obtain ⟨a0_3, e0_3, rfl, w0_3⟩ := DataW.trod_int Try.underlying28 hy0_3
  simp at e0_3
  subst e0_3
  clear hA0 hval0
  refine (walk a0_0 a0_1 a0_2 a0_3 W w0_0 w0_1 w0_2 w0_3).mono fun e W' ⟨he, bel⟩ => ?_
  subst he
  exact ⟨_, rfl, _, _, _, [], _, [], hW', trodAll_mk1 (shut_bool Try.underlying4 _), (trodAll_cons_mk (Below.trod laidOut (by kernel_rfl) (of_decide_eq_true (by kernel_rfl)) k0 bel lt0) trodAll_mk0), rfl, bel.frame _, fun h => by cases h⟩

theorem over : Rows.lobbyNoneRow.holds Try.pinned (OpenSpec.ofChange Rows.lobbyNoneSpec) :=
  OpenClaim.holds_of_wide 7 Try.f7 rfl rfl rfl rfl rfl rfl rfl ⟨rfl, rfl, rfl, rfl, rfl⟩ rfl rfl rfl rfl rfl (by kernel_rfl) Try.func7 (by kernel_rfl)
    (of_decide_eq_true (by kernel_rfl)) (by unfold Func.isWrapper; first | (rw [if_pos (by decide +kernel)]; kernel_rfl) | (rw [if_neg (by decide +kernel)]; exact ⟨rfl, rfl⟩))
    (fun os started H enc _ => lifted os started H enc)

/-- THE STATEMENT -/
theorem proved : Rows.LobbyNoneSaid := over
end Go.Proofs.Ytonaidjdkejoeaa.lobbyNone
