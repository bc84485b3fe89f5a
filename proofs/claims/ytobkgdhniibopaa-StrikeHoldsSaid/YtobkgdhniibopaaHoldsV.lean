/- StrikeHolds: the short ways. -/
import Derived.Test.YtobkgdhniibopaaHoldsW
namespace Go.Proofs.Ytobkgdhniibopaa
open Go.RowKit Plain
set_option linter.unusedVariables false
set_option linter.unusedSimpArgs false

set_option maxRecDepth 100000 in
set_option maxHeartbeats 2000000 in
theorem holds5_bad (n g t : Int) (v : Value) (w : World) (HV : Hid (vC n g = false)) :
    Calls Try.prog 5 #[.agg #[.int .i64 n, .int .u64 g], .int .u64 t, v] w fun e w' => e = .returned (.bool true) ∧ Below w.heap.size w w' := by
  go_enter Try.func5, Try.ntmps5
  go_wp2_with fail
  with_reducible refine (valid9c n g _ _ HV.out).mono ?_
  rintro e w1 ⟨rfl, hb_w1⟩
  have K_w1 : Kept w.heap.size w (w.heap.size + 1) [(w.heap.size, 0, .int .i64 n), (w.heap.size, 1, .int .u64 g)] w1 := Kept.of hb_w1 (by go_grown) (by go_size) (by omega) (by simp [go_sem] <;> omega)
  clear hb_w1
  have KH_w1 := Lib.hid K_w1
  have hw_w1 := K_w1.below
  have hz_w1 := K_w1.size
  have lC_w1 : w.heap.size < w1.heap.size := by omega
  have cC0_w1 := K_w1.at (b := w.heap.size) (o := 0) (v := .int .i64 n) (by simp)
  have fC0_w1 := K_w1.free (b := w.heap.size) (o := 0) (v := .int .i64 n) (by simp)
  have cC1_w1 := K_w1.at (b := w.heap.size) (o := 1) (v := .int .u64 g) (by simp)
  have fC1_w1 := K_w1.free (b := w.heap.size) (o := 1) (v := .int .u64 g) (by simp)
  clear K_w1
  go_wp2_with fail
  with_reducible refine (known11 _).mono ?_
  rintro e w2 ⟨rfl, hb_w2⟩
  have K_w2 : Kept w.heap.size w (w.heap.size + 1) [(w.heap.size, 0, .int .i64 n), (w.heap.size, 1, .int .u64 g)] w2 := (KH_w1.out.step (by omega) (by go_grown)).step (by omega) hb_w2
  clear hb_w2
  have KH_w2 := Lib.hid K_w2
  have hw_w2 := K_w2.below
  have hz_w2 := K_w2.size
  have lC_w2 : w.heap.size < w2.heap.size := by omega
  have cC0_w2 := K_w2.at (b := w.heap.size) (o := 0) (v := .int .i64 n) (by simp)
  have fC0_w2 := K_w2.free (b := w.heap.size) (o := 0) (v := .int .i64 n) (by simp)
  have cC1_w2 := K_w2.at (b := w.heap.size) (o := 1) (v := .int .u64 g) (by simp)
  have fC1_w2 := K_w2.free (b := w.heap.size) (o := 1) (v := .int .u64 g) (by simp)
  clear lC_w1 cC0_w1 fC0_w1 cC1_w1 fC1_w1
  clear K_w2
  go_wp2_with fail
  go_returns
  exact ⟨rfl, by go_grown⟩

set_option maxRecDepth 100000 in
set_option maxHeartbeats 2000000 in
theorem holds5_long (n g t : Int) (a : Option Addr) (len cap : Nat) (w : World) (HV : Hid (vC n g = true)) (hl : 80 < len) (hm : len ≤ 9223372036854775807) :
    Calls Try.prog 5 #[.agg #[.int .i64 n, .int .u64 g], .int .u64 t, .slice a len cap] w fun e w' => e = .returned (.bool true) ∧ Below w.heap.size w w' := by
  go_enter Try.func5, Try.ntmps5
  go_wp2_with fail
  with_reducible refine (valid9c n g _ _ HV.out).mono ?_
  rintro e w1 ⟨rfl, hb_w1⟩
  have K_w1 : Kept w.heap.size w (w.heap.size + 1) [(w.heap.size, 0, .int .i64 n), (w.heap.size, 1, .int .u64 g)] w1 := Kept.of hb_w1 (by go_grown) (by go_size) (by omega) (by simp [go_sem] <;> omega)
  clear hb_w1
  have KH_w1 := Lib.hid K_w1
  have hw_w1 := K_w1.below
  have hz_w1 := K_w1.size
  have lC_w1 : w.heap.size < w1.heap.size := by omega
  have cC0_w1 := K_w1.at (b := w.heap.size) (o := 0) (v := .int .i64 n) (by simp)
  have fC0_w1 := K_w1.free (b := w.heap.size) (o := 0) (v := .int .i64 n) (by simp)
  have cC1_w1 := K_w1.at (b := w.heap.size) (o := 1) (v := .int .u64 g) (by simp)
  have fC1_w1 := K_w1.free (b := w.heap.size) (o := 1) (v := .int .u64 g) (by simp)
  clear K_w1
  go_wp2_with fail
  with_reducible refine (known11 _).mono ?_
  rintro e w2 ⟨rfl, hb_w2⟩
  have K_w2 : Kept w.heap.size w (w.heap.size + 1) [(w.heap.size, 0, .int .i64 n), (w.heap.size, 1, .int .u64 g)] w2 := (KH_w1.out.step (by omega) (by go_grown)).step (by omega) hb_w2
  clear hb_w2
  have KH_w2 := Lib.hid K_w2
  have hw_w2 := K_w2.below
  have hz_w2 := K_w2.size
  have lC_w2 : w.heap.size < w2.heap.size := by omega
  have cC0_w2 := K_w2.at (b := w.heap.size) (o := 0) (v := .int .i64 n) (by simp)
  have fC0_w2 := K_w2.free (b := w.heap.size) (o := 0) (v := .int .i64 n) (by simp)
  have cC1_w2 := K_w2.at (b := w.heap.size) (o := 1) (v := .int .u64 g) (by simp)
  have fC1_w2 := K_w2.free (b := w.heap.size) (o := 1) (v := .int .u64 g) (by simp)
  clear lC_w1 cC0_w1 fC0_w1 cC1_w1 fC1_w1
  clear K_w2
  go_wp2_with fail
  go_returns
  exact ⟨rfl, by go_grown⟩

end Go.Proofs.Ytobkgdhniibopaa
