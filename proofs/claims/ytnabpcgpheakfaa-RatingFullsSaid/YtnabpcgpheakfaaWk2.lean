/- The walks of the law's helpers over package rating. -/
import Derived.Test.YtnabpcgpheakfaaWk
namespace Go.Proofs.Ytnabpcgpheakfaa
open Go.RowKit Plain
set_option linter.unusedVariables false

set_option maxHeartbeats 800000 in
theorem expects10 (a b want no : Int) (w : World) (ha : vB a = true) (hb : vB b = true) (hw : ex a b = want) (hn : no = 0) :
    Calls Try.prog 10 #[.int .i64 a, .int .i64 b, .int .i64 want, .int .i64 no] w fun e w' => e = .returned (.bool true) ∧ w = w' := by
  subst hw hn
  have HA := Lib.hid ha
  have HB := Lib.hid hb
  clear ha hb
  go_enter Try.func10, Try.ntmps10
  go_wp2_with (first | (go_at_call 17; refine (expect17 _ _ _ HA.out HB.out).mono ?_; rintro e w' ⟨rfl, rfl⟩))
  go_ret
  exact ⟨rfl, rfl⟩

set_option maxHeartbeats 800000 in
theorem expects10_no (a b : Int) (w : World) (h : (vB a && vB b) = false) :
    Calls Try.prog 10 #[.int .i64 a, .int .i64 b, .int .i64 0, .int .i64 3] w fun e w' => e = .returned (.bool true) ∧ w = w' := by
  have HA := Lib.hid h
  clear h
  go_enter Try.func10, Try.ntmps10
  go_wp2_with (first | (go_at_call 17; refine (expect17_no _ _ _ HA.out).mono ?_; rintro e w' ⟨rfl, rfl⟩))
  go_ret
  exact ⟨rfl, rfl⟩

set_option maxHeartbeats 800000 in
theorem changes14 (a b f s want no : Int) (w : World) (ha : vB a = true) (hb : vB b = true) (hf : alB f s = true) (hw : chg a b f s = want) (hn : no = 0) :
    Calls Try.prog 14 #[.int .i64 a, .int .i64 b, .int .i64 f, .int .i64 s, .int .i64 want, .int .i64 no] w fun e w' => e = .returned (.bool true) ∧ w = w' := by
  subst hw hn
  have HA := Lib.hid ha
  have HB := Lib.hid hb
  have HF := Lib.hid hf
  clear ha hb hf
  go_enter Try.func14, Try.ntmps14
  go_wp2_with (first | (go_at_call 21; refine (change21 _ _ _ _ _ HA.out HB.out HF.out).mono ?_; rintro e w' ⟨rfl, rfl⟩))
  go_ret
  exact ⟨rfl, rfl⟩

set_option maxHeartbeats 800000 in
theorem changes14_no (a b f s : Int) (w : World) (h : (vB a && vB b && alB f s) = false) :
    Calls Try.prog 14 #[.int .i64 a, .int .i64 b, .int .i64 f, .int .i64 s, .int .i64 0, .int .i64 3] w fun e w' => e = .returned (.bool true) ∧ w = w' := by
  have HA := Lib.hid h
  clear h
  go_enter Try.func14, Try.ntmps14
  go_wp2_with (first | (go_at_call 21; refine (change21_no _ _ _ _ _ HA.out).mono ?_; rintro e w' ⟨rfl, rfl⟩))
  go_ret
  exact ⟨rfl, rfl⟩

set_option maxHeartbeats 800000 in
theorem matches15 (a b f s x y no : Int) (w : World) (ha : vB a = true) (hb : vB b = true) (hf : alB f s = true) (hx : a + chg a b f s = x) (hy : b - chg a b f s = y) (hn : no = 0) :
    Calls Try.prog 15 #[.int .i64 a, .int .i64 b, .int .i64 f, .int .i64 s, .int .i64 x, .int .i64 y, .int .i64 no] w fun e w' => e = .returned (.bool true) ∧ w = w' := by
  subst hx hy hn
  have HA := Lib.hid ha
  have HB := Lib.hid hb
  have HF := Lib.hid hf
  clear ha hb hf
  go_enter Try.func15, Try.ntmps15
  go_wp2_with (first | (go_at_call 18; refine (match18 _ _ _ _ _ HA.out HB.out HF.out).mono ?_; rintro e w' ⟨rfl, rfl⟩))
  go_ret
  exact ⟨rfl, rfl⟩

set_option maxHeartbeats 800000 in
theorem matches15_no (a b f s : Int) (w : World) (h : (vB a && vB b && alB f s) = false) :
    Calls Try.prog 15 #[.int .i64 a, .int .i64 b, .int .i64 f, .int .i64 s, .int .i64 0, .int .i64 0, .int .i64 3] w fun e w' => e = .returned (.bool true) ∧ w = w' := by
  have HA := Lib.hid h
  clear h
  go_enter Try.func15, Try.ntmps15
  go_wp2_with (first | (go_at_call 18; refine (match18_no _ _ _ _ _ HA.out).mono ?_; rintro e w' ⟨rfl, rfl⟩))
  go_ret
  exact ⟨rfl, rfl⟩

end Go.Proofs.Ytnabpcgpheakfaa
