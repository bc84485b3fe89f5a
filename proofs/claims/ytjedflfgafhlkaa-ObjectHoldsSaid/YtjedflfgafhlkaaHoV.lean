/- ObjectHolds: the short ways. -/
import Derived.Test.YtjedflfgafhlkaaCrow
import Derived.Test.YtjedflfgafhlkaaKnown
namespace Go.Proofs.Ytjedflfgafhlkaa
open Go.RowKit Plain
set_option linter.unusedVariables false
set_option linter.unusedSimpArgs false

set_option maxRecDepth 100000 in
set_option maxHeartbeats 80000000 in
theorem hold5_cards (v0 : Option Addr) (l0 c0 : Nat) (o : Ob) (v2 : Option Addr) (l2 c2 : Nat) (w : World) (h : 10 < l0) : Calls Try.prog 5 #[.slice v0 l0 c0, .agg #[.int .i64 o.id, .int .i64 o.cd, .int .i64 o.ow, .int .i64 o.po, .int .i64 o.tg, .int .i64 o.da, .int .i64 o.co, .int .i64 o.pp, .int .i64 o.pt, .bool o.ta, .bool o.si, .bool o.dm], .slice v2 l2 c2] w fun e w' => e = .returned (.bool true) ∧ Below w.heap.size w w' := by
  have q10 : decide ((10 : Int) < (l0 : Int)) = true := by simp; omega
  go_enter Try.func5, Try.ntmps5
  go_wp2_with fail
  with_reducible refine (known _).mono ?_
  rintro e w1 ⟨rfl, hb_w1⟩
  have K_w1 : Kept w.heap.size w (w.heap.size + 1) [(w.heap.size, 0, .int .i64 o.id), (w.heap.size, 1, .int .i64 o.cd), (w.heap.size, 2, .int .i64 o.ow), (w.heap.size, 3, .int .i64 o.po), (w.heap.size, 4, .int .i64 o.tg), (w.heap.size, 5, .int .i64 o.da), (w.heap.size, 6, .int .i64 o.co), (w.heap.size, 7, .int .i64 o.pp), (w.heap.size, 8, .int .i64 o.pt), (w.heap.size, 9, .bool o.ta), (w.heap.size, 10, .bool o.si), (w.heap.size, 11, .bool o.dm)] w1 := Kept.of hb_w1 (by go_grown) (by go_size) (by omega) (by simp [go_sem] <;> omega)
  clear hb_w1
  have KH_w1 := Lib.hid K_w1
  have hw_w1 := K_w1.below
  have hz_w1 := K_w1.size
  have lB_w1 : w.heap.size < w1.heap.size := by omega
  clear K_w1
  go_wp2_with fail
  go_returns
  exact ⟨rfl, by go_grown⟩

set_option maxRecDepth 100000 in
set_option maxHeartbeats 80000000 in
theorem hold5_nums (v0 : Option Addr) (l0 c0 : Nat) (o : Ob) (v2 : Option Addr) (l2 c2 : Nat) (w : World) (h : l0 ≤ 10) (h2 : 20 < l2) : Calls Try.prog 5 #[.slice v0 l0 c0, .agg #[.int .i64 o.id, .int .i64 o.cd, .int .i64 o.ow, .int .i64 o.po, .int .i64 o.tg, .int .i64 o.da, .int .i64 o.co, .int .i64 o.pp, .int .i64 o.pt, .bool o.ta, .bool o.si, .bool o.dm], .slice v2 l2 c2] w fun e w' => e = .returned (.bool true) ∧ Below w.heap.size w w' := by
  have q10 : decide ((10 : Int) < (l0 : Int)) = false := by simp; omega
  have q20 : decide ((20 : Int) < (l2 : Int)) = true := by simp; omega
  go_enter Try.func5, Try.ntmps5
  go_wp2_with fail
  with_reducible refine (known _).mono ?_
  rintro e w1 ⟨rfl, hb_w1⟩
  have K_w1 : Kept w.heap.size w (w.heap.size + 1) [(w.heap.size, 0, .int .i64 o.id), (w.heap.size, 1, .int .i64 o.cd), (w.heap.size, 2, .int .i64 o.ow), (w.heap.size, 3, .int .i64 o.po), (w.heap.size, 4, .int .i64 o.tg), (w.heap.size, 5, .int .i64 o.da), (w.heap.size, 6, .int .i64 o.co), (w.heap.size, 7, .int .i64 o.pp), (w.heap.size, 8, .int .i64 o.pt), (w.heap.size, 9, .bool o.ta), (w.heap.size, 10, .bool o.si), (w.heap.size, 11, .bool o.dm)] w1 := Kept.of hb_w1 (by go_grown) (by go_size) (by omega) (by simp [go_sem] <;> omega)
  clear hb_w1
  have KH_w1 := Lib.hid K_w1
  have hw_w1 := K_w1.below
  have hz_w1 := K_w1.size
  have lB_w1 : w.heap.size < w1.heap.size := by omega
  clear K_w1
  go_wp2_with fail
  go_returns
  exact ⟨rfl, by go_grown⟩

set_option maxRecDepth 100000 in
set_option maxHeartbeats 80000000 in
theorem hold5_bad (v0 : Option Addr) (l0 c0 : Nat) (o : Ob) (v2 : Option Addr) (l2 c2 : Nat) (w : World) (h : l0 ≤ 10) (h2 : l2 ≤ 20) (hv : Hid (vO o = false)) : Calls Try.prog 5 #[.slice v0 l0 c0, .agg #[.int .i64 o.id, .int .i64 o.cd, .int .i64 o.ow, .int .i64 o.po, .int .i64 o.tg, .int .i64 o.da, .int .i64 o.co, .int .i64 o.pp, .int .i64 o.pt, .bool o.ta, .bool o.si, .bool o.dm], .slice v2 l2 c2] w fun e w' => e = .returned (.bool true) ∧ Below w.heap.size w w' := by
  have q10 : decide ((10 : Int) < (l0 : Int)) = false := by simp; omega
  have q20 : decide ((20 : Int) < (l2 : Int)) = false := by simp; omega
  go_enter Try.func5, Try.ntmps5
  go_wp2_with fail
  with_reducible refine (rvalidc o false _ hv.out).mono ?_
  rintro e w1 ⟨rfl, hb_w1⟩
  have K_w1 : Kept w.heap.size w (w.heap.size + 1) [(w.heap.size, 0, .int .i64 o.id), (w.heap.size, 1, .int .i64 o.cd), (w.heap.size, 2, .int .i64 o.ow), (w.heap.size, 3, .int .i64 o.po), (w.heap.size, 4, .int .i64 o.tg), (w.heap.size, 5, .int .i64 o.da), (w.heap.size, 6, .int .i64 o.co), (w.heap.size, 7, .int .i64 o.pp), (w.heap.size, 8, .int .i64 o.pt), (w.heap.size, 9, .bool o.ta), (w.heap.size, 10, .bool o.si), (w.heap.size, 11, .bool o.dm)] w1 := Kept.of hb_w1 (by go_grown) (by go_size) (by omega) (by simp [go_sem] <;> omega)
  clear hb_w1
  have KH_w1 := Lib.hid K_w1
  have hw_w1 := K_w1.below
  have hz_w1 := K_w1.size
  have lB_w1 : w.heap.size < w1.heap.size := by omega
  clear K_w1
  go_wp2_with fail
  with_reducible refine (known _).mono ?_
  rintro e w2 ⟨rfl, hb_w2⟩
  have K_w2 := (KH_w1.out.step (by omega) (by go_grown)).step (by omega) hb_w2
  clear hb_w2
  have KH_w2 := Lib.hid K_w2
  have hw_w2 := K_w2.below
  have hz_w2 := K_w2.size
  have lB_w2 : w.heap.size < w2.heap.size := by omega
  clear lB_w1
  clear K_w2
  go_wp2_with fail
  go_returns
  exact ⟨rfl, by go_grown⟩

end Go.Proofs.Ytjedflfgafhlkaa
