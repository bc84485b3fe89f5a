/- The expectation as the law computes it, step by step. -/
import Derived.Test.YtnabpcgpheakfaaKnown
namespace Go.Proofs.Ytnabpcgpheakfaa
open Go.RowKit Plain
set_option linter.unusedVariables false

def stu (d : Int) : Int := if d ≤ 400 then d / 2 else 200 + (d - 400) / 3
theorem st_stu (d : Int) (h : 0 ≤ d) : st d = min 490 (stu d) := by unfold st stu; split <;> omega
theorem stu_bd (d : Int) (h : 0 ≤ d) (h1 : d ≤ 4000) : 0 ≤ stu d ∧ stu d ≤ 1400 := by unfold stu; split <;> omega
theorem stu_lo (d : Int) (k : Nat) (h : 0 ≤ d) (hk : (k : Int) ≤ 200) : (2 * (k : Int) ≤ d ↔ (k : Int) ≤ stu d) := by unfold stu; split <;> omega
theorem stu_hi (d : Int) (k : Nat) (h : 0 ≤ d) (hk : 200 < (k : Int)) : (400 + 3 * ((k : Int) - 200) ≤ d ↔ (k : Int) ≤ stu d) := by unfold stu; split <;> omega

theorem val_intE {k : IntKind} {a b : Int} (h : a = b) : Value.int k a = .int k b := by rw [h]

set_option maxHeartbeats 800000 in
theorem expectation12 (a b : Int) (w : World) (ha : vB a = true) (hb : vB b = true) :
    Calls Try.prog 12 #[.int .i64 a, .int .i64 b] w fun e w' => e = .returned (.int .i64 (ex a b)) ∧ w = w' := by
  have ⟨a0, a1⟩ := vB_true ha
  have ⟨b0, b1⟩ := vB_true hb
  clear ha hb
  by_cases h : b ≤ a
  · obtain ⟨d, hd⟩ : ∃ d, d = a - b := ⟨_, rfl⟩
    have sb := stu_bd d (by omega) (by omega)
    have e : Hid (ex a b = 500 + min 490 (stu d)) := Lib.hid (by rw [hd]; unfold ex; rw [if_pos h, st_stu _ (by omega)])
    have HD := Lib.hid hd
    have d0 : 0 ≤ d := by omega
    have d1 : d ≤ 4000 := by omega
    clear hd
    go_enter Try.func12, Try.ntmps12
    go_wp2
    rw [← HD.out]
    go_loop [6, 7] (fun n i => ∃ k : Nat, 1 ≤ k ∧ k ≤ 491 ∧ i = .int .i64 k ∧ n = .int .i64 (min ((k : Int) - 1) (stu d))) (fun _ i => 491 - (intOf i).toNat)
    case atStart => exact ⟨1, by omega, by omega, rfl, by congr 1; omega⟩
    case round =>
      obtain ⟨k, hk0, hk, rfl, rfl⟩ := hrel
      have L1 := Lib.hid (stu_lo d k d0)
      have L2 := Lib.hid (stu_hi d k d0)
      by_cases hlt : (k : Int) ≤ 490
      · go_wp2
        all_goals
          have l1 := L1.out
          have l2 := L2.out
          go_round
          case rel => exact ⟨k + 1, by omega, by omega, by go_num, val_intE (by omega)⟩
          case measure => simp [intOf]; omega
      · go_wp2
        all_goals
          go_ret
          exact ⟨ret_int (by rw [e.out]; omega), rfl⟩
  · obtain ⟨d, hd⟩ : ∃ d, d = b - a := ⟨_, rfl⟩
    have sb := stu_bd d (by omega) (by omega)
    have e : Hid (ex a b = 500 - min 490 (stu d)) := Lib.hid (by rw [hd]; unfold ex; rw [if_neg h, st_stu _ (by omega)])
    have HD := Lib.hid hd
    have d0 : 0 ≤ d := by omega
    have d1 : d ≤ 4000 := by omega
    clear hd
    go_enter Try.func12, Try.ntmps12
    go_wp2
    rw [← HD.out]
    go_loop [6, 7] (fun n i => ∃ k : Nat, 1 ≤ k ∧ k ≤ 491 ∧ i = .int .i64 k ∧ n = .int .i64 (min ((k : Int) - 1) (stu d))) (fun _ i => 491 - (intOf i).toNat)
    case atStart => exact ⟨1, by omega, by omega, rfl, by congr 1; omega⟩
    case round =>
      obtain ⟨k, hk0, hk, rfl, rfl⟩ := hrel
      have L1 := Lib.hid (stu_lo d k d0)
      have L2 := Lib.hid (stu_hi d k d0)
      by_cases hlt : (k : Int) ≤ 490
      · go_wp2
        all_goals
          have l1 := L1.out
          have l2 := L2.out
          go_round
          case rel => exact ⟨k + 1, by omega, by omega, by go_num, val_intE (by omega)⟩
          case measure => simp [intOf]; omega
      · go_wp2
        all_goals
          go_ret
          exact ⟨ret_int (by rw [e.out]; omega), rfl⟩

set_option maxHeartbeats 800000 in
theorem change16 (a b f s : Int) (w : World) (ha : vB a = true) (hb : vB b = true) (hf : alB f s = true) :
    Calls Try.prog 16 #[.int .i64 a, .int .i64 b, .int .i64 f, .int .i64 s] w fun e w' => e = .returned (.int .i64 (chg a b f s)) ∧ w = w' := by
  have ⟨a0, a1⟩ := vB_true ha
  have ⟨b0, b1⟩ := vB_true hb
  have ⟨f0, f1, s0, s1⟩ := alB_true hf
  have hx := ex_bd a b
  have hp := chg_pre f s _ hf hx
  have e : Hid (chg a b f s = min (min (max (max ((f * (500 * s - ex a b)).tdiv 1000) (-a)) (b - 4000)) (4000 - a)) b) := Lib.hid rfl
  have HA := Lib.hid ha
  have HB := Lib.hid hb
  clear ha hb hf
  go_enter Try.func16, Try.ntmps16
  go_wp2_with fail
  with_reducible refine (expectation12 _ _ _ HA.out HB.out).mono ?_
  rintro e w' ⟨rfl, rfl⟩
  go_wp2_with fail
  all_goals
    go_ret
    exact ⟨ret_int (by rw [e.out]; generalize (f * (500 * s - ex a b)).tdiv 1000 = n at *; omega), rfl⟩
end Go.Proofs.Ytnabpcgpheakfaa
