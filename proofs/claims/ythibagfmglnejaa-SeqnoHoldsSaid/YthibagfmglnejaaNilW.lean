/- Windows that are nil or zero. -/
import Derived.Test.YthibagfmglnejaaKnown
namespace Go.Proofs.Ythibagfmglnejaa
open Go.RowKit Plain
set_option linter.unusedVariables false
set_option linter.unusedSimpArgs false

theorem seg_nil (w : World) (k : IntKind) : Seg w k (.slice none 0 0) [] := Or.inl ⟨rfl, Or.inl rfl⟩

set_option maxRecDepth 100000 in
set_option maxHeartbeats 2000000 in
theorem looks20_nil (w : World) : Calls Try.prog 20 #[.pointer none, .int .u16 0, .slice none 0 0] w fun e w' => e = .returned (.bool true) ∧ Below w.heap.size w w' := by
  go_enter Try.func20, Try.ntmps20
  go_wp2_with fail
  with_reducible refine (pending19_nil  _).mono ?_
  rintro e w' ⟨rfl, rfl⟩
  go_wp2_with fail
  with_reducible refine (same28c _ _ [] _ (seg_nil _ _) (seg_nil _ _)).mono ?_
  rintro e w1 ⟨rfl, hb_w1⟩
  have K_w1 : Kept w.heap.size w (w.heap.size) [] w1 := Kept.of hb_w1 (by go_grown) (by go_size) (by omega) (by simp [go_sem] <;> omega)
  clear hb_w1
  have KH_w1 := Lib.hid K_w1
  have hw_w1 := K_w1.below
  have hz_w1 := K_w1.size
  clear K_w1
  go_wp2_with fail
  refine wp_loop_rounds 1 ?_
  rw [rounds_succ]
  go_wp2_with fail
  with_reducible refine (first18_nil  _).mono ?_
  rintro e w' ⟨rfl, rfl⟩
  go_wp2_with fail
  with_reducible refine (pending19_nil  _).mono ?_
  rintro e w' ⟨rfl, rfl⟩
  go_wp2_with fail
  with_reducible refine (same28c _ _ [] _ (seg_nil _ _) (seg_nil _ _)).mono ?_
  rintro e w2 ⟨rfl, hb_w2⟩
  have K_w2 : Kept w.heap.size w (w.heap.size) [] w2 := (KH_w1.out.step (by omega) (by go_grown)).step (by omega) hb_w2
  clear hb_w2
  have KH_w2 := Lib.hid K_w2
  have hw_w2 := K_w2.below
  have hz_w2 := K_w2.size
  clear K_w2
  go_wp2_with fail
  go_returns
  exact ⟨rfl, by go_grown⟩

set_option maxRecDepth 100000 in
set_option maxHeartbeats 2000000 in
theorem looks20_zero (P : Nat) (w : World) (k1 : w.cell? ⟨P, 1, none⟩ = some (.slice none 0 0)) (hlt : P < w.heap.size) : Calls Try.prog 20 #[.pointer (some ⟨P, 0, none⟩), .int .u16 0, .slice none 0 0] w fun e w' => e = .returned (.bool true) ∧ Below w.heap.size w w' := by
  have k1_w := k1
  clear k1
  go_enter Try.func20, Try.ntmps20
  go_wp2_with fail
  with_reducible refine (pending19_zero P _ k1_w).mono ?_
  rintro e w' ⟨rfl, rfl⟩
  go_wp2_with fail
  with_reducible refine (same28c _ _ [] _ (seg_nil _ _) (seg_nil _ _)).mono ?_
  rintro e w1 ⟨rfl, hb_w1⟩
  have K_w1 : Kept w.heap.size w (w.heap.size) [] w1 := Kept.of hb_w1 (by go_grown) (by go_size) (by omega) (by simp [go_sem] <;> omega)
  clear hb_w1
  have KH_w1 := Lib.hid K_w1
  have hw_w1 := K_w1.below
  have hz_w1 := K_w1.size
  clear K_w1
  have k1_w1 := (hw_w1.cell (p := ⟨P, 1, none⟩) hlt).trans k1_w
  go_wp2_with fail
  refine wp_loop_rounds 1 ?_
  rw [rounds_succ]
  go_wp2_with fail
  with_reducible refine (first18_zero P _ k1_w1).mono ?_
  rintro e w' ⟨rfl, rfl⟩
  go_wp2_with fail
  with_reducible refine (pending19_zero P _ k1_w1).mono ?_
  rintro e w' ⟨rfl, rfl⟩
  go_wp2_with fail
  with_reducible refine (same28c _ _ [] _ (seg_nil _ _) (seg_nil _ _)).mono ?_
  rintro e w2 ⟨rfl, hb_w2⟩
  have K_w2 : Kept w.heap.size w (w.heap.size) [] w2 := (KH_w1.out.step (by omega) (by go_grown)).step (by omega) hb_w2
  clear hb_w2
  have KH_w2 := Lib.hid K_w2
  have hw_w2 := K_w2.below
  have hz_w2 := K_w2.size
  clear K_w2
  go_wp2_with fail
  go_returns
  exact ⟨rfl, by go_grown⟩

end Go.Proofs.Ythibagfmglnejaa
