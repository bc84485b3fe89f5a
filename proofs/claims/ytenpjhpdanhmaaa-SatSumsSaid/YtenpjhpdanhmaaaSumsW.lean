/- The walk of SatSums. -/
import Derived.Test.YtenpjhpdanhmaaaKnown
namespace Go.Proofs.Ytenpjhpdanhmaaa
open Go.RowKit Plain
set_option linter.unusedVariables false
set_option linter.unusedSimpArgs false

theorem info3 : (Try.prog.info? 3).map (fun i => (i.zero, i.size, i.bytes)) = some (some (.int .i64 0), 1, 8) := by kernel_rfl

set_option maxRecDepth 100000 in
set_option maxHeartbeats 2000000 in
theorem sums_nil (v : Value) (m : Int) (w : World) (hs : Seg w .i64 v []) (hm : I m) :
    Calls Try.prog 7 #[v, .int .i64 m] w fun e w' => e = .returned (.bool true) ∧ Below w.heap.size w w' := by
  obtain ⟨i0, hi, hz0, hz1, hz2⟩ := info_parts info3
  have hv : v = .slice none 0 0 ∨ ∃ a cap, v = .slice (some a) 0 cap := by
    rcases hs with ⟨_, h⟩ | ⟨h, _⟩
    · exact h
    · exact absurd rfl h
  rcases hv with rfl | ⟨a, cap, rfl⟩
  all_goals
    go_enter Try.func7, Try.ntmps7
    go_wp2_with (at_builtin; refine wpList_copy_seg rfl _ _ 26 rfl 3 i0 .i64 8 Try.underlying26 hi hz0 hz1 hz2 rfl _ [] rfl hs (by simp) (by simp) ?_; intro v1 w1 hs1 hb1)
    go_wp2_with fail
    with_reducible refine (sum20 _ [] _ _ hs1 (by simp) hm).mono ?_
    rintro e w' ⟨rfl, rfl⟩
    go_wp2_with fail
    refine wp_loop_rounds 1 ?_
    rw [rounds_succ]
    go_wp2_with fail
    with_reducible refine (sum21 _ [] _ _ (hs.below hb1) (by simp) hm).mono ?_
    rintro e w' ⟨rfl, rfl⟩
    go_wp2_with fail
    with_reducible refine (known13 _).mono ?_
    rintro e w2 ⟨rfl, hb2⟩
    have hb3 := below_via hb1 hb2
    go_wp2_with fail
    go_returns
    exact ⟨rfl, hb3⟩

set_option maxRecDepth 100000 in
set_option maxHeartbeats 2000000 in
theorem sums_some (b off cap : Nat) (zs : List Int) (m : Int) (w : World) (h0 : zs ≠ []) (h40 : zs.length ≤ 40) (hs : Seg w .i64 (.slice (some ⟨b, off, none⟩) zs.length cap) zs) (hz : ∀ z ∈ zs, I z) (hm : I m) :
    Calls Try.prog 7 #[.slice (some ⟨b, off, none⟩) zs.length cap, .int .i64 m] w fun e w' => e = .returned (.bool true) ∧ Below w.heap.size w w' := by
  obtain ⟨i0, hi, hz0, hz1, hz2⟩ := info_parts info3
  have hpos : 0 < zs.length := List.length_pos_iff.2 h0
  have HS := Lib.hid hs
  have HZ := Lib.hid hz
  clear hz
  go_enter Try.func7, Try.ntmps7
  go_wp2_with (at_builtin; refine wpList_copy_seg rfl _ _ 26 rfl 3 i0 .i64 8 Try.underlying26 hi hz0 hz1 hz2 rfl _ zs rfl hs (by omega) (by unfold maxLen; omega) ?_; intro v1 w1 hs1 hb1)
  obtain ⟨_, g, o1, cap1, hv1, hlt1, hc1⟩ := hs1.some h0
  obtain ⟨_, b', o', cap', hv', hlt', hc'⟩ := hs.some h0
  simp only [Value.slice.injEq, Option.some.injEq, Addr.mk.injEq, and_true, true_and] at hv'
  obtain ⟨⟨rfl, rfl⟩, rfl⟩ := hv'
  rw [hv1]
  have HS1 := Lib.hid (hv1 ▸ hs1)
  have HC1 := Lib.hid hc1
  have HC := Lib.hid hc'
  clear hs1 hv1 hc1 hc' hs
  go_wp2_with fail
  with_reducible refine (sum20 _ zs _ _ HS1.out HZ.out hm).mono ?_
  rintro e w' ⟨rfl, rfl⟩
  go_wp2_with fail
  have hbb := Below.refl w1.heap.size w1
  go_loopw [19] (fun i wr => ∃ k : Nat, k ≤ zs.length ∧ i = .int .i64 k ∧ Below w1.heap.size w1 wr) (fun i _ => zs.length - (intOf i).toNat)
  case atStart => exact ⟨0, Nat.zero_le _, rfl, hbb⟩
  case round =>
    obtain ⟨k, hk, rfl, hbr⟩ := hrel
    by_cases hlt2 : k < zs.length
    · obtain ⟨z, hz⟩ : ∃ z, zs[k]? = some z := ⟨zs[k], List.getElem?_eq_getElem hlt2⟩
      have hcell1 := (hbr.cell (p := ⟨g, o1 + k, none⟩) hlt1).trans (HC1.out k z hz)
      have hcell := (hbr.cell (p := ⟨b, off + k, none⟩) (Nat.lt_of_lt_of_le hlt' hb1.size)).trans ((hb1.cell (p := ⟨b, off + k, none⟩) hlt').trans (HC.out k z hz))
      clear hz
      have q1 : (0 : Int) ≤ (k : Int) := by omega
      have q2 : (k : Int) < (zs.length : Int) := by omega
      go_wp2_with fail
      go_quiet (fail)
      go_wp2_with fail
      go_roundw
      case rel => exact ⟨k + 1, by omega, by go_num, below_drewN hbr _⟩
      case measure => simp [intOf]; omega
    · have hb1r := below_via hb1 hbr
      go_wp2_with fail
      with_reducible refine (sum21 _ zs _ _ (HS.out.below hb1r) HZ.out hm).mono ?_
      rintro e w' ⟨rfl, rfl⟩
      go_wp2_with fail
      with_reducible refine (known13 _).mono ?_
      rintro e w2 ⟨rfl, hb2⟩
      have hb3 := below_via hb1r hb2
      go_wp2_with fail
      go_returns
      exact ⟨rfl, hb3⟩
end Go.Proofs.Ytenpjhpdanhmaaa
