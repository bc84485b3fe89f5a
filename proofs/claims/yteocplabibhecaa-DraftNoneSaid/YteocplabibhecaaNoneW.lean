/- DraftNone: the walk. -/
import Derived.Test.YteocplabibhecaaKn
namespace Go.Proofs.Yteocplabibhecaa
open Go.RowKit Plain
set_option linter.unusedVariables false
set_option linter.unusedSimpArgs false

def NoRel (w1 : World) (iv : Value) (wr : World) : Prop := ∃ k : Nat, k ≤ 2 ∧ iv = .int .i64 k ∧ Below w1.heap.size w1 wr
set_option maxRecDepth 100000 in
set_option maxHeartbeats 4000000 in
theorem none7 (p i : Int) (w : World) : Calls Try.prog 7 #[.int .i64 p, .int .i64 i] w fun e w' => e = .returned (.bool true) ∧ Below w.heap.size w w' := by
  go_enter Try.func7, Try.ntmps7
  go_wp2_with fail
  obtain ⟨w1, hw1⟩ : ∃ W, W = (w.alloc (.cells #[.slice none 0 0, .slice none 0 0, .slice none 0 0, .int .i64 0, .int .i64 0] 56)).alloc (.cells #[.pointer none, .pointer (some ⟨w.heap.size, 0, none⟩)] 26) := ⟨_, rfl⟩
  have hb1 : Below w.heap.size w w1 := by rw [hw1]; go_grown
  have hs1 : w1.heap.size = w.heap.size + 2 := by rw [hw1]; simp
  have hz : w1.heap[w.heap.size]? = some (.cells #[.slice none 0 0, .slice none 0 0, .slice none 0 0, .int .i64 0, .int .i64 0] 56 (0, 0)) := by
    rw [hw1, Below.heap_alloc _ _ _ (by simp)]
    exact heap_alloc_new w _
  have h0 : w1.cell? ⟨w.heap.size + 1, 0, none⟩ = some (.pointer none) := by rw [hw1]; simp
  have h1 : w1.cell? ⟨w.heap.size + 1, 1, none⟩ = some (.pointer (some ⟨w.heap.size, 0, none⟩)) := by rw [hw1]; simp
  rw [← hw1]
  obtain ⟨g, hg⟩ : ∃ g, g = w.heap.size + 1 := ⟨_, rfl⟩
  rw [← hg] at h0 h1
  have hgl : g < w1.heap.size := by omega
  have HB1 := Lib.hid hb1
  have HZ : Hid (∀ k : Nat, k < 2 → ∃ q, w1.cell? ⟨g, k, none⟩ = some (.pointer q) ∧ Zr w1 (.pointer q)) := Lib.hid (fun k hk => by
    rcases (show k = 0 ∨ k = 1 by omega) with rfl | rfl
    · exact ⟨_, h0, .inl rfl⟩
    · exact ⟨_, h1, .inr ⟨_, rfl, hz⟩⟩)
  simp only [← hg]
  clear hw1 hb1 h0 h1 hz hs1 hg
  go_loopw [13] (fun s wr => NoRel w1 s wr) (fun s _ => 2 - (intOf s).toNat)
  case atStart => exact ⟨0, by omega, rfl, Below.refl _ _⟩
  case round =>
    obtain ⟨k, hk, rfl, hb⟩ := hrel
    have hzz := hb.size
    by_cases hk2 : k < 2
    · obtain ⟨q, hc, hz⟩ := HZ.out k hk2
      have hc := (hb.cell (p := ⟨g, k, none⟩) hgl).trans hc
      have HV := Lib.hid (hz.below hb)
      have i1 : (0 : Int) ≤ (k : Int) := by omega
      have i2 : (k : Int) < 2 := by omega
      clear hz
      go_wp2_with fail
      with_reducible refine (z24 (.pointer q) p _ HV.out).mono ?_
      rintro e w2 ⟨rfl, rfl⟩
      go_wp2_with fail
      with_reducible refine (z17 (.pointer q) p i _ HV.out).mono ?_
      rintro e w2 ⟨rfl, rfl⟩
      go_wp2_with fail
      with_reducible refine (z26 (.pointer q) p _ HV.out).mono ?_
      rintro e w3 ⟨rfl, hb3⟩
      have HV3 := Lib.hid (HV.out.below hb3)
      go_wp2_with fail
      with_reducible refine (z27 (.pointer q) _ HV3.out).mono ?_
      rintro e w4 ⟨rfl, rfl⟩
      go_wp2_with fail
      with_reducible refine (z19 (.pointer q) _ HV3.out).mono ?_
      rintro e w4 ⟨rfl, rfl⟩
      go_wp2_with fail
      with_reducible refine (z20 (.pointer q) _ HV3.out).mono ?_
      rintro e w4 ⟨rfl, rfl⟩
      go_wp2_with fail
      with_reducible refine (z18 (.pointer q) _ HV3.out).mono ?_
      rintro e w4 ⟨rfl, rfl⟩
      go_wp2_with fail
      with_reducible refine (z25 (.pointer q) _ HV3.out).mono ?_
      rintro e w4 ⟨rfl, rfl⟩
      have hb4 := below_via hb hb3
      go_wp2_with fail
      go_roundw
      case rel => exact ⟨k + 1, by omega, by go_num, hb4⟩
      case measure => simp [intOf]; omega
    · obtain rfl : k = 2 := by omega
      go_wp2_with fail
      with_reducible refine (known _).mono ?_
      rintro e w3 ⟨rfl, hb3⟩
      go_wp2_with fail
      go_returns
      exact ⟨rfl, below_via (below_via HB1.out hb) hb3⟩
end Go.Proofs.Yteocplabibhecaa
