/- Two lists of numbers are held against each other; a window looks as it should. -/
import Derived.Test.YthibagfmglnejaaPe
import Derived.Test.YthibagfmglnejaaSeg
namespace Go.Proofs.Ythibagfmglnejaa
open Go.RowKit Plain
set_option linter.unusedVariables false
set_option linter.unusedSimpArgs false

theorem below_drewN {B : Nat} {a w : World} (h : Below B a w) (n : Nat) : Below B a (w.drewN n) := ⟨h.os, h.tape, h.output, h.size, h.block⟩
theorem seg_form {w : World} {k : IntKind} {v : Value} {zs : List Int} (h : Seg w k v zs) : zs.length ≤ 9223372036854775807 ∧ ∃ a cap, v = .slice a zs.length cap ∧ (0 < zs.length → ∃ b off, a = some ⟨b, off, none⟩ ∧ b < w.heap.size ∧ ∀ i z, zs[i]? = some z → w.cell? ⟨b, off + i, none⟩ = some (.int k z)) := by
  rcases h with ⟨rfl, rfl | ⟨a, cap, rfl⟩⟩ | ⟨h0, h1, b, off, cap, rfl, hlt, hc⟩
  · exact ⟨by simp, none, 0, rfl, fun h => by simp at h⟩
  · exact ⟨by simp, some a, cap, rfl, fun h => by simp at h⟩
  · exact ⟨by unfold maxLen at h1; omega, _, cap, rfl, fun _ => ⟨b, off, rfl, hlt, hc⟩⟩
theorem take_same {zs ys : List Int} {k : Nat} {z : Int} (h : zs.take k = ys.take k) (h1 : zs[k]? = some z) (h2 : ys[k]? = some z) : zs.take (k + 1) = ys.take (k + 1) := by
  rw [List.take_add_one, List.take_add_one, h, h1, h2]
def SameRel (w : World) (zs ys : List Int) (i : Value) (wr : World) : Prop := ∃ k : Nat, k ≤ zs.length ∧ i = .int .i64 k ∧ zs.take k = ys.take k ∧ Below w.heap.size w wr

set_option maxRecDepth 100000 in
set_option maxHeartbeats 2000000 in
theorem same28 (v u : Value) (zs ys : List Int) (w : World) (hs : Seg w .u16 v zs) (ht : Seg w .u16 u ys) : Calls Try.prog 28 #[v, u] w fun e w' => e = .returned (.bool (decide (zs = ys))) ∧ Below w.heap.size w w' := by
  obtain ⟨m1, a1, c1, rfl, f1⟩ := seg_form hs
  obtain ⟨m2, a2, c2, rfl, f2⟩ := seg_form ht
  have F1 := Lib.hid f1
  have F2 := Lib.hid f2
  clear hs ht f1 f2
  by_cases hl : zs.length = ys.length
  · have HL := Lib.hid hl
    have hne : ((zs.length : Int) != (ys.length : Int)) = false := by simp [hl]
    have hle : zs.length ≤ ys.length := by omega
    clear hl
    go_enter Try.func28, Try.ntmps28
    go_wp2_with fail
    go_loopw [5] (fun i wr => SameRel w zs ys i wr) (fun i _ => zs.length - (intOf i).toNat)
    case atStart => exact ⟨0, Nat.zero_le _, rfl, by simp, Below.refl _ _⟩
    case round =>
      obtain ⟨k, hk, rfl, htk, hb⟩ := hrel
      have HT := Lib.hid htk
      clear htk
      by_cases hlt : k < zs.length
      · obtain ⟨b1, o1, rfl, hb1, hc1⟩ := F1.out (by omega)
        obtain ⟨b2, o2, rfl, hb2, hc2⟩ := F2.out (by omega)
        obtain ⟨z, hz⟩ : ∃ z, zs[k]? = some z := ⟨zs[k], List.getElem?_eq_getElem hlt⟩
        obtain ⟨y, hy⟩ : ∃ y, ys[k]? = some y := ⟨ys[k]'(by omega), List.getElem?_eq_getElem (by omega)⟩
        have e1 := (hb.cell (p := ⟨b1, o1 + k, none⟩) hb1).trans (hc1 k z hz)
        have e2 := (hb.cell (p := ⟨b2, o2 + k, none⟩) hb2).trans (hc2 k y hy)
        have i1 : (0 : Int) ≤ (k : Int) := by omega
        have i2 : (k : Int) < (zs.length : Int) := by omega
        have i3 : (k : Int) < (ys.length : Int) := by omega
        have HZ := Lib.hid hz
        have HY := Lib.hid hy
        clear hc1 hc2 hz hy
        by_cases hzy : z = y
        · subst hzy
          go_wp2_with fail
          go_quiet (fail)
          go_wp2_with fail
          go_roundw
          case rel => exact ⟨k + 1, by omega, by go_num, take_same HT.out HZ.out HY.out, below_drewN hb _⟩
          case measure => simp [intOf]; omega
        · have q : (z != y) = true := by simpa using hzy
          have ef : Hid (decide (zs = ys) = false) := Lib.hid (by simp; intro e; rw [e, HY.out] at HZ; exact hzy (by have := HZ.out; simpa using this.symm))
          clear hzy
          go_wp2_with fail
          go_quiet (fail)
          go_wp2_with fail
          go_returns
          exact ⟨ret_bool ef.out.symm, below_drewN hb _⟩
      · have ef : Hid (decide (zs = ys) = true) := Lib.hid (by
          have h1 := HT.out
          rw [List.take_of_length_le (by omega), List.take_of_length_le (by have := HL.out; omega)] at h1
          simpa using h1)
        go_wp2_with fail
        go_returns
        exact ⟨ret_bool ef.out.symm, hb⟩
  · have hne : ((zs.length : Int) != (ys.length : Int)) = true := by simp; omega
    have ef : Hid (decide (zs = ys) = false) := Lib.hid (by simp; intro e; exact hl (by rw [e]))
    clear hl
    go_enter Try.func28, Try.ntmps28
    go_wp2_with fail
    go_returns
    exact ⟨ret_bool ef.out.symm, by go_grown⟩
theorem same28c (v u : Value) (zs : List Int) (w : World) (hs : Seg w .u16 v zs) (ht : Seg w .u16 u zs) : Calls Try.prog 28 #[v, u] w fun e w' => e = .returned (.bool true) ∧ Below w.heap.size w w' := by
  have h := same28 v u zs zs w hs ht
  rw [show decide (zs = zs) = true by simp] at h
  exact h

/-- the cells of a row hold numbers, and may be written -/
def RowI (w : World) (g n : Nat) : Prop := ∀ j, j < n → ∃ z, U16 z ∧ w.cell? ⟨g, j, none⟩ = some (.int .u16 z) ∧ w.frozen? ⟨g, j, none⟩ = false
theorem RowI.set {w : World} {g n : Nat} (h : RowI w g n) (k : Nat) (z : Int) (hz : U16 z) : RowI (w.setCell ⟨g, k, none⟩ (.int .u16 z)) g n := by
  intro j hj
  obtain ⟨y, hy, hc, hf⟩ := h j hj
  by_cases e : j = k
  · subst e
    exact ⟨z, hz, World.cell?_setCell_same _ _ _ hc, by rw [World.frozen?_setCell]; exact hf⟩
  · exact ⟨y, hy, (World.cell?_setCell_other _ _ _ _ (by intro h; cases h; exact e rfl)).trans hc, by rw [World.frozen?_setCell]; exact hf⟩
end Go.Proofs.Ythibagfmglnejaa
