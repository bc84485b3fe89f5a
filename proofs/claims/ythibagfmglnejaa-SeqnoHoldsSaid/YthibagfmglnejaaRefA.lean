/- The reference's window: waits, without, Pending. -/
import Derived.Test.YthibagfmglnejaaKnown
import Derived.Deep.LoopGhost
import Derived.Deep.DeepCutAuto
import Derived.Deep.Onto
namespace Go.Proofs.Ythibagfmglnejaa
open Go.RowKit Plain
set_option linter.unusedVariables false
set_option linter.unusedSimpArgs false

set_option maxRecDepth 100000 in
set_option maxHeartbeats 2000000 in
theorem waits30 (F S n : Int) (v : Value) (zs : List Int) (w : World) (hs : Seg w .u16 v zs) : Calls Try.prog 30 #[.agg #[.int .u16 F, .int .i64 S, v], .int .u16 n] w fun e w' => e = .returned (.bool (decide (n ∈ zs))) ∧ Below w.heap.size w w' := by
  obtain ⟨m1, a1, c1, rfl, f1⟩ := seg_form hs
  have F1 := Lib.hid f1
  clear hs f1
  go_enter Try.func30, Try.ntmps30
  go_wp2_with fail
  go_loop [5] (fun i => ∃ k : Nat, k ≤ zs.length ∧ i = .int .i64 k ∧ n ∉ zs.take k) (fun i => zs.length - (intOf i).toNat)
  case atStart => exact ⟨0, Nat.zero_le _, rfl, by simp⟩
  case round =>
    obtain ⟨k, hk, rfl, hn⟩ := hrel
    have HN := Lib.hid hn
    clear hn
    by_cases hlt : k < zs.length
    · obtain ⟨b1, o1, rfl, hb1, hc1⟩ := F1.out (by omega)
      obtain ⟨z, hz⟩ : ∃ z, zs[k]? = some z := ⟨zs[k], List.getElem?_eq_getElem hlt⟩
      have e1 := hc1 k z hz
      have n1 : b1 ≠ w.heap.size := by omega
      have i1 : (0 : Int) ≤ (k : Int) := by omega
      have i2 : (k : Int) < (zs.length : Int) := by omega
      have HZ := Lib.hid hz
      clear hc1 hz
      by_cases hzn : z = n
      · subst hzn
        have ef : Hid (decide (z ∈ zs) = true) := Lib.hid (by simpa using List.mem_of_getElem? HZ.out)
        go_wp2_with fail
        go_returns
        exact ⟨ret_bool ef.out.symm, by go_grown⟩
      · have q : (z == n) = false := by simpa using hzn
        have h2 : Hid (n ∉ zs.take (k + 1)) := Lib.hid (by rw [List.take_add_one, HZ.out]; simp [HN.out]; exact fun h => hzn h.symm)
        clear hzn
        go_wp2_with fail
        go_round
        case rel => exact ⟨k + 1, by omega, by go_num, h2.out⟩
        case measure => simp [intOf]; omega
    · have ef : Hid (decide (n ∈ zs) = false) := Lib.hid (by
        have h1 := HN.out
        rw [List.take_of_length_le (by omega)] at h1
        simpa using h1)
      have hn1 : decide ((k : Int) < (zs.length : Int)) = false := by simp; omega
      go_wp2_with fail
      go_returns
      exact ⟨ret_bool ef.out.symm, by go_grown⟩
theorem waits30c (F S n : Int) (v : Value) (zs : List Int) (b : Bool) (w : World) (hs : Seg w .u16 v zs) (hb : decide (n ∈ zs) = b) : Calls Try.prog 30 #[.agg #[.int .u16 F, .int .i64 S, v], .int .u16 n] w fun e w' => e = .returned (.bool b) ∧ Below w.heap.size w w' := by
  subst hb
  exact waits30 F S n v zs w hs
/-- a new slice of numbers is returned (its own block) -/
def ListAt (w : World) (zs : List Int) (e : Ending) (w' : World) : Prop := PendAt w zs e w'
/-- without a number -/
def wo (n : Int) (zs : List Int) : List Int := zs.filter (· ≠ n)
theorem wo_len (n : Int) (zs : List Int) : (wo n zs).length ≤ zs.length := List.length_filter_le _ _
def WoRel (w : World) (w0 : World) (n : Int) (zs : List Int) (v i : Value) (wr : World) : Prop := ∃ k : Nat, k ≤ zs.length ∧ i = .int .i64 k ∧ wr.ownsRow w0.heap.size 22 1 v ((zs.take k).filter (· ≠ n)).length (((zs.take k).filter (· ≠ n)).map (Value.int .u16)) ∧ Below w0.heap.size w0 wr
theorem filt_len (n : Int) (zs : List Int) (k : Nat) : ((zs.take k).filter (· ≠ n)).length ≤ zs.length := by
  have h1 := List.length_filter_le (fun z => decide (z ≠ n)) (zs.take k)
  have h2 := List.length_take_le' k zs
  simp at h1 h2 ⊢
  omega
set_option maxRecDepth 100000 in
set_option maxHeartbeats 2000000 in
theorem without31 (F S n : Int) (v : Value) (zs : List Int) (w : World) (hs : Seg w .u16 v zs) (hl : zs.length ≤ 2000) : Calls Try.prog 31 #[.agg #[.int .u16 F, .int .i64 S, v], .int .u16 n] w (ListAt w (wo n zs)) := by
  obtain ⟨i0, hi, hz0, hz1, hz2⟩ := info_parts info22
  obtain ⟨m1, a1, c1, rfl, f1⟩ := seg_form hs
  have F1 := Lib.hid f1
  clear hs f1
  go_enter Try.func31, Try.ntmps31
  go_wp2_with fail
  obtain ⟨w0, hw0⟩ : ∃ w0, w0 = w.alloc (.cells #[.int .u16 F, .int .i64 S, .slice a1 zs.length c1] 42) := ⟨_, rfl⟩
  rw [← hw0]
  have hb0 : Below w.heap.size w w0 := by rw [hw0]; exact (Below.refl _ _).alloc (Nat.le_refl _) _
  have hz : w0.heap.size = w.heap.size + 1 := by rw [hw0]; simp
  have HZ0 := Lib.hid hz
  have k0 : w0.cell? ⟨w.heap.size, 0, none⟩ = some (.int .u16 F) := by rw [hw0]; simp
  have k2 : w0.cell? ⟨w.heap.size, 2, none⟩ = some (.slice a1 zs.length c1) := by rw [hw0]; simp
  have K2 := Lib.hid k2
  clear hw0 hz k0 k2
  go_loopw [5, 6] (fun v i wr => WoRel w w0 n zs v i wr) (fun _ i _ => zs.length - (intOf i).toNat)
  case atStart => exact ⟨0, Nat.zero_le _, rfl, World.ownsRow_nil _ _ _ _, Below.refl _ _⟩
  case round =>
    obtain ⟨k, hk, rfl, hown, hb⟩ := hrel
    have kk2 := (hb.cell (p := ⟨w.heap.size, 2, none⟩) (by show w.heap.size < _; have := HZ0.out; omega)).trans K2.out
    have hzr := hb.size
    by_cases hlt : k < zs.length
    · obtain ⟨b1, o1, rfl, hb1, hc1⟩ := F1.out (by omega)
      obtain ⟨z, hz⟩ : ∃ z, zs[k]? = some z := ⟨zs[k], List.getElem?_eq_getElem hlt⟩
      have e1 := (hb.cell (p := ⟨b1, o1 + k, none⟩) (by show b1 < _; have := HZ0.out; omega)).trans ((hb0.cell (p := ⟨b1, o1 + k, none⟩) hb1).trans (hc1 k z hz))
      have i1 : (0 : Int) ≤ (k : Int) := by omega
      have i2 : (k : Int) < (zs.length : Int) := by omega
      have HZ := Lib.hid hz
      have hfl := filt_len n zs k
      clear hc1 hz
      by_cases hzn : z = n
      · subst hzn
        have h2 : Hid ((zs.take (k + 1)).filter (· ≠ z) = (zs.take k).filter (· ≠ z)) := Lib.hid (by rw [List.take_add_one, HZ.out, List.filter_append]; simp)
        have HO := Lib.hid hown
        clear hown
        go_wp2_with fail
        go_roundw
        case rel => exact ⟨k + 1, by omega, by go_num, by rw [h2.out]; exact HO.out, hb⟩
        case measure => simp [intOf]; omega
      · have q : (z != n) = true := by simpa using hzn
        have h2 : Hid ((zs.take (k + 1)).filter (· ≠ n) = (zs.take k).filter (· ≠ n) ++ [z]) := Lib.hid (by rw [List.take_add_one, HZ.out, List.filter_append]; simp [hzn])
        clear hzn
        obtain ⟨ys, hys⟩ : ∃ ys, ys = (zs.take k).filter (· ≠ n) := ⟨_, rfl⟩
        rw [← hys] at hown h2 hfl
        have HYS := Lib.hid hys
        clear hys
        go_wp2_with (at_builtin; refine wpList_append_own _ rfl _ _ 33 rfl w0.heap.size 22 i0 (.int .u16 0) 1 2 Try.underlying33 hi hz0 hz1 hz2 rfl (by decide) _ _ _ rfl (hown.alloc _) ⟨wr.heap.size, 0, none⟩ 1 1 [.int .u16 z] rfl rfl ?c1 ?c2 ?c3 ?c4 ?c5 ?_)
        case c1 => exact cell_one_new _ _ _
        case c2 => simp [Value.oneCell']
        case c3 => unfold maxLen; omega
        case c4 => omega
        case c5 => simp; omega
        intro v' w1 hown' hgrow _
        have hb1 : Below w0.heap.size w0 w1 := (hb.alloc hb.size _).grown hgrow (by simp; omega) (fun k hk => (hown.lt k hk).1)
        have HO := Lib.hid hown'
        clear hown hown' hgrow
        go_wp2_with fail
        go_roundw
        case rel => exact ⟨k + 1, by omega, by go_num, by rw [h2.out]; simpa using HO.out, hb1⟩
        case measure => simp [intOf]; omega
    · obtain rfl : k = zs.length := by omega
      rw [List.take_length] at hown
      have hfl := filt_len n zs zs.length
      rw [List.take_length] at hfl
      have HO : Hid (wr.ownsRow w.heap.size 22 1 _ (wo n zs).length ((wo n zs).map (Value.int .u16))) := Lib.hid (hown.mono (base' := w.heap.size) (by have := HZ0.out; omega))
      have hn1 : decide ((zs.length : Int) < (zs.length : Int)) = false := by simp
      clear hown hfl
      go_wp2_with fail
      go_returns
      exact ⟨_, rfl, HO.out, hb0.trans (hb.mono (by have := HZ0.out; omega))⟩
end Go.Proofs.Ythibagfmglnejaa
