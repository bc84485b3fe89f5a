/- The bytes of an object by the reference. -/
import Derived.Test.YtjedflfgafhlkaaEn
import Derived.Laws.AppendOwn
namespace Go.Proofs.Ytjedflfgafhlkaa
open Go.RowKit Plain
set_option linter.unusedVariables false
set_option linter.unusedSimpArgs false

theorem info_u8 : (Try.prog.info? 5).map (fun i => (i.zero, i.size, i.bytes)) = some (some (.int .u8 0), 1, 1) := by kernel_rfl
def nsO (o : Ob) (F : Int) : List Int := [o.id / 256, o.id % 256, (o.cd + 1) / 256, (o.cd + 1) % 256, o.ow, o.po, o.tg, o.da, o.co, o.pp, o.pt, F]
def ByAt (w : World) (zs : List Int) (e : Ending) (w' : World) : Prop := ∃ v, e = .returned v ∧ Seg w' .u8 v zs ∧ Below w.heap.size w w'
def ByRel (w0 : World) (ns : List Int) (v i : Value) (wr : World) : Prop := ∃ k : Nat, k ≤ 12 ∧ i = .int .i64 k ∧ wr.ownsRow w0.heap.size 5 1 v ((ns.take k).map (· % 256)).length (((ns.take k).map (· % 256)).map (Value.int .u8)) ∧ Below w0.heap.size w0 wr
set_option maxRecDepth 100000 in
set_option maxHeartbeats 2000000 in
theorem rbytes_0 (o : Ob) (w : World) (b0 : 1 ≤ o.id) (b1 : o.id ≤ 500) (b2 : -1 ≤ o.cd) (b3 : o.cd ≤ 399) : Calls Try.prog 14 #[.agg #[.int .i64 o.id, .int .i64 o.cd, .int .i64 o.ow, .int .i64 o.po, .int .i64 o.tg, .int .i64 o.da, .int .i64 o.co, .int .i64 o.pp, .int .i64 o.pt, .bool false, .bool false, .bool false]] w (ByAt w ((nsO o 0).map (· % 256))) := by
  obtain ⟨i0, hi, hz0, hz1, hz2⟩ := info_parts info_u8
  obtain ⟨ns, hns⟩ : ∃ ns, nsO o 0 = ns := ⟨_, rfl⟩
  have hnl : ns.length = 12 := by rw [← hns]; rfl
  rw [hns]
  have HNL := Lib.hid hnl
  have HNS := Lib.hid hns
  clear hns hnl
  go_enter Try.func14, Try.ntmps14
  go_wp2_with fail
  obtain ⟨w0, hw0⟩ : ∃ w0, w0 = (w.alloc (.cells #[.int .i64 o.id, .int .i64 o.cd, .int .i64 o.ow, .int .i64 o.po, .int .i64 o.tg, .int .i64 o.da, .int .i64 o.co, .int .i64 o.pp, .int .i64 o.pt, .bool false, .bool false, .bool false] 23)).alloc (.cells (((nsO o 0).map (Value.int .i64)).toArray) 3) := ⟨_, rfl⟩
  have hw0' : w0 = (w.alloc (.cells #[.int .i64 o.id, .int .i64 o.cd, .int .i64 o.ow, .int .i64 o.po, .int .i64 o.tg, .int .i64 o.da, .int .i64 o.co, .int .i64 o.pp, .int .i64 o.pt, .bool false, .bool false, .bool false] 23)).alloc (.cells #[.int .i64 (o.id / 256), .int .i64 (o.id % 256), .int .i64 ((o.cd + 1) / 256), .int .i64 ((o.cd + 1) % 256), .int .i64 (o.ow), .int .i64 (o.po), .int .i64 (o.tg), .int .i64 (o.da), .int .i64 (o.co), .int .i64 (o.pp), .int .i64 (o.pt), .int .i64 (0)] 3) := hw0
  rw [← hw0']
  have hb0 : Below w.heap.size w w0 := by rw [hw0]; exact ((Below.refl _ _).alloc (Nat.le_refl _) _).alloc (by simp) _
  have hz : w0.heap.size = w.heap.size + 2 := by rw [hw0]; simp
  have HL : Hid (w0.heap[w.heap.size + 1]? = some (.cells ((ns.map (Value.int .i64)).toArray) 3 (0, 0))) := Lib.hid (by rw [← HNS.out, hw0]; have := heap_alloc_new (w.alloc (.cells #[.int .i64 o.id, .int .i64 o.cd, .int .i64 o.ow, .int .i64 o.po, .int .i64 o.tg, .int .i64 o.da, .int .i64 o.co, .int .i64 o.pp, .int .i64 o.pt, .bool false, .bool false, .bool false] 23)) (.cells (((nsO o 0).map (Value.int .i64)).toArray) 3); simpa using this)
  have HZ0 := Lib.hid hz
  clear hw0 hw0' hz
  go_loopw [4, 50] (fun v i wr => ByRel w0 ns v i wr) (fun _ i _ => 12 - (intOf i).toNat)
  case atStart => exact ⟨0, by omega, rfl, World.ownsRow_nil _ _ _ _, Below.refl _ _⟩
  case round =>
    obtain ⟨k, hk, rfl, hown, hb⟩ := hrel
    have hzr := hb.size
    by_cases hlt : k < 12
    · obtain ⟨z, hz⟩ : ∃ z, ns[k]? = some z := ⟨ns[k]'(by have := HNL.out; omega), List.getElem?_eq_getElem (by have := HNL.out; omega)⟩
      have e1 := (hb.cell (p := ⟨w.heap.size + 1, k, none⟩) (by show w.heap.size + 1 < _; have := HZ0.out; omega)).trans ((cell_of_row w0 (w.heap.size + 1) k _ 3 (0, 0) HL.out).trans (show _ = some (Value.int .i64 z) by rw [List.getElem?_toArray, List.getElem?_map, hz]; rfl))
      have i1 : (0 : Int) ≤ (k : Int) := by omega
      have i2 : (k : Int) < 12 := by omega
      have h2 : Hid ((ns.take (k + 1)).map (· % 256) = (ns.take k).map (· % 256) ++ [z % 256]) := Lib.hid (by rw [List.take_add_one, hz]; simp)
      have hl2 : ((ns.take k).map (· % 256)).length ≤ 12 := by simp; omega
      obtain ⟨ys, hys⟩ : ∃ ys, ys = (ns.take k).map (· % 256) := ⟨_, rfl⟩
      rw [← hys] at hown h2 hl2
      clear hz hys
      go_wp2_with (at_builtin; refine wpList_append_own _ rfl _ _ 30 rfl w0.heap.size 5 i0 (.int .u8 0) 1 1 Try.underlying30 hi hz0 hz1 hz2 rfl (by decide) _ _ _ rfl (hown.alloc _) ⟨wr.heap.size, 0, none⟩ 1 1 [.int .u8 (z % 256)] rfl rfl ?c1 ?c2 ?c3 ?c4 ?c5 ?_)
      case c1 => exact cell_one_new _ _ _
      case c2 => simp [Value.oneCell']
      case c3 => unfold maxLen; omega
      case c4 => omega
      case c5 => simp; omega
      intro v' w1 hown' hgrow _
      have hb1 : Below w0.heap.size w0 w1 := (hb.alloc hb.size _).grown hgrow (by simp; omega) (fun k hk => (hown.lt k hk).1)
      have HO := Lib.hid hown'
      clear hown hown' hgrow
      go_wp2_with fail
      go_roundw
      case rel => exact ⟨k + 1, by omega, by go_num, by rw [h2.out]; simpa using HO.out, hb1⟩
      case measure => simp [intOf]; omega
    · have hn1 : decide ((k : Int) < 12) = false := by simp; omega
      rw [List.take_of_length_le (by have := HNL.out; omega)] at hown
      have HO := Lib.hid (seg_of_owns hown (by have := HNL.out; unfold maxLen; simp; omega))
      clear hown
      go_wp2_with fail
      go_returns
      exact ⟨_, rfl, HO.out, hb0.trans (hb.mono (by have := HZ0.out; omega))⟩
set_option maxRecDepth 100000 in
set_option maxHeartbeats 2000000 in
theorem rbytes_4 (o : Ob) (w : World) (b0 : 1 ≤ o.id) (b1 : o.id ≤ 500) (b2 : -1 ≤ o.cd) (b3 : o.cd ≤ 399) : Calls Try.prog 14 #[.agg #[.int .i64 o.id, .int .i64 o.cd, .int .i64 o.ow, .int .i64 o.po, .int .i64 o.tg, .int .i64 o.da, .int .i64 o.co, .int .i64 o.pp, .int .i64 o.pt, .bool false, .bool false, .bool true]] w (ByAt w ((nsO o 4).map (· % 256))) := by
  obtain ⟨i0, hi, hz0, hz1, hz2⟩ := info_parts info_u8
  obtain ⟨ns, hns⟩ : ∃ ns, nsO o 4 = ns := ⟨_, rfl⟩
  have hnl : ns.length = 12 := by rw [← hns]; rfl
  rw [hns]
  have HNL := Lib.hid hnl
  have HNS := Lib.hid hns
  clear hns hnl
  go_enter Try.func14, Try.ntmps14
  go_wp2_with fail
  obtain ⟨w0, hw0⟩ : ∃ w0, w0 = (w.alloc (.cells #[.int .i64 o.id, .int .i64 o.cd, .int .i64 o.ow, .int .i64 o.po, .int .i64 o.tg, .int .i64 o.da, .int .i64 o.co, .int .i64 o.pp, .int .i64 o.pt, .bool false, .bool false, .bool true] 23)).alloc (.cells (((nsO o 4).map (Value.int .i64)).toArray) 3) := ⟨_, rfl⟩
  have hw0' : w0 = (w.alloc (.cells #[.int .i64 o.id, .int .i64 o.cd, .int .i64 o.ow, .int .i64 o.po, .int .i64 o.tg, .int .i64 o.da, .int .i64 o.co, .int .i64 o.pp, .int .i64 o.pt, .bool false, .bool false, .bool true] 23)).alloc (.cells #[.int .i64 (o.id / 256), .int .i64 (o.id % 256), .int .i64 ((o.cd + 1) / 256), .int .i64 ((o.cd + 1) % 256), .int .i64 (o.ow), .int .i64 (o.po), .int .i64 (o.tg), .int .i64 (o.da), .int .i64 (o.co), .int .i64 (o.pp), .int .i64 (o.pt), .int .i64 (4)] 3) := hw0
  rw [← hw0']
  have hb0 : Below w.heap.size w w0 := by rw [hw0]; exact ((Below.refl _ _).alloc (Nat.le_refl _) _).alloc (by simp) _
  have hz : w0.heap.size = w.heap.size + 2 := by rw [hw0]; simp
  have HL : Hid (w0.heap[w.heap.size + 1]? = some (.cells ((ns.map (Value.int .i64)).toArray) 3 (0, 0))) := Lib.hid (by rw [← HNS.out, hw0]; have := heap_alloc_new (w.alloc (.cells #[.int .i64 o.id, .int .i64 o.cd, .int .i64 o.ow, .int .i64 o.po, .int .i64 o.tg, .int .i64 o.da, .int .i64 o.co, .int .i64 o.pp, .int .i64 o.pt, .bool false, .bool false, .bool true] 23)) (.cells (((nsO o 4).map (Value.int .i64)).toArray) 3); simpa using this)
  have HZ0 := Lib.hid hz
  clear hw0 hw0' hz
  go_loopw [4, 50] (fun v i wr => ByRel w0 ns v i wr) (fun _ i _ => 12 - (intOf i).toNat)
  case atStart => exact ⟨0, by omega, rfl, World.ownsRow_nil _ _ _ _, Below.refl _ _⟩
  case round =>
    obtain ⟨k, hk, rfl, hown, hb⟩ := hrel
    have hzr := hb.size
    by_cases hlt : k < 12
    · obtain ⟨z, hz⟩ : ∃ z, ns[k]? = some z := ⟨ns[k]'(by have := HNL.out; omega), List.getElem?_eq_getElem (by have := HNL.out; omega)⟩
      have e1 := (hb.cell (p := ⟨w.heap.size + 1, k, none⟩) (by show w.heap.size + 1 < _; have := HZ0.out; omega)).trans ((cell_of_row w0 (w.heap.size + 1) k _ 3 (0, 0) HL.out).trans (show _ = some (Value.int .i64 z) by rw [List.getElem?_toArray, List.getElem?_map, hz]; rfl))
      have i1 : (0 : Int) ≤ (k : Int) := by omega
      have i2 : (k : Int) < 12 := by omega
      have h2 : Hid ((ns.take (k + 1)).map (· % 256) = (ns.take k).map (· % 256) ++ [z % 256]) := Lib.hid (by rw [List.take_add_one, hz]; simp)
      have hl2 : ((ns.take k).map (· % 256)).length ≤ 12 := by simp; omega
      obtain ⟨ys, hys⟩ : ∃ ys, ys = (ns.take k).map (· % 256) := ⟨_, rfl⟩
      rw [← hys] at hown h2 hl2
      clear hz hys
      go_wp2_with (at_builtin; refine wpList_append_own _ rfl _ _ 30 rfl w0.heap.size 5 i0 (.int .u8 0) 1 1 Try.underlying30 hi hz0 hz1 hz2 rfl (by decide) _ _ _ rfl (hown.alloc _) ⟨wr.heap.size, 0, none⟩ 1 1 [.int .u8 (z % 256)] rfl rfl ?c1 ?c2 ?c3 ?c4 ?c5 ?_)
      case c1 => exact cell_one_new _ _ _
      case c2 => simp [Value.oneCell']
      case c3 => unfold maxLen; omega
      case c4 => omega
      case c5 => simp; omega
      intro v' w1 hown' hgrow _
      have hb1 : Below w0.heap.size w0 w1 := (hb.alloc hb.size _).grown hgrow (by simp; omega) (fun k hk => (hown.lt k hk).1)
      have HO := Lib.hid hown'
      clear hown hown' hgrow
      go_wp2_with fail
      go_roundw
      case rel => exact ⟨k + 1, by omega, by go_num, by rw [h2.out]; simpa using HO.out, hb1⟩
      case measure => simp [intOf]; omega
    · have hn1 : decide ((k : Int) < 12) = false := by simp; omega
      rw [List.take_of_length_le (by have := HNL.out; omega)] at hown
      have HO := Lib.hid (seg_of_owns hown (by have := HNL.out; unfold maxLen; simp; omega))
      clear hown
      go_wp2_with fail
      go_returns
      exact ⟨_, rfl, HO.out, hb0.trans (hb.mono (by have := HZ0.out; omega))⟩
set_option maxRecDepth 100000 in
set_option maxHeartbeats 2000000 in
theorem rbytes_2 (o : Ob) (w : World) (b0 : 1 ≤ o.id) (b1 : o.id ≤ 500) (b2 : -1 ≤ o.cd) (b3 : o.cd ≤ 399) : Calls Try.prog 14 #[.agg #[.int .i64 o.id, .int .i64 o.cd, .int .i64 o.ow, .int .i64 o.po, .int .i64 o.tg, .int .i64 o.da, .int .i64 o.co, .int .i64 o.pp, .int .i64 o.pt, .bool false, .bool true, .bool false]] w (ByAt w ((nsO o 2).map (· % 256))) := by
  obtain ⟨i0, hi, hz0, hz1, hz2⟩ := info_parts info_u8
  obtain ⟨ns, hns⟩ : ∃ ns, nsO o 2 = ns := ⟨_, rfl⟩
  have hnl : ns.length = 12 := by rw [← hns]; rfl
  rw [hns]
  have HNL := Lib.hid hnl
  have HNS := Lib.hid hns
  clear hns hnl
  go_enter Try.func14, Try.ntmps14
  go_wp2_with fail
  obtain ⟨w0, hw0⟩ : ∃ w0, w0 = (w.alloc (.cells #[.int .i64 o.id, .int .i64 o.cd, .int .i64 o.ow, .int .i64 o.po, .int .i64 o.tg, .int .i64 o.da, .int .i64 o.co, .int .i64 o.pp, .int .i64 o.pt, .bool false, .bool true, .bool false] 23)).alloc (.cells (((nsO o 2).map (Value.int .i64)).toArray) 3) := ⟨_, rfl⟩
  have hw0' : w0 = (w.alloc (.cells #[.int .i64 o.id, .int .i64 o.cd, .int .i64 o.ow, .int .i64 o.po, .int .i64 o.tg, .int .i64 o.da, .int .i64 o.co, .int .i64 o.pp, .int .i64 o.pt, .bool false, .bool true, .bool false] 23)).alloc (.cells #[.int .i64 (o.id / 256), .int .i64 (o.id % 256), .int .i64 ((o.cd + 1) / 256), .int .i64 ((o.cd + 1) % 256), .int .i64 (o.ow), .int .i64 (o.po), .int .i64 (o.tg), .int .i64 (o.da), .int .i64 (o.co), .int .i64 (o.pp), .int .i64 (o.pt), .int .i64 (2)] 3) := hw0
  rw [← hw0']
  have hb0 : Below w.heap.size w w0 := by rw [hw0]; exact ((Below.refl _ _).alloc (Nat.le_refl _) _).alloc (by simp) _
  have hz : w0.heap.size = w.heap.size + 2 := by rw [hw0]; simp
  have HL : Hid (w0.heap[w.heap.size + 1]? = some (.cells ((ns.map (Value.int .i64)).toArray) 3 (0, 0))) := Lib.hid (by rw [← HNS.out, hw0]; have := heap_alloc_new (w.alloc (.cells #[.int .i64 o.id, .int .i64 o.cd, .int .i64 o.ow, .int .i64 o.po, .int .i64 o.tg, .int .i64 o.da, .int .i64 o.co, .int .i64 o.pp, .int .i64 o.pt, .bool false, .bool true, .bool false] 23)) (.cells (((nsO o 2).map (Value.int .i64)).toArray) 3); simpa using this)
  have HZ0 := Lib.hid hz
  clear hw0 hw0' hz
  go_loopw [4, 50] (fun v i wr => ByRel w0 ns v i wr) (fun _ i _ => 12 - (intOf i).toNat)
  case atStart => exact ⟨0, by omega, rfl, World.ownsRow_nil _ _ _ _, Below.refl _ _⟩
  case round =>
    obtain ⟨k, hk, rfl, hown, hb⟩ := hrel
    have hzr := hb.size
    by_cases hlt : k < 12
    · obtain ⟨z, hz⟩ : ∃ z, ns[k]? = some z := ⟨ns[k]'(by have := HNL.out; omega), List.getElem?_eq_getElem (by have := HNL.out; omega)⟩
      have e1 := (hb.cell (p := ⟨w.heap.size + 1, k, none⟩) (by show w.heap.size + 1 < _; have := HZ0.out; omega)).trans ((cell_of_row w0 (w.heap.size + 1) k _ 3 (0, 0) HL.out).trans (show _ = some (Value.int .i64 z) by rw [List.getElem?_toArray, List.getElem?_map, hz]; rfl))
      have i1 : (0 : Int) ≤ (k : Int) := by omega
      have i2 : (k : Int) < 12 := by omega
      have h2 : Hid ((ns.take (k + 1)).map (· % 256) = (ns.take k).map (· % 256) ++ [z % 256]) := Lib.hid (by rw [List.take_add_one, hz]; simp)
      have hl2 : ((ns.take k).map (· % 256)).length ≤ 12 := by simp; omega
      obtain ⟨ys, hys⟩ : ∃ ys, ys = (ns.take k).map (· % 256) := ⟨_, rfl⟩
      rw [← hys] at hown h2 hl2
      clear hz hys
      go_wp2_with (at_builtin; refine wpList_append_own _ rfl _ _ 30 rfl w0.heap.size 5 i0 (.int .u8 0) 1 1 Try.underlying30 hi hz0 hz1 hz2 rfl (by decide) _ _ _ rfl (hown.alloc _) ⟨wr.heap.size, 0, none⟩ 1 1 [.int .u8 (z % 256)] rfl rfl ?c1 ?c2 ?c3 ?c4 ?c5 ?_)
      case c1 => exact cell_one_new _ _ _
      case c2 => simp [Value.oneCell']
      case c3 => unfold maxLen; omega
      case c4 => omega
      case c5 => simp; omega
      intro v' w1 hown' hgrow _
      have hb1 : Below w0.heap.size w0 w1 := (hb.alloc hb.size _).grown hgrow (by simp; omega) (fun k hk => (hown.lt k hk).1)
      have HO := Lib.hid hown'
      clear hown hown' hgrow
      go_wp2_with fail
      go_roundw
      case rel => exact ⟨k + 1, by omega, by go_num, by rw [h2.out]; simpa using HO.out, hb1⟩
      case measure => simp [intOf]; omega
    · have hn1 : decide ((k : Int) < 12) = false := by simp; omega
      rw [List.take_of_length_le (by have := HNL.out; omega)] at hown
      have HO := Lib.hid (seg_of_owns hown (by have := HNL.out; unfold maxLen; simp; omega))
      clear hown
      go_wp2_with fail
      go_returns
      exact ⟨_, rfl, HO.out, hb0.trans (hb.mono (by have := HZ0.out; omega))⟩
set_option maxRecDepth 100000 in
set_option maxHeartbeats 2000000 in
theorem rbytes_6 (o : Ob) (w : World) (b0 : 1 ≤ o.id) (b1 : o.id ≤ 500) (b2 : -1 ≤ o.cd) (b3 : o.cd ≤ 399) : Calls Try.prog 14 #[.agg #[.int .i64 o.id, .int .i64 o.cd, .int .i64 o.ow, .int .i64 o.po, .int .i64 o.tg, .int .i64 o.da, .int .i64 o.co, .int .i64 o.pp, .int .i64 o.pt, .bool false, .bool true, .bool true]] w (ByAt w ((nsO o 6).map (· % 256))) := by
  obtain ⟨i0, hi, hz0, hz1, hz2⟩ := info_parts info_u8
  obtain ⟨ns, hns⟩ : ∃ ns, nsO o 6 = ns := ⟨_, rfl⟩
  have hnl : ns.length = 12 := by rw [← hns]; rfl
  rw [hns]
  have HNL := Lib.hid hnl
  have HNS := Lib.hid hns
  clear hns hnl
  go_enter Try.func14, Try.ntmps14
  go_wp2_with fail
  obtain ⟨w0, hw0⟩ : ∃ w0, w0 = (w.alloc (.cells #[.int .i64 o.id, .int .i64 o.cd, .int .i64 o.ow, .int .i64 o.po, .int .i64 o.tg, .int .i64 o.da, .int .i64 o.co, .int .i64 o.pp, .int .i64 o.pt, .bool false, .bool true, .bool true] 23)).alloc (.cells (((nsO o 6).map (Value.int .i64)).toArray) 3) := ⟨_, rfl⟩
  have hw0' : w0 = (w.alloc (.cells #[.int .i64 o.id, .int .i64 o.cd, .int .i64 o.ow, .int .i64 o.po, .int .i64 o.tg, .int .i64 o.da, .int .i64 o.co, .int .i64 o.pp, .int .i64 o.pt, .bool false, .bool true, .bool true] 23)).alloc (.cells #[.int .i64 (o.id / 256), .int .i64 (o.id % 256), .int .i64 ((o.cd + 1) / 256), .int .i64 ((o.cd + 1) % 256), .int .i64 (o.ow), .int .i64 (o.po), .int .i64 (o.tg), .int .i64 (o.da), .int .i64 (o.co), .int .i64 (o.pp), .int .i64 (o.pt), .int .i64 (6)] 3) := hw0
  rw [← hw0']
  have hb0 : Below w.heap.size w w0 := by rw [hw0]; exact ((Below.refl _ _).alloc (Nat.le_refl _) _).alloc (by simp) _
  have hz : w0.heap.size = w.heap.size + 2 := by rw [hw0]; simp
  have HL : Hid (w0.heap[w.heap.size + 1]? = some (.cells ((ns.map (Value.int .i64)).toArray) 3 (0, 0))) := Lib.hid (by rw [← HNS.out, hw0]; have := heap_alloc_new (w.alloc (.cells #[.int .i64 o.id, .int .i64 o.cd, .int .i64 o.ow, .int .i64 o.po, .int .i64 o.tg, .int .i64 o.da, .int .i64 o.co, .int .i64 o.pp, .int .i64 o.pt, .bool false, .bool true, .bool true] 23)) (.cells (((nsO o 6).map (Value.int .i64)).toArray) 3); simpa using this)
  have HZ0 := Lib.hid hz
  clear hw0 hw0' hz
  go_loopw [4, 50] (fun v i wr => ByRel w0 ns v i wr) (fun _ i _ => 12 - (intOf i).toNat)
  case atStart => exact ⟨0, by omega, rfl, World.ownsRow_nil _ _ _ _, Below.refl _ _⟩
  case round =>
    obtain ⟨k, hk, rfl, hown, hb⟩ := hrel
    have hzr := hb.size
    by_cases hlt : k < 12
    · obtain ⟨z, hz⟩ : ∃ z, ns[k]? = some z := ⟨ns[k]'(by have := HNL.out; omega), List.getElem?_eq_getElem (by have := HNL.out; omega)⟩
      have e1 := (hb.cell (p := ⟨w.heap.size + 1, k, none⟩) (by show w.heap.size + 1 < _; have := HZ0.out; omega)).trans ((cell_of_row w0 (w.heap.size + 1) k _ 3 (0, 0) HL.out).trans (show _ = some (Value.int .i64 z) by rw [List.getElem?_toArray, List.getElem?_map, hz]; rfl))
      have i1 : (0 : Int) ≤ (k : Int) := by omega
      have i2 : (k : Int) < 12 := by omega
      have h2 : Hid ((ns.take (k + 1)).map (· % 256) = (ns.take k).map (· % 256) ++ [z % 256]) := Lib.hid (by rw [List.take_add_one, hz]; simp)
      have hl2 : ((ns.take k).map (· % 256)).length ≤ 12 := by simp; omega
      obtain ⟨ys, hys⟩ : ∃ ys, ys = (ns.take k).map (· % 256) := ⟨_, rfl⟩
      rw [← hys] at hown h2 hl2
      clear hz hys
      go_wp2_with (at_builtin; refine wpList_append_own _ rfl _ _ 30 rfl w0.heap.size 5 i0 (.int .u8 0) 1 1 Try.underlying30 hi hz0 hz1 hz2 rfl (by decide) _ _ _ rfl (hown.alloc _) ⟨wr.heap.size, 0, none⟩ 1 1 [.int .u8 (z % 256)] rfl rfl ?c1 ?c2 ?c3 ?c4 ?c5 ?_)
      case c1 => exact cell_one_new _ _ _
      case c2 => simp [Value.oneCell']
      case c3 => unfold maxLen; omega
      case c4 => omega
      case c5 => simp; omega
      intro v' w1 hown' hgrow _
      have hb1 : Below w0.heap.size w0 w1 := (hb.alloc hb.size _).grown hgrow (by simp; omega) (fun k hk => (hown.lt k hk).1)
      have HO := Lib.hid hown'
      clear hown hown' hgrow
      go_wp2_with fail
      go_roundw
      case rel => exact ⟨k + 1, by omega, by go_num, by rw [h2.out]; simpa using HO.out, hb1⟩
      case measure => simp [intOf]; omega
    · have hn1 : decide ((k : Int) < 12) = false := by simp; omega
      rw [List.take_of_length_le (by have := HNL.out; omega)] at hown
      have HO := Lib.hid (seg_of_owns hown (by have := HNL.out; unfold maxLen; simp; omega))
      clear hown
      go_wp2_with fail
      go_returns
      exact ⟨_, rfl, HO.out, hb0.trans (hb.mono (by have := HZ0.out; omega))⟩
set_option maxRecDepth 100000 in
set_option maxHeartbeats 2000000 in
theorem rbytes_1 (o : Ob) (w : World) (b0 : 1 ≤ o.id) (b1 : o.id ≤ 500) (b2 : -1 ≤ o.cd) (b3 : o.cd ≤ 399) : Calls Try.prog 14 #[.agg #[.int .i64 o.id, .int .i64 o.cd, .int .i64 o.ow, .int .i64 o.po, .int .i64 o.tg, .int .i64 o.da, .int .i64 o.co, .int .i64 o.pp, .int .i64 o.pt, .bool true, .bool false, .bool false]] w (ByAt w ((nsO o 1).map (· % 256))) := by
  obtain ⟨i0, hi, hz0, hz1, hz2⟩ := info_parts info_u8
  obtain ⟨ns, hns⟩ : ∃ ns, nsO o 1 = ns := ⟨_, rfl⟩
  have hnl : ns.length = 12 := by rw [← hns]; rfl
  rw [hns]
  have HNL := Lib.hid hnl
  have HNS := Lib.hid hns
  clear hns hnl
  go_enter Try.func14, Try.ntmps14
  go_wp2_with fail
  obtain ⟨w0, hw0⟩ : ∃ w0, w0 = (w.alloc (.cells #[.int .i64 o.id, .int .i64 o.cd, .int .i64 o.ow, .int .i64 o.po, .int .i64 o.tg, .int .i64 o.da, .int .i64 o.co, .int .i64 o.pp, .int .i64 o.pt, .bool true, .bool false, .bool false] 23)).alloc (.cells (((nsO o 1).map (Value.int .i64)).toArray) 3) := ⟨_, rfl⟩
  have hw0' : w0 = (w.alloc (.cells #[.int .i64 o.id, .int .i64 o.cd, .int .i64 o.ow, .int .i64 o.po, .int .i64 o.tg, .int .i64 o.da, .int .i64 o.co, .int .i64 o.pp, .int .i64 o.pt, .bool true, .bool false, .bool false] 23)).alloc (.cells #[.int .i64 (o.id / 256), .int .i64 (o.id % 256), .int .i64 ((o.cd + 1) / 256), .int .i64 ((o.cd + 1) % 256), .int .i64 (o.ow), .int .i64 (o.po), .int .i64 (o.tg), .int .i64 (o.da), .int .i64 (o.co), .int .i64 (o.pp), .int .i64 (o.pt), .int .i64 (1)] 3) := hw0
  rw [← hw0']
  have hb0 : Below w.heap.size w w0 := by rw [hw0]; exact ((Below.refl _ _).alloc (Nat.le_refl _) _).alloc (by simp) _
  have hz : w0.heap.size = w.heap.size + 2 := by rw [hw0]; simp
  have HL : Hid (w0.heap[w.heap.size + 1]? = some (.cells ((ns.map (Value.int .i64)).toArray) 3 (0, 0))) := Lib.hid (by rw [← HNS.out, hw0]; have := heap_alloc_new (w.alloc (.cells #[.int .i64 o.id, .int .i64 o.cd, .int .i64 o.ow, .int .i64 o.po, .int .i64 o.tg, .int .i64 o.da, .int .i64 o.co, .int .i64 o.pp, .int .i64 o.pt, .bool true, .bool false, .bool false] 23)) (.cells (((nsO o 1).map (Value.int .i64)).toArray) 3); simpa using this)
  have HZ0 := Lib.hid hz
  clear hw0 hw0' hz
  go_loopw [4, 50] (fun v i wr => ByRel w0 ns v i wr) (fun _ i _ => 12 - (intOf i).toNat)
  case atStart => exact ⟨0, by omega, rfl, World.ownsRow_nil _ _ _ _, Below.refl _ _⟩
  case round =>
    obtain ⟨k, hk, rfl, hown, hb⟩ := hrel
    have hzr := hb.size
    by_cases hlt : k < 12
    · obtain ⟨z, hz⟩ : ∃ z, ns[k]? = some z := ⟨ns[k]'(by have := HNL.out; omega), List.getElem?_eq_getElem (by have := HNL.out; omega)⟩
      have e1 := (hb.cell (p := ⟨w.heap.size + 1, k, none⟩) (by show w.heap.size + 1 < _; have := HZ0.out; omega)).trans ((cell_of_row w0 (w.heap.size + 1) k _ 3 (0, 0) HL.out).trans (show _ = some (Value.int .i64 z) by rw [List.getElem?_toArray, List.getElem?_map, hz]; rfl))
      have i1 : (0 : Int) ≤ (k : Int) := by omega
      have i2 : (k : Int) < 12 := by omega
      have h2 : Hid ((ns.take (k + 1)).map (· % 256) = (ns.take k).map (· % 256) ++ [z % 256]) := Lib.hid (by rw [List.take_add_one, hz]; simp)
      have hl2 : ((ns.take k).map (· % 256)).length ≤ 12 := by simp; omega
      obtain ⟨ys, hys⟩ : ∃ ys, ys = (ns.take k).map (· % 256) := ⟨_, rfl⟩
      rw [← hys] at hown h2 hl2
      clear hz hys
      go_wp2_with (at_builtin; refine wpList_append_own _ rfl _ _ 30 rfl w0.heap.size 5 i0 (.int .u8 0) 1 1 Try.underlying30 hi hz0 hz1 hz2 rfl (by decide) _ _ _ rfl (hown.alloc _) ⟨wr.heap.size, 0, none⟩ 1 1 [.int .u8 (z % 256)] rfl rfl ?c1 ?c2 ?c3 ?c4 ?c5 ?_)
      case c1 => exact cell_one_new _ _ _
      case c2 => simp [Value.oneCell']
      case c3 => unfold maxLen; omega
      case c4 => omega
      case c5 => simp; omega
      intro v' w1 hown' hgrow _
      have hb1 : Below w0.heap.size w0 w1 := (hb.alloc hb.size _).grown hgrow (by simp; omega) (fun k hk => (hown.lt k hk).1)
      have HO := Lib.hid hown'
      clear hown hown' hgrow
      go_wp2_with fail
      go_roundw
      case rel => exact ⟨k + 1, by omega, by go_num, by rw [h2.out]; simpa using HO.out, hb1⟩
      case measure => simp [intOf]; omega
    · have hn1 : decide ((k : Int) < 12) = false := by simp; omega
      rw [List.take_of_length_le (by have := HNL.out; omega)] at hown
      have HO := Lib.hid (seg_of_owns hown (by have := HNL.out; unfold maxLen; simp; omega))
      clear hown
      go_wp2_with fail
      go_returns
      exact ⟨_, rfl, HO.out, hb0.trans (hb.mono (by have := HZ0.out; omega))⟩
set_option maxRecDepth 100000 in
set_option maxHeartbeats 2000000 in
theorem rbytes_5 (o : Ob) (w : World) (b0 : 1 ≤ o.id) (b1 : o.id ≤ 500) (b2 : -1 ≤ o.cd) (b3 : o.cd ≤ 399) : Calls Try.prog 14 #[.agg #[.int .i64 o.id, .int .i64 o.cd, .int .i64 o.ow, .int .i64 o.po, .int .i64 o.tg, .int .i64 o.da, .int .i64 o.co, .int .i64 o.pp, .int .i64 o.pt, .bool true, .bool false, .bool true]] w (ByAt w ((nsO o 5).map (· % 256))) := by
  obtain ⟨i0, hi, hz0, hz1, hz2⟩ := info_parts info_u8
  obtain ⟨ns, hns⟩ : ∃ ns, nsO o 5 = ns := ⟨_, rfl⟩
  have hnl : ns.length = 12 := by rw [← hns]; rfl
  rw [hns]
  have HNL := Lib.hid hnl
  have HNS := Lib.hid hns
  clear hns hnl
  go_enter Try.func14, Try.ntmps14
  go_wp2_with fail
  obtain ⟨w0, hw0⟩ : ∃ w0, w0 = (w.alloc (.cells #[.int .i64 o.id, .int .i64 o.cd, .int .i64 o.ow, .int .i64 o.po, .int .i64 o.tg, .int .i64 o.da, .int .i64 o.co, .int .i64 o.pp, .int .i64 o.pt, .bool true, .bool false, .bool true] 23)).alloc (.cells (((nsO o 5).map (Value.int .i64)).toArray) 3) := ⟨_, rfl⟩
  have hw0' : w0 = (w.alloc (.cells #[.int .i64 o.id, .int .i64 o.cd, .int .i64 o.ow, .int .i64 o.po, .int .i64 o.tg, .int .i64 o.da, .int .i64 o.co, .int .i64 o.pp, .int .i64 o.pt, .bool true, .bool false, .bool true] 23)).alloc (.cells #[.int .i64 (o.id / 256), .int .i64 (o.id % 256), .int .i64 ((o.cd + 1) / 256), .int .i64 ((o.cd + 1) % 256), .int .i64 (o.ow), .int .i64 (o.po), .int .i64 (o.tg), .int .i64 (o.da), .int .i64 (o.co), .int .i64 (o.pp), .int .i64 (o.pt), .int .i64 (5)] 3) := hw0
  rw [← hw0']
  have hb0 : Below w.heap.size w w0 := by rw [hw0]; exact ((Below.refl _ _).alloc (Nat.le_refl _) _).alloc (by simp) _
  have hz : w0.heap.size = w.heap.size + 2 := by rw [hw0]; simp
  have HL : Hid (w0.heap[w.heap.size + 1]? = some (.cells ((ns.map (Value.int .i64)).toArray) 3 (0, 0))) := Lib.hid (by rw [← HNS.out, hw0]; have := heap_alloc_new (w.alloc (.cells #[.int .i64 o.id, .int .i64 o.cd, .int .i64 o.ow, .int .i64 o.po, .int .i64 o.tg, .int .i64 o.da, .int .i64 o.co, .int .i64 o.pp, .int .i64 o.pt, .bool true, .bool false, .bool true] 23)) (.cells (((nsO o 5).map (Value.int .i64)).toArray) 3); simpa using this)
  have HZ0 := Lib.hid hz
  clear hw0 hw0' hz
  go_loopw [4, 50] (fun v i wr => ByRel w0 ns v i wr) (fun _ i _ => 12 - (intOf i).toNat)
  case atStart => exact ⟨0, by omega, rfl, World.ownsRow_nil _ _ _ _, Below.refl _ _⟩
  case round =>
    obtain ⟨k, hk, rfl, hown, hb⟩ := hrel
    have hzr := hb.size
    by_cases hlt : k < 12
    · obtain ⟨z, hz⟩ : ∃ z, ns[k]? = some z := ⟨ns[k]'(by have := HNL.out; omega), List.getElem?_eq_getElem (by have := HNL.out; omega)⟩
      have e1 := (hb.cell (p := ⟨w.heap.size + 1, k, none⟩) (by show w.heap.size + 1 < _; have := HZ0.out; omega)).trans ((cell_of_row w0 (w.heap.size + 1) k _ 3 (0, 0) HL.out).trans (show _ = some (Value.int .i64 z) by rw [List.getElem?_toArray, List.getElem?_map, hz]; rfl))
      have i1 : (0 : Int) ≤ (k : Int) := by omega
      have i2 : (k : Int) < 12 := by omega
      have h2 : Hid ((ns.take (k + 1)).map (· % 256) = (ns.take k).map (· % 256) ++ [z % 256]) := Lib.hid (by rw [List.take_add_one, hz]; simp)
      have hl2 : ((ns.take k).map (· % 256)).length ≤ 12 := by simp; omega
      obtain ⟨ys, hys⟩ : ∃ ys, ys = (ns.take k).map (· % 256) := ⟨_, rfl⟩
      rw [← hys] at hown h2 hl2
      clear hz hys
      go_wp2_with (at_builtin; refine wpList_append_own _ rfl _ _ 30 rfl w0.heap.size 5 i0 (.int .u8 0) 1 1 Try.underlying30 hi hz0 hz1 hz2 rfl (by decide) _ _ _ rfl (hown.alloc _) ⟨wr.heap.size, 0, none⟩ 1 1 [.int .u8 (z % 256)] rfl rfl ?c1 ?c2 ?c3 ?c4 ?c5 ?_)
      case c1 => exact cell_one_new _ _ _
      case c2 => simp [Value.oneCell']
      case c3 => unfold maxLen; omega
      case c4 => omega
      case c5 => simp; omega
      intro v' w1 hown' hgrow _
      have hb1 : Below w0.heap.size w0 w1 := (hb.alloc hb.size _).grown hgrow (by simp; omega) (fun k hk => (hown.lt k hk).1)
      have HO := Lib.hid hown'
      clear hown hown' hgrow
      go_wp2_with fail
      go_roundw
      case rel => exact ⟨k + 1, by omega, by go_num, by rw [h2.out]; simpa using HO.out, hb1⟩
      case measure => simp [intOf]; omega
    · have hn1 : decide ((k : Int) < 12) = false := by simp; omega
      rw [List.take_of_length_le (by have := HNL.out; omega)] at hown
      have HO := Lib.hid (seg_of_owns hown (by have := HNL.out; unfold maxLen; simp; omega))
      clear hown
      go_wp2_with fail
      go_returns
      exact ⟨_, rfl, HO.out, hb0.trans (hb.mono (by have := HZ0.out; omega))⟩
set_option maxRecDepth 100000 in
set_option maxHeartbeats 2000000 in
theorem rbytes_3 (o : Ob) (w : World) (b0 : 1 ≤ o.id) (b1 : o.id ≤ 500) (b2 : -1 ≤ o.cd) (b3 : o.cd ≤ 399) : Calls Try.prog 14 #[.agg #[.int .i64 o.id, .int .i64 o.cd, .int .i64 o.ow, .int .i64 o.po, .int .i64 o.tg, .int .i64 o.da, .int .i64 o.co, .int .i64 o.pp, .int .i64 o.pt, .bool true, .bool true, .bool false]] w (ByAt w ((nsO o 3).map (· % 256))) := by
  obtain ⟨i0, hi, hz0, hz1, hz2⟩ := info_parts info_u8
  obtain ⟨ns, hns⟩ : ∃ ns, nsO o 3 = ns := ⟨_, rfl⟩
  have hnl : ns.length = 12 := by rw [← hns]; rfl
  rw [hns]
  have HNL := Lib.hid hnl
  have HNS := Lib.hid hns
  clear hns hnl
  go_enter Try.func14, Try.ntmps14
  go_wp2_with fail
  obtain ⟨w0, hw0⟩ : ∃ w0, w0 = (w.alloc (.cells #[.int .i64 o.id, .int .i64 o.cd, .int .i64 o.ow, .int .i64 o.po, .int .i64 o.tg, .int .i64 o.da, .int .i64 o.co, .int .i64 o.pp, .int .i64 o.pt, .bool true, .bool true, .bool false] 23)).alloc (.cells (((nsO o 3).map (Value.int .i64)).toArray) 3) := ⟨_, rfl⟩
  have hw0' : w0 = (w.alloc (.cells #[.int .i64 o.id, .int .i64 o.cd, .int .i64 o.ow, .int .i64 o.po, .int .i64 o.tg, .int .i64 o.da, .int .i64 o.co, .int .i64 o.pp, .int .i64 o.pt, .bool true, .bool true, .bool false] 23)).alloc (.cells #[.int .i64 (o.id / 256), .int .i64 (o.id % 256), .int .i64 ((o.cd + 1) / 256), .int .i64 ((o.cd + 1) % 256), .int .i64 (o.ow), .int .i64 (o.po), .int .i64 (o.tg), .int .i64 (o.da), .int .i64 (o.co), .int .i64 (o.pp), .int .i64 (o.pt), .int .i64 (3)] 3) := hw0
  rw [← hw0']
  have hb0 : Below w.heap.size w w0 := by rw [hw0]; exact ((Below.refl _ _).alloc (Nat.le_refl _) _).alloc (by simp) _
  have hz : w0.heap.size = w.heap.size + 2 := by rw [hw0]; simp
  have HL : Hid (w0.heap[w.heap.size + 1]? = some (.cells ((ns.map (Value.int .i64)).toArray) 3 (0, 0))) := Lib.hid (by rw [← HNS.out, hw0]; have := heap_alloc_new (w.alloc (.cells #[.int .i64 o.id, .int .i64 o.cd, .int .i64 o.ow, .int .i64 o.po, .int .i64 o.tg, .int .i64 o.da, .int .i64 o.co, .int .i64 o.pp, .int .i64 o.pt, .bool true, .bool true, .bool false] 23)) (.cells (((nsO o 3).map (Value.int .i64)).toArray) 3); simpa using this)
  have HZ0 := Lib.hid hz
  clear hw0 hw0' hz
  go_loopw [4, 50] (fun v i wr => ByRel w0 ns v i wr) (fun _ i _ => 12 - (intOf i).toNat)
  case atStart => exact ⟨0, by omega, rfl, World.ownsRow_nil _ _ _ _, Below.refl _ _⟩
  case round =>
    obtain ⟨k, hk, rfl, hown, hb⟩ := hrel
    have hzr := hb.size
    by_cases hlt : k < 12
    · obtain ⟨z, hz⟩ : ∃ z, ns[k]? = some z := ⟨ns[k]'(by have := HNL.out; omega), List.getElem?_eq_getElem (by have := HNL.out; omega)⟩
      have e1 := (hb.cell (p := ⟨w.heap.size + 1, k, none⟩) (by show w.heap.size + 1 < _; have := HZ0.out; omega)).trans ((cell_of_row w0 (w.heap.size + 1) k _ 3 (0, 0) HL.out).trans (show _ = some (Value.int .i64 z) by rw [List.getElem?_toArray, List.getElem?_map, hz]; rfl))
      have i1 : (0 : Int) ≤ (k : Int) := by omega
      have i2 : (k : Int) < 12 := by omega
      have h2 : Hid ((ns.take (k + 1)).map (· % 256) = (ns.take k).map (· % 256) ++ [z % 256]) := Lib.hid (by rw [List.take_add_one, hz]; simp)
      have hl2 : ((ns.take k).map (· % 256)).length ≤ 12 := by simp; omega
      obtain ⟨ys, hys⟩ : ∃ ys, ys = (ns.take k).map (· % 256) := ⟨_, rfl⟩
      rw [← hys] at hown h2 hl2
      clear hz hys
      go_wp2_with (at_builtin; refine wpList_append_own _ rfl _ _ 30 rfl w0.heap.size 5 i0 (.int .u8 0) 1 1 Try.underlying30 hi hz0 hz1 hz2 rfl (by decide) _ _ _ rfl (hown.alloc _) ⟨wr.heap.size, 0, none⟩ 1 1 [.int .u8 (z % 256)] rfl rfl ?c1 ?c2 ?c3 ?c4 ?c5 ?_)
      case c1 => exact cell_one_new _ _ _
      case c2 => simp [Value.oneCell']
      case c3 => unfold maxLen; omega
      case c4 => omega
      case c5 => simp; omega
      intro v' w1 hown' hgrow _
      have hb1 : Below w0.heap.size w0 w1 := (hb.alloc hb.size _).grown hgrow (by simp; omega) (fun k hk => (hown.lt k hk).1)
      have HO := Lib.hid hown'
      clear hown hown' hgrow
      go_wp2_with fail
      go_roundw
      case rel => exact ⟨k + 1, by omega, by go_num, by rw [h2.out]; simpa using HO.out, hb1⟩
      case measure => simp [intOf]; omega
    · have hn1 : decide ((k : Int) < 12) = false := by simp; omega
      rw [List.take_of_length_le (by have := HNL.out; omega)] at hown
      have HO := Lib.hid (seg_of_owns hown (by have := HNL.out; unfold maxLen; simp; omega))
      clear hown
      go_wp2_with fail
      go_returns
      exact ⟨_, rfl, HO.out, hb0.trans (hb.mono (by have := HZ0.out; omega))⟩
set_option maxRecDepth 100000 in
set_option maxHeartbeats 2000000 in
theorem rbytes_7 (o : Ob) (w : World) (b0 : 1 ≤ o.id) (b1 : o.id ≤ 500) (b2 : -1 ≤ o.cd) (b3 : o.cd ≤ 399) : Calls Try.prog 14 #[.agg #[.int .i64 o.id, .int .i64 o.cd, .int .i64 o.ow, .int .i64 o.po, .int .i64 o.tg, .int .i64 o.da, .int .i64 o.co, .int .i64 o.pp, .int .i64 o.pt, .bool true, .bool true, .bool true]] w (ByAt w ((nsO o 7).map (· % 256))) := by
  obtain ⟨i0, hi, hz0, hz1, hz2⟩ := info_parts info_u8
  obtain ⟨ns, hns⟩ : ∃ ns, nsO o 7 = ns := ⟨_, rfl⟩
  have hnl : ns.length = 12 := by rw [← hns]; rfl
  rw [hns]
  have HNL := Lib.hid hnl
  have HNS := Lib.hid hns
  clear hns hnl
  go_enter Try.func14, Try.ntmps14
  go_wp2_with fail
  obtain ⟨w0, hw0⟩ : ∃ w0, w0 = (w.alloc (.cells #[.int .i64 o.id, .int .i64 o.cd, .int .i64 o.ow, .int .i64 o.po, .int .i64 o.tg, .int .i64 o.da, .int .i64 o.co, .int .i64 o.pp, .int .i64 o.pt, .bool true, .bool true, .bool true] 23)).alloc (.cells (((nsO o 7).map (Value.int .i64)).toArray) 3) := ⟨_, rfl⟩
  have hw0' : w0 = (w.alloc (.cells #[.int .i64 o.id, .int .i64 o.cd, .int .i64 o.ow, .int .i64 o.po, .int .i64 o.tg, .int .i64 o.da, .int .i64 o.co, .int .i64 o.pp, .int .i64 o.pt, .bool true, .bool true, .bool true] 23)).alloc (.cells #[.int .i64 (o.id / 256), .int .i64 (o.id % 256), .int .i64 ((o.cd + 1) / 256), .int .i64 ((o.cd + 1) % 256), .int .i64 (o.ow), .int .i64 (o.po), .int .i64 (o.tg), .int .i64 (o.da), .int .i64 (o.co), .int .i64 (o.pp), .int .i64 (o.pt), .int .i64 (7)] 3) := hw0
  rw [← hw0']
  have hb0 : Below w.heap.size w w0 := by rw [hw0]; exact ((Below.refl _ _).alloc (Nat.le_refl _) _).alloc (by simp) _
  have hz : w0.heap.size = w.heap.size + 2 := by rw [hw0]; simp
  have HL : Hid (w0.heap[w.heap.size + 1]? = some (.cells ((ns.map (Value.int .i64)).toArray) 3 (0, 0))) := Lib.hid (by rw [← HNS.out, hw0]; have := heap_alloc_new (w.alloc (.cells #[.int .i64 o.id, .int .i64 o.cd, .int .i64 o.ow, .int .i64 o.po, .int .i64 o.tg, .int .i64 o.da, .int .i64 o.co, .int .i64 o.pp, .int .i64 o.pt, .bool true, .bool true, .bool true] 23)) (.cells (((nsO o 7).map (Value.int .i64)).toArray) 3); simpa using this)
  have HZ0 := Lib.hid hz
  clear hw0 hw0' hz
  go_loopw [4, 50] (fun v i wr => ByRel w0 ns v i wr) (fun _ i _ => 12 - (intOf i).toNat)
  case atStart => exact ⟨0, by omega, rfl, World.ownsRow_nil _ _ _ _, Below.refl _ _⟩
  case round =>
    obtain ⟨k, hk, rfl, hown, hb⟩ := hrel
    have hzr := hb.size
    by_cases hlt : k < 12
    · obtain ⟨z, hz⟩ : ∃ z, ns[k]? = some z := ⟨ns[k]'(by have := HNL.out; omega), List.getElem?_eq_getElem (by have := HNL.out; omega)⟩
      have e1 := (hb.cell (p := ⟨w.heap.size + 1, k, none⟩) (by show w.heap.size + 1 < _; have := HZ0.out; omega)).trans ((cell_of_row w0 (w.heap.size + 1) k _ 3 (0, 0) HL.out).trans (show _ = some (Value.int .i64 z) by rw [List.getElem?_toArray, List.getElem?_map, hz]; rfl))
      have i1 : (0 : Int) ≤ (k : Int) := by omega
      have i2 : (k : Int) < 12 := by omega
      have h2 : Hid ((ns.take (k + 1)).map (· % 256) = (ns.take k).map (· % 256) ++ [z % 256]) := Lib.hid (by rw [List.take_add_one, hz]; simp)
      have hl2 : ((ns.take k).map (· % 256)).length ≤ 12 := by simp; omega
      obtain ⟨ys, hys⟩ : ∃ ys, ys = (ns.take k).map (· % 256) := ⟨_, rfl⟩
      rw [← hys] at hown h2 hl2
      clear hz hys
      go_wp2_with (at_builtin; refine wpList_append_own _ rfl _ _ 30 rfl w0.heap.size 5 i0 (.int .u8 0) 1 1 Try.underlying30 hi hz0 hz1 hz2 rfl (by decide) _ _ _ rfl (hown.alloc _) ⟨wr.heap.size, 0, none⟩ 1 1 [.int .u8 (z % 256)] rfl rfl ?c1 ?c2 ?c3 ?c4 ?c5 ?_)
      case c1 => exact cell_one_new _ _ _
      case c2 => simp [Value.oneCell']
      case c3 => unfold maxLen; omega
      case c4 => omega
      case c5 => simp; omega
      intro v' w1 hown' hgrow _
      have hb1 : Below w0.heap.size w0 w1 := (hb.alloc hb.size _).grown hgrow (by simp; omega) (fun k hk => (hown.lt k hk).1)
      have HO := Lib.hid hown'
      clear hown hown' hgrow
      go_wp2_with fail
      go_roundw
      case rel => exact ⟨k + 1, by omega, by go_num, by rw [h2.out]; simpa using HO.out, hb1⟩
      case measure => simp [intOf]; omega
    · have hn1 : decide ((k : Int) < 12) = false := by simp; omega
      rw [List.take_of_length_le (by have := HNL.out; omega)] at hown
      have HO := Lib.hid (seg_of_owns hown (by have := HNL.out; unfold maxLen; simp; omega))
      clear hown
      go_wp2_with fail
      go_returns
      exact ⟨_, rfl, HO.out, hb0.trans (hb.mono (by have := HZ0.out; omega))⟩
end Go.Proofs.Ytjedflfgafhlkaa
