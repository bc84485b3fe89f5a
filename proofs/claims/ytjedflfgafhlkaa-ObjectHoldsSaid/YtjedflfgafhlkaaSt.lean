/- The bytes of an object, held against what is wanted. -/
import Derived.Test.YtjedflfgafhlkaaRb
import Derived.Laws.BytesArg
import Derived.Laws.BytesString
namespace Go.Proofs.Ytjedflfgafhlkaa
open Go.RowKit Plain
set_option linter.unusedVariables false
set_option linter.unusedSimpArgs false

theorem run_str0 (w : World) (p : Option Addr) (c : Nat) : (convert 30 9 (.slice p 0 c)).run Try.prog w = .ok (.string (strOfNums [])) w := by
  rw [run_convert_bytes_string w 30 9 5 _ 0 c Try.underlying30 Try.underlying5 Try.underlying9]
  cases p <;> simp [Conv.bytesToString, loadCells, strOfNums]
  all_goals rfl
/-- the text of a slice of bytes -/
theorem Seg.str {w : World} {v : Value} {zs : List Int} (h : Seg w .u8 v zs) : (convert 30 9 v).run Try.prog w = .ok (.string (strOfNums zs)) w := by
  rcases h with ⟨rfl, rfl | ⟨a, cap, rfl⟩⟩ | ⟨h0, h1, b, off, cap, rfl, hlt, hc⟩
  · exact run_str0 w none 0
  · exact run_str0 w (Option.some a) cap
  · refine run_convert_bytes_arg w 30 5 Try.underlying30 Try.underlying5 b off zs.length cap zs rfl (fun i hi => ?_) 9 Try.underlying9
    have e := List.getElem?_eq_getElem hi
    rw [List.getD_eq_getElem?_getD, e]
    exact hc i _ e
theorem mod_byO {o : Ob} (h : vO o = true) (F : Int) (hF : flO o = F) (h0 : 0 ≤ F ∧ F ≤ 7) : (nsO o F).map (· % 256) = byO o := by
  unfold vO at h
  have h := of_decide_eq_true h
  unfold nsO byO
  rw [hF]
  simp only [List.map_cons, List.map_nil, List.cons.injEq, and_true]
  omega
theorem rbytes (o : Ob) (w : World) (h : vO o = true) : Calls Try.prog 14 #[.agg #[.int .i64 o.id, .int .i64 o.cd, .int .i64 o.ow, .int .i64 o.po, .int .i64 o.tg, .int .i64 o.da, .int .i64 o.co, .int .i64 o.pp, .int .i64 o.pt, .bool o.ta, .bool o.si, .bool o.dm]] w (ByAt w (byO o)) := by
  have hb : 1 ≤ o.id ∧ o.id ≤ 500 ∧ -1 ≤ o.cd ∧ o.cd ≤ 399 := by
    have h2 := h
    unfold vO at h2
    have h2 := of_decide_eq_true h2
    omega
  obtain ⟨b0, b1, b2, b3⟩ := hb
  obtain ⟨xid, xcd, xow, xpo, xtg, xda, xco, xpp, xpt, xta, xsi, xdm⟩ := o
  cases xta <;> cases xsi <;> cases xdm
  · exact mod_byO h 0 rfl (by omega) ▸ rbytes_0 _ w b0 b1 b2 b3
  · exact mod_byO h 4 rfl (by omega) ▸ rbytes_4 _ w b0 b1 b2 b3
  · exact mod_byO h 2 rfl (by omega) ▸ rbytes_2 _ w b0 b1 b2 b3
  · exact mod_byO h 6 rfl (by omega) ▸ rbytes_6 _ w b0 b1 b2 b3
  · exact mod_byO h 1 rfl (by omega) ▸ rbytes_1 _ w b0 b1 b2 b3
  · exact mod_byO h 5 rfl (by omega) ▸ rbytes_5 _ w b0 b1 b2 b3
  · exact mod_byO h 3 rfl (by omega) ▸ rbytes_3 _ w b0 b1 b2 b3
  · exact mod_byO h 7 rfl (by omega) ▸ rbytes_7 _ w b0 b1 b2 b3
theorem seg_form {w : World} {k : IntKind} {v : Value} {zs : List Int} (h : Seg w k v zs) : zs.length ≤ 9223372036854775807 ∧ ∃ a cap, v = .slice a zs.length cap ∧ (0 < zs.length → ∃ b off, a = some ⟨b, off, none⟩ ∧ b < w.heap.size ∧ ∀ i z, zs[i]? = some z → w.cell? ⟨b, off + i, none⟩ = some (.int k z)) := by
  rcases h with ⟨rfl, rfl | ⟨a, cap, rfl⟩⟩ | ⟨h0, h1, b, off, cap, rfl, hlt, hc⟩
  · exact ⟨by simp, none, 0, rfl, fun h => by simp at h⟩
  · exact ⟨by simp, some a, cap, rfl, fun h => by simp at h⟩
  · exact ⟨by unfold maxLen at h1; omega, _, cap, rfl, fun _ => ⟨b, off, rfl, hlt, hc⟩⟩
set_option maxRecDepth 100000 in
set_option maxHeartbeats 2000000 in
theorem obytes_ok (o : Ob) (v : Value) (w : World) (hv : Hid (vO o = true)) (hs : Seg w .u8 v (byO o)) : Calls Try.prog 13 #[.agg #[.int .i64 o.id, .int .i64 o.cd, .int .i64 o.ow, .int .i64 o.po, .int .i64 o.tg, .int .i64 o.da, .int .i64 o.co, .int .i64 o.pp, .int .i64 o.pt, .bool o.ta, .bool o.si, .bool o.dm], v, .int .i64 0] w fun e w' => e = .returned (.bool true) ∧ Below w.heap.size w w' := by
  have HS := Lib.hid hs
  obtain ⟨m2, a2, c2, rfl, _⟩ := seg_form hs
  clear hs
  go_enter Try.func13, Try.ntmps13
  go_wp2_with fail
  with_reducible refine (oencode o _ hv).mono ?_
  rintro e w1 ⟨v1, rfl, s1, hb_w1⟩
  have K_w1 : Kept w.heap.size w (w.heap.size + 1) [(w.heap.size, 0, .int .i64 o.id), (w.heap.size, 1, .int .i64 o.cd), (w.heap.size, 2, .int .i64 o.ow), (w.heap.size, 3, .int .i64 o.po), (w.heap.size, 4, .int .i64 o.tg), (w.heap.size, 5, .int .i64 o.da), (w.heap.size, 6, .int .i64 o.co), (w.heap.size, 7, .int .i64 o.pp), (w.heap.size, 8, .int .i64 o.pt), (w.heap.size, 9, .bool o.ta), (w.heap.size, 10, .bool o.si), (w.heap.size, 11, .bool o.dm)] w1 := Kept.of hb_w1 (by go_grown) (by go_size) (by omega) (by simp [go_sem] <;> omega)
  clear hb_w1
  have KH_w1 := Lib.hid K_w1
  have hw_w1 := K_w1.below
  have hz_w1 := K_w1.size
  have lB_w1 : w.heap.size < w1.heap.size := by omega
  clear K_w1
  have S1 := Lib.hid s1
  clear s1
  obtain ⟨m1, a1, c1, rfl, _⟩ := seg_form S1.out
  have q1 := S1.out.str
  have q2 := (HS.out.below hw_w1).str
  go_wp2_with fail
  go_returns
  exact ⟨rfl, by go_grown⟩

set_option maxRecDepth 100000 in
set_option maxHeartbeats 2000000 in
theorem obytes_no (o : Ob) (w : World) (hv : Hid (vO o = false)) : Calls Try.prog 13 #[.agg #[.int .i64 o.id, .int .i64 o.cd, .int .i64 o.ow, .int .i64 o.po, .int .i64 o.tg, .int .i64 o.da, .int .i64 o.co, .int .i64 o.pp, .int .i64 o.pt, .bool o.ta, .bool o.si, .bool o.dm], .slice none 0 0, .int .i64 2] w fun e w' => e = .returned (.bool true) ∧ Below w.heap.size w w' := by
  have q1 := fun w => run_str0 w none 0
  go_enter Try.func13, Try.ntmps13
  go_wp2_with fail
  with_reducible refine (oencode_no o _ hv).mono ?_
  rintro e w1 ⟨rfl, hb_w1⟩
  have K_w1 : Kept w.heap.size w (w.heap.size + 1) [(w.heap.size, 0, .int .i64 o.id), (w.heap.size, 1, .int .i64 o.cd), (w.heap.size, 2, .int .i64 o.ow), (w.heap.size, 3, .int .i64 o.po), (w.heap.size, 4, .int .i64 o.tg), (w.heap.size, 5, .int .i64 o.da), (w.heap.size, 6, .int .i64 o.co), (w.heap.size, 7, .int .i64 o.pp), (w.heap.size, 8, .int .i64 o.pt), (w.heap.size, 9, .bool o.ta), (w.heap.size, 10, .bool o.si), (w.heap.size, 11, .bool o.dm)] w1 := Kept.of hb_w1 (by go_grown) (by go_size) (by omega) (by simp [go_sem] <;> omega)
  clear hb_w1
  have KH_w1 := Lib.hid K_w1
  have hw_w1 := K_w1.below
  have hz_w1 := K_w1.size
  have lB_w1 : w.heap.size < w1.heap.size := by omega
  clear K_w1
  go_wp2_with fail
  go_returns
  exact ⟨rfl, by go_grown⟩

end Go.Proofs.Ytjedflfgafhlkaa
