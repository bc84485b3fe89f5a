/- ints, Clone, and a row of numbers in one block. -/
import Derived.Test.YtnabpcgpheakfaaFn
import Derived.Laws.AppendOwnNone
import Derived.Laws.OwnMore
import Derived.Maps.AppendAt
import Derived.Lib.SliceRun
import Derived.BigQuiet
namespace Go.Proofs.Ytnabpcgpheakfaa
open Go.RowKit Plain
set_option linter.unusedVariables false
set_option linter.unusedSimpArgs false

theorem take_same {zs ys : List Int} {k : Nat} {z : Int} (h : zs.take k = ys.take k) (h1 : zs[k]? = some z) (h2 : ys[k]? = some z) : zs.take (k + 1) = ys.take (k + 1) := by
  rw [List.take_add_one, List.take_add_one, h, h1, h2]
def SameRel (w : World) (zs ys : List Int) (i : Value) (wr : World) : Prop := ∃ k : Nat, k ≤ zs.length ∧ i = .int .i64 k ∧ zs.take k = ys.take k ∧ Below w.heap.size w wr
set_option maxRecDepth 100000 in
set_option maxHeartbeats 2000000 in
theorem ints20 (v u : Value) (zs ys : List Int) (w : World) (hs : Seg w .i64 v zs) (ht : Seg w .i64 u ys) : Calls Try.prog 20 #[v, u] w fun e w' => e = .returned (.bool (decide (zs = ys))) ∧ Below w.heap.size w w' := by
  obtain ⟨m1, a1, c1, rfl, f1⟩ := seg_form hs
  obtain ⟨m2, a2, c2, rfl, f2⟩ := seg_form ht
  have F1 := Lib.hid f1
  have F2 := Lib.hid f2
  clear hs ht f1 f2
  by_cases hl : zs.length = ys.length
  · have HL := Lib.hid hl
    have hne : ((zs.length : Int) != (ys.length : Int)) = false := by simp [hl]
    have hle : zs.length ≤ ys.length := by omega
    clear hl
    go_enter Try.func20, Try.ntmps20
    go_wp2_with fail
    go_loopw [5] (fun i wr => SameRel w zs ys i wr) (fun i _ => zs.length - (intOf i).toNat)
    case atStart => exact ⟨0, Nat.zero_le _, rfl, by simp, Below.refl _ _⟩
    case round =>
      obtain ⟨k, hk, rfl, htk, hb⟩ := hrel
      have HT := Lib.hid htk
      clear htk
      by_cases hlt : k < zs.length
      · obtain ⟨b1, o1, rfl, hb1, hc1⟩ := F1.out (by omega)
        obtain ⟨b2, o2, rfl, hb2, hc2⟩ := F2.out (by omega)
        obtain ⟨z, hz⟩ : ∃ z, zs[k]? = some z := ⟨zs[k], List.getElem?_eq_getElem hlt⟩
        obtain ⟨y, hy⟩ : ∃ y, ys[k]? = some y := ⟨ys[k]'(by omega), List.getElem?_eq_getElem (by omega)⟩
        have e1 := (hb.cell (p := ⟨b1, o1 + k, none⟩) hb1).trans (hc1 k z hz)
        have e2 := (hb.cell (p := ⟨b2, o2 + k, none⟩) hb2).trans (hc2 k y hy)
        have i1 : (0 : Int) ≤ (k : Int) := by omega
        have i2 : (k : Int) < (zs.length : Int) := by omega
        have i3 : (k : Int) < (ys.length : Int) := by omega
        have HZ := Lib.hid hz
        have HY := Lib.hid hy
        clear hc1 hc2 hz hy
        by_cases hzy : z = y
        · subst hzy
          go_wp2_with fail
          go_quiet (fail)
          go_wp2_with fail
          go_roundw
          case rel => exact ⟨k + 1, by omega, by go_num, take_same HT.out HZ.out HY.out, below_drewN hb _⟩
          case measure => simp [intOf]; omega
        · have q : (z != y) = true := by simpa using hzy
          have ef : Hid (decide (zs = ys) = false) := Lib.hid (by simp; intro e; rw [e, HY.out] at HZ; exact hzy (by have := HZ.out; simpa using this.symm))
          clear hzy
          go_wp2_with fail
          go_quiet (fail)
          go_wp2_with fail
          go_returns
          exact ⟨ret_bool ef.out.symm, below_drewN hb _⟩
      · have ef : Hid (decide (zs = ys) = true) := Lib.hid (by
          have h1 := HT.out
          rw [List.take_of_length_le (by omega), List.take_of_length_le (by have := HL.out; omega)] at h1
          simpa using h1)
        go_wp2_with fail
        go_returns
        exact ⟨ret_bool ef.out.symm, hb⟩
  · have hne : ((zs.length : Int) != (ys.length : Int)) = true := by simp; omega
    have ef : Hid (decide (zs = ys) = false) := Lib.hid (by simp; intro e; exact hl (by rw [e]))
    clear hl
    go_enter Try.func20, Try.ntmps20
    go_wp2_with fail
    go_returns
    exact ⟨ret_bool ef.out.symm, by go_grown⟩

/-- the row of numbers xs in the block g -/
def IAt (W : World) (g : Nat) (xs : List Int) (ex : List Value) : Prop := W.heap[g]? = some (.cells (xs.map (Value.int .i64) ++ ex).toArray 3 (0, 0))
theorem IAt.lt {W : World} {g : Nat} {xs : List Int} {ex : List Value} (h : IAt W g xs ex) : g < W.heap.size := (Array.getElem?_eq_some_iff.1 h).1
theorem IAt.cell {W : World} {g : Nat} {xs : List Int} {ex : List Value} (h : IAt W g xs ex) {i : Nat} {z : Int} (hi : xs[i]? = some z) : W.cell? ⟨g, i, none⟩ = some (.int .i64 z) := by
  rw [cell_of_row W g i _ 3 (0, 0) h]
  have := (List.getElem?_eq_some_iff.1 hi).1
  rw [List.getElem?_toArray, List.getElem?_append_left (by simpa using this), List.getElem?_map, hi]
  rfl
theorem IAt.free {W : World} {g : Nat} {xs : List Int} {ex : List Value} (h : IAt W g xs ex) (i : Nat) : W.frozen? ⟨g, i, none⟩ = false := frozen_of_row W g i _ 3 h
theorem IAt.below {W W' : World} {g : Nat} {xs : List Int} {ex : List Value} (h : IAt W g xs ex) (hb : Below W.heap.size W W') : IAt W' g xs ex := (hb.block g h.lt).trans h
theorem IAt.set {W : World} {g : Nat} {xs : List Int} {ex : List Value} (h : IAt W g xs ex) (i : Nat) (z : Int) (hi : i < xs.length) : IAt (W.setCell ⟨g, i, none⟩ (.int .i64 z)) g (xs.set i z) ex := by
  unfold IAt
  rw [heap_setCell_same W g i _ 3 _ h]
  congr 3
  simp [List.set_append, hi, List.map_set]
theorem IAt.other {W : World} {g : Nat} {xs : List Int} {ex : List Value} (h : IAt W g xs ex) {q : Addr} (hq : q.block ≠ g) (v : Value) : IAt (W.setCell q v) g xs ex := (Below.heap_setCell _ _ _ _ (Ne.symm hq)).trans h
theorem IAt.seg {W : World} {g cap : Nat} {xs : List Int} {ex : List Value} (h : IAt W g xs ex) (hm : xs.length ≤ maxLen) : Seg W .i64 (.slice (some ⟨g, 0, none⟩) xs.length cap) xs := by
  rcases List.eq_nil_or_concat xs with rfl | ⟨_, _, hne⟩
  · exact .inl ⟨rfl, .inr ⟨_, _, rfl⟩⟩
  · refine .inr ⟨by rw [hne]; simp, hm, g, 0, cap, rfl, h.lt, fun i z hi => ?_⟩
    rw [Nat.zero_add]
    exact h.cell hi
/-- the numbers zs, in a block of our own (or nil) -/
def Out (W : World) (base : Nat) (v : Value) (xs : List Int) : Prop := (xs = [] ∧ v = .slice none 0 0) ∨ ∃ g cap ex, v = .slice (some ⟨g, 0, none⟩) xs.length cap ∧ base ≤ g ∧ xs.length ≤ maxLen ∧ IAt W g xs ex
theorem out_of_owns {W : World} {base : Nat} {v : Value} {xs : List Int} (h : W.ownsRow base 3 1 v xs.length (xs.map (Value.int .i64))) : Out W base v xs := by
  rcases h.2 with ⟨h1, h2⟩ | ⟨g, cap, cur, h1, hb, hg, hn, hcap, hsz, ht⟩
  · exact .inl ⟨List.eq_nil_of_length_eq_zero h2, h1⟩
  · refine .inr ⟨g, cap, cur.toList.drop xs.length, h1, hb, by omega, ?_⟩
    unfold IAt
    rw [hg]
    rw [Nat.mul_one] at ht
    rw [← ht, List.take_append_drop]
theorem Out.seg {W : World} {base : Nat} {v : Value} {xs : List Int} (h : Out W base v xs) : Seg W .i64 v xs := by
  rcases h with ⟨rfl, rfl⟩ | ⟨g, cap, ex, rfl, _, hm, hi⟩
  · exact .inl ⟨rfl, .inl rfl⟩
  · exact hi.seg hm
def CloneAt (w : World) (xs : List Int) (e : Ending) (w' : World) : Prop := ∃ v, e = .returned v ∧ Out w' w.heap.size v xs ∧ Below w.heap.size w w'
theorem info3 : (Try.prog.info? 3).map (fun i => (i.zero, i.size, i.bytes)) = some (some (.int .i64 0), 1, 8) := by kernel_rfl
set_option maxRecDepth 100000 in
set_option maxHeartbeats 2000000 in
theorem clone28 (v : Value) (xs : List Int) (w : World) (hs : Seg w .i64 v xs) (hl : xs.length ≤ 1000) : Calls Try.prog 28 #[v] w (CloneAt w xs) := by
  obtain ⟨i3, hi3, hz3⟩ : ∃ i, Try.prog.info? 3 = some i ∧ (i.zero, i.size, i.bytes) = (some (Value.int .i64 0), 1, 8) := by
    have h := info3
    cases hi : Try.prog.info? 3 with
    | none => rw [hi] at h; simp at h
    | some i => rw [hi] at h; exact ⟨i, rfl, by simpa using h⟩
  simp only [Prod.mk.injEq] at hz3
  obtain ⟨z1, z2, z3⟩ := hz3
  have qT : ∀ (w : World) (a : Option Addr) (n c : Nat), (binOp .eql 39 (.slice a n c) (.slice none 0 0)).run Try.prog w = .ok (.bool a.isNone) w := fun w a n c => Lib.run_eql_slice_nil w 39 3 a n c 0 0 Try.underlying39
  rcases hs with ⟨rfl, rfl | ⟨ad, cap, rfl⟩⟩ | ⟨h0, h1, b, off, cap, rfl, hlt, hc⟩
  · go_enter Try.func28, Try.ntmps28
    go_wp2_with fail
    go_returns
    exact ⟨_, rfl, .inl ⟨rfl, rfl⟩, by go_grown⟩
  · go_enter Try.func28, Try.ntmps28
    go_wp2_with (at_builtin; refine wpList_append_own _ rfl _ _ 39 rfl w.heap.size 3 i3 (.int .i64 0) 1 8 Try.underlying39 hi3 z1 z2 z3 rfl (by decide) _ 0 [] rfl (World.ownsRow_lit w #[] 0 (Nat.le_refl _) (by simp) (by simp)) ad 0 cap (([] : List Int).map (Value.int .i64)) rfl (by simp) ?c1 (by simp [Value.oneCell']) ?c3 ?c4 (by simp) ?_)
    case c1 => simp
    case c3 => unfold maxLen; simp <;> omega
    case c4 => simp <;> omega
    intro v' w1 hown' hgrow _
    have hb1 : Below w.heap.size w w1 := ((Below.refl _ w).alloc (Nat.le_refl _) _).grown hgrow (by simp) (fun k hk => by simp [Value.ownBlock] at hk; omega)
    have HO := Lib.hid (out_of_owns (xs := []) (by simpa using hown'))
    clear hown' hgrow
    go_wp2_with fail
    go_returns
    exact ⟨_, rfl, HO.out, hb1⟩
  · go_enter Try.func28, Try.ntmps28
    go_wp2_with (at_builtin; refine wpList_append_own _ rfl _ _ 39 rfl w.heap.size 3 i3 (.int .i64 0) 1 8 Try.underlying39 hi3 z1 z2 z3 rfl (by decide) _ 0 [] rfl (World.ownsRow_lit w #[] 0 (Nat.le_refl _) (by simp) (by simp)) ⟨b, off, none⟩ xs.length cap (xs.map (Value.int .i64)) rfl (by simp) ?c1 (by simp [Value.oneCell']) ?c3 ?c4 (by simp) ?_)
    case c1 =>
      intro j u hj
      rw [List.getElem?_map] at hj
      cases hz : xs[j]? with
      | none => rw [hz] at hj; simp at hj
      | some z =>
        rw [hz] at hj
        simp at hj
        subst hj
        rw [WideShapes.add_plain]
        exact Lib.cell?_alloc_some _ (hc j z hz)
    case c3 => unfold maxLen; simp <;> omega
    case c4 => simp <;> omega
    intro v' w1 hown' hgrow _
    have hb1 : Below w.heap.size w w1 := ((Below.refl _ w).alloc (Nat.le_refl _) _).grown hgrow (by simp) (fun k hk => by simp [Value.ownBlock] at hk; omega)
    have HO := Lib.hid (out_of_owns (xs := xs) (by simpa using hown'))
    clear hown' hgrow
    go_wp2_with fail
    go_returns
    exact ⟨_, rfl, HO.out, hb1⟩
end Go.Proofs.Ytnabpcgpheakfaa
