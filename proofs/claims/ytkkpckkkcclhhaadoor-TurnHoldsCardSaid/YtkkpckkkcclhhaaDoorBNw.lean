/- A new board of no cards, by the reference. -/
import Derived.Test.YtkkpckkkcclhhaaDoorBTb
import Derived.Deep.DeepCutAuto
import Derived.LoopTactic
import Derived.Deep.MidRow
namespace Go.Proofs.YtkkpckkkcclhhaaDoor
open Go.RowKit Plain
set_option linter.unusedVariables false
set_option linter.unusedSimpArgs false

def Plain.nw0 (life : Int) : Bd := { zeroB with s0 := { zeroSe with li := life }, s1 := { zeroSe with li := life }, ho := -1 }
def nwN (life : Int) (k : Nat) : Bd := if k = 0 then { zeroB with ho := -1 } else if k = 1 then { zeroB with s0 := { zeroSe with li := life }, ho := -1 } else nw0 life
def NwL (w : World) (life : Int) (v : Value) (wr : World) : Prop := ∃ p : Nat, p ≤ 2 ∧ v = .int .i64 p ∧ Below w.heap.size w wr ∧ Ro wr w.heap.size #[.slice none 0 0, .slice none 0 0] 53 ∧ Bx wr (w.heap.size + 1) nilS zeroB ∧ Bx wr (w.heap.size + 1 + 1) nilS (nwN life p)
theorem idx2n (w : World) (p : Nat) (h : p < 2) (P : Nat) (hr : Ro w P #[.slice none 0 0, .slice none 0 0] 53) : w.cell? ⟨P, p, none⟩ = some (.slice none 0 0) := by
  rw [hr.cell]
  have : p = 0 ∨ p = 1 := by omega
  rcases this with rfl | rfl <;> rfl
theorem nwPut {w : World} {P : Nat} {life : Int} {p : Nat} (h : Bx w P nilS (nwN life p)) (hp : p < 2) : Bx (w.setCell ⟨P, 1 + p * 14, none⟩ (.int .i64 life)) P nilS (nwN life (p + 1)) := by
  have : p = 0 ∨ p = 1 := by omega
  rcases this with rfl | rfl
  · exact h.put 1 _ (by simp [bcells, nwN, zeroB, zeroSe])
  · exact h.put 15 _ (by simp [bcells, nwN, nw0, zeroB, zeroSe])
set_option maxRecDepth 100000 in
set_option maxHeartbeats 4000000 in
theorem rnew0 (life : Int) (w : World) (hl : 1 ≤ life ∧ life ≤ 9999) : Calls Tryd.prog 25 #[.int .i64 life, .agg #[.slice none 0 0, .slice none 0 0]] w (BrA w (nw0 life) (.int .i64 0)) := by
  have t0 : decide (life < 1) = false := decide_eq_false (by omega)
  have t1 : decide (life > 9999) = false := decide_eq_false (by omega)
  clear hl
  go_enter Tryd.func25, Tryd.ntmps25
  go_upto_region 1 with fail
  change Code.wp Tryd.prog _ _ _ ((w.alloc (.cells #[.slice none 0 0, .slice none 0 0] 53)).alloc (.cells (bcells nilS zeroB) 39))
  obtain ⟨wy, hwy⟩ : ∃ W, W = ((w.alloc (.cells #[.slice none 0 0, .slice none 0 0] 53)).alloc (.cells (bcells nilS zeroB) 39)) := ⟨_, rfl⟩
  have b1 : Below w.heap.size w (w.alloc (.cells #[.slice none 0 0, .slice none 0 0] 53)) := (Below.refl _ _).alloc (Nat.le_refl _) _
  have b2 : Below (w.alloc (.cells #[.slice none 0 0, .slice none 0 0] 53)).heap.size (w.alloc (.cells #[.slice none 0 0, .slice none 0 0] 53)) wy := by rw [hwy]; exact (Below.refl _ _).alloc (Nat.le_refl _) _
  have HD : Hid (Ro wy w.heap.size #[.slice none 0 0, .slice none 0 0] 53) := Lib.hid ((Ro.new _ _ _).below b2)
  have HZ : Hid (Bx wy (w.heap.size + 1) nilS zeroB) := Lib.hid (by rw [hwy]; show _ = _; rw [show w.heap.size + 1 = (w.alloc (.cells #[.slice none 0 0, .slice none 0 0] 53)).heap.size by simp]; exact heap_alloc_new _ _)
  have HB : Hid (Below w.heap.size w wy) := Lib.hid (below_via b1 b2)
  have HSY : Hid (w.heap.size + 1 + 1 = wy.heap.size) := Lib.hid (by rw [hwy]; simp)
  rw [← hwy]
  clear hwy b1 b2
  go_wp2_with (refine wpList_store_bh (s := nilS) (B := { zeroB with ho := -1 }) rfl _ _ rfl rfl rfl (heap_alloc_new _ _) rfl ?_)
  intro wz hw0
  have hw := hw0.out
  have b1 : Below wy.heap.size wy (wy.alloc (.cells (bcells nilS zeroB) 39)) := (Below.refl _ _).alloc (Nat.le_refl _) _
  have hon : Onl [wy.heap.size] (wy.alloc (.cells (bcells nilS zeroB) 39)) wz := by rw [hw]; exact Onl.setRow (Onl.refl _ _) (.inl (by simp)) _
  have hby : Below wy.heap.size wy wz := belowOnl b1 hon (by simp) b1.size
  have HX : Hid (Bx wz (w.heap.size + 1 + 1) nilS (nwN life 0)) := Lib.hid (by rw [hw, HSY.out]; exact Bx.row (heap_alloc_new _ _) _ _)
  rw [← HSY.out]
  replace HD := Lib.hid (HD.out.below hby)
  replace HZ := Lib.hid (HZ.out.below hby)
  replace HB := Lib.hid (below_via HB.out hby)
  clear hw hw0 b1 hon hby HSY
  have d0 : wz.cell? ⟨w.heap.size, 0, none⟩ = some (.slice none 0 0) := HD.out.cell 0
  have d1 : wz.cell? ⟨w.heap.size, 1, none⟩ = some (.slice none 0 0) := HD.out.cell 1
  go_wp2_with fail
  clear d0 d1 t0 t1
  go_loopw [7] (fun v wr => NwL w life v wr) (fun v _ => 2 - (intOf v).toNat)
  case atStart => exact ⟨0, by omega, rfl, HB.out, HD.out, HZ.out, HX.out⟩
  case round =>
    obtain ⟨p, hp, rfl, hb, hd, hz, hx⟩ := hrel
    replace HB := Lib.hid hb
    replace HD := Lib.hid hd
    replace HZ := Lib.hid hz
    replace HX := Lib.hid hx
    clear hb hd hz
    by_cases hp2 : p < 2
    · have i1 : (0 : Int) ≤ (p : Int) := by omega
      have i2 : (p : Int) < 2 := by omega
      obtain ⟨u, hu⟩ : ∃ u, wr.cell? ⟨w.heap.size + 1 + 1, 1 + p * 14, none⟩ = some u := by
        rw [hx.cell]
        have : p = 0 ∨ p = 1 := by omega
        rcases this with rfl | rfl <;> exact ⟨_, rfl⟩
      have hf := hx.free (1 + p * 14)
      have dp := idx2n _ p hp2 _ HD.out
      have HP := Lib.hid (nwPut HX.out hp2)
      have HON : Hid (Onl [w.heap.size + 1 + 1] wr (wr.setCell ⟨w.heap.size + 1 + 1, 1 + p * 14, none⟩ (.int .i64 life))) := Lib.hid (Onl.setCell (Onl.refl _ _) (.inl (by simp)) _)
      have HP2 := Lib.hid hp2
      clear hx
      go_upto_region 8 with fail
      obtain ⟨wo, hwo⟩ : ∃ W, W = wr.setCell ⟨w.heap.size + 1 + 1, 1 + p * 14, none⟩ (.int .i64 life) := ⟨_, rfl⟩
      rw [← hwo] at HP HON ⊢
      have ho := HON.out
      replace HB := Lib.hid (belowOnl HB.out ho (by simp; omega) HB.out.size)
      replace HD := Lib.hid (((ho.block _ HD.out.lt (by simp; omega)).trans HD.out : Ro wo _ _ _))
      replace HZ := Lib.hid (HZ.out.onl ho (by simp))
      have dp := idx2n _ p hp2 _ HD.out
      clear hwo ho HON hu hf
      go_wp2_with fail
      go_loopw [8] (fun v wr => v = .int .i64 0 ∧ wr = wo) (fun v _ => 0)
      case atStart => exact ⟨rfl, rfl⟩
      case round =>
        obtain ⟨rfl, rfl⟩ := hrel
        go_wp2_with fail
        go_roundw
        case rel => exact ⟨p + 1, by omega, by go_num, HB.out, HD.out, HZ.out, HP.out⟩
        case measure => simp [intOf]; omega
    · obtain rfl : p = 2 := by omega
      clear hx
      have hsz : Below w.heap.size w wr := HB.out
      go_wp2_with (first | (refine wpList_load_bx _ rfl rfl HX.out (by kernel_rfl) ?_) | (refine wpList_store_bh (s := nilS) (B := nw0 life) rfl _ _ rfl rfl rfl HZ.out rfl ?_; intro w9 hw9))
      have hg9 : Bx w9 (w.heap.size + 1) nilS (nw0 life) := by rw [hw9.out]; exact Bx.row HZ.out _ _
      have ho9 : Onl [w.heap.size + 1] wr w9 := by rw [hw9.out]; exact Onl.setRow (Onl.refl _ _) (.inl (by simp)) _
      have hb9 : Below w.heap.size w w9 := belowOnl HB.out ho9 (by simp) HB.out.size
      have HG9 := Lib.hid hg9
      have n : ∀ j, j < 9 → nilS.isl j = nilSl ∧ (nw0 life).il j = [] := fun j hj => match j, hj with
        | 0, _ => ⟨rfl, rfl⟩
        | 1, _ => ⟨rfl, rfl⟩
        | 2, _ => ⟨rfl, rfl⟩
        | 3, _ => ⟨rfl, rfl⟩
        | 4, _ => ⟨rfl, rfl⟩
        | 5, _ => ⟨rfl, rfl⟩
        | 6, _ => ⟨rfl, rfl⟩
        | 7, _ => ⟨rfl, rfl⟩
        | 8, _ => ⟨rfl, rfl⟩
      have HPOST : Hid (BrA w (nw0 life) (.int .i64 0) (.returned (.tuple #[bv nilS (nw0 life), .int .i64 0])) w9) := Lib.hid ⟨_, rfl, ⟨Ox.nil _ _ _ _, fun j hj => by rw [(n j hj).1, (n j hj).2]; exact Ox.nil _ _ _ _, fun i j hi2 _ _ b hb => by rw [(n i hi2).1] at hb; simp [nilSl, Sl.v, Value.ownBlock] at hb, ItO.nil _ _ _, ItO.nil _ _ _, fun b hb => by simp [nilS, nilSl, Sl.v, Value.ownBlock] at hb, Ox.nil _ _ _ _⟩, hb9⟩
      clear hw9 hg9 ho9 hb9 n hsz
      go_wp2_with fail
      exact bodyPost_ret (v := .tuple #[bv nilS (nw0 life), .int .i64 0]) (results_b1 Tryd.results25 _ _ HG9.out rfl rfl) rfl HPOST.out
end Go.Proofs.YtkkpckkkcclhhaaDoor
