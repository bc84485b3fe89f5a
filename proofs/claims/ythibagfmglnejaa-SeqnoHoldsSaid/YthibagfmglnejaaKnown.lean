/- The examples of the chapter. -/
import Derived.Test.YthibagfmglnejaaLk2
namespace Go.Proofs.Ythibagfmglnejaa
open Go.RowKit Plain
set_option linter.unusedVariables false
set_option linter.unusedSimpArgs false

theorem new16c (f : Int) (n : Nat) (z : Int) (w : World) (hz : z = (n : Int)) (hf : U16 f) (h1 : 1 ≤ n) (h2 : n ≤ 1024) : Calls Try.prog 16 #[.int .u16 f, .int .i64 z] w (NewAt w f (List.replicate n false)) := by
  subst hz
  exact new16 f n w hf h1 h2
theorem next9c (a x : Int) (w : World) (ha : U16 a) (hx : nxt a = x) : Calls Try.prog 9 #[.int .u16 a] w fun e w' => e = .returned (.int .u16 x) ∧ w = w' := by
  subst hx
  exact next9 a w ha
theorem seg_lit (w : World) (T : TypeId) (zs : List Int) (h0 : zs ≠ []) (h1 : zs.length ≤ maxLen) : Seg (w.alloc (.cells (zs.map (Value.int .u16)).toArray T)) .u16 (.slice (some ⟨w.heap.size, 0, none⟩) zs.length zs.length) zs := seg_new w .u16 T zs _ h0 h1
theorem looks20c (P D : Nat) (f : Int) (l : List Bool) (cap : Nat) (ex : List Value) (w : World) (hw : WinAt w P D f l cap ex) (v : Value) (zs : List Int) (hs : Seg w .u16 v zs) (hp : pend f l = zs) : Calls Try.prog 20 #[.pointer (some ⟨P, 0, none⟩), .int .u16 f, v] w fun e w' => e = .returned (.bool true) ∧ Below w.heap.size w w' := by
  subst hp
  exact looks20 P D f l cap ex w hw v hs

set_option maxRecDepth 100000 in
set_option maxHeartbeats 8000000 in
theorem known15 (w : World) : Calls Try.prog 15 #[] w fun e w' => e = .returned (.bool true) ∧ Below w.heap.size w w' := by
  go_enter Try.func15, Try.ntmps15
  go_wp2_with fail
  with_reducible refine (next9c 65535 0 _ (by unfold U16; omega) (by decide +kernel)).mono ?_
  rintro e w' ⟨rfl, rfl⟩
  go_wp2_with fail
  with_reducible refine (dist11c 65535 2 3 _ (by unfold U16; omega) (by unfold U16; omega) (by decide +kernel)).mono ?_
  rintro e w' ⟨rfl, rfl⟩
  go_wp2_with fail
  with_reducible refine (dist11c 2 65535 65533 _ (by unfold U16; omega) (by unfold U16; omega) (by decide +kernel)).mono ?_
  rintro e w' ⟨rfl, rfl⟩
  go_wp2_with fail
  with_reducible refine (after13c 2 65535 true _ (by unfold U16; omega) (by unfold U16; omega) (by decide +kernel)).mono ?_
  rintro e w' ⟨rfl, rfl⟩
  go_wp2_with fail
  with_reducible refine (after13c 65535 2 false _ (by unfold U16; omega) (by unfold U16; omega) (by decide +kernel)).mono ?_
  rintro e w' ⟨rfl, rfl⟩
  go_wp2_with fail
  with_reducible refine (after13c 32768 0 false _ (by unfold U16; omega) (by unfold U16; omega) (by decide +kernel)).mono ?_
  rintro e w' ⟨rfl, rfl⟩
  go_wp2_with fail
  with_reducible refine (new16c 65534 4 4 _ rfl (by unfold U16; omega) (by omega) (by omega)).mono ?_
  rintro e w1 ⟨P, D, cap, ex, hP, hD, rfl, hW, hb_w1⟩
  have K_w1 : Kept w.heap.size w (w.heap.size) [] w1 := Kept.of hb_w1 (by go_grown) (by go_size) (by omega) (by simp [go_sem] <;> omega)
  clear hb_w1
  have KH_w1 := Lib.hid K_w1
  have hw_w1 := K_w1.below
  have hz_w1 := K_w1.size
  clear K_w1
  have HW : Hid (WinAt w1 P D 65534 [false, false, false, false] cap ex) := Lib.hid hW
  clear hW
  go_wp2_with fail
  with_reducible refine (accept17_okc P D 65534 [false, false, false, false] cap ex _ HW.out 0 65534 [false, false, true, false] 2 (by unfold U16; omega) (Lib.hid (show dist 65534 0 = ((2 : Nat) : Int) by decide +kernel)) (Lib.hid (by decide +kernel)) (by simp) (by decide +kernel) (by decide +kernel)).mono ?_
  rintro e w2 ⟨rfl, hB_w2, hO_w2⟩
  have K_w2 : Kept w.heap.size w (w.heap.size) [] w2 := (KH_w1.out.step (by omega) (by go_grown)).onl (S := [P, D]) hO_w2 (by omega) (by simp <;> omega) (by simp <;> omega)
  replace HW := Lib.hid (hB_w2)
  clear hO_w2 hB_w2
  have KH_w2 := Lib.hid K_w2
  have hw_w2 := K_w2.below
  have hz_w2 := K_w2.size
  clear K_w2
  go_wp2_with fail
  with_reducible refine (accept17_okc P D 65534 [false, false, true, false] cap ex _ HW.out 65534 65535 [false, true, false, false] 0 (by unfold U16; omega) (Lib.hid (show dist 65534 65534 = ((0 : Nat) : Int) by decide +kernel)) (Lib.hid (by decide +kernel)) (by simp) (by decide +kernel) (by decide +kernel)).mono ?_
  rintro e w3 ⟨rfl, hB_w3, hO_w3⟩
  have K_w3 : Kept w.heap.size w (w.heap.size) [] w3 := (KH_w2.out.step (by omega) (by go_grown)).onl (S := [P, D]) hO_w3 (by omega) (by simp <;> omega) (by simp <;> omega)
  replace HW := Lib.hid (hB_w3)
  clear hO_w3 hB_w3
  have KH_w3 := Lib.hid K_w3
  have hw_w3 := K_w3.below
  have hz_w3 := K_w3.size
  clear K_w3
  go_wp2_with fail
  with_reducible refine (looks20c P D 65535 [false, true, false, false] cap ex _ (HW.out.below (by go_grown)) _ [0] (by simpa using seg_lit w3 22 [0] (by simp) (by simp [maxLen])) (by decide +kernel)).mono ?_
  rintro e w4 ⟨rfl, hb_w4⟩
  have K_w4 : Kept w.heap.size w (w.heap.size) [] w4 := (KH_w3.out.step (by omega) (by go_grown)).step (by omega) hb_w4
  replace HW := Lib.hid ((HW.out.below (by go_grown)).below hb_w4)
  clear hb_w4
  have KH_w4 := Lib.hid K_w4
  have hw_w4 := K_w4.below
  have hz_w4 := K_w4.size
  clear K_w4
  go_wp2_with fail
  with_reducible refine (accept17_stale P D 65535 [false, true, false, false] cap ex _ HW.out 65534 65535 (by unfold U16; omega) (Lib.hid (show dist 65535 65534 = ((65535 : Nat) : Int) by decide +kernel)) (Lib.hid (by decide +kernel))).mono ?_
  rintro e w5 ⟨rfl, hb_w5⟩
  have K_w5 : Kept w.heap.size w (w.heap.size) [] w5 := (KH_w4.out.step (by omega) (by go_grown)).step (by omega) hb_w5
  replace HW := Lib.hid (HW.out.below hb_w5)
  clear hb_w5
  have KH_w5 := Lib.hid K_w5
  have hw_w5 := K_w5.below
  have hz_w5 := K_w5.size
  clear K_w5
  go_wp2_with fail
  with_reducible refine (accept17_stale P D 65535 [false, true, false, false] cap ex _ HW.out 0 1 (by unfold U16; omega) (Lib.hid (show dist 65535 0 = ((1 : Nat) : Int) by decide +kernel)) (Lib.hid (by decide +kernel))).mono ?_
  rintro e w6 ⟨rfl, hb_w6⟩
  have K_w6 : Kept w.heap.size w (w.heap.size) [] w6 := (KH_w5.out.step (by omega) (by go_grown)).step (by omega) hb_w6
  replace HW := Lib.hid (HW.out.below hb_w6)
  clear hb_w6
  have KH_w6 := Lib.hid K_w6
  have hw_w6 := K_w6.below
  have hz_w6 := K_w6.size
  clear K_w6
  go_wp2_with fail
  with_reducible refine (accept17_range P D 65535 [false, true, false, false] cap ex _ HW.out 3 4 (by unfold U16; omega) (Lib.hid (show dist 65535 3 = ((4 : Nat) : Int) by decide +kernel)) (Lib.hid (by decide +kernel)) (by simp)).mono ?_
  rintro e w7 ⟨rfl, hb_w7⟩
  have K_w7 : Kept w.heap.size w (w.heap.size) [] w7 := (KH_w6.out.step (by omega) (by go_grown)).step (by omega) hb_w7
  replace HW := Lib.hid (HW.out.below hb_w7)
  clear hb_w7
  have KH_w7 := Lib.hid K_w7
  have hw_w7 := K_w7.below
  have hz_w7 := K_w7.size
  clear K_w7
  go_wp2_with fail
  with_reducible refine (accept17_okc P D 65535 [false, true, false, false] cap ex _ HW.out 2 65535 [false, true, false, true] 3 (by unfold U16; omega) (Lib.hid (show dist 65535 2 = ((3 : Nat) : Int) by decide +kernel)) (Lib.hid (by decide +kernel)) (by simp) (by decide +kernel) (by decide +kernel)).mono ?_
  rintro e w8 ⟨rfl, hB_w8, hO_w8⟩
  have K_w8 : Kept w.heap.size w (w.heap.size) [] w8 := (KH_w7.out.step (by omega) (by go_grown)).onl (S := [P, D]) hO_w8 (by omega) (by simp <;> omega) (by simp <;> omega)
  replace HW := Lib.hid (hB_w8)
  clear hO_w8 hB_w8
  have KH_w8 := Lib.hid K_w8
  have hw_w8 := K_w8.below
  have hz_w8 := K_w8.size
  clear K_w8
  go_wp2_with fail
  with_reducible refine (looks20c P D 65535 [false, true, false, true] cap ex _ (HW.out.below (by go_grown)) _ [0, 2] (by simpa using seg_lit w8 22 [0, 2] (by simp) (by simp [maxLen])) (by decide +kernel)).mono ?_
  rintro e w9 ⟨rfl, hb_w9⟩
  have K_w9 : Kept w.heap.size w (w.heap.size) [] w9 := (KH_w8.out.step (by omega) (by go_grown)).step (by omega) hb_w9
  replace HW := Lib.hid ((HW.out.below (by go_grown)).below hb_w9)
  clear hb_w9
  have KH_w9 := Lib.hid K_w9
  have hw_w9 := K_w9.below
  have hz_w9 := K_w9.size
  clear K_w9
  go_wp2_with fail
  with_reducible refine (accept17_okc P D 65535 [false, true, false, true] cap ex _ HW.out 65535 1 [false, true, false, false] 0 (by unfold U16; omega) (Lib.hid (show dist 65535 65535 = ((0 : Nat) : Int) by decide +kernel)) (Lib.hid (by decide +kernel)) (by simp) (by decide +kernel) (by decide +kernel)).mono ?_
  rintro e w10 ⟨rfl, hB_w10, hO_w10⟩
  have K_w10 : Kept w.heap.size w (w.heap.size) [] w10 := (KH_w9.out.step (by omega) (by go_grown)).onl (S := [P, D]) hO_w10 (by omega) (by simp <;> omega) (by simp <;> omega)
  replace HW := Lib.hid (hB_w10)
  clear hO_w10 hB_w10
  have KH_w10 := Lib.hid K_w10
  have hw_w10 := K_w10.below
  have hz_w10 := K_w10.size
  clear K_w10
  go_wp2_with fail
  with_reducible refine (looks20c P D 1 [false, true, false, false] cap ex _ (HW.out.below (by go_grown)) _ [2] (by simpa using seg_lit w10 22 [2] (by simp) (by simp [maxLen])) (by decide +kernel)).mono ?_
  rintro e w11 ⟨rfl, hb_w11⟩
  have K_w11 : Kept w.heap.size w (w.heap.size) [] w11 := (KH_w10.out.step (by omega) (by go_grown)).step (by omega) hb_w11
  replace HW := Lib.hid ((HW.out.below (by go_grown)).below hb_w11)
  clear hb_w11
  have KH_w11 := Lib.hid K_w11
  have hw_w11 := K_w11.below
  have hz_w11 := K_w11.size
  clear K_w11
  go_wp2_with fail
  with_reducible refine (has21c P D 1 [false, true, false, false] cap ex _ HW.out 65000 64999 true (by unfold U16; omega) (Lib.hid (show dist 1 65000 = ((64999 : Nat) : Int) by decide +kernel)) (by decide +kernel)).mono ?_
  rintro e w' ⟨rfl, rfl⟩
  go_wp2_with fail
  with_reducible refine (has21c P D 1 [false, true, false, false] cap ex _ HW.out 2 1 true (by unfold U16; omega) (Lib.hid (show dist 1 2 = ((1 : Nat) : Int) by decide +kernel)) (by decide +kernel)).mono ?_
  rintro e w' ⟨rfl, rfl⟩
  go_wp2_with fail
  with_reducible refine (has21c P D 1 [false, true, false, false] cap ex _ HW.out 1 0 false (by unfold U16; omega) (Lib.hid (show dist 1 1 = ((0 : Nat) : Int) by decide +kernel)) (by decide +kernel)).mono ?_
  rintro e w' ⟨rfl, rfl⟩
  go_wp2_with fail
  with_reducible refine (new16_bad 0 0 _ (by omega)).mono ?_
  rintro e w' ⟨rfl, rfl⟩
  go_wp2_with fail
  go_returns
  exact ⟨rfl, by go_grown⟩

end Go.Proofs.Ythibagfmglnejaa
