/- A board is the one that is wanted, and shares no memory. -/
import Derived.Test.YtkkpckkkcclhhaaDoorBLt
import Derived.Test.YtkkpckkkcclhhaaDoorBSa
import Derived.Deep.DeepCutAuto
import Derived.LoopTactic
import Derived.Deep.MidRow
namespace Go.Proofs.YtkkpckkkcclhhaaDoor
open Go.RowKit Plain
set_option linter.unusedVariables false
set_option linter.unusedSimpArgs false

set_option maxRecDepth 100000 in
set_option maxHeartbeats 4000000 in
theorem gives (sx sw sf sb : Bs) (X B : Bd) (en : Int) (lo hi : Nat) (w : World) (hx : BdO lo hi w sx X) (hhi : hi ≤ w.heap.size) (hw : BdR w sw X) (hf : ∀ W, Rng lo hi w W → BdR W sf B) (hb : ∀ W, Rng lo hi w W → BdR W sb B) :
    Calls Tryd.prog 18 #[bv sx X, .int .i64 en, bv sw X, .int .i64 en, bv sf B, bv sb B] w fun e w' => e = .returned (.bool true) ∧ Rng lo hi w w' := by
  have HO := Lib.hid hx
  have HW := Lib.hid hw
  have HF := Lib.hid hf
  have HS := Lib.hid hb
  have HHI := Lib.hid hhi
  have te : (en == en) = true := by simp
  clear hx hhi hw hf hb
  go_enter Tryd.func18, Tryd.ntmps18
  go_upto_region 1 with fail
  change Code.wp Tryd.prog _ _ _ ((((w.alloc (.cells (bcells sx X) 39)).alloc (.cells (bcells sw X) 39)).alloc (.cells (bcells sf B) 39)).alloc (.cells (bcells sb B) 39))
  obtain ⟨wz, hwz⟩ : ∃ W, W = ((((w.alloc (.cells (bcells sx X) 39)).alloc (.cells (bcells sw X) 39)).alloc (.cells (bcells sf B) 39)).alloc (.cells (bcells sb B) 39)) := ⟨_, rfl⟩
  have b1 : Below w.heap.size w (w.alloc (.cells (bcells sx X) 39)) := (Below.refl _ _).alloc (Nat.le_refl _) _
  have b2 : Below (w.alloc (.cells (bcells sx X) 39)).heap.size (w.alloc (.cells (bcells sx X) 39)) ((w.alloc (.cells (bcells sx X) 39)).alloc (.cells (bcells sw X) 39)) := (Below.refl _ _).alloc (Nat.le_refl _) _
  have b3 : Below ((w.alloc (.cells (bcells sx X) 39)).alloc (.cells (bcells sw X) 39)).heap.size ((w.alloc (.cells (bcells sx X) 39)).alloc (.cells (bcells sw X) 39)) (((w.alloc (.cells (bcells sx X) 39)).alloc (.cells (bcells sw X) 39)).alloc (.cells (bcells sf B) 39)) := (Below.refl _ _).alloc (Nat.le_refl _) _
  have b4 : Below (((w.alloc (.cells (bcells sx X) 39)).alloc (.cells (bcells sw X) 39)).alloc (.cells (bcells sf B) 39)).heap.size (((w.alloc (.cells (bcells sx X) 39)).alloc (.cells (bcells sw X) 39)).alloc (.cells (bcells sf B) 39)) wz := by rw [hwz]; exact (Below.refl _ _).alloc (Nat.le_refl _) _
  have HX0 : Hid (Bx wz w.heap.size sx X) := Lib.hid (((Bx.below (w := (w.alloc (.cells (bcells sx X) 39))) (heap_alloc_new _ _) b2).below b3).below b4)
  have HX1 : Hid (Bx wz (w.heap.size + 1) sw X) := Lib.hid ((Bx.below (w := ((w.alloc (.cells (bcells sx X) 39)).alloc (.cells (bcells sw X) 39))) (by show _ = _; rw [show w.heap.size + 1 = (w.alloc (.cells (bcells sx X) 39)).heap.size by simp]; exact heap_alloc_new _ _) b3).below b4)
  have HX2 : Hid (Bx wz (w.heap.size + 1 + 1) sf B) := Lib.hid (Bx.below (w := (((w.alloc (.cells (bcells sx X) 39)).alloc (.cells (bcells sw X) 39)).alloc (.cells (bcells sf B) 39))) (by show _ = _; rw [show w.heap.size + 1 + 1 = ((w.alloc (.cells (bcells sx X) 39)).alloc (.cells (bcells sw X) 39)).heap.size by simp]; exact heap_alloc_new _ _) b4)
  have HX3 : Hid (Bx wz (w.heap.size + 1 + 1 + 1) sb B) := Lib.hid (by rw [hwz]; show _ = _; rw [show w.heap.size + 1 + 1 + 1 = (((w.alloc (.cells (bcells sx X) 39)).alloc (.cells (bcells sw X) 39)).alloc (.cells (bcells sf B) 39)).heap.size by simp]; exact heap_alloc_new _ _)
  have HB : Hid (Below w.heap.size w wz) := Lib.hid (below_via (below_via (below_via b1 b2) b3) b4)
  rw [← hwz]
  clear hwz b1 b2 b3 b4
  go_wp2_with (first | (refine wpList_load_bx _ rfl rfl HX0.out (by kernel_rfl) ?_) | (refine wpList_load_bx _ rfl rfl HX1.out (by kernel_rfl) ?_))
  with_reducible refine (rsame sx sw X _ (HO.out.rd.below HB.out) (HW.out.below HB.out)).mono ?_
  rintro e w2 ⟨rfl, hb2⟩
  replace HX0 := Lib.hid (HX0.out.below hb2)
  replace HX2 := Lib.hid (HX2.out.below hb2)
  replace HX3 := Lib.hid (HX3.out.below hb2)
  replace HB := Lib.hid (below_via HB.out hb2)
  clear hb2
  go_wp2_with (first | (refine wpList_load_bx _ rfl rfl HX2.out (by kernel_rfl) ?_) | (refine wpList_load_bx _ rfl rfl HX3.out (by kernel_rfl) ?_))
  with_reducible refine (rsame sf sb B _ (HF.out _ (Rng.of HB.out)) (HS.out _ (Rng.of HB.out))).mono ?_
  rintro e w3 ⟨rfl, hb2⟩
  replace HX0 := Lib.hid (HX0.out.below hb2)
  replace HX2 := Lib.hid (HX2.out.below hb2)
  replace HX3 := Lib.hid (HX3.out.below hb2)
  replace HB := Lib.hid (below_via HB.out hb2)
  clear hb2
  go_wp2_with (first | (refine wpList_load_bx _ rfl rfl HX0.out (by kernel_rfl) ?_))
  with_reducible refine (stain sx X lo hi _ (HO.out.below HB.out) (Nat.le_trans HHI.out HB.out.size)).mono ?_
  rintro e w4 ⟨rfl, hr⟩
  replace HX2 : Hid (Bx w4 _ sf B) := Lib.hid ((hr.block _ HX2.out.lt (by have := HHI.out; omega)).trans HX2.out)
  replace HX3 : Hid (Bx w4 _ sb B) := Lib.hid ((hr.block _ HX3.out.lt (by have := HHI.out; omega)).trans HX3.out)
  have HR : Hid (Rng lo hi w w4) := Lib.hid ((Rng.of HB.out).trans hr)
  clear hr HX0 HX1 HB
  go_wp2_with (first | (refine wpList_load_bx _ rfl rfl HX2.out (by kernel_rfl) ?_) | (refine wpList_load_bx _ rfl rfl HX3.out (by kernel_rfl) ?_))
  with_reducible refine (rsame sf sb B _ (HF.out _ HR.out) (HS.out _ HR.out)).mono ?_
  rintro e w5 ⟨rfl, hb2⟩
  replace HR := Lib.hid (HR.out.grow hb2)
  clear hb2
  go_wp2_with fail
  go_returns
  exact ⟨rfl, HR.out⟩
end Go.Proofs.YtkkpckkkcclhhaaDoor
