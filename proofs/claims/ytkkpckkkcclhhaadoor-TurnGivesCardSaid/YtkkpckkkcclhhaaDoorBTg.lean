/- The law about who has priority: the walk. -/
import Derived.Test.YtkkpckkkcclhhaaDoorBTy
namespace Go.Proofs.YtkkpckkkcclhhaaDoor
open Go.RowKit Plain
set_option linter.unusedVariables false
set_option linter.unusedSimpArgs false

def Plain.paB (B : Bd) : Bd := if B.ho < 0 then zeroB else if 1 ≤ B.pa then giB B (-1) 0 else giB B (1 - B.ho) (B.pa + 1)
def Plain.paF (B : Bd) : Bool := if B.ho < 0 then false else if 1 ≤ B.pa then true else false
def Plain.paE (B : Bd) : Int := if B.ho < 0 then 8 else 0
theorem pa_num {B : Bd} (h : VB B) : (-1 ≤ B.ho ∧ B.ho ≤ 1) ∧ (0 ≤ B.pa ∧ B.pa ≤ 2) := by
  have hn := h.num
  unfold vNum at hn
  exact ⟨hn.2.2.2.1, hn.2.2.2.2.1⟩
theorem pass_any (s : Bs) (B : Bd) (w : World) (h : BdR w s B) (hk : B.Ok) (hv : VB B) : Calls Tryd.prog 17 #[bv s B] w fun e w' => BrP w (paB B) (.bool (paF B)) (.int .i64 (paE B)) e w' := by
  have hn := pa_num hv
  unfold paB paF paE
  by_cases h1 : B.ho < 0
  · rw [if_pos h1, if_pos h1, if_pos h1]; exact pass_state s B w h hk hv h1
  · rw [if_neg h1, if_neg h1, if_neg h1]
    by_cases h2 : 1 ≤ B.pa
    · rw [if_pos h2, if_pos h2]; exact pass_two s B w h hk hv h1 h2
    · rw [if_neg h2, if_neg h2]; exact pass_one s B w h hk hv h1 (by omega)
theorem rpass_any (s : Bs) (B : Bd) (w : World) (h : BdR w s B) (hk : B.Ok) (hv : VB B) : Calls Tryd.prog 19 #[bv s B] w fun e w' => BrP w (paB B) (.bool (paF B)) (.int .i64 (paE B)) e w' := by
  have hn := pa_num hv
  unfold paB paF paE
  by_cases h1 : B.ho < 0
  · rw [if_pos h1, if_pos h1, if_pos h1]; exact rpass_state s B w h1
  · rw [if_neg h1, if_neg h1, if_neg h1]
    by_cases h2 : 1 ≤ B.pa
    · rw [if_pos h2, if_pos h2]; exact rpass_two s B w h hk hv h1 h2
    · rw [if_neg h2, if_neg h2]; exact rpass_one s B w h hk hv h1 (by omega)
theorem pa_next {B : Bd} (hv : VB B) (hk : B.Ok) (he : paE B = 0) : VB (paB B) ∧ (paB B).Ok := by
  have hn := pa_num hv
  unfold paE at he
  unfold paB
  by_cases h1 : B.ho < 0
  · rw [if_pos h1] at he; omega
  · rw [if_neg h1]
    by_cases h2 : 1 ≤ B.pa
    · rw [if_pos h2]; exact ⟨VB.gi hv (by omega) (by omega), giB_ok hk _ _⟩
    · rw [if_neg h2]; exact ⟨VB.gi hv (by omega) (by omega), giB_ok hk _ _⟩
set_option maxRecDepth 100000 in
set_option maxHeartbeats 4000000 in
theorem gives_many (s : Bs) (B : Bd) (pl pa m : Int) (w : World) (h : BdR w s B) (hi : B.I) (hwd : Wds w) (hm : 6 < m) : Calls Tryd.prog 4 #[bv s B, .int .i64 pl, .int .i64 pa, .int .u8 m] w fun e w' => e = .returned (.bool true) ∧ Below w.heap.size w w' := by
  have tm : decide (m > 6) = true := decide_eq_true hm
  clear hm
  go_enter Tryd.func4, Tryd.ntmps4
  go_upto_region 1 with fail
  change Code.wp Tryd.prog _ _ _ (w.alloc (.cells (bcells s B) 39))
  obtain ⟨w0, hw0⟩ : ∃ W, W = w.alloc (.cells (bcells s B) 39) := ⟨_, rfl⟩
  have hb : Below w.heap.size w w0 := by rw [hw0]; exact (Below.refl _ _).alloc (Nat.le_refl _) _
  have HXb : Hid (Bx w0 w.heap.size s B) := Lib.hid (by rw [hw0]; exact heap_alloc_new _ _)
  have HB := Lib.hid hb
  have HR := Lib.hid h
  have HWD : Hid (Wds w0) := Lib.hid (hwd.below hb)
  rw [← hw0]
  clear hw0 hb h hwd
  go_wp2_with (refine wpList_load_bx _ rfl rfl HXb.out (by kernel_rfl) ?_)
  with_reducible refine (bsmall s B _ (HR.out.below HB.out)).mono ?_
  rintro e w1 ⟨⟨r, rfl, hr⟩, hb⟩
  replace HB := Lib.hid (below_via HB.out hb)
  replace HXb := Lib.hid (HXb.out.below hb)
  replace HWD := Lib.hid (HWD.out.below hb)
  clear hb
  cases r
  · go_wp2_with fail
    with_reducible refine (known _ HWD.out).mono ?_
    rintro e w2 ⟨rfl, hb⟩
    replace HB := Lib.hid (below_via HB.out hb)
    clear hb
    go_wp2_with fail
    go_returns
    exact ⟨rfl, HB.out⟩
  have HK : Hid B.Ok := Lib.hid (Tiny.ok (hr rfl) hi)
  clear hr hi
  have HC0 : Hid (w.heap.size < w1.heap.size) := Lib.hid HXb.out.lt
  clear HC0 HK HR
  go_wp2_with fail
  with_reducible refine (known _ HWD.out).mono ?_
  rintro e w2 ⟨rfl, hb⟩
  replace HB := Lib.hid (below_via HB.out hb)
  clear hb
  go_wp2_with fail
  go_returns
  exact ⟨rfl, HB.out⟩
set_option maxRecDepth 100000 in
set_option maxHeartbeats 4000000 in
theorem gives_bad (s : Bs) (B : Bd) (pl pa m : Int) (w : World) (h : BdR w s B) (hi : B.I) (hwd : Wds w) (hm : m ≤ 6) (hv : ¬ VB B) : Calls Tryd.prog 4 #[bv s B, .int .i64 pl, .int .i64 pa, .int .u8 m] w fun e w' => e = .returned (.bool true) ∧ Below w.heap.size w w' := by
  have tm : decide (m > 6) = false := decide_eq_false (by omega)
  have HV := Lib.hid hv
  have HN : Hid (¬ (VB B ∧ (-1 ≤ pl ∧ pl ≤ 1) ∧ (0 ≤ pa ∧ pa ≤ 2))) := Lib.hid (fun h => hv h.1)
  clear hm hv
  go_enter Tryd.func4, Tryd.ntmps4
  go_upto_region 1 with fail
  change Code.wp Tryd.prog _ _ _ (w.alloc (.cells (bcells s B) 39))
  obtain ⟨w0, hw0⟩ : ∃ W, W = w.alloc (.cells (bcells s B) 39) := ⟨_, rfl⟩
  have hb : Below w.heap.size w w0 := by rw [hw0]; exact (Below.refl _ _).alloc (Nat.le_refl _) _
  have HXb : Hid (Bx w0 w.heap.size s B) := Lib.hid (by rw [hw0]; exact heap_alloc_new _ _)
  have HB := Lib.hid hb
  have HR := Lib.hid h
  have HWD : Hid (Wds w0) := Lib.hid (hwd.below hb)
  rw [← hw0]
  clear hw0 hb h hwd
  go_wp2_with (refine wpList_load_bx _ rfl rfl HXb.out (by kernel_rfl) ?_)
  with_reducible refine (bsmall s B _ (HR.out.below HB.out)).mono ?_
  rintro e w1 ⟨⟨r, rfl, hr⟩, hb⟩
  replace HB := Lib.hid (below_via HB.out hb)
  replace HXb := Lib.hid (HXb.out.below hb)
  replace HWD := Lib.hid (HWD.out.below hb)
  clear hb
  cases r
  · go_wp2_with fail
    with_reducible refine (known _ HWD.out).mono ?_
    rintro e w2 ⟨rfl, hb⟩
    replace HB := Lib.hid (below_via HB.out hb)
    clear hb
    go_wp2_with fail
    go_returns
    exact ⟨rfl, HB.out⟩
  have HK : Hid B.Ok := Lib.hid (Tiny.ok (hr rfl) hi)
  clear hr hi
  have HC0 : Hid (w.heap.size < w1.heap.size) := Lib.hid HXb.out.lt
  go_upto_region 3 with fail
  go_wp2_with (first | (refine wpList_load_bx _ rfl rfl HXb.out (by kernel_rfl) ?_))
  with_reducible refine (rcopy s B _ (HR.out.below HB.out) HK.out.sm ⟨HK.out.st, HK.out.qu⟩).mono ?_
  rintro e w2 ⟨sw, rfl, ho, hb⟩
  have HC1_w2 : Hid (w1.heap.size ≤ w2.heap.size) := Lib.hid hb.size
  replace HB := Lib.hid (below_via HB.out hb)
  replace HXb := Lib.hid (HXb.out.below hb)
  replace HWD := Lib.hid (HWD.out.below hb)
  have HOw := Lib.hid ho
  clear ho hb
  go_wp2_with (refine wpList_store_bh rfl _ _ rfl rfl rfl (heap_alloc_new _ _) rfl ?_)
  intro w3 hw0
  have hbx := boxed hw0.out
  have hb := hbx.1
  replace HB := Lib.hid (below_via HB.out hb)
  replace HXb := Lib.hid (HXb.out.below hb)
  replace HOw := Lib.hid (HOw.out.below hb)
  replace HWD := Lib.hid (HWD.out.below hb)
  have HXw := Lib.hid hbx.2
  have HC2_w3 : Hid (w2.heap.size < w3.heap.size) := Lib.hid HXw.out.lt
  clear hw0 hbx hb
  go_wp2_with (first | (refine wpList_load_bx _ rfl rfl HXb.out (by kernel_rfl) ?_))
  with_reducible refine (give_bad s B pl pa _ (HR.out.below HB.out) HK.out HN.out).mono ?_
  rintro e w4 ⟨sx, rfl, ho, hb⟩
  have HC3_w4 : Hid (w3.heap.size ≤ w4.heap.size) := Lib.hid hb.size
  replace HB := Lib.hid (below_via HB.out hb)
  replace HXb := Lib.hid (HXb.out.below hb)
  replace HXw := Lib.hid (HXw.out.below hb)
  replace HOw := Lib.hid (HOw.out.below hb)
  replace HWD := Lib.hid (HWD.out.below hb)
  have HOx := Lib.hid ho
  clear ho hb
  go_wp2_with (refine wpList_store_bh rfl _ _ rfl rfl rfl (heap_alloc_new _ _) rfl ?_)
  intro w5 hw0
  have hbx := boxed hw0.out
  have hb := hbx.1
  replace HB := Lib.hid (below_via HB.out hb)
  replace HXb := Lib.hid (HXb.out.below hb)
  replace HXw := Lib.hid (HXw.out.below hb)
  replace HOw := Lib.hid (HOw.out.below hb)
  replace HOx := Lib.hid (HOx.out.below hb)
  replace HWD := Lib.hid (HWD.out.below hb)
  have HXx := Lib.hid hbx.2
  have HC4_w5 : Hid (w4.heap.size < w5.heap.size) := Lib.hid HXx.out.lt
  clear hw0 hbx hb
  go_wp2_with (first | (refine wpList_load_bx _ rfl rfl HXb.out (by kernel_rfl) ?_))
  with_reducible refine (brvalid s (B) _ (HR.out.below HB.out) HK.out.i HK.out.sm).mono ?_
  rintro e w6 ⟨⟨r, rfl, hr⟩, hb⟩
  have HC5_w6 : Hid (w5.heap.size ≤ w6.heap.size) := Lib.hid hb.size
  replace HB := Lib.hid (below_via HB.out hb)
  replace HXb := Lib.hid (HXb.out.below hb)
  replace HXw := Lib.hid (HXw.out.below hb)
  replace HXx := Lib.hid (HXx.out.below hb)
  replace HOw := Lib.hid (HOw.out.below hb)
  replace HOx := Lib.hid (HOx.out.below hb)
  replace HWD := Lib.hid (HWD.out.below hb)
  obtain rfl : r = false := by cases r with | false => rfl | true => exact absurd (hr.1 rfl) HV.out
  clear hr hb
  go_upto_region 6 with fail
  go_wp2_with (first | (refine wpList_load_bx _ rfl rfl HXb.out (by kernel_rfl) ?_))
  with_reducible refine (pass_bad s B _ (HR.out.below HB.out) HK.out HV.out).mono ?_
  rintro e w7 ⟨sy, rfl, ho, hb⟩
  have HC6_w7 : Hid (w6.heap.size ≤ w7.heap.size) := Lib.hid hb.size
  replace HB := Lib.hid (below_via HB.out hb)
  replace HXb := Lib.hid (HXb.out.below hb)
  replace HXw := Lib.hid (HXw.out.below hb)
  replace HXx := Lib.hid (HXx.out.below hb)
  replace HOw := Lib.hid (HOw.out.below hb)
  replace HOx := Lib.hid (HOx.out.below hb)
  replace HWD := Lib.hid (HWD.out.below hb)
  have HOy := Lib.hid ho
  clear ho hb
  go_wp2_with (refine wpList_store_bh rfl _ _ rfl rfl rfl (heap_alloc_new _ _) rfl ?_)
  intro w8 hw0
  have hbx := boxed hw0.out
  have hb := hbx.1
  replace HB := Lib.hid (below_via HB.out hb)
  replace HXb := Lib.hid (HXb.out.below hb)
  replace HXw := Lib.hid (HXw.out.below hb)
  replace HXx := Lib.hid (HXx.out.below hb)
  replace HOw := Lib.hid (HOw.out.below hb)
  replace HOx := Lib.hid (HOx.out.below hb)
  replace HOy := Lib.hid (HOy.out.below hb)
  replace HWD := Lib.hid (HWD.out.below hb)
  have HXy := Lib.hid hbx.2
  have HC7_w8 : Hid (w7.heap.size < w8.heap.size) := Lib.hid HXy.out.lt
  clear hw0 hbx hb
  go_wp2_with (first | (refine wpList_load_bx _ rfl rfl HXx.out (by kernel_rfl) ?_) | (refine wpList_load_bx _ rfl rfl HXb.out (by kernel_rfl) ?_) | (refine wpList_load_bx _ rfl rfl HXw.out (by kernel_rfl) ?_))
  have o0 := HC0.out
  have o1 := HC1_w2.out
  have o2 := HC2_w3.out
  have o3 := HC3_w4.out
  have o4 := HC4_w5.out
  have o5 := HC5_w6.out
  have o6 := HC6_w7.out
  have o7 := HC7_w8.out
  have hxb := HXb.out.lt
  have hxw := HXw.out.lt
  have hxx := HXx.out.lt
  have hxy := HXy.out.lt
  have hs0 := HB.out.size
  have hs9 := HB.out.size
  with_reducible refine (givesV sx s sw (B) 2 w3.heap.size w4.heap.size _ (by with_unfolding_all rfl) HOx.out (by omega) (fun W hr => HR.out.below (Rng.below HB.out hr (by omega) hs9)) (fun W hr => (HOw.out.rng hr (by omega) (by omega)).rd)).mono ?_
  rintro e w9 ⟨rfl, hr⟩
  clear HOx
  replace HB := Lib.hid (Rng.below HB.out hr (by omega) hs9)
  replace HXb : Hid (Bx w9 (w.heap.size) s (B)) := Lib.hid ((hr.block _ hxb (by omega)).trans HXb.out)
  replace HXw : Hid (Bx w9 (w2.heap.size) sw (B)) := Lib.hid ((hr.block _ hxw (by omega)).trans HXw.out)
  replace HXx : Hid (Bx w9 (w4.heap.size) sx (zeroB)) := Lib.hid ((hr.block _ hxx (by omega)).trans HXx.out)
  replace HXy : Hid (Bx w9 (w7.heap.size) sy (zeroB)) := Lib.hid ((hr.block _ hxy (by omega)).trans HXy.out)
  replace HOw := Lib.hid (HOw.out.rng hr (by omega) (by omega))
  replace HOy := Lib.hid (HOy.out.rng hr (by omega) (by omega))
  replace HWD := Lib.hid (HWD.out.rng hr (by omega))
  have HC8_w9 : Hid (w8.heap.size ≤ w9.heap.size) := Lib.hid (by have := hr.size; omega)
  clear hr o0 o1 o2 o3 o4 o5 o6 o7 hxb hxw hxx hxy hs0 hs9
  go_wp2_with (first | (refine wpList_load_bx _ rfl rfl HXb.out (by kernel_rfl) ?_))
  with_reducible refine (brvalid s (B) _ (HR.out.below HB.out) HK.out.i HK.out.sm).mono ?_
  rintro e w10 ⟨⟨r, rfl, hr⟩, hb⟩
  have HC9_w10 : Hid (w9.heap.size ≤ w10.heap.size) := Lib.hid hb.size
  replace HB := Lib.hid (below_via HB.out hb)
  replace HXb := Lib.hid (HXb.out.below hb)
  replace HXw := Lib.hid (HXw.out.below hb)
  replace HXx := Lib.hid (HXx.out.below hb)
  replace HXy := Lib.hid (HXy.out.below hb)
  replace HOw := Lib.hid (HOw.out.below hb)
  replace HOy := Lib.hid (HOy.out.below hb)
  replace HWD := Lib.hid (HWD.out.below hb)
  obtain rfl : r = false := by cases r with | false => rfl | true => exact absurd (hr.1 rfl) HV.out
  clear hr hb
  go_wp2_with (first | (refine wpList_load_bx _ rfl rfl HXy.out (by kernel_rfl) ?_) | (refine wpList_load_bx _ rfl rfl HXb.out (by kernel_rfl) ?_) | (refine wpList_load_bx _ rfl rfl HXw.out (by kernel_rfl) ?_))
  have o0 := HC0.out
  have o1 := HC1_w2.out
  have o2 := HC2_w3.out
  have o3 := HC3_w4.out
  have o4 := HC4_w5.out
  have o5 := HC5_w6.out
  have o6 := HC6_w7.out
  have o7 := HC7_w8.out
  have o8 := HC8_w9.out
  have o9 := HC9_w10.out
  have hxb := HXb.out.lt
  have hxw := HXw.out.lt
  have hxx := HXx.out.lt
  have hxy := HXy.out.lt
  have hs0 := HB.out.size
  have hs9 := HB.out.size
  with_reducible refine (givesV sy s sw (B) 2 w6.heap.size w7.heap.size _ (by with_unfolding_all rfl) HOy.out (by omega) (fun W hr => HR.out.below (Rng.below HB.out hr (by omega) hs9)) (fun W hr => (HOw.out.rng hr (by omega) (by omega)).rd)).mono ?_
  rintro e w11 ⟨rfl, hr⟩
  clear HOy
  replace HB := Lib.hid (Rng.below HB.out hr (by omega) hs9)
  replace HXb : Hid (Bx w11 (w.heap.size) s (B)) := Lib.hid ((hr.block _ hxb (by omega)).trans HXb.out)
  replace HXw : Hid (Bx w11 (w2.heap.size) sw (B)) := Lib.hid ((hr.block _ hxw (by omega)).trans HXw.out)
  replace HXx : Hid (Bx w11 (w4.heap.size) sx (zeroB)) := Lib.hid ((hr.block _ hxx (by omega)).trans HXx.out)
  replace HXy : Hid (Bx w11 (w7.heap.size) sy (zeroB)) := Lib.hid ((hr.block _ hxy (by omega)).trans HXy.out)
  replace HOw := Lib.hid (HOw.out.rng hr (by omega) (by omega))
  replace HWD := Lib.hid (HWD.out.rng hr (by omega))
  have HC10_w11 : Hid (w10.heap.size ≤ w11.heap.size) := Lib.hid (by have := hr.size; omega)
  clear hr o0 o1 o2 o3 o4 o5 o6 o7 o8 o9 hxb hxw hxx hxy hs0 hs9
  go_wp2_with fail
  with_reducible refine (known _ HWD.out).mono ?_
  rintro e w12 ⟨rfl, hb⟩
  have HC11_w12 : Hid (w11.heap.size ≤ w12.heap.size) := Lib.hid hb.size
  replace HB := Lib.hid (below_via HB.out hb)
  replace HXb := Lib.hid (HXb.out.below hb)
  replace HXw := Lib.hid (HXw.out.below hb)
  replace HXx := Lib.hid (HXx.out.below hb)
  replace HXy := Lib.hid (HXy.out.below hb)
  replace HOw := Lib.hid (HOw.out.below hb)
  replace HWD := Lib.hid (HWD.out.below hb)
  clear hb
  go_wp2_with fail
  go_returns
  exact ⟨rfl, HB.out⟩
set_option maxRecDepth 100000 in
set_option maxHeartbeats 4000000 in
theorem gives_n1 (s : Bs) (B : Bd) (pl pa m : Int) (w : World) (h : BdR w s B) (hi : B.I) (hwd : Wds w) (hm : m ≤ 6) (hv : VB B) (h1 : pl < -1) : Calls Tryd.prog 4 #[bv s B, .int .i64 pl, .int .i64 pa, .int .u8 m] w fun e w' => e = .returned (.bool true) ∧ Below w.heap.size w w' := by
  have tm : decide (m > 6) = false := decide_eq_false (by omega)
  have HV := Lib.hid hv
  have HN : Hid (¬ (VB B ∧ (-1 ≤ pl ∧ pl ≤ 1) ∧ (0 ≤ pa ∧ pa ≤ 2))) := Lib.hid (fun h => by omega)
  have t0 : decide (pl < -1) = true := by simp; omega
  clear hm hv h1
  go_enter Tryd.func4, Tryd.ntmps4
  go_upto_region 1 with fail
  change Code.wp Tryd.prog _ _ _ (w.alloc (.cells (bcells s B) 39))
  obtain ⟨w0, hw0⟩ : ∃ W, W = w.alloc (.cells (bcells s B) 39) := ⟨_, rfl⟩
  have hb : Below w.heap.size w w0 := by rw [hw0]; exact (Below.refl _ _).alloc (Nat.le_refl _) _
  have HXb : Hid (Bx w0 w.heap.size s B) := Lib.hid (by rw [hw0]; exact heap_alloc_new _ _)
  have HB := Lib.hid hb
  have HR := Lib.hid h
  have HWD : Hid (Wds w0) := Lib.hid (hwd.below hb)
  rw [← hw0]
  clear hw0 hb h hwd
  go_wp2_with (refine wpList_load_bx _ rfl rfl HXb.out (by kernel_rfl) ?_)
  with_reducible refine (bsmall s B _ (HR.out.below HB.out)).mono ?_
  rintro e w1 ⟨⟨r, rfl, hr⟩, hb⟩
  replace HB := Lib.hid (below_via HB.out hb)
  replace HXb := Lib.hid (HXb.out.below hb)
  replace HWD := Lib.hid (HWD.out.below hb)
  clear hb
  cases r
  · go_wp2_with fail
    with_reducible refine (known _ HWD.out).mono ?_
    rintro e w2 ⟨rfl, hb⟩
    replace HB := Lib.hid (below_via HB.out hb)
    clear hb
    go_wp2_with fail
    go_returns
    exact ⟨rfl, HB.out⟩
  have HK : Hid B.Ok := Lib.hid (Tiny.ok (hr rfl) hi)
  clear hr hi
  have HC0 : Hid (w.heap.size < w1.heap.size) := Lib.hid HXb.out.lt
  go_upto_region 3 with fail
  go_wp2_with (first | (refine wpList_load_bx _ rfl rfl HXb.out (by kernel_rfl) ?_))
  with_reducible refine (rcopy s B _ (HR.out.below HB.out) HK.out.sm ⟨HK.out.st, HK.out.qu⟩).mono ?_
  rintro e w2 ⟨sw, rfl, ho, hb⟩
  have HC1_w2 : Hid (w1.heap.size ≤ w2.heap.size) := Lib.hid hb.size
  replace HB := Lib.hid (below_via HB.out hb)
  replace HXb := Lib.hid (HXb.out.below hb)
  replace HWD := Lib.hid (HWD.out.below hb)
  have HOw := Lib.hid ho
  clear ho hb
  go_wp2_with (refine wpList_store_bh rfl _ _ rfl rfl rfl (heap_alloc_new _ _) rfl ?_)
  intro w3 hw0
  have hbx := boxed hw0.out
  have hb := hbx.1
  replace HB := Lib.hid (below_via HB.out hb)
  replace HXb := Lib.hid (HXb.out.below hb)
  replace HOw := Lib.hid (HOw.out.below hb)
  replace HWD := Lib.hid (HWD.out.below hb)
  have HXw := Lib.hid hbx.2
  have HC2_w3 : Hid (w2.heap.size < w3.heap.size) := Lib.hid HXw.out.lt
  clear hw0 hbx hb
  go_wp2_with (first | (refine wpList_load_bx _ rfl rfl HXb.out (by kernel_rfl) ?_))
  with_reducible refine (give_bad s B pl pa _ (HR.out.below HB.out) HK.out HN.out).mono ?_
  rintro e w4 ⟨sx, rfl, ho, hb⟩
  have HC3_w4 : Hid (w3.heap.size ≤ w4.heap.size) := Lib.hid hb.size
  replace HB := Lib.hid (below_via HB.out hb)
  replace HXb := Lib.hid (HXb.out.below hb)
  replace HXw := Lib.hid (HXw.out.below hb)
  replace HOw := Lib.hid (HOw.out.below hb)
  replace HWD := Lib.hid (HWD.out.below hb)
  have HOx := Lib.hid ho
  clear ho hb
  go_wp2_with (refine wpList_store_bh rfl _ _ rfl rfl rfl (heap_alloc_new _ _) rfl ?_)
  intro w5 hw0
  have hbx := boxed hw0.out
  have hb := hbx.1
  replace HB := Lib.hid (below_via HB.out hb)
  replace HXb := Lib.hid (HXb.out.below hb)
  replace HXw := Lib.hid (HXw.out.below hb)
  replace HOw := Lib.hid (HOw.out.below hb)
  replace HOx := Lib.hid (HOx.out.below hb)
  replace HWD := Lib.hid (HWD.out.below hb)
  have HXx := Lib.hid hbx.2
  have HC4_w5 : Hid (w4.heap.size < w5.heap.size) := Lib.hid HXx.out.lt
  clear hw0 hbx hb
  go_wp2_with (first | (refine wpList_load_bx _ rfl rfl HXb.out (by kernel_rfl) ?_))
  with_reducible refine (brvalid s (B) _ (HR.out.below HB.out) HK.out.i HK.out.sm).mono ?_
  rintro e w6 ⟨⟨r, rfl, hr⟩, hb⟩
  have HC5_w6 : Hid (w5.heap.size ≤ w6.heap.size) := Lib.hid hb.size
  replace HB := Lib.hid (below_via HB.out hb)
  replace HXb := Lib.hid (HXb.out.below hb)
  replace HXw := Lib.hid (HXw.out.below hb)
  replace HXx := Lib.hid (HXx.out.below hb)
  replace HOw := Lib.hid (HOw.out.below hb)
  replace HOx := Lib.hid (HOx.out.below hb)
  replace HWD := Lib.hid (HWD.out.below hb)
  obtain rfl : r = true := hr.2 HV.out
  clear hr hb
  go_upto_region 6 with fail
  go_wp2_with (first | (refine wpList_load_bx _ rfl rfl HXb.out (by kernel_rfl) ?_))
  with_reducible refine (pass_any s B _ (HR.out.below HB.out) HK.out HV.out).mono ?_
  rintro e w7 ⟨sy, rfl, ho, hb⟩
  have HC6_w7 : Hid (w6.heap.size ≤ w7.heap.size) := Lib.hid hb.size
  replace HB := Lib.hid (below_via HB.out hb)
  replace HXb := Lib.hid (HXb.out.below hb)
  replace HXw := Lib.hid (HXw.out.below hb)
  replace HXx := Lib.hid (HXx.out.below hb)
  replace HOw := Lib.hid (HOw.out.below hb)
  replace HOx := Lib.hid (HOx.out.below hb)
  replace HWD := Lib.hid (HWD.out.below hb)
  have HOy := Lib.hid ho
  clear ho hb
  go_wp2_with (refine wpList_store_bh rfl _ _ rfl rfl rfl (heap_alloc_new _ _) rfl ?_)
  intro w8 hw0
  have hbx := boxed hw0.out
  have hb := hbx.1
  replace HB := Lib.hid (below_via HB.out hb)
  replace HXb := Lib.hid (HXb.out.below hb)
  replace HXw := Lib.hid (HXw.out.below hb)
  replace HXx := Lib.hid (HXx.out.below hb)
  replace HOw := Lib.hid (HOw.out.below hb)
  replace HOx := Lib.hid (HOx.out.below hb)
  replace HOy := Lib.hid (HOy.out.below hb)
  replace HWD := Lib.hid (HWD.out.below hb)
  have HXy := Lib.hid hbx.2
  have HC7_w8 : Hid (w7.heap.size < w8.heap.size) := Lib.hid HXy.out.lt
  clear hw0 hbx hb
  go_wp2_with (first | (refine wpList_load_bx _ rfl rfl HXx.out (by kernel_rfl) ?_) | (refine wpList_load_bx _ rfl rfl HXb.out (by kernel_rfl) ?_) | (refine wpList_load_bx _ rfl rfl HXw.out (by kernel_rfl) ?_))
  have o0 := HC0.out
  have o1 := HC1_w2.out
  have o2 := HC2_w3.out
  have o3 := HC3_w4.out
  have o4 := HC4_w5.out
  have o5 := HC5_w6.out
  have o6 := HC6_w7.out
  have o7 := HC7_w8.out
  have hxb := HXb.out.lt
  have hxw := HXw.out.lt
  have hxx := HXx.out.lt
  have hxy := HXy.out.lt
  have hs0 := HB.out.size
  have hs9 := HB.out.size
  with_reducible refine (givesV sx s sw (B) 2 w3.heap.size w4.heap.size _ (by with_unfolding_all rfl) HOx.out (by omega) (fun W hr => HR.out.below (Rng.below HB.out hr (by omega) hs9)) (fun W hr => (HOw.out.rng hr (by omega) (by omega)).rd)).mono ?_
  rintro e w9 ⟨rfl, hr⟩
  clear HOx
  replace HB := Lib.hid (Rng.below HB.out hr (by omega) hs9)
  replace HXb : Hid (Bx w9 (w.heap.size) s (B)) := Lib.hid ((hr.block _ hxb (by omega)).trans HXb.out)
  replace HXw : Hid (Bx w9 (w2.heap.size) sw (B)) := Lib.hid ((hr.block _ hxw (by omega)).trans HXw.out)
  replace HXx : Hid (Bx w9 (w4.heap.size) sx (zeroB)) := Lib.hid ((hr.block _ hxx (by omega)).trans HXx.out)
  replace HXy : Hid (Bx w9 (w7.heap.size) sy (paB B)) := Lib.hid ((hr.block _ hxy (by omega)).trans HXy.out)
  replace HOw := Lib.hid (HOw.out.rng hr (by omega) (by omega))
  replace HOy := Lib.hid (HOy.out.rng hr (by omega) (by omega))
  replace HWD := Lib.hid (HWD.out.rng hr (by omega))
  have HC8_w9 : Hid (w8.heap.size ≤ w9.heap.size) := Lib.hid (by have := hr.size; omega)
  clear hr o0 o1 o2 o3 o4 o5 o6 o7 hxb hxw hxx hxy hs0 hs9
  go_wp2_with (first | (refine wpList_load_bx _ rfl rfl HXb.out (by kernel_rfl) ?_))
  with_reducible refine (brvalid s (B) _ (HR.out.below HB.out) HK.out.i HK.out.sm).mono ?_
  rintro e w10 ⟨⟨r, rfl, hr⟩, hb⟩
  have HC9_w10 : Hid (w9.heap.size ≤ w10.heap.size) := Lib.hid hb.size
  replace HB := Lib.hid (below_via HB.out hb)
  replace HXb := Lib.hid (HXb.out.below hb)
  replace HXw := Lib.hid (HXw.out.below hb)
  replace HXx := Lib.hid (HXx.out.below hb)
  replace HXy := Lib.hid (HXy.out.below hb)
  replace HOw := Lib.hid (HOw.out.below hb)
  replace HOy := Lib.hid (HOy.out.below hb)
  replace HWD := Lib.hid (HWD.out.below hb)
  obtain rfl : r = true := hr.2 HV.out
  clear hr hb
  go_wp2_with (first | (refine wpList_load_bx _ rfl rfl HXb.out (by kernel_rfl) ?_))
  with_reducible refine (rpass_any s B _ (HR.out.below HB.out) HK.out HV.out).mono ?_
  rintro e w11 ⟨st, rfl, ho, hb⟩
  have HC10_w11 : Hid (w10.heap.size ≤ w11.heap.size) := Lib.hid hb.size
  replace HB := Lib.hid (below_via HB.out hb)
  replace HXb := Lib.hid (HXb.out.below hb)
  replace HXw := Lib.hid (HXw.out.below hb)
  replace HXx := Lib.hid (HXx.out.below hb)
  replace HXy := Lib.hid (HXy.out.below hb)
  replace HOw := Lib.hid (HOw.out.below hb)
  replace HOy := Lib.hid (HOy.out.below hb)
  replace HWD := Lib.hid (HWD.out.below hb)
  have HOt := Lib.hid ho
  clear ho hb
  go_wp2_with (refine wpList_store_bh rfl _ _ rfl rfl rfl (heap_alloc_new _ _) rfl ?_)
  intro w12 hw0
  have hbx := boxed hw0.out
  have hb := hbx.1
  replace HB := Lib.hid (below_via HB.out hb)
  replace HXb := Lib.hid (HXb.out.below hb)
  replace HXw := Lib.hid (HXw.out.below hb)
  replace HXx := Lib.hid (HXx.out.below hb)
  replace HXy := Lib.hid (HXy.out.below hb)
  replace HOw := Lib.hid (HOw.out.below hb)
  replace HOy := Lib.hid (HOy.out.below hb)
  replace HOt := Lib.hid (HOt.out.below hb)
  replace HWD := Lib.hid (HWD.out.below hb)
  have HXt := Lib.hid hbx.2
  have HC11_w12 : Hid (w11.heap.size < w12.heap.size) := Lib.hid HXt.out.lt
  clear hw0 hbx hb
  have tf : (paF B == paF B) = true := by simp
  go_wp2_with (first | (refine wpList_load_bx _ rfl rfl HXy.out (by kernel_rfl) ?_) | (refine wpList_load_bx _ rfl rfl HXt.out (by kernel_rfl) ?_) | (refine wpList_load_bx _ rfl rfl HXb.out (by kernel_rfl) ?_) | (refine wpList_load_bx _ rfl rfl HXw.out (by kernel_rfl) ?_))
  have o0 := HC0.out
  have o1 := HC1_w2.out
  have o2 := HC2_w3.out
  have o3 := HC3_w4.out
  have o4 := HC4_w5.out
  have o5 := HC5_w6.out
  have o6 := HC6_w7.out
  have o7 := HC7_w8.out
  have o8 := HC8_w9.out
  have o9 := HC9_w10.out
  have o10 := HC10_w11.out
  have o11 := HC11_w12.out
  have hxb := HXb.out.lt
  have hxw := HXw.out.lt
  have hxx := HXx.out.lt
  have hxy := HXy.out.lt
  have hxt := HXt.out.lt
  have hs0 := HB.out.size
  have hs9 := HB.out.size
  with_reducible refine (gives sy st s sw (paB B) (B) (paE B) w6.heap.size w7.heap.size _ HOy.out (by omega) HOt.out.rd (fun W hr => HR.out.below (Rng.below HB.out hr (by omega) hs9)) (fun W hr => (HOw.out.rng hr (by omega) (by omega)).rd)).mono ?_
  rintro e w13 ⟨rfl, hr⟩
  clear HOy
  replace HB := Lib.hid (Rng.below HB.out hr (by omega) hs9)
  replace HXb : Hid (Bx w13 (w.heap.size) s (B)) := Lib.hid ((hr.block _ hxb (by omega)).trans HXb.out)
  replace HXw : Hid (Bx w13 (w2.heap.size) sw (B)) := Lib.hid ((hr.block _ hxw (by omega)).trans HXw.out)
  replace HXx : Hid (Bx w13 (w4.heap.size) sx (zeroB)) := Lib.hid ((hr.block _ hxx (by omega)).trans HXx.out)
  replace HXy : Hid (Bx w13 (w7.heap.size) sy (paB B)) := Lib.hid ((hr.block _ hxy (by omega)).trans HXy.out)
  replace HXt : Hid (Bx w13 (w11.heap.size) st (paB B)) := Lib.hid ((hr.block _ hxt (by omega)).trans HXt.out)
  replace HOw := Lib.hid (HOw.out.rng hr (by omega) (by omega))
  replace HOt := Lib.hid (HOt.out.rng hr (by omega) (by omega))
  replace HWD := Lib.hid (HWD.out.rng hr (by omega))
  have HC12_w13 : Hid (w12.heap.size ≤ w13.heap.size) := Lib.hid (by have := hr.size; omega)
  clear hr o0 o1 o2 o3 o4 o5 o6 o7 o8 o9 o10 o11 hxb hxw hxx hxy hxt hs0 hs9
  go_wp2_with fail
  with_reducible refine (known _ HWD.out).mono ?_
  rintro e w14 ⟨rfl, hb⟩
  have HC13_w14 : Hid (w13.heap.size ≤ w14.heap.size) := Lib.hid hb.size
  replace HB := Lib.hid (below_via HB.out hb)
  replace HXb := Lib.hid (HXb.out.below hb)
  replace HXw := Lib.hid (HXw.out.below hb)
  replace HXx := Lib.hid (HXx.out.below hb)
  replace HXy := Lib.hid (HXy.out.below hb)
  replace HXt := Lib.hid (HXt.out.below hb)
  replace HOw := Lib.hid (HOw.out.below hb)
  replace HOt := Lib.hid (HOt.out.below hb)
  replace HWD := Lib.hid (HWD.out.below hb)
  clear hb
  go_wp2_with fail
  go_returns
  exact ⟨rfl, HB.out⟩
set_option maxRecDepth 100000 in
set_option maxHeartbeats 4000000 in
theorem gives_n2 (s : Bs) (B : Bd) (pl pa m : Int) (w : World) (h : BdR w s B) (hi : B.I) (hwd : Wds w) (hm : m ≤ 6) (hv : VB B) (h1 : 1 < pl) : Calls Tryd.prog 4 #[bv s B, .int .i64 pl, .int .i64 pa, .int .u8 m] w fun e w' => e = .returned (.bool true) ∧ Below w.heap.size w w' := by
  have tm : decide (m > 6) = false := decide_eq_false (by omega)
  have HV := Lib.hid hv
  have HN : Hid (¬ (VB B ∧ (-1 ≤ pl ∧ pl ≤ 1) ∧ (0 ≤ pa ∧ pa ≤ 2))) := Lib.hid (fun h => by omega)
  have t0 : decide (pl < -1) = false := by simp; omega
  have t1 : decide (pl > 1) = true := by simp; omega
  clear hm hv h1
  go_enter Tryd.func4, Tryd.ntmps4
  go_upto_region 1 with fail
  change Code.wp Tryd.prog _ _ _ (w.alloc (.cells (bcells s B) 39))
  obtain ⟨w0, hw0⟩ : ∃ W, W = w.alloc (.cells (bcells s B) 39) := ⟨_, rfl⟩
  have hb : Below w.heap.size w w0 := by rw [hw0]; exact (Below.refl _ _).alloc (Nat.le_refl _) _
  have HXb : Hid (Bx w0 w.heap.size s B) := Lib.hid (by rw [hw0]; exact heap_alloc_new _ _)
  have HB := Lib.hid hb
  have HR := Lib.hid h
  have HWD : Hid (Wds w0) := Lib.hid (hwd.below hb)
  rw [← hw0]
  clear hw0 hb h hwd
  go_wp2_with (refine wpList_load_bx _ rfl rfl HXb.out (by kernel_rfl) ?_)
  with_reducible refine (bsmall s B _ (HR.out.below HB.out)).mono ?_
  rintro e w1 ⟨⟨r, rfl, hr⟩, hb⟩
  replace HB := Lib.hid (below_via HB.out hb)
  replace HXb := Lib.hid (HXb.out.below hb)
  replace HWD := Lib.hid (HWD.out.below hb)
  clear hb
  cases r
  · go_wp2_with fail
    with_reducible refine (known _ HWD.out).mono ?_
    rintro e w2 ⟨rfl, hb⟩
    replace HB := Lib.hid (below_via HB.out hb)
    clear hb
    go_wp2_with fail
    go_returns
    exact ⟨rfl, HB.out⟩
  have HK : Hid B.Ok := Lib.hid (Tiny.ok (hr rfl) hi)
  clear hr hi
  have HC0 : Hid (w.heap.size < w1.heap.size) := Lib.hid HXb.out.lt
  go_upto_region 3 with fail
  go_wp2_with (first | (refine wpList_load_bx _ rfl rfl HXb.out (by kernel_rfl) ?_))
  with_reducible refine (rcopy s B _ (HR.out.below HB.out) HK.out.sm ⟨HK.out.st, HK.out.qu⟩).mono ?_
  rintro e w2 ⟨sw, rfl, ho, hb⟩
  have HC1_w2 : Hid (w1.heap.size ≤ w2.heap.size) := Lib.hid hb.size
  replace HB := Lib.hid (below_via HB.out hb)
  replace HXb := Lib.hid (HXb.out.below hb)
  replace HWD := Lib.hid (HWD.out.below hb)
  have HOw := Lib.hid ho
  clear ho hb
  go_wp2_with (refine wpList_store_bh rfl _ _ rfl rfl rfl (heap_alloc_new _ _) rfl ?_)
  intro w3 hw0
  have hbx := boxed hw0.out
  have hb := hbx.1
  replace HB := Lib.hid (below_via HB.out hb)
  replace HXb := Lib.hid (HXb.out.below hb)
  replace HOw := Lib.hid (HOw.out.below hb)
  replace HWD := Lib.hid (HWD.out.below hb)
  have HXw := Lib.hid hbx.2
  have HC2_w3 : Hid (w2.heap.size < w3.heap.size) := Lib.hid HXw.out.lt
  clear hw0 hbx hb
  go_wp2_with (first | (refine wpList_load_bx _ rfl rfl HXb.out (by kernel_rfl) ?_))
  with_reducible refine (give_bad s B pl pa _ (HR.out.below HB.out) HK.out HN.out).mono ?_
  rintro e w4 ⟨sx, rfl, ho, hb⟩
  have HC3_w4 : Hid (w3.heap.size ≤ w4.heap.size) := Lib.hid hb.size
  replace HB := Lib.hid (below_via HB.out hb)
  replace HXb := Lib.hid (HXb.out.below hb)
  replace HXw := Lib.hid (HXw.out.below hb)
  replace HOw := Lib.hid (HOw.out.below hb)
  replace HWD := Lib.hid (HWD.out.below hb)
  have HOx := Lib.hid ho
  clear ho hb
  go_wp2_with (refine wpList_store_bh rfl _ _ rfl rfl rfl (heap_alloc_new _ _) rfl ?_)
  intro w5 hw0
  have hbx := boxed hw0.out
  have hb := hbx.1
  replace HB := Lib.hid (below_via HB.out hb)
  replace HXb := Lib.hid (HXb.out.below hb)
  replace HXw := Lib.hid (HXw.out.below hb)
  replace HOw := Lib.hid (HOw.out.below hb)
  replace HOx := Lib.hid (HOx.out.below hb)
  replace HWD := Lib.hid (HWD.out.below hb)
  have HXx := Lib.hid hbx.2
  have HC4_w5 : Hid (w4.heap.size < w5.heap.size) := Lib.hid HXx.out.lt
  clear hw0 hbx hb
  go_wp2_with (first | (refine wpList_load_bx _ rfl rfl HXb.out (by kernel_rfl) ?_))
  with_reducible refine (brvalid s (B) _ (HR.out.below HB.out) HK.out.i HK.out.sm).mono ?_
  rintro e w6 ⟨⟨r, rfl, hr⟩, hb⟩
  have HC5_w6 : Hid (w5.heap.size ≤ w6.heap.size) := Lib.hid hb.size
  replace HB := Lib.hid (below_via HB.out hb)
  replace HXb := Lib.hid (HXb.out.below hb)
  replace HXw := Lib.hid (HXw.out.below hb)
  replace HXx := Lib.hid (HXx.out.below hb)
  replace HOw := Lib.hid (HOw.out.below hb)
  replace HOx := Lib.hid (HOx.out.below hb)
  replace HWD := Lib.hid (HWD.out.below hb)
  obtain rfl : r = true := hr.2 HV.out
  clear hr hb
  go_upto_region 6 with fail
  go_wp2_with (first | (refine wpList_load_bx _ rfl rfl HXb.out (by kernel_rfl) ?_))
  with_reducible refine (pass_any s B _ (HR.out.below HB.out) HK.out HV.out).mono ?_
  rintro e w7 ⟨sy, rfl, ho, hb⟩
  have HC6_w7 : Hid (w6.heap.size ≤ w7.heap.size) := Lib.hid hb.size
  replace HB := Lib.hid (below_via HB.out hb)
  replace HXb := Lib.hid (HXb.out.below hb)
  replace HXw := Lib.hid (HXw.out.below hb)
  replace HXx := Lib.hid (HXx.out.below hb)
  replace HOw := Lib.hid (HOw.out.below hb)
  replace HOx := Lib.hid (HOx.out.below hb)
  replace HWD := Lib.hid (HWD.out.below hb)
  have HOy := Lib.hid ho
  clear ho hb
  go_wp2_with (refine wpList_store_bh rfl _ _ rfl rfl rfl (heap_alloc_new _ _) rfl ?_)
  intro w8 hw0
  have hbx := boxed hw0.out
  have hb := hbx.1
  replace HB := Lib.hid (below_via HB.out hb)
  replace HXb := Lib.hid (HXb.out.below hb)
  replace HXw := Lib.hid (HXw.out.below hb)
  replace HXx := Lib.hid (HXx.out.below hb)
  replace HOw := Lib.hid (HOw.out.below hb)
  replace HOx := Lib.hid (HOx.out.below hb)
  replace HOy := Lib.hid (HOy.out.below hb)
  replace HWD := Lib.hid (HWD.out.below hb)
  have HXy := Lib.hid hbx.2
  have HC7_w8 : Hid (w7.heap.size < w8.heap.size) := Lib.hid HXy.out.lt
  clear hw0 hbx hb
  go_wp2_with (first | (refine wpList_load_bx _ rfl rfl HXx.out (by kernel_rfl) ?_) | (refine wpList_load_bx _ rfl rfl HXb.out (by kernel_rfl) ?_) | (refine wpList_load_bx _ rfl rfl HXw.out (by kernel_rfl) ?_))
  have o0 := HC0.out
  have o1 := HC1_w2.out
  have o2 := HC2_w3.out
  have o3 := HC3_w4.out
  have o4 := HC4_w5.out
  have o5 := HC5_w6.out
  have o6 := HC6_w7.out
  have o7 := HC7_w8.out
  have hxb := HXb.out.lt
  have hxw := HXw.out.lt
  have hxx := HXx.out.lt
  have hxy := HXy.out.lt
  have hs0 := HB.out.size
  have hs9 := HB.out.size
  with_reducible refine (givesV sx s sw (B) 2 w3.heap.size w4.heap.size _ (by with_unfolding_all rfl) HOx.out (by omega) (fun W hr => HR.out.below (Rng.below HB.out hr (by omega) hs9)) (fun W hr => (HOw.out.rng hr (by omega) (by omega)).rd)).mono ?_
  rintro e w9 ⟨rfl, hr⟩
  clear HOx
  replace HB := Lib.hid (Rng.below HB.out hr (by omega) hs9)
  replace HXb : Hid (Bx w9 (w.heap.size) s (B)) := Lib.hid ((hr.block _ hxb (by omega)).trans HXb.out)
  replace HXw : Hid (Bx w9 (w2.heap.size) sw (B)) := Lib.hid ((hr.block _ hxw (by omega)).trans HXw.out)
  replace HXx : Hid (Bx w9 (w4.heap.size) sx (zeroB)) := Lib.hid ((hr.block _ hxx (by omega)).trans HXx.out)
  replace HXy : Hid (Bx w9 (w7.heap.size) sy (paB B)) := Lib.hid ((hr.block _ hxy (by omega)).trans HXy.out)
  replace HOw := Lib.hid (HOw.out.rng hr (by omega) (by omega))
  replace HOy := Lib.hid (HOy.out.rng hr (by omega) (by omega))
  replace HWD := Lib.hid (HWD.out.rng hr (by omega))
  have HC8_w9 : Hid (w8.heap.size ≤ w9.heap.size) := Lib.hid (by have := hr.size; omega)
  clear hr o0 o1 o2 o3 o4 o5 o6 o7 hxb hxw hxx hxy hs0 hs9
  go_wp2_with (first | (refine wpList_load_bx _ rfl rfl HXb.out (by kernel_rfl) ?_))
  with_reducible refine (brvalid s (B) _ (HR.out.below HB.out) HK.out.i HK.out.sm).mono ?_
  rintro e w10 ⟨⟨r, rfl, hr⟩, hb⟩
  have HC9_w10 : Hid (w9.heap.size ≤ w10.heap.size) := Lib.hid hb.size
  replace HB := Lib.hid (below_via HB.out hb)
  replace HXb := Lib.hid (HXb.out.below hb)
  replace HXw := Lib.hid (HXw.out.below hb)
  replace HXx := Lib.hid (HXx.out.below hb)
  replace HXy := Lib.hid (HXy.out.below hb)
  replace HOw := Lib.hid (HOw.out.below hb)
  replace HOy := Lib.hid (HOy.out.below hb)
  replace HWD := Lib.hid (HWD.out.below hb)
  obtain rfl : r = true := hr.2 HV.out
  clear hr hb
  go_wp2_with (first | (refine wpList_load_bx _ rfl rfl HXb.out (by kernel_rfl) ?_))
  with_reducible refine (rpass_any s B _ (HR.out.below HB.out) HK.out HV.out).mono ?_
  rintro e w11 ⟨st, rfl, ho, hb⟩
  have HC10_w11 : Hid (w10.heap.size ≤ w11.heap.size) := Lib.hid hb.size
  replace HB := Lib.hid (below_via HB.out hb)
  replace HXb := Lib.hid (HXb.out.below hb)
  replace HXw := Lib.hid (HXw.out.below hb)
  replace HXx := Lib.hid (HXx.out.below hb)
  replace HXy := Lib.hid (HXy.out.below hb)
  replace HOw := Lib.hid (HOw.out.below hb)
  replace HOy := Lib.hid (HOy.out.below hb)
  replace HWD := Lib.hid (HWD.out.below hb)
  have HOt := Lib.hid ho
  clear ho hb
  go_wp2_with (refine wpList_store_bh rfl _ _ rfl rfl rfl (heap_alloc_new _ _) rfl ?_)
  intro w12 hw0
  have hbx := boxed hw0.out
  have hb := hbx.1
  replace HB := Lib.hid (below_via HB.out hb)
  replace HXb := Lib.hid (HXb.out.below hb)
  replace HXw := Lib.hid (HXw.out.below hb)
  replace HXx := Lib.hid (HXx.out.below hb)
  replace HXy := Lib.hid (HXy.out.below hb)
  replace HOw := Lib.hid (HOw.out.below hb)
  replace HOy := Lib.hid (HOy.out.below hb)
  replace HOt := Lib.hid (HOt.out.below hb)
  replace HWD := Lib.hid (HWD.out.below hb)
  have HXt := Lib.hid hbx.2
  have HC11_w12 : Hid (w11.heap.size < w12.heap.size) := Lib.hid HXt.out.lt
  clear hw0 hbx hb
  have tf : (paF B == paF B) = true := by simp
  go_wp2_with (first | (refine wpList_load_bx _ rfl rfl HXy.out (by kernel_rfl) ?_) | (refine wpList_load_bx _ rfl rfl HXt.out (by kernel_rfl) ?_) | (refine wpList_load_bx _ rfl rfl HXb.out (by kernel_rfl) ?_) | (refine wpList_load_bx _ rfl rfl HXw.out (by kernel_rfl) ?_))
  have o0 := HC0.out
  have o1 := HC1_w2.out
  have o2 := HC2_w3.out
  have o3 := HC3_w4.out
  have o4 := HC4_w5.out
  have o5 := HC5_w6.out
  have o6 := HC6_w7.out
  have o7 := HC7_w8.out
  have o8 := HC8_w9.out
  have o9 := HC9_w10.out
  have o10 := HC10_w11.out
  have o11 := HC11_w12.out
  have hxb := HXb.out.lt
  have hxw := HXw.out.lt
  have hxx := HXx.out.lt
  have hxy := HXy.out.lt
  have hxt := HXt.out.lt
  have hs0 := HB.out.size
  have hs9 := HB.out.size
  with_reducible refine (gives sy st s sw (paB B) (B) (paE B) w6.heap.size w7.heap.size _ HOy.out (by omega) HOt.out.rd (fun W hr => HR.out.below (Rng.below HB.out hr (by omega) hs9)) (fun W hr => (HOw.out.rng hr (by omega) (by omega)).rd)).mono ?_
  rintro e w13 ⟨rfl, hr⟩
  clear HOy
  replace HB := Lib.hid (Rng.below HB.out hr (by omega) hs9)
  replace HXb : Hid (Bx w13 (w.heap.size) s (B)) := Lib.hid ((hr.block _ hxb (by omega)).trans HXb.out)
  replace HXw : Hid (Bx w13 (w2.heap.size) sw (B)) := Lib.hid ((hr.block _ hxw (by omega)).trans HXw.out)
  replace HXx : Hid (Bx w13 (w4.heap.size) sx (zeroB)) := Lib.hid ((hr.block _ hxx (by omega)).trans HXx.out)
  replace HXy : Hid (Bx w13 (w7.heap.size) sy (paB B)) := Lib.hid ((hr.block _ hxy (by omega)).trans HXy.out)
  replace HXt : Hid (Bx w13 (w11.heap.size) st (paB B)) := Lib.hid ((hr.block _ hxt (by omega)).trans HXt.out)
  replace HOw := Lib.hid (HOw.out.rng hr (by omega) (by omega))
  replace HOt := Lib.hid (HOt.out.rng hr (by omega) (by omega))
  replace HWD := Lib.hid (HWD.out.rng hr (by omega))
  have HC12_w13 : Hid (w12.heap.size ≤ w13.heap.size) := Lib.hid (by have := hr.size; omega)
  clear hr o0 o1 o2 o3 o4 o5 o6 o7 o8 o9 o10 o11 hxb hxw hxx hxy hxt hs0 hs9
  go_wp2_with fail
  with_reducible refine (known _ HWD.out).mono ?_
  rintro e w14 ⟨rfl, hb⟩
  have HC13_w14 : Hid (w13.heap.size ≤ w14.heap.size) := Lib.hid hb.size
  replace HB := Lib.hid (below_via HB.out hb)
  replace HXb := Lib.hid (HXb.out.below hb)
  replace HXw := Lib.hid (HXw.out.below hb)
  replace HXx := Lib.hid (HXx.out.below hb)
  replace HXy := Lib.hid (HXy.out.below hb)
  replace HXt := Lib.hid (HXt.out.below hb)
  replace HOw := Lib.hid (HOw.out.below hb)
  replace HOt := Lib.hid (HOt.out.below hb)
  replace HWD := Lib.hid (HWD.out.below hb)
  clear hb
  go_wp2_with fail
  go_returns
  exact ⟨rfl, HB.out⟩
set_option maxRecDepth 100000 in
set_option maxHeartbeats 4000000 in
theorem gives_n3 (s : Bs) (B : Bd) (pl pa m : Int) (w : World) (h : BdR w s B) (hi : B.I) (hwd : Wds w) (hm : m ≤ 6) (hv : VB B) (h1 : -1 ≤ pl ∧ pl ≤ 1) (h2 : pa < 0) : Calls Tryd.prog 4 #[bv s B, .int .i64 pl, .int .i64 pa, .int .u8 m] w fun e w' => e = .returned (.bool true) ∧ Below w.heap.size w w' := by
  have tm : decide (m > 6) = false := decide_eq_false (by omega)
  have HV := Lib.hid hv
  have HN : Hid (¬ (VB B ∧ (-1 ≤ pl ∧ pl ≤ 1) ∧ (0 ≤ pa ∧ pa ≤ 2))) := Lib.hid (fun h => by omega)
  have t0 : decide (pl < -1) = false := by simp; omega
  have t1 : decide (pl > 1) = false := by simp; omega
  have t2 : decide (pa < 0) = true := by simp; omega
  clear hm hv h1 h2
  go_enter Tryd.func4, Tryd.ntmps4
  go_upto_region 1 with fail
  change Code.wp Tryd.prog _ _ _ (w.alloc (.cells (bcells s B) 39))
  obtain ⟨w0, hw0⟩ : ∃ W, W = w.alloc (.cells (bcells s B) 39) := ⟨_, rfl⟩
  have hb : Below w.heap.size w w0 := by rw [hw0]; exact (Below.refl _ _).alloc (Nat.le_refl _) _
  have HXb : Hid (Bx w0 w.heap.size s B) := Lib.hid (by rw [hw0]; exact heap_alloc_new _ _)
  have HB := Lib.hid hb
  have HR := Lib.hid h
  have HWD : Hid (Wds w0) := Lib.hid (hwd.below hb)
  rw [← hw0]
  clear hw0 hb h hwd
  go_wp2_with (refine wpList_load_bx _ rfl rfl HXb.out (by kernel_rfl) ?_)
  with_reducible refine (bsmall s B _ (HR.out.below HB.out)).mono ?_
  rintro e w1 ⟨⟨r, rfl, hr⟩, hb⟩
  replace HB := Lib.hid (below_via HB.out hb)
  replace HXb := Lib.hid (HXb.out.below hb)
  replace HWD := Lib.hid (HWD.out.below hb)
  clear hb
  cases r
  · go_wp2_with fail
    with_reducible refine (known _ HWD.out).mono ?_
    rintro e w2 ⟨rfl, hb⟩
    replace HB := Lib.hid (below_via HB.out hb)
    clear hb
    go_wp2_with fail
    go_returns
    exact ⟨rfl, HB.out⟩
  have HK : Hid B.Ok := Lib.hid (Tiny.ok (hr rfl) hi)
  clear hr hi
  have HC0 : Hid (w.heap.size < w1.heap.size) := Lib.hid HXb.out.lt
  go_upto_region 3 with fail
  go_wp2_with (first | (refine wpList_load_bx _ rfl rfl HXb.out (by kernel_rfl) ?_))
  with_reducible refine (rcopy s B _ (HR.out.below HB.out) HK.out.sm ⟨HK.out.st, HK.out.qu⟩).mono ?_
  rintro e w2 ⟨sw, rfl, ho, hb⟩
  have HC1_w2 : Hid (w1.heap.size ≤ w2.heap.size) := Lib.hid hb.size
  replace HB := Lib.hid (below_via HB.out hb)
  replace HXb := Lib.hid (HXb.out.below hb)
  replace HWD := Lib.hid (HWD.out.below hb)
  have HOw := Lib.hid ho
  clear ho hb
  go_wp2_with (refine wpList_store_bh rfl _ _ rfl rfl rfl (heap_alloc_new _ _) rfl ?_)
  intro w3 hw0
  have hbx := boxed hw0.out
  have hb := hbx.1
  replace HB := Lib.hid (below_via HB.out hb)
  replace HXb := Lib.hid (HXb.out.below hb)
  replace HOw := Lib.hid (HOw.out.below hb)
  replace HWD := Lib.hid (HWD.out.below hb)
  have HXw := Lib.hid hbx.2
  have HC2_w3 : Hid (w2.heap.size < w3.heap.size) := Lib.hid HXw.out.lt
  clear hw0 hbx hb
  go_wp2_with (first | (refine wpList_load_bx _ rfl rfl HXb.out (by kernel_rfl) ?_))
  with_reducible refine (give_bad s B pl pa _ (HR.out.below HB.out) HK.out HN.out).mono ?_
  rintro e w4 ⟨sx, rfl, ho, hb⟩
  have HC3_w4 : Hid (w3.heap.size ≤ w4.heap.size) := Lib.hid hb.size
  replace HB := Lib.hid (below_via HB.out hb)
  replace HXb := Lib.hid (HXb.out.below hb)
  replace HXw := Lib.hid (HXw.out.below hb)
  replace HOw := Lib.hid (HOw.out.below hb)
  replace HWD := Lib.hid (HWD.out.below hb)
  have HOx := Lib.hid ho
  clear ho hb
  go_wp2_with (refine wpList_store_bh rfl _ _ rfl rfl rfl (heap_alloc_new _ _) rfl ?_)
  intro w5 hw0
  have hbx := boxed hw0.out
  have hb := hbx.1
  replace HB := Lib.hid (below_via HB.out hb)
  replace HXb := Lib.hid (HXb.out.below hb)
  replace HXw := Lib.hid (HXw.out.below hb)
  replace HOw := Lib.hid (HOw.out.below hb)
  replace HOx := Lib.hid (HOx.out.below hb)
  replace HWD := Lib.hid (HWD.out.below hb)
  have HXx := Lib.hid hbx.2
  have HC4_w5 : Hid (w4.heap.size < w5.heap.size) := Lib.hid HXx.out.lt
  clear hw0 hbx hb
  go_wp2_with (first | (refine wpList_load_bx _ rfl rfl HXb.out (by kernel_rfl) ?_))
  with_reducible refine (brvalid s (B) _ (HR.out.below HB.out) HK.out.i HK.out.sm).mono ?_
  rintro e w6 ⟨⟨r, rfl, hr⟩, hb⟩
  have HC5_w6 : Hid (w5.heap.size ≤ w6.heap.size) := Lib.hid hb.size
  replace HB := Lib.hid (below_via HB.out hb)
  replace HXb := Lib.hid (HXb.out.below hb)
  replace HXw := Lib.hid (HXw.out.below hb)
  replace HXx := Lib.hid (HXx.out.below hb)
  replace HOw := Lib.hid (HOw.out.below hb)
  replace HOx := Lib.hid (HOx.out.below hb)
  replace HWD := Lib.hid (HWD.out.below hb)
  obtain rfl : r = true := hr.2 HV.out
  clear hr hb
  go_upto_region 6 with fail
  go_wp2_with (first | (refine wpList_load_bx _ rfl rfl HXb.out (by kernel_rfl) ?_))
  with_reducible refine (pass_any s B _ (HR.out.below HB.out) HK.out HV.out).mono ?_
  rintro e w7 ⟨sy, rfl, ho, hb⟩
  have HC6_w7 : Hid (w6.heap.size ≤ w7.heap.size) := Lib.hid hb.size
  replace HB := Lib.hid (below_via HB.out hb)
  replace HXb := Lib.hid (HXb.out.below hb)
  replace HXw := Lib.hid (HXw.out.below hb)
  replace HXx := Lib.hid (HXx.out.below hb)
  replace HOw := Lib.hid (HOw.out.below hb)
  replace HOx := Lib.hid (HOx.out.below hb)
  replace HWD := Lib.hid (HWD.out.below hb)
  have HOy := Lib.hid ho
  clear ho hb
  go_wp2_with (refine wpList_store_bh rfl _ _ rfl rfl rfl (heap_alloc_new _ _) rfl ?_)
  intro w8 hw0
  have hbx := boxed hw0.out
  have hb := hbx.1
  replace HB := Lib.hid (below_via HB.out hb)
  replace HXb := Lib.hid (HXb.out.below hb)
  replace HXw := Lib.hid (HXw.out.below hb)
  replace HXx := Lib.hid (HXx.out.below hb)
  replace HOw := Lib.hid (HOw.out.below hb)
  replace HOx := Lib.hid (HOx.out.below hb)
  replace HOy := Lib.hid (HOy.out.below hb)
  replace HWD := Lib.hid (HWD.out.below hb)
  have HXy := Lib.hid hbx.2
  have HC7_w8 : Hid (w7.heap.size < w8.heap.size) := Lib.hid HXy.out.lt
  clear hw0 hbx hb
  go_wp2_with (first | (refine wpList_load_bx _ rfl rfl HXx.out (by kernel_rfl) ?_) | (refine wpList_load_bx _ rfl rfl HXb.out (by kernel_rfl) ?_) | (refine wpList_load_bx _ rfl rfl HXw.out (by kernel_rfl) ?_))
  have o0 := HC0.out
  have o1 := HC1_w2.out
  have o2 := HC2_w3.out
  have o3 := HC3_w4.out
  have o4 := HC4_w5.out
  have o5 := HC5_w6.out
  have o6 := HC6_w7.out
  have o7 := HC7_w8.out
  have hxb := HXb.out.lt
  have hxw := HXw.out.lt
  have hxx := HXx.out.lt
  have hxy := HXy.out.lt
  have hs0 := HB.out.size
  have hs9 := HB.out.size
  with_reducible refine (givesV sx s sw (B) 2 w3.heap.size w4.heap.size _ (by with_unfolding_all rfl) HOx.out (by omega) (fun W hr => HR.out.below (Rng.below HB.out hr (by omega) hs9)) (fun W hr => (HOw.out.rng hr (by omega) (by omega)).rd)).mono ?_
  rintro e w9 ⟨rfl, hr⟩
  clear HOx
  replace HB := Lib.hid (Rng.below HB.out hr (by omega) hs9)
  replace HXb : Hid (Bx w9 (w.heap.size) s (B)) := Lib.hid ((hr.block _ hxb (by omega)).trans HXb.out)
  replace HXw : Hid (Bx w9 (w2.heap.size) sw (B)) := Lib.hid ((hr.block _ hxw (by omega)).trans HXw.out)
  replace HXx : Hid (Bx w9 (w4.heap.size) sx (zeroB)) := Lib.hid ((hr.block _ hxx (by omega)).trans HXx.out)
  replace HXy : Hid (Bx w9 (w7.heap.size) sy (paB B)) := Lib.hid ((hr.block _ hxy (by omega)).trans HXy.out)
  replace HOw := Lib.hid (HOw.out.rng hr (by omega) (by omega))
  replace HOy := Lib.hid (HOy.out.rng hr (by omega) (by omega))
  replace HWD := Lib.hid (HWD.out.rng hr (by omega))
  have HC8_w9 : Hid (w8.heap.size ≤ w9.heap.size) := Lib.hid (by have := hr.size; omega)
  clear hr o0 o1 o2 o3 o4 o5 o6 o7 hxb hxw hxx hxy hs0 hs9
  go_wp2_with (first | (refine wpList_load_bx _ rfl rfl HXb.out (by kernel_rfl) ?_))
  with_reducible refine (brvalid s (B) _ (HR.out.below HB.out) HK.out.i HK.out.sm).mono ?_
  rintro e w10 ⟨⟨r, rfl, hr⟩, hb⟩
  have HC9_w10 : Hid (w9.heap.size ≤ w10.heap.size) := Lib.hid hb.size
  replace HB := Lib.hid (below_via HB.out hb)
  replace HXb := Lib.hid (HXb.out.below hb)
  replace HXw := Lib.hid (HXw.out.below hb)
  replace HXx := Lib.hid (HXx.out.below hb)
  replace HXy := Lib.hid (HXy.out.below hb)
  replace HOw := Lib.hid (HOw.out.below hb)
  replace HOy := Lib.hid (HOy.out.below hb)
  replace HWD := Lib.hid (HWD.out.below hb)
  obtain rfl : r = true := hr.2 HV.out
  clear hr hb
  go_wp2_with (first | (refine wpList_load_bx _ rfl rfl HXb.out (by kernel_rfl) ?_))
  with_reducible refine (rpass_any s B _ (HR.out.below HB.out) HK.out HV.out).mono ?_
  rintro e w11 ⟨st, rfl, ho, hb⟩
  have HC10_w11 : Hid (w10.heap.size ≤ w11.heap.size) := Lib.hid hb.size
  replace HB := Lib.hid (below_via HB.out hb)
  replace HXb := Lib.hid (HXb.out.below hb)
  replace HXw := Lib.hid (HXw.out.below hb)
  replace HXx := Lib.hid (HXx.out.below hb)
  replace HXy := Lib.hid (HXy.out.below hb)
  replace HOw := Lib.hid (HOw.out.below hb)
  replace HOy := Lib.hid (HOy.out.below hb)
  replace HWD := Lib.hid (HWD.out.below hb)
  have HOt := Lib.hid ho
  clear ho hb
  go_wp2_with (refine wpList_store_bh rfl _ _ rfl rfl rfl (heap_alloc_new _ _) rfl ?_)
  intro w12 hw0
  have hbx := boxed hw0.out
  have hb := hbx.1
  replace HB := Lib.hid (below_via HB.out hb)
  replace HXb := Lib.hid (HXb.out.below hb)
  replace HXw := Lib.hid (HXw.out.below hb)
  replace HXx := Lib.hid (HXx.out.below hb)
  replace HXy := Lib.hid (HXy.out.below hb)
  replace HOw := Lib.hid (HOw.out.below hb)
  replace HOy := Lib.hid (HOy.out.below hb)
  replace HOt := Lib.hid (HOt.out.below hb)
  replace HWD := Lib.hid (HWD.out.below hb)
  have HXt := Lib.hid hbx.2
  have HC11_w12 : Hid (w11.heap.size < w12.heap.size) := Lib.hid HXt.out.lt
  clear hw0 hbx hb
  have tf : (paF B == paF B) = true := by simp
  go_wp2_with (first | (refine wpList_load_bx _ rfl rfl HXy.out (by kernel_rfl) ?_) | (refine wpList_load_bx _ rfl rfl HXt.out (by kernel_rfl) ?_) | (refine wpList_load_bx _ rfl rfl HXb.out (by kernel_rfl) ?_) | (refine wpList_load_bx _ rfl rfl HXw.out (by kernel_rfl) ?_))
  have o0 := HC0.out
  have o1 := HC1_w2.out
  have o2 := HC2_w3.out
  have o3 := HC3_w4.out
  have o4 := HC4_w5.out
  have o5 := HC5_w6.out
  have o6 := HC6_w7.out
  have o7 := HC7_w8.out
  have o8 := HC8_w9.out
  have o9 := HC9_w10.out
  have o10 := HC10_w11.out
  have o11 := HC11_w12.out
  have hxb := HXb.out.lt
  have hxw := HXw.out.lt
  have hxx := HXx.out.lt
  have hxy := HXy.out.lt
  have hxt := HXt.out.lt
  have hs0 := HB.out.size
  have hs9 := HB.out.size
  with_reducible refine (gives sy st s sw (paB B) (B) (paE B) w6.heap.size w7.heap.size _ HOy.out (by omega) HOt.out.rd (fun W hr => HR.out.below (Rng.below HB.out hr (by omega) hs9)) (fun W hr => (HOw.out.rng hr (by omega) (by omega)).rd)).mono ?_
  rintro e w13 ⟨rfl, hr⟩
  clear HOy
  replace HB := Lib.hid (Rng.below HB.out hr (by omega) hs9)
  replace HXb : Hid (Bx w13 (w.heap.size) s (B)) := Lib.hid ((hr.block _ hxb (by omega)).trans HXb.out)
  replace HXw : Hid (Bx w13 (w2.heap.size) sw (B)) := Lib.hid ((hr.block _ hxw (by omega)).trans HXw.out)
  replace HXx : Hid (Bx w13 (w4.heap.size) sx (zeroB)) := Lib.hid ((hr.block _ hxx (by omega)).trans HXx.out)
  replace HXy : Hid (Bx w13 (w7.heap.size) sy (paB B)) := Lib.hid ((hr.block _ hxy (by omega)).trans HXy.out)
  replace HXt : Hid (Bx w13 (w11.heap.size) st (paB B)) := Lib.hid ((hr.block _ hxt (by omega)).trans HXt.out)
  replace HOw := Lib.hid (HOw.out.rng hr (by omega) (by omega))
  replace HOt := Lib.hid (HOt.out.rng hr (by omega) (by omega))
  replace HWD := Lib.hid (HWD.out.rng hr (by omega))
  have HC12_w13 : Hid (w12.heap.size ≤ w13.heap.size) := Lib.hid (by have := hr.size; omega)
  clear hr o0 o1 o2 o3 o4 o5 o6 o7 o8 o9 o10 o11 hxb hxw hxx hxy hxt hs0 hs9
  go_wp2_with fail
  with_reducible refine (known _ HWD.out).mono ?_
  rintro e w14 ⟨rfl, hb⟩
  have HC13_w14 : Hid (w13.heap.size ≤ w14.heap.size) := Lib.hid hb.size
  replace HB := Lib.hid (below_via HB.out hb)
  replace HXb := Lib.hid (HXb.out.below hb)
  replace HXw := Lib.hid (HXw.out.below hb)
  replace HXx := Lib.hid (HXx.out.below hb)
  replace HXy := Lib.hid (HXy.out.below hb)
  replace HXt := Lib.hid (HXt.out.below hb)
  replace HOw := Lib.hid (HOw.out.below hb)
  replace HOt := Lib.hid (HOt.out.below hb)
  replace HWD := Lib.hid (HWD.out.below hb)
  clear hb
  go_wp2_with fail
  go_returns
  exact ⟨rfl, HB.out⟩
set_option maxRecDepth 100000 in
set_option maxHeartbeats 4000000 in
theorem gives_n4 (s : Bs) (B : Bd) (pl pa m : Int) (w : World) (h : BdR w s B) (hi : B.I) (hwd : Wds w) (hm : m ≤ 6) (hv : VB B) (h1 : -1 ≤ pl ∧ pl ≤ 1) (h2 : 2 < pa) : Calls Tryd.prog 4 #[bv s B, .int .i64 pl, .int .i64 pa, .int .u8 m] w fun e w' => e = .returned (.bool true) ∧ Below w.heap.size w w' := by
  have tm : decide (m > 6) = false := decide_eq_false (by omega)
  have HV := Lib.hid hv
  have HN : Hid (¬ (VB B ∧ (-1 ≤ pl ∧ pl ≤ 1) ∧ (0 ≤ pa ∧ pa ≤ 2))) := Lib.hid (fun h => by omega)
  have t0 : decide (pl < -1) = false := by simp; omega
  have t1 : decide (pl > 1) = false := by simp; omega
  have t2 : decide (pa < 0) = false := by simp; omega
  have t3 : decide (pa > 2) = true := by simp; omega
  clear hm hv h1 h2
  go_enter Tryd.func4, Tryd.ntmps4
  go_upto_region 1 with fail
  change Code.wp Tryd.prog _ _ _ (w.alloc (.cells (bcells s B) 39))
  obtain ⟨w0, hw0⟩ : ∃ W, W = w.alloc (.cells (bcells s B) 39) := ⟨_, rfl⟩
  have hb : Below w.heap.size w w0 := by rw [hw0]; exact (Below.refl _ _).alloc (Nat.le_refl _) _
  have HXb : Hid (Bx w0 w.heap.size s B) := Lib.hid (by rw [hw0]; exact heap_alloc_new _ _)
  have HB := Lib.hid hb
  have HR := Lib.hid h
  have HWD : Hid (Wds w0) := Lib.hid (hwd.below hb)
  rw [← hw0]
  clear hw0 hb h hwd
  go_wp2_with (refine wpList_load_bx _ rfl rfl HXb.out (by kernel_rfl) ?_)
  with_reducible refine (bsmall s B _ (HR.out.below HB.out)).mono ?_
  rintro e w1 ⟨⟨r, rfl, hr⟩, hb⟩
  replace HB := Lib.hid (below_via HB.out hb)
  replace HXb := Lib.hid (HXb.out.below hb)
  replace HWD := Lib.hid (HWD.out.below hb)
  clear hb
  cases r
  · go_wp2_with fail
    with_reducible refine (known _ HWD.out).mono ?_
    rintro e w2 ⟨rfl, hb⟩
    replace HB := Lib.hid (below_via HB.out hb)
    clear hb
    go_wp2_with fail
    go_returns
    exact ⟨rfl, HB.out⟩
  have HK : Hid B.Ok := Lib.hid (Tiny.ok (hr rfl) hi)
  clear hr hi
  have HC0 : Hid (w.heap.size < w1.heap.size) := Lib.hid HXb.out.lt
  go_upto_region 3 with fail
  go_wp2_with (first | (refine wpList_load_bx _ rfl rfl HXb.out (by kernel_rfl) ?_))
  with_reducible refine (rcopy s B _ (HR.out.below HB.out) HK.out.sm ⟨HK.out.st, HK.out.qu⟩).mono ?_
  rintro e w2 ⟨sw, rfl, ho, hb⟩
  have HC1_w2 : Hid (w1.heap.size ≤ w2.heap.size) := Lib.hid hb.size
  replace HB := Lib.hid (below_via HB.out hb)
  replace HXb := Lib.hid (HXb.out.below hb)
  replace HWD := Lib.hid (HWD.out.below hb)
  have HOw := Lib.hid ho
  clear ho hb
  go_wp2_with (refine wpList_store_bh rfl _ _ rfl rfl rfl (heap_alloc_new _ _) rfl ?_)
  intro w3 hw0
  have hbx := boxed hw0.out
  have hb := hbx.1
  replace HB := Lib.hid (below_via HB.out hb)
  replace HXb := Lib.hid (HXb.out.below hb)
  replace HOw := Lib.hid (HOw.out.below hb)
  replace HWD := Lib.hid (HWD.out.below hb)
  have HXw := Lib.hid hbx.2
  have HC2_w3 : Hid (w2.heap.size < w3.heap.size) := Lib.hid HXw.out.lt
  clear hw0 hbx hb
  go_wp2_with (first | (refine wpList_load_bx _ rfl rfl HXb.out (by kernel_rfl) ?_))
  with_reducible refine (give_bad s B pl pa _ (HR.out.below HB.out) HK.out HN.out).mono ?_
  rintro e w4 ⟨sx, rfl, ho, hb⟩
  have HC3_w4 : Hid (w3.heap.size ≤ w4.heap.size) := Lib.hid hb.size
  replace HB := Lib.hid (below_via HB.out hb)
  replace HXb := Lib.hid (HXb.out.below hb)
  replace HXw := Lib.hid (HXw.out.below hb)
  replace HOw := Lib.hid (HOw.out.below hb)
  replace HWD := Lib.hid (HWD.out.below hb)
  have HOx := Lib.hid ho
  clear ho hb
  go_wp2_with (refine wpList_store_bh rfl _ _ rfl rfl rfl (heap_alloc_new _ _) rfl ?_)
  intro w5 hw0
  have hbx := boxed hw0.out
  have hb := hbx.1
  replace HB := Lib.hid (below_via HB.out hb)
  replace HXb := Lib.hid (HXb.out.below hb)
  replace HXw := Lib.hid (HXw.out.below hb)
  replace HOw := Lib.hid (HOw.out.below hb)
  replace HOx := Lib.hid (HOx.out.below hb)
  replace HWD := Lib.hid (HWD.out.below hb)
  have HXx := Lib.hid hbx.2
  have HC4_w5 : Hid (w4.heap.size < w5.heap.size) := Lib.hid HXx.out.lt
  clear hw0 hbx hb
  go_wp2_with (first | (refine wpList_load_bx _ rfl rfl HXb.out (by kernel_rfl) ?_))
  with_reducible refine (brvalid s (B) _ (HR.out.below HB.out) HK.out.i HK.out.sm).mono ?_
  rintro e w6 ⟨⟨r, rfl, hr⟩, hb⟩
  have HC5_w6 : Hid (w5.heap.size ≤ w6.heap.size) := Lib.hid hb.size
  replace HB := Lib.hid (below_via HB.out hb)
  replace HXb := Lib.hid (HXb.out.below hb)
  replace HXw := Lib.hid (HXw.out.below hb)
  replace HXx := Lib.hid (HXx.out.below hb)
  replace HOw := Lib.hid (HOw.out.below hb)
  replace HOx := Lib.hid (HOx.out.below hb)
  replace HWD := Lib.hid (HWD.out.below hb)
  obtain rfl : r = true := hr.2 HV.out
  clear hr hb
  go_upto_region 6 with fail
  go_wp2_with (first | (refine wpList_load_bx _ rfl rfl HXb.out (by kernel_rfl) ?_))
  with_reducible refine (pass_any s B _ (HR.out.below HB.out) HK.out HV.out).mono ?_
  rintro e w7 ⟨sy, rfl, ho, hb⟩
  have HC6_w7 : Hid (w6.heap.size ≤ w7.heap.size) := Lib.hid hb.size
  replace HB := Lib.hid (below_via HB.out hb)
  replace HXb := Lib.hid (HXb.out.below hb)
  replace HXw := Lib.hid (HXw.out.below hb)
  replace HXx := Lib.hid (HXx.out.below hb)
  replace HOw := Lib.hid (HOw.out.below hb)
  replace HOx := Lib.hid (HOx.out.below hb)
  replace HWD := Lib.hid (HWD.out.below hb)
  have HOy := Lib.hid ho
  clear ho hb
  go_wp2_with (refine wpList_store_bh rfl _ _ rfl rfl rfl (heap_alloc_new _ _) rfl ?_)
  intro w8 hw0
  have hbx := boxed hw0.out
  have hb := hbx.1
  replace HB := Lib.hid (below_via HB.out hb)
  replace HXb := Lib.hid (HXb.out.below hb)
  replace HXw := Lib.hid (HXw.out.below hb)
  replace HXx := Lib.hid (HXx.out.below hb)
  replace HOw := Lib.hid (HOw.out.below hb)
  replace HOx := Lib.hid (HOx.out.below hb)
  replace HOy := Lib.hid (HOy.out.below hb)
  replace HWD := Lib.hid (HWD.out.below hb)
  have HXy := Lib.hid hbx.2
  have HC7_w8 : Hid (w7.heap.size < w8.heap.size) := Lib.hid HXy.out.lt
  clear hw0 hbx hb
  go_wp2_with (first | (refine wpList_load_bx _ rfl rfl HXx.out (by kernel_rfl) ?_) | (refine wpList_load_bx _ rfl rfl HXb.out (by kernel_rfl) ?_) | (refine wpList_load_bx _ rfl rfl HXw.out (by kernel_rfl) ?_))
  have o0 := HC0.out
  have o1 := HC1_w2.out
  have o2 := HC2_w3.out
  have o3 := HC3_w4.out
  have o4 := HC4_w5.out
  have o5 := HC5_w6.out
  have o6 := HC6_w7.out
  have o7 := HC7_w8.out
  have hxb := HXb.out.lt
  have hxw := HXw.out.lt
  have hxx := HXx.out.lt
  have hxy := HXy.out.lt
  have hs0 := HB.out.size
  have hs9 := HB.out.size
  with_reducible refine (givesV sx s sw (B) 2 w3.heap.size w4.heap.size _ (by with_unfolding_all rfl) HOx.out (by omega) (fun W hr => HR.out.below (Rng.below HB.out hr (by omega) hs9)) (fun W hr => (HOw.out.rng hr (by omega) (by omega)).rd)).mono ?_
  rintro e w9 ⟨rfl, hr⟩
  clear HOx
  replace HB := Lib.hid (Rng.below HB.out hr (by omega) hs9)
  replace HXb : Hid (Bx w9 (w.heap.size) s (B)) := Lib.hid ((hr.block _ hxb (by omega)).trans HXb.out)
  replace HXw : Hid (Bx w9 (w2.heap.size) sw (B)) := Lib.hid ((hr.block _ hxw (by omega)).trans HXw.out)
  replace HXx : Hid (Bx w9 (w4.heap.size) sx (zeroB)) := Lib.hid ((hr.block _ hxx (by omega)).trans HXx.out)
  replace HXy : Hid (Bx w9 (w7.heap.size) sy (paB B)) := Lib.hid ((hr.block _ hxy (by omega)).trans HXy.out)
  replace HOw := Lib.hid (HOw.out.rng hr (by omega) (by omega))
  replace HOy := Lib.hid (HOy.out.rng hr (by omega) (by omega))
  replace HWD := Lib.hid (HWD.out.rng hr (by omega))
  have HC8_w9 : Hid (w8.heap.size ≤ w9.heap.size) := Lib.hid (by have := hr.size; omega)
  clear hr o0 o1 o2 o3 o4 o5 o6 o7 hxb hxw hxx hxy hs0 hs9
  go_wp2_with (first | (refine wpList_load_bx _ rfl rfl HXb.out (by kernel_rfl) ?_))
  with_reducible refine (brvalid s (B) _ (HR.out.below HB.out) HK.out.i HK.out.sm).mono ?_
  rintro e w10 ⟨⟨r, rfl, hr⟩, hb⟩
  have HC9_w10 : Hid (w9.heap.size ≤ w10.heap.size) := Lib.hid hb.size
  replace HB := Lib.hid (below_via HB.out hb)
  replace HXb := Lib.hid (HXb.out.below hb)
  replace HXw := Lib.hid (HXw.out.below hb)
  replace HXx := Lib.hid (HXx.out.below hb)
  replace HXy := Lib.hid (HXy.out.below hb)
  replace HOw := Lib.hid (HOw.out.below hb)
  replace HOy := Lib.hid (HOy.out.below hb)
  replace HWD := Lib.hid (HWD.out.below hb)
  obtain rfl : r = true := hr.2 HV.out
  clear hr hb
  go_wp2_with (first | (refine wpList_load_bx _ rfl rfl HXb.out (by kernel_rfl) ?_))
  with_reducible refine (rpass_any s B _ (HR.out.below HB.out) HK.out HV.out).mono ?_
  rintro e w11 ⟨st, rfl, ho, hb⟩
  have HC10_w11 : Hid (w10.heap.size ≤ w11.heap.size) := Lib.hid hb.size
  replace HB := Lib.hid (below_via HB.out hb)
  replace HXb := Lib.hid (HXb.out.below hb)
  replace HXw := Lib.hid (HXw.out.below hb)
  replace HXx := Lib.hid (HXx.out.below hb)
  replace HXy := Lib.hid (HXy.out.below hb)
  replace HOw := Lib.hid (HOw.out.below hb)
  replace HOy := Lib.hid (HOy.out.below hb)
  replace HWD := Lib.hid (HWD.out.below hb)
  have HOt := Lib.hid ho
  clear ho hb
  go_wp2_with (refine wpList_store_bh rfl _ _ rfl rfl rfl (heap_alloc_new _ _) rfl ?_)
  intro w12 hw0
  have hbx := boxed hw0.out
  have hb := hbx.1
  replace HB := Lib.hid (below_via HB.out hb)
  replace HXb := Lib.hid (HXb.out.below hb)
  replace HXw := Lib.hid (HXw.out.below hb)
  replace HXx := Lib.hid (HXx.out.below hb)
  replace HXy := Lib.hid (HXy.out.below hb)
  replace HOw := Lib.hid (HOw.out.below hb)
  replace HOy := Lib.hid (HOy.out.below hb)
  replace HOt := Lib.hid (HOt.out.below hb)
  replace HWD := Lib.hid (HWD.out.below hb)
  have HXt := Lib.hid hbx.2
  have HC11_w12 : Hid (w11.heap.size < w12.heap.size) := Lib.hid HXt.out.lt
  clear hw0 hbx hb
  have tf : (paF B == paF B) = true := by simp
  go_wp2_with (first | (refine wpList_load_bx _ rfl rfl HXy.out (by kernel_rfl) ?_) | (refine wpList_load_bx _ rfl rfl HXt.out (by kernel_rfl) ?_) | (refine wpList_load_bx _ rfl rfl HXb.out (by kernel_rfl) ?_) | (refine wpList_load_bx _ rfl rfl HXw.out (by kernel_rfl) ?_))
  have o0 := HC0.out
  have o1 := HC1_w2.out
  have o2 := HC2_w3.out
  have o3 := HC3_w4.out
  have o4 := HC4_w5.out
  have o5 := HC5_w6.out
  have o6 := HC6_w7.out
  have o7 := HC7_w8.out
  have o8 := HC8_w9.out
  have o9 := HC9_w10.out
  have o10 := HC10_w11.out
  have o11 := HC11_w12.out
  have hxb := HXb.out.lt
  have hxw := HXw.out.lt
  have hxx := HXx.out.lt
  have hxy := HXy.out.lt
  have hxt := HXt.out.lt
  have hs0 := HB.out.size
  have hs9 := HB.out.size
  with_reducible refine (gives sy st s sw (paB B) (B) (paE B) w6.heap.size w7.heap.size _ HOy.out (by omega) HOt.out.rd (fun W hr => HR.out.below (Rng.below HB.out hr (by omega) hs9)) (fun W hr => (HOw.out.rng hr (by omega) (by omega)).rd)).mono ?_
  rintro e w13 ⟨rfl, hr⟩
  clear HOy
  replace HB := Lib.hid (Rng.below HB.out hr (by omega) hs9)
  replace HXb : Hid (Bx w13 (w.heap.size) s (B)) := Lib.hid ((hr.block _ hxb (by omega)).trans HXb.out)
  replace HXw : Hid (Bx w13 (w2.heap.size) sw (B)) := Lib.hid ((hr.block _ hxw (by omega)).trans HXw.out)
  replace HXx : Hid (Bx w13 (w4.heap.size) sx (zeroB)) := Lib.hid ((hr.block _ hxx (by omega)).trans HXx.out)
  replace HXy : Hid (Bx w13 (w7.heap.size) sy (paB B)) := Lib.hid ((hr.block _ hxy (by omega)).trans HXy.out)
  replace HXt : Hid (Bx w13 (w11.heap.size) st (paB B)) := Lib.hid ((hr.block _ hxt (by omega)).trans HXt.out)
  replace HOw := Lib.hid (HOw.out.rng hr (by omega) (by omega))
  replace HOt := Lib.hid (HOt.out.rng hr (by omega) (by omega))
  replace HWD := Lib.hid (HWD.out.rng hr (by omega))
  have HC12_w13 : Hid (w12.heap.size ≤ w13.heap.size) := Lib.hid (by have := hr.size; omega)
  clear hr o0 o1 o2 o3 o4 o5 o6 o7 o8 o9 o10 o11 hxb hxw hxx hxy hxt hs0 hs9
  go_wp2_with fail
  with_reducible refine (known _ HWD.out).mono ?_
  rintro e w14 ⟨rfl, hb⟩
  have HC13_w14 : Hid (w13.heap.size ≤ w14.heap.size) := Lib.hid hb.size
  replace HB := Lib.hid (below_via HB.out hb)
  replace HXb := Lib.hid (HXb.out.below hb)
  replace HXw := Lib.hid (HXw.out.below hb)
  replace HXx := Lib.hid (HXx.out.below hb)
  replace HXy := Lib.hid (HXy.out.below hb)
  replace HXt := Lib.hid (HXt.out.below hb)
  replace HOw := Lib.hid (HOw.out.below hb)
  replace HOt := Lib.hid (HOt.out.below hb)
  replace HWD := Lib.hid (HWD.out.below hb)
  clear hb
  go_wp2_with fail
  go_returns
  exact ⟨rfl, HB.out⟩
end Go.Proofs.YtkkpckkkcclhhaaDoor
