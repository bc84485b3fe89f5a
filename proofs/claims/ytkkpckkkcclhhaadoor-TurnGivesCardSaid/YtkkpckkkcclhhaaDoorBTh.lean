/- The law about who has priority: the passes. -/
import Derived.Test.YtkkpckkkcclhhaaDoorBTg
namespace Go.Proofs.YtkkpckkkcclhhaaDoor
open Go.RowKit Plain
set_option linter.unusedVariables false
set_option linter.unusedSimpArgs false

def GvL (w : World) (n : Nat) (v : Value) (wr : World) : Prop := ∃ k : Nat, k ≤ n ∧ v = .int .i64 k ∧ Below w.heap.size w wr ∧ Wds wr ∧ ∃ s' B', Bx wr w.heap.size s' B' ∧ BdR wr s' B' ∧ VB B' ∧ B'.Ok
set_option maxRecDepth 100000 in
set_option maxHeartbeats 4000000 in
theorem gives_ok (s : Bs) (B : Bd) (pl pa : Int) (n : Nat) (w : World) (h : BdR w s B) (hi : B.I) (hwd : Wds w) (hm : n ≤ 6) (hv : VB B) (h1 : -1 ≤ pl ∧ pl ≤ 1) (h2 : 0 ≤ pa ∧ pa ≤ 2) : Calls Tryd.prog 4 #[bv s B, .int .i64 pl, .int .i64 pa, .int .u8 (n : Nat)] w fun e w' => e = .returned (.bool true) ∧ Below w.heap.size w w' := by
  have tm : decide (((n : Nat) : Int) > 6) = false := decide_eq_false (by omega)
  have HV := Lib.hid hv
  have HN : Hid ((-1 ≤ pl ∧ pl ≤ 1) ∧ (0 ≤ pa ∧ pa ≤ 2)) := Lib.hid ⟨h1, h2⟩
  have t0 : decide (pl < -1) = false := by simp; omega
  have t1 : decide (pl > 1) = false := by simp; omega
  have t2 : decide (pa < 0) = false := by simp; omega
  have t3 : decide (pa > 2) = false := by simp; omega
  have HWZ : Hid (0 < w.heap.size) := Lib.hid hwd.2.2.2.2.2.2.2.2.2.2.2
  have HWD0 := HWZ
  clear hv h1 h2
  go_enter Tryd.func4, Tryd.ntmps4
  go_upto_region 1 with fail
  change Code.wp Tryd.prog _ _ _ (w.alloc (.cells (bcells s B) 39))
  obtain ⟨w0, hw0⟩ : ∃ W, W = w.alloc (.cells (bcells s B) 39) := ⟨_, rfl⟩
  have hb : Below w.heap.size w w0 := by rw [hw0]; exact (Below.refl _ _).alloc (Nat.le_refl _) _
  have HXb : Hid (Bx w0 w.heap.size s B) := Lib.hid (by rw [hw0]; exact heap_alloc_new _ _)
  have HB := Lib.hid hb
  have HR := Lib.hid h
  have HWD : Hid (Wds w0) := Lib.hid (hwd.below hb)
  rw [← hw0]
  clear hw0 hb h hwd
  go_wp2_with (refine wpList_load_bx _ rfl rfl HXb.out (by kernel_rfl) ?_)
  with_reducible refine (bsmall s B _ (HR.out.below HB.out)).mono ?_
  rintro e w1 ⟨⟨r, rfl, hr⟩, hb⟩
  replace HB := Lib.hid (below_via HB.out hb)
  replace HXb := Lib.hid (HXb.out.below hb)
  replace HWD := Lib.hid (HWD.out.below hb)
  clear hb
  cases r
  · go_wp2_with fail
    with_reducible refine (known _ HWD.out).mono ?_
    rintro e w2 ⟨rfl, hb⟩
    replace HB := Lib.hid (below_via HB.out hb)
    clear hb
    go_wp2_with fail
    go_returns
    exact ⟨rfl, HB.out⟩
  have HK : Hid B.Ok := Lib.hid (Tiny.ok (hr rfl) hi)
  clear hr hi
  have HC0 : Hid (w.heap.size < w1.heap.size) := Lib.hid HXb.out.lt
  go_upto_region 3 with fail
  go_wp2_with (first | (refine wpList_load_bx _ rfl rfl HXb.out (by kernel_rfl) ?_))
  with_reducible refine (rcopy s B _ (HR.out.below HB.out) HK.out.sm ⟨HK.out.st, HK.out.qu⟩).mono ?_
  rintro e w2 ⟨sw, rfl, ho, hb⟩
  have HC1_w2 : Hid (w1.heap.size ≤ w2.heap.size) := Lib.hid hb.size
  replace HB := Lib.hid (below_via HB.out hb)
  replace HXb := Lib.hid (HXb.out.below hb)
  replace HWD := Lib.hid (HWD.out.below hb)
  have HOw := Lib.hid ho
  clear ho hb
  go_wp2_with (refine wpList_store_bh rfl _ _ rfl rfl rfl (heap_alloc_new _ _) rfl ?_)
  intro w3 hw0
  have hbx := boxed hw0.out
  have hb := hbx.1
  replace HB := Lib.hid (below_via HB.out hb)
  replace HXb := Lib.hid (HXb.out.below hb)
  replace HOw := Lib.hid (HOw.out.below hb)
  replace HWD := Lib.hid (HWD.out.below hb)
  have HXw := Lib.hid hbx.2
  have HC2_w3 : Hid (w2.heap.size < w3.heap.size) := Lib.hid HXw.out.lt
  clear hw0 hbx hb
  go_wp2_with (first | (refine wpList_load_bx _ rfl rfl HXb.out (by kernel_rfl) ?_))
  with_reducible refine (give_ok s B pl pa _ (HR.out.below HB.out) HK.out HV.out HN.out.1 HN.out.2).mono ?_
  rintro e w4 ⟨sx, rfl, ho, hb⟩
  have HC3_w4 : Hid (w3.heap.size ≤ w4.heap.size) := Lib.hid hb.size
  replace HB := Lib.hid (below_via HB.out hb)
  replace HXb := Lib.hid (HXb.out.below hb)
  replace HXw := Lib.hid (HXw.out.below hb)
  replace HOw := Lib.hid (HOw.out.below hb)
  replace HWD := Lib.hid (HWD.out.below hb)
  have HOx := Lib.hid ho
  clear ho hb
  go_wp2_with (refine wpList_store_bh rfl _ _ rfl rfl rfl (heap_alloc_new _ _) rfl ?_)
  intro w5 hw0
  have hbx := boxed hw0.out
  have hb := hbx.1
  replace HB := Lib.hid (below_via HB.out hb)
  replace HXb := Lib.hid (HXb.out.below hb)
  replace HXw := Lib.hid (HXw.out.below hb)
  replace HOw := Lib.hid (HOw.out.below hb)
  replace HOx := Lib.hid (HOx.out.below hb)
  replace HWD := Lib.hid (HWD.out.below hb)
  have HXx := Lib.hid hbx.2
  have HC4_w5 : Hid (w4.heap.size < w5.heap.size) := Lib.hid HXx.out.lt
  clear hw0 hbx hb
  go_wp2_with (first | (refine wpList_load_bx _ rfl rfl HXb.out (by kernel_rfl) ?_))
  with_reducible refine (brvalid s (B) _ (HR.out.below HB.out) HK.out.i HK.out.sm).mono ?_
  rintro e w6 ⟨⟨r, rfl, hr⟩, hb⟩
  have HC5_w6 : Hid (w5.heap.size ≤ w6.heap.size) := Lib.hid hb.size
  replace HB := Lib.hid (below_via HB.out hb)
  replace HXb := Lib.hid (HXb.out.below hb)
  replace HXw := Lib.hid (HXw.out.below hb)
  replace HXx := Lib.hid (HXx.out.below hb)
  replace HOw := Lib.hid (HOw.out.below hb)
  replace HOx := Lib.hid (HOx.out.below hb)
  replace HWD := Lib.hid (HWD.out.below hb)
  obtain rfl : r = true := hr.2 HV.out
  clear hr hb
  go_upto_region 13 with fail
  go_wp2_with (first | (refine wpList_load_bx _ rfl rfl HXb.out (by kernel_rfl) ?_))
  with_reducible refine (rgive s B pl pa _ (HR.out.below HB.out) HK.out).mono ?_
  rintro e w7 ⟨sg, rfl, ho, hb⟩
  have HC6_w7 : Hid (w6.heap.size ≤ w7.heap.size) := Lib.hid hb.size
  replace HB := Lib.hid (below_via HB.out hb)
  replace HXb := Lib.hid (HXb.out.below hb)
  replace HXw := Lib.hid (HXw.out.below hb)
  replace HXx := Lib.hid (HXx.out.below hb)
  replace HOw := Lib.hid (HOw.out.below hb)
  replace HOx := Lib.hid (HOx.out.below hb)
  replace HWD := Lib.hid (HWD.out.below hb)
  have HOg := Lib.hid ho
  clear ho hb
  go_wp2_with (refine wpList_store_bh rfl _ _ rfl rfl rfl HXb.out rfl ?_)
  intro w8 hw0
  have hon : Onl [w.heap.size] w7 w8 := by rw [hw0.out]; exact Onl.setRow (Onl.refl _ _) (.inl (by simp)) _
  have hbx : Bx w8 w.heap.size sg (giB B pl pa) := by rw [hw0.out]; exact Bx.row HXb.out _ _
  clear hw0
  have o0 := HC0.out
  have o1 := HC1_w2.out
  have o2 := HC2_w3.out
  have o3 := HC3_w4.out
  have o4 := HC4_w5.out
  have o5 := HC5_w6.out
  have o6 := HC6_w7.out
  have hxb := HXb.out.lt
  have hxw := HXw.out.lt
  have hxx := HXx.out.lt
  have hs0 := HB.out.size
  have hs9 := HB.out.size
  replace HB := Lib.hid (belowOnl HB.out hon (by simp) HB.out.size)
  replace HXb := Lib.hid hbx
  replace HXw := Lib.hid (HXw.out.onl hon (by simp; omega))
  replace HXx := Lib.hid (HXx.out.onl hon (by simp; omega))
  replace HOw := Lib.hid (HOw.out.keep (fun k a b => hon.block k (by omega) (by simp; omega)))
  replace HOx := Lib.hid (HOx.out.keep (fun k a b => hon.block k (by omega) (by simp; omega)))
  replace HOg := Lib.hid (HOg.out.keep (fun k a b => hon.block k (by omega) (by simp; omega)))
  replace HWD := Lib.hid (Wds.rng HWD.out (Rng.onl (lo := w.heap.size) (hi := w.heap.size + 1) hon (by simp)) (by have := HWD0.out; omega))
  have HCz : Hid (w7.heap.size ≤ w8.heap.size) := Lib.hid hon.size
  clear hon hbx o0 o1 o2 o3 o4 o5 o6 hxb hxw hxx hs0 hs9
  go_wp2_with (first | (refine wpList_load_bx _ rfl rfl HXx.out (by kernel_rfl) ?_) | (refine wpList_load_bx _ rfl rfl HXb.out (by kernel_rfl) ?_) | (refine wpList_load_bx _ rfl rfl HXw.out (by kernel_rfl) ?_))
  have o0 := HC0.out
  have o1 := HC1_w2.out
  have o2 := HC2_w3.out
  have o3 := HC3_w4.out
  have o4 := HC4_w5.out
  have o5 := HC5_w6.out
  have o6 := HC6_w7.out
  have o7 := HCz.out
  have hxb := HXb.out.lt
  have hxw := HXw.out.lt
  have hxx := HXx.out.lt
  have hs9 := HB.out.size
  with_reducible refine (gives sx sg sw sw (giB B pl pa) (B) 0 w3.heap.size w4.heap.size _ HOx.out (by omega) HOg.out.rd (fun W hr => (HOw.out.rng hr (by omega) (by omega)).rd) (fun W hr => (HOw.out.rng hr (by omega) (by omega)).rd)).mono ?_
  rintro e w9 ⟨rfl, hr⟩
  clear HOx
  replace HB := Lib.hid (Rng.below HB.out hr (by omega) hs9)
  replace HXb : Hid (Bx w9 (w.heap.size) sg (giB B pl pa)) := Lib.hid ((hr.block _ hxb (by omega)).trans HXb.out)
  replace HXw : Hid (Bx w9 (w2.heap.size) sw (B)) := Lib.hid ((hr.block _ hxw (by omega)).trans HXw.out)
  replace HXx : Hid (Bx w9 (w4.heap.size) sx (giB B pl pa)) := Lib.hid ((hr.block _ hxx (by omega)).trans HXx.out)
  replace HOw := Lib.hid (HOw.out.rng hr (by omega) (by omega))
  replace HOg := Lib.hid (HOg.out.rng hr (by omega) (by omega))
  replace HWD := Lib.hid (HWD.out.rng hr (by omega))
  have HC8_w9 : Hid (w8.heap.size ≤ w9.heap.size) := Lib.hid (by have := hr.size; omega)
  clear hr o0 o1 o2 o3 o4 o5 o6 o7 hxb hxw hxx hs9
  have HRg := Lib.hid HOg.out.rd
  have HKg : Hid (giB B pl pa).Ok := Lib.hid (giB_ok HK.out _ _)
  have HVg : Hid (VB (giB B pl pa)) := Lib.hid (VB.gi HV.out HN.out.1 HN.out.2)
  clear HC0 HC1_w2 HC2_w3 HC3_w4 HC4_w5 HC5_w6 HC6_w7 HCz HC8_w9 HOg HOw HXw HXx HK HV HN HR
  go_wp2_with fail
  go_loopw [18] (fun v wr => GvL w n v wr) (fun v _ => n - (intOf v).toNat)
  case atStart => exact ⟨0, by omega, rfl, HB.out, HWD.out, _, _, HXb.out, HRg.out, HVg.out, HKg.out⟩
  case round =>
    obtain ⟨k, hk, rfl, hb, hd, s', B', hx, hr, hv, hk2⟩ := hrel
    replace HB := Lib.hid hb
    replace HWD := Lib.hid hd
    have HXb := Lib.hid hx
    have HR := Lib.hid hr
    have HV := Lib.hid hv
    have HK := Lib.hid hk2
    clear hb hd hx hr hv hk2
    have hc : ((n : Nat) : Int) ≤ 6 := by omega
    by_cases hkn : k < n
    · have i1 : decide ((k : Int) < ((n : Nat) : Int)) = true := decide_eq_true (by omega)
      have HCr : Hid (w.heap.size < wr.heap.size) := Lib.hid HXb.out.lt
      have HBR : Hid (Below wr.heap.size wr wr) := Lib.hid (Below.refl _ _)
      go_wp2_with (first | (refine wpList_load_bx _ rfl rfl HXb.out (by kernel_rfl) ?_))
      with_reducible refine (rcopy s' B' _ (HR.out.below HBR.out) HK.out.sm ⟨HK.out.st, HK.out.qu⟩).mono ?_
      rintro e w41 ⟨sf, rfl, ho, hb⟩
      have HC1_w41 : Hid (wr.heap.size ≤ w41.heap.size) := Lib.hid hb.size
      replace HB := Lib.hid (below_via HB.out hb)
      replace HBR := Lib.hid (below_via HBR.out hb)
      replace HXb := Lib.hid (HXb.out.below hb)
      replace HWD := Lib.hid (HWD.out.below hb)
      have HOf := Lib.hid ho
      clear ho hb
      go_wp2_with (refine wpList_store_bh rfl _ _ rfl rfl rfl (heap_alloc_new _ _) rfl ?_)
      intro w42 hw0
      have hbx := boxed hw0.out
      have hb := hbx.1
      replace HB := Lib.hid (below_via HB.out hb)
      replace HBR := Lib.hid (below_via HBR.out hb)
      replace HXb := Lib.hid (HXb.out.below hb)
      replace HOf := Lib.hid (HOf.out.below hb)
      replace HWD := Lib.hid (HWD.out.below hb)
      have HXf := Lib.hid hbx.2
      have HC2_w42 : Hid (w41.heap.size < w42.heap.size) := Lib.hid HXf.out.lt
      clear hw0 hbx hb
      go_wp2_with (first | (refine wpList_load_bx _ rfl rfl HXb.out (by kernel_rfl) ?_))
      with_reducible refine (pass_any s' B' _ (HR.out.below HBR.out) HK.out HV.out).mono ?_
      rintro e w43 ⟨sy, rfl, ho, hb⟩
      have HC3_w43 : Hid (w42.heap.size ≤ w43.heap.size) := Lib.hid hb.size
      replace HB := Lib.hid (below_via HB.out hb)
      replace HBR := Lib.hid (below_via HBR.out hb)
      replace HXb := Lib.hid (HXb.out.below hb)
      replace HXf := Lib.hid (HXf.out.below hb)
      replace HOf := Lib.hid (HOf.out.below hb)
      replace HWD := Lib.hid (HWD.out.below hb)
      have HOy := Lib.hid ho
      clear ho hb
      go_wp2_with (refine wpList_store_bh rfl _ _ rfl rfl rfl (heap_alloc_new _ _) rfl ?_)
      intro w44 hw0
      have hbx := boxed hw0.out
      have hb := hbx.1
      replace HB := Lib.hid (below_via HB.out hb)
      replace HBR := Lib.hid (below_via HBR.out hb)
      replace HXb := Lib.hid (HXb.out.below hb)
      replace HXf := Lib.hid (HXf.out.below hb)
      replace HOf := Lib.hid (HOf.out.below hb)
      replace HOy := Lib.hid (HOy.out.below hb)
      replace HWD := Lib.hid (HWD.out.below hb)
      have HXy := Lib.hid hbx.2
      have HC4_w44 : Hid (w43.heap.size < w44.heap.size) := Lib.hid HXy.out.lt
      clear hw0 hbx hb
      go_wp2_with (first | (refine wpList_load_bx _ rfl rfl HXb.out (by kernel_rfl) ?_))
      with_reducible refine (rpass_any s' B' _ (HR.out.below HBR.out) HK.out HV.out).mono ?_
      rintro e w45 ⟨st, rfl, ho, hb⟩
      have HC5_w45 : Hid (w44.heap.size ≤ w45.heap.size) := Lib.hid hb.size
      replace HB := Lib.hid (below_via HB.out hb)
      replace HBR := Lib.hid (below_via HBR.out hb)
      replace HXb := Lib.hid (HXb.out.below hb)
      replace HXf := Lib.hid (HXf.out.below hb)
      replace HXy := Lib.hid (HXy.out.below hb)
      replace HOf := Lib.hid (HOf.out.below hb)
      replace HOy := Lib.hid (HOy.out.below hb)
      replace HWD := Lib.hid (HWD.out.below hb)
      have HOt := Lib.hid ho
      clear ho hb
      go_wp2_with (refine wpList_store_bh rfl _ _ rfl rfl rfl (heap_alloc_new _ _) rfl ?_)
      intro w46 hw0
      have hbx := boxed hw0.out
      have hb := hbx.1
      replace HB := Lib.hid (below_via HB.out hb)
      replace HBR := Lib.hid (below_via HBR.out hb)
      replace HXb := Lib.hid (HXb.out.below hb)
      replace HXf := Lib.hid (HXf.out.below hb)
      replace HXy := Lib.hid (HXy.out.below hb)
      replace HOf := Lib.hid (HOf.out.below hb)
      replace HOy := Lib.hid (HOy.out.below hb)
      replace HOt := Lib.hid (HOt.out.below hb)
      replace HWD := Lib.hid (HWD.out.below hb)
      have HXt := Lib.hid hbx.2
      have HC6_w46 : Hid (w45.heap.size < w46.heap.size) := Lib.hid HXt.out.lt
      clear hw0 hbx hb
      have tf : (paF B' != paF B') = false := by simp
      go_wp2_with (first | (refine wpList_load_bx _ rfl rfl HXy.out (by kernel_rfl) ?_) | (refine wpList_load_bx _ rfl rfl HXt.out (by kernel_rfl) ?_) | (refine wpList_load_bx _ rfl rfl HXb.out (by kernel_rfl) ?_) | (refine wpList_load_bx _ rfl rfl HXf.out (by kernel_rfl) ?_))
      have o0 := HCr.out
      have o1 := HC1_w41.out
      have o2 := HC2_w42.out
      have o3 := HC3_w43.out
      have o4 := HC4_w44.out
      have o5 := HC5_w45.out
      have o6 := HC6_w46.out
      have hxb := HXb.out.lt
      have hxf := HXf.out.lt
      have hxy := HXy.out.lt
      have hxt := HXt.out.lt
      have hs0 := HBR.out.size
      have hs9 := HB.out.size
      with_reducible refine (gives sy st s' sf (paB B') (B') (paE B') w42.heap.size w43.heap.size _ HOy.out (by omega) HOt.out.rd (fun W hr => HR.out.below (Rng.below HBR.out hr (by omega) hs0)) (fun W hr => (HOf.out.rng hr (by omega) (by omega)).rd)).mono ?_
      rintro e w47 ⟨rfl, hr⟩
      clear HOy
      replace HB := Lib.hid (Rng.below HB.out hr (by omega) hs9)
      replace HBR := Lib.hid (Rng.below HBR.out hr (by omega) hs0)
      replace HXb : Hid (Bx w47 (w.heap.size) s' (B')) := Lib.hid ((hr.block _ hxb (by omega)).trans HXb.out)
      replace HXf : Hid (Bx w47 (w41.heap.size) sf (B')) := Lib.hid ((hr.block _ hxf (by omega)).trans HXf.out)
      replace HXy : Hid (Bx w47 (w43.heap.size) sy (paB B')) := Lib.hid ((hr.block _ hxy (by omega)).trans HXy.out)
      replace HXt : Hid (Bx w47 (w45.heap.size) st (paB B')) := Lib.hid ((hr.block _ hxt (by omega)).trans HXt.out)
      replace HOf := Lib.hid (HOf.out.rng hr (by omega) (by omega))
      replace HOt := Lib.hid (HOt.out.rng hr (by omega) (by omega))
      replace HWD := Lib.hid (HWD.out.rng hr (by omega))
      have HC7_w47 : Hid (w46.heap.size ≤ w47.heap.size) := Lib.hid (by have := hr.size; omega)
      clear hr o0 o1 o2 o3 o4 o5 o6 hxb hxf hxy hxt hs0 hs9
      clear tf
      by_cases he : paE B' = 0
      · have te : (paE B' != 0) = false := by simp [he]
        have HE := Lib.hid he
        clear he
        go_wp2_with (first | (refine wpList_load_bx _ rfl rfl HXt.out (by kernel_rfl) ?_) | (refine wpList_store_bh (s := st) (B := paB B') rfl _ _ rfl rfl rfl HXb.out rfl ?_; intro w48 hw0))
        have hon : Onl [w.heap.size] w47 w48 := by rw [hw0.out]; exact Onl.setRow (Onl.refl _ _) (.inl (by simp)) _
        have HXn : Hid (Bx w48 w.heap.size st (paB B')) := Lib.hid (by rw [hw0.out]; exact Bx.row HXb.out _ _)
        clear hw0
        have o0 := HCr.out
        have o1 := HC1_w41.out
        have o2 := HC2_w42.out
        have o3 := HC3_w43.out
        have o4 := HC4_w44.out
        have o5 := HC5_w45.out
        have o6 := HC6_w46.out
        have o7 := HC7_w47.out
        have hxb := HXb.out.lt
        have hxf := HXf.out.lt
        have hxy := HXy.out.lt
        have hxt := HXt.out.lt
        have hs0 := HBR.out.size
        have hs9 := HB.out.size
        have HHZ : Hid (0 < w.heap.size) := Lib.hid HWZ.out
        replace HB := Lib.hid (belowOnl HB.out hon (by simp) HB.out.size)
        replace HOt := Lib.hid (HOt.out.keep (fun k a b => hon.block k (by omega) (by simp; omega)))
        replace HWD := Lib.hid (Wds.rng HWD.out (Rng.onl (lo := w.heap.size) (hi := w.heap.size + 1) hon (by simp)) (by have := HHZ.out; omega))
        have HRt := Lib.hid HOt.out.rd
        have HNX := Lib.hid (pa_next HV.out HK.out HE.out)
        clear hon o0 o1 o2 o3 o4 o5 o6 o7 hxb hxf hxy hxt hs0 hs9 HCr HC1_w41 HC2_w42 HC3_w43 HC4_w44 HC5_w45 HC6_w46 HC7_w47 HHZ HXb HXt HXy HXf
        go_wp2_with fail
        go_roundw
        case rel => exact ⟨k + 1, by omega, by go_num, HB.out, HWD.out, _, _, HXn.out, HRt.out, HNX.out.1, HNX.out.2⟩
        case measure => simp [intOf]; omega
      · have te : (paE B' != 0) = true := by simp [he]
        go_wp2_with fail
        with_reducible refine (known _ HWD.out).mono ?_
        rintro e w48 ⟨rfl, hb⟩
        have HC8_w48 : Hid (w47.heap.size ≤ w48.heap.size) := Lib.hid hb.size
        replace HB := Lib.hid (below_via HB.out hb)
        replace HBR := Lib.hid (below_via HBR.out hb)
        replace HXb := Lib.hid (HXb.out.below hb)
        replace HXf := Lib.hid (HXf.out.below hb)
        replace HXy := Lib.hid (HXy.out.below hb)
        replace HXt := Lib.hid (HXt.out.below hb)
        replace HOf := Lib.hid (HOf.out.below hb)
        replace HOt := Lib.hid (HOt.out.below hb)
        replace HWD := Lib.hid (HWD.out.below hb)
        clear hb
        go_wp2_with fail
        go_returns
        exact ⟨rfl, HB.out⟩
    · have i1 : decide ((k : Int) < ((n : Nat) : Int)) = false := decide_eq_false (by omega)
      go_wp2_with fail
      with_reducible refine (known _ HWD.out).mono ?_
      rintro e w2 ⟨rfl, hb⟩
      replace HB := Lib.hid (below_via HB.out hb)
      clear hb
      go_wp2_with fail
      go_returns
      exact ⟨rfl, HB.out⟩
theorem tgives (s : Bs) (B : Bd) (pl pa m : Int) (w : World) (h : BdR w s B) (hi : B.I) (hwd : Wds w) (hm : 0 ≤ m) : Calls Tryd.prog 4 #[bv s B, .int .i64 pl, .int .i64 pa, .int .u8 m] w fun e w' => e = .returned (.bool true) ∧ Below w.heap.size w w' := by
  by_cases h6 : 6 < m
  · exact gives_many s B pl pa m w h hi hwd h6
  by_cases hv : VB B
  · by_cases a1 : pl < -1
    · exact gives_n1 s B pl pa m w h hi hwd (by omega) hv a1
    by_cases a2 : 1 < pl
    · exact gives_n2 s B pl pa m w h hi hwd (by omega) hv a2
    by_cases a3 : pa < 0
    · exact gives_n3 s B pl pa m w h hi hwd (by omega) hv (by omega) a3
    by_cases a4 : 2 < pa
    · exact gives_n4 s B pl pa m w h hi hwd (by omega) hv (by omega) a4
    obtain ⟨n, rfl⟩ : ∃ n : Nat, m = n := ⟨m.toNat, by omega⟩
    exact gives_ok s B pl pa n w h hi hwd (by omega) hv (by omega) (by omega)
  · exact gives_bad s B pl pa m w h hi hwd (by omega) hv
end Go.Proofs.YtkkpckkkcclhhaaDoor
