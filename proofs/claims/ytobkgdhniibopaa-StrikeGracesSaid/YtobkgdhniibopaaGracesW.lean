/- The plain law and the walk of StrikeGraces. -/
import Derived.Test.YtobkgdhniibopaaMore
namespace Go.Proofs.Ytobkgdhniibopaa
open Go.RowKit Plain
set_option linter.unusedVariables false
set_option linter.unusedSimpArgs false

/-- the book when both have come, and when both have left -/
def bkH (n g : Int) : Bk := ⟨n, g, true, 0, 0, false, true, 0, 0, false⟩
def bkL (n g z o : Int) : Bk := ⟨n, g, false, z, 0, false, false, o, 0, false⟩
theorem addN_eq {z g t : Int} (h : over (addN z g) t = true) : addN z g = z + g ∧ addN z g ≠ 18446744073709551615 ∧ addN z g ≤ t := by
  have h' : addN z g ≠ 18446744073709551615 ∧ addN z g ≤ t := by simpa [over] using h
  refine ⟨?_, h'⟩
  by_cases hc : 18446744073709551615 - z < g
  · exact absurd (by unfold addN; rw [if_pos hc]) h'.1
  · unfold addN; rw [if_neg hc]
theorem ov_le {z g t : Int} (h : over (addN z g) t = false) : addN z g = 18446744073709551615 ∨ t < addN z g := by
  by_cases h1 : addN z g = 18446744073709551615
  · exact .inl h1
  · refine .inr ?_
    have : (addN z g != 18446744073709551615) = true := by simpa using h1
    simp [over, this] at h
    exact h
theorem addN_le (z g : Int) (hz : z ≤ 18446744073709551615) (hg : 0 ≤ g) : addN z g ≤ 18446744073709551615 := by unfold addN; split <;> omega

set_option maxRecDepth 100000 in
set_option maxHeartbeats 8000000 in
theorem graces4_TTe (n g z o now : Int) (w : World) (h1 : 1 ≤ n) (hg : 0 ≤ g) (hg2 : g ≤ 4294967296) (q0 : (g == 0) = false) (q3 : 1 ≤ g) (hz : U z) (ho : U o) (hn : U now) (HV : Hid (vC n g = true)) (OK : Hid (bk0 n g 0).Ok) (OK1 : Hid (bk0 n g 0).join0.Ok) (OKH : Hid (bkH n g).Ok) (OKL : Hid (bkL n g z o).Ok) (OKJ : Hid (bkL n g z o).join0.Ok) (N1 : Hid (1 ≤ ((bkH n g).leave0 z).n)) (DJ : Hid ((bkL n g z o).join0.d0 = 18446744073709551615))
    (J0 : Hid (over (bk0 n g 0).d0 0 = false)) (J1 : Hid (over (bk0 n g 0).join0.d1 (g - 1) = false)) (LH : Hid (lost (bkH n g).d0 (bkH n g).d1 now = -1)) (LL : Hid (lost (bkL n g z o).d0 (bkL n g z o).d1 now = 2)) (Hz : Hid (over (addN z g) now = true)) (Ho : Hid (over (addN o g) now = true)) (JL : Hid (over (bkL n g z o).d0 now = true)) (q1 : (z == o) = true) :
    Calls Try.prog 4 #[.agg #[.int .i64 n, .int .u64 g], .int .u64 z, .int .u64 o, .int .u64 now] w fun e w' => e = .returned (.bool true) ∧ Below w.heap.size w w' := by
  go_enter Try.func4, Try.ntmps4
  go_wp2_with fail
  with_reducible refine (valid9c n g _ _ HV.out).mono ?_
  rintro e w1 ⟨rfl, hb_w1⟩
  have K_w1 : Kept w.heap.size w (w.heap.size + 2) [(w.heap.size, 0, .int .i64 n), (w.heap.size, 1, .int .u64 g), (w.heap.size + 1, 0, .int .u64 now)] w1 := Kept.of hb_w1 (by go_grown) (by go_size) (by omega) (by simp [go_sem] <;> omega)
  clear hb_w1
  have KH_w1 := Lib.hid K_w1
  have hw_w1 := K_w1.below
  have hz_w1 := K_w1.size
  have lC_w1 : w.heap.size < w1.heap.size := by omega
  have cC0_w1 := K_w1.at (b := w.heap.size) (o := 0) (v := .int .i64 n) (by simp)
  have fC0_w1 := K_w1.free (b := w.heap.size) (o := 0) (v := .int .i64 n) (by simp)
  have cC1_w1 := K_w1.at (b := w.heap.size) (o := 1) (v := .int .u64 g) (by simp)
  have fC1_w1 := K_w1.free (b := w.heap.size) (o := 1) (v := .int .u64 g) (by simp)
  have lT_w1 : w.heap.size + 1 < w1.heap.size := by omega
  have cT0_w1 := K_w1.at (b := w.heap.size + 1) (o := 0) (v := .int .u64 now) (by simp)
  have fT0_w1 := K_w1.free (b := w.heap.size + 1) (o := 0) (v := .int .u64 now) (by simp)
  clear K_w1
  go_wp2_with fail
  with_reducible refine (new8 n g 0 _ HV.out).mono ?_
  rintro e w2 ⟨P, hP, rfl, hB, hb_w2⟩
  have K_w2 : Kept w.heap.size w (w.heap.size + 2) [(w.heap.size, 0, .int .i64 n), (w.heap.size, 1, .int .u64 g), (w.heap.size + 1, 0, .int .u64 now)] w2 := (KH_w1.out.step (by omega) (by go_grown)).step (by omega) hb_w2
  clear hb_w2
  have KH_w2 := Lib.hid K_w2
  have hw_w2 := K_w2.below
  have hz_w2 := K_w2.size
  have lC_w2 : w.heap.size < w2.heap.size := by omega
  have cC0_w2 := K_w2.at (b := w.heap.size) (o := 0) (v := .int .i64 n) (by simp)
  have fC0_w2 := K_w2.free (b := w.heap.size) (o := 0) (v := .int .i64 n) (by simp)
  have cC1_w2 := K_w2.at (b := w.heap.size) (o := 1) (v := .int .u64 g) (by simp)
  have fC1_w2 := K_w2.free (b := w.heap.size) (o := 1) (v := .int .u64 g) (by simp)
  have lT_w2 : w.heap.size + 1 < w2.heap.size := by omega
  have cT0_w2 := K_w2.at (b := w.heap.size + 1) (o := 0) (v := .int .u64 now) (by simp)
  have fT0_w2 := K_w2.free (b := w.heap.size + 1) (o := 0) (v := .int .u64 now) (by simp)
  clear lC_w1 cC0_w1 fC0_w1 cC1_w1 fC1_w1 lT_w1 cT0_w1 fT0_w1
  clear K_w2
  have HB := Lib.hid hB
  clear hB
  go_wp2_with fail
  with_reducible refine (join14_0 P (bk0 n g 0) 0 _ HB.out OK.out J0.out).mono ?_
  rintro e w3 ⟨rfl, hB_w3, hO_w3⟩
  have K_w3 : Kept w.heap.size w (w.heap.size + 2) [(w.heap.size, 0, .int .i64 n), (w.heap.size, 1, .int .u64 g), (w.heap.size + 1, 0, .int .u64 now)] w3 := (KH_w2.out.step (by omega) (by go_grown)).only hO_w3 (by omega) (by omega) (by simp <;> omega)
  replace HB := Lib.hid (hB_w3)
  clear hO_w3 hB_w3
  have KH_w3 := Lib.hid K_w3
  have hw_w3 := K_w3.below
  have hz_w3 := K_w3.size
  have lC_w3 : w.heap.size < w3.heap.size := by omega
  have cC0_w3 := K_w3.at (b := w.heap.size) (o := 0) (v := .int .i64 n) (by simp)
  have fC0_w3 := K_w3.free (b := w.heap.size) (o := 0) (v := .int .i64 n) (by simp)
  have cC1_w3 := K_w3.at (b := w.heap.size) (o := 1) (v := .int .u64 g) (by simp)
  have fC1_w3 := K_w3.free (b := w.heap.size) (o := 1) (v := .int .u64 g) (by simp)
  have lT_w3 : w.heap.size + 1 < w3.heap.size := by omega
  have cT0_w3 := K_w3.at (b := w.heap.size + 1) (o := 0) (v := .int .u64 now) (by simp)
  have fT0_w3 := K_w3.free (b := w.heap.size + 1) (o := 0) (v := .int .u64 now) (by simp)
  clear lC_w2 cC0_w2 fC0_w2 cC1_w2 fC1_w2 lT_w2 cT0_w2 fT0_w2
  clear K_w3
  go_wp2_with fail
  with_reducible refine (join14_1 P (bk0 n g 0).join0 (g - 1) _ HB.out OK1.out J1.out).mono ?_
  rintro e w4 ⟨rfl, hB_w4, hO_w4⟩
  have K_w4 : Kept w.heap.size w (w.heap.size + 2) [(w.heap.size, 0, .int .i64 n), (w.heap.size, 1, .int .u64 g), (w.heap.size + 1, 0, .int .u64 now)] w4 := (KH_w3.out.step (by omega) (by go_grown)).only hO_w4 (by omega) (by omega) (by simp <;> omega)
  replace HB := Lib.hid (show BookAt w4 P (bkH n g) from hB_w4)
  clear hO_w4 hB_w4
  have KH_w4 := Lib.hid K_w4
  have hw_w4 := K_w4.below
  have hz_w4 := K_w4.size
  have lC_w4 : w.heap.size < w4.heap.size := by omega
  have cC0_w4 := K_w4.at (b := w.heap.size) (o := 0) (v := .int .i64 n) (by simp)
  have fC0_w4 := K_w4.free (b := w.heap.size) (o := 0) (v := .int .i64 n) (by simp)
  have cC1_w4 := K_w4.at (b := w.heap.size) (o := 1) (v := .int .u64 g) (by simp)
  have fC1_w4 := K_w4.free (b := w.heap.size) (o := 1) (v := .int .u64 g) (by simp)
  have lT_w4 : w.heap.size + 1 < w4.heap.size := by omega
  have cT0_w4 := K_w4.at (b := w.heap.size + 1) (o := 0) (v := .int .u64 now) (by simp)
  have fT0_w4 := K_w4.free (b := w.heap.size + 1) (o := 0) (v := .int .u64 now) (by simp)
  clear lC_w3 cC0_w3 fC0_w3 cC1_w3 fC1_w3 lT_w3 cT0_w3 fT0_w3
  clear K_w4
  go_wp2_with fail
  with_reducible refine (lost15c P (bkH n g) now (-1) _ HB.out OKH.out LH.out).mono ?_
  rintro e w5 ⟨rfl, hb_w5⟩
  have K_w5 : Kept w.heap.size w (w.heap.size + 2) [(w.heap.size, 0, .int .i64 n), (w.heap.size, 1, .int .u64 g), (w.heap.size + 1, 0, .int .u64 now)] w5 := (KH_w4.out.step (by omega) (by go_grown)).step (by omega) hb_w5
  replace HB := Lib.hid (HB.out.below hb_w5)
  clear hb_w5
  have KH_w5 := Lib.hid K_w5
  have hw_w5 := K_w5.below
  have hz_w5 := K_w5.size
  have lC_w5 : w.heap.size < w5.heap.size := by omega
  have cC0_w5 := K_w5.at (b := w.heap.size) (o := 0) (v := .int .i64 n) (by simp)
  have fC0_w5 := K_w5.free (b := w.heap.size) (o := 0) (v := .int .i64 n) (by simp)
  have cC1_w5 := K_w5.at (b := w.heap.size) (o := 1) (v := .int .u64 g) (by simp)
  have fC1_w5 := K_w5.free (b := w.heap.size) (o := 1) (v := .int .u64 g) (by simp)
  have lT_w5 : w.heap.size + 1 < w5.heap.size := by omega
  have cT0_w5 := K_w5.at (b := w.heap.size + 1) (o := 0) (v := .int .u64 now) (by simp)
  have fT0_w5 := K_w5.free (b := w.heap.size + 1) (o := 0) (v := .int .u64 now) (by simp)
  clear lC_w4 cC0_w4 fC0_w4 cC1_w4 fC1_w4 lT_w4 cT0_w4 fT0_w4
  clear K_w5
  go_wp2_with fail
  with_reducible refine (leave16_0 P (bkH n g) z _ HB.out OKH.out.n1).mono ?_
  rintro e w6 ⟨rfl, hB_w6, hO_w6⟩
  have K_w6 : Kept w.heap.size w (w.heap.size + 2) [(w.heap.size, 0, .int .i64 n), (w.heap.size, 1, .int .u64 g), (w.heap.size + 1, 0, .int .u64 now)] w6 := (KH_w5.out.step (by omega) (by go_grown)).only hO_w6 (by omega) (by omega) (by simp <;> omega)
  replace HB := Lib.hid (hB_w6)
  clear hO_w6 hB_w6
  have KH_w6 := Lib.hid K_w6
  have hw_w6 := K_w6.below
  have hz_w6 := K_w6.size
  have lC_w6 : w.heap.size < w6.heap.size := by omega
  have cC0_w6 := K_w6.at (b := w.heap.size) (o := 0) (v := .int .i64 n) (by simp)
  have fC0_w6 := K_w6.free (b := w.heap.size) (o := 0) (v := .int .i64 n) (by simp)
  have cC1_w6 := K_w6.at (b := w.heap.size) (o := 1) (v := .int .u64 g) (by simp)
  have fC1_w6 := K_w6.free (b := w.heap.size) (o := 1) (v := .int .u64 g) (by simp)
  have lT_w6 : w.heap.size + 1 < w6.heap.size := by omega
  have cT0_w6 := K_w6.at (b := w.heap.size + 1) (o := 0) (v := .int .u64 now) (by simp)
  have fT0_w6 := K_w6.free (b := w.heap.size + 1) (o := 0) (v := .int .u64 now) (by simp)
  clear lC_w5 cC0_w5 fC0_w5 cC1_w5 fC1_w5 lT_w5 cT0_w5 fT0_w5
  clear K_w6
  go_wp2_with fail
  with_reducible refine (leave16_1 P ((bkH n g).leave0 z) o _ HB.out N1.out).mono ?_
  rintro e w7 ⟨rfl, hB_w7, hO_w7⟩
  have K_w7 : Kept w.heap.size w (w.heap.size + 2) [(w.heap.size, 0, .int .i64 n), (w.heap.size, 1, .int .u64 g), (w.heap.size + 1, 0, .int .u64 now)] w7 := (KH_w6.out.step (by omega) (by go_grown)).only hO_w7 (by omega) (by omega) (by simp <;> omega)
  replace HB := Lib.hid (show BookAt w7 P (bkL n g z o) from hB_w7)
  clear hO_w7 hB_w7
  have KH_w7 := Lib.hid K_w7
  have hw_w7 := K_w7.below
  have hz_w7 := K_w7.size
  have lC_w7 : w.heap.size < w7.heap.size := by omega
  have cC0_w7 := K_w7.at (b := w.heap.size) (o := 0) (v := .int .i64 n) (by simp)
  have fC0_w7 := K_w7.free (b := w.heap.size) (o := 0) (v := .int .i64 n) (by simp)
  have cC1_w7 := K_w7.at (b := w.heap.size) (o := 1) (v := .int .u64 g) (by simp)
  have fC1_w7 := K_w7.free (b := w.heap.size) (o := 1) (v := .int .u64 g) (by simp)
  have lT_w7 : w.heap.size + 1 < w7.heap.size := by omega
  have cT0_w7 := K_w7.at (b := w.heap.size + 1) (o := 0) (v := .int .u64 now) (by simp)
  have fT0_w7 := K_w7.free (b := w.heap.size + 1) (o := 0) (v := .int .u64 now) (by simp)
  clear lC_w6 cC0_w6 fC0_w6 cC1_w6 fC1_w6 lT_w6 cT0_w6 fT0_w6
  clear K_w7
  go_wp2_with fail
  with_reducible refine (over17 z g now _ w.heap.size (w.heap.size + 1) _ hz hg hg2 hn cC1_w7 cT0_w7 Hz.out).mono ?_
  rintro e w' ⟨rfl, rfl⟩
  go_wp2_with fail
  with_reducible refine (over17 o g now _ w.heap.size (w.heap.size + 1) _ ho hg hg2 hn cC1_w7 cT0_w7 Ho.out).mono ?_
  rintro e w' ⟨rfl, rfl⟩
  go_wp2_with fail
  with_reducible refine (lost15c P (bkL n g z o) now (2) _ HB.out OKL.out LL.out).mono ?_
  rintro e w8 ⟨rfl, hb_w8⟩
  have K_w8 : Kept w.heap.size w (w.heap.size + 2) [(w.heap.size, 0, .int .i64 n), (w.heap.size, 1, .int .u64 g), (w.heap.size + 1, 0, .int .u64 now)] w8 := (KH_w7.out.step (by omega) (by go_grown)).step (by omega) hb_w8
  replace HB := Lib.hid (HB.out.below hb_w8)
  clear hb_w8
  have KH_w8 := Lib.hid K_w8
  have hw_w8 := K_w8.below
  have hz_w8 := K_w8.size
  have lC_w8 : w.heap.size < w8.heap.size := by omega
  have cC0_w8 := K_w8.at (b := w.heap.size) (o := 0) (v := .int .i64 n) (by simp)
  have fC0_w8 := K_w8.free (b := w.heap.size) (o := 0) (v := .int .i64 n) (by simp)
  have cC1_w8 := K_w8.at (b := w.heap.size) (o := 1) (v := .int .u64 g) (by simp)
  have fC1_w8 := K_w8.free (b := w.heap.size) (o := 1) (v := .int .u64 g) (by simp)
  have lT_w8 : w.heap.size + 1 < w8.heap.size := by omega
  have cT0_w8 := K_w8.at (b := w.heap.size + 1) (o := 0) (v := .int .u64 now) (by simp)
  have fT0_w8 := K_w8.free (b := w.heap.size + 1) (o := 0) (v := .int .u64 now) (by simp)
  clear lC_w7 cC0_w7 fC0_w7 cC1_w7 fC1_w7 lT_w7 cT0_w7 fT0_w7
  clear K_w8
  go_wp2_with fail
  with_reducible refine (over17 z g now _ w.heap.size (w.heap.size + 1) _ hz hg hg2 hn cC1_w8 cT0_w8 Hz.out).mono ?_
  rintro e w' ⟨rfl, rfl⟩
  go_wp2_with fail
  with_reducible refine (join14_0_late P (bkL n g z o) now _ HB.out OKL.out JL.out).mono ?_
  rintro e w9 ⟨rfl, hB_w9, hO_w9⟩
  have K_w9 : Kept w.heap.size w (w.heap.size + 2) [(w.heap.size, 0, .int .i64 n), (w.heap.size, 1, .int .u64 g), (w.heap.size + 1, 0, .int .u64 now)] w9 := (KH_w8.out.step (by omega) (by go_grown)).only hO_w9 (by omega) (by omega) (by simp <;> omega)
  replace HB := Lib.hid (hB_w9)
  clear hO_w9 hB_w9
  have KH_w9 := Lib.hid K_w9
  have hw_w9 := K_w9.below
  have hz_w9 := K_w9.size
  have lC_w9 : w.heap.size < w9.heap.size := by omega
  have cC0_w9 := K_w9.at (b := w.heap.size) (o := 0) (v := .int .i64 n) (by simp)
  have fC0_w9 := K_w9.free (b := w.heap.size) (o := 0) (v := .int .i64 n) (by simp)
  have cC1_w9 := K_w9.at (b := w.heap.size) (o := 1) (v := .int .u64 g) (by simp)
  have fC1_w9 := K_w9.free (b := w.heap.size) (o := 1) (v := .int .u64 g) (by simp)
  have lT_w9 : w.heap.size + 1 < w9.heap.size := by omega
  have cT0_w9 := K_w9.at (b := w.heap.size + 1) (o := 0) (v := .int .u64 now) (by simp)
  have fT0_w9 := K_w9.free (b := w.heap.size + 1) (o := 0) (v := .int .u64 now) (by simp)
  clear lC_w8 cC0_w8 fC0_w8 cC1_w8 fC1_w8 lT_w8 cT0_w8 fT0_w8
  clear K_w9
  go_wp2_with fail
  with_reducible refine (known11 _).mono ?_
  rintro e w10 ⟨rfl, hb_w10⟩
  have K_w10 : Kept w.heap.size w (w.heap.size + 2) [(w.heap.size, 0, .int .i64 n), (w.heap.size, 1, .int .u64 g), (w.heap.size + 1, 0, .int .u64 now)] w10 := (KH_w9.out.step (by omega) (by go_grown)).step (by omega) hb_w10
  clear hb_w10
  have KH_w10 := Lib.hid K_w10
  have hw_w10 := K_w10.below
  have hz_w10 := K_w10.size
  have lC_w10 : w.heap.size < w10.heap.size := by omega
  have cC0_w10 := K_w10.at (b := w.heap.size) (o := 0) (v := .int .i64 n) (by simp)
  have fC0_w10 := K_w10.free (b := w.heap.size) (o := 0) (v := .int .i64 n) (by simp)
  have cC1_w10 := K_w10.at (b := w.heap.size) (o := 1) (v := .int .u64 g) (by simp)
  have fC1_w10 := K_w10.free (b := w.heap.size) (o := 1) (v := .int .u64 g) (by simp)
  have lT_w10 : w.heap.size + 1 < w10.heap.size := by omega
  have cT0_w10 := K_w10.at (b := w.heap.size + 1) (o := 0) (v := .int .u64 now) (by simp)
  have fT0_w10 := K_w10.free (b := w.heap.size + 1) (o := 0) (v := .int .u64 now) (by simp)
  clear lC_w9 cC0_w9 fC0_w9 cC1_w9 fC1_w9 lT_w9 cT0_w9 fT0_w9
  clear K_w10
  go_wp2_with fail
  go_returns
  exact ⟨rfl, by go_grown⟩

set_option maxRecDepth 100000 in
set_option maxHeartbeats 8000000 in
theorem graces4_TTl (n g z o now : Int) (w : World) (h1 : 1 ≤ n) (hg : 0 ≤ g) (hg2 : g ≤ 4294967296) (q0 : (g == 0) = false) (q3 : 1 ≤ g) (hz : U z) (ho : U o) (hn : U now) (HV : Hid (vC n g = true)) (OK : Hid (bk0 n g 0).Ok) (OK1 : Hid (bk0 n g 0).join0.Ok) (OKH : Hid (bkH n g).Ok) (OKL : Hid (bkL n g z o).Ok) (OKJ : Hid (bkL n g z o).join0.Ok) (N1 : Hid (1 ≤ ((bkH n g).leave0 z).n)) (DJ : Hid ((bkL n g z o).join0.d0 = 18446744073709551615))
    (J0 : Hid (over (bk0 n g 0).d0 0 = false)) (J1 : Hid (over (bk0 n g 0).join0.d1 (g - 1) = false)) (LH : Hid (lost (bkH n g).d0 (bkH n g).d1 now = -1)) (LL : Hid (lost (bkL n g z o).d0 (bkL n g z o).d1 now = 0)) (Hz : Hid (over (addN z g) now = true)) (Ho : Hid (over (addN o g) now = true)) (JL : Hid (over (bkL n g z o).d0 now = true)) (q1 : (z == o) = false) (q2 : decide (z < o) = true) :
    Calls Try.prog 4 #[.agg #[.int .i64 n, .int .u64 g], .int .u64 z, .int .u64 o, .int .u64 now] w fun e w' => e = .returned (.bool true) ∧ Below w.heap.size w w' := by
  go_enter Try.func4, Try.ntmps4
  go_wp2_with fail
  with_reducible refine (valid9c n g _ _ HV.out).mono ?_
  rintro e w1 ⟨rfl, hb_w1⟩
  have K_w1 : Kept w.heap.size w (w.heap.size + 2) [(w.heap.size, 0, .int .i64 n), (w.heap.size, 1, .int .u64 g), (w.heap.size + 1, 0, .int .u64 now)] w1 := Kept.of hb_w1 (by go_grown) (by go_size) (by omega) (by simp [go_sem] <;> omega)
  clear hb_w1
  have KH_w1 := Lib.hid K_w1
  have hw_w1 := K_w1.below
  have hz_w1 := K_w1.size
  have lC_w1 : w.heap.size < w1.heap.size := by omega
  have cC0_w1 := K_w1.at (b := w.heap.size) (o := 0) (v := .int .i64 n) (by simp)
  have fC0_w1 := K_w1.free (b := w.heap.size) (o := 0) (v := .int .i64 n) (by simp)
  have cC1_w1 := K_w1.at (b := w.heap.size) (o := 1) (v := .int .u64 g) (by simp)
  have fC1_w1 := K_w1.free (b := w.heap.size) (o := 1) (v := .int .u64 g) (by simp)
  have lT_w1 : w.heap.size + 1 < w1.heap.size := by omega
  have cT0_w1 := K_w1.at (b := w.heap.size + 1) (o := 0) (v := .int .u64 now) (by simp)
  have fT0_w1 := K_w1.free (b := w.heap.size + 1) (o := 0) (v := .int .u64 now) (by simp)
  clear K_w1
  go_wp2_with fail
  with_reducible refine (new8 n g 0 _ HV.out).mono ?_
  rintro e w2 ⟨P, hP, rfl, hB, hb_w2⟩
  have K_w2 : Kept w.heap.size w (w.heap.size + 2) [(w.heap.size, 0, .int .i64 n), (w.heap.size, 1, .int .u64 g), (w.heap.size + 1, 0, .int .u64 now)] w2 := (KH_w1.out.step (by omega) (by go_grown)).step (by omega) hb_w2
  clear hb_w2
  have KH_w2 := Lib.hid K_w2
  have hw_w2 := K_w2.below
  have hz_w2 := K_w2.size
  have lC_w2 : w.heap.size < w2.heap.size := by omega
  have cC0_w2 := K_w2.at (b := w.heap.size) (o := 0) (v := .int .i64 n) (by simp)
  have fC0_w2 := K_w2.free (b := w.heap.size) (o := 0) (v := .int .i64 n) (by simp)
  have cC1_w2 := K_w2.at (b := w.heap.size) (o := 1) (v := .int .u64 g) (by simp)
  have fC1_w2 := K_w2.free (b := w.heap.size) (o := 1) (v := .int .u64 g) (by simp)
  have lT_w2 : w.heap.size + 1 < w2.heap.size := by omega
  have cT0_w2 := K_w2.at (b := w.heap.size + 1) (o := 0) (v := .int .u64 now) (by simp)
  have fT0_w2 := K_w2.free (b := w.heap.size + 1) (o := 0) (v := .int .u64 now) (by simp)
  clear lC_w1 cC0_w1 fC0_w1 cC1_w1 fC1_w1 lT_w1 cT0_w1 fT0_w1
  clear K_w2
  have HB := Lib.hid hB
  clear hB
  go_wp2_with fail
  with_reducible refine (join14_0 P (bk0 n g 0) 0 _ HB.out OK.out J0.out).mono ?_
  rintro e w3 ⟨rfl, hB_w3, hO_w3⟩
  have K_w3 : Kept w.heap.size w (w.heap.size + 2) [(w.heap.size, 0, .int .i64 n), (w.heap.size, 1, .int .u64 g), (w.heap.size + 1, 0, .int .u64 now)] w3 := (KH_w2.out.step (by omega) (by go_grown)).only hO_w3 (by omega) (by omega) (by simp <;> omega)
  replace HB := Lib.hid (hB_w3)
  clear hO_w3 hB_w3
  have KH_w3 := Lib.hid K_w3
  have hw_w3 := K_w3.below
  have hz_w3 := K_w3.size
  have lC_w3 : w.heap.size < w3.heap.size := by omega
  have cC0_w3 := K_w3.at (b := w.heap.size) (o := 0) (v := .int .i64 n) (by simp)
  have fC0_w3 := K_w3.free (b := w.heap.size) (o := 0) (v := .int .i64 n) (by simp)
  have cC1_w3 := K_w3.at (b := w.heap.size) (o := 1) (v := .int .u64 g) (by simp)
  have fC1_w3 := K_w3.free (b := w.heap.size) (o := 1) (v := .int .u64 g) (by simp)
  have lT_w3 : w.heap.size + 1 < w3.heap.size := by omega
  have cT0_w3 := K_w3.at (b := w.heap.size + 1) (o := 0) (v := .int .u64 now) (by simp)
  have fT0_w3 := K_w3.free (b := w.heap.size + 1) (o := 0) (v := .int .u64 now) (by simp)
  clear lC_w2 cC0_w2 fC0_w2 cC1_w2 fC1_w2 lT_w2 cT0_w2 fT0_w2
  clear K_w3
  go_wp2_with fail
  with_reducible refine (join14_1 P (bk0 n g 0).join0 (g - 1) _ HB.out OK1.out J1.out).mono ?_
  rintro e w4 ⟨rfl, hB_w4, hO_w4⟩
  have K_w4 : Kept w.heap.size w (w.heap.size + 2) [(w.heap.size, 0, .int .i64 n), (w.heap.size, 1, .int .u64 g), (w.heap.size + 1, 0, .int .u64 now)] w4 := (KH_w3.out.step (by omega) (by go_grown)).only hO_w4 (by omega) (by omega) (by simp <;> omega)
  replace HB := Lib.hid (show BookAt w4 P (bkH n g) from hB_w4)
  clear hO_w4 hB_w4
  have KH_w4 := Lib.hid K_w4
  have hw_w4 := K_w4.below
  have hz_w4 := K_w4.size
  have lC_w4 : w.heap.size < w4.heap.size := by omega
  have cC0_w4 := K_w4.at (b := w.heap.size) (o := 0) (v := .int .i64 n) (by simp)
  have fC0_w4 := K_w4.free (b := w.heap.size) (o := 0) (v := .int .i64 n) (by simp)
  have cC1_w4 := K_w4.at (b := w.heap.size) (o := 1) (v := .int .u64 g) (by simp)
  have fC1_w4 := K_w4.free (b := w.heap.size) (o := 1) (v := .int .u64 g) (by simp)
  have lT_w4 : w.heap.size + 1 < w4.heap.size := by omega
  have cT0_w4 := K_w4.at (b := w.heap.size + 1) (o := 0) (v := .int .u64 now) (by simp)
  have fT0_w4 := K_w4.free (b := w.heap.size + 1) (o := 0) (v := .int .u64 now) (by simp)
  clear lC_w3 cC0_w3 fC0_w3 cC1_w3 fC1_w3 lT_w3 cT0_w3 fT0_w3
  clear K_w4
  go_wp2_with fail
  with_reducible refine (lost15c P (bkH n g) now (-1) _ HB.out OKH.out LH.out).mono ?_
  rintro e w5 ⟨rfl, hb_w5⟩
  have K_w5 : Kept w.heap.size w (w.heap.size + 2) [(w.heap.size, 0, .int .i64 n), (w.heap.size, 1, .int .u64 g), (w.heap.size + 1, 0, .int .u64 now)] w5 := (KH_w4.out.step (by omega) (by go_grown)).step (by omega) hb_w5
  replace HB := Lib.hid (HB.out.below hb_w5)
  clear hb_w5
  have KH_w5 := Lib.hid K_w5
  have hw_w5 := K_w5.below
  have hz_w5 := K_w5.size
  have lC_w5 : w.heap.size < w5.heap.size := by omega
  have cC0_w5 := K_w5.at (b := w.heap.size) (o := 0) (v := .int .i64 n) (by simp)
  have fC0_w5 := K_w5.free (b := w.heap.size) (o := 0) (v := .int .i64 n) (by simp)
  have cC1_w5 := K_w5.at (b := w.heap.size) (o := 1) (v := .int .u64 g) (by simp)
  have fC1_w5 := K_w5.free (b := w.heap.size) (o := 1) (v := .int .u64 g) (by simp)
  have lT_w5 : w.heap.size + 1 < w5.heap.size := by omega
  have cT0_w5 := K_w5.at (b := w.heap.size + 1) (o := 0) (v := .int .u64 now) (by simp)
  have fT0_w5 := K_w5.free (b := w.heap.size + 1) (o := 0) (v := .int .u64 now) (by simp)
  clear lC_w4 cC0_w4 fC0_w4 cC1_w4 fC1_w4 lT_w4 cT0_w4 fT0_w4
  clear K_w5
  go_wp2_with fail
  with_reducible refine (leave16_0 P (bkH n g) z _ HB.out OKH.out.n1).mono ?_
  rintro e w6 ⟨rfl, hB_w6, hO_w6⟩
  have K_w6 : Kept w.heap.size w (w.heap.size + 2) [(w.heap.size, 0, .int .i64 n), (w.heap.size, 1, .int .u64 g), (w.heap.size + 1, 0, .int .u64 now)] w6 := (KH_w5.out.step (by omega) (by go_grown)).only hO_w6 (by omega) (by omega) (by simp <;> omega)
  replace HB := Lib.hid (hB_w6)
  clear hO_w6 hB_w6
  have KH_w6 := Lib.hid K_w6
  have hw_w6 := K_w6.below
  have hz_w6 := K_w6.size
  have lC_w6 : w.heap.size < w6.heap.size := by omega
  have cC0_w6 := K_w6.at (b := w.heap.size) (o := 0) (v := .int .i64 n) (by simp)
  have fC0_w6 := K_w6.free (b := w.heap.size) (o := 0) (v := .int .i64 n) (by simp)
  have cC1_w6 := K_w6.at (b := w.heap.size) (o := 1) (v := .int .u64 g) (by simp)
  have fC1_w6 := K_w6.free (b := w.heap.size) (o := 1) (v := .int .u64 g) (by simp)
  have lT_w6 : w.heap.size + 1 < w6.heap.size := by omega
  have cT0_w6 := K_w6.at (b := w.heap.size + 1) (o := 0) (v := .int .u64 now) (by simp)
  have fT0_w6 := K_w6.free (b := w.heap.size + 1) (o := 0) (v := .int .u64 now) (by simp)
  clear lC_w5 cC0_w5 fC0_w5 cC1_w5 fC1_w5 lT_w5 cT0_w5 fT0_w5
  clear K_w6
  go_wp2_with fail
  with_reducible refine (leave16_1 P ((bkH n g).leave0 z) o _ HB.out N1.out).mono ?_
  rintro e w7 ⟨rfl, hB_w7, hO_w7⟩
  have K_w7 : Kept w.heap.size w (w.heap.size + 2) [(w.heap.size, 0, .int .i64 n), (w.heap.size, 1, .int .u64 g), (w.heap.size + 1, 0, .int .u64 now)] w7 := (KH_w6.out.step (by omega) (by go_grown)).only hO_w7 (by omega) (by omega) (by simp <;> omega)
  replace HB := Lib.hid (show BookAt w7 P (bkL n g z o) from hB_w7)
  clear hO_w7 hB_w7
  have KH_w7 := Lib.hid K_w7
  have hw_w7 := K_w7.below
  have hz_w7 := K_w7.size
  have lC_w7 : w.heap.size < w7.heap.size := by omega
  have cC0_w7 := K_w7.at (b := w.heap.size) (o := 0) (v := .int .i64 n) (by simp)
  have fC0_w7 := K_w7.free (b := w.heap.size) (o := 0) (v := .int .i64 n) (by simp)
  have cC1_w7 := K_w7.at (b := w.heap.size) (o := 1) (v := .int .u64 g) (by simp)
  have fC1_w7 := K_w7.free (b := w.heap.size) (o := 1) (v := .int .u64 g) (by simp)
  have lT_w7 : w.heap.size + 1 < w7.heap.size := by omega
  have cT0_w7 := K_w7.at (b := w.heap.size + 1) (o := 0) (v := .int .u64 now) (by simp)
  have fT0_w7 := K_w7.free (b := w.heap.size + 1) (o := 0) (v := .int .u64 now) (by simp)
  clear lC_w6 cC0_w6 fC0_w6 cC1_w6 fC1_w6 lT_w6 cT0_w6 fT0_w6
  clear K_w7
  go_wp2_with fail
  with_reducible refine (over17 z g now _ w.heap.size (w.heap.size + 1) _ hz hg hg2 hn cC1_w7 cT0_w7 Hz.out).mono ?_
  rintro e w' ⟨rfl, rfl⟩
  go_wp2_with fail
  with_reducible refine (over17 o g now _ w.heap.size (w.heap.size + 1) _ ho hg hg2 hn cC1_w7 cT0_w7 Ho.out).mono ?_
  rintro e w' ⟨rfl, rfl⟩
  go_wp2_with fail
  with_reducible refine (over17 z g now _ w.heap.size (w.heap.size + 1) _ hz hg hg2 hn cC1_w7 cT0_w7 Hz.out).mono ?_
  rintro e w' ⟨rfl, rfl⟩
  go_wp2_with fail
  with_reducible refine (over17 o g now _ w.heap.size (w.heap.size + 1) _ ho hg hg2 hn cC1_w7 cT0_w7 Ho.out).mono ?_
  rintro e w' ⟨rfl, rfl⟩
  go_wp2_with fail
  with_reducible refine (lost15c P (bkL n g z o) now (0) _ HB.out OKL.out LL.out).mono ?_
  rintro e w8 ⟨rfl, hb_w8⟩
  have K_w8 : Kept w.heap.size w (w.heap.size + 2) [(w.heap.size, 0, .int .i64 n), (w.heap.size, 1, .int .u64 g), (w.heap.size + 1, 0, .int .u64 now)] w8 := (KH_w7.out.step (by omega) (by go_grown)).step (by omega) hb_w8
  replace HB := Lib.hid (HB.out.below hb_w8)
  clear hb_w8
  have KH_w8 := Lib.hid K_w8
  have hw_w8 := K_w8.below
  have hz_w8 := K_w8.size
  have lC_w8 : w.heap.size < w8.heap.size := by omega
  have cC0_w8 := K_w8.at (b := w.heap.size) (o := 0) (v := .int .i64 n) (by simp)
  have fC0_w8 := K_w8.free (b := w.heap.size) (o := 0) (v := .int .i64 n) (by simp)
  have cC1_w8 := K_w8.at (b := w.heap.size) (o := 1) (v := .int .u64 g) (by simp)
  have fC1_w8 := K_w8.free (b := w.heap.size) (o := 1) (v := .int .u64 g) (by simp)
  have lT_w8 : w.heap.size + 1 < w8.heap.size := by omega
  have cT0_w8 := K_w8.at (b := w.heap.size + 1) (o := 0) (v := .int .u64 now) (by simp)
  have fT0_w8 := K_w8.free (b := w.heap.size + 1) (o := 0) (v := .int .u64 now) (by simp)
  clear lC_w7 cC0_w7 fC0_w7 cC1_w7 fC1_w7 lT_w7 cT0_w7 fT0_w7
  clear K_w8
  go_wp2_with fail
  with_reducible refine (over17 z g now _ w.heap.size (w.heap.size + 1) _ hz hg hg2 hn cC1_w8 cT0_w8 Hz.out).mono ?_
  rintro e w' ⟨rfl, rfl⟩
  go_wp2_with fail
  with_reducible refine (join14_0_late P (bkL n g z o) now _ HB.out OKL.out JL.out).mono ?_
  rintro e w9 ⟨rfl, hB_w9, hO_w9⟩
  have K_w9 : Kept w.heap.size w (w.heap.size + 2) [(w.heap.size, 0, .int .i64 n), (w.heap.size, 1, .int .u64 g), (w.heap.size + 1, 0, .int .u64 now)] w9 := (KH_w8.out.step (by omega) (by go_grown)).only hO_w9 (by omega) (by omega) (by simp <;> omega)
  replace HB := Lib.hid (hB_w9)
  clear hO_w9 hB_w9
  have KH_w9 := Lib.hid K_w9
  have hw_w9 := K_w9.below
  have hz_w9 := K_w9.size
  have lC_w9 : w.heap.size < w9.heap.size := by omega
  have cC0_w9 := K_w9.at (b := w.heap.size) (o := 0) (v := .int .i64 n) (by simp)
  have fC0_w9 := K_w9.free (b := w.heap.size) (o := 0) (v := .int .i64 n) (by simp)
  have cC1_w9 := K_w9.at (b := w.heap.size) (o := 1) (v := .int .u64 g) (by simp)
  have fC1_w9 := K_w9.free (b := w.heap.size) (o := 1) (v := .int .u64 g) (by simp)
  have lT_w9 : w.heap.size + 1 < w9.heap.size := by omega
  have cT0_w9 := K_w9.at (b := w.heap.size + 1) (o := 0) (v := .int .u64 now) (by simp)
  have fT0_w9 := K_w9.free (b := w.heap.size + 1) (o := 0) (v := .int .u64 now) (by simp)
  clear lC_w8 cC0_w8 fC0_w8 cC1_w8 fC1_w8 lT_w8 cT0_w8 fT0_w8
  clear K_w9
  go_wp2_with fail
  with_reducible refine (known11 _).mono ?_
  rintro e w10 ⟨rfl, hb_w10⟩
  have K_w10 : Kept w.heap.size w (w.heap.size + 2) [(w.heap.size, 0, .int .i64 n), (w.heap.size, 1, .int .u64 g), (w.heap.size + 1, 0, .int .u64 now)] w10 := (KH_w9.out.step (by omega) (by go_grown)).step (by omega) hb_w10
  clear hb_w10
  have KH_w10 := Lib.hid K_w10
  have hw_w10 := K_w10.below
  have hz_w10 := K_w10.size
  have lC_w10 : w.heap.size < w10.heap.size := by omega
  have cC0_w10 := K_w10.at (b := w.heap.size) (o := 0) (v := .int .i64 n) (by simp)
  have fC0_w10 := K_w10.free (b := w.heap.size) (o := 0) (v := .int .i64 n) (by simp)
  have cC1_w10 := K_w10.at (b := w.heap.size) (o := 1) (v := .int .u64 g) (by simp)
  have fC1_w10 := K_w10.free (b := w.heap.size) (o := 1) (v := .int .u64 g) (by simp)
  have lT_w10 : w.heap.size + 1 < w10.heap.size := by omega
  have cT0_w10 := K_w10.at (b := w.heap.size + 1) (o := 0) (v := .int .u64 now) (by simp)
  have fT0_w10 := K_w10.free (b := w.heap.size + 1) (o := 0) (v := .int .u64 now) (by simp)
  clear lC_w9 cC0_w9 fC0_w9 cC1_w9 fC1_w9 lT_w9 cT0_w9 fT0_w9
  clear K_w10
  go_wp2_with fail
  go_returns
  exact ⟨rfl, by go_grown⟩

set_option maxRecDepth 100000 in
set_option maxHeartbeats 8000000 in
theorem graces4_TTg (n g z o now : Int) (w : World) (h1 : 1 ≤ n) (hg : 0 ≤ g) (hg2 : g ≤ 4294967296) (q0 : (g == 0) = false) (q3 : 1 ≤ g) (hz : U z) (ho : U o) (hn : U now) (HV : Hid (vC n g = true)) (OK : Hid (bk0 n g 0).Ok) (OK1 : Hid (bk0 n g 0).join0.Ok) (OKH : Hid (bkH n g).Ok) (OKL : Hid (bkL n g z o).Ok) (OKJ : Hid (bkL n g z o).join0.Ok) (N1 : Hid (1 ≤ ((bkH n g).leave0 z).n)) (DJ : Hid ((bkL n g z o).join0.d0 = 18446744073709551615))
    (J0 : Hid (over (bk0 n g 0).d0 0 = false)) (J1 : Hid (over (bk0 n g 0).join0.d1 (g - 1) = false)) (LH : Hid (lost (bkH n g).d0 (bkH n g).d1 now = -1)) (LL : Hid (lost (bkL n g z o).d0 (bkL n g z o).d1 now = 1)) (Hz : Hid (over (addN z g) now = true)) (Ho : Hid (over (addN o g) now = true)) (JL : Hid (over (bkL n g z o).d0 now = true)) (q1 : (z == o) = false) (q2 : decide (z < o) = false) :
    Calls Try.prog 4 #[.agg #[.int .i64 n, .int .u64 g], .int .u64 z, .int .u64 o, .int .u64 now] w fun e w' => e = .returned (.bool true) ∧ Below w.heap.size w w' := by
  go_enter Try.func4, Try.ntmps4
  go_wp2_with fail
  with_reducible refine (valid9c n g _ _ HV.out).mono ?_
  rintro e w1 ⟨rfl, hb_w1⟩
  have K_w1 : Kept w.heap.size w (w.heap.size + 2) [(w.heap.size, 0, .int .i64 n), (w.heap.size, 1, .int .u64 g), (w.heap.size + 1, 0, .int .u64 now)] w1 := Kept.of hb_w1 (by go_grown) (by go_size) (by omega) (by simp [go_sem] <;> omega)
  clear hb_w1
  have KH_w1 := Lib.hid K_w1
  have hw_w1 := K_w1.below
  have hz_w1 := K_w1.size
  have lC_w1 : w.heap.size < w1.heap.size := by omega
  have cC0_w1 := K_w1.at (b := w.heap.size) (o := 0) (v := .int .i64 n) (by simp)
  have fC0_w1 := K_w1.free (b := w.heap.size) (o := 0) (v := .int .i64 n) (by simp)
  have cC1_w1 := K_w1.at (b := w.heap.size) (o := 1) (v := .int .u64 g) (by simp)
  have fC1_w1 := K_w1.free (b := w.heap.size) (o := 1) (v := .int .u64 g) (by simp)
  have lT_w1 : w.heap.size + 1 < w1.heap.size := by omega
  have cT0_w1 := K_w1.at (b := w.heap.size + 1) (o := 0) (v := .int .u64 now) (by simp)
  have fT0_w1 := K_w1.free (b := w.heap.size + 1) (o := 0) (v := .int .u64 now) (by simp)
  clear K_w1
  go_wp2_with fail
  with_reducible refine (new8 n g 0 _ HV.out).mono ?_
  rintro e w2 ⟨P, hP, rfl, hB, hb_w2⟩
  have K_w2 : Kept w.heap.size w (w.heap.size + 2) [(w.heap.size, 0, .int .i64 n), (w.heap.size, 1, .int .u64 g), (w.heap.size + 1, 0, .int .u64 now)] w2 := (KH_w1.out.step (by omega) (by go_grown)).step (by omega) hb_w2
  clear hb_w2
  have KH_w2 := Lib.hid K_w2
  have hw_w2 := K_w2.below
  have hz_w2 := K_w2.size
  have lC_w2 : w.heap.size < w2.heap.size := by omega
  have cC0_w2 := K_w2.at (b := w.heap.size) (o := 0) (v := .int .i64 n) (by simp)
  have fC0_w2 := K_w2.free (b := w.heap.size) (o := 0) (v := .int .i64 n) (by simp)
  have cC1_w2 := K_w2.at (b := w.heap.size) (o := 1) (v := .int .u64 g) (by simp)
  have fC1_w2 := K_w2.free (b := w.heap.size) (o := 1) (v := .int .u64 g) (by simp)
  have lT_w2 : w.heap.size + 1 < w2.heap.size := by omega
  have cT0_w2 := K_w2.at (b := w.heap.size + 1) (o := 0) (v := .int .u64 now) (by simp)
  have fT0_w2 := K_w2.free (b := w.heap.size + 1) (o := 0) (v := .int .u64 now) (by simp)
  clear lC_w1 cC0_w1 fC0_w1 cC1_w1 fC1_w1 lT_w1 cT0_w1 fT0_w1
  clear K_w2
  have HB := Lib.hid hB
  clear hB
  go_wp2_with fail
  with_reducible refine (join14_0 P (bk0 n g 0) 0 _ HB.out OK.out J0.out).mono ?_
  rintro e w3 ⟨rfl, hB_w3, hO_w3⟩
  have K_w3 : Kept w.heap.size w (w.heap.size + 2) [(w.heap.size, 0, .int .i64 n), (w.heap.size, 1, .int .u64 g), (w.heap.size + 1, 0, .int .u64 now)] w3 := (KH_w2.out.step (by omega) (by go_grown)).only hO_w3 (by omega) (by omega) (by simp <;> omega)
  replace HB := Lib.hid (hB_w3)
  clear hO_w3 hB_w3
  have KH_w3 := Lib.hid K_w3
  have hw_w3 := K_w3.below
  have hz_w3 := K_w3.size
  have lC_w3 : w.heap.size < w3.heap.size := by omega
  have cC0_w3 := K_w3.at (b := w.heap.size) (o := 0) (v := .int .i64 n) (by simp)
  have fC0_w3 := K_w3.free (b := w.heap.size) (o := 0) (v := .int .i64 n) (by simp)
  have cC1_w3 := K_w3.at (b := w.heap.size) (o := 1) (v := .int .u64 g) (by simp)
  have fC1_w3 := K_w3.free (b := w.heap.size) (o := 1) (v := .int .u64 g) (by simp)
  have lT_w3 : w.heap.size + 1 < w3.heap.size := by omega
  have cT0_w3 := K_w3.at (b := w.heap.size + 1) (o := 0) (v := .int .u64 now) (by simp)
  have fT0_w3 := K_w3.free (b := w.heap.size + 1) (o := 0) (v := .int .u64 now) (by simp)
  clear lC_w2 cC0_w2 fC0_w2 cC1_w2 fC1_w2 lT_w2 cT0_w2 fT0_w2
  clear K_w3
  go_wp2_with fail
  with_reducible refine (join14_1 P (bk0 n g 0).join0 (g - 1) _ HB.out OK1.out J1.out).mono ?_
  rintro e w4 ⟨rfl, hB_w4, hO_w4⟩
  have K_w4 : Kept w.heap.size w (w.heap.size + 2) [(w.heap.size, 0, .int .i64 n), (w.heap.size, 1, .int .u64 g), (w.heap.size + 1, 0, .int .u64 now)] w4 := (KH_w3.out.step (by omega) (by go_grown)).only hO_w4 (by omega) (by omega) (by simp <;> omega)
  replace HB := Lib.hid (show BookAt w4 P (bkH n g) from hB_w4)
  clear hO_w4 hB_w4
  have KH_w4 := Lib.hid K_w4
  have hw_w4 := K_w4.below
  have hz_w4 := K_w4.size
  have lC_w4 : w.heap.size < w4.heap.size := by omega
  have cC0_w4 := K_w4.at (b := w.heap.size) (o := 0) (v := .int .i64 n) (by simp)
  have fC0_w4 := K_w4.free (b := w.heap.size) (o := 0) (v := .int .i64 n) (by simp)
  have cC1_w4 := K_w4.at (b := w.heap.size) (o := 1) (v := .int .u64 g) (by simp)
  have fC1_w4 := K_w4.free (b := w.heap.size) (o := 1) (v := .int .u64 g) (by simp)
  have lT_w4 : w.heap.size + 1 < w4.heap.size := by omega
  have cT0_w4 := K_w4.at (b := w.heap.size + 1) (o := 0) (v := .int .u64 now) (by simp)
  have fT0_w4 := K_w4.free (b := w.heap.size + 1) (o := 0) (v := .int .u64 now) (by simp)
  clear lC_w3 cC0_w3 fC0_w3 cC1_w3 fC1_w3 lT_w3 cT0_w3 fT0_w3
  clear K_w4
  go_wp2_with fail
  with_reducible refine (lost15c P (bkH n g) now (-1) _ HB.out OKH.out LH.out).mono ?_
  rintro e w5 ⟨rfl, hb_w5⟩
  have K_w5 : Kept w.heap.size w (w.heap.size + 2) [(w.heap.size, 0, .int .i64 n), (w.heap.size, 1, .int .u64 g), (w.heap.size + 1, 0, .int .u64 now)] w5 := (KH_w4.out.step (by omega) (by go_grown)).step (by omega) hb_w5
  replace HB := Lib.hid (HB.out.below hb_w5)
  clear hb_w5
  have KH_w5 := Lib.hid K_w5
  have hw_w5 := K_w5.below
  have hz_w5 := K_w5.size
  have lC_w5 : w.heap.size < w5.heap.size := by omega
  have cC0_w5 := K_w5.at (b := w.heap.size) (o := 0) (v := .int .i64 n) (by simp)
  have fC0_w5 := K_w5.free (b := w.heap.size) (o := 0) (v := .int .i64 n) (by simp)
  have cC1_w5 := K_w5.at (b := w.heap.size) (o := 1) (v := .int .u64 g) (by simp)
  have fC1_w5 := K_w5.free (b := w.heap.size) (o := 1) (v := .int .u64 g) (by simp)
  have lT_w5 : w.heap.size + 1 < w5.heap.size := by omega
  have cT0_w5 := K_w5.at (b := w.heap.size + 1) (o := 0) (v := .int .u64 now) (by simp)
  have fT0_w5 := K_w5.free (b := w.heap.size + 1) (o := 0) (v := .int .u64 now) (by simp)
  clear lC_w4 cC0_w4 fC0_w4 cC1_w4 fC1_w4 lT_w4 cT0_w4 fT0_w4
  clear K_w5
  go_wp2_with fail
  with_reducible refine (leave16_0 P (bkH n g) z _ HB.out OKH.out.n1).mono ?_
  rintro e w6 ⟨rfl, hB_w6, hO_w6⟩
  have K_w6 : Kept w.heap.size w (w.heap.size + 2) [(w.heap.size, 0, .int .i64 n), (w.heap.size, 1, .int .u64 g), (w.heap.size + 1, 0, .int .u64 now)] w6 := (KH_w5.out.step (by omega) (by go_grown)).only hO_w6 (by omega) (by omega) (by simp <;> omega)
  replace HB := Lib.hid (hB_w6)
  clear hO_w6 hB_w6
  have KH_w6 := Lib.hid K_w6
  have hw_w6 := K_w6.below
  have hz_w6 := K_w6.size
  have lC_w6 : w.heap.size < w6.heap.size := by omega
  have cC0_w6 := K_w6.at (b := w.heap.size) (o := 0) (v := .int .i64 n) (by simp)
  have fC0_w6 := K_w6.free (b := w.heap.size) (o := 0) (v := .int .i64 n) (by simp)
  have cC1_w6 := K_w6.at (b := w.heap.size) (o := 1) (v := .int .u64 g) (by simp)
  have fC1_w6 := K_w6.free (b := w.heap.size) (o := 1) (v := .int .u64 g) (by simp)
  have lT_w6 : w.heap.size + 1 < w6.heap.size := by omega
  have cT0_w6 := K_w6.at (b := w.heap.size + 1) (o := 0) (v := .int .u64 now) (by simp)
  have fT0_w6 := K_w6.free (b := w.heap.size + 1) (o := 0) (v := .int .u64 now) (by simp)
  clear lC_w5 cC0_w5 fC0_w5 cC1_w5 fC1_w5 lT_w5 cT0_w5 fT0_w5
  clear K_w6
  go_wp2_with fail
  with_reducible refine (leave16_1 P ((bkH n g).leave0 z) o _ HB.out N1.out).mono ?_
  rintro e w7 ⟨rfl, hB_w7, hO_w7⟩
  have K_w7 : Kept w.heap.size w (w.heap.size + 2) [(w.heap.size, 0, .int .i64 n), (w.heap.size, 1, .int .u64 g), (w.heap.size + 1, 0, .int .u64 now)] w7 := (KH_w6.out.step (by omega) (by go_grown)).only hO_w7 (by omega) (by omega) (by simp <;> omega)
  replace HB := Lib.hid (show BookAt w7 P (bkL n g z o) from hB_w7)
  clear hO_w7 hB_w7
  have KH_w7 := Lib.hid K_w7
  have hw_w7 := K_w7.below
  have hz_w7 := K_w7.size
  have lC_w7 : w.heap.size < w7.heap.size := by omega
  have cC0_w7 := K_w7.at (b := w.heap.size) (o := 0) (v := .int .i64 n) (by simp)
  have fC0_w7 := K_w7.free (b := w.heap.size) (o := 0) (v := .int .i64 n) (by simp)
  have cC1_w7 := K_w7.at (b := w.heap.size) (o := 1) (v := .int .u64 g) (by simp)
  have fC1_w7 := K_w7.free (b := w.heap.size) (o := 1) (v := .int .u64 g) (by simp)
  have lT_w7 : w.heap.size + 1 < w7.heap.size := by omega
  have cT0_w7 := K_w7.at (b := w.heap.size + 1) (o := 0) (v := .int .u64 now) (by simp)
  have fT0_w7 := K_w7.free (b := w.heap.size + 1) (o := 0) (v := .int .u64 now) (by simp)
  clear lC_w6 cC0_w6 fC0_w6 cC1_w6 fC1_w6 lT_w6 cT0_w6 fT0_w6
  clear K_w7
  go_wp2_with fail
  with_reducible refine (over17 z g now _ w.heap.size (w.heap.size + 1) _ hz hg hg2 hn cC1_w7 cT0_w7 Hz.out).mono ?_
  rintro e w' ⟨rfl, rfl⟩
  go_wp2_with fail
  with_reducible refine (over17 o g now _ w.heap.size (w.heap.size + 1) _ ho hg hg2 hn cC1_w7 cT0_w7 Ho.out).mono ?_
  rintro e w' ⟨rfl, rfl⟩
  go_wp2_with fail
  with_reducible refine (over17 z g now _ w.heap.size (w.heap.size + 1) _ hz hg hg2 hn cC1_w7 cT0_w7 Hz.out).mono ?_
  rintro e w' ⟨rfl, rfl⟩
  go_wp2_with fail
  with_reducible refine (over17 o g now _ w.heap.size (w.heap.size + 1) _ ho hg hg2 hn cC1_w7 cT0_w7 Ho.out).mono ?_
  rintro e w' ⟨rfl, rfl⟩
  go_wp2_with fail
  with_reducible refine (over17 o g now _ w.heap.size (w.heap.size + 1) _ ho hg hg2 hn cC1_w7 cT0_w7 Ho.out).mono ?_
  rintro e w' ⟨rfl, rfl⟩
  go_wp2_with fail
  with_reducible refine (lost15c P (bkL n g z o) now (1) _ HB.out OKL.out LL.out).mono ?_
  rintro e w8 ⟨rfl, hb_w8⟩
  have K_w8 : Kept w.heap.size w (w.heap.size + 2) [(w.heap.size, 0, .int .i64 n), (w.heap.size, 1, .int .u64 g), (w.heap.size + 1, 0, .int .u64 now)] w8 := (KH_w7.out.step (by omega) (by go_grown)).step (by omega) hb_w8
  replace HB := Lib.hid (HB.out.below hb_w8)
  clear hb_w8
  have KH_w8 := Lib.hid K_w8
  have hw_w8 := K_w8.below
  have hz_w8 := K_w8.size
  have lC_w8 : w.heap.size < w8.heap.size := by omega
  have cC0_w8 := K_w8.at (b := w.heap.size) (o := 0) (v := .int .i64 n) (by simp)
  have fC0_w8 := K_w8.free (b := w.heap.size) (o := 0) (v := .int .i64 n) (by simp)
  have cC1_w8 := K_w8.at (b := w.heap.size) (o := 1) (v := .int .u64 g) (by simp)
  have fC1_w8 := K_w8.free (b := w.heap.size) (o := 1) (v := .int .u64 g) (by simp)
  have lT_w8 : w.heap.size + 1 < w8.heap.size := by omega
  have cT0_w8 := K_w8.at (b := w.heap.size + 1) (o := 0) (v := .int .u64 now) (by simp)
  have fT0_w8 := K_w8.free (b := w.heap.size + 1) (o := 0) (v := .int .u64 now) (by simp)
  clear lC_w7 cC0_w7 fC0_w7 cC1_w7 fC1_w7 lT_w7 cT0_w7 fT0_w7
  clear K_w8
  go_wp2_with fail
  with_reducible refine (over17 z g now _ w.heap.size (w.heap.size + 1) _ hz hg hg2 hn cC1_w8 cT0_w8 Hz.out).mono ?_
  rintro e w' ⟨rfl, rfl⟩
  go_wp2_with fail
  with_reducible refine (join14_0_late P (bkL n g z o) now _ HB.out OKL.out JL.out).mono ?_
  rintro e w9 ⟨rfl, hB_w9, hO_w9⟩
  have K_w9 : Kept w.heap.size w (w.heap.size + 2) [(w.heap.size, 0, .int .i64 n), (w.heap.size, 1, .int .u64 g), (w.heap.size + 1, 0, .int .u64 now)] w9 := (KH_w8.out.step (by omega) (by go_grown)).only hO_w9 (by omega) (by omega) (by simp <;> omega)
  replace HB := Lib.hid (hB_w9)
  clear hO_w9 hB_w9
  have KH_w9 := Lib.hid K_w9
  have hw_w9 := K_w9.below
  have hz_w9 := K_w9.size
  have lC_w9 : w.heap.size < w9.heap.size := by omega
  have cC0_w9 := K_w9.at (b := w.heap.size) (o := 0) (v := .int .i64 n) (by simp)
  have fC0_w9 := K_w9.free (b := w.heap.size) (o := 0) (v := .int .i64 n) (by simp)
  have cC1_w9 := K_w9.at (b := w.heap.size) (o := 1) (v := .int .u64 g) (by simp)
  have fC1_w9 := K_w9.free (b := w.heap.size) (o := 1) (v := .int .u64 g) (by simp)
  have lT_w9 : w.heap.size + 1 < w9.heap.size := by omega
  have cT0_w9 := K_w9.at (b := w.heap.size + 1) (o := 0) (v := .int .u64 now) (by simp)
  have fT0_w9 := K_w9.free (b := w.heap.size + 1) (o := 0) (v := .int .u64 now) (by simp)
  clear lC_w8 cC0_w8 fC0_w8 cC1_w8 fC1_w8 lT_w8 cT0_w8 fT0_w8
  clear K_w9
  go_wp2_with fail
  with_reducible refine (known11 _).mono ?_
  rintro e w10 ⟨rfl, hb_w10⟩
  have K_w10 : Kept w.heap.size w (w.heap.size + 2) [(w.heap.size, 0, .int .i64 n), (w.heap.size, 1, .int .u64 g), (w.heap.size + 1, 0, .int .u64 now)] w10 := (KH_w9.out.step (by omega) (by go_grown)).step (by omega) hb_w10
  clear hb_w10
  have KH_w10 := Lib.hid K_w10
  have hw_w10 := K_w10.below
  have hz_w10 := K_w10.size
  have lC_w10 : w.heap.size < w10.heap.size := by omega
  have cC0_w10 := K_w10.at (b := w.heap.size) (o := 0) (v := .int .i64 n) (by simp)
  have fC0_w10 := K_w10.free (b := w.heap.size) (o := 0) (v := .int .i64 n) (by simp)
  have cC1_w10 := K_w10.at (b := w.heap.size) (o := 1) (v := .int .u64 g) (by simp)
  have fC1_w10 := K_w10.free (b := w.heap.size) (o := 1) (v := .int .u64 g) (by simp)
  have lT_w10 : w.heap.size + 1 < w10.heap.size := by omega
  have cT0_w10 := K_w10.at (b := w.heap.size + 1) (o := 0) (v := .int .u64 now) (by simp)
  have fT0_w10 := K_w10.free (b := w.heap.size + 1) (o := 0) (v := .int .u64 now) (by simp)
  clear lC_w9 cC0_w9 fC0_w9 cC1_w9 fC1_w9 lT_w9 cT0_w9 fT0_w9
  clear K_w10
  go_wp2_with fail
  go_returns
  exact ⟨rfl, by go_grown⟩

set_option maxRecDepth 100000 in
set_option maxHeartbeats 8000000 in
theorem graces4_TF (n g z o now : Int) (w : World) (h1 : 1 ≤ n) (hg : 0 ≤ g) (hg2 : g ≤ 4294967296) (q0 : (g == 0) = false) (q3 : 1 ≤ g) (hz : U z) (ho : U o) (hn : U now) (HV : Hid (vC n g = true)) (OK : Hid (bk0 n g 0).Ok) (OK1 : Hid (bk0 n g 0).join0.Ok) (OKH : Hid (bkH n g).Ok) (OKL : Hid (bkL n g z o).Ok) (OKJ : Hid (bkL n g z o).join0.Ok) (N1 : Hid (1 ≤ ((bkH n g).leave0 z).n)) (DJ : Hid ((bkL n g z o).join0.d0 = 18446744073709551615))
    (J0 : Hid (over (bk0 n g 0).d0 0 = false)) (J1 : Hid (over (bk0 n g 0).join0.d1 (g - 1) = false)) (LH : Hid (lost (bkH n g).d0 (bkH n g).d1 now = -1)) (LL : Hid (lost (bkL n g z o).d0 (bkL n g z o).d1 now = 0)) (Hz : Hid (over (addN z g) now = true)) (Ho : Hid (over (addN o g) now = false)) (JL : Hid (over (bkL n g z o).d0 now = true)) :
    Calls Try.prog 4 #[.agg #[.int .i64 n, .int .u64 g], .int .u64 z, .int .u64 o, .int .u64 now] w fun e w' => e = .returned (.bool true) ∧ Below w.heap.size w w' := by
  go_enter Try.func4, Try.ntmps4
  go_wp2_with fail
  with_reducible refine (valid9c n g _ _ HV.out).mono ?_
  rintro e w1 ⟨rfl, hb_w1⟩
  have K_w1 : Kept w.heap.size w (w.heap.size + 2) [(w.heap.size, 0, .int .i64 n), (w.heap.size, 1, .int .u64 g), (w.heap.size + 1, 0, .int .u64 now)] w1 := Kept.of hb_w1 (by go_grown) (by go_size) (by omega) (by simp [go_sem] <;> omega)
  clear hb_w1
  have KH_w1 := Lib.hid K_w1
  have hw_w1 := K_w1.below
  have hz_w1 := K_w1.size
  have lC_w1 : w.heap.size < w1.heap.size := by omega
  have cC0_w1 := K_w1.at (b := w.heap.size) (o := 0) (v := .int .i64 n) (by simp)
  have fC0_w1 := K_w1.free (b := w.heap.size) (o := 0) (v := .int .i64 n) (by simp)
  have cC1_w1 := K_w1.at (b := w.heap.size) (o := 1) (v := .int .u64 g) (by simp)
  have fC1_w1 := K_w1.free (b := w.heap.size) (o := 1) (v := .int .u64 g) (by simp)
  have lT_w1 : w.heap.size + 1 < w1.heap.size := by omega
  have cT0_w1 := K_w1.at (b := w.heap.size + 1) (o := 0) (v := .int .u64 now) (by simp)
  have fT0_w1 := K_w1.free (b := w.heap.size + 1) (o := 0) (v := .int .u64 now) (by simp)
  clear K_w1
  go_wp2_with fail
  with_reducible refine (new8 n g 0 _ HV.out).mono ?_
  rintro e w2 ⟨P, hP, rfl, hB, hb_w2⟩
  have K_w2 : Kept w.heap.size w (w.heap.size + 2) [(w.heap.size, 0, .int .i64 n), (w.heap.size, 1, .int .u64 g), (w.heap.size + 1, 0, .int .u64 now)] w2 := (KH_w1.out.step (by omega) (by go_grown)).step (by omega) hb_w2
  clear hb_w2
  have KH_w2 := Lib.hid K_w2
  have hw_w2 := K_w2.below
  have hz_w2 := K_w2.size
  have lC_w2 : w.heap.size < w2.heap.size := by omega
  have cC0_w2 := K_w2.at (b := w.heap.size) (o := 0) (v := .int .i64 n) (by simp)
  have fC0_w2 := K_w2.free (b := w.heap.size) (o := 0) (v := .int .i64 n) (by simp)
  have cC1_w2 := K_w2.at (b := w.heap.size) (o := 1) (v := .int .u64 g) (by simp)
  have fC1_w2 := K_w2.free (b := w.heap.size) (o := 1) (v := .int .u64 g) (by simp)
  have lT_w2 : w.heap.size + 1 < w2.heap.size := by omega
  have cT0_w2 := K_w2.at (b := w.heap.size + 1) (o := 0) (v := .int .u64 now) (by simp)
  have fT0_w2 := K_w2.free (b := w.heap.size + 1) (o := 0) (v := .int .u64 now) (by simp)
  clear lC_w1 cC0_w1 fC0_w1 cC1_w1 fC1_w1 lT_w1 cT0_w1 fT0_w1
  clear K_w2
  have HB := Lib.hid hB
  clear hB
  go_wp2_with fail
  with_reducible refine (join14_0 P (bk0 n g 0) 0 _ HB.out OK.out J0.out).mono ?_
  rintro e w3 ⟨rfl, hB_w3, hO_w3⟩
  have K_w3 : Kept w.heap.size w (w.heap.size + 2) [(w.heap.size, 0, .int .i64 n), (w.heap.size, 1, .int .u64 g), (w.heap.size + 1, 0, .int .u64 now)] w3 := (KH_w2.out.step (by omega) (by go_grown)).only hO_w3 (by omega) (by omega) (by simp <;> omega)
  replace HB := Lib.hid (hB_w3)
  clear hO_w3 hB_w3
  have KH_w3 := Lib.hid K_w3
  have hw_w3 := K_w3.below
  have hz_w3 := K_w3.size
  have lC_w3 : w.heap.size < w3.heap.size := by omega
  have cC0_w3 := K_w3.at (b := w.heap.size) (o := 0) (v := .int .i64 n) (by simp)
  have fC0_w3 := K_w3.free (b := w.heap.size) (o := 0) (v := .int .i64 n) (by simp)
  have cC1_w3 := K_w3.at (b := w.heap.size) (o := 1) (v := .int .u64 g) (by simp)
  have fC1_w3 := K_w3.free (b := w.heap.size) (o := 1) (v := .int .u64 g) (by simp)
  have lT_w3 : w.heap.size + 1 < w3.heap.size := by omega
  have cT0_w3 := K_w3.at (b := w.heap.size + 1) (o := 0) (v := .int .u64 now) (by simp)
  have fT0_w3 := K_w3.free (b := w.heap.size + 1) (o := 0) (v := .int .u64 now) (by simp)
  clear lC_w2 cC0_w2 fC0_w2 cC1_w2 fC1_w2 lT_w2 cT0_w2 fT0_w2
  clear K_w3
  go_wp2_with fail
  with_reducible refine (join14_1 P (bk0 n g 0).join0 (g - 1) _ HB.out OK1.out J1.out).mono ?_
  rintro e w4 ⟨rfl, hB_w4, hO_w4⟩
  have K_w4 : Kept w.heap.size w (w.heap.size + 2) [(w.heap.size, 0, .int .i64 n), (w.heap.size, 1, .int .u64 g), (w.heap.size + 1, 0, .int .u64 now)] w4 := (KH_w3.out.step (by omega) (by go_grown)).only hO_w4 (by omega) (by omega) (by simp <;> omega)
  replace HB := Lib.hid (show BookAt w4 P (bkH n g) from hB_w4)
  clear hO_w4 hB_w4
  have KH_w4 := Lib.hid K_w4
  have hw_w4 := K_w4.below
  have hz_w4 := K_w4.size
  have lC_w4 : w.heap.size < w4.heap.size := by omega
  have cC0_w4 := K_w4.at (b := w.heap.size) (o := 0) (v := .int .i64 n) (by simp)
  have fC0_w4 := K_w4.free (b := w.heap.size) (o := 0) (v := .int .i64 n) (by simp)
  have cC1_w4 := K_w4.at (b := w.heap.size) (o := 1) (v := .int .u64 g) (by simp)
  have fC1_w4 := K_w4.free (b := w.heap.size) (o := 1) (v := .int .u64 g) (by simp)
  have lT_w4 : w.heap.size + 1 < w4.heap.size := by omega
  have cT0_w4 := K_w4.at (b := w.heap.size + 1) (o := 0) (v := .int .u64 now) (by simp)
  have fT0_w4 := K_w4.free (b := w.heap.size + 1) (o := 0) (v := .int .u64 now) (by simp)
  clear lC_w3 cC0_w3 fC0_w3 cC1_w3 fC1_w3 lT_w3 cT0_w3 fT0_w3
  clear K_w4
  go_wp2_with fail
  with_reducible refine (lost15c P (bkH n g) now (-1) _ HB.out OKH.out LH.out).mono ?_
  rintro e w5 ⟨rfl, hb_w5⟩
  have K_w5 : Kept w.heap.size w (w.heap.size + 2) [(w.heap.size, 0, .int .i64 n), (w.heap.size, 1, .int .u64 g), (w.heap.size + 1, 0, .int .u64 now)] w5 := (KH_w4.out.step (by omega) (by go_grown)).step (by omega) hb_w5
  replace HB := Lib.hid (HB.out.below hb_w5)
  clear hb_w5
  have KH_w5 := Lib.hid K_w5
  have hw_w5 := K_w5.below
  have hz_w5 := K_w5.size
  have lC_w5 : w.heap.size < w5.heap.size := by omega
  have cC0_w5 := K_w5.at (b := w.heap.size) (o := 0) (v := .int .i64 n) (by simp)
  have fC0_w5 := K_w5.free (b := w.heap.size) (o := 0) (v := .int .i64 n) (by simp)
  have cC1_w5 := K_w5.at (b := w.heap.size) (o := 1) (v := .int .u64 g) (by simp)
  have fC1_w5 := K_w5.free (b := w.heap.size) (o := 1) (v := .int .u64 g) (by simp)
  have lT_w5 : w.heap.size + 1 < w5.heap.size := by omega
  have cT0_w5 := K_w5.at (b := w.heap.size + 1) (o := 0) (v := .int .u64 now) (by simp)
  have fT0_w5 := K_w5.free (b := w.heap.size + 1) (o := 0) (v := .int .u64 now) (by simp)
  clear lC_w4 cC0_w4 fC0_w4 cC1_w4 fC1_w4 lT_w4 cT0_w4 fT0_w4
  clear K_w5
  go_wp2_with fail
  with_reducible refine (leave16_0 P (bkH n g) z _ HB.out OKH.out.n1).mono ?_
  rintro e w6 ⟨rfl, hB_w6, hO_w6⟩
  have K_w6 : Kept w.heap.size w (w.heap.size + 2) [(w.heap.size, 0, .int .i64 n), (w.heap.size, 1, .int .u64 g), (w.heap.size + 1, 0, .int .u64 now)] w6 := (KH_w5.out.step (by omega) (by go_grown)).only hO_w6 (by omega) (by omega) (by simp <;> omega)
  replace HB := Lib.hid (hB_w6)
  clear hO_w6 hB_w6
  have KH_w6 := Lib.hid K_w6
  have hw_w6 := K_w6.below
  have hz_w6 := K_w6.size
  have lC_w6 : w.heap.size < w6.heap.size := by omega
  have cC0_w6 := K_w6.at (b := w.heap.size) (o := 0) (v := .int .i64 n) (by simp)
  have fC0_w6 := K_w6.free (b := w.heap.size) (o := 0) (v := .int .i64 n) (by simp)
  have cC1_w6 := K_w6.at (b := w.heap.size) (o := 1) (v := .int .u64 g) (by simp)
  have fC1_w6 := K_w6.free (b := w.heap.size) (o := 1) (v := .int .u64 g) (by simp)
  have lT_w6 : w.heap.size + 1 < w6.heap.size := by omega
  have cT0_w6 := K_w6.at (b := w.heap.size + 1) (o := 0) (v := .int .u64 now) (by simp)
  have fT0_w6 := K_w6.free (b := w.heap.size + 1) (o := 0) (v := .int .u64 now) (by simp)
  clear lC_w5 cC0_w5 fC0_w5 cC1_w5 fC1_w5 lT_w5 cT0_w5 fT0_w5
  clear K_w6
  go_wp2_with fail
  with_reducible refine (leave16_1 P ((bkH n g).leave0 z) o _ HB.out N1.out).mono ?_
  rintro e w7 ⟨rfl, hB_w7, hO_w7⟩
  have K_w7 : Kept w.heap.size w (w.heap.size + 2) [(w.heap.size, 0, .int .i64 n), (w.heap.size, 1, .int .u64 g), (w.heap.size + 1, 0, .int .u64 now)] w7 := (KH_w6.out.step (by omega) (by go_grown)).only hO_w7 (by omega) (by omega) (by simp <;> omega)
  replace HB := Lib.hid (show BookAt w7 P (bkL n g z o) from hB_w7)
  clear hO_w7 hB_w7
  have KH_w7 := Lib.hid K_w7
  have hw_w7 := K_w7.below
  have hz_w7 := K_w7.size
  have lC_w7 : w.heap.size < w7.heap.size := by omega
  have cC0_w7 := K_w7.at (b := w.heap.size) (o := 0) (v := .int .i64 n) (by simp)
  have fC0_w7 := K_w7.free (b := w.heap.size) (o := 0) (v := .int .i64 n) (by simp)
  have cC1_w7 := K_w7.at (b := w.heap.size) (o := 1) (v := .int .u64 g) (by simp)
  have fC1_w7 := K_w7.free (b := w.heap.size) (o := 1) (v := .int .u64 g) (by simp)
  have lT_w7 : w.heap.size + 1 < w7.heap.size := by omega
  have cT0_w7 := K_w7.at (b := w.heap.size + 1) (o := 0) (v := .int .u64 now) (by simp)
  have fT0_w7 := K_w7.free (b := w.heap.size + 1) (o := 0) (v := .int .u64 now) (by simp)
  clear lC_w6 cC0_w6 fC0_w6 cC1_w6 fC1_w6 lT_w6 cT0_w6 fT0_w6
  clear K_w7
  go_wp2_with fail
  with_reducible refine (over17 z g now _ w.heap.size (w.heap.size + 1) _ hz hg hg2 hn cC1_w7 cT0_w7 Hz.out).mono ?_
  rintro e w' ⟨rfl, rfl⟩
  go_wp2_with fail
  with_reducible refine (over17 o g now _ w.heap.size (w.heap.size + 1) _ ho hg hg2 hn cC1_w7 cT0_w7 Ho.out).mono ?_
  rintro e w' ⟨rfl, rfl⟩
  go_wp2_with fail
  with_reducible refine (over17 z g now _ w.heap.size (w.heap.size + 1) _ hz hg hg2 hn cC1_w7 cT0_w7 Hz.out).mono ?_
  rintro e w' ⟨rfl, rfl⟩
  go_wp2_with fail
  with_reducible refine (over17 o g now _ w.heap.size (w.heap.size + 1) _ ho hg hg2 hn cC1_w7 cT0_w7 Ho.out).mono ?_
  rintro e w' ⟨rfl, rfl⟩
  go_wp2_with fail
  with_reducible refine (lost15c P (bkL n g z o) now (0) _ HB.out OKL.out LL.out).mono ?_
  rintro e w8 ⟨rfl, hb_w8⟩
  have K_w8 : Kept w.heap.size w (w.heap.size + 2) [(w.heap.size, 0, .int .i64 n), (w.heap.size, 1, .int .u64 g), (w.heap.size + 1, 0, .int .u64 now)] w8 := (KH_w7.out.step (by omega) (by go_grown)).step (by omega) hb_w8
  replace HB := Lib.hid (HB.out.below hb_w8)
  clear hb_w8
  have KH_w8 := Lib.hid K_w8
  have hw_w8 := K_w8.below
  have hz_w8 := K_w8.size
  have lC_w8 : w.heap.size < w8.heap.size := by omega
  have cC0_w8 := K_w8.at (b := w.heap.size) (o := 0) (v := .int .i64 n) (by simp)
  have fC0_w8 := K_w8.free (b := w.heap.size) (o := 0) (v := .int .i64 n) (by simp)
  have cC1_w8 := K_w8.at (b := w.heap.size) (o := 1) (v := .int .u64 g) (by simp)
  have fC1_w8 := K_w8.free (b := w.heap.size) (o := 1) (v := .int .u64 g) (by simp)
  have lT_w8 : w.heap.size + 1 < w8.heap.size := by omega
  have cT0_w8 := K_w8.at (b := w.heap.size + 1) (o := 0) (v := .int .u64 now) (by simp)
  have fT0_w8 := K_w8.free (b := w.heap.size + 1) (o := 0) (v := .int .u64 now) (by simp)
  clear lC_w7 cC0_w7 fC0_w7 cC1_w7 fC1_w7 lT_w7 cT0_w7 fT0_w7
  clear K_w8
  go_wp2_with fail
  with_reducible refine (over17 z g now _ w.heap.size (w.heap.size + 1) _ hz hg hg2 hn cC1_w8 cT0_w8 Hz.out).mono ?_
  rintro e w' ⟨rfl, rfl⟩
  go_wp2_with fail
  with_reducible refine (join14_0_late P (bkL n g z o) now _ HB.out OKL.out JL.out).mono ?_
  rintro e w9 ⟨rfl, hB_w9, hO_w9⟩
  have K_w9 : Kept w.heap.size w (w.heap.size + 2) [(w.heap.size, 0, .int .i64 n), (w.heap.size, 1, .int .u64 g), (w.heap.size + 1, 0, .int .u64 now)] w9 := (KH_w8.out.step (by omega) (by go_grown)).only hO_w9 (by omega) (by omega) (by simp <;> omega)
  replace HB := Lib.hid (hB_w9)
  clear hO_w9 hB_w9
  have KH_w9 := Lib.hid K_w9
  have hw_w9 := K_w9.below
  have hz_w9 := K_w9.size
  have lC_w9 : w.heap.size < w9.heap.size := by omega
  have cC0_w9 := K_w9.at (b := w.heap.size) (o := 0) (v := .int .i64 n) (by simp)
  have fC0_w9 := K_w9.free (b := w.heap.size) (o := 0) (v := .int .i64 n) (by simp)
  have cC1_w9 := K_w9.at (b := w.heap.size) (o := 1) (v := .int .u64 g) (by simp)
  have fC1_w9 := K_w9.free (b := w.heap.size) (o := 1) (v := .int .u64 g) (by simp)
  have lT_w9 : w.heap.size + 1 < w9.heap.size := by omega
  have cT0_w9 := K_w9.at (b := w.heap.size + 1) (o := 0) (v := .int .u64 now) (by simp)
  have fT0_w9 := K_w9.free (b := w.heap.size + 1) (o := 0) (v := .int .u64 now) (by simp)
  clear lC_w8 cC0_w8 fC0_w8 cC1_w8 fC1_w8 lT_w8 cT0_w8 fT0_w8
  clear K_w9
  go_wp2_with fail
  with_reducible refine (known11 _).mono ?_
  rintro e w10 ⟨rfl, hb_w10⟩
  have K_w10 : Kept w.heap.size w (w.heap.size + 2) [(w.heap.size, 0, .int .i64 n), (w.heap.size, 1, .int .u64 g), (w.heap.size + 1, 0, .int .u64 now)] w10 := (KH_w9.out.step (by omega) (by go_grown)).step (by omega) hb_w10
  clear hb_w10
  have KH_w10 := Lib.hid K_w10
  have hw_w10 := K_w10.below
  have hz_w10 := K_w10.size
  have lC_w10 : w.heap.size < w10.heap.size := by omega
  have cC0_w10 := K_w10.at (b := w.heap.size) (o := 0) (v := .int .i64 n) (by simp)
  have fC0_w10 := K_w10.free (b := w.heap.size) (o := 0) (v := .int .i64 n) (by simp)
  have cC1_w10 := K_w10.at (b := w.heap.size) (o := 1) (v := .int .u64 g) (by simp)
  have fC1_w10 := K_w10.free (b := w.heap.size) (o := 1) (v := .int .u64 g) (by simp)
  have lT_w10 : w.heap.size + 1 < w10.heap.size := by omega
  have cT0_w10 := K_w10.at (b := w.heap.size + 1) (o := 0) (v := .int .u64 now) (by simp)
  have fT0_w10 := K_w10.free (b := w.heap.size + 1) (o := 0) (v := .int .u64 now) (by simp)
  clear lC_w9 cC0_w9 fC0_w9 cC1_w9 fC1_w9 lT_w9 cT0_w9 fT0_w9
  clear K_w10
  go_wp2_with fail
  go_returns
  exact ⟨rfl, by go_grown⟩

set_option maxRecDepth 100000 in
set_option maxHeartbeats 8000000 in
theorem graces4_FT (n g z o now : Int) (w : World) (h1 : 1 ≤ n) (hg : 0 ≤ g) (hg2 : g ≤ 4294967296) (q0 : (g == 0) = false) (q3 : 1 ≤ g) (hz : U z) (ho : U o) (hn : U now) (HV : Hid (vC n g = true)) (OK : Hid (bk0 n g 0).Ok) (OK1 : Hid (bk0 n g 0).join0.Ok) (OKH : Hid (bkH n g).Ok) (OKL : Hid (bkL n g z o).Ok) (OKJ : Hid (bkL n g z o).join0.Ok) (N1 : Hid (1 ≤ ((bkH n g).leave0 z).n)) (DJ : Hid ((bkL n g z o).join0.d0 = 18446744073709551615))
    (J0 : Hid (over (bk0 n g 0).d0 0 = false)) (J1 : Hid (over (bk0 n g 0).join0.d1 (g - 1) = false)) (LH : Hid (lost (bkH n g).d0 (bkH n g).d1 now = -1)) (LL : Hid (lost (bkL n g z o).d0 (bkL n g z o).d1 now = 1)) (Hz : Hid (over (addN z g) now = false)) (Ho : Hid (over (addN o g) now = true)) (JL : Hid (over (bkL n g z o).d0 now = false)) :
    Calls Try.prog 4 #[.agg #[.int .i64 n, .int .u64 g], .int .u64 z, .int .u64 o, .int .u64 now] w fun e w' => e = .returned (.bool true) ∧ Below w.heap.size w w' := by
  go_enter Try.func4, Try.ntmps4
  go_wp2_with fail
  with_reducible refine (valid9c n g _ _ HV.out).mono ?_
  rintro e w1 ⟨rfl, hb_w1⟩
  have K_w1 : Kept w.heap.size w (w.heap.size + 2) [(w.heap.size, 0, .int .i64 n), (w.heap.size, 1, .int .u64 g), (w.heap.size + 1, 0, .int .u64 now)] w1 := Kept.of hb_w1 (by go_grown) (by go_size) (by omega) (by simp [go_sem] <;> omega)
  clear hb_w1
  have KH_w1 := Lib.hid K_w1
  have hw_w1 := K_w1.below
  have hz_w1 := K_w1.size
  have lC_w1 : w.heap.size < w1.heap.size := by omega
  have cC0_w1 := K_w1.at (b := w.heap.size) (o := 0) (v := .int .i64 n) (by simp)
  have fC0_w1 := K_w1.free (b := w.heap.size) (o := 0) (v := .int .i64 n) (by simp)
  have cC1_w1 := K_w1.at (b := w.heap.size) (o := 1) (v := .int .u64 g) (by simp)
  have fC1_w1 := K_w1.free (b := w.heap.size) (o := 1) (v := .int .u64 g) (by simp)
  have lT_w1 : w.heap.size + 1 < w1.heap.size := by omega
  have cT0_w1 := K_w1.at (b := w.heap.size + 1) (o := 0) (v := .int .u64 now) (by simp)
  have fT0_w1 := K_w1.free (b := w.heap.size + 1) (o := 0) (v := .int .u64 now) (by simp)
  clear K_w1
  go_wp2_with fail
  with_reducible refine (new8 n g 0 _ HV.out).mono ?_
  rintro e w2 ⟨P, hP, rfl, hB, hb_w2⟩
  have K_w2 : Kept w.heap.size w (w.heap.size + 2) [(w.heap.size, 0, .int .i64 n), (w.heap.size, 1, .int .u64 g), (w.heap.size + 1, 0, .int .u64 now)] w2 := (KH_w1.out.step (by omega) (by go_grown)).step (by omega) hb_w2
  clear hb_w2
  have KH_w2 := Lib.hid K_w2
  have hw_w2 := K_w2.below
  have hz_w2 := K_w2.size
  have lC_w2 : w.heap.size < w2.heap.size := by omega
  have cC0_w2 := K_w2.at (b := w.heap.size) (o := 0) (v := .int .i64 n) (by simp)
  have fC0_w2 := K_w2.free (b := w.heap.size) (o := 0) (v := .int .i64 n) (by simp)
  have cC1_w2 := K_w2.at (b := w.heap.size) (o := 1) (v := .int .u64 g) (by simp)
  have fC1_w2 := K_w2.free (b := w.heap.size) (o := 1) (v := .int .u64 g) (by simp)
  have lT_w2 : w.heap.size + 1 < w2.heap.size := by omega
  have cT0_w2 := K_w2.at (b := w.heap.size + 1) (o := 0) (v := .int .u64 now) (by simp)
  have fT0_w2 := K_w2.free (b := w.heap.size + 1) (o := 0) (v := .int .u64 now) (by simp)
  clear lC_w1 cC0_w1 fC0_w1 cC1_w1 fC1_w1 lT_w1 cT0_w1 fT0_w1
  clear K_w2
  have HB := Lib.hid hB
  clear hB
  go_wp2_with fail
  with_reducible refine (join14_0 P (bk0 n g 0) 0 _ HB.out OK.out J0.out).mono ?_
  rintro e w3 ⟨rfl, hB_w3, hO_w3⟩
  have K_w3 : Kept w.heap.size w (w.heap.size + 2) [(w.heap.size, 0, .int .i64 n), (w.heap.size, 1, .int .u64 g), (w.heap.size + 1, 0, .int .u64 now)] w3 := (KH_w2.out.step (by omega) (by go_grown)).only hO_w3 (by omega) (by omega) (by simp <;> omega)
  replace HB := Lib.hid (hB_w3)
  clear hO_w3 hB_w3
  have KH_w3 := Lib.hid K_w3
  have hw_w3 := K_w3.below
  have hz_w3 := K_w3.size
  have lC_w3 : w.heap.size < w3.heap.size := by omega
  have cC0_w3 := K_w3.at (b := w.heap.size) (o := 0) (v := .int .i64 n) (by simp)
  have fC0_w3 := K_w3.free (b := w.heap.size) (o := 0) (v := .int .i64 n) (by simp)
  have cC1_w3 := K_w3.at (b := w.heap.size) (o := 1) (v := .int .u64 g) (by simp)
  have fC1_w3 := K_w3.free (b := w.heap.size) (o := 1) (v := .int .u64 g) (by simp)
  have lT_w3 : w.heap.size + 1 < w3.heap.size := by omega
  have cT0_w3 := K_w3.at (b := w.heap.size + 1) (o := 0) (v := .int .u64 now) (by simp)
  have fT0_w3 := K_w3.free (b := w.heap.size + 1) (o := 0) (v := .int .u64 now) (by simp)
  clear lC_w2 cC0_w2 fC0_w2 cC1_w2 fC1_w2 lT_w2 cT0_w2 fT0_w2
  clear K_w3
  go_wp2_with fail
  with_reducible refine (join14_1 P (bk0 n g 0).join0 (g - 1) _ HB.out OK1.out J1.out).mono ?_
  rintro e w4 ⟨rfl, hB_w4, hO_w4⟩
  have K_w4 : Kept w.heap.size w (w.heap.size + 2) [(w.heap.size, 0, .int .i64 n), (w.heap.size, 1, .int .u64 g), (w.heap.size + 1, 0, .int .u64 now)] w4 := (KH_w3.out.step (by omega) (by go_grown)).only hO_w4 (by omega) (by omega) (by simp <;> omega)
  replace HB := Lib.hid (show BookAt w4 P (bkH n g) from hB_w4)
  clear hO_w4 hB_w4
  have KH_w4 := Lib.hid K_w4
  have hw_w4 := K_w4.below
  have hz_w4 := K_w4.size
  have lC_w4 : w.heap.size < w4.heap.size := by omega
  have cC0_w4 := K_w4.at (b := w.heap.size) (o := 0) (v := .int .i64 n) (by simp)
  have fC0_w4 := K_w4.free (b := w.heap.size) (o := 0) (v := .int .i64 n) (by simp)
  have cC1_w4 := K_w4.at (b := w.heap.size) (o := 1) (v := .int .u64 g) (by simp)
  have fC1_w4 := K_w4.free (b := w.heap.size) (o := 1) (v := .int .u64 g) (by simp)
  have lT_w4 : w.heap.size + 1 < w4.heap.size := by omega
  have cT0_w4 := K_w4.at (b := w.heap.size + 1) (o := 0) (v := .int .u64 now) (by simp)
  have fT0_w4 := K_w4.free (b := w.heap.size + 1) (o := 0) (v := .int .u64 now) (by simp)
  clear lC_w3 cC0_w3 fC0_w3 cC1_w3 fC1_w3 lT_w3 cT0_w3 fT0_w3
  clear K_w4
  go_wp2_with fail
  with_reducible refine (lost15c P (bkH n g) now (-1) _ HB.out OKH.out LH.out).mono ?_
  rintro e w5 ⟨rfl, hb_w5⟩
  have K_w5 : Kept w.heap.size w (w.heap.size + 2) [(w.heap.size, 0, .int .i64 n), (w.heap.size, 1, .int .u64 g), (w.heap.size + 1, 0, .int .u64 now)] w5 := (KH_w4.out.step (by omega) (by go_grown)).step (by omega) hb_w5
  replace HB := Lib.hid (HB.out.below hb_w5)
  clear hb_w5
  have KH_w5 := Lib.hid K_w5
  have hw_w5 := K_w5.below
  have hz_w5 := K_w5.size
  have lC_w5 : w.heap.size < w5.heap.size := by omega
  have cC0_w5 := K_w5.at (b := w.heap.size) (o := 0) (v := .int .i64 n) (by simp)
  have fC0_w5 := K_w5.free (b := w.heap.size) (o := 0) (v := .int .i64 n) (by simp)
  have cC1_w5 := K_w5.at (b := w.heap.size) (o := 1) (v := .int .u64 g) (by simp)
  have fC1_w5 := K_w5.free (b := w.heap.size) (o := 1) (v := .int .u64 g) (by simp)
  have lT_w5 : w.heap.size + 1 < w5.heap.size := by omega
  have cT0_w5 := K_w5.at (b := w.heap.size + 1) (o := 0) (v := .int .u64 now) (by simp)
  have fT0_w5 := K_w5.free (b := w.heap.size + 1) (o := 0) (v := .int .u64 now) (by simp)
  clear lC_w4 cC0_w4 fC0_w4 cC1_w4 fC1_w4 lT_w4 cT0_w4 fT0_w4
  clear K_w5
  go_wp2_with fail
  with_reducible refine (leave16_0 P (bkH n g) z _ HB.out OKH.out.n1).mono ?_
  rintro e w6 ⟨rfl, hB_w6, hO_w6⟩
  have K_w6 : Kept w.heap.size w (w.heap.size + 2) [(w.heap.size, 0, .int .i64 n), (w.heap.size, 1, .int .u64 g), (w.heap.size + 1, 0, .int .u64 now)] w6 := (KH_w5.out.step (by omega) (by go_grown)).only hO_w6 (by omega) (by omega) (by simp <;> omega)
  replace HB := Lib.hid (hB_w6)
  clear hO_w6 hB_w6
  have KH_w6 := Lib.hid K_w6
  have hw_w6 := K_w6.below
  have hz_w6 := K_w6.size
  have lC_w6 : w.heap.size < w6.heap.size := by omega
  have cC0_w6 := K_w6.at (b := w.heap.size) (o := 0) (v := .int .i64 n) (by simp)
  have fC0_w6 := K_w6.free (b := w.heap.size) (o := 0) (v := .int .i64 n) (by simp)
  have cC1_w6 := K_w6.at (b := w.heap.size) (o := 1) (v := .int .u64 g) (by simp)
  have fC1_w6 := K_w6.free (b := w.heap.size) (o := 1) (v := .int .u64 g) (by simp)
  have lT_w6 : w.heap.size + 1 < w6.heap.size := by omega
  have cT0_w6 := K_w6.at (b := w.heap.size + 1) (o := 0) (v := .int .u64 now) (by simp)
  have fT0_w6 := K_w6.free (b := w.heap.size + 1) (o := 0) (v := .int .u64 now) (by simp)
  clear lC_w5 cC0_w5 fC0_w5 cC1_w5 fC1_w5 lT_w5 cT0_w5 fT0_w5
  clear K_w6
  go_wp2_with fail
  with_reducible refine (leave16_1 P ((bkH n g).leave0 z) o _ HB.out N1.out).mono ?_
  rintro e w7 ⟨rfl, hB_w7, hO_w7⟩
  have K_w7 : Kept w.heap.size w (w.heap.size + 2) [(w.heap.size, 0, .int .i64 n), (w.heap.size, 1, .int .u64 g), (w.heap.size + 1, 0, .int .u64 now)] w7 := (KH_w6.out.step (by omega) (by go_grown)).only hO_w7 (by omega) (by omega) (by simp <;> omega)
  replace HB := Lib.hid (show BookAt w7 P (bkL n g z o) from hB_w7)
  clear hO_w7 hB_w7
  have KH_w7 := Lib.hid K_w7
  have hw_w7 := K_w7.below
  have hz_w7 := K_w7.size
  have lC_w7 : w.heap.size < w7.heap.size := by omega
  have cC0_w7 := K_w7.at (b := w.heap.size) (o := 0) (v := .int .i64 n) (by simp)
  have fC0_w7 := K_w7.free (b := w.heap.size) (o := 0) (v := .int .i64 n) (by simp)
  have cC1_w7 := K_w7.at (b := w.heap.size) (o := 1) (v := .int .u64 g) (by simp)
  have fC1_w7 := K_w7.free (b := w.heap.size) (o := 1) (v := .int .u64 g) (by simp)
  have lT_w7 : w.heap.size + 1 < w7.heap.size := by omega
  have cT0_w7 := K_w7.at (b := w.heap.size + 1) (o := 0) (v := .int .u64 now) (by simp)
  have fT0_w7 := K_w7.free (b := w.heap.size + 1) (o := 0) (v := .int .u64 now) (by simp)
  clear lC_w6 cC0_w6 fC0_w6 cC1_w6 fC1_w6 lT_w6 cT0_w6 fT0_w6
  clear K_w7
  go_wp2_with fail
  with_reducible refine (over17 z g now _ w.heap.size (w.heap.size + 1) _ hz hg hg2 hn cC1_w7 cT0_w7 Hz.out).mono ?_
  rintro e w' ⟨rfl, rfl⟩
  go_wp2_with fail
  with_reducible refine (over17 z g now _ w.heap.size (w.heap.size + 1) _ hz hg hg2 hn cC1_w7 cT0_w7 Hz.out).mono ?_
  rintro e w' ⟨rfl, rfl⟩
  go_wp2_with fail
  with_reducible refine (over17 o g now _ w.heap.size (w.heap.size + 1) _ ho hg hg2 hn cC1_w7 cT0_w7 Ho.out).mono ?_
  rintro e w' ⟨rfl, rfl⟩
  go_wp2_with fail
  with_reducible refine (lost15c P (bkL n g z o) now (1) _ HB.out OKL.out LL.out).mono ?_
  rintro e w8 ⟨rfl, hb_w8⟩
  have K_w8 : Kept w.heap.size w (w.heap.size + 2) [(w.heap.size, 0, .int .i64 n), (w.heap.size, 1, .int .u64 g), (w.heap.size + 1, 0, .int .u64 now)] w8 := (KH_w7.out.step (by omega) (by go_grown)).step (by omega) hb_w8
  replace HB := Lib.hid (HB.out.below hb_w8)
  clear hb_w8
  have KH_w8 := Lib.hid K_w8
  have hw_w8 := K_w8.below
  have hz_w8 := K_w8.size
  have lC_w8 : w.heap.size < w8.heap.size := by omega
  have cC0_w8 := K_w8.at (b := w.heap.size) (o := 0) (v := .int .i64 n) (by simp)
  have fC0_w8 := K_w8.free (b := w.heap.size) (o := 0) (v := .int .i64 n) (by simp)
  have cC1_w8 := K_w8.at (b := w.heap.size) (o := 1) (v := .int .u64 g) (by simp)
  have fC1_w8 := K_w8.free (b := w.heap.size) (o := 1) (v := .int .u64 g) (by simp)
  have lT_w8 : w.heap.size + 1 < w8.heap.size := by omega
  have cT0_w8 := K_w8.at (b := w.heap.size + 1) (o := 0) (v := .int .u64 now) (by simp)
  have fT0_w8 := K_w8.free (b := w.heap.size + 1) (o := 0) (v := .int .u64 now) (by simp)
  clear lC_w7 cC0_w7 fC0_w7 cC1_w7 fC1_w7 lT_w7 cT0_w7 fT0_w7
  clear K_w8
  go_wp2_with fail
  with_reducible refine (over17 z g now _ w.heap.size (w.heap.size + 1) _ hz hg hg2 hn cC1_w8 cT0_w8 Hz.out).mono ?_
  rintro e w' ⟨rfl, rfl⟩
  go_wp2_with fail
  with_reducible refine (join14_0 P (bkL n g z o) now _ HB.out OKL.out JL.out).mono ?_
  rintro e w9 ⟨rfl, hB_w9, hO_w9⟩
  have K_w9 : Kept w.heap.size w (w.heap.size + 2) [(w.heap.size, 0, .int .i64 n), (w.heap.size, 1, .int .u64 g), (w.heap.size + 1, 0, .int .u64 now)] w9 := (KH_w8.out.step (by omega) (by go_grown)).only hO_w9 (by omega) (by omega) (by simp <;> omega)
  replace HB := Lib.hid (hB_w9)
  clear hO_w9 hB_w9
  have KH_w9 := Lib.hid K_w9
  have hw_w9 := K_w9.below
  have hz_w9 := K_w9.size
  have lC_w9 : w.heap.size < w9.heap.size := by omega
  have cC0_w9 := K_w9.at (b := w.heap.size) (o := 0) (v := .int .i64 n) (by simp)
  have fC0_w9 := K_w9.free (b := w.heap.size) (o := 0) (v := .int .i64 n) (by simp)
  have cC1_w9 := K_w9.at (b := w.heap.size) (o := 1) (v := .int .u64 g) (by simp)
  have fC1_w9 := K_w9.free (b := w.heap.size) (o := 1) (v := .int .u64 g) (by simp)
  have lT_w9 : w.heap.size + 1 < w9.heap.size := by omega
  have cT0_w9 := K_w9.at (b := w.heap.size + 1) (o := 0) (v := .int .u64 now) (by simp)
  have fT0_w9 := K_w9.free (b := w.heap.size + 1) (o := 0) (v := .int .u64 now) (by simp)
  clear lC_w8 cC0_w8 fC0_w8 cC1_w8 fC1_w8 lT_w8 cT0_w8 fT0_w8
  clear K_w9
  go_wp2_with fail
  with_reducible refine (here18_0 P (bkL n g z o).join0 _ HB.out OKJ.out.n1).mono ?_
  rintro e w10 ⟨rfl, hb_w10⟩
  have K_w10 : Kept w.heap.size w (w.heap.size + 2) [(w.heap.size, 0, .int .i64 n), (w.heap.size, 1, .int .u64 g), (w.heap.size + 1, 0, .int .u64 now)] w10 := (KH_w9.out.step (by omega) (by go_grown)).step (by omega) hb_w10
  replace HB := Lib.hid (HB.out.below hb_w10)
  clear hb_w10
  have KH_w10 := Lib.hid K_w10
  have hw_w10 := K_w10.below
  have hz_w10 := K_w10.size
  have lC_w10 : w.heap.size < w10.heap.size := by omega
  have cC0_w10 := K_w10.at (b := w.heap.size) (o := 0) (v := .int .i64 n) (by simp)
  have fC0_w10 := K_w10.free (b := w.heap.size) (o := 0) (v := .int .i64 n) (by simp)
  have cC1_w10 := K_w10.at (b := w.heap.size) (o := 1) (v := .int .u64 g) (by simp)
  have fC1_w10 := K_w10.free (b := w.heap.size) (o := 1) (v := .int .u64 g) (by simp)
  have lT_w10 : w.heap.size + 1 < w10.heap.size := by omega
  have cT0_w10 := K_w10.at (b := w.heap.size + 1) (o := 0) (v := .int .u64 now) (by simp)
  have fT0_w10 := K_w10.free (b := w.heap.size + 1) (o := 0) (v := .int .u64 now) (by simp)
  clear lC_w9 cC0_w9 fC0_w9 cC1_w9 fC1_w9 lT_w9 cT0_w9 fT0_w9
  clear K_w10
  go_wp2_with fail
  with_reducible refine (due19_0c P (bkL n g z o).join0 18446744073709551615 _ HB.out OKJ.out.n1 OKJ.out.t0 (ug OKJ.out) DJ.out).mono ?_
  rintro e w11 ⟨rfl, hb_w11⟩
  have K_w11 : Kept w.heap.size w (w.heap.size + 2) [(w.heap.size, 0, .int .i64 n), (w.heap.size, 1, .int .u64 g), (w.heap.size + 1, 0, .int .u64 now)] w11 := (KH_w10.out.step (by omega) (by go_grown)).step (by omega) hb_w11
  replace HB := Lib.hid (HB.out.below hb_w11)
  clear hb_w11
  have KH_w11 := Lib.hid K_w11
  have hw_w11 := K_w11.below
  have hz_w11 := K_w11.size
  have lC_w11 : w.heap.size < w11.heap.size := by omega
  have cC0_w11 := K_w11.at (b := w.heap.size) (o := 0) (v := .int .i64 n) (by simp)
  have fC0_w11 := K_w11.free (b := w.heap.size) (o := 0) (v := .int .i64 n) (by simp)
  have cC1_w11 := K_w11.at (b := w.heap.size) (o := 1) (v := .int .u64 g) (by simp)
  have fC1_w11 := K_w11.free (b := w.heap.size) (o := 1) (v := .int .u64 g) (by simp)
  have lT_w11 : w.heap.size + 1 < w11.heap.size := by omega
  have cT0_w11 := K_w11.at (b := w.heap.size + 1) (o := 0) (v := .int .u64 now) (by simp)
  have fT0_w11 := K_w11.free (b := w.heap.size + 1) (o := 0) (v := .int .u64 now) (by simp)
  clear lC_w10 cC0_w10 fC0_w10 cC1_w10 fC1_w10 lT_w10 cT0_w10 fT0_w10
  clear K_w11
  go_wp2_with fail
  with_reducible refine (known11 _).mono ?_
  rintro e w12 ⟨rfl, hb_w12⟩
  have K_w12 : Kept w.heap.size w (w.heap.size + 2) [(w.heap.size, 0, .int .i64 n), (w.heap.size, 1, .int .u64 g), (w.heap.size + 1, 0, .int .u64 now)] w12 := (KH_w11.out.step (by omega) (by go_grown)).step (by omega) hb_w12
  clear hb_w12
  have KH_w12 := Lib.hid K_w12
  have hw_w12 := K_w12.below
  have hz_w12 := K_w12.size
  have lC_w12 : w.heap.size < w12.heap.size := by omega
  have cC0_w12 := K_w12.at (b := w.heap.size) (o := 0) (v := .int .i64 n) (by simp)
  have fC0_w12 := K_w12.free (b := w.heap.size) (o := 0) (v := .int .i64 n) (by simp)
  have cC1_w12 := K_w12.at (b := w.heap.size) (o := 1) (v := .int .u64 g) (by simp)
  have fC1_w12 := K_w12.free (b := w.heap.size) (o := 1) (v := .int .u64 g) (by simp)
  have lT_w12 : w.heap.size + 1 < w12.heap.size := by omega
  have cT0_w12 := K_w12.at (b := w.heap.size + 1) (o := 0) (v := .int .u64 now) (by simp)
  have fT0_w12 := K_w12.free (b := w.heap.size + 1) (o := 0) (v := .int .u64 now) (by simp)
  clear lC_w11 cC0_w11 fC0_w11 cC1_w11 fC1_w11 lT_w11 cT0_w11 fT0_w11
  clear K_w12
  go_wp2_with fail
  go_returns
  exact ⟨rfl, by go_grown⟩

set_option maxRecDepth 100000 in
set_option maxHeartbeats 8000000 in
theorem graces4_FF (n g z o now : Int) (w : World) (h1 : 1 ≤ n) (hg : 0 ≤ g) (hg2 : g ≤ 4294967296) (q0 : (g == 0) = false) (q3 : 1 ≤ g) (hz : U z) (ho : U o) (hn : U now) (HV : Hid (vC n g = true)) (OK : Hid (bk0 n g 0).Ok) (OK1 : Hid (bk0 n g 0).join0.Ok) (OKH : Hid (bkH n g).Ok) (OKL : Hid (bkL n g z o).Ok) (OKJ : Hid (bkL n g z o).join0.Ok) (N1 : Hid (1 ≤ ((bkH n g).leave0 z).n)) (DJ : Hid ((bkL n g z o).join0.d0 = 18446744073709551615))
    (J0 : Hid (over (bk0 n g 0).d0 0 = false)) (J1 : Hid (over (bk0 n g 0).join0.d1 (g - 1) = false)) (LH : Hid (lost (bkH n g).d0 (bkH n g).d1 now = -1)) (LL : Hid (lost (bkL n g z o).d0 (bkL n g z o).d1 now = -1)) (Hz : Hid (over (addN z g) now = false)) (Ho : Hid (over (addN o g) now = false)) (JL : Hid (over (bkL n g z o).d0 now = false)) :
    Calls Try.prog 4 #[.agg #[.int .i64 n, .int .u64 g], .int .u64 z, .int .u64 o, .int .u64 now] w fun e w' => e = .returned (.bool true) ∧ Below w.heap.size w w' := by
  go_enter Try.func4, Try.ntmps4
  go_wp2_with fail
  with_reducible refine (valid9c n g _ _ HV.out).mono ?_
  rintro e w1 ⟨rfl, hb_w1⟩
  have K_w1 : Kept w.heap.size w (w.heap.size + 2) [(w.heap.size, 0, .int .i64 n), (w.heap.size, 1, .int .u64 g), (w.heap.size + 1, 0, .int .u64 now)] w1 := Kept.of hb_w1 (by go_grown) (by go_size) (by omega) (by simp [go_sem] <;> omega)
  clear hb_w1
  have KH_w1 := Lib.hid K_w1
  have hw_w1 := K_w1.below
  have hz_w1 := K_w1.size
  have lC_w1 : w.heap.size < w1.heap.size := by omega
  have cC0_w1 := K_w1.at (b := w.heap.size) (o := 0) (v := .int .i64 n) (by simp)
  have fC0_w1 := K_w1.free (b := w.heap.size) (o := 0) (v := .int .i64 n) (by simp)
  have cC1_w1 := K_w1.at (b := w.heap.size) (o := 1) (v := .int .u64 g) (by simp)
  have fC1_w1 := K_w1.free (b := w.heap.size) (o := 1) (v := .int .u64 g) (by simp)
  have lT_w1 : w.heap.size + 1 < w1.heap.size := by omega
  have cT0_w1 := K_w1.at (b := w.heap.size + 1) (o := 0) (v := .int .u64 now) (by simp)
  have fT0_w1 := K_w1.free (b := w.heap.size + 1) (o := 0) (v := .int .u64 now) (by simp)
  clear K_w1
  go_wp2_with fail
  with_reducible refine (new8 n g 0 _ HV.out).mono ?_
  rintro e w2 ⟨P, hP, rfl, hB, hb_w2⟩
  have K_w2 : Kept w.heap.size w (w.heap.size + 2) [(w.heap.size, 0, .int .i64 n), (w.heap.size, 1, .int .u64 g), (w.heap.size + 1, 0, .int .u64 now)] w2 := (KH_w1.out.step (by omega) (by go_grown)).step (by omega) hb_w2
  clear hb_w2
  have KH_w2 := Lib.hid K_w2
  have hw_w2 := K_w2.below
  have hz_w2 := K_w2.size
  have lC_w2 : w.heap.size < w2.heap.size := by omega
  have cC0_w2 := K_w2.at (b := w.heap.size) (o := 0) (v := .int .i64 n) (by simp)
  have fC0_w2 := K_w2.free (b := w.heap.size) (o := 0) (v := .int .i64 n) (by simp)
  have cC1_w2 := K_w2.at (b := w.heap.size) (o := 1) (v := .int .u64 g) (by simp)
  have fC1_w2 := K_w2.free (b := w.heap.size) (o := 1) (v := .int .u64 g) (by simp)
  have lT_w2 : w.heap.size + 1 < w2.heap.size := by omega
  have cT0_w2 := K_w2.at (b := w.heap.size + 1) (o := 0) (v := .int .u64 now) (by simp)
  have fT0_w2 := K_w2.free (b := w.heap.size + 1) (o := 0) (v := .int .u64 now) (by simp)
  clear lC_w1 cC0_w1 fC0_w1 cC1_w1 fC1_w1 lT_w1 cT0_w1 fT0_w1
  clear K_w2
  have HB := Lib.hid hB
  clear hB
  go_wp2_with fail
  with_reducible refine (join14_0 P (bk0 n g 0) 0 _ HB.out OK.out J0.out).mono ?_
  rintro e w3 ⟨rfl, hB_w3, hO_w3⟩
  have K_w3 : Kept w.heap.size w (w.heap.size + 2) [(w.heap.size, 0, .int .i64 n), (w.heap.size, 1, .int .u64 g), (w.heap.size + 1, 0, .int .u64 now)] w3 := (KH_w2.out.step (by omega) (by go_grown)).only hO_w3 (by omega) (by omega) (by simp <;> omega)
  replace HB := Lib.hid (hB_w3)
  clear hO_w3 hB_w3
  have KH_w3 := Lib.hid K_w3
  have hw_w3 := K_w3.below
  have hz_w3 := K_w3.size
  have lC_w3 : w.heap.size < w3.heap.size := by omega
  have cC0_w3 := K_w3.at (b := w.heap.size) (o := 0) (v := .int .i64 n) (by simp)
  have fC0_w3 := K_w3.free (b := w.heap.size) (o := 0) (v := .int .i64 n) (by simp)
  have cC1_w3 := K_w3.at (b := w.heap.size) (o := 1) (v := .int .u64 g) (by simp)
  have fC1_w3 := K_w3.free (b := w.heap.size) (o := 1) (v := .int .u64 g) (by simp)
  have lT_w3 : w.heap.size + 1 < w3.heap.size := by omega
  have cT0_w3 := K_w3.at (b := w.heap.size + 1) (o := 0) (v := .int .u64 now) (by simp)
  have fT0_w3 := K_w3.free (b := w.heap.size + 1) (o := 0) (v := .int .u64 now) (by simp)
  clear lC_w2 cC0_w2 fC0_w2 cC1_w2 fC1_w2 lT_w2 cT0_w2 fT0_w2
  clear K_w3
  go_wp2_with fail
  with_reducible refine (join14_1 P (bk0 n g 0).join0 (g - 1) _ HB.out OK1.out J1.out).mono ?_
  rintro e w4 ⟨rfl, hB_w4, hO_w4⟩
  have K_w4 : Kept w.heap.size w (w.heap.size + 2) [(w.heap.size, 0, .int .i64 n), (w.heap.size, 1, .int .u64 g), (w.heap.size + 1, 0, .int .u64 now)] w4 := (KH_w3.out.step (by omega) (by go_grown)).only hO_w4 (by omega) (by omega) (by simp <;> omega)
  replace HB := Lib.hid (show BookAt w4 P (bkH n g) from hB_w4)
  clear hO_w4 hB_w4
  have KH_w4 := Lib.hid K_w4
  have hw_w4 := K_w4.below
  have hz_w4 := K_w4.size
  have lC_w4 : w.heap.size < w4.heap.size := by omega
  have cC0_w4 := K_w4.at (b := w.heap.size) (o := 0) (v := .int .i64 n) (by simp)
  have fC0_w4 := K_w4.free (b := w.heap.size) (o := 0) (v := .int .i64 n) (by simp)
  have cC1_w4 := K_w4.at (b := w.heap.size) (o := 1) (v := .int .u64 g) (by simp)
  have fC1_w4 := K_w4.free (b := w.heap.size) (o := 1) (v := .int .u64 g) (by simp)
  have lT_w4 : w.heap.size + 1 < w4.heap.size := by omega
  have cT0_w4 := K_w4.at (b := w.heap.size + 1) (o := 0) (v := .int .u64 now) (by simp)
  have fT0_w4 := K_w4.free (b := w.heap.size + 1) (o := 0) (v := .int .u64 now) (by simp)
  clear lC_w3 cC0_w3 fC0_w3 cC1_w3 fC1_w3 lT_w3 cT0_w3 fT0_w3
  clear K_w4
  go_wp2_with fail
  with_reducible refine (lost15c P (bkH n g) now (-1) _ HB.out OKH.out LH.out).mono ?_
  rintro e w5 ⟨rfl, hb_w5⟩
  have K_w5 : Kept w.heap.size w (w.heap.size + 2) [(w.heap.size, 0, .int .i64 n), (w.heap.size, 1, .int .u64 g), (w.heap.size + 1, 0, .int .u64 now)] w5 := (KH_w4.out.step (by omega) (by go_grown)).step (by omega) hb_w5
  replace HB := Lib.hid (HB.out.below hb_w5)
  clear hb_w5
  have KH_w5 := Lib.hid K_w5
  have hw_w5 := K_w5.below
  have hz_w5 := K_w5.size
  have lC_w5 : w.heap.size < w5.heap.size := by omega
  have cC0_w5 := K_w5.at (b := w.heap.size) (o := 0) (v := .int .i64 n) (by simp)
  have fC0_w5 := K_w5.free (b := w.heap.size) (o := 0) (v := .int .i64 n) (by simp)
  have cC1_w5 := K_w5.at (b := w.heap.size) (o := 1) (v := .int .u64 g) (by simp)
  have fC1_w5 := K_w5.free (b := w.heap.size) (o := 1) (v := .int .u64 g) (by simp)
  have lT_w5 : w.heap.size + 1 < w5.heap.size := by omega
  have cT0_w5 := K_w5.at (b := w.heap.size + 1) (o := 0) (v := .int .u64 now) (by simp)
  have fT0_w5 := K_w5.free (b := w.heap.size + 1) (o := 0) (v := .int .u64 now) (by simp)
  clear lC_w4 cC0_w4 fC0_w4 cC1_w4 fC1_w4 lT_w4 cT0_w4 fT0_w4
  clear K_w5
  go_wp2_with fail
  with_reducible refine (leave16_0 P (bkH n g) z _ HB.out OKH.out.n1).mono ?_
  rintro e w6 ⟨rfl, hB_w6, hO_w6⟩
  have K_w6 : Kept w.heap.size w (w.heap.size + 2) [(w.heap.size, 0, .int .i64 n), (w.heap.size, 1, .int .u64 g), (w.heap.size + 1, 0, .int .u64 now)] w6 := (KH_w5.out.step (by omega) (by go_grown)).only hO_w6 (by omega) (by omega) (by simp <;> omega)
  replace HB := Lib.hid (hB_w6)
  clear hO_w6 hB_w6
  have KH_w6 := Lib.hid K_w6
  have hw_w6 := K_w6.below
  have hz_w6 := K_w6.size
  have lC_w6 : w.heap.size < w6.heap.size := by omega
  have cC0_w6 := K_w6.at (b := w.heap.size) (o := 0) (v := .int .i64 n) (by simp)
  have fC0_w6 := K_w6.free (b := w.heap.size) (o := 0) (v := .int .i64 n) (by simp)
  have cC1_w6 := K_w6.at (b := w.heap.size) (o := 1) (v := .int .u64 g) (by simp)
  have fC1_w6 := K_w6.free (b := w.heap.size) (o := 1) (v := .int .u64 g) (by simp)
  have lT_w6 : w.heap.size + 1 < w6.heap.size := by omega
  have cT0_w6 := K_w6.at (b := w.heap.size + 1) (o := 0) (v := .int .u64 now) (by simp)
  have fT0_w6 := K_w6.free (b := w.heap.size + 1) (o := 0) (v := .int .u64 now) (by simp)
  clear lC_w5 cC0_w5 fC0_w5 cC1_w5 fC1_w5 lT_w5 cT0_w5 fT0_w5
  clear K_w6
  go_wp2_with fail
  with_reducible refine (leave16_1 P ((bkH n g).leave0 z) o _ HB.out N1.out).mono ?_
  rintro e w7 ⟨rfl, hB_w7, hO_w7⟩
  have K_w7 : Kept w.heap.size w (w.heap.size + 2) [(w.heap.size, 0, .int .i64 n), (w.heap.size, 1, .int .u64 g), (w.heap.size + 1, 0, .int .u64 now)] w7 := (KH_w6.out.step (by omega) (by go_grown)).only hO_w7 (by omega) (by omega) (by simp <;> omega)
  replace HB := Lib.hid (show BookAt w7 P (bkL n g z o) from hB_w7)
  clear hO_w7 hB_w7
  have KH_w7 := Lib.hid K_w7
  have hw_w7 := K_w7.below
  have hz_w7 := K_w7.size
  have lC_w7 : w.heap.size < w7.heap.size := by omega
  have cC0_w7 := K_w7.at (b := w.heap.size) (o := 0) (v := .int .i64 n) (by simp)
  have fC0_w7 := K_w7.free (b := w.heap.size) (o := 0) (v := .int .i64 n) (by simp)
  have cC1_w7 := K_w7.at (b := w.heap.size) (o := 1) (v := .int .u64 g) (by simp)
  have fC1_w7 := K_w7.free (b := w.heap.size) (o := 1) (v := .int .u64 g) (by simp)
  have lT_w7 : w.heap.size + 1 < w7.heap.size := by omega
  have cT0_w7 := K_w7.at (b := w.heap.size + 1) (o := 0) (v := .int .u64 now) (by simp)
  have fT0_w7 := K_w7.free (b := w.heap.size + 1) (o := 0) (v := .int .u64 now) (by simp)
  clear lC_w6 cC0_w6 fC0_w6 cC1_w6 fC1_w6 lT_w6 cT0_w6 fT0_w6
  clear K_w7
  go_wp2_with fail
  with_reducible refine (over17 z g now _ w.heap.size (w.heap.size + 1) _ hz hg hg2 hn cC1_w7 cT0_w7 Hz.out).mono ?_
  rintro e w' ⟨rfl, rfl⟩
  go_wp2_with fail
  with_reducible refine (over17 z g now _ w.heap.size (w.heap.size + 1) _ hz hg hg2 hn cC1_w7 cT0_w7 Hz.out).mono ?_
  rintro e w' ⟨rfl, rfl⟩
  go_wp2_with fail
  with_reducible refine (over17 o g now _ w.heap.size (w.heap.size + 1) _ ho hg hg2 hn cC1_w7 cT0_w7 Ho.out).mono ?_
  rintro e w' ⟨rfl, rfl⟩
  go_wp2_with fail
  with_reducible refine (lost15c P (bkL n g z o) now (-1) _ HB.out OKL.out LL.out).mono ?_
  rintro e w8 ⟨rfl, hb_w8⟩
  have K_w8 : Kept w.heap.size w (w.heap.size + 2) [(w.heap.size, 0, .int .i64 n), (w.heap.size, 1, .int .u64 g), (w.heap.size + 1, 0, .int .u64 now)] w8 := (KH_w7.out.step (by omega) (by go_grown)).step (by omega) hb_w8
  replace HB := Lib.hid (HB.out.below hb_w8)
  clear hb_w8
  have KH_w8 := Lib.hid K_w8
  have hw_w8 := K_w8.below
  have hz_w8 := K_w8.size
  have lC_w8 : w.heap.size < w8.heap.size := by omega
  have cC0_w8 := K_w8.at (b := w.heap.size) (o := 0) (v := .int .i64 n) (by simp)
  have fC0_w8 := K_w8.free (b := w.heap.size) (o := 0) (v := .int .i64 n) (by simp)
  have cC1_w8 := K_w8.at (b := w.heap.size) (o := 1) (v := .int .u64 g) (by simp)
  have fC1_w8 := K_w8.free (b := w.heap.size) (o := 1) (v := .int .u64 g) (by simp)
  have lT_w8 : w.heap.size + 1 < w8.heap.size := by omega
  have cT0_w8 := K_w8.at (b := w.heap.size + 1) (o := 0) (v := .int .u64 now) (by simp)
  have fT0_w8 := K_w8.free (b := w.heap.size + 1) (o := 0) (v := .int .u64 now) (by simp)
  clear lC_w7 cC0_w7 fC0_w7 cC1_w7 fC1_w7 lT_w7 cT0_w7 fT0_w7
  clear K_w8
  go_wp2_with fail
  with_reducible refine (over17 z g now _ w.heap.size (w.heap.size + 1) _ hz hg hg2 hn cC1_w8 cT0_w8 Hz.out).mono ?_
  rintro e w' ⟨rfl, rfl⟩
  go_wp2_with fail
  with_reducible refine (join14_0 P (bkL n g z o) now _ HB.out OKL.out JL.out).mono ?_
  rintro e w9 ⟨rfl, hB_w9, hO_w9⟩
  have K_w9 : Kept w.heap.size w (w.heap.size + 2) [(w.heap.size, 0, .int .i64 n), (w.heap.size, 1, .int .u64 g), (w.heap.size + 1, 0, .int .u64 now)] w9 := (KH_w8.out.step (by omega) (by go_grown)).only hO_w9 (by omega) (by omega) (by simp <;> omega)
  replace HB := Lib.hid (hB_w9)
  clear hO_w9 hB_w9
  have KH_w9 := Lib.hid K_w9
  have hw_w9 := K_w9.below
  have hz_w9 := K_w9.size
  have lC_w9 : w.heap.size < w9.heap.size := by omega
  have cC0_w9 := K_w9.at (b := w.heap.size) (o := 0) (v := .int .i64 n) (by simp)
  have fC0_w9 := K_w9.free (b := w.heap.size) (o := 0) (v := .int .i64 n) (by simp)
  have cC1_w9 := K_w9.at (b := w.heap.size) (o := 1) (v := .int .u64 g) (by simp)
  have fC1_w9 := K_w9.free (b := w.heap.size) (o := 1) (v := .int .u64 g) (by simp)
  have lT_w9 : w.heap.size + 1 < w9.heap.size := by omega
  have cT0_w9 := K_w9.at (b := w.heap.size + 1) (o := 0) (v := .int .u64 now) (by simp)
  have fT0_w9 := K_w9.free (b := w.heap.size + 1) (o := 0) (v := .int .u64 now) (by simp)
  clear lC_w8 cC0_w8 fC0_w8 cC1_w8 fC1_w8 lT_w8 cT0_w8 fT0_w8
  clear K_w9
  go_wp2_with fail
  with_reducible refine (here18_0 P (bkL n g z o).join0 _ HB.out OKJ.out.n1).mono ?_
  rintro e w10 ⟨rfl, hb_w10⟩
  have K_w10 : Kept w.heap.size w (w.heap.size + 2) [(w.heap.size, 0, .int .i64 n), (w.heap.size, 1, .int .u64 g), (w.heap.size + 1, 0, .int .u64 now)] w10 := (KH_w9.out.step (by omega) (by go_grown)).step (by omega) hb_w10
  replace HB := Lib.hid (HB.out.below hb_w10)
  clear hb_w10
  have KH_w10 := Lib.hid K_w10
  have hw_w10 := K_w10.below
  have hz_w10 := K_w10.size
  have lC_w10 : w.heap.size < w10.heap.size := by omega
  have cC0_w10 := K_w10.at (b := w.heap.size) (o := 0) (v := .int .i64 n) (by simp)
  have fC0_w10 := K_w10.free (b := w.heap.size) (o := 0) (v := .int .i64 n) (by simp)
  have cC1_w10 := K_w10.at (b := w.heap.size) (o := 1) (v := .int .u64 g) (by simp)
  have fC1_w10 := K_w10.free (b := w.heap.size) (o := 1) (v := .int .u64 g) (by simp)
  have lT_w10 : w.heap.size + 1 < w10.heap.size := by omega
  have cT0_w10 := K_w10.at (b := w.heap.size + 1) (o := 0) (v := .int .u64 now) (by simp)
  have fT0_w10 := K_w10.free (b := w.heap.size + 1) (o := 0) (v := .int .u64 now) (by simp)
  clear lC_w9 cC0_w9 fC0_w9 cC1_w9 fC1_w9 lT_w9 cT0_w9 fT0_w9
  clear K_w10
  go_wp2_with fail
  with_reducible refine (due19_0c P (bkL n g z o).join0 18446744073709551615 _ HB.out OKJ.out.n1 OKJ.out.t0 (ug OKJ.out) DJ.out).mono ?_
  rintro e w11 ⟨rfl, hb_w11⟩
  have K_w11 : Kept w.heap.size w (w.heap.size + 2) [(w.heap.size, 0, .int .i64 n), (w.heap.size, 1, .int .u64 g), (w.heap.size + 1, 0, .int .u64 now)] w11 := (KH_w10.out.step (by omega) (by go_grown)).step (by omega) hb_w11
  replace HB := Lib.hid (HB.out.below hb_w11)
  clear hb_w11
  have KH_w11 := Lib.hid K_w11
  have hw_w11 := K_w11.below
  have hz_w11 := K_w11.size
  have lC_w11 : w.heap.size < w11.heap.size := by omega
  have cC0_w11 := K_w11.at (b := w.heap.size) (o := 0) (v := .int .i64 n) (by simp)
  have fC0_w11 := K_w11.free (b := w.heap.size) (o := 0) (v := .int .i64 n) (by simp)
  have cC1_w11 := K_w11.at (b := w.heap.size) (o := 1) (v := .int .u64 g) (by simp)
  have fC1_w11 := K_w11.free (b := w.heap.size) (o := 1) (v := .int .u64 g) (by simp)
  have lT_w11 : w.heap.size + 1 < w11.heap.size := by omega
  have cT0_w11 := K_w11.at (b := w.heap.size + 1) (o := 0) (v := .int .u64 now) (by simp)
  have fT0_w11 := K_w11.free (b := w.heap.size + 1) (o := 0) (v := .int .u64 now) (by simp)
  clear lC_w10 cC0_w10 fC0_w10 cC1_w10 fC1_w10 lT_w10 cT0_w10 fT0_w10
  clear K_w11
  go_wp2_with fail
  with_reducible refine (known11 _).mono ?_
  rintro e w12 ⟨rfl, hb_w12⟩
  have K_w12 : Kept w.heap.size w (w.heap.size + 2) [(w.heap.size, 0, .int .i64 n), (w.heap.size, 1, .int .u64 g), (w.heap.size + 1, 0, .int .u64 now)] w12 := (KH_w11.out.step (by omega) (by go_grown)).step (by omega) hb_w12
  clear hb_w12
  have KH_w12 := Lib.hid K_w12
  have hw_w12 := K_w12.below
  have hz_w12 := K_w12.size
  have lC_w12 : w.heap.size < w12.heap.size := by omega
  have cC0_w12 := K_w12.at (b := w.heap.size) (o := 0) (v := .int .i64 n) (by simp)
  have fC0_w12 := K_w12.free (b := w.heap.size) (o := 0) (v := .int .i64 n) (by simp)
  have cC1_w12 := K_w12.at (b := w.heap.size) (o := 1) (v := .int .u64 g) (by simp)
  have fC1_w12 := K_w12.free (b := w.heap.size) (o := 1) (v := .int .u64 g) (by simp)
  have lT_w12 : w.heap.size + 1 < w12.heap.size := by omega
  have cT0_w12 := K_w12.at (b := w.heap.size + 1) (o := 0) (v := .int .u64 now) (by simp)
  have fT0_w12 := K_w12.free (b := w.heap.size + 1) (o := 0) (v := .int .u64 now) (by simp)
  clear lC_w11 cC0_w11 fC0_w11 cC1_w11 fC1_w11 lT_w11 cT0_w11 fT0_w11
  clear K_w12
  go_wp2_with fail
  go_returns
  exact ⟨rfl, by go_grown⟩

set_option maxRecDepth 100000 in
set_option maxHeartbeats 2000000 in
theorem graces4_bad (n g z o now : Int) (w : World) (HV : Hid (vC n g = false)) :
    Calls Try.prog 4 #[.agg #[.int .i64 n, .int .u64 g], .int .u64 z, .int .u64 o, .int .u64 now] w fun e w' => e = .returned (.bool true) ∧ Below w.heap.size w w' := by
  go_enter Try.func4, Try.ntmps4
  go_wp2_with fail
  with_reducible refine (valid9c n g _ _ HV.out).mono ?_
  rintro e w1 ⟨rfl, hb_w1⟩
  have K_w1 : Kept w.heap.size w (w.heap.size + 2) [(w.heap.size, 0, .int .i64 n), (w.heap.size, 1, .int .u64 g), (w.heap.size + 1, 0, .int .u64 now)] w1 := Kept.of hb_w1 (by go_grown) (by go_size) (by omega) (by simp [go_sem] <;> omega)
  clear hb_w1
  have KH_w1 := Lib.hid K_w1
  have hw_w1 := K_w1.below
  have hz_w1 := K_w1.size
  have lC_w1 : w.heap.size < w1.heap.size := by omega
  have cC0_w1 := K_w1.at (b := w.heap.size) (o := 0) (v := .int .i64 n) (by simp)
  have fC0_w1 := K_w1.free (b := w.heap.size) (o := 0) (v := .int .i64 n) (by simp)
  have cC1_w1 := K_w1.at (b := w.heap.size) (o := 1) (v := .int .u64 g) (by simp)
  have fC1_w1 := K_w1.free (b := w.heap.size) (o := 1) (v := .int .u64 g) (by simp)
  have lT_w1 : w.heap.size + 1 < w1.heap.size := by omega
  have cT0_w1 := K_w1.at (b := w.heap.size + 1) (o := 0) (v := .int .u64 now) (by simp)
  have fT0_w1 := K_w1.free (b := w.heap.size + 1) (o := 0) (v := .int .u64 now) (by simp)
  clear K_w1
  go_wp2_with fail
  with_reducible refine (known11 _).mono ?_
  rintro e w2 ⟨rfl, hb_w2⟩
  have K_w2 : Kept w.heap.size w (w.heap.size + 2) [(w.heap.size, 0, .int .i64 n), (w.heap.size, 1, .int .u64 g), (w.heap.size + 1, 0, .int .u64 now)] w2 := (KH_w1.out.step (by omega) (by go_grown)).step (by omega) hb_w2
  clear hb_w2
  have KH_w2 := Lib.hid K_w2
  have hw_w2 := K_w2.below
  have hz_w2 := K_w2.size
  have lC_w2 : w.heap.size < w2.heap.size := by omega
  have cC0_w2 := K_w2.at (b := w.heap.size) (o := 0) (v := .int .i64 n) (by simp)
  have fC0_w2 := K_w2.free (b := w.heap.size) (o := 0) (v := .int .i64 n) (by simp)
  have cC1_w2 := K_w2.at (b := w.heap.size) (o := 1) (v := .int .u64 g) (by simp)
  have fC1_w2 := K_w2.free (b := w.heap.size) (o := 1) (v := .int .u64 g) (by simp)
  have lT_w2 : w.heap.size + 1 < w2.heap.size := by omega
  have cT0_w2 := K_w2.at (b := w.heap.size + 1) (o := 0) (v := .int .u64 now) (by simp)
  have fT0_w2 := K_w2.free (b := w.heap.size + 1) (o := 0) (v := .int .u64 now) (by simp)
  clear lC_w1 cC0_w1 fC0_w1 cC1_w1 fC1_w1 lT_w1 cT0_w1 fT0_w1
  clear K_w2
  go_wp2_with fail
  go_returns
  exact ⟨rfl, by go_grown⟩

set_option maxRecDepth 100000 in
set_option maxHeartbeats 2000000 in
theorem graces4_zero (n z o now : Int) (w : World) (HV : Hid (vC n 0 = true)) (OK : Hid (bk0 n 0 0).Ok) (Z0 : Hid (over (bk0 n 0 0).d0 0 = true)) (Z1 : Hid (lost (bk0 n 0 0).d0 (bk0 n 0 0).d1 0 = 2)) :
    Calls Try.prog 4 #[.agg #[.int .i64 n, .int .u64 0], .int .u64 z, .int .u64 o, .int .u64 now] w fun e w' => e = .returned (.bool true) ∧ Below w.heap.size w w' := by
  go_enter Try.func4, Try.ntmps4
  go_wp2_with fail
  with_reducible refine (valid9c n 0 _ _ HV.out).mono ?_
  rintro e w1 ⟨rfl, hb_w1⟩
  have K_w1 : Kept w.heap.size w (w.heap.size + 2) [(w.heap.size, 0, .int .i64 n), (w.heap.size, 1, .int .u64 0), (w.heap.size + 1, 0, .int .u64 now)] w1 := Kept.of hb_w1 (by go_grown) (by go_size) (by omega) (by simp [go_sem] <;> omega)
  clear hb_w1
  have KH_w1 := Lib.hid K_w1
  have hw_w1 := K_w1.below
  have hz_w1 := K_w1.size
  have lC_w1 : w.heap.size < w1.heap.size := by omega
  have cC0_w1 := K_w1.at (b := w.heap.size) (o := 0) (v := .int .i64 n) (by simp)
  have fC0_w1 := K_w1.free (b := w.heap.size) (o := 0) (v := .int .i64 n) (by simp)
  have cC1_w1 := K_w1.at (b := w.heap.size) (o := 1) (v := .int .u64 0) (by simp)
  have fC1_w1 := K_w1.free (b := w.heap.size) (o := 1) (v := .int .u64 0) (by simp)
  have lT_w1 : w.heap.size + 1 < w1.heap.size := by omega
  have cT0_w1 := K_w1.at (b := w.heap.size + 1) (o := 0) (v := .int .u64 now) (by simp)
  have fT0_w1 := K_w1.free (b := w.heap.size + 1) (o := 0) (v := .int .u64 now) (by simp)
  clear K_w1
  go_wp2_with fail
  with_reducible refine (new8 n 0 0 _ HV.out).mono ?_
  rintro e w2 ⟨P, hP, rfl, hB, hb_w2⟩
  have K_w2 : Kept w.heap.size w (w.heap.size + 2) [(w.heap.size, 0, .int .i64 n), (w.heap.size, 1, .int .u64 0), (w.heap.size + 1, 0, .int .u64 now)] w2 := (KH_w1.out.step (by omega) (by go_grown)).step (by omega) hb_w2
  clear hb_w2
  have KH_w2 := Lib.hid K_w2
  have hw_w2 := K_w2.below
  have hz_w2 := K_w2.size
  have lC_w2 : w.heap.size < w2.heap.size := by omega
  have cC0_w2 := K_w2.at (b := w.heap.size) (o := 0) (v := .int .i64 n) (by simp)
  have fC0_w2 := K_w2.free (b := w.heap.size) (o := 0) (v := .int .i64 n) (by simp)
  have cC1_w2 := K_w2.at (b := w.heap.size) (o := 1) (v := .int .u64 0) (by simp)
  have fC1_w2 := K_w2.free (b := w.heap.size) (o := 1) (v := .int .u64 0) (by simp)
  have lT_w2 : w.heap.size + 1 < w2.heap.size := by omega
  have cT0_w2 := K_w2.at (b := w.heap.size + 1) (o := 0) (v := .int .u64 now) (by simp)
  have fT0_w2 := K_w2.free (b := w.heap.size + 1) (o := 0) (v := .int .u64 now) (by simp)
  clear lC_w1 cC0_w1 fC0_w1 cC1_w1 fC1_w1 lT_w1 cT0_w1 fT0_w1
  clear K_w2
  have HB := Lib.hid hB
  clear hB
  go_wp2_with fail
  with_reducible refine (join14_0_late P (bk0 n 0 0) 0 _ HB.out OK.out Z0.out).mono ?_
  rintro e w3 ⟨rfl, hB_w3, hO_w3⟩
  have K_w3 : Kept w.heap.size w (w.heap.size + 2) [(w.heap.size, 0, .int .i64 n), (w.heap.size, 1, .int .u64 0), (w.heap.size + 1, 0, .int .u64 now)] w3 := (KH_w2.out.step (by omega) (by go_grown)).only hO_w3 (by omega) (by omega) (by simp <;> omega)
  replace HB := Lib.hid (hB_w3)
  clear hO_w3 hB_w3
  have KH_w3 := Lib.hid K_w3
  have hw_w3 := K_w3.below
  have hz_w3 := K_w3.size
  have lC_w3 : w.heap.size < w3.heap.size := by omega
  have cC0_w3 := K_w3.at (b := w.heap.size) (o := 0) (v := .int .i64 n) (by simp)
  have fC0_w3 := K_w3.free (b := w.heap.size) (o := 0) (v := .int .i64 n) (by simp)
  have cC1_w3 := K_w3.at (b := w.heap.size) (o := 1) (v := .int .u64 0) (by simp)
  have fC1_w3 := K_w3.free (b := w.heap.size) (o := 1) (v := .int .u64 0) (by simp)
  have lT_w3 : w.heap.size + 1 < w3.heap.size := by omega
  have cT0_w3 := K_w3.at (b := w.heap.size + 1) (o := 0) (v := .int .u64 now) (by simp)
  have fT0_w3 := K_w3.free (b := w.heap.size + 1) (o := 0) (v := .int .u64 now) (by simp)
  clear lC_w2 cC0_w2 fC0_w2 cC1_w2 fC1_w2 lT_w2 cT0_w2 fT0_w2
  clear K_w3
  go_wp2_with fail
  with_reducible refine (lost15c P (bk0 n 0 0) 0 2 _ HB.out OK.out Z1.out).mono ?_
  rintro e w4 ⟨rfl, hb_w4⟩
  have K_w4 : Kept w.heap.size w (w.heap.size + 2) [(w.heap.size, 0, .int .i64 n), (w.heap.size, 1, .int .u64 0), (w.heap.size + 1, 0, .int .u64 now)] w4 := (KH_w3.out.step (by omega) (by go_grown)).step (by omega) hb_w4
  replace HB := Lib.hid (HB.out.below hb_w4)
  clear hb_w4
  have KH_w4 := Lib.hid K_w4
  have hw_w4 := K_w4.below
  have hz_w4 := K_w4.size
  have lC_w4 : w.heap.size < w4.heap.size := by omega
  have cC0_w4 := K_w4.at (b := w.heap.size) (o := 0) (v := .int .i64 n) (by simp)
  have fC0_w4 := K_w4.free (b := w.heap.size) (o := 0) (v := .int .i64 n) (by simp)
  have cC1_w4 := K_w4.at (b := w.heap.size) (o := 1) (v := .int .u64 0) (by simp)
  have fC1_w4 := K_w4.free (b := w.heap.size) (o := 1) (v := .int .u64 0) (by simp)
  have lT_w4 : w.heap.size + 1 < w4.heap.size := by omega
  have cT0_w4 := K_w4.at (b := w.heap.size + 1) (o := 0) (v := .int .u64 now) (by simp)
  have fT0_w4 := K_w4.free (b := w.heap.size + 1) (o := 0) (v := .int .u64 now) (by simp)
  clear lC_w3 cC0_w3 fC0_w3 cC1_w3 fC1_w3 lT_w3 cT0_w3 fT0_w3
  clear K_w4
  go_wp2_with fail
  with_reducible refine (known11 _).mono ?_
  rintro e w5 ⟨rfl, hb_w5⟩
  have K_w5 : Kept w.heap.size w (w.heap.size + 2) [(w.heap.size, 0, .int .i64 n), (w.heap.size, 1, .int .u64 0), (w.heap.size + 1, 0, .int .u64 now)] w5 := (KH_w4.out.step (by omega) (by go_grown)).step (by omega) hb_w5
  clear hb_w5
  have KH_w5 := Lib.hid K_w5
  have hw_w5 := K_w5.below
  have hz_w5 := K_w5.size
  have lC_w5 : w.heap.size < w5.heap.size := by omega
  have cC0_w5 := K_w5.at (b := w.heap.size) (o := 0) (v := .int .i64 n) (by simp)
  have fC0_w5 := K_w5.free (b := w.heap.size) (o := 0) (v := .int .i64 n) (by simp)
  have cC1_w5 := K_w5.at (b := w.heap.size) (o := 1) (v := .int .u64 0) (by simp)
  have fC1_w5 := K_w5.free (b := w.heap.size) (o := 1) (v := .int .u64 0) (by simp)
  have lT_w5 : w.heap.size + 1 < w5.heap.size := by omega
  have cT0_w5 := K_w5.at (b := w.heap.size + 1) (o := 0) (v := .int .u64 now) (by simp)
  have fT0_w5 := K_w5.free (b := w.heap.size + 1) (o := 0) (v := .int .u64 now) (by simp)
  clear lC_w4 cC0_w4 fC0_w4 cC1_w4 fC1_w4 lT_w4 cT0_w4 fT0_w4
  clear K_w5
  go_wp2_with fail
  go_returns
  exact ⟨rfl, by go_grown⟩

theorem graces4 (n g z o now : Int) (w : World) (hg : 0 ≤ g) (hz : U z) (ho : U o) (hn : U now) :
    Calls Try.prog 4 #[.agg #[.int .i64 n, .int .u64 g], .int .u64 z, .int .u64 o, .int .u64 now] w fun e w' => e = .returned (.bool true) ∧ Below w.heap.size w w' := by
  cases hv : vC n g
  · exact graces4_bad n g z o now w hv
  · have ⟨h1, h2, hg2⟩ := vC_true hv
    have u0 : U 0 := by unfold U; omega
    have OK : (bk0 n g 0).Ok := ok_new hv hg u0
    by_cases q : g = 0
    · subst q
      exact graces4_zero n z o now w hv OK rfl rfl
    · have q0 : (g == 0) = false := by simpa using q
      have OK1 : (bk0 n g 0).join0.Ok := ⟨OK.n1, OK.n2, OK.g1, OK.g2, OK.t0, OK.t1, OK.s0, OK.s0', OK.s1, OK.s1', OK.a0, OK.a1⟩
      have OKH : (bkH n g).Ok := ⟨OK.n1, OK.n2, OK.g1, OK.g2, OK.t0, OK.t1, OK.s0, OK.s0', OK.s1, OK.s1', OK.a0, OK.a1⟩
      have OKL : (bkL n g z o).Ok := ⟨OK.n1, OK.n2, OK.g1, OK.g2, hz, ho, OK.s0, OK.s0', OK.s1, OK.s1', OK.a0, OK.a1⟩
      have OKJ : (bkL n g z o).join0.Ok := ⟨OK.n1, OK.n2, OK.g1, OK.g2, hz, ho, OK.s0, OK.s0', OK.s1, OK.s1', OK.a0, OK.a1⟩
      have N1 : 1 ≤ ((bkH n g).leave0 z).n := h1
      have DJ : (bkL n g z o).join0.d0 = 18446744073709551615 := rfl
      have eg : addN 0 g = g := by unfold addN; split <;> omega
      have J0 : over (bk0 n g 0).d0 0 = false := by
        show over (addN 0 g) 0 = false
        rw [eg]; simp [over]; omega
      have J1 : over (bk0 n g 0).join0.d1 (g - 1) = false := by
        show over (addN 0 g) (g - 1) = false
        rw [eg]; simp [over]; omega
      have LH : lost (bkH n g).d0 (bkH n g).d1 now = -1 := by
        show lost 18446744073709551615 18446744073709551615 now = -1
        simp [lost, over]
      have D0 : (bkL n g z o).d0 = addN z g := rfl
      have D1 : (bkL n g z o).d1 = addN o g := rfl
      have l0 := addN_le z g hz.2 hg
      have l1 := addN_le o g ho.2 hg
      have LE := lost_eq (addN z g) (addN o g) now l0 l1
      cases hO0 : over (addN z g) now <;> cases hO1 : over (addN o g) now <;> rw [hO0, hO1] at LE
      · exact graces4_FF n g z o now w h1 hg hg2 q0 (by omega) hz ho hn hv OK OK1 OKH OKL OKJ N1 DJ J0 J1 LH (show lost (bkL n g z o).d0 (bkL n g z o).d1 now = -1 from by rw [D0, D1, LE]; simp) (Lib.hid hO0) (Lib.hid hO1) (show over (bkL n g z o).d0 now = _ by rw [D0]; exact hO0)
      · exact graces4_FT n g z o now w h1 hg hg2 q0 (by omega) hz ho hn hv OK OK1 OKH OKL OKJ N1 DJ J0 J1 LH (show lost (bkL n g z o).d0 (bkL n g z o).d1 now = 1 from by rw [D0, D1, LE]; simp) (Lib.hid hO0) (Lib.hid hO1) (show over (bkL n g z o).d0 now = _ by rw [D0]; exact hO0)
      · have e0 := addN_eq hO0
        have e1 := ov_le hO1
        exact graces4_TF n g z o now w h1 hg hg2 q0 (by omega) hz ho hn hv OK OK1 OKH OKL OKJ N1 DJ J0 J1 LH (show lost (bkL n g z o).d0 (bkL n g z o).d1 now = 0 from by rw [D0, D1, LE]; simp; omega) (Lib.hid hO0) (Lib.hid hO1) (show over (bkL n g z o).d0 now = _ by rw [D0]; exact hO0)
      · have e0 := addN_eq hO0
        have e1 := addN_eq hO1
        rcases Int.lt_trichotomy z o with h | h | h
        · exact graces4_TTl n g z o now w h1 hg hg2 q0 (by omega) hz ho hn hv OK OK1 OKH OKL OKJ N1 DJ J0 J1 LH (show lost (bkL n g z o).d0 (bkL n g z o).d1 now = 0 from by rw [D0, D1, LE, e0.1, e1.1]; simp; omega) (Lib.hid hO0) (Lib.hid hO1) (show over (bkL n g z o).d0 now = _ by rw [D0]; exact hO0) (by simp; omega) (by simpa using h)
        · exact graces4_TTe n g z o now w h1 hg hg2 q0 (by omega) hz ho hn hv OK OK1 OKH OKL OKJ N1 DJ J0 J1 LH (show lost (bkL n g z o).d0 (bkL n g z o).d1 now = 2 from by rw [D0, D1, LE, e0.1, e1.1]; simp; omega) (Lib.hid hO0) (Lib.hid hO1) (show over (bkL n g z o).d0 now = _ by rw [D0]; exact hO0) (by simpa using h)
        · exact graces4_TTg n g z o now w h1 hg hg2 q0 (by omega) hz ho hn hv OK OK1 OKH OKL OKJ N1 DJ J0 J1 LH (show lost (bkL n g z o).d0 (bkL n g z o).d1 now = 1 from by rw [D0, D1, LE, e0.1, e1.1]; simp; omega) (Lib.hid hO0) (Lib.hid hO1) (show over (bkL n g z o).d0 now = _ by rw [D0]; exact hO0) (by simp; omega) (by simp; omega)
end Go.Proofs.Ytobkgdhniibopaa
