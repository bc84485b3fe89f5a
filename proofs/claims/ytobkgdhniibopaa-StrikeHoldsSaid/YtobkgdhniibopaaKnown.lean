/- The examples of the chapter. -/
import Derived.Test.YtobkgdhniibopaaMid
import Derived.Test.YtobkgdhniibopaaReg
namespace Go.Proofs.Ytobkgdhniibopaa
open Go.RowKit Plain
set_option linter.unusedVariables false
set_option linter.unusedSimpArgs false

def okB (b : Bk) : Bool := decide (1 ≤ b.n ∧ b.n ≤ 100 ∧ 0 ≤ b.g ∧ b.g ≤ 4294967296 ∧ (0 ≤ b.t0 ∧ b.t0 ≤ 18446744073709551615) ∧ (0 ≤ b.t1 ∧ b.t1 ≤ 18446744073709551615) ∧ 0 ≤ b.s0 ∧ b.s0 ≤ b.n ∧ 0 ≤ b.s1 ∧ b.s1 ≤ b.n ∧ b.a0 = (b.s0 == b.n) ∧ b.a1 = (b.s1 == b.n))
theorem ok_of {b : Bk} (h : okB b = true) : b.Ok := by
  obtain ⟨h1, h2, h3, h4, h5, h6, h7, h8, h9, h10, h11, h12⟩ := of_decide_eq_true h
  exact ⟨h1, h2, h3, h4, h5, h6, h7, h8, h9, h10, h11, h12⟩
theorem ug {b : Bk} (ok : b.Ok) : U b.g := by have := ok.g1; have := ok.g2; unfold U; omega

set_option maxRecDepth 100000 in
set_option maxHeartbeats 8000000 in
theorem known11 (w : World) : Calls Try.prog 11 #[] w fun e w' => e = .returned (.bool true) ∧ Below w.heap.size w w' := by
  go_enter Try.func11, Try.ntmps11
  go_wp2_with fail
  with_reducible refine (new8 2 5 10 _ (by decide +kernel)).mono ?_
  rintro e w1 ⟨P, hP, rfl, hB, hb_w1⟩
  have K_w1 : Kept w.heap.size w (w.heap.size) [] w1 := Kept.of hb_w1 (by go_grown) (by go_size) (by omega) (by simp [go_sem] <;> omega)
  clear hb_w1
  have KH_w1 := Lib.hid K_w1
  have hw_w1 := K_w1.below
  have hz_w1 := K_w1.size
  clear K_w1
  have HB : Hid (BookAt w1 P (⟨2, 5, false, 10, 0, false, false, 10, 0, false⟩ : Bk)) := Lib.hid hB
  clear hB
  go_wp2_with fail
  with_reducible refine (strikes25_0 P (⟨2, 5, false, 10, 0, false, false, 10, 0, false⟩ : Bk) false _ HB.out (ok_of (by decide +kernel)) (by decide +kernel)).mono ?_
  rintro e w2 ⟨rfl, hB_w2, hO_w2⟩
  have K_w2 : Kept w.heap.size w (w.heap.size) [] w2 := (KH_w1.out.step (by omega) (by go_grown)).only hO_w2 (by omega) (by omega) (by simp <;> omega)
  replace HB := Lib.hid (show BookAt w2 P (⟨2, 5, false, 10, 1, false, false, 10, 0, false⟩ : Bk) from hB_w2)
  clear hO_w2 hB_w2
  have KH_w2 := Lib.hid K_w2
  have hw_w2 := K_w2.below
  have hz_w2 := K_w2.size
  clear K_w2
  go_wp2_with fail
  with_reducible refine (strikes25_0 P (⟨2, 5, false, 10, 1, false, false, 10, 0, false⟩ : Bk) true _ HB.out (ok_of (by decide +kernel)) (by decide +kernel)).mono ?_
  rintro e w3 ⟨rfl, hB_w3, hO_w3⟩
  have K_w3 : Kept w.heap.size w (w.heap.size) [] w3 := (KH_w2.out.step (by omega) (by go_grown)).only hO_w3 (by omega) (by omega) (by simp <;> omega)
  replace HB := Lib.hid (show BookAt w3 P (⟨2, 5, false, 10, 2, true, false, 10, 0, false⟩ : Bk) from hB_w3)
  clear hO_w3 hB_w3
  have KH_w3 := Lib.hid K_w3
  have hw_w3 := K_w3.below
  have hz_w3 := K_w3.size
  clear K_w3
  go_wp2_with fail
  with_reducible refine (strikes25_0 P (⟨2, 5, false, 10, 2, true, false, 10, 0, false⟩ : Bk) true _ HB.out (ok_of (by decide +kernel)) (by decide +kernel)).mono ?_
  rintro e w4 ⟨rfl, hB_w4, hO_w4⟩
  have K_w4 : Kept w.heap.size w (w.heap.size) [] w4 := (KH_w3.out.step (by omega) (by go_grown)).only hO_w4 (by omega) (by omega) (by simp <;> omega)
  replace HB := Lib.hid (show BookAt w4 P (⟨2, 5, false, 10, 2, true, false, 10, 0, false⟩ : Bk) from hB_w4)
  clear hO_w4 hB_w4
  have KH_w4 := Lib.hid K_w4
  have hw_w4 := K_w4.below
  have hz_w4 := K_w4.size
  clear K_w4
  go_wp2_with fail
  with_reducible refine (strikes21_0 P (⟨2, 5, false, 10, 2, true, false, 10, 0, false⟩ : Bk) _ HB.out (by decide +kernel)).mono ?_
  rintro e w5 ⟨rfl, hb_w5⟩
  have K_w5 : Kept w.heap.size w (w.heap.size) [] w5 := (KH_w4.out.step (by omega) (by go_grown)).step (by omega) hb_w5
  replace HB := Lib.hid (HB.out.below hb_w5)
  clear hb_w5
  have KH_w5 := Lib.hid K_w5
  have hw_w5 := K_w5.below
  have hz_w5 := K_w5.size
  clear K_w5
  go_wp2_with fail
  with_reducible refine (answer23_0 P (⟨2, 5, false, 10, 2, true, false, 10, 0, false⟩ : Bk) _ HB.out (by decide +kernel)).mono ?_
  rintro e w6 ⟨rfl, hB_w6, hO_w6⟩
  have K_w6 : Kept w.heap.size w (w.heap.size) [] w6 := (KH_w5.out.step (by omega) (by go_grown)).only hO_w6 (by omega) (by omega) (by simp <;> omega)
  replace HB := Lib.hid (show BookAt w6 P (⟨2, 5, false, 10, 0, false, false, 10, 0, false⟩ : Bk) from hB_w6)
  clear hO_w6 hB_w6
  have KH_w6 := Lib.hid K_w6
  have hw_w6 := K_w6.below
  have hz_w6 := K_w6.size
  clear K_w6
  go_wp2_with fail
  with_reducible refine (auto20_0 P (⟨2, 5, false, 10, 0, false, false, 10, 0, false⟩ : Bk) _ HB.out (by decide +kernel)).mono ?_
  rintro e w7 ⟨rfl, hb_w7⟩
  have K_w7 : Kept w.heap.size w (w.heap.size) [] w7 := (KH_w6.out.step (by omega) (by go_grown)).step (by omega) hb_w7
  replace HB := Lib.hid (HB.out.below hb_w7)
  clear hb_w7
  have KH_w7 := Lib.hid K_w7
  have hw_w7 := K_w7.below
  have hz_w7 := K_w7.size
  clear K_w7
  go_wp2_with fail
  with_reducible refine (strikes25_0 P (⟨2, 5, false, 10, 0, false, false, 10, 0, false⟩ : Bk) false _ HB.out (ok_of (by decide +kernel)) (by decide +kernel)).mono ?_
  rintro e w8 ⟨rfl, hB_w8, hO_w8⟩
  have K_w8 : Kept w.heap.size w (w.heap.size) [] w8 := (KH_w7.out.step (by omega) (by go_grown)).only hO_w8 (by omega) (by omega) (by simp <;> omega)
  replace HB := Lib.hid (show BookAt w8 P (⟨2, 5, false, 10, 1, false, false, 10, 0, false⟩ : Bk) from hB_w8)
  clear hO_w8 hB_w8
  have KH_w8 := Lib.hid K_w8
  have hw_w8 := K_w8.below
  have hz_w8 := K_w8.size
  clear K_w8
  go_wp2_with fail
  with_reducible refine (lost15c P (⟨2, 5, false, 10, 1, false, false, 10, 0, false⟩ : Bk) 14 (-1) _ HB.out (ok_of (by decide +kernel)) (by decide +kernel)).mono ?_
  rintro e w9 ⟨rfl, hb_w9⟩
  have K_w9 : Kept w.heap.size w (w.heap.size) [] w9 := (KH_w8.out.step (by omega) (by go_grown)).step (by omega) hb_w9
  replace HB := Lib.hid (HB.out.below hb_w9)
  clear hb_w9
  have KH_w9 := Lib.hid K_w9
  have hw_w9 := K_w9.below
  have hz_w9 := K_w9.size
  clear K_w9
  go_wp2_with fail
  with_reducible refine (join14_1 P (⟨2, 5, false, 10, 1, false, false, 10, 0, false⟩ : Bk) 14 _ HB.out (ok_of (by decide +kernel)) (by decide +kernel)).mono ?_
  rintro e w10 ⟨rfl, hB_w10, hO_w10⟩
  have K_w10 : Kept w.heap.size w (w.heap.size) [] w10 := (KH_w9.out.step (by omega) (by go_grown)).only hO_w10 (by omega) (by omega) (by simp <;> omega)
  replace HB := Lib.hid (show BookAt w10 P (⟨2, 5, false, 10, 1, false, true, 10, 0, false⟩ : Bk) from hB_w10)
  clear hO_w10 hB_w10
  have KH_w10 := Lib.hid K_w10
  have hw_w10 := K_w10.below
  have hz_w10 := K_w10.size
  clear K_w10
  go_wp2_with fail
  with_reducible refine (lost15c P (⟨2, 5, false, 10, 1, false, true, 10, 0, false⟩ : Bk) 15 0 _ HB.out (ok_of (by decide +kernel)) (by decide +kernel)).mono ?_
  rintro e w11 ⟨rfl, hb_w11⟩
  have K_w11 : Kept w.heap.size w (w.heap.size) [] w11 := (KH_w10.out.step (by omega) (by go_grown)).step (by omega) hb_w11
  replace HB := Lib.hid (HB.out.below hb_w11)
  clear hb_w11
  have KH_w11 := Lib.hid K_w11
  have hw_w11 := K_w11.below
  have hz_w11 := K_w11.size
  clear K_w11
  go_wp2_with fail
  with_reducible refine (lost15c P (⟨2, 5, false, 10, 1, false, true, 10, 0, false⟩ : Bk) 99 0 _ HB.out (ok_of (by decide +kernel)) (by decide +kernel)).mono ?_
  rintro e w12 ⟨rfl, hb_w12⟩
  have K_w12 : Kept w.heap.size w (w.heap.size) [] w12 := (KH_w11.out.step (by omega) (by go_grown)).step (by omega) hb_w12
  replace HB := Lib.hid (HB.out.below hb_w12)
  clear hb_w12
  have KH_w12 := Lib.hid K_w12
  have hw_w12 := K_w12.below
  have hz_w12 := K_w12.size
  clear K_w12
  go_wp2_with fail
  with_reducible refine (join14_0_late P (⟨2, 5, false, 10, 1, false, true, 10, 0, false⟩ : Bk) 15 _ HB.out (ok_of (by decide +kernel)) (by decide +kernel)).mono ?_
  rintro e w13 ⟨rfl, hB_w13, hO_w13⟩
  have K_w13 : Kept w.heap.size w (w.heap.size) [] w13 := (KH_w12.out.step (by omega) (by go_grown)).only hO_w13 (by omega) (by omega) (by simp <;> omega)
  replace HB := Lib.hid (show BookAt w13 P (⟨2, 5, false, 10, 1, false, true, 10, 0, false⟩ : Bk) from hB_w13)
  clear hO_w13 hB_w13
  have KH_w13 := Lib.hid K_w13
  have hw_w13 := K_w13.below
  have hz_w13 := K_w13.size
  clear K_w13
  go_wp2_with fail
  with_reducible refine (due19_0c P (⟨2, 5, false, 10, 1, false, true, 10, 0, false⟩ : Bk) 15 _ HB.out (by decide +kernel) (ok_of (by decide +kernel)).t0 (ug (ok_of (by decide +kernel))) (by decide +kernel)).mono ?_
  rintro e w14 ⟨rfl, hb_w14⟩
  have K_w14 : Kept w.heap.size w (w.heap.size) [] w14 := (KH_w13.out.step (by omega) (by go_grown)).step (by omega) hb_w14
  replace HB := Lib.hid (HB.out.below hb_w14)
  clear hb_w14
  have KH_w14 := Lib.hid K_w14
  have hw_w14 := K_w14.below
  have hz_w14 := K_w14.size
  clear K_w14
  go_wp2_with fail
  with_reducible refine (due19_1c P (⟨2, 5, false, 10, 1, false, true, 10, 0, false⟩ : Bk) 18446744073709551615 _ HB.out (by decide +kernel) (ok_of (by decide +kernel)).t1 (ug (ok_of (by decide +kernel))) (by decide +kernel)).mono ?_
  rintro e w15 ⟨rfl, hb_w15⟩
  have K_w15 : Kept w.heap.size w (w.heap.size) [] w15 := (KH_w14.out.step (by omega) (by go_grown)).step (by omega) hb_w15
  replace HB := Lib.hid (HB.out.below hb_w15)
  clear hb_w15
  have KH_w15 := Lib.hid K_w15
  have hw_w15 := K_w15.below
  have hz_w15 := K_w15.size
  clear K_w15
  go_wp2_with fail
  with_reducible refine (leave16_1 P (⟨2, 5, false, 10, 1, false, true, 10, 0, false⟩ : Bk) 3 _ HB.out (by decide +kernel)).mono ?_
  rintro e w16 ⟨rfl, hB_w16, hO_w16⟩
  have K_w16 : Kept w.heap.size w (w.heap.size) [] w16 := (KH_w15.out.step (by omega) (by go_grown)).only hO_w16 (by omega) (by omega) (by simp <;> omega)
  replace HB := Lib.hid (show BookAt w16 P (⟨2, 5, false, 10, 1, false, false, 3, 0, false⟩ : Bk) from hB_w16)
  clear hO_w16 hB_w16
  have KH_w16 := Lib.hid K_w16
  have hw_w16 := K_w16.below
  have hz_w16 := K_w16.size
  clear K_w16
  go_wp2_with fail
  with_reducible refine (leave16_1 P (⟨2, 5, false, 10, 1, false, false, 3, 0, false⟩ : Bk) 20 _ HB.out (by decide +kernel)).mono ?_
  rintro e w17 ⟨rfl, hB_w17, hO_w17⟩
  have K_w17 : Kept w.heap.size w (w.heap.size) [] w17 := (KH_w16.out.step (by omega) (by go_grown)).only hO_w17 (by omega) (by omega) (by simp <;> omega)
  replace HB := Lib.hid (show BookAt w17 P (⟨2, 5, false, 10, 1, false, false, 3, 0, false⟩ : Bk) from hB_w17)
  clear hO_w17 hB_w17
  have KH_w17 := Lib.hid K_w17
  have hw_w17 := K_w17.below
  have hz_w17 := K_w17.size
  clear K_w17
  go_wp2_with fail
  with_reducible refine (due19_1c P (⟨2, 5, false, 10, 1, false, false, 3, 0, false⟩ : Bk) 8 _ HB.out (by decide +kernel) (ok_of (by decide +kernel)).t1 (ug (ok_of (by decide +kernel))) (by decide +kernel)).mono ?_
  rintro e w18 ⟨rfl, hb_w18⟩
  have K_w18 : Kept w.heap.size w (w.heap.size) [] w18 := (KH_w17.out.step (by omega) (by go_grown)).step (by omega) hb_w18
  replace HB := Lib.hid (HB.out.below hb_w18)
  clear hb_w18
  have KH_w18 := Lib.hid K_w18
  have hw_w18 := K_w18.below
  have hz_w18 := K_w18.size
  clear K_w18
  go_wp2_with fail
  with_reducible refine (lost15c P (⟨2, 5, false, 10, 1, false, false, 3, 0, false⟩ : Bk) 99 1 _ HB.out (ok_of (by decide +kernel)) (by decide +kernel)).mono ?_
  rintro e w19 ⟨rfl, hb_w19⟩
  have K_w19 : Kept w.heap.size w (w.heap.size) [] w19 := (KH_w18.out.step (by omega) (by go_grown)).step (by omega) hb_w19
  replace HB := Lib.hid (HB.out.below hb_w19)
  clear hb_w19
  have KH_w19 := Lib.hid K_w19
  have hw_w19 := K_w19.below
  have hz_w19 := K_w19.size
  clear K_w19
  go_wp2_with fail
  with_reducible refine (here18_1 P (⟨2, 5, false, 10, 1, false, false, 3, 0, false⟩ : Bk) _ HB.out (by decide +kernel)).mono ?_
  rintro e w20 ⟨rfl, hb_w20⟩
  have K_w20 : Kept w.heap.size w (w.heap.size) [] w20 := (KH_w19.out.step (by omega) (by go_grown)).step (by omega) hb_w20
  replace HB := Lib.hid (HB.out.below hb_w20)
  clear hb_w20
  have KH_w20 := Lib.hid K_w20
  have hw_w20 := K_w20.below
  have hz_w20 := K_w20.size
  clear K_w20
  go_wp2_with fail
  with_reducible refine (new8_bad 0 0 0 _ (by decide +kernel)).mono ?_
  rintro e w21 ⟨rfl, hb_w21⟩
  have K_w21 : Kept w.heap.size w (w.heap.size) [] w21 := (KH_w20.out.step (by omega) (by go_grown)).step (by omega) hb_w21
  replace HB := Lib.hid (HB.out.below hb_w21)
  clear hb_w21
  have KH_w21 := Lib.hid K_w21
  have hw_w21 := K_w21.below
  have hz_w21 := K_w21.size
  clear K_w21
  go_wp2_with fail
  with_reducible refine (new8_bad 1 4294967297 0 _ (by decide +kernel)).mono ?_
  rintro e w22 ⟨rfl, hb_w22⟩
  have K_w22 : Kept w.heap.size w (w.heap.size) [] w22 := (KH_w21.out.step (by omega) (by go_grown)).step (by omega) hb_w22
  replace HB := Lib.hid (HB.out.below hb_w22)
  clear hb_w22
  have KH_w22 := Lib.hid K_w22
  have hw_w22 := K_w22.below
  have hz_w22 := K_w22.size
  clear K_w22
  go_wp2_with fail
  with_reducible refine (join14_bad P (⟨2, 5, false, 10, 1, false, false, 3, 0, false⟩ : Bk) 2 0 _ HB.out (by decide +kernel) (by omega) (by omega)).mono ?_
  rintro e w23 ⟨rfl, hb_w23⟩
  have K_w23 : Kept w.heap.size w (w.heap.size) [] w23 := (KH_w22.out.step (by omega) (by go_grown)).step (by omega) hb_w23
  replace HB := Lib.hid (HB.out.below hb_w23)
  clear hb_w23
  have KH_w23 := Lib.hid K_w23
  have hw_w23 := K_w23.below
  have hz_w23 := K_w23.size
  clear K_w23
  go_wp2_with fail
  go_returns
  exact ⟨rfl, by go_grown⟩

end Go.Proofs.Ytobkgdhniibopaa
