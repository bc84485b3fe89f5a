/- The examples of the chapter. -/
import Derived.Test.YtjedflfgafhlkaaRw
namespace Go.Proofs.Ytjedflfgafhlkaa
open Go.RowKit Plain
set_option linter.unusedVariables false
set_option linter.unusedSimpArgs false

/-- the chapter's card -/
def kcs : List Cd := [⟨⟨#[]⟩, 2, 0, 0, 0, 0, 0, 0, 2, 3, 2, none, 0, 0, none, 0, 0, 0⟩]
theorem kcs_I : CI kcs := by
  intro c hc
  simp [kcs] at hc
  subst hc
  exact ⟨by simp [I], by simp [I]⟩
theorem crow_kcs (w : World) : CRow (w.alloc (.cells #[.string ⟨#[]⟩, .int .i64 2, .int .i64 0, .int .i64 0, .int .i64 0, .int .i64 0, .int .i64 0, .int .i64 0, .int .i64 2, .int .i64 3, .int .i64 2, .slice none 0 0, .slice none 0 0, .int .i64 0] 63)) (.slice (some ⟨w.heap.size, 0, none⟩) 1 1) kcs := by
  refine .inr ⟨by simp [kcs], by simp [kcs, maxLen], w.heap.size, 0, 1, rfl, by simp, fun i c hi j u hu => ?_⟩
  have hi0 : i = 0 := by
    have := (List.getElem?_eq_some_iff.1 hi).1
    simp [kcs] at this
    omega
  subst hi0
  simp [kcs] at hi
  subst hi
  have hj : j < 14 := by
    have := (List.getElem?_eq_some_iff.1 hu).1
    simpa [Cd.cells] using this
  have h14 : (j = 0 ∨ j = 1 ∨ j = 2 ∨ j = 3 ∨ j = 4 ∨ j = 5 ∨ j = 6) ∨ (j = 7 ∨ j = 8 ∨ j = 9 ∨ j = 10 ∨ j = 11 ∨ j = 12 ∨ j = 13) := by omega
  rcases h14 with (h | h | h | h | h | h | h) | (h | h | h | h | h | h | h) <;> (subst h; simp [Cd.cells] at hu; simp [← hu])
instance (a : Int) : Decidable (I a) := by unfold I; infer_instance
theorem I_lit (o : Ob) (h : (decide (I o.id) && decide (I o.cd) && decide (I o.ow) && decide (I o.po) && decide (I o.tg) && decide (I o.da) && decide (I o.co) && decide (I o.pp) && decide (I o.pt)) = true) : o.I := by
  simp only [Bool.and_eq_true, decide_eq_true_eq] at h
  obtain ⟨⟨⟨⟨⟨⟨⟨⟨h1, h2⟩, h3⟩, h4⟩, h5⟩, h6⟩, h7⟩, h8⟩, h9⟩ := h
  exact ⟨h1, h2, h3, h4, h5, h6, h7, h8, h9⟩
theorem obytes_okc (o : Ob) (v : Value) (zs : List Int) (w : World) (hv : Hid (vO o = true)) (hs : Seg w .u8 v zs) (hz : byO o = zs) : Calls Try.prog 13 #[.agg #[.int .i64 o.id, .int .i64 o.cd, .int .i64 o.ow, .int .i64 o.po, .int .i64 o.tg, .int .i64 o.da, .int .i64 o.co, .int .i64 o.pp, .int .i64 o.pt, .bool o.ta, .bool o.si, .bool o.dm], v, .int .i64 0] w fun e w' => e = .returned (.bool true) ∧ Below w.heap.size w w' := by
  subst hz
  exact obytes_ok o v w hv hs
set_option maxRecDepth 100000 in
set_option maxHeartbeats 2000000 in
theorem known (w : World) : Calls Try.prog 12 #[] w fun e w' => e = .returned (.bool true) ∧ Below w.heap.size w w' := by
  have hmk11 : ∀ w, (Instr.makeSlice 30 (.int .i64 11) (.int .i64 11)).run Try.prog w = .ok (.slice (some ⟨w.heap.size, 0, none⟩) 11 11) (w.alloc (.cells #[.int .u8 0, .int .u8 0, .int .u8 0, .int .u8 0, .int .u8 0, .int .u8 0, .int .u8 0, .int .u8 0, .int .u8 0, .int .u8 0, .int .u8 0] 5)) := fun _ => by kernel_rfl
  have hmk12 : ∀ w, (Instr.makeSlice 30 (.int .i64 12) (.int .i64 12)).run Try.prog w = .ok (.slice (some ⟨w.heap.size, 0, none⟩) 12 12) (w.alloc (.cells #[.int .u8 0, .int .u8 0, .int .u8 0, .int .u8 0, .int .u8 0, .int .u8 0, .int .u8 0, .int .u8 0, .int .u8 0, .int .u8 0, .int .u8 0, .int .u8 0] 5)) := fun _ => by kernel_rfl
  go_enter Try.func12, Try.ntmps12
  go_wp2_with fail
  have HC := Lib.hid (crow_kcs w)
  with_reducible refine (onew 7 0 1 _).mono ?_
  rintro e w1 ⟨rfl, hb_w1⟩
  have K_w1 : Kept w.heap.size w (w.heap.size + 1) [] w1 := Kept.of hb_w1 (by go_grown) (by go_size) (by omega) (by simp [go_sem] <;> omega)
  replace HC := Lib.hid (HC.out.below hb_w1)
  clear hb_w1
  have KH_w1 := Lib.hid K_w1
  have hw_w1 := K_w1.below
  have hz_w1 := K_w1.size
  clear K_w1
  go_wp2_with fail
  with_reducible refine (otoken 9 0 1 120 _ (by decide) (by decide)).mono ?_
  rintro e w2 ⟨rfl, hb_w2⟩
  have K_w2 := (KH_w1.out.step (by omega) (by go_grown)).step (by omega) hb_w2
  replace HC := Lib.hid (HC.out.below hb_w2)
  clear hb_w2
  have KH_w2 := Lib.hid K_w2
  have hw_w2 := K_w2.below
  have hz_w2 := K_w2.size
  clear K_w2
  go_wp2_with fail
  with_reducible refine (ocount ⟨7, 0, 1, 0, 0, 0, 0, 0, 0, false, false, false⟩ 2 _ (by decide) (by decide)).mono ?_
  rintro e w3 ⟨rfl, hb_w3⟩
  have K_w3 : Kept w.heap.size w (w2.heap.size + 2) [(w2.heap.size, 0, .int .i64 7), (w2.heap.size, 1, .int .i64 0), (w2.heap.size, 2, .int .i64 1), (w2.heap.size, 3, .int .i64 0), (w2.heap.size, 4, .int .i64 0), (w2.heap.size, 5, .int .i64 0), (w2.heap.size, 6, .int .i64 0), (w2.heap.size, 7, .int .i64 0), (w2.heap.size, 8, .int .i64 0), (w2.heap.size, 9, .bool false), (w2.heap.size, 10, .bool false), (w2.heap.size, 11, .bool false), (w2.heap.size + 1, 0, .int .i64 9), (w2.heap.size + 1, 1, .int .i64 (-1)), (w2.heap.size + 1, 2, .int .i64 0), (w2.heap.size + 1, 3, .int .i64 (ad 0 1)), (w2.heap.size + 1, 4, .int .i64 (ad 0 120)), (w2.heap.size + 1, 5, .int .i64 0), (w2.heap.size + 1, 6, .int .i64 0), (w2.heap.size + 1, 7, .int .i64 0), (w2.heap.size + 1, 8, .int .i64 0), (w2.heap.size + 1, 9, .bool false), (w2.heap.size + 1, 10, .bool false), (w2.heap.size + 1, 11, .bool false)] w3 := Kept.of hb_w3 (by go_grown) (by go_size) (by omega) (by simp [go_sem] <;> omega)
  replace HC := Lib.hid ((HC.out.below (by go_grown)).below hb_w3)
  clear hb_w3
  have KH_w3 := Lib.hid K_w3
  have hw_w3 := K_w3.below
  have hz_w3 := K_w3.size
  have lA_w3 : w2.heap.size < w3.heap.size := by omega
  have lT_w3 : w2.heap.size + 1 < w3.heap.size := by omega
  clear K_w3
  have cA0_w3 := KH_w3.out.at (b := w2.heap.size) (o := 0) (v := .int .i64 7) (by simp)
  have fA0_w3 := KH_w3.out.free (b := w2.heap.size) (o := 0) (v := .int .i64 7) (by simp)
  have cA1_w3 := KH_w3.out.at (b := w2.heap.size) (o := 1) (v := .int .i64 0) (by simp)
  have fA1_w3 := KH_w3.out.free (b := w2.heap.size) (o := 1) (v := .int .i64 0) (by simp)
  have cA2_w3 := KH_w3.out.at (b := w2.heap.size) (o := 2) (v := .int .i64 1) (by simp)
  have fA2_w3 := KH_w3.out.free (b := w2.heap.size) (o := 2) (v := .int .i64 1) (by simp)
  have cA3_w3 := KH_w3.out.at (b := w2.heap.size) (o := 3) (v := .int .i64 0) (by simp)
  have fA3_w3 := KH_w3.out.free (b := w2.heap.size) (o := 3) (v := .int .i64 0) (by simp)
  have cA4_w3 := KH_w3.out.at (b := w2.heap.size) (o := 4) (v := .int .i64 0) (by simp)
  have fA4_w3 := KH_w3.out.free (b := w2.heap.size) (o := 4) (v := .int .i64 0) (by simp)
  have cA5_w3 := KH_w3.out.at (b := w2.heap.size) (o := 5) (v := .int .i64 0) (by simp)
  have fA5_w3 := KH_w3.out.free (b := w2.heap.size) (o := 5) (v := .int .i64 0) (by simp)
  have cA6_w3 := KH_w3.out.at (b := w2.heap.size) (o := 6) (v := .int .i64 0) (by simp)
  have fA6_w3 := KH_w3.out.free (b := w2.heap.size) (o := 6) (v := .int .i64 0) (by simp)
  have cA7_w3 := KH_w3.out.at (b := w2.heap.size) (o := 7) (v := .int .i64 0) (by simp)
  have fA7_w3 := KH_w3.out.free (b := w2.heap.size) (o := 7) (v := .int .i64 0) (by simp)
  have cA8_w3 := KH_w3.out.at (b := w2.heap.size) (o := 8) (v := .int .i64 0) (by simp)
  have fA8_w3 := KH_w3.out.free (b := w2.heap.size) (o := 8) (v := .int .i64 0) (by simp)
  have cA9_w3 := KH_w3.out.at (b := w2.heap.size) (o := 9) (v := .bool false) (by simp)
  have fA9_w3 := KH_w3.out.free (b := w2.heap.size) (o := 9) (v := .bool false) (by simp)
  have cA10_w3 := KH_w3.out.at (b := w2.heap.size) (o := 10) (v := .bool false) (by simp)
  have fA10_w3 := KH_w3.out.free (b := w2.heap.size) (o := 10) (v := .bool false) (by simp)
  have cA11_w3 := KH_w3.out.at (b := w2.heap.size) (o := 11) (v := .bool false) (by simp)
  have fA11_w3 := KH_w3.out.free (b := w2.heap.size) (o := 11) (v := .bool false) (by simp)
  have cT0_w3 := KH_w3.out.at (b := w2.heap.size + 1) (o := 0) (v := .int .i64 9) (by simp)
  have fT0_w3 := KH_w3.out.free (b := w2.heap.size + 1) (o := 0) (v := .int .i64 9) (by simp)
  have cT1_w3 := KH_w3.out.at (b := w2.heap.size + 1) (o := 1) (v := .int .i64 (-1)) (by simp)
  have fT1_w3 := KH_w3.out.free (b := w2.heap.size + 1) (o := 1) (v := .int .i64 (-1)) (by simp)
  have cT2_w3 := KH_w3.out.at (b := w2.heap.size + 1) (o := 2) (v := .int .i64 0) (by simp)
  have fT2_w3 := KH_w3.out.free (b := w2.heap.size + 1) (o := 2) (v := .int .i64 0) (by simp)
  have cT3_w3 := KH_w3.out.at (b := w2.heap.size + 1) (o := 3) (v := .int .i64 (ad 0 1)) (by simp)
  have fT3_w3 := KH_w3.out.free (b := w2.heap.size + 1) (o := 3) (v := .int .i64 (ad 0 1)) (by simp)
  have cT4_w3 := KH_w3.out.at (b := w2.heap.size + 1) (o := 4) (v := .int .i64 (ad 0 120)) (by simp)
  have fT4_w3 := KH_w3.out.free (b := w2.heap.size + 1) (o := 4) (v := .int .i64 (ad 0 120)) (by simp)
  have cT5_w3 := KH_w3.out.at (b := w2.heap.size + 1) (o := 5) (v := .int .i64 0) (by simp)
  have fT5_w3 := KH_w3.out.free (b := w2.heap.size + 1) (o := 5) (v := .int .i64 0) (by simp)
  have cT6_w3 := KH_w3.out.at (b := w2.heap.size + 1) (o := 6) (v := .int .i64 0) (by simp)
  have fT6_w3 := KH_w3.out.free (b := w2.heap.size + 1) (o := 6) (v := .int .i64 0) (by simp)
  have cT7_w3 := KH_w3.out.at (b := w2.heap.size + 1) (o := 7) (v := .int .i64 0) (by simp)
  have fT7_w3 := KH_w3.out.free (b := w2.heap.size + 1) (o := 7) (v := .int .i64 0) (by simp)
  have cT8_w3 := KH_w3.out.at (b := w2.heap.size + 1) (o := 8) (v := .int .i64 0) (by simp)
  have fT8_w3 := KH_w3.out.free (b := w2.heap.size + 1) (o := 8) (v := .int .i64 0) (by simp)
  have cT9_w3 := KH_w3.out.at (b := w2.heap.size + 1) (o := 9) (v := .bool false) (by simp)
  have fT9_w3 := KH_w3.out.free (b := w2.heap.size + 1) (o := 9) (v := .bool false) (by simp)
  have cT10_w3 := KH_w3.out.at (b := w2.heap.size + 1) (o := 10) (v := .bool false) (by simp)
  have fT10_w3 := KH_w3.out.free (b := w2.heap.size + 1) (o := 10) (v := .bool false) (by simp)
  have cT11_w3 := KH_w3.out.at (b := w2.heap.size + 1) (o := 11) (v := .bool false) (by simp)
  have fT11_w3 := KH_w3.out.free (b := w2.heap.size + 1) (o := 11) (v := .bool false) (by simp)
  go_wp2_with fail
  with_reducible refine (opowerc _ kcs ⟨7, 0, 1, 0, 0, 0, 0, 0, 0, false, false, false⟩ _ (HC.out.below (by go_grown)) kcs_I (I_lit _ (by decide +kernel)) 2 (by decide +kernel)).mono ?_
  rintro e w4 ⟨rfl, hb_w4⟩
  have K_w4 : Kept w.heap.size w (w3.heap.size + 1) [(w2.heap.size, 0, .int .i64 7), (w2.heap.size, 1, .int .i64 0), (w2.heap.size, 2, .int .i64 1), (w2.heap.size, 3, .int .i64 0), (w2.heap.size, 4, .int .i64 0), (w2.heap.size, 5, .int .i64 0), (w2.heap.size, 6, .int .i64 0), (w2.heap.size, 7, .int .i64 0), (w2.heap.size, 8, .int .i64 0), (w2.heap.size, 9, .bool false), (w2.heap.size, 10, .bool false), (w2.heap.size, 11, .bool false), (w2.heap.size + 1, 0, .int .i64 9), (w2.heap.size + 1, 1, .int .i64 (-1)), (w2.heap.size + 1, 2, .int .i64 0), (w2.heap.size + 1, 3, .int .i64 (ad 0 1)), (w2.heap.size + 1, 4, .int .i64 (ad 0 120)), (w2.heap.size + 1, 5, .int .i64 0), (w2.heap.size + 1, 6, .int .i64 0), (w2.heap.size + 1, 7, .int .i64 0), (w2.heap.size + 1, 8, .int .i64 0), (w2.heap.size + 1, 9, .bool false), (w2.heap.size + 1, 10, .bool false), (w2.heap.size + 1, 11, .bool false), (w3.heap.size, 0, .int .i64 7), (w3.heap.size, 1, .int .i64 0), (w3.heap.size, 2, .int .i64 1), (w3.heap.size, 3, .int .i64 0), (w3.heap.size, 4, .int .i64 0), (w3.heap.size, 5, .int .i64 0), (w3.heap.size, 6, .int .i64 (ad 0 2)), (w3.heap.size, 7, .int .i64 0), (w3.heap.size, 8, .int .i64 0), (w3.heap.size, 9, .bool false), (w3.heap.size, 10, .bool false), (w3.heap.size, 11, .bool false)] w4 := Kept.of hb_w4 (by go_grown) (by go_size) (by omega) (by simp [go_sem, lA_w3, lT_w3, cA0_w3, fA0_w3, cA1_w3, fA1_w3, cA2_w3, fA2_w3, cA3_w3, fA3_w3, cA4_w3, fA4_w3, cA5_w3, fA5_w3, cA6_w3, fA6_w3, cA7_w3, fA7_w3, cA8_w3, fA8_w3, cA9_w3, fA9_w3, cA10_w3, fA10_w3, cA11_w3, fA11_w3, cT0_w3, fT0_w3, cT1_w3, fT1_w3, cT2_w3, fT2_w3, cT3_w3, fT3_w3, cT4_w3, fT4_w3, cT5_w3, fT5_w3, cT6_w3, fT6_w3, cT7_w3, fT7_w3, cT8_w3, fT8_w3, cT9_w3, fT9_w3, cT10_w3, fT10_w3, cT11_w3, fT11_w3] <;> omega)
  replace HC := Lib.hid ((HC.out.below (by go_grown)).below hb_w4)
  clear hb_w4
  have KH_w4 := Lib.hid K_w4
  have hw_w4 := K_w4.below
  have hz_w4 := K_w4.size
  have lA_w4 : w2.heap.size < w4.heap.size := by omega
  have lT_w4 : w2.heap.size + 1 < w4.heap.size := by omega
  have lW_w4 : w3.heap.size < w4.heap.size := by omega
  clear lA_w3 lT_w3 cA0_w3 fA0_w3 cA1_w3 fA1_w3 cA2_w3 fA2_w3 cA3_w3 fA3_w3 cA4_w3 fA4_w3 cA5_w3 fA5_w3 cA6_w3 fA6_w3 cA7_w3 fA7_w3 cA8_w3 fA8_w3 cA9_w3 fA9_w3 cA10_w3 fA10_w3 cA11_w3 fA11_w3 cT0_w3 fT0_w3 cT1_w3 fT1_w3 cT2_w3 fT2_w3 cT3_w3 fT3_w3 cT4_w3 fT4_w3 cT5_w3 fT5_w3 cT6_w3 fT6_w3 cT7_w3 fT7_w3 cT8_w3 fT8_w3 cT9_w3 fT9_w3 cT10_w3 fT10_w3 cT11_w3 fT11_w3
  clear K_w4
  have cA0_w4 := KH_w4.out.at (b := w2.heap.size) (o := 0) (v := .int .i64 7) (by simp)
  have fA0_w4 := KH_w4.out.free (b := w2.heap.size) (o := 0) (v := .int .i64 7) (by simp)
  have cA1_w4 := KH_w4.out.at (b := w2.heap.size) (o := 1) (v := .int .i64 0) (by simp)
  have fA1_w4 := KH_w4.out.free (b := w2.heap.size) (o := 1) (v := .int .i64 0) (by simp)
  have cA2_w4 := KH_w4.out.at (b := w2.heap.size) (o := 2) (v := .int .i64 1) (by simp)
  have fA2_w4 := KH_w4.out.free (b := w2.heap.size) (o := 2) (v := .int .i64 1) (by simp)
  have cA3_w4 := KH_w4.out.at (b := w2.heap.size) (o := 3) (v := .int .i64 0) (by simp)
  have fA3_w4 := KH_w4.out.free (b := w2.heap.size) (o := 3) (v := .int .i64 0) (by simp)
  have cA4_w4 := KH_w4.out.at (b := w2.heap.size) (o := 4) (v := .int .i64 0) (by simp)
  have fA4_w4 := KH_w4.out.free (b := w2.heap.size) (o := 4) (v := .int .i64 0) (by simp)
  have cA5_w4 := KH_w4.out.at (b := w2.heap.size) (o := 5) (v := .int .i64 0) (by simp)
  have fA5_w4 := KH_w4.out.free (b := w2.heap.size) (o := 5) (v := .int .i64 0) (by simp)
  have cA6_w4 := KH_w4.out.at (b := w2.heap.size) (o := 6) (v := .int .i64 0) (by simp)
  have fA6_w4 := KH_w4.out.free (b := w2.heap.size) (o := 6) (v := .int .i64 0) (by simp)
  have cA7_w4 := KH_w4.out.at (b := w2.heap.size) (o := 7) (v := .int .i64 0) (by simp)
  have fA7_w4 := KH_w4.out.free (b := w2.heap.size) (o := 7) (v := .int .i64 0) (by simp)
  have cA8_w4 := KH_w4.out.at (b := w2.heap.size) (o := 8) (v := .int .i64 0) (by simp)
  have fA8_w4 := KH_w4.out.free (b := w2.heap.size) (o := 8) (v := .int .i64 0) (by simp)
  have cA9_w4 := KH_w4.out.at (b := w2.heap.size) (o := 9) (v := .bool false) (by simp)
  have fA9_w4 := KH_w4.out.free (b := w2.heap.size) (o := 9) (v := .bool false) (by simp)
  have cA10_w4 := KH_w4.out.at (b := w2.heap.size) (o := 10) (v := .bool false) (by simp)
  have fA10_w4 := KH_w4.out.free (b := w2.heap.size) (o := 10) (v := .bool false) (by simp)
  have cA11_w4 := KH_w4.out.at (b := w2.heap.size) (o := 11) (v := .bool false) (by simp)
  have fA11_w4 := KH_w4.out.free (b := w2.heap.size) (o := 11) (v := .bool false) (by simp)
  go_wp2_with fail
  with_reducible refine (otoughc _ kcs ⟨7, 0, 1, 0, 0, 0, 0, 0, 0, false, false, false⟩ _ HC.out kcs_I (I_lit _ (by decide +kernel)) 3 (by decide +kernel)).mono ?_
  rintro e w5 ⟨rfl, hb_w5⟩
  have K_w5 := (KH_w4.out.step (by omega) (by go_grown)).step (by omega) hb_w5
  replace HC := Lib.hid (HC.out.below hb_w5)
  clear hb_w5
  have KH_w5 := Lib.hid K_w5
  have hw_w5 := K_w5.below
  have hz_w5 := K_w5.size
  have lA_w5 : w2.heap.size < w5.heap.size := by omega
  have lT_w5 : w2.heap.size + 1 < w5.heap.size := by omega
  have lW_w5 : w3.heap.size < w5.heap.size := by omega
  clear lA_w4 lT_w4 lW_w4 cA0_w4 fA0_w4 cA1_w4 fA1_w4 cA2_w4 fA2_w4 cA3_w4 fA3_w4 cA4_w4 fA4_w4 cA5_w4 fA5_w4 cA6_w4 fA6_w4 cA7_w4 fA7_w4 cA8_w4 fA8_w4 cA9_w4 fA9_w4 cA10_w4 fA10_w4 cA11_w4 fA11_w4
  clear K_w5
  have cW0_w5 := KH_w5.out.at (b := w3.heap.size) (o := 0) (v := .int .i64 7) (by simp)
  have fW0_w5 := KH_w5.out.free (b := w3.heap.size) (o := 0) (v := .int .i64 7) (by simp)
  have cW1_w5 := KH_w5.out.at (b := w3.heap.size) (o := 1) (v := .int .i64 0) (by simp)
  have fW1_w5 := KH_w5.out.free (b := w3.heap.size) (o := 1) (v := .int .i64 0) (by simp)
  have cW2_w5 := KH_w5.out.at (b := w3.heap.size) (o := 2) (v := .int .i64 1) (by simp)
  have fW2_w5 := KH_w5.out.free (b := w3.heap.size) (o := 2) (v := .int .i64 1) (by simp)
  have cW3_w5 := KH_w5.out.at (b := w3.heap.size) (o := 3) (v := .int .i64 0) (by simp)
  have fW3_w5 := KH_w5.out.free (b := w3.heap.size) (o := 3) (v := .int .i64 0) (by simp)
  have cW4_w5 := KH_w5.out.at (b := w3.heap.size) (o := 4) (v := .int .i64 0) (by simp)
  have fW4_w5 := KH_w5.out.free (b := w3.heap.size) (o := 4) (v := .int .i64 0) (by simp)
  have cW5_w5 := KH_w5.out.at (b := w3.heap.size) (o := 5) (v := .int .i64 0) (by simp)
  have fW5_w5 := KH_w5.out.free (b := w3.heap.size) (o := 5) (v := .int .i64 0) (by simp)
  have cW6_w5 := KH_w5.out.at (b := w3.heap.size) (o := 6) (v := .int .i64 (ad 0 2)) (by simp)
  have fW6_w5 := KH_w5.out.free (b := w3.heap.size) (o := 6) (v := .int .i64 (ad 0 2)) (by simp)
  have cW7_w5 := KH_w5.out.at (b := w3.heap.size) (o := 7) (v := .int .i64 0) (by simp)
  have fW7_w5 := KH_w5.out.free (b := w3.heap.size) (o := 7) (v := .int .i64 0) (by simp)
  have cW8_w5 := KH_w5.out.at (b := w3.heap.size) (o := 8) (v := .int .i64 0) (by simp)
  have fW8_w5 := KH_w5.out.free (b := w3.heap.size) (o := 8) (v := .int .i64 0) (by simp)
  have cW9_w5 := KH_w5.out.at (b := w3.heap.size) (o := 9) (v := .bool false) (by simp)
  have fW9_w5 := KH_w5.out.free (b := w3.heap.size) (o := 9) (v := .bool false) (by simp)
  have cW10_w5 := KH_w5.out.at (b := w3.heap.size) (o := 10) (v := .bool false) (by simp)
  have fW10_w5 := KH_w5.out.free (b := w3.heap.size) (o := 10) (v := .bool false) (by simp)
  have cW11_w5 := KH_w5.out.at (b := w3.heap.size) (o := 11) (v := .bool false) (by simp)
  have fW11_w5 := KH_w5.out.free (b := w3.heap.size) (o := 11) (v := .bool false) (by simp)
  go_wp2_with fail
  with_reducible refine (opowerc _ kcs ⟨7, 0, 1, 0, 0, 0, (ad 0 2), 0, 0, false, false, false⟩ _ HC.out kcs_I (I_lit _ (by decide +kernel)) 4 (by decide +kernel)).mono ?_
  rintro e w6 ⟨rfl, hb_w6⟩
  have K_w6 := (KH_w5.out.step (by omega) (by go_grown)).step (by omega) hb_w6
  replace HC := Lib.hid (HC.out.below hb_w6)
  clear hb_w6
  have KH_w6 := Lib.hid K_w6
  have hw_w6 := K_w6.below
  have hz_w6 := K_w6.size
  have lA_w6 : w2.heap.size < w6.heap.size := by omega
  have lT_w6 : w2.heap.size + 1 < w6.heap.size := by omega
  have lW_w6 : w3.heap.size < w6.heap.size := by omega
  clear lA_w5 lT_w5 lW_w5 cW0_w5 fW0_w5 cW1_w5 fW1_w5 cW2_w5 fW2_w5 cW3_w5 fW3_w5 cW4_w5 fW4_w5 cW5_w5 fW5_w5 cW6_w5 fW6_w5 cW7_w5 fW7_w5 cW8_w5 fW8_w5 cW9_w5 fW9_w5 cW10_w5 fW10_w5 cW11_w5 fW11_w5
  clear K_w6
  have cW0_w6 := KH_w6.out.at (b := w3.heap.size) (o := 0) (v := .int .i64 7) (by simp)
  have fW0_w6 := KH_w6.out.free (b := w3.heap.size) (o := 0) (v := .int .i64 7) (by simp)
  have cW1_w6 := KH_w6.out.at (b := w3.heap.size) (o := 1) (v := .int .i64 0) (by simp)
  have fW1_w6 := KH_w6.out.free (b := w3.heap.size) (o := 1) (v := .int .i64 0) (by simp)
  have cW2_w6 := KH_w6.out.at (b := w3.heap.size) (o := 2) (v := .int .i64 1) (by simp)
  have fW2_w6 := KH_w6.out.free (b := w3.heap.size) (o := 2) (v := .int .i64 1) (by simp)
  have cW3_w6 := KH_w6.out.at (b := w3.heap.size) (o := 3) (v := .int .i64 0) (by simp)
  have fW3_w6 := KH_w6.out.free (b := w3.heap.size) (o := 3) (v := .int .i64 0) (by simp)
  have cW4_w6 := KH_w6.out.at (b := w3.heap.size) (o := 4) (v := .int .i64 0) (by simp)
  have fW4_w6 := KH_w6.out.free (b := w3.heap.size) (o := 4) (v := .int .i64 0) (by simp)
  have cW5_w6 := KH_w6.out.at (b := w3.heap.size) (o := 5) (v := .int .i64 0) (by simp)
  have fW5_w6 := KH_w6.out.free (b := w3.heap.size) (o := 5) (v := .int .i64 0) (by simp)
  have cW6_w6 := KH_w6.out.at (b := w3.heap.size) (o := 6) (v := .int .i64 (ad 0 2)) (by simp)
  have fW6_w6 := KH_w6.out.free (b := w3.heap.size) (o := 6) (v := .int .i64 (ad 0 2)) (by simp)
  have cW7_w6 := KH_w6.out.at (b := w3.heap.size) (o := 7) (v := .int .i64 0) (by simp)
  have fW7_w6 := KH_w6.out.free (b := w3.heap.size) (o := 7) (v := .int .i64 0) (by simp)
  have cW8_w6 := KH_w6.out.at (b := w3.heap.size) (o := 8) (v := .int .i64 0) (by simp)
  have fW8_w6 := KH_w6.out.free (b := w3.heap.size) (o := 8) (v := .int .i64 0) (by simp)
  have cW9_w6 := KH_w6.out.at (b := w3.heap.size) (o := 9) (v := .bool false) (by simp)
  have fW9_w6 := KH_w6.out.free (b := w3.heap.size) (o := 9) (v := .bool false) (by simp)
  have cW10_w6 := KH_w6.out.at (b := w3.heap.size) (o := 10) (v := .bool false) (by simp)
  have fW10_w6 := KH_w6.out.free (b := w3.heap.size) (o := 10) (v := .bool false) (by simp)
  have cW11_w6 := KH_w6.out.at (b := w3.heap.size) (o := 11) (v := .bool false) (by simp)
  have fW11_w6 := KH_w6.out.free (b := w3.heap.size) (o := 11) (v := .bool false) (by simp)
  go_wp2_with fail
  with_reducible refine (opump ⟨7, 0, 1, 0, 0, 0, (ad 0 2), 0, 0, false, false, false⟩ 1 96 _ (by decide) (by decide) (by decide) (by decide)).mono ?_
  rintro e w7 ⟨rfl, hb_w7⟩
  have K_w7 := (KH_w6.out.step (by omega) (by go_grown)).step (by omega) hb_w7
  replace HC := Lib.hid (HC.out.below hb_w7)
  clear hb_w7
  have KH_w7 := Lib.hid K_w7
  have hw_w7 := K_w7.below
  have hz_w7 := K_w7.size
  have lA_w7 : w2.heap.size < w7.heap.size := by omega
  have lT_w7 : w2.heap.size + 1 < w7.heap.size := by omega
  have lW_w7 : w3.heap.size < w7.heap.size := by omega
  clear lA_w6 lT_w6 lW_w6 cW0_w6 fW0_w6 cW1_w6 fW1_w6 cW2_w6 fW2_w6 cW3_w6 fW3_w6 cW4_w6 fW4_w6 cW5_w6 fW5_w6 cW6_w6 fW6_w6 cW7_w6 fW7_w6 cW8_w6 fW8_w6 cW9_w6 fW9_w6 cW10_w6 fW10_w6 cW11_w6 fW11_w6
  clear K_w7
  go_wp2_with fail
  with_reducible refine (otoughc _ kcs ⟨7, 0, 1, 0, 0, 0, (ad 0 2), (ad 0 1), (ad 0 96), false, false, false⟩ _ HC.out kcs_I (I_lit _ (by decide +kernel)) 99 (by decide +kernel)).mono ?_
  rintro e w8 ⟨rfl, hb_w8⟩
  have K_w8 := (KH_w7.out.step (by omega) (by go_grown)).step (by omega) hb_w8
  replace HC := Lib.hid (HC.out.below hb_w8)
  clear hb_w8
  have KH_w8 := Lib.hid K_w8
  have hw_w8 := K_w8.below
  have hz_w8 := K_w8.size
  have lA_w8 : w2.heap.size < w8.heap.size := by omega
  have lT_w8 : w2.heap.size + 1 < w8.heap.size := by omega
  have lW_w8 : w3.heap.size < w8.heap.size := by omega
  clear lA_w7 lT_w7 lW_w7
  clear K_w8
  have cT0_w8 := KH_w8.out.at (b := w2.heap.size + 1) (o := 0) (v := .int .i64 9) (by simp)
  have fT0_w8 := KH_w8.out.free (b := w2.heap.size + 1) (o := 0) (v := .int .i64 9) (by simp)
  have cT1_w8 := KH_w8.out.at (b := w2.heap.size + 1) (o := 1) (v := .int .i64 (-1)) (by simp)
  have fT1_w8 := KH_w8.out.free (b := w2.heap.size + 1) (o := 1) (v := .int .i64 (-1)) (by simp)
  have cT2_w8 := KH_w8.out.at (b := w2.heap.size + 1) (o := 2) (v := .int .i64 0) (by simp)
  have fT2_w8 := KH_w8.out.free (b := w2.heap.size + 1) (o := 2) (v := .int .i64 0) (by simp)
  have cT3_w8 := KH_w8.out.at (b := w2.heap.size + 1) (o := 3) (v := .int .i64 (ad 0 1)) (by simp)
  have fT3_w8 := KH_w8.out.free (b := w2.heap.size + 1) (o := 3) (v := .int .i64 (ad 0 1)) (by simp)
  have cT4_w8 := KH_w8.out.at (b := w2.heap.size + 1) (o := 4) (v := .int .i64 (ad 0 120)) (by simp)
  have fT4_w8 := KH_w8.out.free (b := w2.heap.size + 1) (o := 4) (v := .int .i64 (ad 0 120)) (by simp)
  have cT5_w8 := KH_w8.out.at (b := w2.heap.size + 1) (o := 5) (v := .int .i64 0) (by simp)
  have fT5_w8 := KH_w8.out.free (b := w2.heap.size + 1) (o := 5) (v := .int .i64 0) (by simp)
  have cT6_w8 := KH_w8.out.at (b := w2.heap.size + 1) (o := 6) (v := .int .i64 0) (by simp)
  have fT6_w8 := KH_w8.out.free (b := w2.heap.size + 1) (o := 6) (v := .int .i64 0) (by simp)
  have cT7_w8 := KH_w8.out.at (b := w2.heap.size + 1) (o := 7) (v := .int .i64 0) (by simp)
  have fT7_w8 := KH_w8.out.free (b := w2.heap.size + 1) (o := 7) (v := .int .i64 0) (by simp)
  have cT8_w8 := KH_w8.out.at (b := w2.heap.size + 1) (o := 8) (v := .int .i64 0) (by simp)
  have fT8_w8 := KH_w8.out.free (b := w2.heap.size + 1) (o := 8) (v := .int .i64 0) (by simp)
  have cT9_w8 := KH_w8.out.at (b := w2.heap.size + 1) (o := 9) (v := .bool false) (by simp)
  have fT9_w8 := KH_w8.out.free (b := w2.heap.size + 1) (o := 9) (v := .bool false) (by simp)
  have cT10_w8 := KH_w8.out.at (b := w2.heap.size + 1) (o := 10) (v := .bool false) (by simp)
  have fT10_w8 := KH_w8.out.free (b := w2.heap.size + 1) (o := 10) (v := .bool false) (by simp)
  have cT11_w8 := KH_w8.out.at (b := w2.heap.size + 1) (o := 11) (v := .bool false) (by simp)
  have fT11_w8 := KH_w8.out.free (b := w2.heap.size + 1) (o := 11) (v := .bool false) (by simp)
  go_wp2_with fail
  with_reducible refine (otoughc _ kcs ⟨9, (-1), 0, (ad 0 1), (ad 0 120), 0, 0, 0, 0, false, false, false⟩ _ HC.out kcs_I (I_lit _ (by decide +kernel)) 99 (by decide +kernel)).mono ?_
  rintro e w9 ⟨rfl, hb_w9⟩
  have K_w9 := (KH_w8.out.step (by omega) (by go_grown)).step (by omega) hb_w9
  replace HC := Lib.hid (HC.out.below hb_w9)
  clear hb_w9
  have KH_w9 := Lib.hid K_w9
  have hw_w9 := K_w9.below
  have hz_w9 := K_w9.size
  have lA_w9 : w2.heap.size < w9.heap.size := by omega
  have lT_w9 : w2.heap.size + 1 < w9.heap.size := by omega
  have lW_w9 : w3.heap.size < w9.heap.size := by omega
  clear lA_w8 lT_w8 lW_w8 cT0_w8 fT0_w8 cT1_w8 fT1_w8 cT2_w8 fT2_w8 cT3_w8 fT3_w8 cT4_w8 fT4_w8 cT5_w8 fT5_w8 cT6_w8 fT6_w8 cT7_w8 fT7_w8 cT8_w8 fT8_w8 cT9_w8 fT9_w8 cT10_w8 fT10_w8 cT11_w8 fT11_w8
  clear K_w9
  have cA0_w9 := KH_w9.out.at (b := w2.heap.size) (o := 0) (v := .int .i64 7) (by simp)
  have fA0_w9 := KH_w9.out.free (b := w2.heap.size) (o := 0) (v := .int .i64 7) (by simp)
  have cA1_w9 := KH_w9.out.at (b := w2.heap.size) (o := 1) (v := .int .i64 0) (by simp)
  have fA1_w9 := KH_w9.out.free (b := w2.heap.size) (o := 1) (v := .int .i64 0) (by simp)
  have cA2_w9 := KH_w9.out.at (b := w2.heap.size) (o := 2) (v := .int .i64 1) (by simp)
  have fA2_w9 := KH_w9.out.free (b := w2.heap.size) (o := 2) (v := .int .i64 1) (by simp)
  have cA3_w9 := KH_w9.out.at (b := w2.heap.size) (o := 3) (v := .int .i64 0) (by simp)
  have fA3_w9 := KH_w9.out.free (b := w2.heap.size) (o := 3) (v := .int .i64 0) (by simp)
  have cA4_w9 := KH_w9.out.at (b := w2.heap.size) (o := 4) (v := .int .i64 0) (by simp)
  have fA4_w9 := KH_w9.out.free (b := w2.heap.size) (o := 4) (v := .int .i64 0) (by simp)
  have cA5_w9 := KH_w9.out.at (b := w2.heap.size) (o := 5) (v := .int .i64 0) (by simp)
  have fA5_w9 := KH_w9.out.free (b := w2.heap.size) (o := 5) (v := .int .i64 0) (by simp)
  have cA6_w9 := KH_w9.out.at (b := w2.heap.size) (o := 6) (v := .int .i64 0) (by simp)
  have fA6_w9 := KH_w9.out.free (b := w2.heap.size) (o := 6) (v := .int .i64 0) (by simp)
  have cA7_w9 := KH_w9.out.at (b := w2.heap.size) (o := 7) (v := .int .i64 0) (by simp)
  have fA7_w9 := KH_w9.out.free (b := w2.heap.size) (o := 7) (v := .int .i64 0) (by simp)
  have cA8_w9 := KH_w9.out.at (b := w2.heap.size) (o := 8) (v := .int .i64 0) (by simp)
  have fA8_w9 := KH_w9.out.free (b := w2.heap.size) (o := 8) (v := .int .i64 0) (by simp)
  have cA9_w9 := KH_w9.out.at (b := w2.heap.size) (o := 9) (v := .bool false) (by simp)
  have fA9_w9 := KH_w9.out.free (b := w2.heap.size) (o := 9) (v := .bool false) (by simp)
  have cA10_w9 := KH_w9.out.at (b := w2.heap.size) (o := 10) (v := .bool false) (by simp)
  have fA10_w9 := KH_w9.out.free (b := w2.heap.size) (o := 10) (v := .bool false) (by simp)
  have cA11_w9 := KH_w9.out.at (b := w2.heap.size) (o := 11) (v := .bool false) (by simp)
  have fA11_w9 := KH_w9.out.free (b := w2.heap.size) (o := 11) (v := .bool false) (by simp)
  go_wp2_with fail
  with_reducible refine (ohit ⟨7, 0, 1, 0, 0, 0, 0, 0, 0, false, false, false⟩ 2 _ (by decide) (by decide)).mono ?_
  rintro e w10 ⟨rfl, hb_w10⟩
  have K_w10 := (KH_w9.out.step (by omega) (by go_grown)).step (by omega) hb_w10
  replace HC := Lib.hid (HC.out.below hb_w10)
  clear hb_w10
  have KH_w10 := Lib.hid K_w10
  have hw_w10 := K_w10.below
  have hz_w10 := K_w10.size
  have lA_w10 : w2.heap.size < w10.heap.size := by omega
  have lT_w10 : w2.heap.size + 1 < w10.heap.size := by omega
  have lW_w10 : w3.heap.size < w10.heap.size := by omega
  clear lA_w9 lT_w9 lW_w9 cA0_w9 fA0_w9 cA1_w9 fA1_w9 cA2_w9 fA2_w9 cA3_w9 fA3_w9 cA4_w9 fA4_w9 cA5_w9 fA5_w9 cA6_w9 fA6_w9 cA7_w9 fA7_w9 cA8_w9 fA8_w9 cA9_w9 fA9_w9 cA10_w9 fA10_w9 cA11_w9 fA11_w9
  clear K_w10
  go_wp2_with fail
  with_reducible refine (odeadc _ kcs ⟨7, 0, 1, 0, 0, (ad 0 2), 0, 0, 0, false, false, false⟩ _ HC.out kcs_I (I_lit _ (by decide +kernel)) false (by decide +kernel)).mono ?_
  rintro e w11 ⟨rfl, hb_w11⟩
  have K_w11 := (KH_w10.out.step (by omega) (by go_grown)).step (by omega) hb_w11
  replace HC := Lib.hid (HC.out.below hb_w11)
  clear hb_w11
  have KH_w11 := Lib.hid K_w11
  have hw_w11 := K_w11.below
  have hz_w11 := K_w11.size
  have lA_w11 : w2.heap.size < w11.heap.size := by omega
  have lT_w11 : w2.heap.size + 1 < w11.heap.size := by omega
  have lW_w11 : w3.heap.size < w11.heap.size := by omega
  clear lA_w10 lT_w10 lW_w10
  clear K_w11
  have cA0_w11 := KH_w11.out.at (b := w2.heap.size) (o := 0) (v := .int .i64 7) (by simp)
  have fA0_w11 := KH_w11.out.free (b := w2.heap.size) (o := 0) (v := .int .i64 7) (by simp)
  have cA1_w11 := KH_w11.out.at (b := w2.heap.size) (o := 1) (v := .int .i64 0) (by simp)
  have fA1_w11 := KH_w11.out.free (b := w2.heap.size) (o := 1) (v := .int .i64 0) (by simp)
  have cA2_w11 := KH_w11.out.at (b := w2.heap.size) (o := 2) (v := .int .i64 1) (by simp)
  have fA2_w11 := KH_w11.out.free (b := w2.heap.size) (o := 2) (v := .int .i64 1) (by simp)
  have cA3_w11 := KH_w11.out.at (b := w2.heap.size) (o := 3) (v := .int .i64 0) (by simp)
  have fA3_w11 := KH_w11.out.free (b := w2.heap.size) (o := 3) (v := .int .i64 0) (by simp)
  have cA4_w11 := KH_w11.out.at (b := w2.heap.size) (o := 4) (v := .int .i64 0) (by simp)
  have fA4_w11 := KH_w11.out.free (b := w2.heap.size) (o := 4) (v := .int .i64 0) (by simp)
  have cA5_w11 := KH_w11.out.at (b := w2.heap.size) (o := 5) (v := .int .i64 0) (by simp)
  have fA5_w11 := KH_w11.out.free (b := w2.heap.size) (o := 5) (v := .int .i64 0) (by simp)
  have cA6_w11 := KH_w11.out.at (b := w2.heap.size) (o := 6) (v := .int .i64 0) (by simp)
  have fA6_w11 := KH_w11.out.free (b := w2.heap.size) (o := 6) (v := .int .i64 0) (by simp)
  have cA7_w11 := KH_w11.out.at (b := w2.heap.size) (o := 7) (v := .int .i64 0) (by simp)
  have fA7_w11 := KH_w11.out.free (b := w2.heap.size) (o := 7) (v := .int .i64 0) (by simp)
  have cA8_w11 := KH_w11.out.at (b := w2.heap.size) (o := 8) (v := .int .i64 0) (by simp)
  have fA8_w11 := KH_w11.out.free (b := w2.heap.size) (o := 8) (v := .int .i64 0) (by simp)
  have cA9_w11 := KH_w11.out.at (b := w2.heap.size) (o := 9) (v := .bool false) (by simp)
  have fA9_w11 := KH_w11.out.free (b := w2.heap.size) (o := 9) (v := .bool false) (by simp)
  have cA10_w11 := KH_w11.out.at (b := w2.heap.size) (o := 10) (v := .bool false) (by simp)
  have fA10_w11 := KH_w11.out.free (b := w2.heap.size) (o := 10) (v := .bool false) (by simp)
  have cA11_w11 := KH_w11.out.at (b := w2.heap.size) (o := 11) (v := .bool false) (by simp)
  have fA11_w11 := KH_w11.out.free (b := w2.heap.size) (o := 11) (v := .bool false) (by simp)
  go_wp2_with fail
  with_reducible refine (ohit ⟨7, 0, 1, 0, 0, 0, 0, 0, 0, false, false, false⟩ 3 _ (by decide) (by decide)).mono ?_
  rintro e w12 ⟨rfl, hb_w12⟩
  have K_w12 := (KH_w11.out.step (by omega) (by go_grown)).step (by omega) hb_w12
  replace HC := Lib.hid (HC.out.below hb_w12)
  clear hb_w12
  have KH_w12 := Lib.hid K_w12
  have hw_w12 := K_w12.below
  have hz_w12 := K_w12.size
  have lA_w12 : w2.heap.size < w12.heap.size := by omega
  have lT_w12 : w2.heap.size + 1 < w12.heap.size := by omega
  have lW_w12 : w3.heap.size < w12.heap.size := by omega
  clear lA_w11 lT_w11 lW_w11 cA0_w11 fA0_w11 cA1_w11 fA1_w11 cA2_w11 fA2_w11 cA3_w11 fA3_w11 cA4_w11 fA4_w11 cA5_w11 fA5_w11 cA6_w11 fA6_w11 cA7_w11 fA7_w11 cA8_w11 fA8_w11 cA9_w11 fA9_w11 cA10_w11 fA10_w11 cA11_w11 fA11_w11
  clear K_w12
  go_wp2_with fail
  with_reducible refine (odeadc _ kcs ⟨7, 0, 1, 0, 0, (ad 0 3), 0, 0, 0, false, false, false⟩ _ HC.out kcs_I (I_lit _ (by decide +kernel)) true (by decide +kernel)).mono ?_
  rintro e w13 ⟨rfl, hb_w13⟩
  have K_w13 := (KH_w12.out.step (by omega) (by go_grown)).step (by omega) hb_w13
  replace HC := Lib.hid (HC.out.below hb_w13)
  clear hb_w13
  have KH_w13 := Lib.hid K_w13
  have hw_w13 := K_w13.below
  have hz_w13 := K_w13.size
  have lA_w13 : w2.heap.size < w13.heap.size := by omega
  have lT_w13 : w2.heap.size + 1 < w13.heap.size := by omega
  have lW_w13 : w3.heap.size < w13.heap.size := by omega
  clear lA_w12 lT_w12 lW_w12
  clear K_w13
  have cA0_w13 := KH_w13.out.at (b := w2.heap.size) (o := 0) (v := .int .i64 7) (by simp)
  have fA0_w13 := KH_w13.out.free (b := w2.heap.size) (o := 0) (v := .int .i64 7) (by simp)
  have cA1_w13 := KH_w13.out.at (b := w2.heap.size) (o := 1) (v := .int .i64 0) (by simp)
  have fA1_w13 := KH_w13.out.free (b := w2.heap.size) (o := 1) (v := .int .i64 0) (by simp)
  have cA2_w13 := KH_w13.out.at (b := w2.heap.size) (o := 2) (v := .int .i64 1) (by simp)
  have fA2_w13 := KH_w13.out.free (b := w2.heap.size) (o := 2) (v := .int .i64 1) (by simp)
  have cA3_w13 := KH_w13.out.at (b := w2.heap.size) (o := 3) (v := .int .i64 0) (by simp)
  have fA3_w13 := KH_w13.out.free (b := w2.heap.size) (o := 3) (v := .int .i64 0) (by simp)
  have cA4_w13 := KH_w13.out.at (b := w2.heap.size) (o := 4) (v := .int .i64 0) (by simp)
  have fA4_w13 := KH_w13.out.free (b := w2.heap.size) (o := 4) (v := .int .i64 0) (by simp)
  have cA5_w13 := KH_w13.out.at (b := w2.heap.size) (o := 5) (v := .int .i64 0) (by simp)
  have fA5_w13 := KH_w13.out.free (b := w2.heap.size) (o := 5) (v := .int .i64 0) (by simp)
  have cA6_w13 := KH_w13.out.at (b := w2.heap.size) (o := 6) (v := .int .i64 0) (by simp)
  have fA6_w13 := KH_w13.out.free (b := w2.heap.size) (o := 6) (v := .int .i64 0) (by simp)
  have cA7_w13 := KH_w13.out.at (b := w2.heap.size) (o := 7) (v := .int .i64 0) (by simp)
  have fA7_w13 := KH_w13.out.free (b := w2.heap.size) (o := 7) (v := .int .i64 0) (by simp)
  have cA8_w13 := KH_w13.out.at (b := w2.heap.size) (o := 8) (v := .int .i64 0) (by simp)
  have fA8_w13 := KH_w13.out.free (b := w2.heap.size) (o := 8) (v := .int .i64 0) (by simp)
  have cA9_w13 := KH_w13.out.at (b := w2.heap.size) (o := 9) (v := .bool false) (by simp)
  have fA9_w13 := KH_w13.out.free (b := w2.heap.size) (o := 9) (v := .bool false) (by simp)
  have cA10_w13 := KH_w13.out.at (b := w2.heap.size) (o := 10) (v := .bool false) (by simp)
  have fA10_w13 := KH_w13.out.free (b := w2.heap.size) (o := 10) (v := .bool false) (by simp)
  have cA11_w13 := KH_w13.out.at (b := w2.heap.size) (o := 11) (v := .bool false) (by simp)
  have fA11_w13 := KH_w13.out.free (b := w2.heap.size) (o := 11) (v := .bool false) (by simp)
  go_wp2_with fail
  with_reducible refine (ocount ⟨7, 0, 1, 0, 0, 0, 0, 0, 0, false, false, false⟩ 1 _ (by decide) (by decide)).mono ?_
  rintro e w14 ⟨rfl, hb_w14⟩
  have K_w14 := (KH_w13.out.step (by omega) (by go_grown)).step (by omega) hb_w14
  replace HC := Lib.hid (HC.out.below hb_w14)
  clear hb_w14
  have KH_w14 := Lib.hid K_w14
  have hw_w14 := K_w14.below
  have hz_w14 := K_w14.size
  have lA_w14 : w2.heap.size < w14.heap.size := by omega
  have lT_w14 : w2.heap.size + 1 < w14.heap.size := by omega
  have lW_w14 : w3.heap.size < w14.heap.size := by omega
  clear lA_w13 lT_w13 lW_w13 cA0_w13 fA0_w13 cA1_w13 fA1_w13 cA2_w13 fA2_w13 cA3_w13 fA3_w13 cA4_w13 fA4_w13 cA5_w13 fA5_w13 cA6_w13 fA6_w13 cA7_w13 fA7_w13 cA8_w13 fA8_w13 cA9_w13 fA9_w13 cA10_w13 fA10_w13 cA11_w13 fA11_w13
  clear K_w14
  go_wp2_with fail
  with_reducible refine (ohit ⟨7, 0, 1, 0, 0, 0, (ad 0 1), 0, 0, false, false, false⟩ 3 _ (by decide) (by decide)).mono ?_
  rintro e w15 ⟨rfl, hb_w15⟩
  have K_w15 := (KH_w14.out.step (by omega) (by go_grown)).step (by omega) hb_w15
  replace HC := Lib.hid (HC.out.below hb_w15)
  clear hb_w15
  have KH_w15 := Lib.hid K_w15
  have hw_w15 := K_w15.below
  have hz_w15 := K_w15.size
  have lA_w15 : w2.heap.size < w15.heap.size := by omega
  have lT_w15 : w2.heap.size + 1 < w15.heap.size := by omega
  have lW_w15 : w3.heap.size < w15.heap.size := by omega
  clear lA_w14 lT_w14 lW_w14
  clear K_w15
  go_wp2_with fail
  with_reducible refine (odeadc _ kcs ⟨7, 0, 1, 0, 0, (ad 0 3), (ad 0 1), 0, 0, false, false, false⟩ _ HC.out kcs_I (I_lit _ (by decide +kernel)) false (by decide +kernel)).mono ?_
  rintro e w16 ⟨rfl, hb_w16⟩
  have K_w16 := (KH_w15.out.step (by omega) (by go_grown)).step (by omega) hb_w16
  replace HC := Lib.hid (HC.out.below hb_w16)
  clear hb_w16
  have KH_w16 := Lib.hid K_w16
  have hw_w16 := K_w16.below
  have hz_w16 := K_w16.size
  have lA_w16 : w2.heap.size < w16.heap.size := by omega
  have lT_w16 : w2.heap.size + 1 < w16.heap.size := by omega
  have lW_w16 : w3.heap.size < w16.heap.size := by omega
  clear lA_w15 lT_w15 lW_w15
  clear K_w16
  have cA0_w16 := KH_w16.out.at (b := w2.heap.size) (o := 0) (v := .int .i64 7) (by simp)
  have fA0_w16 := KH_w16.out.free (b := w2.heap.size) (o := 0) (v := .int .i64 7) (by simp)
  have cA1_w16 := KH_w16.out.at (b := w2.heap.size) (o := 1) (v := .int .i64 0) (by simp)
  have fA1_w16 := KH_w16.out.free (b := w2.heap.size) (o := 1) (v := .int .i64 0) (by simp)
  have cA2_w16 := KH_w16.out.at (b := w2.heap.size) (o := 2) (v := .int .i64 1) (by simp)
  have fA2_w16 := KH_w16.out.free (b := w2.heap.size) (o := 2) (v := .int .i64 1) (by simp)
  have cA3_w16 := KH_w16.out.at (b := w2.heap.size) (o := 3) (v := .int .i64 0) (by simp)
  have fA3_w16 := KH_w16.out.free (b := w2.heap.size) (o := 3) (v := .int .i64 0) (by simp)
  have cA4_w16 := KH_w16.out.at (b := w2.heap.size) (o := 4) (v := .int .i64 0) (by simp)
  have fA4_w16 := KH_w16.out.free (b := w2.heap.size) (o := 4) (v := .int .i64 0) (by simp)
  have cA5_w16 := KH_w16.out.at (b := w2.heap.size) (o := 5) (v := .int .i64 0) (by simp)
  have fA5_w16 := KH_w16.out.free (b := w2.heap.size) (o := 5) (v := .int .i64 0) (by simp)
  have cA6_w16 := KH_w16.out.at (b := w2.heap.size) (o := 6) (v := .int .i64 0) (by simp)
  have fA6_w16 := KH_w16.out.free (b := w2.heap.size) (o := 6) (v := .int .i64 0) (by simp)
  have cA7_w16 := KH_w16.out.at (b := w2.heap.size) (o := 7) (v := .int .i64 0) (by simp)
  have fA7_w16 := KH_w16.out.free (b := w2.heap.size) (o := 7) (v := .int .i64 0) (by simp)
  have cA8_w16 := KH_w16.out.at (b := w2.heap.size) (o := 8) (v := .int .i64 0) (by simp)
  have fA8_w16 := KH_w16.out.free (b := w2.heap.size) (o := 8) (v := .int .i64 0) (by simp)
  have cA9_w16 := KH_w16.out.at (b := w2.heap.size) (o := 9) (v := .bool false) (by simp)
  have fA9_w16 := KH_w16.out.free (b := w2.heap.size) (o := 9) (v := .bool false) (by simp)
  have cA10_w16 := KH_w16.out.at (b := w2.heap.size) (o := 10) (v := .bool false) (by simp)
  have fA10_w16 := KH_w16.out.free (b := w2.heap.size) (o := 10) (v := .bool false) (by simp)
  have cA11_w16 := KH_w16.out.at (b := w2.heap.size) (o := 11) (v := .bool false) (by simp)
  have fA11_w16 := KH_w16.out.free (b := w2.heap.size) (o := 11) (v := .bool false) (by simp)
  go_wp2_with fail
  with_reducible refine (ohas _ kcs ⟨7, 0, 1, 0, 0, 0, 0, 0, 0, false, false, false⟩ _ HC.out 2 true (by decide +kernel)).mono ?_
  rintro e w17 ⟨rfl, hb_w17⟩
  have K_w17 := (KH_w16.out.step (by omega) (by go_grown)).step (by omega) hb_w17
  replace HC := Lib.hid (HC.out.below hb_w17)
  clear hb_w17
  have KH_w17 := Lib.hid K_w17
  have hw_w17 := K_w17.below
  have hz_w17 := K_w17.size
  have lA_w17 : w2.heap.size < w17.heap.size := by omega
  have lT_w17 : w2.heap.size + 1 < w17.heap.size := by omega
  have lW_w17 : w3.heap.size < w17.heap.size := by omega
  clear lA_w16 lT_w16 lW_w16 cA0_w16 fA0_w16 cA1_w16 fA1_w16 cA2_w16 fA2_w16 cA3_w16 fA3_w16 cA4_w16 fA4_w16 cA5_w16 fA5_w16 cA6_w16 fA6_w16 cA7_w16 fA7_w16 cA8_w16 fA8_w16 cA9_w16 fA9_w16 cA10_w16 fA10_w16 cA11_w16 fA11_w16
  clear K_w17
  have cA0_w17 := KH_w17.out.at (b := w2.heap.size) (o := 0) (v := .int .i64 7) (by simp)
  have fA0_w17 := KH_w17.out.free (b := w2.heap.size) (o := 0) (v := .int .i64 7) (by simp)
  have cA1_w17 := KH_w17.out.at (b := w2.heap.size) (o := 1) (v := .int .i64 0) (by simp)
  have fA1_w17 := KH_w17.out.free (b := w2.heap.size) (o := 1) (v := .int .i64 0) (by simp)
  have cA2_w17 := KH_w17.out.at (b := w2.heap.size) (o := 2) (v := .int .i64 1) (by simp)
  have fA2_w17 := KH_w17.out.free (b := w2.heap.size) (o := 2) (v := .int .i64 1) (by simp)
  have cA3_w17 := KH_w17.out.at (b := w2.heap.size) (o := 3) (v := .int .i64 0) (by simp)
  have fA3_w17 := KH_w17.out.free (b := w2.heap.size) (o := 3) (v := .int .i64 0) (by simp)
  have cA4_w17 := KH_w17.out.at (b := w2.heap.size) (o := 4) (v := .int .i64 0) (by simp)
  have fA4_w17 := KH_w17.out.free (b := w2.heap.size) (o := 4) (v := .int .i64 0) (by simp)
  have cA5_w17 := KH_w17.out.at (b := w2.heap.size) (o := 5) (v := .int .i64 0) (by simp)
  have fA5_w17 := KH_w17.out.free (b := w2.heap.size) (o := 5) (v := .int .i64 0) (by simp)
  have cA6_w17 := KH_w17.out.at (b := w2.heap.size) (o := 6) (v := .int .i64 0) (by simp)
  have fA6_w17 := KH_w17.out.free (b := w2.heap.size) (o := 6) (v := .int .i64 0) (by simp)
  have cA7_w17 := KH_w17.out.at (b := w2.heap.size) (o := 7) (v := .int .i64 0) (by simp)
  have fA7_w17 := KH_w17.out.free (b := w2.heap.size) (o := 7) (v := .int .i64 0) (by simp)
  have cA8_w17 := KH_w17.out.at (b := w2.heap.size) (o := 8) (v := .int .i64 0) (by simp)
  have fA8_w17 := KH_w17.out.free (b := w2.heap.size) (o := 8) (v := .int .i64 0) (by simp)
  have cA9_w17 := KH_w17.out.at (b := w2.heap.size) (o := 9) (v := .bool false) (by simp)
  have fA9_w17 := KH_w17.out.free (b := w2.heap.size) (o := 9) (v := .bool false) (by simp)
  have cA10_w17 := KH_w17.out.at (b := w2.heap.size) (o := 10) (v := .bool false) (by simp)
  have fA10_w17 := KH_w17.out.free (b := w2.heap.size) (o := 10) (v := .bool false) (by simp)
  have cA11_w17 := KH_w17.out.at (b := w2.heap.size) (o := 11) (v := .bool false) (by simp)
  have fA11_w17 := KH_w17.out.free (b := w2.heap.size) (o := 11) (v := .bool false) (by simp)
  go_wp2_with fail
  with_reducible refine (ohas _ kcs ⟨7, 0, 1, 0, 0, 0, 0, 0, 0, false, false, false⟩ _ HC.out 3 false (by decide +kernel)).mono ?_
  rintro e w18 ⟨rfl, hb_w18⟩
  have K_w18 := (KH_w17.out.step (by omega) (by go_grown)).step (by omega) hb_w18
  replace HC := Lib.hid (HC.out.below hb_w18)
  clear hb_w18
  have KH_w18 := Lib.hid K_w18
  have hw_w18 := K_w18.below
  have hz_w18 := K_w18.size
  have lA_w18 : w2.heap.size < w18.heap.size := by omega
  have lT_w18 : w2.heap.size + 1 < w18.heap.size := by omega
  have lW_w18 : w3.heap.size < w18.heap.size := by omega
  clear lA_w17 lT_w17 lW_w17 cA0_w17 fA0_w17 cA1_w17 fA1_w17 cA2_w17 fA2_w17 cA3_w17 fA3_w17 cA4_w17 fA4_w17 cA5_w17 fA5_w17 cA6_w17 fA6_w17 cA7_w17 fA7_w17 cA8_w17 fA8_w17 cA9_w17 fA9_w17 cA10_w17 fA10_w17 cA11_w17 fA11_w17
  clear K_w18
  have cT0_w18 := KH_w18.out.at (b := w2.heap.size + 1) (o := 0) (v := .int .i64 9) (by simp)
  have fT0_w18 := KH_w18.out.free (b := w2.heap.size + 1) (o := 0) (v := .int .i64 9) (by simp)
  have cT1_w18 := KH_w18.out.at (b := w2.heap.size + 1) (o := 1) (v := .int .i64 (-1)) (by simp)
  have fT1_w18 := KH_w18.out.free (b := w2.heap.size + 1) (o := 1) (v := .int .i64 (-1)) (by simp)
  have cT2_w18 := KH_w18.out.at (b := w2.heap.size + 1) (o := 2) (v := .int .i64 0) (by simp)
  have fT2_w18 := KH_w18.out.free (b := w2.heap.size + 1) (o := 2) (v := .int .i64 0) (by simp)
  have cT3_w18 := KH_w18.out.at (b := w2.heap.size + 1) (o := 3) (v := .int .i64 (ad 0 1)) (by simp)
  have fT3_w18 := KH_w18.out.free (b := w2.heap.size + 1) (o := 3) (v := .int .i64 (ad 0 1)) (by simp)
  have cT4_w18 := KH_w18.out.at (b := w2.heap.size + 1) (o := 4) (v := .int .i64 (ad 0 120)) (by simp)
  have fT4_w18 := KH_w18.out.free (b := w2.heap.size + 1) (o := 4) (v := .int .i64 (ad 0 120)) (by simp)
  have cT5_w18 := KH_w18.out.at (b := w2.heap.size + 1) (o := 5) (v := .int .i64 0) (by simp)
  have fT5_w18 := KH_w18.out.free (b := w2.heap.size + 1) (o := 5) (v := .int .i64 0) (by simp)
  have cT6_w18 := KH_w18.out.at (b := w2.heap.size + 1) (o := 6) (v := .int .i64 0) (by simp)
  have fT6_w18 := KH_w18.out.free (b := w2.heap.size + 1) (o := 6) (v := .int .i64 0) (by simp)
  have cT7_w18 := KH_w18.out.at (b := w2.heap.size + 1) (o := 7) (v := .int .i64 0) (by simp)
  have fT7_w18 := KH_w18.out.free (b := w2.heap.size + 1) (o := 7) (v := .int .i64 0) (by simp)
  have cT8_w18 := KH_w18.out.at (b := w2.heap.size + 1) (o := 8) (v := .int .i64 0) (by simp)
  have fT8_w18 := KH_w18.out.free (b := w2.heap.size + 1) (o := 8) (v := .int .i64 0) (by simp)
  have cT9_w18 := KH_w18.out.at (b := w2.heap.size + 1) (o := 9) (v := .bool false) (by simp)
  have fT9_w18 := KH_w18.out.free (b := w2.heap.size + 1) (o := 9) (v := .bool false) (by simp)
  have cT10_w18 := KH_w18.out.at (b := w2.heap.size + 1) (o := 10) (v := .bool false) (by simp)
  have fT10_w18 := KH_w18.out.free (b := w2.heap.size + 1) (o := 10) (v := .bool false) (by simp)
  have cT11_w18 := KH_w18.out.at (b := w2.heap.size + 1) (o := 11) (v := .bool false) (by simp)
  have fT11_w18 := KH_w18.out.free (b := w2.heap.size + 1) (o := 11) (v := .bool false) (by simp)
  go_wp2_with fail
  with_reducible refine (ohas _ kcs ⟨9, (-1), 0, (ad 0 1), (ad 0 120), 0, 0, 0, 0, false, false, false⟩ _ HC.out 2 false (by decide +kernel)).mono ?_
  rintro e w19 ⟨rfl, hb_w19⟩
  have K_w19 := (KH_w18.out.step (by omega) (by go_grown)).step (by omega) hb_w19
  replace HC := Lib.hid (HC.out.below hb_w19)
  clear hb_w19
  have KH_w19 := Lib.hid K_w19
  have hw_w19 := K_w19.below
  have hz_w19 := K_w19.size
  have lA_w19 : w2.heap.size < w19.heap.size := by omega
  have lT_w19 : w2.heap.size + 1 < w19.heap.size := by omega
  have lW_w19 : w3.heap.size < w19.heap.size := by omega
  clear lA_w18 lT_w18 lW_w18 cT0_w18 fT0_w18 cT1_w18 fT1_w18 cT2_w18 fT2_w18 cT3_w18 fT3_w18 cT4_w18 fT4_w18 cT5_w18 fT5_w18 cT6_w18 fT6_w18 cT7_w18 fT7_w18 cT8_w18 fT8_w18 cT9_w18 fT9_w18 cT10_w18 fT10_w18 cT11_w18 fT11_w18
  clear K_w19
  have cW0_w19 := KH_w19.out.at (b := w3.heap.size) (o := 0) (v := .int .i64 7) (by simp)
  have fW0_w19 := KH_w19.out.free (b := w3.heap.size) (o := 0) (v := .int .i64 7) (by simp)
  have cW1_w19 := KH_w19.out.at (b := w3.heap.size) (o := 1) (v := .int .i64 0) (by simp)
  have fW1_w19 := KH_w19.out.free (b := w3.heap.size) (o := 1) (v := .int .i64 0) (by simp)
  have cW2_w19 := KH_w19.out.at (b := w3.heap.size) (o := 2) (v := .int .i64 1) (by simp)
  have fW2_w19 := KH_w19.out.free (b := w3.heap.size) (o := 2) (v := .int .i64 1) (by simp)
  have cW3_w19 := KH_w19.out.at (b := w3.heap.size) (o := 3) (v := .int .i64 0) (by simp)
  have fW3_w19 := KH_w19.out.free (b := w3.heap.size) (o := 3) (v := .int .i64 0) (by simp)
  have cW4_w19 := KH_w19.out.at (b := w3.heap.size) (o := 4) (v := .int .i64 0) (by simp)
  have fW4_w19 := KH_w19.out.free (b := w3.heap.size) (o := 4) (v := .int .i64 0) (by simp)
  have cW5_w19 := KH_w19.out.at (b := w3.heap.size) (o := 5) (v := .int .i64 0) (by simp)
  have fW5_w19 := KH_w19.out.free (b := w3.heap.size) (o := 5) (v := .int .i64 0) (by simp)
  have cW6_w19 := KH_w19.out.at (b := w3.heap.size) (o := 6) (v := .int .i64 (ad 0 2)) (by simp)
  have fW6_w19 := KH_w19.out.free (b := w3.heap.size) (o := 6) (v := .int .i64 (ad 0 2)) (by simp)
  have cW7_w19 := KH_w19.out.at (b := w3.heap.size) (o := 7) (v := .int .i64 0) (by simp)
  have fW7_w19 := KH_w19.out.free (b := w3.heap.size) (o := 7) (v := .int .i64 0) (by simp)
  have cW8_w19 := KH_w19.out.at (b := w3.heap.size) (o := 8) (v := .int .i64 0) (by simp)
  have fW8_w19 := KH_w19.out.free (b := w3.heap.size) (o := 8) (v := .int .i64 0) (by simp)
  have cW9_w19 := KH_w19.out.at (b := w3.heap.size) (o := 9) (v := .bool false) (by simp)
  have fW9_w19 := KH_w19.out.free (b := w3.heap.size) (o := 9) (v := .bool false) (by simp)
  have cW10_w19 := KH_w19.out.at (b := w3.heap.size) (o := 10) (v := .bool false) (by simp)
  have fW10_w19 := KH_w19.out.free (b := w3.heap.size) (o := 10) (v := .bool false) (by simp)
  have cW11_w19 := KH_w19.out.at (b := w3.heap.size) (o := 11) (v := .bool false) (by simp)
  have fW11_w19 := KH_w19.out.free (b := w3.heap.size) (o := 11) (v := .bool false) (by simp)
  go_wp2_with fail
  with_reducible refine (ohit ⟨7, 0, 1, 0, 0, 0, (ad 0 2), 0, 0, false, false, false⟩ 1 _ (by decide) (by decide)).mono ?_
  rintro e w20 ⟨rfl, hb_w20⟩
  have K_w20 := (KH_w19.out.step (by omega) (by go_grown)).step (by omega) hb_w20
  replace HC := Lib.hid (HC.out.below hb_w20)
  clear hb_w20
  have KH_w20 := Lib.hid K_w20
  have hw_w20 := K_w20.below
  have hz_w20 := K_w20.size
  have lA_w20 : w2.heap.size < w20.heap.size := by omega
  have lT_w20 : w2.heap.size + 1 < w20.heap.size := by omega
  have lW_w20 : w3.heap.size < w20.heap.size := by omega
  clear lA_w19 lT_w19 lW_w19 cW0_w19 fW0_w19 cW1_w19 fW1_w19 cW2_w19 fW2_w19 cW3_w19 fW3_w19 cW4_w19 fW4_w19 cW5_w19 fW5_w19 cW6_w19 fW6_w19 cW7_w19 fW7_w19 cW8_w19 fW8_w19 cW9_w19 fW9_w19 cW10_w19 fW10_w19 cW11_w19 fW11_w19
  clear K_w20
  go_wp2_with fail
  with_reducible refine (obytes_okc ⟨7, 0, 1, 0, 0, (ad 0 1), (ad 0 2), 0, 0, true, false, false⟩ _ [0, 7, 0, 1, 1, 0, 0, 1, 2, 0, 0, 1] _ (Lib.hid (by decide +kernel)) (by simpa using seg_new (w20.alloc (.cells #[.int .i64 7, .int .i64 0, .int .i64 1, .int .i64 0, .int .i64 0, .int .i64 (ad 0 1), .int .i64 (ad 0 2), .int .i64 0, .int .i64 0, .bool true, .bool false, .bool false] 23)) .u8 5 [0, 7, 0, 1, 1, 0, 0, 1, 2, 0, 0, 1] 12 (by simp) (by simp [maxLen])) (by decide +kernel)).mono ?_
  rintro e w21 ⟨rfl, hb_w21⟩
  have K_w21 := (KH_w20.out.step (by omega) (by go_grown)).step (by omega) hb_w21
  clear hb_w21
  have KH_w21 := Lib.hid K_w21
  have hw_w21 := K_w21.below
  have hz_w21 := K_w21.size
  have lA_w21 : w2.heap.size < w21.heap.size := by omega
  have lT_w21 : w2.heap.size + 1 < w21.heap.size := by omega
  have lW_w21 : w3.heap.size < w21.heap.size := by omega
  clear lA_w20 lT_w20 lW_w20
  clear K_w21
  have cT0_w21 := KH_w21.out.at (b := w2.heap.size + 1) (o := 0) (v := .int .i64 9) (by simp)
  have fT0_w21 := KH_w21.out.free (b := w2.heap.size + 1) (o := 0) (v := .int .i64 9) (by simp)
  have cT1_w21 := KH_w21.out.at (b := w2.heap.size + 1) (o := 1) (v := .int .i64 (-1)) (by simp)
  have fT1_w21 := KH_w21.out.free (b := w2.heap.size + 1) (o := 1) (v := .int .i64 (-1)) (by simp)
  have cT2_w21 := KH_w21.out.at (b := w2.heap.size + 1) (o := 2) (v := .int .i64 0) (by simp)
  have fT2_w21 := KH_w21.out.free (b := w2.heap.size + 1) (o := 2) (v := .int .i64 0) (by simp)
  have cT3_w21 := KH_w21.out.at (b := w2.heap.size + 1) (o := 3) (v := .int .i64 (ad 0 1)) (by simp)
  have fT3_w21 := KH_w21.out.free (b := w2.heap.size + 1) (o := 3) (v := .int .i64 (ad 0 1)) (by simp)
  have cT4_w21 := KH_w21.out.at (b := w2.heap.size + 1) (o := 4) (v := .int .i64 (ad 0 120)) (by simp)
  have fT4_w21 := KH_w21.out.free (b := w2.heap.size + 1) (o := 4) (v := .int .i64 (ad 0 120)) (by simp)
  have cT5_w21 := KH_w21.out.at (b := w2.heap.size + 1) (o := 5) (v := .int .i64 0) (by simp)
  have fT5_w21 := KH_w21.out.free (b := w2.heap.size + 1) (o := 5) (v := .int .i64 0) (by simp)
  have cT6_w21 := KH_w21.out.at (b := w2.heap.size + 1) (o := 6) (v := .int .i64 0) (by simp)
  have fT6_w21 := KH_w21.out.free (b := w2.heap.size + 1) (o := 6) (v := .int .i64 0) (by simp)
  have cT7_w21 := KH_w21.out.at (b := w2.heap.size + 1) (o := 7) (v := .int .i64 0) (by simp)
  have fT7_w21 := KH_w21.out.free (b := w2.heap.size + 1) (o := 7) (v := .int .i64 0) (by simp)
  have cT8_w21 := KH_w21.out.at (b := w2.heap.size + 1) (o := 8) (v := .int .i64 0) (by simp)
  have fT8_w21 := KH_w21.out.free (b := w2.heap.size + 1) (o := 8) (v := .int .i64 0) (by simp)
  have cT9_w21 := KH_w21.out.at (b := w2.heap.size + 1) (o := 9) (v := .bool false) (by simp)
  have fT9_w21 := KH_w21.out.free (b := w2.heap.size + 1) (o := 9) (v := .bool false) (by simp)
  have cT10_w21 := KH_w21.out.at (b := w2.heap.size + 1) (o := 10) (v := .bool false) (by simp)
  have fT10_w21 := KH_w21.out.free (b := w2.heap.size + 1) (o := 10) (v := .bool false) (by simp)
  have cT11_w21 := KH_w21.out.at (b := w2.heap.size + 1) (o := 11) (v := .bool false) (by simp)
  have fT11_w21 := KH_w21.out.free (b := w2.heap.size + 1) (o := 11) (v := .bool false) (by simp)
  go_wp2_with fail
  with_reducible refine (obytes_okc ⟨9, (-1), 0, (ad 0 1), (ad 0 120), 0, 0, 0, 0, false, false, false⟩ _ [0, 9, 0, 0, 0, 1, 99, 0, 0, 0, 0, 0] _ (Lib.hid (by decide +kernel)) (by simpa using seg_new (w21) .u8 5 [0, 9, 0, 0, 0, 1, 99, 0, 0, 0, 0, 0] 12 (by simp) (by simp [maxLen])) (by decide +kernel)).mono ?_
  rintro e w22 ⟨rfl, hb_w22⟩
  have K_w22 := (KH_w21.out.step (by omega) (by go_grown)).step (by omega) hb_w22
  clear hb_w22
  have KH_w22 := Lib.hid K_w22
  have hw_w22 := K_w22.below
  have hz_w22 := K_w22.size
  have lA_w22 : w2.heap.size < w22.heap.size := by omega
  have lT_w22 : w2.heap.size + 1 < w22.heap.size := by omega
  have lW_w22 : w3.heap.size < w22.heap.size := by omega
  clear lA_w21 lT_w21 lW_w21 cT0_w21 fT0_w21 cT1_w21 fT1_w21 cT2_w21 fT2_w21 cT3_w21 fT3_w21 cT4_w21 fT4_w21 cT5_w21 fT5_w21 cT6_w21 fT6_w21 cT7_w21 fT7_w21 cT8_w21 fT8_w21 cT9_w21 fT9_w21 cT10_w21 fT10_w21 cT11_w21 fT11_w21
  clear K_w22
  go_wp2_with fail
  with_reducible refine (oreads _ [0, 0, 0, 0, 0, 0, 0, 0, 0, 0, 0] ⟨0, 0, 0, 0, 0, 0, 0, 0, 0, false, false, false⟩ 4 _ (by simpa using seg_new (w22) .u8 5 [0, 0, 0, 0, 0, 0, 0, 0, 0, 0, 0] 11 (by simp) (by simp [maxLen])) (by simp) (Lib.hid (by unfold rdO; rw [if_neg (by simp), noOb_eq])) (Lib.hid (by decide +kernel))).mono ?_
  rintro e w23 ⟨rfl, hb_w23⟩
  have K_w23 := (KH_w22.out.step (by omega) (by go_grown)).step (by omega) hb_w23
  clear hb_w23
  have KH_w23 := Lib.hid K_w23
  have hw_w23 := K_w23.below
  have hz_w23 := K_w23.size
  have lA_w23 : w2.heap.size < w23.heap.size := by omega
  have lT_w23 : w2.heap.size + 1 < w23.heap.size := by omega
  have lW_w23 : w3.heap.size < w23.heap.size := by omega
  clear lA_w22 lT_w22 lW_w22
  clear K_w23
  go_wp2_with fail
  with_reducible refine (oreads _ [0, 0, 0, 0, 0, 0, 0, 0, 0, 0, 0, 0] ⟨0, 0, 0, 0, 0, 0, 0, 0, 0, false, false, false⟩ 6 _ (by simpa using seg_new (w23) .u8 5 [0, 0, 0, 0, 0, 0, 0, 0, 0, 0, 0, 0] 12 (by simp) (by simp [maxLen])) (by simp) (Lib.hid (by unfold rdO; rw [if_neg (by decide +kernel), noOb_eq])) (Lib.hid (by decide +kernel))).mono ?_
  rintro e w24 ⟨rfl, hb_w24⟩
  have K_w24 := (KH_w23.out.step (by omega) (by go_grown)).step (by omega) hb_w24
  clear hb_w24
  have KH_w24 := Lib.hid K_w24
  have hw_w24 := K_w24.below
  have hz_w24 := K_w24.size
  have lA_w24 : w2.heap.size < w24.heap.size := by omega
  have lT_w24 : w2.heap.size + 1 < w24.heap.size := by omega
  have lW_w24 : w3.heap.size < w24.heap.size := by omega
  clear lA_w23 lT_w23 lW_w23
  clear K_w24
  go_wp2_with fail
  go_returns
  exact ⟨rfl, by go_grown⟩

end Go.Proofs.Ytjedflfgafhlkaa
