/- The plain law and the walk of RopeHolds. -/
import Derived.Test.YtkjakcoejnhojaaKnown
import Derived.Deep.DeepCutAuto
namespace Go.Proofs.Ytkjakcoejnhojaa
open Go.RowKit Plain
set_option linter.unusedVariables false
set_option linter.unusedSimpArgs false

theorem sub0_eq (a b : Int) : sub0 a b = max 0 (a - b) := by unfold sub0; split <;> omega
theorem sub0_add {r n m : Int} (hr : 0 ≤ r) (hn : 0 ≤ n) (hm : 0 ≤ m) : sub0 r (n + m) = sub0 (sub0 r n) m := by simp only [sub0_eq]; omega
theorem sub0_bank {r b n m : Int} (hr : 0 ≤ r) (hb : 0 ≤ b) (hn : 0 ≤ n) (hm : 0 ≤ m) : sub0 b (sub0 (n + m) r) = sub0 (sub0 b (sub0 n r)) (sub0 m (sub0 r n)) := by simp only [sub0_eq]; omega
theorem sub0_over {r b n m : Int} (hr : 0 ≤ r) (hb : 0 ≤ b) (hn : 0 ≤ n) (hm : 0 ≤ m) : sub0 (sub0 (n + m) r) b = sub0 (sub0 n r) b + sub0 (sub0 m (sub0 r n)) (sub0 b (sub0 n r)) := by simp only [sub0_eq]; omega
theorem charge20c (r b n A B x : Int) (w : World) (hr : U r) (hb : U b) (hn : U n) (h : vR r b = true) (hA : sub0 r n = A) (hB : sub0 b (sub0 n r) = B) (hx : sub0 (sub0 n r) b = x) :
    Calls Try.prog 20 #[.agg #[.int .u64 r, .int .u64 b], .int .u64 n] w fun e w' => e = .returned (.tuple #[.agg #[.int .u64 A, .int .u64 B], .int .u64 x, .int .i64 0]) ∧ Below w.heap.size w w' := by
  subst hA hB hx
  exact charge20 r b n w hr hb hn h

set_option maxRecDepth 100000 in
set_option maxHeartbeats 8000000 in
theorem holds_yes (r b n m : Int) (w : World) (hr : U r) (hb : U b) (hn : U n) (hm : U m) (h : vR r b = true) :
    Calls Try.prog 7 #[.agg #[.int .u64 r, .int .u64 b], .int .u64 n, .int .u64 m] w fun e w' => e = .returned (.bool true) ∧ Below w.heap.size w w' := by
  have ⟨v1, v2⟩ := vR_true h
  have ⟨r0, r1⟩ := id hr
  have ⟨b0, b1⟩ := id hb
  have ⟨n0, n1⟩ := id hn
  have ⟨m0, m1⟩ := id hm
  have uA := U_sub0 hr hn
  have uB := U_sub0 hb (U_sub0 hn hr)
  have hAB : vR (sub0 r n) (sub0 b (sub0 n r)) = true := by have := sub0_bd r0 n0; have := sub0_bd b0 (sub0_bd n0 r0).1; simp [vR]; omega
  have P2 := sub0_add r0 n0 m0
  have Q2 := sub0_bank r0 b0 n0 m0
  have Y2 := sub0_over r0 b0 n0 m0
  have ub : U (r + b) := by unfold U; omega
  obtain ⟨A, hA⟩ : ∃ A, sub0 r n = A := ⟨_, rfl⟩
  obtain ⟨B, hB⟩ : ∃ B, sub0 b (sub0 n r) = B := ⟨_, rfl⟩
  obtain ⟨x, hx⟩ : ∃ x, sub0 (sub0 n r) b = x := ⟨_, rfl⟩
  rw [hA] at uA hAB P2 Q2 Y2
  rw [hB] at uB hAB Q2 Y2
  rw [hx] at Y2
  obtain ⟨P, hP⟩ : ∃ P, sub0 A m = P := ⟨_, rfl⟩
  obtain ⟨Q, hQ⟩ : ∃ Q, sub0 B (sub0 m A) = Q := ⟨_, rfl⟩
  obtain ⟨y, hy⟩ : ∃ y, sub0 (sub0 m A) B = y := ⟨_, rfl⟩
  rw [hP] at P2
  rw [hQ] at Q2
  rw [hy] at Y2
  have x0 : 0 ≤ x := by rw [← hx]; exact (sub0_bd (sub0_bd n0 r0).1 b0).1
  have y0 : 0 ≤ y := by rw [← hy]; exact (sub0_bd (sub0_bd m0 uA.1).1 uB.1).1
  have HA := Lib.hid hA
  have HB := Lib.hid hB
  have HX := Lib.hid hx
  have HP := Lib.hid hP
  have HQ := Lib.hid hQ
  have HY := Lib.hid hy
  have HP2 := Lib.hid P2
  have HQ2 := Lib.hid Q2
  have HY2 := Lib.hid Y2
  have HY2' := Lib.hid Y2
  clear hA hB hx hP hQ hy P2 Q2 Y2
  go_enter Try.func7, Try.ntmps7
  go_wp2_with fail
  with_reducible refine (charge20c _ _ _ _ _ _ _ hr hb hn h HA.out HB.out HX.out).mono ?_
  rintro e w1 ⟨rfl, hb_w1⟩
  have K_w1 : Kept w.heap.size w (w.heap.size + 1) [(w.heap.size, 0, .int .u64 r), (w.heap.size, 1, .int .u64 b)] w1 := Kept.of hb_w1 (by go_grown) (by go_size) (by omega) (by simp [go_sem] <;> omega)
  clear hb_w1
  have hw_w1 := K_w1.below
  have hz_w1 := K_w1.size
  have lP_w1 : w.heap.size < w1.heap.size := by omega
  have cP0_w1 := K_w1.at (b := w.heap.size) (o := 0) (v := .int .u64 r) (by simp)
  have fP0_w1 := K_w1.free (b := w.heap.size) (o := 0) (v := .int .u64 r) (by simp)
  have cP1_w1 := K_w1.at (b := w.heap.size) (o := 1) (v := .int .u64 b) (by simp)
  have fP1_w1 := K_w1.free (b := w.heap.size) (o := 1) (v := .int .u64 b) (by simp)
  clear K_w1
  go_wp2_with fail
  with_reducible refine (valid9 _ _ _).mono ?_
  rintro e w2 ⟨rfl, hb_w2⟩
  have K_w2 : Kept w.heap.size w (w1.heap.size + 1) [(w.heap.size, 0, .int .u64 r), (w.heap.size, 1, .int .u64 b), (w1.heap.size, 0, .int .u64 A), (w1.heap.size, 1, .int .u64 B)] w2 := Kept.of hb_w2 (by go_grown) (by go_size) (by omega) (by simp [go_sem, lP_w1, cP0_w1, fP0_w1, cP1_w1, fP1_w1] <;> omega)
  clear hb_w2
  have hw_w2 := K_w2.below
  have hz_w2 := K_w2.size
  have lP_w2 : w.heap.size < w2.heap.size := by omega
  have cP0_w2 := K_w2.at (b := w.heap.size) (o := 0) (v := .int .u64 r) (by simp)
  have fP0_w2 := K_w2.free (b := w.heap.size) (o := 0) (v := .int .u64 r) (by simp)
  have cP1_w2 := K_w2.at (b := w.heap.size) (o := 1) (v := .int .u64 b) (by simp)
  have fP1_w2 := K_w2.free (b := w.heap.size) (o := 1) (v := .int .u64 b) (by simp)
  have lA_w2 : w1.heap.size < w2.heap.size := by omega
  have cA0_w2 := K_w2.at (b := w1.heap.size) (o := 0) (v := .int .u64 A) (by simp)
  have fA0_w2 := K_w2.free (b := w1.heap.size) (o := 0) (v := .int .u64 A) (by simp)
  have cA1_w2 := K_w2.at (b := w1.heap.size) (o := 1) (v := .int .u64 B) (by simp)
  have fA1_w2 := K_w2.free (b := w1.heap.size) (o := 1) (v := .int .u64 B) (by simp)
  clear lP_w1 cP0_w1 fP0_w1 cP1_w1 fP1_w1
  clear K_w2
  go_upto_region 4 with fail
  go_cut [87] (fun s0 wx => s0 = .bool false ∧ Kept w.heap.size w (w1.heap.size + 1) [(w.heap.size, 0, .int .u64 r), (w.heap.size, 1, .int .u64 b), (w1.heap.size, 0, .int .u64 A), (w1.heap.size, 1, .int .u64 B)] wx)
  case first =>
    by_cases c1 : n ≤ r
    · have a1 : A = r - n := by rw [← HA.out]; simp only [sub0_eq]; omega
      have a2 : B = b := by rw [← HB.out]; simp only [sub0_eq]; omega
      have a3 : x = 0 := by rw [← HX.out]; simp only [sub0_eq]; omega
      have l1 : A ≤ r := by omega
      have l2 : B ≤ b := by omega
      have l3 : ¬ B < b := by omega
      have t4 : decide (B < b) = false := by simp; omega
      have t5 : decide (0 < x) = false := by rw [a3]; rfl
      have l4 : ¬ 0 < x := by omega
      have l5 : r - A + (b - B) + x ≤ n := by omega
      have l6 : n ≤ r - A + (b - B) + x := by omega
      have l7 : b - B ≤ 0 := by omega
      have l8 : 0 ≤ A := by omega
      have t1 : decide (r < A) = false := by simp; omega
      have t2 : decide (b < B) = false := by simp; omega
      have t3 : (r - A + (b - B) + x != n) = false := by simp; omega
      clear a1 a2 a3
      go_wp2_with fail
      go_meet
      case rel => exact ⟨rfl, ⟨by go_grown, by go_size, (by simp [go_sem, lP_w2, cP0_w2, fP0_w2, cP1_w2, fP1_w2, lA_w2, cA0_w2, fA0_w2, cA1_w2, fA1_w2] <;> omega)⟩⟩
    by_cases c2 : n - r ≤ b
    · have a1 : A = 0 := by rw [← HA.out]; simp only [sub0_eq]; omega
      have a2 : B = b - (n - r) := by rw [← HB.out]; simp only [sub0_eq]; omega
      have a3 : x = 0 := by rw [← HX.out]; simp only [sub0_eq]; omega
      have l1 : A ≤ r := by omega
      have l2 : B ≤ b := by omega
      have l3 : B < b := by omega
      have t4 : decide (B < b) = true := by simp; omega
      have t5 : decide (0 < x) = false := by rw [a3]; rfl
      have l4 : ¬ 0 < x := by omega
      have l5 : r - A + (b - B) + x ≤ n := by omega
      have l6 : n ≤ r - A + (b - B) + x := by omega
      have l7 : A ≤ 0 := by omega
      have l8 : 0 ≤ A := by omega
      have l9 : 0 ≤ B := by omega
      have l10 : (A != 0) = false := by simp; omega
      have t1 : decide (r < A) = false := by simp; omega
      have t2 : decide (b < B) = false := by simp; omega
      have t3 : (r - A + (b - B) + x != n) = false := by simp; omega
      clear a1 a2 a3
      go_wp2_with fail
      go_meet
      case rel => exact ⟨rfl, ⟨by go_grown, by go_size, (by simp [go_sem, lP_w2, cP0_w2, fP0_w2, cP1_w2, fP1_w2, lA_w2, cA0_w2, fA0_w2, cA1_w2, fA1_w2] <;> omega)⟩⟩
    · have a1 : A = 0 := by rw [← HA.out]; simp only [sub0_eq]; omega
      have a2 : B = 0 := by rw [← HB.out]; simp only [sub0_eq]; omega
      have a3 : x = n - r - b := by rw [← HX.out]; simp only [sub0_eq]; omega
      have l1 : A ≤ r := by omega
      have l2 : B ≤ b := by omega
      have l4 : 0 < x := by omega
      have l5 : r - A + (b - B) + x ≤ n := by omega
      have l6 : n ≤ r - A + (b - B) + x := by omega
      have l8 : 0 ≤ A := by omega
      have l9 : 0 ≤ B := by omega
      have l10 : (A != 0) = false := by simp; omega
      have l11 : (A == 0) = true := by simp; omega
      have l12 : (B == 0) = true := by simp; omega
      have t1 : decide (r < A) = false := by simp; omega
      have t2 : decide (b < B) = false := by simp; omega
      have t3 : (r - A + (b - B) + x != n) = false := by simp; omega
      clear a1 a2 a3
      have t5 : decide (0 < x) = true := by simp; omega
      by_cases l3 : B < b
      · have t4 : decide (B < b) = true := by simp; omega
        go_wp2_with fail
        with_reducible refine (empty18 _ _ _).mono ?_
        rintro e w10 ⟨rfl, hb_w10⟩
        have K_w10 : Kept w.heap.size w (w1.heap.size + 1) [(w.heap.size, 0, .int .u64 r), (w.heap.size, 1, .int .u64 b), (w1.heap.size, 0, .int .u64 A), (w1.heap.size, 1, .int .u64 B)] w10 := Kept.of hb_w10 (by go_grown) (by go_size) (by omega) (by simp [go_sem, lP_w2, cP0_w2, fP0_w2, cP1_w2, fP1_w2, lA_w2, cA0_w2, fA0_w2, cA1_w2, fA1_w2] <;> omega)
        clear hb_w10
        have KH := Lib.hid K_w10
        have hw_w10 := K_w10.below
        have hz_w10 := K_w10.size
        have lP_w10 : w.heap.size < w10.heap.size := by omega
        have cP0_w10 := K_w10.at (b := w.heap.size) (o := 0) (v := .int .u64 r) (by simp)
        have fP0_w10 := K_w10.free (b := w.heap.size) (o := 0) (v := .int .u64 r) (by simp)
        have cP1_w10 := K_w10.at (b := w.heap.size) (o := 1) (v := .int .u64 b) (by simp)
        have fP1_w10 := K_w10.free (b := w.heap.size) (o := 1) (v := .int .u64 b) (by simp)
        have lA_w10 : w1.heap.size < w10.heap.size := by omega
        have cA0_w10 := K_w10.at (b := w1.heap.size) (o := 0) (v := .int .u64 A) (by simp)
        have fA0_w10 := K_w10.free (b := w1.heap.size) (o := 0) (v := .int .u64 A) (by simp)
        have cA1_w10 := K_w10.at (b := w1.heap.size) (o := 1) (v := .int .u64 B) (by simp)
        have fA1_w10 := K_w10.free (b := w1.heap.size) (o := 1) (v := .int .u64 B) (by simp)
        clear lP_w2 cP0_w2 fP0_w2 cP1_w2 fP1_w2 lA_w2 cA0_w2 fA0_w2 cA1_w2 fA1_w2
        clear K_w10
        go_wp2_with fail
        go_meet
        case rel => exact ⟨rfl, KH.out⟩
      · have t4 : decide (B < b) = false := by simp; omega
        go_wp2_with fail
        with_reducible refine (empty18 _ _ _).mono ?_
        rintro e w10 ⟨rfl, hb_w10⟩
        have K_w10 : Kept w.heap.size w (w1.heap.size + 1) [(w.heap.size, 0, .int .u64 r), (w.heap.size, 1, .int .u64 b), (w1.heap.size, 0, .int .u64 A), (w1.heap.size, 1, .int .u64 B)] w10 := Kept.of hb_w10 (by go_grown) (by go_size) (by omega) (by simp [go_sem, lP_w2, cP0_w2, fP0_w2, cP1_w2, fP1_w2, lA_w2, cA0_w2, fA0_w2, cA1_w2, fA1_w2] <;> omega)
        clear hb_w10
        have KH := Lib.hid K_w10
        have hw_w10 := K_w10.below
        have hz_w10 := K_w10.size
        have lP_w10 : w.heap.size < w10.heap.size := by omega
        have cP0_w10 := K_w10.at (b := w.heap.size) (o := 0) (v := .int .u64 r) (by simp)
        have fP0_w10 := K_w10.free (b := w.heap.size) (o := 0) (v := .int .u64 r) (by simp)
        have cP1_w10 := K_w10.at (b := w.heap.size) (o := 1) (v := .int .u64 b) (by simp)
        have fP1_w10 := K_w10.free (b := w.heap.size) (o := 1) (v := .int .u64 b) (by simp)
        have lA_w10 : w1.heap.size < w10.heap.size := by omega
        have cA0_w10 := K_w10.at (b := w1.heap.size) (o := 0) (v := .int .u64 A) (by simp)
        have fA0_w10 := K_w10.free (b := w1.heap.size) (o := 0) (v := .int .u64 A) (by simp)
        have cA1_w10 := K_w10.at (b := w1.heap.size) (o := 1) (v := .int .u64 B) (by simp)
        have fA1_w10 := K_w10.free (b := w1.heap.size) (o := 1) (v := .int .u64 B) (by simp)
        clear lP_w2 cP0_w2 fP0_w2 cP1_w2 fP1_w2 lA_w2 cA0_w2 fA0_w2 cA1_w2 fA1_w2
        clear K_w10
        go_wp2_with fail
        go_meet
        case rel => exact ⟨rfl, KH.out⟩
  case rest =>
    obtain ⟨rfl, K_wc⟩ := hcut
    have hw_wc := K_wc.below
    have hz_wc := K_wc.size
    have lP_wc : w.heap.size < wc.heap.size := by omega
    have cP0_wc := K_wc.at (b := w.heap.size) (o := 0) (v := .int .u64 r) (by simp)
    have fP0_wc := K_wc.free (b := w.heap.size) (o := 0) (v := .int .u64 r) (by simp)
    have cP1_wc := K_wc.at (b := w.heap.size) (o := 1) (v := .int .u64 b) (by simp)
    have fP1_wc := K_wc.free (b := w.heap.size) (o := 1) (v := .int .u64 b) (by simp)
    have lA_wc : w1.heap.size < wc.heap.size := by omega
    have cA0_wc := K_wc.at (b := w1.heap.size) (o := 0) (v := .int .u64 A) (by simp)
    have fA0_wc := K_wc.free (b := w1.heap.size) (o := 0) (v := .int .u64 A) (by simp)
    have cA1_wc := K_wc.at (b := w1.heap.size) (o := 1) (v := .int .u64 B) (by simp)
    have fA1_wc := K_wc.free (b := w1.heap.size) (o := 1) (v := .int .u64 B) (by simp)
    clear lP_w2 cP0_w2 fP0_w2 cP1_w2 fP1_w2 lA_w2 cA0_w2 fA0_w2 cA1_w2 fA1_w2
    clear K_wc
    go_wp2_with fail
    with_reducible refine (charge20c _ _ _ _ _ _ _ uA uB hm hAB HP.out HQ.out HY.out).mono ?_
    rintro e w3 ⟨rfl, hb_w3⟩
    have K_w3 : Kept w.heap.size w (w1.heap.size + 1) [(w.heap.size, 0, .int .u64 r), (w.heap.size, 1, .int .u64 b), (w1.heap.size, 0, .int .u64 A), (w1.heap.size, 1, .int .u64 B)] w3 := Kept.of hb_w3 (by go_grown) (by go_size) (by omega) (by simp [go_sem, lP_wc, cP0_wc, fP0_wc, cP1_wc, fP1_wc, lA_wc, cA0_wc, fA0_wc, cA1_wc, fA1_wc] <;> omega)
    clear hb_w3
    have hw_w3 := K_w3.below
    have hz_w3 := K_w3.size
    have lP_w3 : w.heap.size < w3.heap.size := by omega
    have cP0_w3 := K_w3.at (b := w.heap.size) (o := 0) (v := .int .u64 r) (by simp)
    have fP0_w3 := K_w3.free (b := w.heap.size) (o := 0) (v := .int .u64 r) (by simp)
    have cP1_w3 := K_w3.at (b := w.heap.size) (o := 1) (v := .int .u64 b) (by simp)
    have fP1_w3 := K_w3.free (b := w.heap.size) (o := 1) (v := .int .u64 b) (by simp)
    have lA_w3 : w1.heap.size < w3.heap.size := by omega
    have cA0_w3 := K_w3.at (b := w1.heap.size) (o := 0) (v := .int .u64 A) (by simp)
    have fA0_w3 := K_w3.free (b := w1.heap.size) (o := 0) (v := .int .u64 A) (by simp)
    have cA1_w3 := K_w3.at (b := w1.heap.size) (o := 1) (v := .int .u64 B) (by simp)
    have fA1_w3 := K_w3.free (b := w1.heap.size) (o := 1) (v := .int .u64 B) (by simp)
    clear lP_wc cP0_wc fP0_wc cP1_wc fP1_wc lA_wc cA0_wc fA0_wc cA1_wc fA1_wc
    clear K_w3
    go_upto_if 100 with fail
    go_cut [] (fun wx => Kept w.heap.size w (w3.heap.size + 1) [(w.heap.size, 0, .int .u64 r), (w.heap.size, 1, .int .u64 b), (w1.heap.size, 0, .int .u64 A), (w1.heap.size, 1, .int .u64 B), (w3.heap.size, 0, .int .u64 P), (w3.heap.size, 1, .int .u64 Q)] wx)
    case first =>
      by_cases hnm : n ≤ 18446744073709551615 - m
      · have unm : U (n + m) := by unfold U at *; omega
        have xy : x + y ≤ 18446744073709551615 := by have := HY2'.out; have := sub0_bd (a := sub0 (n + m) r) (b := b) (sub0_bd unm.1 hr.1).1 hb.1; have := sub0_bd unm.1 hr.1; unfold U at unm; omega
        go_wp2_with fail
        with_reducible refine (charge20c _ _ _ _ _ _ _ hr hb unm h HP2.out HQ2.out HY2.out).mono ?_
        rintro e w4 ⟨rfl, hb_w4⟩
        have K_w4 : Kept w.heap.size w (w3.heap.size + 1) [(w.heap.size, 0, .int .u64 r), (w.heap.size, 1, .int .u64 b), (w1.heap.size, 0, .int .u64 A), (w1.heap.size, 1, .int .u64 B), (w3.heap.size, 0, .int .u64 P), (w3.heap.size, 1, .int .u64 Q)] w4 := Kept.of hb_w4 (by go_grown) (by go_size) (by omega) (by simp [go_sem, lP_w3, cP0_w3, fP0_w3, cP1_w3, fP1_w3, lA_w3, cA0_w3, fA0_w3, cA1_w3, fA1_w3] <;> omega)
        clear hb_w4
        have hw_w4 := K_w4.below
        have hz_w4 := K_w4.size
        have lP_w4 : w.heap.size < w4.heap.size := by omega
        have cP0_w4 := K_w4.at (b := w.heap.size) (o := 0) (v := .int .u64 r) (by simp)
        have fP0_w4 := K_w4.free (b := w.heap.size) (o := 0) (v := .int .u64 r) (by simp)
        have cP1_w4 := K_w4.at (b := w.heap.size) (o := 1) (v := .int .u64 b) (by simp)
        have fP1_w4 := K_w4.free (b := w.heap.size) (o := 1) (v := .int .u64 b) (by simp)
        have lA_w4 : w1.heap.size < w4.heap.size := by omega
        have cA0_w4 := K_w4.at (b := w1.heap.size) (o := 0) (v := .int .u64 A) (by simp)
        have fA0_w4 := K_w4.free (b := w1.heap.size) (o := 0) (v := .int .u64 A) (by simp)
        have cA1_w4 := K_w4.at (b := w1.heap.size) (o := 1) (v := .int .u64 B) (by simp)
        have fA1_w4 := K_w4.free (b := w1.heap.size) (o := 1) (v := .int .u64 B) (by simp)
        have lQ_w4 : w3.heap.size < w4.heap.size := by omega
        have cQ0_w4 := K_w4.at (b := w3.heap.size) (o := 0) (v := .int .u64 P) (by simp)
        have fQ0_w4 := K_w4.free (b := w3.heap.size) (o := 0) (v := .int .u64 P) (by simp)
        have cQ1_w4 := K_w4.at (b := w3.heap.size) (o := 1) (v := .int .u64 Q) (by simp)
        have fQ1_w4 := K_w4.free (b := w3.heap.size) (o := 1) (v := .int .u64 Q) (by simp)
        clear lP_w3 cP0_w3 fP0_w3 cP1_w3 fP1_w3 lA_w3 cA0_w3 fA0_w3 cA1_w3 fA1_w3
        clear K_w4
        go_wp2_with fail
        go_meet
        case rel => exact ⟨by go_grown, by go_size, (by simp [go_sem, lP_w4, cP0_w4, fP0_w4, cP1_w4, fP1_w4, lA_w4, cA0_w4, fA0_w4, cA1_w4, fA1_w4, lQ_w4, cQ0_w4, fQ0_w4, cQ1_w4, fQ1_w4] <;> omega)⟩
      · go_wp2_with fail
        go_meet
        case rel => exact ⟨by go_grown, by go_size, (by simp [go_sem, lP_w3, cP0_w3, fP0_w3, cP1_w3, fP1_w3, lA_w3, cA0_w3, fA0_w3, cA1_w3, fA1_w3] <;> omega)⟩
    case rest =>
      have K_wc2 := hcut
      skip
      have hw_wc := K_wc2.below
      have hz_wc := K_wc2.size
      have lP_wc : w.heap.size < wc.heap.size := by omega
      have cP0_wc := K_wc2.at (b := w.heap.size) (o := 0) (v := .int .u64 r) (by simp)
      have fP0_wc := K_wc2.free (b := w.heap.size) (o := 0) (v := .int .u64 r) (by simp)
      have cP1_wc := K_wc2.at (b := w.heap.size) (o := 1) (v := .int .u64 b) (by simp)
      have fP1_wc := K_wc2.free (b := w.heap.size) (o := 1) (v := .int .u64 b) (by simp)
      have lA_wc : w1.heap.size < wc.heap.size := by omega
      have cA0_wc := K_wc2.at (b := w1.heap.size) (o := 0) (v := .int .u64 A) (by simp)
      have fA0_wc := K_wc2.free (b := w1.heap.size) (o := 0) (v := .int .u64 A) (by simp)
      have cA1_wc := K_wc2.at (b := w1.heap.size) (o := 1) (v := .int .u64 B) (by simp)
      have fA1_wc := K_wc2.free (b := w1.heap.size) (o := 1) (v := .int .u64 B) (by simp)
      have lQ_wc : w3.heap.size < wc.heap.size := by omega
      have cQ0_wc := K_wc2.at (b := w3.heap.size) (o := 0) (v := .int .u64 P) (by simp)
      have fQ0_wc := K_wc2.free (b := w3.heap.size) (o := 0) (v := .int .u64 P) (by simp)
      have cQ1_wc := K_wc2.at (b := w3.heap.size) (o := 1) (v := .int .u64 Q) (by simp)
      have fQ1_wc := K_wc2.free (b := w3.heap.size) (o := 1) (v := .int .u64 Q) (by simp)
      clear lP_w3 cP0_w3 fP0_w3 cP1_w3 fP1_w3 lA_w3 cA0_w3 fA0_w3 cA1_w3 fA1_w3
      clear K_wc2 hcut
      go_wp2_with fail
      with_reducible refine (until21 _ _ _ hr hb h).mono ?_
      rintro e w4 ⟨rfl, hb_w4⟩
      have K_w4 : Kept w.heap.size w (w3.heap.size + 1) [(w.heap.size, 0, .int .u64 r), (w.heap.size, 1, .int .u64 b), (w1.heap.size, 0, .int .u64 A), (w1.heap.size, 1, .int .u64 B), (w3.heap.size, 0, .int .u64 P), (w3.heap.size, 1, .int .u64 Q)] w4 := Kept.of hb_w4 (by go_grown) (by go_size) (by omega) (by simp [go_sem, lP_wc, cP0_wc, fP0_wc, cP1_wc, fP1_wc, lA_wc, cA0_wc, fA0_wc, cA1_wc, fA1_wc, lQ_wc, cQ0_wc, fQ0_wc, cQ1_wc, fQ1_wc] <;> omega)
      clear hb_w4
      have hw_w4 := K_w4.below
      have hz_w4 := K_w4.size
      have lP_w4 : w.heap.size < w4.heap.size := by omega
      have cP0_w4 := K_w4.at (b := w.heap.size) (o := 0) (v := .int .u64 r) (by simp)
      have fP0_w4 := K_w4.free (b := w.heap.size) (o := 0) (v := .int .u64 r) (by simp)
      have cP1_w4 := K_w4.at (b := w.heap.size) (o := 1) (v := .int .u64 b) (by simp)
      have fP1_w4 := K_w4.free (b := w.heap.size) (o := 1) (v := .int .u64 b) (by simp)
      have lA_w4 : w1.heap.size < w4.heap.size := by omega
      have cA0_w4 := K_w4.at (b := w1.heap.size) (o := 0) (v := .int .u64 A) (by simp)
      have fA0_w4 := K_w4.free (b := w1.heap.size) (o := 0) (v := .int .u64 A) (by simp)
      have cA1_w4 := K_w4.at (b := w1.heap.size) (o := 1) (v := .int .u64 B) (by simp)
      have fA1_w4 := K_w4.free (b := w1.heap.size) (o := 1) (v := .int .u64 B) (by simp)
      have lQ_w4 : w3.heap.size < w4.heap.size := by omega
      have cQ0_w4 := K_w4.at (b := w3.heap.size) (o := 0) (v := .int .u64 P) (by simp)
      have fQ0_w4 := K_w4.free (b := w3.heap.size) (o := 0) (v := .int .u64 P) (by simp)
      have cQ1_w4 := K_w4.at (b := w3.heap.size) (o := 1) (v := .int .u64 Q) (by simp)
      have fQ1_w4 := K_w4.free (b := w3.heap.size) (o := 1) (v := .int .u64 Q) (by simp)
      clear lP_wc cP0_wc fP0_wc cP1_wc fP1_wc lA_wc cA0_wc fA0_wc cA1_wc fA1_wc lQ_wc cQ0_wc fQ0_wc cQ1_wc fQ1_wc
      clear K_w4
      go_wp2_with fail
      with_reducible refine (charge20c _ _ _ 0 0 0 _ hr hb ub h (by unfold U at *; simp only [sub0_eq]; omega) (by unfold U at *; simp only [sub0_eq]; omega) (by unfold U at *; simp only [sub0_eq]; omega)).mono ?_
      rintro e w5 ⟨rfl, hb_w5⟩
      have K_w5 : Kept w.heap.size w (w3.heap.size + 1) [(w.heap.size, 0, .int .u64 r), (w.heap.size, 1, .int .u64 b), (w1.heap.size, 0, .int .u64 A), (w1.heap.size, 1, .int .u64 B), (w3.heap.size, 0, .int .u64 P), (w3.heap.size, 1, .int .u64 Q)] w5 := Kept.of hb_w5 (by go_grown) (by go_size) (by omega) (by simp [go_sem, lP_w4, cP0_w4, fP0_w4, cP1_w4, fP1_w4, lA_w4, cA0_w4, fA0_w4, cA1_w4, fA1_w4, lQ_w4, cQ0_w4, fQ0_w4, cQ1_w4, fQ1_w4] <;> omega)
      clear hb_w5
      have hw_w5 := K_w5.below
      have hz_w5 := K_w5.size
      have lP_w5 : w.heap.size < w5.heap.size := by omega
      have cP0_w5 := K_w5.at (b := w.heap.size) (o := 0) (v := .int .u64 r) (by simp)
      have fP0_w5 := K_w5.free (b := w.heap.size) (o := 0) (v := .int .u64 r) (by simp)
      have cP1_w5 := K_w5.at (b := w.heap.size) (o := 1) (v := .int .u64 b) (by simp)
      have fP1_w5 := K_w5.free (b := w.heap.size) (o := 1) (v := .int .u64 b) (by simp)
      have lA_w5 : w1.heap.size < w5.heap.size := by omega
      have cA0_w5 := K_w5.at (b := w1.heap.size) (o := 0) (v := .int .u64 A) (by simp)
      have fA0_w5 := K_w5.free (b := w1.heap.size) (o := 0) (v := .int .u64 A) (by simp)
      have cA1_w5 := K_w5.at (b := w1.heap.size) (o := 1) (v := .int .u64 B) (by simp)
      have fA1_w5 := K_w5.free (b := w1.heap.size) (o := 1) (v := .int .u64 B) (by simp)
      have lQ_w5 : w3.heap.size < w5.heap.size := by omega
      have cQ0_w5 := K_w5.at (b := w3.heap.size) (o := 0) (v := .int .u64 P) (by simp)
      have fQ0_w5 := K_w5.free (b := w3.heap.size) (o := 0) (v := .int .u64 P) (by simp)
      have cQ1_w5 := K_w5.at (b := w3.heap.size) (o := 1) (v := .int .u64 Q) (by simp)
      have fQ1_w5 := K_w5.free (b := w3.heap.size) (o := 1) (v := .int .u64 Q) (by simp)
      clear lP_w4 cP0_w4 fP0_w4 cP1_w4 fP1_w4 lA_w4 cA0_w4 fA0_w4 cA1_w4 fA1_w4 lQ_w4 cQ0_w4 fQ0_w4 cQ1_w4 fQ1_w4
      clear K_w5
      go_wp2_with fail
      with_reducible refine (empty18 _ _ _).mono ?_
      rintro e w6 ⟨rfl, hb_w6⟩
      have K_w6 : Kept w.heap.size w (w5.heap.size + 1) [(w.heap.size, 0, .int .u64 r), (w.heap.size, 1, .int .u64 b), (w1.heap.size, 0, .int .u64 A), (w1.heap.size, 1, .int .u64 B), (w3.heap.size, 0, .int .u64 P), (w3.heap.size, 1, .int .u64 Q), (w5.heap.size, 0, .int .u64 0), (w5.heap.size, 1, .int .u64 0)] w6 := Kept.of hb_w6 (by go_grown) (by go_size) (by omega) (by simp [go_sem, lP_w5, cP0_w5, fP0_w5, cP1_w5, fP1_w5, lA_w5, cA0_w5, fA0_w5, cA1_w5, fA1_w5, lQ_w5, cQ0_w5, fQ0_w5, cQ1_w5, fQ1_w5] <;> omega)
      clear hb_w6
      have hw_w6 := K_w6.below
      have hz_w6 := K_w6.size
      have lP_w6 : w.heap.size < w6.heap.size := by omega
      have cP0_w6 := K_w6.at (b := w.heap.size) (o := 0) (v := .int .u64 r) (by simp)
      have fP0_w6 := K_w6.free (b := w.heap.size) (o := 0) (v := .int .u64 r) (by simp)
      have cP1_w6 := K_w6.at (b := w.heap.size) (o := 1) (v := .int .u64 b) (by simp)
      have fP1_w6 := K_w6.free (b := w.heap.size) (o := 1) (v := .int .u64 b) (by simp)
      have lA_w6 : w1.heap.size < w6.heap.size := by omega
      have cA0_w6 := K_w6.at (b := w1.heap.size) (o := 0) (v := .int .u64 A) (by simp)
      have fA0_w6 := K_w6.free (b := w1.heap.size) (o := 0) (v := .int .u64 A) (by simp)
      have cA1_w6 := K_w6.at (b := w1.heap.size) (o := 1) (v := .int .u64 B) (by simp)
      have fA1_w6 := K_w6.free (b := w1.heap.size) (o := 1) (v := .int .u64 B) (by simp)
      have lQ_w6 : w3.heap.size < w6.heap.size := by omega
      have cQ0_w6 := K_w6.at (b := w3.heap.size) (o := 0) (v := .int .u64 P) (by simp)
      have fQ0_w6 := K_w6.free (b := w3.heap.size) (o := 0) (v := .int .u64 P) (by simp)
      have cQ1_w6 := K_w6.at (b := w3.heap.size) (o := 1) (v := .int .u64 Q) (by simp)
      have fQ1_w6 := K_w6.free (b := w3.heap.size) (o := 1) (v := .int .u64 Q) (by simp)
      have lD_w6 : w5.heap.size < w6.heap.size := by omega
      have cD0_w6 := K_w6.at (b := w5.heap.size) (o := 0) (v := .int .u64 0) (by simp)
      have fD0_w6 := K_w6.free (b := w5.heap.size) (o := 0) (v := .int .u64 0) (by simp)
      have cD1_w6 := K_w6.at (b := w5.heap.size) (o := 1) (v := .int .u64 0) (by simp)
      have fD1_w6 := K_w6.free (b := w5.heap.size) (o := 1) (v := .int .u64 0) (by simp)
      clear lP_w5 cP0_w5 fP0_w5 cP1_w5 fP1_w5 lA_w5 cA0_w5 fA0_w5 cA1_w5 fA1_w5 lQ_w5 cQ0_w5 fQ0_w5 cQ1_w5 fQ1_w5
      clear K_w6
      by_cases u1 : 0 < b
      · have u0 : 0 < r + b := by unfold U at *; omega
        have ub1 : U (r + b - 1) := by unfold U at *; omega
        go_wp2_with fail
        with_reducible refine (charge20c _ _ _ 0 1 0 _ hr hb ub1 h (by unfold U at *; simp only [sub0_eq]; omega) (by unfold U at *; simp only [sub0_eq]; omega) (by unfold U at *; simp only [sub0_eq]; omega)).mono ?_
        rintro e w7 ⟨rfl, hb_w7⟩
        have K_w7 : Kept w.heap.size w (w5.heap.size + 1) [(w.heap.size, 0, .int .u64 r), (w.heap.size, 1, .int .u64 b), (w1.heap.size, 0, .int .u64 A), (w1.heap.size, 1, .int .u64 B), (w3.heap.size, 0, .int .u64 P), (w3.heap.size, 1, .int .u64 Q), (w5.heap.size, 0, .int .u64 0), (w5.heap.size, 1, .int .u64 0)] w7 := Kept.of hb_w7 (by go_grown) (by go_size) (by omega) (by simp [go_sem, lP_w6, cP0_w6, fP0_w6, cP1_w6, fP1_w6, lA_w6, cA0_w6, fA0_w6, cA1_w6, fA1_w6, lQ_w6, cQ0_w6, fQ0_w6, cQ1_w6, fQ1_w6, lD_w6, cD0_w6, fD0_w6, cD1_w6, fD1_w6] <;> omega)
        clear hb_w7
        have hw_w7 := K_w7.below
        have hz_w7 := K_w7.size
        have lP_w7 : w.heap.size < w7.heap.size := by omega
        have cP0_w7 := K_w7.at (b := w.heap.size) (o := 0) (v := .int .u64 r) (by simp)
        have fP0_w7 := K_w7.free (b := w.heap.size) (o := 0) (v := .int .u64 r) (by simp)
        have cP1_w7 := K_w7.at (b := w.heap.size) (o := 1) (v := .int .u64 b) (by simp)
        have fP1_w7 := K_w7.free (b := w.heap.size) (o := 1) (v := .int .u64 b) (by simp)
        have lA_w7 : w1.heap.size < w7.heap.size := by omega
        have cA0_w7 := K_w7.at (b := w1.heap.size) (o := 0) (v := .int .u64 A) (by simp)
        have fA0_w7 := K_w7.free (b := w1.heap.size) (o := 0) (v := .int .u64 A) (by simp)
        have cA1_w7 := K_w7.at (b := w1.heap.size) (o := 1) (v := .int .u64 B) (by simp)
        have fA1_w7 := K_w7.free (b := w1.heap.size) (o := 1) (v := .int .u64 B) (by simp)
        have lQ_w7 : w3.heap.size < w7.heap.size := by omega
        have cQ0_w7 := K_w7.at (b := w3.heap.size) (o := 0) (v := .int .u64 P) (by simp)
        have fQ0_w7 := K_w7.free (b := w3.heap.size) (o := 0) (v := .int .u64 P) (by simp)
        have cQ1_w7 := K_w7.at (b := w3.heap.size) (o := 1) (v := .int .u64 Q) (by simp)
        have fQ1_w7 := K_w7.free (b := w3.heap.size) (o := 1) (v := .int .u64 Q) (by simp)
        have lD_w7 : w5.heap.size < w7.heap.size := by omega
        have cD0_w7 := K_w7.at (b := w5.heap.size) (o := 0) (v := .int .u64 0) (by simp)
        have fD0_w7 := K_w7.free (b := w5.heap.size) (o := 0) (v := .int .u64 0) (by simp)
        have cD1_w7 := K_w7.at (b := w5.heap.size) (o := 1) (v := .int .u64 0) (by simp)
        have fD1_w7 := K_w7.free (b := w5.heap.size) (o := 1) (v := .int .u64 0) (by simp)
        clear lP_w6 cP0_w6 fP0_w6 cP1_w6 fP1_w6 lA_w6 cA0_w6 fA0_w6 cA1_w6 fA1_w6 lQ_w6 cQ0_w6 fQ0_w6 cQ1_w6 fQ1_w6 lD_w6 cD0_w6 fD0_w6 cD1_w6 fD1_w6
        clear K_w7
        go_wp2_with fail
        with_reducible refine (empty18 _ _ _).mono ?_
        rintro e w8 ⟨rfl, hb_w8⟩
        have K_w8 : Kept w.heap.size w (w5.heap.size + 1) [(w.heap.size, 0, .int .u64 r), (w.heap.size, 1, .int .u64 b), (w1.heap.size, 0, .int .u64 A), (w1.heap.size, 1, .int .u64 B), (w3.heap.size, 0, .int .u64 P), (w3.heap.size, 1, .int .u64 Q), (w5.heap.size, 0, .int .u64 0), (w5.heap.size, 1, .int .u64 1)] w8 := Kept.of hb_w8 (by go_grown) (by go_size) (by omega) (by simp [go_sem, lP_w7, cP0_w7, fP0_w7, cP1_w7, fP1_w7, lA_w7, cA0_w7, fA0_w7, cA1_w7, fA1_w7, lQ_w7, cQ0_w7, fQ0_w7, cQ1_w7, fQ1_w7, lD_w7, cD0_w7, fD0_w7, cD1_w7, fD1_w7] <;> omega)
        clear hb_w8
        have hw_w8 := K_w8.below
        have hz_w8 := K_w8.size
        have lP_w8 : w.heap.size < w8.heap.size := by omega
        have cP0_w8 := K_w8.at (b := w.heap.size) (o := 0) (v := .int .u64 r) (by simp)
        have fP0_w8 := K_w8.free (b := w.heap.size) (o := 0) (v := .int .u64 r) (by simp)
        have cP1_w8 := K_w8.at (b := w.heap.size) (o := 1) (v := .int .u64 b) (by simp)
        have fP1_w8 := K_w8.free (b := w.heap.size) (o := 1) (v := .int .u64 b) (by simp)
        have lA_w8 : w1.heap.size < w8.heap.size := by omega
        have cA0_w8 := K_w8.at (b := w1.heap.size) (o := 0) (v := .int .u64 A) (by simp)
        have fA0_w8 := K_w8.free (b := w1.heap.size) (o := 0) (v := .int .u64 A) (by simp)
        have cA1_w8 := K_w8.at (b := w1.heap.size) (o := 1) (v := .int .u64 B) (by simp)
        have fA1_w8 := K_w8.free (b := w1.heap.size) (o := 1) (v := .int .u64 B) (by simp)
        have lQ_w8 : w3.heap.size < w8.heap.size := by omega
        have cQ0_w8 := K_w8.at (b := w3.heap.size) (o := 0) (v := .int .u64 P) (by simp)
        have fQ0_w8 := K_w8.free (b := w3.heap.size) (o := 0) (v := .int .u64 P) (by simp)
        have cQ1_w8 := K_w8.at (b := w3.heap.size) (o := 1) (v := .int .u64 Q) (by simp)
        have fQ1_w8 := K_w8.free (b := w3.heap.size) (o := 1) (v := .int .u64 Q) (by simp)
        have lD_w8 : w5.heap.size < w8.heap.size := by omega
        have cD0_w8 := K_w8.at (b := w5.heap.size) (o := 0) (v := .int .u64 0) (by simp)
        have fD0_w8 := K_w8.free (b := w5.heap.size) (o := 0) (v := .int .u64 0) (by simp)
        have cD1_w8 := K_w8.at (b := w5.heap.size) (o := 1) (v := .int .u64 1) (by simp)
        have fD1_w8 := K_w8.free (b := w5.heap.size) (o := 1) (v := .int .u64 1) (by simp)
        clear lP_w7 cP0_w7 fP0_w7 cP1_w7 fP1_w7 lA_w7 cA0_w7 fA0_w7 cA1_w7 fA1_w7 lQ_w7 cQ0_w7 fQ0_w7 cQ1_w7 fQ1_w7 lD_w7 cD0_w7 fD0_w7 cD1_w7 fD1_w7
        clear K_w8
        go_wp2_with fail
        with_reducible refine (known12 _).mono ?_
        rintro e w9 ⟨rfl, hb_w9⟩
        have K_w9 : Kept w.heap.size w (w5.heap.size + 1) [(w.heap.size, 0, .int .u64 r), (w.heap.size, 1, .int .u64 b), (w1.heap.size, 0, .int .u64 A), (w1.heap.size, 1, .int .u64 B), (w3.heap.size, 0, .int .u64 P), (w3.heap.size, 1, .int .u64 Q), (w5.heap.size, 0, .int .u64 0), (w5.heap.size, 1, .int .u64 1)] w9 := Kept.of hb_w9 (by go_grown) (by go_size) (by omega) (by simp [go_sem, lP_w8, cP0_w8, fP0_w8, cP1_w8, fP1_w8, lA_w8, cA0_w8, fA0_w8, cA1_w8, fA1_w8, lQ_w8, cQ0_w8, fQ0_w8, cQ1_w8, fQ1_w8, lD_w8, cD0_w8, fD0_w8, cD1_w8, fD1_w8] <;> omega)
        clear hb_w9
        have hw_w9 := K_w9.below
        have hz_w9 := K_w9.size
        have lP_w9 : w.heap.size < w9.heap.size := by omega
        have cP0_w9 := K_w9.at (b := w.heap.size) (o := 0) (v := .int .u64 r) (by simp)
        have fP0_w9 := K_w9.free (b := w.heap.size) (o := 0) (v := .int .u64 r) (by simp)
        have cP1_w9 := K_w9.at (b := w.heap.size) (o := 1) (v := .int .u64 b) (by simp)
        have fP1_w9 := K_w9.free (b := w.heap.size) (o := 1) (v := .int .u64 b) (by simp)
        have lA_w9 : w1.heap.size < w9.heap.size := by omega
        have cA0_w9 := K_w9.at (b := w1.heap.size) (o := 0) (v := .int .u64 A) (by simp)
        have fA0_w9 := K_w9.free (b := w1.heap.size) (o := 0) (v := .int .u64 A) (by simp)
        have cA1_w9 := K_w9.at (b := w1.heap.size) (o := 1) (v := .int .u64 B) (by simp)
        have fA1_w9 := K_w9.free (b := w1.heap.size) (o := 1) (v := .int .u64 B) (by simp)
        have lQ_w9 : w3.heap.size < w9.heap.size := by omega
        have cQ0_w9 := K_w9.at (b := w3.heap.size) (o := 0) (v := .int .u64 P) (by simp)
        have fQ0_w9 := K_w9.free (b := w3.heap.size) (o := 0) (v := .int .u64 P) (by simp)
        have cQ1_w9 := K_w9.at (b := w3.heap.size) (o := 1) (v := .int .u64 Q) (by simp)
        have fQ1_w9 := K_w9.free (b := w3.heap.size) (o := 1) (v := .int .u64 Q) (by simp)
        have lD_w9 : w5.heap.size < w9.heap.size := by omega
        have cD0_w9 := K_w9.at (b := w5.heap.size) (o := 0) (v := .int .u64 0) (by simp)
        have fD0_w9 := K_w9.free (b := w5.heap.size) (o := 0) (v := .int .u64 0) (by simp)
        have cD1_w9 := K_w9.at (b := w5.heap.size) (o := 1) (v := .int .u64 1) (by simp)
        have fD1_w9 := K_w9.free (b := w5.heap.size) (o := 1) (v := .int .u64 1) (by simp)
        clear lP_w8 cP0_w8 fP0_w8 cP1_w8 fP1_w8 lA_w8 cA0_w8 fA0_w8 cA1_w8 fA1_w8 lQ_w8 cQ0_w8 fQ0_w8 cQ1_w8 fQ1_w8 lD_w8 cD0_w8 fD0_w8 cD1_w8 fD1_w8
        clear K_w9
        go_wp2_with fail
        go_returns
        exact ⟨rfl, by go_grown⟩
      · by_cases u2 : 0 < r
        · have u0 : 0 < r + b := by unfold U at *; omega
          have ub1 : U (r + b - 1) := by unfold U at *; omega
          go_wp2_with fail
          with_reducible refine (charge20c _ _ _ 1 0 0 _ hr hb ub1 h (by unfold U at *; simp only [sub0_eq]; omega) (by unfold U at *; simp only [sub0_eq]; omega) (by unfold U at *; simp only [sub0_eq]; omega)).mono ?_
          rintro e w7 ⟨rfl, hb_w7⟩
          have K_w7 : Kept w.heap.size w (w5.heap.size + 1) [(w.heap.size, 0, .int .u64 r), (w.heap.size, 1, .int .u64 b), (w1.heap.size, 0, .int .u64 A), (w1.heap.size, 1, .int .u64 B), (w3.heap.size, 0, .int .u64 P), (w3.heap.size, 1, .int .u64 Q), (w5.heap.size, 0, .int .u64 0), (w5.heap.size, 1, .int .u64 0)] w7 := Kept.of hb_w7 (by go_grown) (by go_size) (by omega) (by simp [go_sem, lP_w6, cP0_w6, fP0_w6, cP1_w6, fP1_w6, lA_w6, cA0_w6, fA0_w6, cA1_w6, fA1_w6, lQ_w6, cQ0_w6, fQ0_w6, cQ1_w6, fQ1_w6, lD_w6, cD0_w6, fD0_w6, cD1_w6, fD1_w6] <;> omega)
          clear hb_w7
          have hw_w7 := K_w7.below
          have hz_w7 := K_w7.size
          have lP_w7 : w.heap.size < w7.heap.size := by omega
          have cP0_w7 := K_w7.at (b := w.heap.size) (o := 0) (v := .int .u64 r) (by simp)
          have fP0_w7 := K_w7.free (b := w.heap.size) (o := 0) (v := .int .u64 r) (by simp)
          have cP1_w7 := K_w7.at (b := w.heap.size) (o := 1) (v := .int .u64 b) (by simp)
          have fP1_w7 := K_w7.free (b := w.heap.size) (o := 1) (v := .int .u64 b) (by simp)
          have lA_w7 : w1.heap.size < w7.heap.size := by omega
          have cA0_w7 := K_w7.at (b := w1.heap.size) (o := 0) (v := .int .u64 A) (by simp)
          have fA0_w7 := K_w7.free (b := w1.heap.size) (o := 0) (v := .int .u64 A) (by simp)
          have cA1_w7 := K_w7.at (b := w1.heap.size) (o := 1) (v := .int .u64 B) (by simp)
          have fA1_w7 := K_w7.free (b := w1.heap.size) (o := 1) (v := .int .u64 B) (by simp)
          have lQ_w7 : w3.heap.size < w7.heap.size := by omega
          have cQ0_w7 := K_w7.at (b := w3.heap.size) (o := 0) (v := .int .u64 P) (by simp)
          have fQ0_w7 := K_w7.free (b := w3.heap.size) (o := 0) (v := .int .u64 P) (by simp)
          have cQ1_w7 := K_w7.at (b := w3.heap.size) (o := 1) (v := .int .u64 Q) (by simp)
          have fQ1_w7 := K_w7.free (b := w3.heap.size) (o := 1) (v := .int .u64 Q) (by simp)
          have lD_w7 : w5.heap.size < w7.heap.size := by omega
          have cD0_w7 := K_w7.at (b := w5.heap.size) (o := 0) (v := .int .u64 0) (by simp)
          have fD0_w7 := K_w7.free (b := w5.heap.size) (o := 0) (v := .int .u64 0) (by simp)
          have cD1_w7 := K_w7.at (b := w5.heap.size) (o := 1) (v := .int .u64 0) (by simp)
          have fD1_w7 := K_w7.free (b := w5.heap.size) (o := 1) (v := .int .u64 0) (by simp)
          clear lP_w6 cP0_w6 fP0_w6 cP1_w6 fP1_w6 lA_w6 cA0_w6 fA0_w6 cA1_w6 fA1_w6 lQ_w6 cQ0_w6 fQ0_w6 cQ1_w6 fQ1_w6 lD_w6 cD0_w6 fD0_w6 cD1_w6 fD1_w6
          clear K_w7
          go_wp2_with fail
          with_reducible refine (empty18 _ _ _).mono ?_
          rintro e w8 ⟨rfl, hb_w8⟩
          have K_w8 : Kept w.heap.size w (w5.heap.size + 1) [(w.heap.size, 0, .int .u64 r), (w.heap.size, 1, .int .u64 b), (w1.heap.size, 0, .int .u64 A), (w1.heap.size, 1, .int .u64 B), (w3.heap.size, 0, .int .u64 P), (w3.heap.size, 1, .int .u64 Q), (w5.heap.size, 0, .int .u64 1), (w5.heap.size, 1, .int .u64 0)] w8 := Kept.of hb_w8 (by go_grown) (by go_size) (by omega) (by simp [go_sem, lP_w7, cP0_w7, fP0_w7, cP1_w7, fP1_w7, lA_w7, cA0_w7, fA0_w7, cA1_w7, fA1_w7, lQ_w7, cQ0_w7, fQ0_w7, cQ1_w7, fQ1_w7, lD_w7, cD0_w7, fD0_w7, cD1_w7, fD1_w7] <;> omega)
          clear hb_w8
          have hw_w8 := K_w8.below
          have hz_w8 := K_w8.size
          have lP_w8 : w.heap.size < w8.heap.size := by omega
          have cP0_w8 := K_w8.at (b := w.heap.size) (o := 0) (v := .int .u64 r) (by simp)
          have fP0_w8 := K_w8.free (b := w.heap.size) (o := 0) (v := .int .u64 r) (by simp)
          have cP1_w8 := K_w8.at (b := w.heap.size) (o := 1) (v := .int .u64 b) (by simp)
          have fP1_w8 := K_w8.free (b := w.heap.size) (o := 1) (v := .int .u64 b) (by simp)
          have lA_w8 : w1.heap.size < w8.heap.size := by omega
          have cA0_w8 := K_w8.at (b := w1.heap.size) (o := 0) (v := .int .u64 A) (by simp)
          have fA0_w8 := K_w8.free (b := w1.heap.size) (o := 0) (v := .int .u64 A) (by simp)
          have cA1_w8 := K_w8.at (b := w1.heap.size) (o := 1) (v := .int .u64 B) (by simp)
          have fA1_w8 := K_w8.free (b := w1.heap.size) (o := 1) (v := .int .u64 B) (by simp)
          have lQ_w8 : w3.heap.size < w8.heap.size := by omega
          have cQ0_w8 := K_w8.at (b := w3.heap.size) (o := 0) (v := .int .u64 P) (by simp)
          have fQ0_w8 := K_w8.free (b := w3.heap.size) (o := 0) (v := .int .u64 P) (by simp)
          have cQ1_w8 := K_w8.at (b := w3.heap.size) (o := 1) (v := .int .u64 Q) (by simp)
          have fQ1_w8 := K_w8.free (b := w3.heap.size) (o := 1) (v := .int .u64 Q) (by simp)
          have lD_w8 : w5.heap.size < w8.heap.size := by omega
          have cD0_w8 := K_w8.at (b := w5.heap.size) (o := 0) (v := .int .u64 1) (by simp)
          have fD0_w8 := K_w8.free (b := w5.heap.size) (o := 0) (v := .int .u64 1) (by simp)
          have cD1_w8 := K_w8.at (b := w5.heap.size) (o := 1) (v := .int .u64 0) (by simp)
          have fD1_w8 := K_w8.free (b := w5.heap.size) (o := 1) (v := .int .u64 0) (by simp)
          clear lP_w7 cP0_w7 fP0_w7 cP1_w7 fP1_w7 lA_w7 cA0_w7 fA0_w7 cA1_w7 fA1_w7 lQ_w7 cQ0_w7 fQ0_w7 cQ1_w7 fQ1_w7 lD_w7 cD0_w7 fD0_w7 cD1_w7 fD1_w7
          clear K_w8
          go_wp2_with fail
          with_reducible refine (known12 _).mono ?_
          rintro e w9 ⟨rfl, hb_w9⟩
          have K_w9 : Kept w.heap.size w (w5.heap.size + 1) [(w.heap.size, 0, .int .u64 r), (w.heap.size, 1, .int .u64 b), (w1.heap.size, 0, .int .u64 A), (w1.heap.size, 1, .int .u64 B), (w3.heap.size, 0, .int .u64 P), (w3.heap.size, 1, .int .u64 Q), (w5.heap.size, 0, .int .u64 1), (w5.heap.size, 1, .int .u64 0)] w9 := Kept.of hb_w9 (by go_grown) (by go_size) (by omega) (by simp [go_sem, lP_w8, cP0_w8, fP0_w8, cP1_w8, fP1_w8, lA_w8, cA0_w8, fA0_w8, cA1_w8, fA1_w8, lQ_w8, cQ0_w8, fQ0_w8, cQ1_w8, fQ1_w8, lD_w8, cD0_w8, fD0_w8, cD1_w8, fD1_w8] <;> omega)
          clear hb_w9
          have hw_w9 := K_w9.below
          have hz_w9 := K_w9.size
          have lP_w9 : w.heap.size < w9.heap.size := by omega
          have cP0_w9 := K_w9.at (b := w.heap.size) (o := 0) (v := .int .u64 r) (by simp)
          have fP0_w9 := K_w9.free (b := w.heap.size) (o := 0) (v := .int .u64 r) (by simp)
          have cP1_w9 := K_w9.at (b := w.heap.size) (o := 1) (v := .int .u64 b) (by simp)
          have fP1_w9 := K_w9.free (b := w.heap.size) (o := 1) (v := .int .u64 b) (by simp)
          have lA_w9 : w1.heap.size < w9.heap.size := by omega
          have cA0_w9 := K_w9.at (b := w1.heap.size) (o := 0) (v := .int .u64 A) (by simp)
          have fA0_w9 := K_w9.free (b := w1.heap.size) (o := 0) (v := .int .u64 A) (by simp)
          have cA1_w9 := K_w9.at (b := w1.heap.size) (o := 1) (v := .int .u64 B) (by simp)
          have fA1_w9 := K_w9.free (b := w1.heap.size) (o := 1) (v := .int .u64 B) (by simp)
          have lQ_w9 : w3.heap.size < w9.heap.size := by omega
          have cQ0_w9 := K_w9.at (b := w3.heap.size) (o := 0) (v := .int .u64 P) (by simp)
          have fQ0_w9 := K_w9.free (b := w3.heap.size) (o := 0) (v := .int .u64 P) (by simp)
          have cQ1_w9 := K_w9.at (b := w3.heap.size) (o := 1) (v := .int .u64 Q) (by simp)
          have fQ1_w9 := K_w9.free (b := w3.heap.size) (o := 1) (v := .int .u64 Q) (by simp)
          have lD_w9 : w5.heap.size < w9.heap.size := by omega
          have cD0_w9 := K_w9.at (b := w5.heap.size) (o := 0) (v := .int .u64 1) (by simp)
          have fD0_w9 := K_w9.free (b := w5.heap.size) (o := 0) (v := .int .u64 1) (by simp)
          have cD1_w9 := K_w9.at (b := w5.heap.size) (o := 1) (v := .int .u64 0) (by simp)
          have fD1_w9 := K_w9.free (b := w5.heap.size) (o := 1) (v := .int .u64 0) (by simp)
          clear lP_w8 cP0_w8 fP0_w8 cP1_w8 fP1_w8 lA_w8 cA0_w8 fA0_w8 cA1_w8 fA1_w8 lQ_w8 cQ0_w8 fQ0_w8 cQ1_w8 fQ1_w8 lD_w8 cD0_w8 fD0_w8 cD1_w8 fD1_w8
          clear K_w9
          go_wp2_with fail
          go_returns
          exact ⟨rfl, by go_grown⟩
        · have u0 : r + b ≤ 0 := by omega
          go_wp2_with fail
          with_reducible refine (known12 _).mono ?_
          rintro e w7 ⟨rfl, hb_w7⟩
          have K_w7 : Kept w.heap.size w (w5.heap.size + 1) [(w.heap.size, 0, .int .u64 r), (w.heap.size, 1, .int .u64 b), (w1.heap.size, 0, .int .u64 A), (w1.heap.size, 1, .int .u64 B), (w3.heap.size, 0, .int .u64 P), (w3.heap.size, 1, .int .u64 Q), (w5.heap.size, 0, .int .u64 0), (w5.heap.size, 1, .int .u64 0)] w7 := Kept.of hb_w7 (by go_grown) (by go_size) (by omega) (by simp [go_sem, lP_w6, cP0_w6, fP0_w6, cP1_w6, fP1_w6, lA_w6, cA0_w6, fA0_w6, cA1_w6, fA1_w6, lQ_w6, cQ0_w6, fQ0_w6, cQ1_w6, fQ1_w6, lD_w6, cD0_w6, fD0_w6, cD1_w6, fD1_w6] <;> omega)
          clear hb_w7
          have hw_w7 := K_w7.below
          have hz_w7 := K_w7.size
          have lP_w7 : w.heap.size < w7.heap.size := by omega
          have cP0_w7 := K_w7.at (b := w.heap.size) (o := 0) (v := .int .u64 r) (by simp)
          have fP0_w7 := K_w7.free (b := w.heap.size) (o := 0) (v := .int .u64 r) (by simp)
          have cP1_w7 := K_w7.at (b := w.heap.size) (o := 1) (v := .int .u64 b) (by simp)
          have fP1_w7 := K_w7.free (b := w.heap.size) (o := 1) (v := .int .u64 b) (by simp)
          have lA_w7 : w1.heap.size < w7.heap.size := by omega
          have cA0_w7 := K_w7.at (b := w1.heap.size) (o := 0) (v := .int .u64 A) (by simp)
          have fA0_w7 := K_w7.free (b := w1.heap.size) (o := 0) (v := .int .u64 A) (by simp)
          have cA1_w7 := K_w7.at (b := w1.heap.size) (o := 1) (v := .int .u64 B) (by simp)
          have fA1_w7 := K_w7.free (b := w1.heap.size) (o := 1) (v := .int .u64 B) (by simp)
          have lQ_w7 : w3.heap.size < w7.heap.size := by omega
          have cQ0_w7 := K_w7.at (b := w3.heap.size) (o := 0) (v := .int .u64 P) (by simp)
          have fQ0_w7 := K_w7.free (b := w3.heap.size) (o := 0) (v := .int .u64 P) (by simp)
          have cQ1_w7 := K_w7.at (b := w3.heap.size) (o := 1) (v := .int .u64 Q) (by simp)
          have fQ1_w7 := K_w7.free (b := w3.heap.size) (o := 1) (v := .int .u64 Q) (by simp)
          have lD_w7 : w5.heap.size < w7.heap.size := by omega
          have cD0_w7 := K_w7.at (b := w5.heap.size) (o := 0) (v := .int .u64 0) (by simp)
          have fD0_w7 := K_w7.free (b := w5.heap.size) (o := 0) (v := .int .u64 0) (by simp)
          have cD1_w7 := K_w7.at (b := w5.heap.size) (o := 1) (v := .int .u64 0) (by simp)
          have fD1_w7 := K_w7.free (b := w5.heap.size) (o := 1) (v := .int .u64 0) (by simp)
          clear lP_w6 cP0_w6 fP0_w6 cP1_w6 fP1_w6 lA_w6 cA0_w6 fA0_w6 cA1_w6 fA1_w6 lQ_w6 cQ0_w6 fQ0_w6 cQ1_w6 fQ1_w6 lD_w6 cD0_w6 fD0_w6 cD1_w6 fD1_w6
          clear K_w7
          go_wp2_with fail
          go_returns
          exact ⟨rfl, by go_grown⟩
end Go.Proofs.Ytkjakcoejnhojaa
