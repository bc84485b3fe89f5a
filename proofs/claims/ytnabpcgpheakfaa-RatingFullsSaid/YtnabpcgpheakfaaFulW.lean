/- RatingFulls: the walk. -/
import Derived.Test.YtnabpcgpheakfaaFulA
import Derived.BigQuiet
import Derived.Deep.QuietTactic
namespace Go.Proofs.Ytnabpcgpheakfaa
open Go.RowKit Plain
set_option linter.unusedVariables false
set_option linter.unusedSimpArgs false

set_option maxRecDepth 100000 in
set_option maxHeartbeats 4000000 in
theorem fulls7_0 (p g : Int) (w : World) (p0 : decide (p < 99) = true) : Calls Try.prog 7 #[.int .i64 p, .int .i64 g] w fun e w' => e = .returned (.bool true) ∧ Below w.heap.size w w' := by
  go_enter Try.func7, Try.ntmps7
  go_wp2_with fail
  with_reducible refine (known11 _).mono ?_
  rintro e w' ⟨rfl, rfl⟩
  go_wp2_with fail
  go_returns
  exact ⟨rfl, by go_grown⟩

set_option maxRecDepth 100000 in
set_option maxHeartbeats 4000000 in
theorem fulls7_1 (p g : Int) (w : World) (p0 : decide (p < 99) = false) (p1 : decide (101 < p) = true) : Calls Try.prog 7 #[.int .i64 p, .int .i64 g] w fun e w' => e = .returned (.bool true) ∧ Below w.heap.size w w' := by
  go_enter Try.func7, Try.ntmps7
  go_wp2_with fail
  with_reducible refine (known11 _).mono ?_
  rintro e w' ⟨rfl, rfl⟩
  go_wp2_with fail
  go_returns
  exact ⟨rfl, by go_grown⟩

set_option maxRecDepth 100000 in
set_option maxHeartbeats 4000000 in
theorem fulls7_2 (p g : Int) (w : World) (p0 : decide (p < 99) = false) (p1 : decide (101 < p) = false) (p2 : decide (g < 998) = true) : Calls Try.prog 7 #[.int .i64 p, .int .i64 g] w fun e w' => e = .returned (.bool true) ∧ Below w.heap.size w w' := by
  go_enter Try.func7, Try.ntmps7
  go_wp2_with fail
  with_reducible refine (known11 _).mono ?_
  rintro e w' ⟨rfl, rfl⟩
  go_wp2_with fail
  go_returns
  exact ⟨rfl, by go_grown⟩

set_option maxRecDepth 100000 in
set_option maxHeartbeats 4000000 in
theorem fulls7_3 (p g : Int) (w : World) (p0 : decide (p < 99) = false) (p1 : decide (101 < p) = false) (p2 : decide (g < 998) = false) (p3 : decide (1002 < g) = true) : Calls Try.prog 7 #[.int .i64 p, .int .i64 g] w fun e w' => e = .returned (.bool true) ∧ Below w.heap.size w w' := by
  go_enter Try.func7, Try.ntmps7
  go_wp2_with fail
  with_reducible refine (known11 _).mono ?_
  rintro e w' ⟨rfl, rfl⟩
  go_wp2_with fail
  go_returns
  exact ⟨rfl, by go_grown⟩

/-- Series returns the ratings -/
def SF (w : World) (P : Nat) (e : Ending) (w' : World) : Prop := ∃ (g : Nat) (ex : List Value) (cap : Nat) (ys : List Int) (y0 y1 : Int), e = .returned (.tuple #[.slice (some ⟨g, 0, none⟩) P cap, .int .i64 0]) ∧ IAt w' g ys ex ∧ ys.length = P ∧ ys[0]? = some y0 ∧ ys[1]? = some y1 ∧ y0 + y1 = 2000 ∧ (0 ≤ y0 ∧ y0 ≤ 4000) ∧ (0 ≤ y1 ∧ y1 ≤ 4000) ∧ Below w.heap.size w w'
theorem ser_fulls (P G : Nat) (v gv sv : Value) (w : World) (hs : Seg w .i64 v (List.replicate P 1000)) (hg : SRow [.i64, .i64] w gv (gms G)) (hc : Seg w .i64 sv (List.replicate G 0)) (h1 : 2 ≤ P) (h2 : P ≤ 100) (h3 : G ≤ 1000) :
    Calls Try.prog 19 #[v, .int .i64 1, gv, sv] w (SF w P) := by
  refine (series19_all v gv sv 1 _ _ _ w hs hg hc (by simpa using h2) (by simpa [gms_len] using h3)).mono ?_
  rintro e w' ⟨v', he, _, ho, hb⟩
  rw [ser_ok P G h1] at he ho
  have hl := plK_len 1 (List.replicate P 1000) (gms G) (List.replicate G 0) (gms G).length
  rw [List.length_replicate] at hl
  have hsum := plK_sum 1 G (List.replicate G 0) P h1 G (Nat.le_refl _)
  have hv := plK_v 1 (List.replicate P 1000) (gms G) (List.replicate G 0) (by
    rw [List.any_eq_false]
    intro z hz
    rw [List.eq_of_mem_replicate hz]
    decide) (gms G).length
  rcases ho rfl with ⟨h0, _⟩ | ⟨g, cap, ex, rfl, hgb, hgm, hgi⟩
  · rw [h0] at hl; simp at hl; omega
  · simp only [gms_len] at hl hv hgi hgm he
    generalize plK 1 (List.replicate P 1000) (gms G) (List.replicate G 0) G = ys at *
    obtain ⟨y0, y1, r, rfl⟩ : ∃ y0 y1 r, ys = y0 :: y1 :: r := by
      match ys, hl with
      | [], hl => simp at hl; omega
      | [_], hl => simp at hl; omega
      | a :: b :: r, _ => exact ⟨a, b, r, rfl⟩
    rw [hl] at he
    exact ⟨g, ex, cap, _, y0, y1, he, hgi, hl, rfl, rfl, by simpa using hsum, vB_true (hv 0 y0 rfl), vB_true (hv 1 y1 rfl), hb⟩
theorem info46 : (Try.prog.info? 46).map (fun i => (i.zero, i.size, i.bytes)) = some (some (.agg #[.int .i64 0, .int .i64 0]), 2, 16) := by kernel_rfl
theorem info27 : (Try.prog.info? 27).map (fun i => (i.zero, i.size, i.bytes)) = some (some (.int .i64 0), 1, 8) := by kernel_rfl
def F1R (w : World) (A P : Nat) (i : Value) (wr : World) : Prop := ∃ k : Nat, k ≤ P ∧ i = .int .i64 k ∧ IAt wr A (stK P k) [] ∧ Below w.heap.size w wr
def F2R (w : World) (A P L G : Nat) (i : Value) (wr : World) : Prop := ∃ k : Nat, k ≤ G ∧ i = .int .i64 k ∧ IAt wr A (stK P P) [] ∧ GAt wr L G k ∧ Below w.heap.size w wr
set_option maxRecDepth 100000 in
set_option maxHeartbeats 4000000 in
theorem fulls7 (P G : Nat) (w : World) (p1 : 99 ≤ P) (p2 : P ≤ 101) (g1 : 998 ≤ G) (g2 : G ≤ 1002) : Calls Try.prog 7 #[.int .i64 (P : Int), .int .i64 (G : Int)] w fun e w' => e = .returned (.bool true) ∧ Below w.heap.size w w' := by
  obtain ⟨i3, hi3, hz31, hz32, hz33⟩ := info_parts info3
  obtain ⟨i46, hi46, hz461, hz462, hz463⟩ := info_parts info46
  obtain ⟨i27, hi27, hz271, hz272, hz273⟩ := info_parts info27
  have q1 : decide ((P : Int) < 99) = false := by simp; omega
  have q2 : decide (101 < (P : Int)) = false := by simp; omega
  have q3 : decide ((G : Int) < 998) = false := by simp; omega
  have q4 : decide (1002 < (G : Int)) = false := by simp; omega
  have hm1 := fun w => run_make (P := Try.prog) w 39 3 i3 _ Try.underlying39 hi3 hz31 .i64 .i64 (P : Int) (P : Int) (by omega) (Int.le_refl _) (by rw [hz33]; omega) (by omega)
  rw [hz32] at hm1
  simp only [Int.toNat_natCast, Nat.mul_one] at hm1
  have hm2 := fun w => run_make (P := Try.prog) w 40 46 i46 _ Try.underlying40 hi46 hz461 .i64 .i64 (G : Int) (G : Int) (by omega) (Int.le_refl _) (by rw [hz463]; omega) (by omega)
  rw [hz462] at hm2
  simp only [Int.toNat_natCast] at hm2
  have hm3 := fun w => run_make (P := Try.prog) w 41 27 i27 _ Try.underlying41 hi27 hz271 .i64 .i64 (G : Int) (G : Int) (by omega) (Int.le_refl _) (by rw [hz273]; omega) (by omega)
  rw [hz272] at hm3
  simp only [Int.toNat_natCast, Nat.mul_one] at hm3
  have HM2 := Lib.hid hm2
  have HM3 := Lib.hid hm3
  clear hm2 hm3 hi3 hz31 hz32 hz33 hi46 hz461 hz462 hz463 hi27 hz271 hz272 hz273
  go_enter Try.func7, Try.ntmps7
  go_wp2_with fail
  clear hm1
  go_loopw [6] (fun i wr => F1R w w.heap.size P i wr) (fun i _ => P - (intOf i).toNat)
  case atStart => exact ⟨0, Nat.zero_le _, rfl, by unfold IAt; rw [stK_zero, ← made_int]; exact heap_alloc_new _ _, by go_grown⟩
  case round =>
    obtain ⟨k, hk, rfl, hi, hb⟩ := hrel
    have HI := Lib.hid hi
    clear hi
    by_cases hlt : k < P
    · have kx := HI.out.cell (stK_get P k k hlt)
      have fx := HI.out.free k
      have i1 : (0 : Int) ≤ (k : Int) := by omega
      have i2 : (k : Int) < (P : Int) := by omega
      go_wp2_with fail
      go_roundw
      case rel => exact ⟨k + 1, by omega, by go_num, by rw [← stK_set]; exact HI.out.set k _ (by rw [stK_len]; exact hlt), hb.setCell (by simp) _⟩
      case measure => simp [intOf]; omega
    · obtain rfl : k = P := by omega
      obtain ⟨wo, rfl⟩ : ∃ wo : World, wo = wr := ⟨_, rfl⟩
      have hn1 : decide ((k : Int) < (k : Int)) = false := by simp
      have hm2 := HM2.out
      have hzb := hb.size
      have hal := HI.out.lt
      go_wp2_with fail
      clear hm2
      go_loopw [8] (fun i wr => F2R w w.heap.size k wo.heap.size G i wr) (fun i _ => G - (intOf i).toNat)
      case atStart => exact ⟨0, Nat.zero_le _, rfl, HI.out.below (by go_grown), by unfold GAt; rw [← duK_zero]; exact heap_alloc_new _ _, by go_grown⟩
      case round =>
        obtain ⟨j, hj, rfl, hi2, hg2, hb2⟩ := hrel
        have HI2 := Lib.hid hi2
        have HG2 := Lib.hid hg2
        have hgl := hg2.lt
        clear hi2 hg2
        by_cases hlt : j < G
        · have kx := HG2.out.cell (j := j * 2) (by omega)
          have ky := HG2.out.cell (j := j * 2 + 1) (by omega)
          have fx := HG2.out.free (j * 2)
          have fy := HG2.out.free (j * 2 + 1)
          have i1 : (0 : Int) ≤ (j : Int) := by omega
          have i2 : (j : Int) < (G : Int) := by omega
          go_wp2_with fail
          go_roundw
          case rel => exact ⟨j + 1, by omega, by go_num, (HI2.out.other (by simp; omega) _).other (by simp; omega) _, HG2.out.set hlt (by simp) (by simp), (hb2.setCell (by simp; omega) _).setCell (by simp; omega) _⟩
          case measure => simp [intOf]; omega
        · obtain rfl : j = G := by omega
          have hn2 : decide ((j : Int) < (j : Int)) = false := by simp
          have hm3 := HM3.out
          have hzb2 := hb2.size
          have hlx := HI2.out.lt
          have HS3 := Lib.hid (seg_made wr 27 j (by omega) (by omega))
          have hb3 : Below wr.heap.size wr (wr.alloc (.cells (madeCells #[Value.int .i64 0] j) 27)) := (Below.refl _ _).alloc (Nat.le_refl _) _
          have hl1 := stK_len k k
          have HS1 : Hid (Seg (wr.alloc (.cells (madeCells #[Value.int .i64 0] j) 27)) .i64 (.slice (some ⟨w.heap.size, 0, none⟩) k k) (List.replicate k 1000)) := Lib.hid (by
            have h := (HI2.out.below hb3).seg (cap := k) (by rw [stK_len]; unfold maxLen; omega)
            rw [stK_len, stK_all] at h
            exact h)
          have HS2 := Lib.hid ((HG2.out.srow (by omega) (by omega)).below hb3)
          have HB3 := Lib.hid (below_via hb2 hb3)
          clear hb3 hl1
          by_cases c1 : 100 < k
          · have d1 : (100 : Int) < (k : Int) := by omega
            go_wp2_with fail
            clear hm3
            with_reducible refine (series19_long _ _ _ 1 (List.replicate k 1000) (gms j) (List.replicate j 0) _ HS1.out HS2.out HS3.out (by simp [gms_len]; omega)).mono ?_
            rintro e w5 ⟨rfl, hb5⟩
            go_wp2_with fail
            with_reducible refine (known11 _).mono ?_
            rintro e w' ⟨rfl, rfl⟩
            go_wp2_with fail
            go_returns
            exact ⟨rfl, below_via HB3.out hb5⟩
          · have d1 : decide ((100 : Int) < (k : Int)) = false := by simp; omega
            by_cases c2 : 1000 < j
            · have d2 : (1000 : Int) < (j : Int) := by omega
              go_wp2_with fail
              clear hm3
              with_reducible refine (series19_long _ _ _ 1 (List.replicate k 1000) (gms j) (List.replicate j 0) _ HS1.out HS2.out HS3.out (by simp [gms_len]; omega)).mono ?_
              rintro e w5 ⟨rfl, hb5⟩
              go_wp2_with fail
              with_reducible refine (known11 _).mono ?_
              rintro e w' ⟨rfl, rfl⟩
              go_wp2_with fail
              go_returns
              exact ⟨rfl, below_via HB3.out hb5⟩
            · skip
              have d2 : decide ((1000 : Int) < (j : Int)) = false := by simp; omega
              go_wp2_with fail
              clear hm3
              with_reducible refine (ser_fulls k j _ _ _ _ HS1.out HS2.out HS3.out (by omega) (by omega) (by omega)).mono ?_
              rintro e w5 ⟨g, ex, cap, ys, y0, y1, rfl, hi5, hl5, h50, h51, hs5, hy0, hy1, hb5⟩
              have c0 := hi5.cell h50
              have c1 := hi5.cell h51
              have ws : IntKind.i64.wrap (y0 + y1) = 2000 := by rw [hs5]; decide
              have HI5 := Lib.hid hi5
              clear hi5 h50 h51 hl5 hs5
              go_wp2_with fail
              go_quiet ((go_at_call 11; exact Calls.quiet_of_same ((known11 _).mono fun _ _ ⟨h1, h2⟩ => ⟨h1, h2.symm⟩)))
              go_wp2_with fail
              go_returns
              exact ⟨rfl, below_drewN (below_via HB3.out hb5) _⟩
end Go.Proofs.Ytnabpcgpheakfaa
