/- The walk of RopeTurns. -/
import Derived.Test.YtkjakcoejnhojaaKnown
import Derived.Test.YtkjakcoejnhojaaSeg
import Derived.BigRegion
namespace Go.Proofs.Ytkjakcoejnhojaa
open Go.RowKit Plain
set_option linter.unusedVariables false
set_option linter.unusedSimpArgs false

theorem vR_sub (r b n : Int) (h : vR r b = true) (hr : U r) (hb : U b) (hn : U n) : vR (sub0 r n) (sub0 b (sub0 n r)) = true := by
  have ⟨v1, v2⟩ := vR_true h
  have h1 := sub0_bd hr.1 hn.1
  have h2 := sub0_bd hb.1 (sub0_bd hn.1 hr.1).1
  simp [vR]; omega
theorem vR_more (r b n : Int) (h : vR r b = true) (hb : U b) (hn : U n) : vR r (more b n) = true ∧ U (more b n) := by
  have ⟨v1, v2⟩ := vR_true h
  unfold U at *
  have h3 : 0 ≤ more b n ∧ more b n ≤ 1099511627776 := by unfold more; split <;> omega
  constructor
  · simp [vR]; omega
  · omega

/-- what holds at a round's head -/
def TRel (w : World) (B1 len : Nat) (i : Value) (wr : World) : Prop := ∃ (k : Nat) (r b : Int), k ≤ len ∧ i = .int .i64 k ∧ U r ∧ U b ∧ vR r b = true ∧ Kept w.heap.size w (B1 + 1) [(w.heap.size, 0, .int .u64 r), (w.heap.size, 1, .int .u64 b), (B1, 0, .int .u64 r), (B1, 1, .int .u64 b)] wr

set_option maxRecDepth 100000 in
set_option maxHeartbeats 8000000 in
theorem turns_some (r0 b0 : Int) (sb off cap : Nat) (zs : List Int) (w : World) (hr : U r0) (hb : U b0) (h0 : vR r0 b0 = true) (h40 : zs.length ≤ 40) (hne : zs ≠ []) (hs : Seg w .u64 (.slice (some ⟨sb, off, none⟩) zs.length cap) zs) (hz : ∀ z ∈ zs, U z) :
    Calls Try.prog 6 #[.agg #[.int .u64 r0, .int .u64 b0], .slice (some ⟨sb, off, none⟩) zs.length cap] w fun e w' => e = .returned (.bool true) ∧ Below w.heap.size w w' := by
  obtain ⟨_, sb', o', cap', hv', hlt', hc'⟩ := hs.some hne
  simp only [Value.slice.injEq, Option.some.injEq, Addr.mk.injEq, and_true, true_and] at hv'
  obtain ⟨⟨rfl, rfl⟩, rfl⟩ := hv'
  have HC := Lib.hid hc'
  have HZ := Lib.hid hz
  clear hc' hs hz hne
  have d40 : decide (40 < (zs.length : Int)) = false := by simp; omega
  go_enter Try.func6, Try.ntmps6
  go_wp2_with fail
  with_reducible refine (valid10 _ _ _).mono ?_
  rintro e w1 ⟨rfl, hb_w1⟩
  have K_w1 : Kept w.heap.size w (w.heap.size + 1) [(w.heap.size, 0, .int .u64 r0), (w.heap.size, 1, .int .u64 b0)] w1 := Kept.of hb_w1 (by go_grown) (by go_size) (by omega) (by simp [go_sem] <;> omega)
  clear hb_w1
  have hw_w1 := K_w1.below
  have hz_w1 := K_w1.size
  have lP_w1 : w.heap.size < w1.heap.size := by omega
  have cP0_w1 := K_w1.at (b := w.heap.size) (o := 0) (v := .int .u64 r0) (by simp)
  have fP0_w1 := K_w1.free (b := w.heap.size) (o := 0) (v := .int .u64 r0) (by simp)
  have cP1_w1 := K_w1.at (b := w.heap.size) (o := 1) (v := .int .u64 b0) (by simp)
  have fP1_w1 := K_w1.free (b := w.heap.size) (o := 1) (v := .int .u64 b0) (by simp)
  clear K_w1
  go_wp2_with fail
  have KS : Kept w.heap.size w (w1.heap.size + 1) [(w.heap.size, 0, .int .u64 r0), (w.heap.size, 1, .int .u64 b0), (w1.heap.size, 0, .int .u64 r0), (w1.heap.size, 1, .int .u64 b0)] (w1.alloc (.cells #[.int .u64 r0, .int .u64 b0] 25)) := ⟨by go_grown, by go_size, (by simp [go_sem, lP_w1, cP0_w1, fP0_w1, cP1_w1, fP1_w1] <;> omega)⟩
  have KSH := Lib.hid KS
  clear KS
  go_loopw [28] (fun i wr => TRel w w1.heap.size zs.length i wr) (fun i _ => zs.length - (intOf i).toNat)
  case atStart => exact ⟨0, r0, b0, Nat.zero_le _, rfl, hr, hb, h0, KSH.out⟩
  case round =>
    obtain ⟨k, r, b, hk, rfl, ur, ub, hv, KR⟩ := hrel
    clear hr hb h0 lP_w1 cP0_w1 fP0_w1 cP1_w1 fP1_w1 KSH
    have hw_wr := KR.below
    have hz_wr := KR.size
    have lP_wr : w.heap.size < wr.heap.size := by omega
    have cP0_wr := KR.at (b := w.heap.size) (o := 0) (v := .int .u64 r) (by simp)
    have fP0_wr := KR.free (b := w.heap.size) (o := 0) (v := .int .u64 r) (by simp)
    have cP1_wr := KR.at (b := w.heap.size) (o := 1) (v := .int .u64 b) (by simp)
    have fP1_wr := KR.free (b := w.heap.size) (o := 1) (v := .int .u64 b) (by simp)
    have lW_wr : w1.heap.size < wr.heap.size := by omega
    have cW0_wr := KR.at (b := w1.heap.size) (o := 0) (v := .int .u64 r) (by simp)
    have fW0_wr := KR.free (b := w1.heap.size) (o := 0) (v := .int .u64 r) (by simp)
    have cW1_wr := KR.at (b := w1.heap.size) (o := 1) (v := .int .u64 b) (by simp)
    have fW1_wr := KR.free (b := w1.heap.size) (o := 1) (v := .int .u64 b) (by simp)
    clear KR
    by_cases hlt2 : k < zs.length
    · obtain ⟨z, hz⟩ : ∃ z, zs[k]? = some z := ⟨zs[k], List.getElem?_eq_getElem hlt2⟩
      have hcell := (hw_wr.cell (p := ⟨sb, off + k, none⟩) hlt').trans (HC.out k z hz)
      have un := HZ.out z (List.mem_of_getElem? hz)
      clear hz
      have hm3 : k % 3 = 0 ∨ k % 3 = 1 ∨ k % 3 = 2 := by omega
      rcases hm3 with hm | hm | hm
      · have m0 : ((k : Int) % 3 == 0) = true := by simp; omega
        clear hm
        go_wp2_with fail
        with_reducible refine (charge20 _ _ _ _ ur ub un hv).mono ?_
        rintro e w3 ⟨rfl, hb_w3⟩
        have K_w3 : Kept w.heap.size w (w1.heap.size + 1) [(w.heap.size, 0, .int .u64 r), (w.heap.size, 1, .int .u64 b), (w1.heap.size, 0, .int .u64 r), (w1.heap.size, 1, .int .u64 b)] w3 := Kept.of hb_w3 (by go_grown) (by go_size) (by omega) (by simp [go_sem, lP_wr, cP0_wr, fP0_wr, cP1_wr, fP1_wr, lW_wr, cW0_wr, fW0_wr, cW1_wr, fW1_wr] <;> omega)
        clear hb_w3
        have hw_w3 := K_w3.below
        have hz_w3 := K_w3.size
        have lP_w3 : w.heap.size < w3.heap.size := by omega
        have cP0_w3 := K_w3.at (b := w.heap.size) (o := 0) (v := .int .u64 r) (by simp)
        have fP0_w3 := K_w3.free (b := w.heap.size) (o := 0) (v := .int .u64 r) (by simp)
        have cP1_w3 := K_w3.at (b := w.heap.size) (o := 1) (v := .int .u64 b) (by simp)
        have fP1_w3 := K_w3.free (b := w.heap.size) (o := 1) (v := .int .u64 b) (by simp)
        have lW_w3 : w1.heap.size < w3.heap.size := by omega
        have cW0_w3 := K_w3.at (b := w1.heap.size) (o := 0) (v := .int .u64 r) (by simp)
        have fW0_w3 := K_w3.free (b := w1.heap.size) (o := 0) (v := .int .u64 r) (by simp)
        have cW1_w3 := K_w3.at (b := w1.heap.size) (o := 1) (v := .int .u64 b) (by simp)
        have fW1_w3 := K_w3.free (b := w1.heap.size) (o := 1) (v := .int .u64 b) (by simp)
        clear lP_wr cP0_wr fP0_wr cP1_wr fP1_wr lW_wr cW0_wr fW0_wr cW1_wr fW1_wr
        clear K_w3
        go_wp2_with fail
        with_reducible refine (charge8 _ _ _ _ ur ub un hv).mono ?_
        rintro e w4 ⟨rfl, hb_w4⟩
        have K_w4 : Kept w.heap.size w (w1.heap.size + 1) [(w.heap.size, 0, .int .u64 (sub0 r z)), (w.heap.size, 1, .int .u64 (sub0 b (sub0 z r))), (w1.heap.size, 0, .int .u64 r), (w1.heap.size, 1, .int .u64 b)] w4 := Kept.of hb_w4 (by go_grown) (by go_size) (by omega) (by simp [go_sem, lP_w3, cP0_w3, fP0_w3, cP1_w3, fP1_w3, lW_w3, cW0_w3, fW0_w3, cW1_w3, fW1_w3] <;> omega)
        clear hb_w4
        have hw_w4 := K_w4.below
        have hz_w4 := K_w4.size
        have lP_w4 : w.heap.size < w4.heap.size := by omega
        have cP0_w4 := K_w4.at (b := w.heap.size) (o := 0) (v := .int .u64 (sub0 r z)) (by simp)
        have fP0_w4 := K_w4.free (b := w.heap.size) (o := 0) (v := .int .u64 (sub0 r z)) (by simp)
        have cP1_w4 := K_w4.at (b := w.heap.size) (o := 1) (v := .int .u64 (sub0 b (sub0 z r))) (by simp)
        have fP1_w4 := K_w4.free (b := w.heap.size) (o := 1) (v := .int .u64 (sub0 b (sub0 z r))) (by simp)
        have lW_w4 : w1.heap.size < w4.heap.size := by omega
        have cW0_w4 := K_w4.at (b := w1.heap.size) (o := 0) (v := .int .u64 r) (by simp)
        have fW0_w4 := K_w4.free (b := w1.heap.size) (o := 0) (v := .int .u64 r) (by simp)
        have cW1_w4 := K_w4.at (b := w1.heap.size) (o := 1) (v := .int .u64 b) (by simp)
        have fW1_w4 := K_w4.free (b := w1.heap.size) (o := 1) (v := .int .u64 b) (by simp)
        clear lP_w3 cP0_w3 fP0_w3 cP1_w3 fP1_w3 lW_w3 cW0_w3 fW0_w3 cW1_w3 fW1_w3
        clear K_w4
        have hv2 := vR_sub _ _ _ hv ur ub un
        go_wp2_with fail
        with_reducible refine (valid9 _ _ _).mono ?_
        rintro e w5 ⟨rfl, hb_w5⟩
        have K_w5 : Kept w.heap.size w (w1.heap.size + 1) [(w.heap.size, 0, .int .u64 (sub0 r z)), (w.heap.size, 1, .int .u64 (sub0 b (sub0 z r))), (w1.heap.size, 0, .int .u64 (sub0 r z)), (w1.heap.size, 1, .int .u64 (sub0 b (sub0 z r)))] w5 := Kept.of hb_w5 (by go_grown) (by go_size) (by omega) (by simp [go_sem, lP_w4, cP0_w4, fP0_w4, cP1_w4, fP1_w4, lW_w4, cW0_w4, fW0_w4, cW1_w4, fW1_w4] <;> omega)
        clear hb_w5
        have KH_w5 := Lib.hid K_w5
        have hw_w5 := K_w5.below
        have hz_w5 := K_w5.size
        have lP_w5 : w.heap.size < w5.heap.size := by omega
        have cP0_w5 := K_w5.at (b := w.heap.size) (o := 0) (v := .int .u64 (sub0 r z)) (by simp)
        have fP0_w5 := K_w5.free (b := w.heap.size) (o := 0) (v := .int .u64 (sub0 r z)) (by simp)
        have cP1_w5 := K_w5.at (b := w.heap.size) (o := 1) (v := .int .u64 (sub0 b (sub0 z r))) (by simp)
        have fP1_w5 := K_w5.free (b := w.heap.size) (o := 1) (v := .int .u64 (sub0 b (sub0 z r))) (by simp)
        have lW_w5 : w1.heap.size < w5.heap.size := by omega
        have cW0_w5 := K_w5.at (b := w1.heap.size) (o := 0) (v := .int .u64 (sub0 r z)) (by simp)
        have fW0_w5 := K_w5.free (b := w1.heap.size) (o := 0) (v := .int .u64 (sub0 r z)) (by simp)
        have cW1_w5 := K_w5.at (b := w1.heap.size) (o := 1) (v := .int .u64 (sub0 b (sub0 z r))) (by simp)
        have fW1_w5 := K_w5.free (b := w1.heap.size) (o := 1) (v := .int .u64 (sub0 b (sub0 z r))) (by simp)
        clear lP_w4 cP0_w4 fP0_w4 cP1_w4 fP1_w4 lW_w4 cW0_w4 fW0_w4 cW1_w4 fW1_w4
        clear K_w5
        go_wp2_with fail
        refine ⟨⟨k + 1, (sub0 r z), (sub0 b (sub0 z r)), by omega, by go_num, U_sub0 ur un, U_sub0 ub (U_sub0 un ur), vR_sub _ _ _ hv ur ub un, KH_w5.out⟩, ?_⟩
        simp [intOf]; omega
      · have m0 : ((k : Int) % 3 == 0) = false := by simp; omega
        have m1 : ((k : Int) % 3 == 1) = true := by simp; omega
        clear hm
        by_cases h3 : z ≤ 1099511627776
        · have h1 : vR z b = true := by have := vR_true hv; simp [vR]; omega
          have h2 : r ≤ 1099511627776 := (vR_true hv).1
          go_wp2_with fail
          with_reducible refine (refill13 _ _ _ _ h1 h2).mono ?_
          rintro e w3 ⟨rfl, hb_w3⟩
          have K_w3 : Kept w.heap.size w (w1.heap.size + 1) [(w.heap.size, 0, .int .u64 r), (w.heap.size, 1, .int .u64 b), (w1.heap.size, 0, .int .u64 r), (w1.heap.size, 1, .int .u64 b)] w3 := Kept.of hb_w3 (by go_grown) (by go_size) (by omega) (by simp [go_sem, lP_wr, cP0_wr, fP0_wr, cP1_wr, fP1_wr, lW_wr, cW0_wr, fW0_wr, cW1_wr, fW1_wr] <;> omega)
          clear hb_w3
          have hw_w3 := K_w3.below
          have hz_w3 := K_w3.size
          have lP_w3 : w.heap.size < w3.heap.size := by omega
          have cP0_w3 := K_w3.at (b := w.heap.size) (o := 0) (v := .int .u64 r) (by simp)
          have fP0_w3 := K_w3.free (b := w.heap.size) (o := 0) (v := .int .u64 r) (by simp)
          have cP1_w3 := K_w3.at (b := w.heap.size) (o := 1) (v := .int .u64 b) (by simp)
          have fP1_w3 := K_w3.free (b := w.heap.size) (o := 1) (v := .int .u64 b) (by simp)
          have lW_w3 : w1.heap.size < w3.heap.size := by omega
          have cW0_w3 := K_w3.at (b := w1.heap.size) (o := 0) (v := .int .u64 r) (by simp)
          have fW0_w3 := K_w3.free (b := w1.heap.size) (o := 0) (v := .int .u64 r) (by simp)
          have cW1_w3 := K_w3.at (b := w1.heap.size) (o := 1) (v := .int .u64 b) (by simp)
          have fW1_w3 := K_w3.free (b := w1.heap.size) (o := 1) (v := .int .u64 b) (by simp)
          clear lP_wr cP0_wr fP0_wr cP1_wr fP1_wr lW_wr cW0_wr fW0_wr cW1_wr fW1_wr
          clear K_w3
          go_wp2_with fail
          with_reducible refine (refill15 _ _ _ _ hv h3).mono ?_
          rintro e w4 ⟨rfl, hb_w4⟩
          have K_w4 : Kept w.heap.size w (w3.heap.size + 1) [(w.heap.size, 0, .int .u64 r), (w.heap.size, 1, .int .u64 b), (w1.heap.size, 0, .int .u64 r), (w1.heap.size, 1, .int .u64 b), (w3.heap.size, 0, .int .u64 z), (w3.heap.size, 1, .int .u64 b)] w4 := Kept.of hb_w4 (by go_grown) (by go_size) (by omega) (by simp [go_sem, lP_w3, cP0_w3, fP0_w3, cP1_w3, fP1_w3, lW_w3, cW0_w3, fW0_w3, cW1_w3, fW1_w3] <;> omega)
          clear hb_w4
          have hw_w4 := K_w4.below
          have hz_w4 := K_w4.size
          have lP_w4 : w.heap.size < w4.heap.size := by omega
          have cP0_w4 := K_w4.at (b := w.heap.size) (o := 0) (v := .int .u64 r) (by simp)
          have fP0_w4 := K_w4.free (b := w.heap.size) (o := 0) (v := .int .u64 r) (by simp)
          have cP1_w4 := K_w4.at (b := w.heap.size) (o := 1) (v := .int .u64 b) (by simp)
          have fP1_w4 := K_w4.free (b := w.heap.size) (o := 1) (v := .int .u64 b) (by simp)
          have lW_w4 : w1.heap.size < w4.heap.size := by omega
          have cW0_w4 := K_w4.at (b := w1.heap.size) (o := 0) (v := .int .u64 r) (by simp)
          have fW0_w4 := K_w4.free (b := w1.heap.size) (o := 0) (v := .int .u64 r) (by simp)
          have cW1_w4 := K_w4.at (b := w1.heap.size) (o := 1) (v := .int .u64 b) (by simp)
          have fW1_w4 := K_w4.free (b := w1.heap.size) (o := 1) (v := .int .u64 b) (by simp)
          have lX_w4 : w3.heap.size < w4.heap.size := by omega
          have cX0_w4 := K_w4.at (b := w3.heap.size) (o := 0) (v := .int .u64 z) (by simp)
          have fX0_w4 := K_w4.free (b := w3.heap.size) (o := 0) (v := .int .u64 z) (by simp)
          have cX1_w4 := K_w4.at (b := w3.heap.size) (o := 1) (v := .int .u64 b) (by simp)
          have fX1_w4 := K_w4.free (b := w3.heap.size) (o := 1) (v := .int .u64 b) (by simp)
          clear lP_w3 cP0_w3 fP0_w3 cP1_w3 fP1_w3 lW_w3 cW0_w3 fW0_w3 cW1_w3 fW1_w3
          clear K_w4
          go_wp2_with fail
          with_reducible refine (gives17 _ _ _ _ _ _ _ rfl rfl rfl).mono ?_
          rintro e w5 ⟨rfl, hb_w5⟩
          have K_w5 : Kept w.heap.size w (w4.heap.size + 1) [(w.heap.size, 0, .int .u64 r), (w.heap.size, 1, .int .u64 b), (w1.heap.size, 0, .int .u64 r), (w1.heap.size, 1, .int .u64 b), (w3.heap.size, 0, .int .u64 z), (w3.heap.size, 1, .int .u64 b), (w4.heap.size, 0, .int .u64 z), (w4.heap.size, 1, .int .u64 b)] w5 := Kept.of hb_w5 (by go_grown) (by go_size) (by omega) (by simp [go_sem, lP_w4, cP0_w4, fP0_w4, cP1_w4, fP1_w4, lW_w4, cW0_w4, fW0_w4, cW1_w4, fW1_w4, lX_w4, cX0_w4, fX0_w4, cX1_w4, fX1_w4] <;> omega)
          clear hb_w5
          have hw_w5 := K_w5.below
          have hz_w5 := K_w5.size
          have lP_w5 : w.heap.size < w5.heap.size := by omega
          have cP0_w5 := K_w5.at (b := w.heap.size) (o := 0) (v := .int .u64 r) (by simp)
          have fP0_w5 := K_w5.free (b := w.heap.size) (o := 0) (v := .int .u64 r) (by simp)
          have cP1_w5 := K_w5.at (b := w.heap.size) (o := 1) (v := .int .u64 b) (by simp)
          have fP1_w5 := K_w5.free (b := w.heap.size) (o := 1) (v := .int .u64 b) (by simp)
          have lW_w5 : w1.heap.size < w5.heap.size := by omega
          have cW0_w5 := K_w5.at (b := w1.heap.size) (o := 0) (v := .int .u64 r) (by simp)
          have fW0_w5 := K_w5.free (b := w1.heap.size) (o := 0) (v := .int .u64 r) (by simp)
          have cW1_w5 := K_w5.at (b := w1.heap.size) (o := 1) (v := .int .u64 b) (by simp)
          have fW1_w5 := K_w5.free (b := w1.heap.size) (o := 1) (v := .int .u64 b) (by simp)
          have lX_w5 : w3.heap.size < w5.heap.size := by omega
          have cX0_w5 := K_w5.at (b := w3.heap.size) (o := 0) (v := .int .u64 z) (by simp)
          have fX0_w5 := K_w5.free (b := w3.heap.size) (o := 0) (v := .int .u64 z) (by simp)
          have cX1_w5 := K_w5.at (b := w3.heap.size) (o := 1) (v := .int .u64 b) (by simp)
          have fX1_w5 := K_w5.free (b := w3.heap.size) (o := 1) (v := .int .u64 b) (by simp)
          have lY_w5 : w4.heap.size < w5.heap.size := by omega
          have cY0_w5 := K_w5.at (b := w4.heap.size) (o := 0) (v := .int .u64 z) (by simp)
          have fY0_w5 := K_w5.free (b := w4.heap.size) (o := 0) (v := .int .u64 z) (by simp)
          have cY1_w5 := K_w5.at (b := w4.heap.size) (o := 1) (v := .int .u64 b) (by simp)
          have fY1_w5 := K_w5.free (b := w4.heap.size) (o := 1) (v := .int .u64 b) (by simp)
          clear lP_w4 cP0_w4 fP0_w4 cP1_w4 fP1_w4 lW_w4 cW0_w4 fW0_w4 cW1_w4 fW1_w4 lX_w4 cX0_w4 fX0_w4 cX1_w4 fX1_w4
          clear K_w5
          go_wp2_with fail
          go_region
          all_goals
            go_wp2_with fail
            with_reducible refine (valid9 _ _ _).mono ?_
            rintro e w6 ⟨rfl, hb_w6⟩
            have K_w6 : Kept w.heap.size w (w1.heap.size + 1) [(w.heap.size, 0, .int .u64 z), (w.heap.size, 1, .int .u64 b), (w1.heap.size, 0, .int .u64 z), (w1.heap.size, 1, .int .u64 b)] w6 := Kept.of hb_w6 (by go_grown) (by go_size) (by omega) (by simp [go_sem, lP_w5, cP0_w5, fP0_w5, cP1_w5, fP1_w5, lW_w5, cW0_w5, fW0_w5, cW1_w5, fW1_w5, lX_w5, cX0_w5, fX0_w5, cX1_w5, fX1_w5, lY_w5, cY0_w5, fY0_w5, cY1_w5, fY1_w5] <;> omega)
            clear hb_w6
            have KH_w6 := Lib.hid K_w6
            have hw_w6 := K_w6.below
            have hz_w6 := K_w6.size
            have lP_w6 : w.heap.size < w6.heap.size := by omega
            have cP0_w6 := K_w6.at (b := w.heap.size) (o := 0) (v := .int .u64 z) (by simp)
            have fP0_w6 := K_w6.free (b := w.heap.size) (o := 0) (v := .int .u64 z) (by simp)
            have cP1_w6 := K_w6.at (b := w.heap.size) (o := 1) (v := .int .u64 b) (by simp)
            have fP1_w6 := K_w6.free (b := w.heap.size) (o := 1) (v := .int .u64 b) (by simp)
            have lW_w6 : w1.heap.size < w6.heap.size := by omega
            have cW0_w6 := K_w6.at (b := w1.heap.size) (o := 0) (v := .int .u64 z) (by simp)
            have fW0_w6 := K_w6.free (b := w1.heap.size) (o := 0) (v := .int .u64 z) (by simp)
            have cW1_w6 := K_w6.at (b := w1.heap.size) (o := 1) (v := .int .u64 b) (by simp)
            have fW1_w6 := K_w6.free (b := w1.heap.size) (o := 1) (v := .int .u64 b) (by simp)
            clear lP_w5 cP0_w5 fP0_w5 cP1_w5 fP1_w5 lW_w5 cW0_w5 fW0_w5 cW1_w5 fW1_w5 lX_w5 cX0_w5 fX0_w5 cX1_w5 fX1_w5 lY_w5 cY0_w5 fY0_w5 cY1_w5 fY1_w5
            clear K_w6
            go_wp2_with fail
            refine ⟨⟨k + 1, z, b, by omega, by go_num, un, ub, h1, KH_w6.out⟩, ?_⟩
            simp [intOf]; omega
        · have h1 : vR z b = false ∨ 1099511627776 < r := .inl (by simp [vR]; omega)
          replace h3 : vR r b = false ∨ 1099511627776 < z := .inr (by omega)
          go_wp2_with fail
          with_reducible refine (refill13_no _ _ _ _ h1).mono ?_
          rintro e w3 ⟨rfl, hb_w3⟩
          have K_w3 : Kept w.heap.size w (w1.heap.size + 1) [(w.heap.size, 0, .int .u64 r), (w.heap.size, 1, .int .u64 b), (w1.heap.size, 0, .int .u64 r), (w1.heap.size, 1, .int .u64 b)] w3 := Kept.of hb_w3 (by go_grown) (by go_size) (by omega) (by simp [go_sem, lP_wr, cP0_wr, fP0_wr, cP1_wr, fP1_wr, lW_wr, cW0_wr, fW0_wr, cW1_wr, fW1_wr] <;> omega)
          clear hb_w3
          have hw_w3 := K_w3.below
          have hz_w3 := K_w3.size
          have lP_w3 : w.heap.size < w3.heap.size := by omega
          have cP0_w3 := K_w3.at (b := w.heap.size) (o := 0) (v := .int .u64 r) (by simp)
          have fP0_w3 := K_w3.free (b := w.heap.size) (o := 0) (v := .int .u64 r) (by simp)
          have cP1_w3 := K_w3.at (b := w.heap.size) (o := 1) (v := .int .u64 b) (by simp)
          have fP1_w3 := K_w3.free (b := w.heap.size) (o := 1) (v := .int .u64 b) (by simp)
          have lW_w3 : w1.heap.size < w3.heap.size := by omega
          have cW0_w3 := K_w3.at (b := w1.heap.size) (o := 0) (v := .int .u64 r) (by simp)
          have fW0_w3 := K_w3.free (b := w1.heap.size) (o := 0) (v := .int .u64 r) (by simp)
          have cW1_w3 := K_w3.at (b := w1.heap.size) (o := 1) (v := .int .u64 b) (by simp)
          have fW1_w3 := K_w3.free (b := w1.heap.size) (o := 1) (v := .int .u64 b) (by simp)
          clear lP_wr cP0_wr fP0_wr cP1_wr fP1_wr lW_wr cW0_wr fW0_wr cW1_wr fW1_wr
          clear K_w3
          go_wp2_with fail
          with_reducible refine (refill15_no _ _ _ _ h3).mono ?_
          rintro e w4 ⟨rfl, hb_w4⟩
          have K_w4 : Kept w.heap.size w (w3.heap.size + 1) [(w.heap.size, 0, .int .u64 r), (w.heap.size, 1, .int .u64 b), (w1.heap.size, 0, .int .u64 r), (w1.heap.size, 1, .int .u64 b), (w3.heap.size, 0, .int .u64 0), (w3.heap.size, 1, .int .u64 0)] w4 := Kept.of hb_w4 (by go_grown) (by go_size) (by omega) (by simp [go_sem, lP_w3, cP0_w3, fP0_w3, cP1_w3, fP1_w3, lW_w3, cW0_w3, fW0_w3, cW1_w3, fW1_w3] <;> omega)
          clear hb_w4
          have hw_w4 := K_w4.below
          have hz_w4 := K_w4.size
          have lP_w4 : w.heap.size < w4.heap.size := by omega
          have cP0_w4 := K_w4.at (b := w.heap.size) (o := 0) (v := .int .u64 r) (by simp)
          have fP0_w4 := K_w4.free (b := w.heap.size) (o := 0) (v := .int .u64 r) (by simp)
          have cP1_w4 := K_w4.at (b := w.heap.size) (o := 1) (v := .int .u64 b) (by simp)
          have fP1_w4 := K_w4.free (b := w.heap.size) (o := 1) (v := .int .u64 b) (by simp)
          have lW_w4 : w1.heap.size < w4.heap.size := by omega
          have cW0_w4 := K_w4.at (b := w1.heap.size) (o := 0) (v := .int .u64 r) (by simp)
          have fW0_w4 := K_w4.free (b := w1.heap.size) (o := 0) (v := .int .u64 r) (by simp)
          have cW1_w4 := K_w4.at (b := w1.heap.size) (o := 1) (v := .int .u64 b) (by simp)
          have fW1_w4 := K_w4.free (b := w1.heap.size) (o := 1) (v := .int .u64 b) (by simp)
          have lX_w4 : w3.heap.size < w4.heap.size := by omega
          have cX0_w4 := K_w4.at (b := w3.heap.size) (o := 0) (v := .int .u64 0) (by simp)
          have fX0_w4 := K_w4.free (b := w3.heap.size) (o := 0) (v := .int .u64 0) (by simp)
          have cX1_w4 := K_w4.at (b := w3.heap.size) (o := 1) (v := .int .u64 0) (by simp)
          have fX1_w4 := K_w4.free (b := w3.heap.size) (o := 1) (v := .int .u64 0) (by simp)
          clear lP_w3 cP0_w3 fP0_w3 cP1_w3 fP1_w3 lW_w3 cW0_w3 fW0_w3 cW1_w3 fW1_w3
          clear K_w4
          go_wp2_with fail
          with_reducible refine (gives17 _ _ _ _ _ _ _ rfl rfl rfl).mono ?_
          rintro e w5 ⟨rfl, hb_w5⟩
          have K_w5 : Kept w.heap.size w (w4.heap.size + 1) [(w.heap.size, 0, .int .u64 r), (w.heap.size, 1, .int .u64 b), (w1.heap.size, 0, .int .u64 r), (w1.heap.size, 1, .int .u64 b), (w3.heap.size, 0, .int .u64 0), (w3.heap.size, 1, .int .u64 0), (w4.heap.size, 0, .int .u64 0), (w4.heap.size, 1, .int .u64 0)] w5 := Kept.of hb_w5 (by go_grown) (by go_size) (by omega) (by simp [go_sem, lP_w4, cP0_w4, fP0_w4, cP1_w4, fP1_w4, lW_w4, cW0_w4, fW0_w4, cW1_w4, fW1_w4, lX_w4, cX0_w4, fX0_w4, cX1_w4, fX1_w4] <;> omega)
          clear hb_w5
          have hw_w5 := K_w5.below
          have hz_w5 := K_w5.size
          have lP_w5 : w.heap.size < w5.heap.size := by omega
          have cP0_w5 := K_w5.at (b := w.heap.size) (o := 0) (v := .int .u64 r) (by simp)
          have fP0_w5 := K_w5.free (b := w.heap.size) (o := 0) (v := .int .u64 r) (by simp)
          have cP1_w5 := K_w5.at (b := w.heap.size) (o := 1) (v := .int .u64 b) (by simp)
          have fP1_w5 := K_w5.free (b := w.heap.size) (o := 1) (v := .int .u64 b) (by simp)
          have lW_w5 : w1.heap.size < w5.heap.size := by omega
          have cW0_w5 := K_w5.at (b := w1.heap.size) (o := 0) (v := .int .u64 r) (by simp)
          have fW0_w5 := K_w5.free (b := w1.heap.size) (o := 0) (v := .int .u64 r) (by simp)
          have cW1_w5 := K_w5.at (b := w1.heap.size) (o := 1) (v := .int .u64 b) (by simp)
          have fW1_w5 := K_w5.free (b := w1.heap.size) (o := 1) (v := .int .u64 b) (by simp)
          have lX_w5 : w3.heap.size < w5.heap.size := by omega
          have cX0_w5 := K_w5.at (b := w3.heap.size) (o := 0) (v := .int .u64 0) (by simp)
          have fX0_w5 := K_w5.free (b := w3.heap.size) (o := 0) (v := .int .u64 0) (by simp)
          have cX1_w5 := K_w5.at (b := w3.heap.size) (o := 1) (v := .int .u64 0) (by simp)
          have fX1_w5 := K_w5.free (b := w3.heap.size) (o := 1) (v := .int .u64 0) (by simp)
          have lY_w5 : w4.heap.size < w5.heap.size := by omega
          have cY0_w5 := K_w5.at (b := w4.heap.size) (o := 0) (v := .int .u64 0) (by simp)
          have fY0_w5 := K_w5.free (b := w4.heap.size) (o := 0) (v := .int .u64 0) (by simp)
          have cY1_w5 := K_w5.at (b := w4.heap.size) (o := 1) (v := .int .u64 0) (by simp)
          have fY1_w5 := K_w5.free (b := w4.heap.size) (o := 1) (v := .int .u64 0) (by simp)
          clear lP_w4 cP0_w4 fP0_w4 cP1_w4 fP1_w4 lW_w4 cW0_w4 fW0_w4 cW1_w4 fW1_w4 lX_w4 cX0_w4 fX0_w4 cX1_w4 fX1_w4
          clear K_w5
          go_wp2_with fail
          with_reducible refine (valid9 _ _ _).mono ?_
          rintro e w6 ⟨rfl, hb_w6⟩
          have K_w6 : Kept w.heap.size w (w1.heap.size + 1) [(w.heap.size, 0, .int .u64 r), (w.heap.size, 1, .int .u64 b), (w1.heap.size, 0, .int .u64 r), (w1.heap.size, 1, .int .u64 b)] w6 := Kept.of hb_w6 (by go_grown) (by go_size) (by omega) (by simp [go_sem, lP_w5, cP0_w5, fP0_w5, cP1_w5, fP1_w5, lW_w5, cW0_w5, fW0_w5, cW1_w5, fW1_w5, lX_w5, cX0_w5, fX0_w5, cX1_w5, fX1_w5, lY_w5, cY0_w5, fY0_w5, cY1_w5, fY1_w5] <;> omega)
          clear hb_w6
          have KH_w6 := Lib.hid K_w6
          have hw_w6 := K_w6.below
          have hz_w6 := K_w6.size
          have lP_w6 : w.heap.size < w6.heap.size := by omega
          have cP0_w6 := K_w6.at (b := w.heap.size) (o := 0) (v := .int .u64 r) (by simp)
          have fP0_w6 := K_w6.free (b := w.heap.size) (o := 0) (v := .int .u64 r) (by simp)
          have cP1_w6 := K_w6.at (b := w.heap.size) (o := 1) (v := .int .u64 b) (by simp)
          have fP1_w6 := K_w6.free (b := w.heap.size) (o := 1) (v := .int .u64 b) (by simp)
          have lW_w6 : w1.heap.size < w6.heap.size := by omega
          have cW0_w6 := K_w6.at (b := w1.heap.size) (o := 0) (v := .int .u64 r) (by simp)
          have fW0_w6 := K_w6.free (b := w1.heap.size) (o := 0) (v := .int .u64 r) (by simp)
          have cW1_w6 := K_w6.at (b := w1.heap.size) (o := 1) (v := .int .u64 b) (by simp)
          have fW1_w6 := K_w6.free (b := w1.heap.size) (o := 1) (v := .int .u64 b) (by simp)
          clear lP_w5 cP0_w5 fP0_w5 cP1_w5 fP1_w5 lW_w5 cW0_w5 fW0_w5 cW1_w5 fW1_w5 lX_w5 cX0_w5 fX0_w5 cX1_w5 fX1_w5 lY_w5 cY0_w5 fY0_w5 cY1_w5 fY1_w5
          clear K_w6
          go_wp2_with fail
          refine ⟨⟨k + 1, r, b, by omega, by go_num, ur, ub, hv, KH_w6.out⟩, ?_⟩
          simp [intOf]; omega
      · have m0 : ((k : Int) % 3 == 0) = false := by simp; omega
        have m1 : ((k : Int) % 3 == 1) = false := by simp; omega
        clear hm
        go_wp2_with fail
        with_reducible refine (extend14 _ _ _ _ ub un hv).mono ?_
        rintro e w3 ⟨rfl, hb_w3⟩
        have K_w3 : Kept w.heap.size w (w1.heap.size + 1) [(w.heap.size, 0, .int .u64 r), (w.heap.size, 1, .int .u64 b), (w1.heap.size, 0, .int .u64 r), (w1.heap.size, 1, .int .u64 b)] w3 := Kept.of hb_w3 (by go_grown) (by go_size) (by omega) (by simp [go_sem, lP_wr, cP0_wr, fP0_wr, cP1_wr, fP1_wr, lW_wr, cW0_wr, fW0_wr, cW1_wr, fW1_wr] <;> omega)
        clear hb_w3
        have hw_w3 := K_w3.below
        have hz_w3 := K_w3.size
        have lP_w3 : w.heap.size < w3.heap.size := by omega
        have cP0_w3 := K_w3.at (b := w.heap.size) (o := 0) (v := .int .u64 r) (by simp)
        have fP0_w3 := K_w3.free (b := w.heap.size) (o := 0) (v := .int .u64 r) (by simp)
        have cP1_w3 := K_w3.at (b := w.heap.size) (o := 1) (v := .int .u64 b) (by simp)
        have fP1_w3 := K_w3.free (b := w.heap.size) (o := 1) (v := .int .u64 b) (by simp)
        have lW_w3 : w1.heap.size < w3.heap.size := by omega
        have cW0_w3 := K_w3.at (b := w1.heap.size) (o := 0) (v := .int .u64 r) (by simp)
        have fW0_w3 := K_w3.free (b := w1.heap.size) (o := 0) (v := .int .u64 r) (by simp)
        have cW1_w3 := K_w3.at (b := w1.heap.size) (o := 1) (v := .int .u64 b) (by simp)
        have fW1_w3 := K_w3.free (b := w1.heap.size) (o := 1) (v := .int .u64 b) (by simp)
        clear lP_wr cP0_wr fP0_wr cP1_wr fP1_wr lW_wr cW0_wr fW0_wr cW1_wr fW1_wr
        clear K_w3
        go_wp2_with fail
        with_reducible refine (extend16 _ _ _ _ ub un hv).mono ?_
        rintro e w4 ⟨rfl, hb_w4⟩
        have K_w4 : Kept w.heap.size w (w1.heap.size + 1) [(w.heap.size, 0, .int .u64 r), (w.heap.size, 1, .int .u64 (more b z)), (w1.heap.size, 0, .int .u64 r), (w1.heap.size, 1, .int .u64 b)] w4 := Kept.of hb_w4 (by go_grown) (by go_size) (by omega) (by simp [go_sem, lP_w3, cP0_w3, fP0_w3, cP1_w3, fP1_w3, lW_w3, cW0_w3, fW0_w3, cW1_w3, fW1_w3] <;> omega)
        clear hb_w4
        have hw_w4 := K_w4.below
        have hz_w4 := K_w4.size
        have lP_w4 : w.heap.size < w4.heap.size := by omega
        have cP0_w4 := K_w4.at (b := w.heap.size) (o := 0) (v := .int .u64 r) (by simp)
        have fP0_w4 := K_w4.free (b := w.heap.size) (o := 0) (v := .int .u64 r) (by simp)
        have cP1_w4 := K_w4.at (b := w.heap.size) (o := 1) (v := .int .u64 (more b z)) (by simp)
        have fP1_w4 := K_w4.free (b := w.heap.size) (o := 1) (v := .int .u64 (more b z)) (by simp)
        have lW_w4 : w1.heap.size < w4.heap.size := by omega
        have cW0_w4 := K_w4.at (b := w1.heap.size) (o := 0) (v := .int .u64 r) (by simp)
        have fW0_w4 := K_w4.free (b := w1.heap.size) (o := 0) (v := .int .u64 r) (by simp)
        have cW1_w4 := K_w4.at (b := w1.heap.size) (o := 1) (v := .int .u64 b) (by simp)
        have fW1_w4 := K_w4.free (b := w1.heap.size) (o := 1) (v := .int .u64 b) (by simp)
        clear lP_w3 cP0_w3 fP0_w3 cP1_w3 fP1_w3 lW_w3 cW0_w3 fW0_w3 cW1_w3 fW1_w3
        clear K_w4
        have hv2 := (vR_more _ _ _ hv ub un).1
        go_wp2_with fail
        with_reducible refine (valid9 _ _ _).mono ?_
        rintro e w5 ⟨rfl, hb_w5⟩
        have K_w5 : Kept w.heap.size w (w1.heap.size + 1) [(w.heap.size, 0, .int .u64 r), (w.heap.size, 1, .int .u64 (more b z)), (w1.heap.size, 0, .int .u64 r), (w1.heap.size, 1, .int .u64 (more b z))] w5 := Kept.of hb_w5 (by go_grown) (by go_size) (by omega) (by simp [go_sem, lP_w4, cP0_w4, fP0_w4, cP1_w4, fP1_w4, lW_w4, cW0_w4, fW0_w4, cW1_w4, fW1_w4] <;> omega)
        clear hb_w5
        have KH_w5 := Lib.hid K_w5
        have hw_w5 := K_w5.below
        have hz_w5 := K_w5.size
        have lP_w5 : w.heap.size < w5.heap.size := by omega
        have cP0_w5 := K_w5.at (b := w.heap.size) (o := 0) (v := .int .u64 r) (by simp)
        have fP0_w5 := K_w5.free (b := w.heap.size) (o := 0) (v := .int .u64 r) (by simp)
        have cP1_w5 := K_w5.at (b := w.heap.size) (o := 1) (v := .int .u64 (more b z)) (by simp)
        have fP1_w5 := K_w5.free (b := w.heap.size) (o := 1) (v := .int .u64 (more b z)) (by simp)
        have lW_w5 : w1.heap.size < w5.heap.size := by omega
        have cW0_w5 := K_w5.at (b := w1.heap.size) (o := 0) (v := .int .u64 r) (by simp)
        have fW0_w5 := K_w5.free (b := w1.heap.size) (o := 0) (v := .int .u64 r) (by simp)
        have cW1_w5 := K_w5.at (b := w1.heap.size) (o := 1) (v := .int .u64 (more b z)) (by simp)
        have fW1_w5 := K_w5.free (b := w1.heap.size) (o := 1) (v := .int .u64 (more b z)) (by simp)
        clear lP_w4 cP0_w4 fP0_w4 cP1_w4 fP1_w4 lW_w4 cW0_w4 fW0_w4 cW1_w4 fW1_w4
        clear K_w5
        go_wp2_with fail
        refine ⟨⟨k + 1, r, (more b z), by omega, by go_num, ur, (vR_more _ _ _ hv ub un).2, (vR_more _ _ _ hv ub un).1, KH_w5.out⟩, ?_⟩
        simp [intOf]; omega
    ·
      go_wp2_with fail
      with_reducible refine (known12 _).mono ?_
      rintro e w3 ⟨rfl, hb_w3⟩
      have K_w3 : Kept w.heap.size w (w1.heap.size + 1) [(w.heap.size, 0, .int .u64 r), (w.heap.size, 1, .int .u64 b), (w1.heap.size, 0, .int .u64 r), (w1.heap.size, 1, .int .u64 b)] w3 := Kept.of hb_w3 (by go_grown) (by go_size) (by omega) (by simp [go_sem, lP_wr, cP0_wr, fP0_wr, cP1_wr, fP1_wr, lW_wr, cW0_wr, fW0_wr, cW1_wr, fW1_wr] <;> omega)
      clear hb_w3
      have hw_w3 := K_w3.below
      have hz_w3 := K_w3.size
      have lP_w3 : w.heap.size < w3.heap.size := by omega
      have cP0_w3 := K_w3.at (b := w.heap.size) (o := 0) (v := .int .u64 r) (by simp)
      have fP0_w3 := K_w3.free (b := w.heap.size) (o := 0) (v := .int .u64 r) (by simp)
      have cP1_w3 := K_w3.at (b := w.heap.size) (o := 1) (v := .int .u64 b) (by simp)
      have fP1_w3 := K_w3.free (b := w.heap.size) (o := 1) (v := .int .u64 b) (by simp)
      have lW_w3 : w1.heap.size < w3.heap.size := by omega
      have cW0_w3 := K_w3.at (b := w1.heap.size) (o := 0) (v := .int .u64 r) (by simp)
      have fW0_w3 := K_w3.free (b := w1.heap.size) (o := 0) (v := .int .u64 r) (by simp)
      have cW1_w3 := K_w3.at (b := w1.heap.size) (o := 1) (v := .int .u64 b) (by simp)
      have fW1_w3 := K_w3.free (b := w1.heap.size) (o := 1) (v := .int .u64 b) (by simp)
      clear lP_wr cP0_wr fP0_wr cP1_wr fP1_wr lW_wr cW0_wr fW0_wr cW1_wr fW1_wr
      clear K_w3
      go_wp2_with fail
      go_returns
      exact ⟨rfl, by go_grown⟩
end Go.Proofs.Ytkjakcoejnhojaa
