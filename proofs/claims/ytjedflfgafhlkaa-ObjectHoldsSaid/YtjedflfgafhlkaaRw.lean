/- Objects are read: whole. -/
import Derived.Test.YtjedflfgafhlkaaDe1
import Derived.Test.YtjedflfgafhlkaaDe2
import Derived.Test.YtjedflfgafhlkaaDe3
import Derived.Test.YtjedflfgafhlkaaDe4
import Derived.Test.YtjedflfgafhlkaaDe5
import Derived.Test.YtjedflfgafhlkaaDe6
namespace Go.Proofs.Ytjedflfgafhlkaa
open Go.RowKit Plain
set_option linter.unusedVariables false
set_option linter.unusedSimpArgs false

def noOb : Ob := ⟨0, 0, 0, 0, 0, 0, 0, 0, 0, false, false, false⟩
theorem noOb_eq : noOb = ⟨0, 0, 0, 0, 0, 0, 0, 0, 0, false, false, false⟩ := by unfold noOb; rfl
/-- the object of twelve bytes -/
def decOb (zs : List Int) : Ob := ⟨256 * zs.getD 0 0 + zs.getD 1 0, 256 * zs.getD 2 0 + zs.getD 3 0 - 1, zs.getD 4 0, zs.getD 5 0, zs.getD 6 0, zs.getD 7 0, zs.getD 8 0, zs.getD 9 0, zs.getD 10 0, decide (zs.getD 11 0 % 2 = 1), decide (zs.getD 11 0 / 2 % 2 = 1), decide (zs.getD 11 0 / 4 = 1)⟩
/-- the object of some bytes, and the error -/
def rdO (zs : List Int) : Ob := if zs.length = 12 ∧ zs.getD 11 0 ≤ 7 ∧ vO (decOb zs) = true then decOb zs else noOb
def rdN (zs : List Int) : Int := if zs.length < 12 then 4 else if 12 < zs.length then 5 else if zs.getD 11 0 ≤ 7 ∧ vO (decOb zs) = true then 0 else 6
theorem twelve {zs : List Int} (h : zs.length = 12) : ∃ z0 z1 z2 z3 z4 z5 z6 z7 z8 z9 z10 z11, zs = [z0, z1, z2, z3, z4, z5, z6, z7, z8, z9, z10, z11] := by
  match zs, h with
  | [z0, z1, z2, z3, z4, z5, z6, z7, z8, z9, z10, z11], _ => exact ⟨z0, z1, z2, z3, z4, z5, z6, z7, z8, z9, z10, z11, rfl⟩
theorem odecode (v : Value) (zs : List Int) (w : World) (hs : Seg w .u8 v zs) (hz : ∀ z ∈ zs, 0 ≤ z ∧ z < 256) : Calls Try.prog 33 #[v] w fun e w' => e = .returned (.tuple #[.agg #[.int .i64 (rdO zs).id, .int .i64 (rdO zs).cd, .int .i64 (rdO zs).ow, .int .i64 (rdO zs).po, .int .i64 (rdO zs).tg, .int .i64 (rdO zs).da, .int .i64 (rdO zs).co, .int .i64 (rdO zs).pp, .int .i64 (rdO zs).pt, .bool (rdO zs).ta, .bool (rdO zs).si, .bool (rdO zs).dm], .int .i64 (rdN zs)]) ∧ Below w.heap.size w w' := by
  rcases Nat.lt_trichotomy zs.length 12 with h | h | h
  · have e1 : rdO zs = noOb := by unfold rdO; rw [if_neg (by omega)]
    have e2 : rdN zs = 4 := by unfold rdN; rw [if_pos h]
    rw [e1, e2]
    exact odec_short v zs w hs h
  · obtain ⟨z0, z1, z2, z3, z4, z5, z6, z7, z8, z9, z10, z11, rfl⟩ := twelve h
    have hb := hz z11 (by simp)
    by_cases h7 : z11 ≤ 7
    · have e4 : decide (z11 / 4 % 2 = 1) = decide (z11 / 4 = 1) := decide_eq_decide.2 (by omega)
      cases hv : vO (decOb [z0, z1, z2, z3, z4, z5, z6, z7, z8, z9, z10, z11])
      · have e1 : rdO [z0, z1, z2, z3, z4, z5, z6, z7, z8, z9, z10, z11] = noOb := by unfold rdO; rw [if_neg (by rw [hv]; simp)]
        have e2 : rdN [z0, z1, z2, z3, z4, z5, z6, z7, z8, z9, z10, z11] = 6 := by unfold rdN; rw [if_neg (by simp), if_neg (by simp), if_neg (by rw [hv]; simp)]
        rw [e1, e2]
        exact odec_bad z0 z1 z2 z3 z4 z5 z6 z7 z8 z9 z10 z11 _ _ _ v w hs hz h7 (band hb).1 (band hb).2.1 ((band hb).2.2.trans e4) hv
      · have e1 : rdO [z0, z1, z2, z3, z4, z5, z6, z7, z8, z9, z10, z11] = decOb [z0, z1, z2, z3, z4, z5, z6, z7, z8, z9, z10, z11] := by unfold rdO; rw [if_pos ⟨rfl, h7, hv⟩]
        have e2 : rdN [z0, z1, z2, z3, z4, z5, z6, z7, z8, z9, z10, z11] = 0 := by unfold rdN; rw [if_neg (by simp), if_neg (by simp), if_pos ⟨h7, hv⟩]
        rw [e1, e2]
        exact odec_ok z0 z1 z2 z3 z4 z5 z6 z7 z8 z9 z10 z11 _ _ _ v w hs hz h7 (band hb).1 (band hb).2.1 ((band hb).2.2.trans e4) hv
    · have e1 : rdO [z0, z1, z2, z3, z4, z5, z6, z7, z8, z9, z10, z11] = noOb := by unfold rdO; rw [if_neg (by simp; omega)]
      have e2 : rdN [z0, z1, z2, z3, z4, z5, z6, z7, z8, z9, z10, z11] = 6 := by unfold rdN; rw [if_neg (by simp), if_neg (by simp), if_neg (by simp; omega)]
      rw [e1, e2]
      exact odec_big z0 z1 z2 z3 z4 z5 z6 z7 z8 z9 z10 z11 _ _ _ v w hs hz (by omega) (band hb).1 (band hb).2.1 ((band hb).2.2)
  · have e1 : rdO zs = noOb := by unfold rdO; rw [if_neg (by omega)]
    have e2 : rdN zs = 5 := by unfold rdN; rw [if_neg (by omega), if_pos h]
    rw [e1, e2]
    exact odec_long v zs w hs h
theorem beqd (a b : Int) : (a == b) = decide (a = b) := by rfl
theorem rdecode (v : Value) (zs : List Int) (w : World) (hs : Seg w .u8 v zs) (hz : ∀ z ∈ zs, 0 ≤ z ∧ z < 256) : Calls Try.prog 15 #[v] w fun e w' => e = .returned (.tuple #[.agg #[.int .i64 (rdO zs).id, .int .i64 (rdO zs).cd, .int .i64 (rdO zs).ow, .int .i64 (rdO zs).po, .int .i64 (rdO zs).tg, .int .i64 (rdO zs).da, .int .i64 (rdO zs).co, .int .i64 (rdO zs).pp, .int .i64 (rdO zs).pt, .bool (rdO zs).ta, .bool (rdO zs).si, .bool (rdO zs).dm], .int .i64 (rdN zs)]) ∧ Below w.heap.size w w' := by
  rcases Nat.lt_trichotomy zs.length 12 with h | h | h
  · have e1 : rdO zs = noOb := by unfold rdO; rw [if_neg (by omega)]
    have e2 : rdN zs = 4 := by unfold rdN; rw [if_pos h]
    rw [e1, e2]
    exact rread_short v zs w hs h
  · obtain ⟨z0, z1, z2, z3, z4, z5, z6, z7, z8, z9, z10, z11, rfl⟩ := twelve h
    have hb := hz z11 (by simp)
    by_cases h7 : z11 ≤ 7
    · have e4 : decide (z11 / 4 % 2 = 1) = decide (z11 / 4 = 1) := decide_eq_decide.2 (by omega)
      cases hv : vO (decOb [z0, z1, z2, z3, z4, z5, z6, z7, z8, z9, z10, z11])
      · have e1 : rdO [z0, z1, z2, z3, z4, z5, z6, z7, z8, z9, z10, z11] = noOb := by unfold rdO; rw [if_neg (by rw [hv]; simp)]
        have e2 : rdN [z0, z1, z2, z3, z4, z5, z6, z7, z8, z9, z10, z11] = 6 := by unfold rdN; rw [if_neg (by simp), if_neg (by simp), if_neg (by rw [hv]; simp)]
        rw [e1, e2]
        exact rread_bad z0 z1 z2 z3 z4 z5 z6 z7 z8 z9 z10 z11 _ _ _ v w hs hz h7 (beqd _ _) (beqd _ _) (beqd _ _) hv
      · have e1 : rdO [z0, z1, z2, z3, z4, z5, z6, z7, z8, z9, z10, z11] = decOb [z0, z1, z2, z3, z4, z5, z6, z7, z8, z9, z10, z11] := by unfold rdO; rw [if_pos ⟨rfl, h7, hv⟩]
        have e2 : rdN [z0, z1, z2, z3, z4, z5, z6, z7, z8, z9, z10, z11] = 0 := by unfold rdN; rw [if_neg (by simp), if_neg (by simp), if_pos ⟨h7, hv⟩]
        rw [e1, e2]
        exact rread_ok z0 z1 z2 z3 z4 z5 z6 z7 z8 z9 z10 z11 _ _ _ v w hs hz h7 (beqd _ _) (beqd _ _) (beqd _ _) hv
    · have e1 : rdO [z0, z1, z2, z3, z4, z5, z6, z7, z8, z9, z10, z11] = noOb := by unfold rdO; rw [if_neg (by simp; omega)]
      have e2 : rdN [z0, z1, z2, z3, z4, z5, z6, z7, z8, z9, z10, z11] = 6 := by unfold rdN; rw [if_neg (by simp), if_neg (by simp), if_neg (by simp; omega)]
      rw [e1, e2]
      exact rread_big z0 z1 z2 z3 z4 z5 z6 z7 z8 z9 z10 z11 _ _ _ v w hs hz (by omega) (beqd _ _) (beqd _ _) (beqd _ _)
  · have e1 : rdO zs = noOb := by unfold rdO; rw [if_neg (by omega)]
    have e2 : rdN zs = 5 := by unfold rdN; rw [if_neg (by omega), if_pos h]
    rw [e1, e2]
    exact rread_long v zs w hs h
theorem odecodec (v : Value) (zs : List Int) (o : Ob) (no : Int) (w : World) (hs : Seg w .u8 v zs) (hz : ∀ z ∈ zs, 0 ≤ z ∧ z < 256) (ho : Hid (rdO zs = o)) (hn : Hid (rdN zs = no)) : Calls Try.prog 33 #[v] w fun e w' => e = .returned (.tuple #[.agg #[.int .i64 o.id, .int .i64 o.cd, .int .i64 o.ow, .int .i64 o.po, .int .i64 o.tg, .int .i64 o.da, .int .i64 o.co, .int .i64 o.pp, .int .i64 o.pt, .bool o.ta, .bool o.si, .bool o.dm], .int .i64 no]) ∧ Below w.heap.size w w' := by
  rw [← ho.out, ← hn.out]
  exact odecode v zs w hs hz
set_option maxRecDepth 100000 in
set_option maxHeartbeats 2000000 in
theorem oreads (v : Value) (zs : List Int) (o : Ob) (no : Int) (w : World) (hs : Seg w .u8 v zs) (hz : ∀ z ∈ zs, 0 ≤ z ∧ z < 256) (ho : Hid (rdO zs = o)) (hn : Hid (rdN zs = no)) : Calls Try.prog 16 #[v, .agg #[.int .i64 o.id, .int .i64 o.cd, .int .i64 o.ow, .int .i64 o.po, .int .i64 o.tg, .int .i64 o.da, .int .i64 o.co, .int .i64 o.pp, .int .i64 o.pt, .bool o.ta, .bool o.si, .bool o.dm], .int .i64 no] w fun e w' => e = .returned (.bool true) ∧ Below w.heap.size w w' := by
  go_enter Try.func16, Try.ntmps16
  go_wp2_with fail
  with_reducible refine (odecodec v zs o no _ (hs.below (by go_grown)) hz ho hn).mono ?_
  rintro e w1 ⟨rfl, hb_w1⟩
  have K_w1 : Kept w.heap.size w (w.heap.size + 1) [(w.heap.size, 0, .int .i64 o.id), (w.heap.size, 1, .int .i64 o.cd), (w.heap.size, 2, .int .i64 o.ow), (w.heap.size, 3, .int .i64 o.po), (w.heap.size, 4, .int .i64 o.tg), (w.heap.size, 5, .int .i64 o.da), (w.heap.size, 6, .int .i64 o.co), (w.heap.size, 7, .int .i64 o.pp), (w.heap.size, 8, .int .i64 o.pt), (w.heap.size, 9, .bool o.ta), (w.heap.size, 10, .bool o.si), (w.heap.size, 11, .bool o.dm)] w1 := Kept.of hb_w1 (by go_grown) (by go_size) (by omega) (by simp [go_sem] <;> omega)
  clear hb_w1
  have KH_w1 := Lib.hid K_w1
  have hw_w1 := K_w1.below
  have hz_w1 := K_w1.size
  have lB_w1 : w.heap.size < w1.heap.size := by omega
  clear K_w1
  have cB0_w1 := KH_w1.out.at (b := w.heap.size) (o := 0) (v := .int .i64 o.id) (by simp)
  have fB0_w1 := KH_w1.out.free (b := w.heap.size) (o := 0) (v := .int .i64 o.id) (by simp)
  have cB1_w1 := KH_w1.out.at (b := w.heap.size) (o := 1) (v := .int .i64 o.cd) (by simp)
  have fB1_w1 := KH_w1.out.free (b := w.heap.size) (o := 1) (v := .int .i64 o.cd) (by simp)
  have cB2_w1 := KH_w1.out.at (b := w.heap.size) (o := 2) (v := .int .i64 o.ow) (by simp)
  have fB2_w1 := KH_w1.out.free (b := w.heap.size) (o := 2) (v := .int .i64 o.ow) (by simp)
  have cB3_w1 := KH_w1.out.at (b := w.heap.size) (o := 3) (v := .int .i64 o.po) (by simp)
  have fB3_w1 := KH_w1.out.free (b := w.heap.size) (o := 3) (v := .int .i64 o.po) (by simp)
  have cB4_w1 := KH_w1.out.at (b := w.heap.size) (o := 4) (v := .int .i64 o.tg) (by simp)
  have fB4_w1 := KH_w1.out.free (b := w.heap.size) (o := 4) (v := .int .i64 o.tg) (by simp)
  have cB5_w1 := KH_w1.out.at (b := w.heap.size) (o := 5) (v := .int .i64 o.da) (by simp)
  have fB5_w1 := KH_w1.out.free (b := w.heap.size) (o := 5) (v := .int .i64 o.da) (by simp)
  have cB6_w1 := KH_w1.out.at (b := w.heap.size) (o := 6) (v := .int .i64 o.co) (by simp)
  have fB6_w1 := KH_w1.out.free (b := w.heap.size) (o := 6) (v := .int .i64 o.co) (by simp)
  have cB7_w1 := KH_w1.out.at (b := w.heap.size) (o := 7) (v := .int .i64 o.pp) (by simp)
  have fB7_w1 := KH_w1.out.free (b := w.heap.size) (o := 7) (v := .int .i64 o.pp) (by simp)
  have cB8_w1 := KH_w1.out.at (b := w.heap.size) (o := 8) (v := .int .i64 o.pt) (by simp)
  have fB8_w1 := KH_w1.out.free (b := w.heap.size) (o := 8) (v := .int .i64 o.pt) (by simp)
  have cB9_w1 := KH_w1.out.at (b := w.heap.size) (o := 9) (v := .bool o.ta) (by simp)
  have fB9_w1 := KH_w1.out.free (b := w.heap.size) (o := 9) (v := .bool o.ta) (by simp)
  have cB10_w1 := KH_w1.out.at (b := w.heap.size) (o := 10) (v := .bool o.si) (by simp)
  have fB10_w1 := KH_w1.out.free (b := w.heap.size) (o := 10) (v := .bool o.si) (by simp)
  have cB11_w1 := KH_w1.out.at (b := w.heap.size) (o := 11) (v := .bool o.dm) (by simp)
  have fB11_w1 := KH_w1.out.free (b := w.heap.size) (o := 11) (v := .bool o.dm) (by simp)
  go_wp2_with fail
  go_returns
  exact ⟨rfl, by go_grown⟩

end Go.Proofs.Ytjedflfgafhlkaa
