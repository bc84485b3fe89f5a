/- The beginning of a turn, by the code. -/
import Derived.Test.YtkkpckkkcclhhaaDoorBTc
import Derived.Deep.DeepCutAuto
import Derived.LoopTactic
import Derived.Deep.MidRow
namespace Go.Proofs.YtkkpckkkcclhhaaDoor
open Go.RowKit Plain
set_option linter.unusedVariables false
set_option linter.unusedSimpArgs false

def frN (B : Bd) (k : Nat) : Bd := if k = 0 then be0 B else if k = 1 then (be0 B).fresh 0 else be1 B
theorem frN_succ (B : Bd) {p : Nat} (hp : p < 2) : frN B (p + 1) = (frN B p).fresh p := by
  have : p = 0 ∨ p = 1 := by omega
  rcases this with rfl | rfl <;> rfl
theorem Bx.seatc {w : World} {P : Nat} {s : Bs} {B : Bd} (h : Bx w P s B) {p : Nat} (hp : p < 2) : w.cell? ⟨P, 1 + p * 14 + 10, none⟩ = some (.bool (B.seat p).py) ∧ w.cell? ⟨P, 1 + p * 14 + 13, none⟩ = some (.int .i64 (B.seat p).ac) := by
  rw [h.cell, h.cell]
  have : p = 0 ∨ p = 1 := by omega
  rcases this with rfl | rfl <;> exact ⟨rfl, rfl⟩
theorem Bx.fresh {w : World} {P : Nat} {s : Bs} {B : Bd} (h : Bx w P s B) {p : Nat} (hp : p < 2) : Bx (((w.setCells P (1 + p * 14 + 1) [.int .i64 0, .int .i64 0, .int .i64 0, .int .i64 0]).setCell ⟨P, 1 + p * 14 + 10, none⟩ (.bool false)).setCell ⟨P, 1 + p * 14 + 13, none⟩ (.int .i64 0)) P s (B.fresh p) := by
  have : p = 0 ∨ p = 1 := by omega
  rcases this with rfl | rfl
  · exact Bx.ro (w := w) (hset (hset (hset (hset (hset (hset h 2 (.int .i64 0)) 3 (.int .i64 0)) 4 (.int .i64 0)) 5 (.int .i64 0)) 11 (.bool false)) 14 (.int .i64 0)) (by simp [bcells, Plain.Bd.fresh, Plain.Se.fresh, Plain.Se.noPool])
  · exact Bx.ro (w := w) (hset (hset (hset (hset (hset (hset h 16 (.int .i64 0)) 17 (.int .i64 0)) 18 (.int .i64 0)) 19 (.int .i64 0)) 25 (.bool false)) 28 (.int .i64 0)) (by simp [bcells, Plain.Bd.fresh, Plain.Se.fresh, Plain.Se.noPool])
theorem il_fresh (B : Bd) {p : Nat} (hp : p < 2) {j : Nat} (hj : j < 9) : (B.fresh p).il j = B.il j := by
  have : p = 0 ∨ p = 1 := by omega
  rcases this with rfl | rfl <;> exact (match j, hj with
    | 0, _ => rfl
    | 1, _ => rfl
    | 2, _ => rfl
    | 3, _ => rfl
    | 4, _ => rfl
    | 5, _ => rfl
    | 6, _ => rfl
    | 7, _ => rfl
    | 8, _ => rfl)
theorem freshO {lo hi : Nat} {w : World} {s : Bs} {B : Bd} (h : BdO lo hi w s B) {p : Nat} (hp : p < 2) : BdO lo hi w s (B.fresh p) := by
  have e : (B.fresh p).ob = B.ob ∧ (B.fresh p).st = B.st ∧ (B.fresh p).qu = B.qu ∧ (B.fresh p).bl = B.bl := by
    unfold Plain.Bd.fresh
    split <;> exact ⟨rfl, rfl, rfl, rfl⟩
  exact ⟨by rw [e.1]; exact h.ob, fun j hj => by rw [il_fresh B hp hj]; exact h.il j hj, h.nd, by rw [e.2.1]; exact h.st, by rw [e.2.2.1]; exact h.qu, h.ns, by rw [e.2.2.2]; exact h.bl⟩
theorem beO {lo hi : Nat} {w : World} {s' : Bs} {B : Bd} (h : BdO lo hi w s' B) : BdO lo hi w { s' with at' := nilSl, bl := nilSl } (be0 B) := by
  have e1 : ∀ j, j < 8 → ({ s' with at' := nilSl, bl := nilSl } : Bs).isl j = s'.isl j := fun j hj => by unfold Bs.isl; rw [if_pos hj, if_pos hj]; rfl
  have e2 : ∀ j, j < 8 → (be0 B).il j = B.il j := fun j hj => by unfold Plain.Bd.il; rw [if_pos hj, if_pos hj]; rfl
  have n8 : ({ s' with at' := nilSl, bl := nilSl } : Bs).isl 8 = nilSl := rfl
  refine ⟨h.ob, fun j hj => ?_, fun i j hi2 hj hij b hb => ?_, h.st, h.qu, h.ns, Ox.nil _ _ _ _⟩
  · by_cases h8 : j < 8
    · rw [e1 j h8, e2 j h8]; exact h.il j hj
    · obtain rfl : j = 8 := by omega
      exact Ox.nil _ _ _ _
  · by_cases h8 : i < 8
    · rw [e1 i h8] at hb
      by_cases h9 : j < 8
      · rw [e1 j h9]; exact h.nd i j hi2 hj hij b hb
      · obtain rfl : j = 8 := by omega
        rw [n8]; simp [nilSl, Sl.v, Value.ownBlock]
    · obtain rfl : i = 8 := by omega
      rw [n8] at hb
      simp [nilSl, Sl.v, Value.ownBlock] at hb
def FrL (w : World) (lo hi : Nat) (s : Bs) (B : Bd) (v : Value) (wr : World) : Prop := ∃ p : Nat, p ≤ 2 ∧ v = .int .i64 p ∧ BoxO w lo hi s (frN B p) wr
theorem be0_zero {B : Bd} (h : B.tu = 0) : be0 B = { B with ac := 0, tu := B.tu + 1, ph := 1, ho := -1, pa := 0, att := [], bl := [] } := by unfold be0 nxA; rw [if_pos h]
theorem be0_pos {B : Bd} (h : ¬ B.tu = 0) : be0 B = { B with ac := 1 - B.ac, tu := B.tu + 1, ph := 1, ho := -1, pa := 0, att := [], bl := [] } := by unfold be0 nxA; rw [if_neg h]
theorem nxA_bd {B : Bd} (h : 0 ≤ B.ac ∧ B.ac ≤ 1) : nxA B = ((nxA B).toNat : Nat) ∧ (nxA B).toNat < 2 := by unfold nxA; split <;> omega
set_option maxRecDepth 100000 in
set_option maxHeartbeats 4000000 in
theorem begin_bad (s : Bs) (B : Bd) (w : World) (h : BdR w s B) (hk : B.Ok) (hv : ¬ VB B) : Calls Tryd.prog 21 #[bv s B] w (BrA w zeroB (.int .i64 2)) := by
  have HR := Lib.hid h
  have HK := Lib.hid hk
  have HV := Lib.hid hv
  clear h hk hv
  go_enter Tryd.func21, Tryd.ntmps21
  go_upto_region 1 with fail
  change Code.wp Tryd.prog _ _ _ ((w.alloc (.cells (bcells s B) 39)).alloc (.cells (bcells nilS zeroB) 39))
  obtain ⟨wz, hwz⟩ : ∃ W, W = (w.alloc (.cells (bcells s B) 39)).alloc (.cells (bcells nilS zeroB) 39) := ⟨_, rfl⟩
  have hsz : wz.heap.size = w.heap.size + 1 + 1 := by rw [hwz]; simp
  have b1 : Below w.heap.size w (w.alloc (.cells (bcells s B) 39)) := (Below.refl _ _).alloc (Nat.le_refl _) _
  have b2 : Below (w.alloc (.cells (bcells s B) 39)).heap.size (w.alloc (.cells (bcells s B) 39)) wz := by rw [hwz]; exact (Below.refl _ _).alloc (Nat.le_refl _) _
  have HX : Hid (Bx wz w.heap.size s B) := Lib.hid (Bx.below (w := w.alloc (.cells (bcells s B) 39)) (heap_alloc_new _ _) b2)
  have HZ : Hid (Bx wz (w.heap.size + 1) nilS zeroB) := Lib.hid (by rw [hwz, show w.heap.size + 1 = (w.alloc (.cells (bcells s B) 39)).heap.size by simp]; exact heap_alloc_new _ _)
  have HB : Hid (Below w.heap.size w wz) := Lib.hid (below_via b1 b2)
  rw [← hwz]
  clear hwz b1 b2
  clear hsz
  go_wp2_with (refine wpList_load_bx _ rfl rfl HX.out (by kernel_rfl) ?_)
  with_reducible refine (bvalid s B _ (HR.out.below HB.out) HK.out.i HK.out.sm).mono ?_
  rintro e w1 ⟨⟨r, rfl, hr⟩, hb⟩
  obtain rfl : r = false := by cases r with | false => rfl | true => exact absurd (hr.1 rfl) HV.out
  clear hr
  replace HX := Lib.hid (HX.out.below hb)
  replace HZ := Lib.hid (HZ.out.below hb)
  replace HB := Lib.hid (below_via HB.out hb)
  clear hb
  go_upto_region 2 with fail
  go_wp2_with (first | (refine wpList_store_bh (s := nilS) (B := zeroB) rfl _ _ rfl rfl rfl HZ.out rfl ?_; intro w9 hw9))
  have hg9 : Bx w9 (w.heap.size + 1) nilS (zeroB) := by rw [hw9.out]; exact Bx.row HZ.out _ _
  have ho9 : Onl [w.heap.size + 1] w1 w9 := by rw [hw9.out]; exact Onl.setRow (Onl.refl _ _) (.inl (by simp)) _
  have hb9 : Below w.heap.size w w9 := belowOnl HB.out ho9 (by simp) HB.out.size
  have HG9 := Lib.hid hg9
  have HPOST : Hid (BrA w (zeroB) (.int .i64 2) (.returned (.tuple #[bv nilS (zeroB), .int .i64 2])) w9) := Lib.hid ⟨_, rfl, zeroOwn _ _ _, hb9⟩
  clear hw9 hg9 ho9 hb9
  go_wp2_with fail
  exact bodyPost_ret (v := .tuple #[bv nilS (zeroB), .int .i64 2]) (results_b1 Tryd.results21 _ _ HG9.out rfl rfl) rfl HPOST.out
set_option maxRecDepth 100000 in
set_option maxHeartbeats 4000000 in
theorem begin_end (s : Bs) (B : Bd) (w : World) (h : BdR w s B) (hk : B.Ok) (hv : VB B) (h1 : B.tu = 1000) : Calls Tryd.prog 21 #[bv s B] w (BrA w zeroB (.int .i64 3)) := by
  have t0 : (B.tu == 1000) = true := by simp [h1]
  clear h1
  have HR := Lib.hid h
  have HK := Lib.hid hk
  have HV := Lib.hid hv
  clear h hk hv
  go_enter Tryd.func21, Tryd.ntmps21
  go_upto_region 1 with fail
  change Code.wp Tryd.prog _ _ _ ((w.alloc (.cells (bcells s B) 39)).alloc (.cells (bcells nilS zeroB) 39))
  obtain ⟨wz, hwz⟩ : ∃ W, W = (w.alloc (.cells (bcells s B) 39)).alloc (.cells (bcells nilS zeroB) 39) := ⟨_, rfl⟩
  have hsz : wz.heap.size = w.heap.size + 1 + 1 := by rw [hwz]; simp
  have b1 : Below w.heap.size w (w.alloc (.cells (bcells s B) 39)) := (Below.refl _ _).alloc (Nat.le_refl _) _
  have b2 : Below (w.alloc (.cells (bcells s B) 39)).heap.size (w.alloc (.cells (bcells s B) 39)) wz := by rw [hwz]; exact (Below.refl _ _).alloc (Nat.le_refl _) _
  have HX : Hid (Bx wz w.heap.size s B) := Lib.hid (Bx.below (w := w.alloc (.cells (bcells s B) 39)) (heap_alloc_new _ _) b2)
  have HZ : Hid (Bx wz (w.heap.size + 1) nilS zeroB) := Lib.hid (by rw [hwz, show w.heap.size + 1 = (w.alloc (.cells (bcells s B) 39)).heap.size by simp]; exact heap_alloc_new _ _)
  have HB : Hid (Below w.heap.size w wz) := Lib.hid (below_via b1 b2)
  rw [← hwz]
  clear hwz b1 b2
  clear hsz
  go_wp2_with (refine wpList_load_bx _ rfl rfl HX.out (by kernel_rfl) ?_)
  with_reducible refine (bvalid s B _ (HR.out.below HB.out) HK.out.i HK.out.sm).mono ?_
  rintro e w1 ⟨⟨r, rfl, hr⟩, hb⟩
  obtain rfl : r = true := hr.2 HV.out
  clear hr
  replace HX := Lib.hid (HX.out.below hb)
  replace HZ := Lib.hid (HZ.out.below hb)
  replace HB := Lib.hid (below_via HB.out hb)
  clear hb
  have c33 : w1.cell? ⟨w.heap.size, 33, none⟩ = some (.int .i64 B.tu) := HX.out.cell 33
  go_upto_region 4 with fail
  clear c33 t0
  go_wp2_with (first | (refine wpList_store_bh (s := nilS) (B := zeroB) rfl _ _ rfl rfl rfl HZ.out rfl ?_; intro w9 hw9))
  have hg9 : Bx w9 (w.heap.size + 1) nilS (zeroB) := by rw [hw9.out]; exact Bx.row HZ.out _ _
  have ho9 : Onl [w.heap.size + 1] w1 w9 := by rw [hw9.out]; exact Onl.setRow (Onl.refl _ _) (.inl (by simp)) _
  have hb9 : Below w.heap.size w w9 := belowOnl HB.out ho9 (by simp) HB.out.size
  have HG9 := Lib.hid hg9
  have HPOST : Hid (BrA w (zeroB) (.int .i64 3) (.returned (.tuple #[bv nilS (zeroB), .int .i64 3])) w9) := Lib.hid ⟨_, rfl, zeroOwn _ _ _, hb9⟩
  clear hw9 hg9 ho9 hb9
  go_wp2_with fail
  exact bodyPost_ret (v := .tuple #[bv nilS (zeroB), .int .i64 3]) (results_b1 Tryd.results21 _ _ HG9.out rfl rfl) rfl HPOST.out
set_option maxRecDepth 100000 in
set_option maxHeartbeats 4000000 in
theorem begin_ok (s : Bs) (B : Bd) (w : World) (h : BdR w s B) (hk : B.Ok) (hv : VB B) (h1 : ¬ B.tu = 1000) : Calls Tryd.prog 21 #[bv s B] w (BrA w (beB B) (.int .i64 0)) := by
  have t0 : (B.tu == 1000) = false := by simp [h1]
  have hn := hv.num
  unfold vNum at hn
  have HAC : Hid (0 ≤ B.ac ∧ B.ac ≤ 1) := Lib.hid hn.1
  have hw1 : wrap64 (1 - B.ac) = 1 - B.ac := by unfold wrap64; omega
  have hw2 : wrap64 (B.tu + 1) = B.tu + 1 := by unfold wrap64; omega
  clear h1 hn
  have HR := Lib.hid h
  have HK := Lib.hid hk
  have HV := Lib.hid hv
  clear h hk hv
  go_enter Tryd.func21, Tryd.ntmps21
  go_upto_region 1 with fail
  change Code.wp Tryd.prog _ _ _ ((w.alloc (.cells (bcells s B) 39)).alloc (.cells (bcells nilS zeroB) 39))
  obtain ⟨wz, hwz⟩ : ∃ W, W = (w.alloc (.cells (bcells s B) 39)).alloc (.cells (bcells nilS zeroB) 39) := ⟨_, rfl⟩
  have hsz : wz.heap.size = w.heap.size + 1 + 1 := by rw [hwz]; simp
  have b1 : Below w.heap.size w (w.alloc (.cells (bcells s B) 39)) := (Below.refl _ _).alloc (Nat.le_refl _) _
  have b2 : Below (w.alloc (.cells (bcells s B) 39)).heap.size (w.alloc (.cells (bcells s B) 39)) wz := by rw [hwz]; exact (Below.refl _ _).alloc (Nat.le_refl _) _
  have HX : Hid (Bx wz w.heap.size s B) := Lib.hid (Bx.below (w := w.alloc (.cells (bcells s B) 39)) (heap_alloc_new _ _) b2)
  have HZ : Hid (Bx wz (w.heap.size + 1) nilS zeroB) := Lib.hid (by rw [hwz, show w.heap.size + 1 = (w.alloc (.cells (bcells s B) 39)).heap.size by simp]; exact heap_alloc_new _ _)
  have HB : Hid (Below w.heap.size w wz) := Lib.hid (below_via b1 b2)
  rw [← hwz]
  clear hwz b1 b2
  clear hsz
  go_wp2_with (refine wpList_load_bx _ rfl rfl HX.out (by kernel_rfl) ?_)
  with_reducible refine (bvalid s B _ (HR.out.below HB.out) HK.out.i HK.out.sm).mono ?_
  rintro e w1 ⟨⟨r, rfl, hr⟩, hb⟩
  obtain rfl : r = true := hr.2 HV.out
  clear hr
  replace HX := Lib.hid (HX.out.below hb)
  replace HZ := Lib.hid (HZ.out.below hb)
  replace HB := Lib.hid (below_via HB.out hb)
  clear hb
  have c33 : w1.cell? ⟨w.heap.size, 33, none⟩ = some (.int .i64 B.tu) := HX.out.cell 33
  go_upto_region 5 with fail
  clear c33 t0
  go_wp2_with (refine wpList_load_bx _ rfl rfl HX.out (by kernel_rfl) ?_)
  with_reducible refine (bcopy s B _ (HR.out.below HB.out) HK.out.sm ⟨HK.out.st, HK.out.qu⟩).mono ?_
  rintro e w2 ⟨s', rfl, ho, hb⟩
  have HLO : Hid (w.heap.size + 1 + 1 ≤ w1.heap.size) := Lib.hid (by have := HZ.out.lt; omega)
  have HO0 := Lib.hid ho
  replace HX := Lib.hid (HX.out.below hb)
  replace HZ := Lib.hid (HZ.out.below hb)
  replace HB := Lib.hid (below_via HB.out hb)
  clear hb ho
  go_wp2_with (refine wpList_store_bh rfl _ _ rfl rfl rfl HX.out rfl ?_)
  intro w3 hw0
  have hw := hw0.out
  have hon : Onl [w.heap.size] w2 w3 := by rw [hw]; exact Onl.setRow (Onl.refl _ _) (.inl (by simp)) _
  replace HX : Hid (Bx w3 w.heap.size s' B) := Lib.hid (by rw [hw]; exact Bx.row HX.out s' B)
  have HO : Hid (BdO (w.heap.size + 1 + 1) w2.heap.size w3 s' B) := Lib.hid ((HO0.out.mono HLO.out (Nat.le_refl _)).keep (fun k a b => hon.block k b (by simp; omega)))
  replace HZ := Lib.hid (HZ.out.onl hon (by simp))
  replace HB := Lib.hid (belowOnl HB.out hon (by simp) HB.out.size)
  have HSZ : Hid (w2.heap.size ≤ w3.heap.size) := Lib.hid hon.size
  clear hw hw0 hon HO0
  go_upto_region 6 with fail
  by_cases hT : B.tu = 0
  · have t1 : (B.tu == 0) = true := by simp [hT]
    have HT := Lib.hid hT
    clear hT
    have c31 : w3.cell? ⟨w.heap.size, 31, none⟩ = some (.slice s'.at'.a s'.at'.n s'.at'.c) := HX.out.cell 31
    have f31 := HX.out.free 31
    have c32 : w3.cell? ⟨w.heap.size, 32, none⟩ = some (.slice s'.bl.a s'.bl.n s'.bl.c) := HX.out.cell 32
    have f32 := HX.out.free 32
    have c33 : w3.cell? ⟨w.heap.size, 33, none⟩ = some (.int .i64 B.tu) := HX.out.cell 33
    have f33 := HX.out.free 33
    have c34 : w3.cell? ⟨w.heap.size, 34, none⟩ = some (.int .i64 B.ac) := HX.out.cell 34
    have f34 := HX.out.free 34
    have c35 : w3.cell? ⟨w.heap.size, 35, none⟩ = some (.int .i64 B.ph) := HX.out.cell 35
    have f35 := HX.out.free 35
    have c36 : w3.cell? ⟨w.heap.size, 36, none⟩ = some (.int .i64 B.ho) := HX.out.cell 36
    have f36 := HX.out.free 36
    have c37 : w3.cell? ⟨w.heap.size, 37, none⟩ = some (.int .i64 B.pa) := HX.out.cell 37
    have f37 := HX.out.free 37
    go_upto_region 12 with fail
    obtain ⟨w4, hw⟩ : ∃ X, X = ((((((((w3.setCell ⟨w.heap.size, 34, none⟩ (.int .i64 (1 - B.ac))).setCell ⟨w.heap.size, 34, none⟩ (.int .i64 0)).setCell ⟨w.heap.size, 33, none⟩ (.int .i64 (B.tu + 1))).setCell ⟨w.heap.size, 35, none⟩ (.int .i64 1)).setCell ⟨w.heap.size, 36, none⟩ (.int .i64 (-1))).setCell ⟨w.heap.size, 37, none⟩ (.int .i64 0)).setCell ⟨w.heap.size, 31, none⟩ (.slice none 0 0)).setCell ⟨w.heap.size, 32, none⟩ (.slice none 0 0)) := ⟨_, rfl⟩
    rw [← hw]
    have hx4 : Bx w4 w.heap.size { s' with at' := nilSl, bl := nilSl } (be0 B) := by rw [hw, be0_zero HT.out]; exact Bx.ro (w := w3) (hset (hset (hset (hset (hset (hset (hset (hset HX.out 34 (.int .i64 (1 - B.ac))) 34 (.int .i64 0)) 33 (.int .i64 (B.tu + 1))) 35 (.int .i64 1)) 36 (.int .i64 (-1))) 37 (.int .i64 0)) 31 (.slice none 0 0)) 32 (.slice none 0 0)) (by simp [bcells, nilSl, Sl.v])
    have ho4 : Onl [w.heap.size] w3 w4 := by rw [hw]; exact (Onl.setCell (Onl.setCell (Onl.setCell (Onl.setCell (Onl.setCell (Onl.setCell (Onl.setCell (Onl.setCell (Onl.refl _ _) (.inl (by simp)) _) (.inl (by simp)) _) (.inl (by simp)) _) (.inl (by simp)) _) (.inl (by simp)) _) (.inl (by simp)) _) (.inl (by simp)) _) (.inl (by simp)) _)
    obtain ⟨lo, hlo⟩ : ∃ n, n = w.heap.size + 1 + 1 := ⟨_, rfl⟩
    obtain ⟨hi, hhi⟩ : ∃ n, n = w2.heap.size := ⟨_, rfl⟩
    have HLO2 : Hid (w.heap.size + 1 + 1 ≤ lo) := Lib.hid (by omega)
    have HST0 : Hid (BoxO w lo hi s' B w3) := Lib.hid ⟨HB.out, HX.out, HZ.out, by rw [hlo, hhi]; exact HO.out, by rw [hhi]; exact HSZ.out⟩
    clear hlo hhi HO HSZ HB HX HZ
    have HST : Hid (BoxO w lo hi { s' with at' := nilSl, bl := nilSl } (be0 B) w4) := Lib.hid (HST0.out.put HLO2.out ho4 hx4 (fun W h => beO h))
    clear hw hx4 ho4 HST0 c31 f31 c32 f32 c33 f33 c34 f34 c35 f35 c36 f36 c37 f37 hw1 hw2 t1
    go_wp2_with fail
    go_loopw [33] (fun v wr => FrL w lo hi { s' with at' := nilSl, bl := nilSl } B v wr) (fun v _ => 2 - (intOf v).toNat)
    case atStart => exact ⟨0, by omega, rfl, HST.out⟩
    case round =>
      obtain ⟨p, hp, rfl, hst⟩ := hrel
      replace HST := Lib.hid hst
      clear hst
      by_cases hp2 : p < 2
      · have i1 : (0 : Int) ≤ (p : Int) := by omega
        have i2 : (p : Int) < 2 := by omega
        have HTH := Lib.hid (poolThere HST.out.box hp2)
        go_wp2_with (refine wpList_store_midL w.heap.size (1 + p * 14 + 1) #[.int .i64 0, .int .i64 0, .int .i64 0, .int .i64 0] rfl rfl HTH.out (by kernel_rfl) (by simp [Value.oneCell']) ?_)
        intro w5 hw0
        have hw := hw0.out
        have HX5 : Hid (Bx w5 w.heap.size { s' with at' := nilSl, bl := nilSl } ((frN B p).noPool p)) := Lib.hid (by rw [hw]; exact HST.out.box.pool hp2)
        have c10 := (HX5.out.seatc hp2).1
        have c13 := (HX5.out.seatc hp2).2
        have f10 := HX5.out.free (1 + p * 14 + 10)
        have f13 := HX5.out.free (1 + p * 14 + 13)
        have HS6 : Hid (BoxO w lo hi { s' with at' := nilSl, bl := nilSl } (frN B (p + 1)) ((w5.setCell ⟨w.heap.size, 1 + p * 14 + 10, none⟩ (.bool false)).setCell ⟨w.heap.size, 1 + p * 14 + 13, none⟩ (.int .i64 0))) := Lib.hid (by
          rw [frN_succ B hp2]
          exact HST.out.put HLO2.out (((by rw [hw]; exact Onl.setCells _ _ _ (Onl.refl _ _) (.inl (by simp)) : Onl [w.heap.size] wr w5).setCell (.inl (by simp)) _).setCell (.inl (by simp)) _) (by rw [hw]; exact HST.out.box.fresh hp2) (fun W h => freshO h hp2))
        clear hw hw0 HTH hp2
        go_wp2_with fail
        go_roundw
        case rel => exact ⟨p + 1, by omega, by go_num, HS6.out⟩
        case measure => simp [intOf]; omega
      · obtain rfl : p = 2 := by omega
        have HBD := Lib.hid (nxA_bd HAC.out)
        have c34 : wr.cell? ⟨w.heap.size, 34, none⟩ = some (.int .i64 (nxA B)) := HST.out.box.cell 34
        go_wp2_with fail
        with_reducible refine (everyUn w.heap.size { s' with at' := nilSl, bl := nilSl } (be1 B) (nxA B) (nxA B).toNat lo hi _ HST.out.box HST.out.own (.inl (by have := HLO2.out; omega)) HST.out.hi HBD.out.2 HBD.out.1).mono ?_
        rintro e w6 ⟨rfl, hx6, ho6, hr6⟩
        replace HST : Hid (BoxO w lo hi { s' with at' := nilSl, bl := nilSl } (beB B) w6) := Lib.hid (HST.out.ev HLO2.out hr6 hx6 ho6)
        clear hx6 ho6 hr6 c34
        have HX : Hid (Bx w6 w.heap.size { s' with at' := nilSl, bl := nilSl } (beB B)) := Lib.hid HST.out.box
        have HZ := Lib.hid HST.out.res
        have HB := Lib.hid HST.out.below
        go_upto_region 19 with fail
        go_wp2_with (first | (refine wpList_load_bx _ rfl rfl HX.out (by kernel_rfl) ?_) | (refine wpList_store_bh (s := { s' with at' := nilSl, bl := nilSl }) (B := beB B) rfl _ _ rfl rfl rfl HZ.out rfl ?_; intro w9 hw9))
        have hg9 : Bx w9 (w.heap.size + 1) { s' with at' := nilSl, bl := nilSl } (beB B) := by rw [hw9.out]; exact Bx.row HZ.out _ _
        have ho9 : Onl [w.heap.size + 1] w6 w9 := by rw [hw9.out]; exact Onl.setRow (Onl.refl _ _) (.inl (by simp)) _
        have hb9 : Below w.heap.size w w9 := belowOnl HB.out ho9 (by simp) HB.out.size
        have HG9 := Lib.hid hg9
        have HPOST : Hid (BrA w (beB B) (.int .i64 0) (.returned (.tuple #[bv { s' with at' := nilSl, bl := nilSl } (beB B), .int .i64 0])) w9) := Lib.hid ⟨_, rfl, (HST.out.own.keep (fun k a _ => ho9.block k (by have := HST.out.hi; omega) (by have := HLO2.out; simp; omega))).mono (by have := HLO2.out; omega) (Nat.le_trans HST.out.hi ho9.size), hb9⟩
        clear hw9 hg9 ho9 hb9
        go_wp2_with fail
        exact bodyPost_ret (v := .tuple #[bv { s' with at' := nilSl, bl := nilSl } (beB B), .int .i64 0]) (results_b1 Tryd.results21 _ _ HG9.out rfl rfl) rfl HPOST.out
  · have t1 : (B.tu == 0) = false := by simp [hT]
    have HT := Lib.hid hT
    clear hT
    have c31 : w3.cell? ⟨w.heap.size, 31, none⟩ = some (.slice s'.at'.a s'.at'.n s'.at'.c) := HX.out.cell 31
    have f31 := HX.out.free 31
    have c32 : w3.cell? ⟨w.heap.size, 32, none⟩ = some (.slice s'.bl.a s'.bl.n s'.bl.c) := HX.out.cell 32
    have f32 := HX.out.free 32
    have c33 : w3.cell? ⟨w.heap.size, 33, none⟩ = some (.int .i64 B.tu) := HX.out.cell 33
    have f33 := HX.out.free 33
    have c34 : w3.cell? ⟨w.heap.size, 34, none⟩ = some (.int .i64 B.ac) := HX.out.cell 34
    have f34 := HX.out.free 34
    have c35 : w3.cell? ⟨w.heap.size, 35, none⟩ = some (.int .i64 B.ph) := HX.out.cell 35
    have f35 := HX.out.free 35
    have c36 : w3.cell? ⟨w.heap.size, 36, none⟩ = some (.int .i64 B.ho) := HX.out.cell 36
    have f36 := HX.out.free 36
    have c37 : w3.cell? ⟨w.heap.size, 37, none⟩ = some (.int .i64 B.pa) := HX.out.cell 37
    have f37 := HX.out.free 37
    go_upto_region 12 with fail
    obtain ⟨w4, hw⟩ : ∃ X, X = (((((((w3.setCell ⟨w.heap.size, 34, none⟩ (.int .i64 (1 - B.ac))).setCell ⟨w.heap.size, 33, none⟩ (.int .i64 (B.tu + 1))).setCell ⟨w.heap.size, 35, none⟩ (.int .i64 1)).setCell ⟨w.heap.size, 36, none⟩ (.int .i64 (-1))).setCell ⟨w.heap.size, 37, none⟩ (.int .i64 0)).setCell ⟨w.heap.size, 31, none⟩ (.slice none 0 0)).setCell ⟨w.heap.size, 32, none⟩ (.slice none 0 0)) := ⟨_, rfl⟩
    rw [← hw]
    have hx4 : Bx w4 w.heap.size { s' with at' := nilSl, bl := nilSl } (be0 B) := by rw [hw, be0_pos HT.out]; exact Bx.ro (w := w3) (hset (hset (hset (hset (hset (hset (hset HX.out 34 (.int .i64 (1 - B.ac))) 33 (.int .i64 (B.tu + 1))) 35 (.int .i64 1)) 36 (.int .i64 (-1))) 37 (.int .i64 0)) 31 (.slice none 0 0)) 32 (.slice none 0 0)) (by simp [bcells, nilSl, Sl.v])
    have ho4 : Onl [w.heap.size] w3 w4 := by rw [hw]; exact (Onl.setCell (Onl.setCell (Onl.setCell (Onl.setCell (Onl.setCell (Onl.setCell (Onl.setCell (Onl.refl _ _) (.inl (by simp)) _) (.inl (by simp)) _) (.inl (by simp)) _) (.inl (by simp)) _) (.inl (by simp)) _) (.inl (by simp)) _) (.inl (by simp)) _)
    obtain ⟨lo, hlo⟩ : ∃ n, n = w.heap.size + 1 + 1 := ⟨_, rfl⟩
    obtain ⟨hi, hhi⟩ : ∃ n, n = w2.heap.size := ⟨_, rfl⟩
    have HLO2 : Hid (w.heap.size + 1 + 1 ≤ lo) := Lib.hid (by omega)
    have HST0 : Hid (BoxO w lo hi s' B w3) := Lib.hid ⟨HB.out, HX.out, HZ.out, by rw [hlo, hhi]; exact HO.out, by rw [hhi]; exact HSZ.out⟩
    clear hlo hhi HO HSZ HB HX HZ
    have HST : Hid (BoxO w lo hi { s' with at' := nilSl, bl := nilSl } (be0 B) w4) := Lib.hid (HST0.out.put HLO2.out ho4 hx4 (fun W h => beO h))
    clear hw hx4 ho4 HST0 c31 f31 c32 f32 c33 f33 c34 f34 c35 f35 c36 f36 c37 f37 hw1 hw2 t1
    go_wp2_with fail
    go_loopw [33] (fun v wr => FrL w lo hi { s' with at' := nilSl, bl := nilSl } B v wr) (fun v _ => 2 - (intOf v).toNat)
    case atStart => exact ⟨0, by omega, rfl, HST.out⟩
    case round =>
      obtain ⟨p, hp, rfl, hst⟩ := hrel
      replace HST := Lib.hid hst
      clear hst
      by_cases hp2 : p < 2
      · have i1 : (0 : Int) ≤ (p : Int) := by omega
        have i2 : (p : Int) < 2 := by omega
        have HTH := Lib.hid (poolThere HST.out.box hp2)
        go_wp2_with (refine wpList_store_midL w.heap.size (1 + p * 14 + 1) #[.int .i64 0, .int .i64 0, .int .i64 0, .int .i64 0] rfl rfl HTH.out (by kernel_rfl) (by simp [Value.oneCell']) ?_)
        intro w5 hw0
        have hw := hw0.out
        have HX5 : Hid (Bx w5 w.heap.size { s' with at' := nilSl, bl := nilSl } ((frN B p).noPool p)) := Lib.hid (by rw [hw]; exact HST.out.box.pool hp2)
        have c10 := (HX5.out.seatc hp2).1
        have c13 := (HX5.out.seatc hp2).2
        have f10 := HX5.out.free (1 + p * 14 + 10)
        have f13 := HX5.out.free (1 + p * 14 + 13)
        have HS6 : Hid (BoxO w lo hi { s' with at' := nilSl, bl := nilSl } (frN B (p + 1)) ((w5.setCell ⟨w.heap.size, 1 + p * 14 + 10, none⟩ (.bool false)).setCell ⟨w.heap.size, 1 + p * 14 + 13, none⟩ (.int .i64 0))) := Lib.hid (by
          rw [frN_succ B hp2]
          exact HST.out.put HLO2.out (((by rw [hw]; exact Onl.setCells _ _ _ (Onl.refl _ _) (.inl (by simp)) : Onl [w.heap.size] wr w5).setCell (.inl (by simp)) _).setCell (.inl (by simp)) _) (by rw [hw]; exact HST.out.box.fresh hp2) (fun W h => freshO h hp2))
        clear hw hw0 HTH hp2
        go_wp2_with fail
        go_roundw
        case rel => exact ⟨p + 1, by omega, by go_num, HS6.out⟩
        case measure => simp [intOf]; omega
      · obtain rfl : p = 2 := by omega
        have HBD := Lib.hid (nxA_bd HAC.out)
        have c34 : wr.cell? ⟨w.heap.size, 34, none⟩ = some (.int .i64 (nxA B)) := HST.out.box.cell 34
        go_wp2_with fail
        with_reducible refine (everyUn w.heap.size { s' with at' := nilSl, bl := nilSl } (be1 B) (nxA B) (nxA B).toNat lo hi _ HST.out.box HST.out.own (.inl (by have := HLO2.out; omega)) HST.out.hi HBD.out.2 HBD.out.1).mono ?_
        rintro e w6 ⟨rfl, hx6, ho6, hr6⟩
        replace HST : Hid (BoxO w lo hi { s' with at' := nilSl, bl := nilSl } (beB B) w6) := Lib.hid (HST.out.ev HLO2.out hr6 hx6 ho6)
        clear hx6 ho6 hr6 c34
        have HX : Hid (Bx w6 w.heap.size { s' with at' := nilSl, bl := nilSl } (beB B)) := Lib.hid HST.out.box
        have HZ := Lib.hid HST.out.res
        have HB := Lib.hid HST.out.below
        go_upto_region 19 with fail
        go_wp2_with (first | (refine wpList_load_bx _ rfl rfl HX.out (by kernel_rfl) ?_) | (refine wpList_store_bh (s := { s' with at' := nilSl, bl := nilSl }) (B := beB B) rfl _ _ rfl rfl rfl HZ.out rfl ?_; intro w9 hw9))
        have hg9 : Bx w9 (w.heap.size + 1) { s' with at' := nilSl, bl := nilSl } (beB B) := by rw [hw9.out]; exact Bx.row HZ.out _ _
        have ho9 : Onl [w.heap.size + 1] w6 w9 := by rw [hw9.out]; exact Onl.setRow (Onl.refl _ _) (.inl (by simp)) _
        have hb9 : Below w.heap.size w w9 := belowOnl HB.out ho9 (by simp) HB.out.size
        have HG9 := Lib.hid hg9
        have HPOST : Hid (BrA w (beB B) (.int .i64 0) (.returned (.tuple #[bv { s' with at' := nilSl, bl := nilSl } (beB B), .int .i64 0])) w9) := Lib.hid ⟨_, rfl, (HST.out.own.keep (fun k a _ => ho9.block k (by have := HST.out.hi; omega) (by have := HLO2.out; simp; omega))).mono (by have := HLO2.out; omega) (Nat.le_trans HST.out.hi ho9.size), hb9⟩
        clear hw9 hg9 ho9 hb9
        go_wp2_with fail
        exact bodyPost_ret (v := .tuple #[bv { s' with at' := nilSl, bl := nilSl } (beB B), .int .i64 0]) (results_b1 Tryd.results21 _ _ HG9.out rfl rfl) rfl HPOST.out
end Go.Proofs.YtkkpckkkcclhhaaDoor
