/- The beginning of a turn, by the reference. -/
import Derived.Test.YtkkpckkkcclhhaaDoorBTe
import Derived.Deep.DeepCutAuto
import Derived.LoopTactic
import Derived.Deep.MidRow
namespace Go.Proofs.YtkkpckkkcclhhaaDoor
open Go.RowKit Plain
set_option linter.unusedVariables false
set_option linter.unusedSimpArgs false

set_option maxRecDepth 100000 in
set_option maxHeartbeats 4000000 in
theorem rbegin_end (s : Bs) (B : Bd) (w : World) (h1 : B.tu = 1000) : Calls Tryd.prog 23 #[bv s B] w (BrA w zeroB (.int .i64 3)) := by
  have t0 : decide (B.tu ≥ 1000) = true := decide_eq_true (by omega)
  clear h1
  go_enter Tryd.func23, Tryd.ntmps23
  go_upto_region 1 with fail
  change Code.wp Tryd.prog _ _ _ ((w.alloc (.cells (bcells s B) 39)).alloc (.cells (bcells nilS zeroB) 39))
  obtain ⟨wz, hwz⟩ : ∃ W, W = (w.alloc (.cells (bcells s B) 39)).alloc (.cells (bcells nilS zeroB) 39) := ⟨_, rfl⟩
  have hsz : wz.heap.size = w.heap.size + 1 + 1 := by rw [hwz]; simp
  have b1 : Below w.heap.size w (w.alloc (.cells (bcells s B) 39)) := (Below.refl _ _).alloc (Nat.le_refl _) _
  have b2 : Below (w.alloc (.cells (bcells s B) 39)).heap.size (w.alloc (.cells (bcells s B) 39)) wz := by rw [hwz]; exact (Below.refl _ _).alloc (Nat.le_refl _) _
  have HX : Hid (Bx wz w.heap.size s B) := Lib.hid (Bx.below (w := w.alloc (.cells (bcells s B) 39)) (heap_alloc_new _ _) b2)
  have HZ : Hid (Bx wz (w.heap.size + 1) nilS zeroB) := Lib.hid (by rw [hwz, show w.heap.size + 1 = (w.alloc (.cells (bcells s B) 39)).heap.size by simp]; exact heap_alloc_new _ _)
  have HB : Hid (Below w.heap.size w wz) := Lib.hid (below_via b1 b2)
  rw [← hwz]
  clear hwz b1 b2
  clear hsz
  have c33 : wz.cell? ⟨w.heap.size, 33, none⟩ = some (.int .i64 B.tu) := HX.out.cell 33
  go_upto_region 2 with fail
  clear c33 t0
  go_wp2_with (first | (refine wpList_store_bh (s := nilS) (B := zeroB) rfl _ _ rfl rfl rfl HZ.out rfl ?_; intro w9 hw9))
  have hg9 : Bx w9 (w.heap.size + 1) nilS (zeroB) := by rw [hw9.out]; exact Bx.row HZ.out _ _
  have ho9 : Onl [w.heap.size + 1] wz w9 := by rw [hw9.out]; exact Onl.setRow (Onl.refl _ _) (.inl (by simp)) _
  have hb9 : Below w.heap.size w w9 := belowOnl HB.out ho9 (by simp) HB.out.size
  have HG9 := Lib.hid hg9
  have HPOST : Hid (BrA w (zeroB) (.int .i64 3) (.returned (.tuple #[bv nilS (zeroB), .int .i64 3])) w9) := Lib.hid ⟨_, rfl, zeroOwn _ _ _, hb9⟩
  clear hw9 hg9 ho9 hb9
  go_wp2_with fail
  exact bodyPost_ret (v := .tuple #[bv nilS (zeroB), .int .i64 3]) (results_b1 Tryd.results23 _ _ HG9.out rfl rfl) rfl HPOST.out
theorem rg23_18 {P : Program} {B n : Nat} {w0 : World} {L : List (Nat × Nat × Value)} {E F : World → Prop} {id : Nat} {Q : Exit → Act → World → Prop} {a : Act} {w : World} {o0 o1 o2 o3 o4 o5 o6 o7 o8 o9 : Oper} (hm : P.follows .mixedOrders = true)
    (hB : (Region.noSelect [o0, o1, o2, o3, o4, o5, o6, o7, o8, o9].toArray && Scr.ok .any [o0, o1, o2, o3, o4, o5, o6, o7, o8, o9].toArray [1, 5, 7] [0, 2, 3, 4, 6, 9] (.free 0 (.free 2 (.free 6 (.read 1 (.free 3 (.free 4 (.read 5 (.read 7 (.altc 8 (.free 9 .done) .stop))))))))) true true [o0, o1, o2, o3, o4, o5, o6, o7, o8, o9].toArray.size (Array.replicate [o0, o1, o2, o3, o4, o5, o6, o7, o8, o9].toArray.size false)) = true)
    (k : Kept B w0 n L w) (he : E w) (hE : ∀ W W', E W → Below W.heap.size W W' → E W') (hf : F w) (hF : ∀ W W', F W → Below W.heap.size W W' → F W')
    (h : ∀ wk, Kept B w0 n L wk → E wk → F wk → wpQuiet P [o0, o1, o2, o3, o4, o5, o6, o7, o8, o9].toArray (fun _ => True) (fun a0 => wpQuiet P [o0, o1, o2, o3, o4, o5, o6, o7, o8, o9].toArray (fun w' => ∃ s : KX B w0 n L E, w' = s.val) (fun a1 => wpQuiet P [o0, o1, o2, o3, o4, o5, o6, o7, o8, o9].toArray (fun _ => True) (fun a2 => wpQuiet P [o0, o1, o2, o3, o4, o5, o6, o7, o8, o9].toArray (fun w' => ∃ s : KX B w0 n L E, w' = s.val) (fun a3 => ((∀ K4 : Act → World → Prop, (∀ a4 w4, wpQuiet P [o0, o1, o2, o3, o4, o5, o6, o7, o8, o9].toArray (fun _ => True) (fun a5 => Q .normal a5 w4) [o9] a4 → K4 a4 w4) → wpList P [o0, o1, o2, o3, o4, o5, o6, o7, o8, o9].toArray (fun e a4 w4 => e = .normal ∧ K4 a4 w4) [o8] a3 wk) ∧ True)) [o5, o7] a2) [o3, o4] a1) [o1] a0) [o0, o2, o6] a) : (Code.region id [o0, o1, o2, o3, o4, o5, o6, o7, o8, o9].toArray true).wp P Q a w := by
  have e1 : E w.drew := hE _ _ he ((Below.refl _ _).drew)
  have g := h _ k.drew e1 (hF _ _ hf ((Below.refl _ _).drew))
  exact wp_region_scr (U := (fun w' => ∃ s : KX B w0 n L E, w' = s.val)) (ops := [o0, o1, o2, o3, o4, o5, o6, o7, o8, o9].toArray) (.free 0 (.free 2 (.free 6 (.read 1 (.free 3 (.free 4 (.read 5 (.read 7 (.altc 8 (.free 9 .done) .stop))))))))) [1, 5, 7] [0, 2, 3, 4, 6, 9] hm hB ⟨⟨_, k.drew, e1⟩, rfl⟩ (Scr.of_free rfl g (fun _ g0 => Scr.of_free rfl g0 (fun _ g1 => Scr.of_free rfl g1 (fun _ g2 => Scr.of_read rfl g2 (fun _ g3 => Scr.of_free rfl g3 (fun _ g4 => Scr.of_free rfl g4 (fun _ g5 => Scr.of_read rfl g5 (fun _ g6 => Scr.of_read rfl g6 (fun _ g7 => (Scr.of_altc rfl (g7.1 _ (fun _ _ g => g)) (fun _ _ g8 => Scr.of_free rfl g8 (fun _ g9 => g9)) trivial))))))))))
theorem rg23_19 {P : Program} {B n : Nat} {w0 : World} {L : List (Nat × Nat × Value)} {E F : World → Prop} {id : Nat} {Q : Exit → Act → World → Prop} {a : Act} {w : World} {o0 o1 o2 o3 o4 o5 o6 : Oper} (hm : P.follows .mixedOrders = true)
    (hB : (Region.noSelect [o0, o1, o2, o3, o4, o5, o6].toArray && Scr.ok .any [o0, o1, o2, o3, o4, o5, o6].toArray [1, 3] [0, 2, 5] (.free 0 (.free 2 (.read 1 (.read 3 (.alt 4 (.free 5 (.altc 6 .done .stop)) .stop))))) true true [o0, o1, o2, o3, o4, o5, o6].toArray.size (Array.replicate [o0, o1, o2, o3, o4, o5, o6].toArray.size false)) = true)
    (k : Kept B w0 n L w) (he : E w) (hE : ∀ W W', E W → Below W.heap.size W W' → E W') (hf : F w) (hF : ∀ W W', F W → Below W.heap.size W W' → F W')
    (h : ∀ wk, Kept B w0 n L wk → E wk → F wk → wpQuiet P [o0, o1, o2, o3, o4, o5, o6].toArray (fun _ => True) (fun a0 => wpQuiet P [o0, o1, o2, o3, o4, o5, o6].toArray (fun w' => ∃ s : KX B w0 n L E, w' = s.val) (fun a1 => ((∀ K2 : Act → World → Prop, (∀ a2 w2, wpQuiet P [o0, o1, o2, o3, o4, o5, o6].toArray (fun _ => True) (fun a3 => ((∀ K4 : Act → World → Prop, (∀ a4 w4, Q .normal a4 w4 → K4 a4 w4) → wpList P [o0, o1, o2, o3, o4, o5, o6].toArray (fun e a4 w4 => e = .normal ∧ K4 a4 w4) [o6] a3 w2) ∧ True)) [o5] a2 → K2 a2 w2) → wpList P [o0, o1, o2, o3, o4, o5, o6].toArray (fun e a2 w2 => e = .normal ∧ (∃ s : KX B w0 n L E, w2 = s.val) ∧ K2 a2 w2) [o4] a1 wk) ∧ True)) [o1, o3] a0) [o0, o2] a) : (Code.region id [o0, o1, o2, o3, o4, o5, o6].toArray true).wp P Q a w := by
  have e1 : E w.drew := hE _ _ he ((Below.refl _ _).drew)
  have g := h _ k.drew e1 (hF _ _ hf ((Below.refl _ _).drew))
  exact wp_region_scr (U := (fun w' => ∃ s : KX B w0 n L E, w' = s.val)) (ops := [o0, o1, o2, o3, o4, o5, o6].toArray) (.free 0 (.free 2 (.read 1 (.read 3 (.alt 4 (.free 5 (.altc 6 .done .stop)) .stop))))) [1, 3] [0, 2, 5] hm hB ⟨⟨_, k.drew, e1⟩, rfl⟩ (Scr.of_free rfl g (fun _ g0 => Scr.of_free rfl g0 (fun _ g1 => Scr.of_read rfl g1 (fun _ g2 => Scr.of_read rfl g2 (fun _ g3 => (Scr.of_alt rfl (g3.1 _ (fun _ _ g => g)) (fun _ _ g4 => Scr.of_free rfl g4 (fun _ g5 => (Scr.of_altc rfl (g5.1 _ (fun _ _ g => g)) (fun _ _ g6 => g6) trivial))) trivial))))))
set_option maxRecDepth 100000 in
set_option maxHeartbeats 4000000 in
theorem rbegin_ok (s : Bs) (B : Bd) (w : World) (h : BdR w s B) (hk : B.Ok) (hv : VB B) (h1 : ¬ B.tu = 1000) : Calls Tryd.prog 23 #[bv s B] w (BrA w (beB B) (.int .i64 0)) := by
  have hn := hv.num
  unfold vNum at hn
  have t0 : decide (B.tu ≥ 1000) = false := decide_eq_false (by omega)
  have HAC : Hid (0 ≤ B.ac ∧ B.ac ≤ 1) := Lib.hid hn.1
  have hw1 : wrap64 (1 - B.ac) = 1 - B.ac := by unfold wrap64; omega
  have hw2 : wrap64 (B.tu + 1) = B.tu + 1 := by unfold wrap64; omega
  have HND : Hid (∀ q, ((be1 B).seat q).fld.Nodup) := Lib.hid (fun q => by
    have e : ((be1 B).seat q).fld = (B.seat q).fld := by unfold be1 Plain.Bd.fresh be0 Plain.Bd.seat Plain.Se.fresh Plain.Se.noPool; split <;> rfl
    rw [e]; exact hv.plc.fld_nd q)
  clear h1 hn hv
  have HR := Lib.hid h
  have HK := Lib.hid hk
  clear h hk
  go_enter Tryd.func23, Tryd.ntmps23
  go_upto_region 1 with fail
  change Code.wp Tryd.prog _ _ _ ((w.alloc (.cells (bcells s B) 39)).alloc (.cells (bcells nilS zeroB) 39))
  obtain ⟨wz, hwz⟩ : ∃ W, W = (w.alloc (.cells (bcells s B) 39)).alloc (.cells (bcells nilS zeroB) 39) := ⟨_, rfl⟩
  have hsz : wz.heap.size = w.heap.size + 1 + 1 := by rw [hwz]; simp
  have b1 : Below w.heap.size w (w.alloc (.cells (bcells s B) 39)) := (Below.refl _ _).alloc (Nat.le_refl _) _
  have b2 : Below (w.alloc (.cells (bcells s B) 39)).heap.size (w.alloc (.cells (bcells s B) 39)) wz := by rw [hwz]; exact (Below.refl _ _).alloc (Nat.le_refl _) _
  have HX : Hid (Bx wz w.heap.size s B) := Lib.hid (Bx.below (w := w.alloc (.cells (bcells s B) 39)) (heap_alloc_new _ _) b2)
  have HZ : Hid (Bx wz (w.heap.size + 1) nilS zeroB) := Lib.hid (by rw [hwz, show w.heap.size + 1 = (w.alloc (.cells (bcells s B) 39)).heap.size by simp]; exact heap_alloc_new _ _)
  have HB : Hid (Below w.heap.size w wz) := Lib.hid (below_via b1 b2)
  rw [← hwz]
  clear hwz b1 b2
  have hsz2 : w.heap.size + 1 + 1 ≤ wz.heap.size := by omega
  clear hsz
  have c33 : wz.cell? ⟨w.heap.size, 33, none⟩ = some (.int .i64 B.tu) := HX.out.cell 33
  go_upto_region 3 with fail
  clear c33 t0
  go_wp2_with (refine wpList_load_bx _ rfl rfl HX.out (by kernel_rfl) ?_)
  with_reducible refine (rcopy s B _ (HR.out.below HB.out) HK.out.sm ⟨HK.out.st, HK.out.qu⟩).mono ?_
  rintro e w2 ⟨s', rfl, ho, hb⟩
  have HLO : Hid (w.heap.size + 1 + 1 ≤ wz.heap.size) := Lib.hid (by have := HZ.out.lt; omega)
  have HO0 := Lib.hid ho
  replace HX := Lib.hid (HX.out.below hb)
  replace HZ := Lib.hid (HZ.out.below hb)
  replace HB := Lib.hid (below_via HB.out hb)
  clear hb ho
  go_wp2_with (refine wpList_store_bh rfl _ _ rfl rfl rfl HX.out rfl ?_)
  intro w3 hw0
  have hw := hw0.out
  have hon : Onl [w.heap.size] w2 w3 := by rw [hw]; exact Onl.setRow (Onl.refl _ _) (.inl (by simp)) _
  replace HX : Hid (Bx w3 w.heap.size s' B) := Lib.hid (by rw [hw]; exact Bx.row HX.out s' B)
  have HO : Hid (BdO (w.heap.size + 1 + 1) w2.heap.size w3 s' B) := Lib.hid ((HO0.out.mono HLO.out (Nat.le_refl _)).keep (fun k a b => hon.block k b (by simp; omega)))
  replace HZ := Lib.hid (HZ.out.onl hon (by simp))
  replace HB := Lib.hid (belowOnl HB.out hon (by simp) HB.out.size)
  have HSZ : Hid (w2.heap.size ≤ w3.heap.size) := Lib.hid hon.size
  clear hw hw0 hon HO0
  clear hsz2
  by_cases hT : B.tu = 0
  · have t1 : (B.tu == 0) = true := by simp [hT]
    have HT := Lib.hid hT
    clear hT
    have c31 : w3.cell? ⟨w.heap.size, 31, none⟩ = some (.slice s'.at'.a s'.at'.n s'.at'.c) := HX.out.cell 31
    have f31 := HX.out.free 31
    have c32 : w3.cell? ⟨w.heap.size, 32, none⟩ = some (.slice s'.bl.a s'.bl.n s'.bl.c) := HX.out.cell 32
    have f32 := HX.out.free 32
    have c33 : w3.cell? ⟨w.heap.size, 33, none⟩ = some (.int .i64 B.tu) := HX.out.cell 33
    have f33 := HX.out.free 33
    have c34 : w3.cell? ⟨w.heap.size, 34, none⟩ = some (.int .i64 B.ac) := HX.out.cell 34
    have f34 := HX.out.free 34
    have c35 : w3.cell? ⟨w.heap.size, 35, none⟩ = some (.int .i64 B.ph) := HX.out.cell 35
    have f35 := HX.out.free 35
    have c36 : w3.cell? ⟨w.heap.size, 36, none⟩ = some (.int .i64 B.ho) := HX.out.cell 36
    have f36 := HX.out.free 36
    have c37 : w3.cell? ⟨w.heap.size, 37, none⟩ = some (.int .i64 B.pa) := HX.out.cell 37
    have f37 := HX.out.free 37
    go_upto_region 9 with fail
    obtain ⟨w4, hw⟩ : ∃ X, X = (((((((w3.setCell ⟨w.heap.size, 34, none⟩ (.int .i64 0)).setCell ⟨w.heap.size, 33, none⟩ (.int .i64 (B.tu + 1))).setCell ⟨w.heap.size, 35, none⟩ (.int .i64 1)).setCell ⟨w.heap.size, 31, none⟩ (.slice none 0 0)).setCell ⟨w.heap.size, 32, none⟩ (.slice none 0 0)).setCell ⟨w.heap.size, 36, none⟩ (.int .i64 (-1))).setCell ⟨w.heap.size, 37, none⟩ (.int .i64 0)) := ⟨_, rfl⟩
    rw [← hw]
    have hx4 : Bx w4 w.heap.size { s' with at' := nilSl, bl := nilSl } (be0 B) := by rw [hw, be0_zero HT.out]; exact Bx.ro (w := w3) (hset (hset (hset (hset (hset (hset (hset HX.out 34 (.int .i64 0)) 33 (.int .i64 (B.tu + 1))) 35 (.int .i64 1)) 31 (.slice none 0 0)) 32 (.slice none 0 0)) 36 (.int .i64 (-1))) 37 (.int .i64 0)) (by simp [bcells, nilSl, Sl.v])
    have ho4 : Onl [w.heap.size] w3 w4 := by rw [hw]; exact (Onl.setCell (Onl.setCell (Onl.setCell (Onl.setCell (Onl.setCell (Onl.setCell (Onl.setCell (Onl.refl _ _) (.inl (by simp)) _) (.inl (by simp)) _) (.inl (by simp)) _) (.inl (by simp)) _) (.inl (by simp)) _) (.inl (by simp)) _) (.inl (by simp)) _)
    obtain ⟨lo, hlo⟩ : ∃ n, n = w.heap.size + 1 + 1 := ⟨_, rfl⟩
    obtain ⟨hi, hhi⟩ : ∃ n, n = w2.heap.size := ⟨_, rfl⟩
    have HLO2 : Hid (w.heap.size + 1 + 1 ≤ lo) := Lib.hid (by omega)
    have HST0 : Hid (BoxO w lo hi s' B w3) := Lib.hid ⟨HB.out, HX.out, HZ.out, by rw [hlo, hhi]; exact HO.out, by rw [hhi]; exact HSZ.out⟩
    clear hlo hhi HO HSZ HB HX HZ
    have HST : Hid (BoxO w lo hi { s' with at' := nilSl, bl := nilSl } (be0 B) w4) := Lib.hid (HST0.out.put HLO2.out ho4 hx4 (fun W h => beO h))
    clear hw hx4 ho4 HST0 c31 f31 c32 f32 c33 f33 c34 f34 c35 f35 c36 f36 c37 f37 hw1 hw2 t1
    go_wp2_with fail
    go_loopw [4] (fun v wr => FrL w lo hi { s' with at' := nilSl, bl := nilSl } B v wr) (fun v _ => 2 - (intOf v).toNat)
    case atStart => exact ⟨0, by omega, rfl, HST.out⟩
    case round =>
      obtain ⟨p, hp, rfl, hst⟩ := hrel
      replace HST := Lib.hid hst
      clear hst
      by_cases hp2 : p < 2
      · have i1 : (0 : Int) ≤ (p : Int) := by omega
        have i2 : (p : Int) < 2 := by omega
        have HTH := Lib.hid (poolThere HST.out.box hp2)
        go_wp2_with (refine wpList_store_midL w.heap.size (1 + p * 14 + 1) #[.int .i64 0, .int .i64 0, .int .i64 0, .int .i64 0] rfl rfl HTH.out (by kernel_rfl) (by simp [Value.oneCell']) ?_)
        intro w5 hw0
        have hw := hw0.out
        have HX5 : Hid (Bx w5 w.heap.size { s' with at' := nilSl, bl := nilSl } ((frN B p).noPool p)) := Lib.hid (by rw [hw]; exact HST.out.box.pool hp2)
        have c10 := (HX5.out.seatc hp2).1
        have c13 := (HX5.out.seatc hp2).2
        have f10 := HX5.out.free (1 + p * 14 + 10)
        have f13 := HX5.out.free (1 + p * 14 + 13)
        have HS6 : Hid (BoxO w lo hi { s' with at' := nilSl, bl := nilSl } (frN B (p + 1)) ((w5.setCell ⟨w.heap.size, 1 + p * 14 + 10, none⟩ (.bool false)).setCell ⟨w.heap.size, 1 + p * 14 + 13, none⟩ (.int .i64 0))) := Lib.hid (by
          rw [frN_succ B hp2]
          exact HST.out.put HLO2.out (((by rw [hw]; exact Onl.setCells _ _ _ (Onl.refl _ _) (.inl (by simp)) : Onl [w.heap.size] wr w5).setCell (.inl (by simp)) _).setCell (.inl (by simp)) _) (by rw [hw]; exact HST.out.box.fresh hp2) (fun W h => freshO h hp2))
        clear hw hw0 HTH hp2
        go_wp2_with fail
        go_roundw
        case rel => exact ⟨p + 1, by omega, by go_num, HS6.out⟩
        case measure => simp [intOf]; omega
      · obtain rfl : p = 2 := by omega
        obtain ⟨q, hq⟩ : ∃ q : Nat, nxA B = q := ⟨(nxA B).toNat, (nxA_bd HAC.out).1⟩
        have hp2 : q < 2 := by have h := nxA_bd HAC.out; omega
        have HQ0 := Lib.hid hq
        have k1 : (0 : Int) ≤ (q : Int) := by omega
        have k2 : (q : Int) < 2 := by omega
        have HNDX : Hid (((be1 B).seat q).fld.Nodup) := Lib.hid (HND.out q)
        clear hq
        replace HST : Hid (BoxO w lo hi { s' with at' := nilSl, bl := nilSl } (be1 B) wr) := HST
        obtain ⟨wo, hwo⟩ : ∃ W, W = wr := ⟨_, rfl⟩
        rw [← hwo] at HST ⊢
        clear hwo
        obtain ⟨Y, hY⟩ : ∃ Y, Y = be1 B := ⟨_, rfl⟩
        rw [← hY] at HST
        have HNDY : Hid ((Y.seat q).fld.Nodup) := Lib.hid (by rw [hY]; exact HNDX.out)
        have HYE := Lib.hid hY
        clear hY HNDX
        obtain ⟨oa, oc', hvo⟩ := HST.out.own.ob.1.form
        have HC0 : Hid (∀ W, Bx W w.heap.size { s' with at' := nilSl, bl := nilSl } Y → W.cell? ⟨w.heap.size, 0, none⟩ = some (.slice oa Y.ob.length oc')) := Lib.hid (fun W h => by rw [h.cell 0, ← hvo]; rfl)
        have HOV : Hid (({ s' with at' := nilSl, bl := nilSl } : Bs).ob.v = .slice oa Y.ob.length oc') := Lib.hid hvo
        obtain ⟨⟨fa, fn, fc⟩, hfz⟩ : ∃ qz, ({ s' with at' := nilSl, bl := nilSl } : Bs).zl q 2 = qz := ⟨_, rfl⟩
        have HC7 : Hid (∀ W, Bx W w.heap.size { s' with at' := nilSl, bl := nilSl } Y → W.cell? ⟨w.heap.size, 1 + q * 14 + 7, none⟩ = some (.slice fa fn fc)) := Lib.hid (fun W h => by
          have h1 := h.zone (p := q) (z := 2) hp2 (by omega)
          rw [hfz] at h1
          exact h1)
        have HFR : Hid (∀ (W : World) {l : List Ob}, BoxO w lo hi { s' with at' := nilSl, bl := nilSl } { Y with ob := l } W → Rw ic 1 W (.slice fa fn fc) (Y.seat q).fld) := Lib.hid (fun W l h => by
          have h1 := h.own.rd.zone q 2
          rw [hfz] at h1
          exact h1)
        have hom : Y.ob.length ≤ 9223372036854775807 := by have := HST.out.own.ob.1.max; unfold maxLen at this; omega
        have HS0 : Hid (BoxO w lo hi { s' with at' := nilSl, bl := nilSl } { Y with ob := mapTo (onF (Y.seat q).fld unO) 0 Y.ob } wo) := Lib.hid (by rw [mapTo_zero]; exact HST.out)
        clear hvo hfz
        go_wp2_with fail
        go_loopw [6] (fun i wr => EvR w lo hi { s' with at' := nilSl, bl := nilSl } Y (onF (Y.seat q).fld unO) i wr) (fun i _ => Y.ob.length - (intOf i).toNat)
        case atStart => exact ⟨0, by omega, rfl, HS0.out⟩
        case round =>
          obtain ⟨k, hk, rfl, hst⟩ := hrel
          replace HST := Lib.hid hst
          clear hst HS0
          by_cases hkl : k < Y.ob.length
          · obtain ⟨x, hx⟩ : ∃ x, Y.ob[k]? = some x := ⟨_, List.getElem?_eq_getElem hkl⟩
            have hlen : (mapTo (onF (Y.seat q).fld unO) k Y.ob).length = Y.ob.length := mapTo_length _ _ _ hk
            obtain ⟨g0, cap, hv, hg1, hg2, hg3⟩ := HST.out.own.ob.pos (by show 0 < (mapTo _ _ _).length; omega)
            have hv2 := HOV.out
            change ({ s' with at' := nilSl, bl := nilSl } : Bs).ob.v = .slice _ (mapTo (onF (Y.seat q).fld unO) k Y.ob).length _ at hv
            rw [hlen, hv2] at hv
            simp only [Value.slice.injEq, true_and] at hv
            obtain ⟨rfl, rfl⟩ := hv
            have hxm : (mapTo (onF (Y.seat q).fld unO) k Y.ob)[k]? = some x := by rw [mapTo_get _ _ _ hk]; exact hx
            have HOB : Hid (∀ W, BoxO w lo hi { s' with at' := nilSl, bl := nilSl } { Y with ob := mapTo (onF (Y.seat q).fld unO) k Y.ob } W → Ox oc 12 57 lo hi W (.slice (some ⟨g0, 0, none⟩) Y.ob.length oc') (mapTo (onF (Y.seat q).fld unO) k Y.ob)) := Lib.hid (fun W h => by rw [← HOV.out]; exact h.own.ob)
            have hd : ∀ (j : Nat) (u : Value), (oc x)[j]? = some u → wr.cell? ⟨g0, k * 12 + j, none⟩ = some u := fun j u hu => ((HOB.out _ HST.out).at oc_len hxm hu (k * 12 + j) rfl).1
            have d0 : wr.cell? ⟨g0, k * 12, none⟩ = some (.int .i64 x.id) := hd 0 _ rfl
            have d1 : wr.cell? ⟨g0, k * 12 + 1, none⟩ = some (.int .i64 x.cd) := hd 1 _ rfl
            have d2 : wr.cell? ⟨g0, k * 12 + 2, none⟩ = some (.int .i64 x.ow) := hd 2 _ rfl
            have d3 : wr.cell? ⟨g0, k * 12 + 3, none⟩ = some (.int .i64 x.po) := hd 3 _ rfl
            have d4 : wr.cell? ⟨g0, k * 12 + 4, none⟩ = some (.int .i64 x.tg) := hd 4 _ rfl
            have d5 : wr.cell? ⟨g0, k * 12 + 5, none⟩ = some (.int .i64 x.da) := hd 5 _ rfl
            have d6 : wr.cell? ⟨g0, k * 12 + 6, none⟩ = some (.int .i64 x.co) := hd 6 _ rfl
            have d7 : wr.cell? ⟨g0, k * 12 + 7, none⟩ = some (.int .i64 x.pp) := hd 7 _ rfl
            have d8 : wr.cell? ⟨g0, k * 12 + 8, none⟩ = some (.int .i64 x.pt) := hd 8 _ rfl
            have d9 : wr.cell? ⟨g0, k * 12 + 9, none⟩ = some (.bool x.ta) := hd 9 _ rfl
            have d10 : wr.cell? ⟨g0, k * 12 + 10, none⟩ = some (.bool x.si) := hd 10 _ rfl
            have d11 : wr.cell? ⟨g0, k * 12 + 11, none⟩ = some (.bool x.dm) := hd 11 _ rfl
            have i1 : (0 : Int) ≤ (k : Int) := by omega
            have i2 : (k : Int) < (Y.ob.length : Int) := by omega
            have e0 := HC0.out wr HST.out.box
            have HXS := Lib.hid hx
            have HGL := Lib.hid hg1
            have HGH := Lib.hid hg2
            clear hlen hv2 hxm hx hd hg1 hg2 hg3
            go_upto_region 18 with fail
            obtain ⟨wq, hwq⟩ : ∃ W, W = wr.alloc (.cells #[.int .i64 x.id, .int .i64 x.cd, .int .i64 x.ow, .int .i64 x.po, .int .i64 x.tg, .int .i64 x.da, .int .i64 x.co, .int .i64 x.pp, .int .i64 x.pt, .bool x.ta, .bool x.si, .bool x.dm] 57) := ⟨_, rfl⟩
            rw [← hwq]
            have hqb : Below wr.heap.size wr wq := by rw [hwq]; exact (Below.refl _ _).alloc (Nat.le_refl _) _
            have hqr : Ro wq wr.heap.size #[.int .i64 x.id, .int .i64 x.cd, .int .i64 x.ow, .int .i64 x.po, .int .i64 x.tg, .int .i64 x.da, .int .i64 x.co, .int .i64 x.pp, .int .i64 x.pt, .bool x.ta, .bool x.si, .bool x.dm] 57 := by rw [hwq]; exact Ro.new _ _ _
            clear hwq d0 d1 d2 d3 d4 d5 d6 d7 d8 d9 d10 d11 e0
            obtain ⟨n0, hn0⟩ : ∃ n, n = wr.heap.size := ⟨_, rfl⟩
            rw [← hn0] at hqr ⊢
            have HQ := Lib.hid hqr
            replace HST := Lib.hid (HST.out.call hqb)
            have q0 : wq.cell? ⟨n0, 0, none⟩ = some (.int .i64 x.id) := HQ.out.cell 0
            have ef := HC7.out wq HST.out.box
            have pP := HST.out.box.lt
            have pn := hqr.lt
            have e34 : wq.cell? ⟨w.heap.size, 34, none⟩ = some (.int .i64 (q : Nat)) := by rw [HST.out.box.cell 34]; show some (Value.int .i64 Y.ac) = _; rw [HYE.out, ← HQ0.out]; rfl
            obtain ⟨c, hc⟩ : ∃ c, (Y.seat q).fld.count x.id = c := ⟨_, rfl⟩
            have HCC := Lib.hid hc
            clear hqr hn0 hqb hc
            by_cases h1 : c = 1
            · have t1 : (((Y.seat q).fld.count x.id : Nat) : Int) == 1 := by rw [HCC.out, h1]; rfl
              have t2 : ((Y.seat q).fld.count x.id == 1) = true := by rw [HCC.out, h1]; rfl
              have HS : Hid ((mapTo (onF (Y.seat q).fld unO) k Y.ob).set k (unO x) = mapTo (onF (Y.seat q).fld unO) (k + 1) Y.ob) := Lib.hid (by
                have hm : x.id ∈ (Y.seat q).fld := List.count_pos_iff.1 (by rw [HCC.out]; omega)
                rw [← mapTo_set _ _ _ _ HXS.out]; unfold onF; rw [if_pos hm])
              clear h1
              refine rg23_18 (w0 := wq) (B := wq.heap.size) (n := wq.heap.size) (L := []) (E := fun _ => True) (F := fun _ => True) (by kernel_rfl) (by kernel_rfl) ⟨by go_grown, by go_size, (by simp [go_sem] <;> omega)⟩ trivial (fun _ _ _ _ => trivial) trivial (fun _ _ _ _ => trivial) (fun w21 K_w21 E_w21 F_w21 => ?_)
              have _ne : Nonempty (KX (wq.heap.size) wq (wq.heap.size) [] (fun _ => True)) := ⟨⟨_, K_w21, E_w21⟩⟩
              repeat (go_big_quiet_step (fail))
              refine wpQuiet_nil ?_
              have rf : ∀ s : KX (wq.heap.size) wq (wq.heap.size) [] (fun _ => True), s.val.cell? ⟨w.heap.size, 1 + q * 14 + 7, none⟩ = some (.slice fa fn fc) := fun s => (s.kept.below.cell (p := ⟨w.heap.size, 1 + q * 14 + 7, none⟩) pP).trans ef
              have rn : ∀ s : KX (wq.heap.size) wq (wq.heap.size) [] (fun _ => True), s.val.cell? ⟨n0, 0, none⟩ = some (.int .i64 x.id) := fun s => (s.kept.below.cell (p := ⟨n0, 0, none⟩) pn).trans q0
              have rp : ∀ s : KX (wq.heap.size) wq (wq.heap.size) [] (fun _ => True), s.val.cell? ⟨w.heap.size, 34, none⟩ = some (.int .i64 (q : Nat)) := fun s => (s.kept.below.cell (p := ⟨w.heap.size, 34, none⟩) pP).trans e34
              repeat (go_big_quiet_step (fail))
              refine wpQuiet_nil ?_
              clear rf rn rp
              repeat (go_big_quiet_step (fail))
              refine wpQuiet_nil ?_
              have rf : ∀ s : KX (wq.heap.size) wq (wq.heap.size) [] (fun _ => True), s.val.cell? ⟨w.heap.size, 1 + q * 14 + 7, none⟩ = some (.slice fa fn fc) := fun s => (s.kept.below.cell (p := ⟨w.heap.size, 1 + q * 14 + 7, none⟩) pP).trans ef
              have rn : ∀ s : KX (wq.heap.size) wq (wq.heap.size) [] (fun _ => True), s.val.cell? ⟨n0, 0, none⟩ = some (.int .i64 x.id) := fun s => (s.kept.below.cell (p := ⟨n0, 0, none⟩) pn).trans q0
              have rp : ∀ s : KX (wq.heap.size) wq (wq.heap.size) [] (fun _ => True), s.val.cell? ⟨w.heap.size, 34, none⟩ = some (.int .i64 (q : Nat)) := fun s => (s.kept.below.cell (p := ⟨w.heap.size, 34, none⟩) pP).trans e34
              repeat (go_big_quiet_step (fail))
              refine wpQuiet_nil ?_
              clear rf rn rp
              have KH_w21 := Lib.hid K_w21
              have hw_w21 := K_w21.below
              have hz_w21 := K_w21.size
              clear K_w21
              clear E_w21 F_w21
              refine ⟨fun K hK0 => ?_, trivial⟩
              have hK := Lib.hid hK0
              clear hK0
              have hb := hw_w21
              clear hw_w21 hz_w21 KH_w21
              replace HST := Lib.hid (HST.out.call hb)
              replace HQ := Lib.hid (HQ.out.below hb)
              clear hb
              go_wp2_with fail
              with_reducible refine (countI _ (Y.seat q).fld x.id _ (HFR.out _ HST.out)).mono ?_
              rintro e w' ⟨rfl, rfl⟩
              go_wp2_with fail
              first | (refine ⟨rfl, hK.out _ _ ?_⟩; clear hK K) | (refine hK.out _ _ ?_; clear hK K)
              repeat (go_big_quiet_step (fail))
              refine wpQuiet_nil ?_
              clear _ne
              clear q0 ef pP pn e34 t1 t2
              go_upto_region 19 with fail
              have e0 := HC0.out w21 HST.out.box
              have pP := HST.out.box.lt
              have pn := HQ.out.lt
              have q0 : w21.cell? ⟨n0, 0, none⟩ = some (.int .i64 x.id) := HQ.out.cell 0
              have q1 : w21.cell? ⟨n0, 1, none⟩ = some (.int .i64 x.cd) := HQ.out.cell 1
              have q2 : w21.cell? ⟨n0, 2, none⟩ = some (.int .i64 x.ow) := HQ.out.cell 2
              have q3 : w21.cell? ⟨n0, 3, none⟩ = some (.int .i64 x.po) := HQ.out.cell 3
              have q4 : w21.cell? ⟨n0, 4, none⟩ = some (.int .i64 x.tg) := HQ.out.cell 4
              have q5 : w21.cell? ⟨n0, 5, none⟩ = some (.int .i64 x.da) := HQ.out.cell 5
              have q6 : w21.cell? ⟨n0, 6, none⟩ = some (.int .i64 x.co) := HQ.out.cell 6
              have q7 : w21.cell? ⟨n0, 7, none⟩ = some (.int .i64 x.pp) := HQ.out.cell 7
              have q8 : w21.cell? ⟨n0, 8, none⟩ = some (.int .i64 x.pt) := HQ.out.cell 8
              have q9 : w21.cell? ⟨n0, 9, none⟩ = some (.bool x.ta) := HQ.out.cell 9
              have q10 : w21.cell? ⟨n0, 10, none⟩ = some (.bool x.si) := HQ.out.cell 10
              have q11 : w21.cell? ⟨n0, 11, none⟩ = some (.bool x.dm) := HQ.out.cell 11
              refine rg23_19 (w0 := w21) (B := w21.heap.size) (n := w21.heap.size) (L := []) (E := fun _ => True) (F := fun _ => True) (by kernel_rfl) (by kernel_rfl) ⟨by go_grown, by go_size, (by simp [go_sem] <;> omega)⟩ trivial (fun _ _ _ _ => trivial) trivial (fun _ _ _ _ => trivial) (fun w31 K_w31 E_w31 F_w31 => ?_)
              have _ne : Nonempty (KX (w21.heap.size) w21 (w21.heap.size) [] (fun _ => True)) := ⟨⟨_, K_w31, E_w31⟩⟩
              repeat (go_big_quiet_step (fail))
              refine wpQuiet_nil ?_
              have ro : ∀ s : KX (w21.heap.size) w21 (w21.heap.size) [] (fun _ => True), s.val.cell? ⟨w.heap.size, 0, none⟩ = some (.slice (some ⟨g0, 0, none⟩) Y.ob.length oc') := fun s => (s.kept.below.cell (p := ⟨w.heap.size, 0, none⟩) pP).trans e0
              have r0 : ∀ s : KX (w21.heap.size) w21 (w21.heap.size) [] (fun _ => True), s.val.cell? ⟨n0, 0, none⟩ = some (.int .i64 x.id) := fun s => (s.kept.below.cell (p := ⟨n0, 0, none⟩) pn).trans q0
              have r1 : ∀ s : KX (w21.heap.size) w21 (w21.heap.size) [] (fun _ => True), s.val.cell? ⟨n0, 1, none⟩ = some (.int .i64 x.cd) := fun s => (s.kept.below.cell (p := ⟨n0, 1, none⟩) pn).trans q1
              have r2 : ∀ s : KX (w21.heap.size) w21 (w21.heap.size) [] (fun _ => True), s.val.cell? ⟨n0, 2, none⟩ = some (.int .i64 x.ow) := fun s => (s.kept.below.cell (p := ⟨n0, 2, none⟩) pn).trans q2
              have r3 : ∀ s : KX (w21.heap.size) w21 (w21.heap.size) [] (fun _ => True), s.val.cell? ⟨n0, 3, none⟩ = some (.int .i64 x.po) := fun s => (s.kept.below.cell (p := ⟨n0, 3, none⟩) pn).trans q3
              have r4 : ∀ s : KX (w21.heap.size) w21 (w21.heap.size) [] (fun _ => True), s.val.cell? ⟨n0, 4, none⟩ = some (.int .i64 x.tg) := fun s => (s.kept.below.cell (p := ⟨n0, 4, none⟩) pn).trans q4
              have r5 : ∀ s : KX (w21.heap.size) w21 (w21.heap.size) [] (fun _ => True), s.val.cell? ⟨n0, 5, none⟩ = some (.int .i64 x.da) := fun s => (s.kept.below.cell (p := ⟨n0, 5, none⟩) pn).trans q5
              have r6 : ∀ s : KX (w21.heap.size) w21 (w21.heap.size) [] (fun _ => True), s.val.cell? ⟨n0, 6, none⟩ = some (.int .i64 x.co) := fun s => (s.kept.below.cell (p := ⟨n0, 6, none⟩) pn).trans q6
              have r7 : ∀ s : KX (w21.heap.size) w21 (w21.heap.size) [] (fun _ => True), s.val.cell? ⟨n0, 7, none⟩ = some (.int .i64 x.pp) := fun s => (s.kept.below.cell (p := ⟨n0, 7, none⟩) pn).trans q7
              have r8 : ∀ s : KX (w21.heap.size) w21 (w21.heap.size) [] (fun _ => True), s.val.cell? ⟨n0, 8, none⟩ = some (.int .i64 x.pt) := fun s => (s.kept.below.cell (p := ⟨n0, 8, none⟩) pn).trans q8
              have r9 : ∀ s : KX (w21.heap.size) w21 (w21.heap.size) [] (fun _ => True), s.val.cell? ⟨n0, 9, none⟩ = some (.bool x.ta) := fun s => (s.kept.below.cell (p := ⟨n0, 9, none⟩) pn).trans q9
              have r10 : ∀ s : KX (w21.heap.size) w21 (w21.heap.size) [] (fun _ => True), s.val.cell? ⟨n0, 10, none⟩ = some (.bool x.si) := fun s => (s.kept.below.cell (p := ⟨n0, 10, none⟩) pn).trans q10
              have r11 : ∀ s : KX (w21.heap.size) w21 (w21.heap.size) [] (fun _ => True), s.val.cell? ⟨n0, 11, none⟩ = some (.bool x.dm) := fun s => (s.kept.below.cell (p := ⟨n0, 11, none⟩) pn).trans q11
              repeat (go_big_quiet_step (fail))
              refine wpQuiet_nil ?_
              clear ro r0 r1 r2 r3 r4 r5 r6 r7 r8 r9 r10 r11
              have KH_w31 := Lib.hid K_w31
              have hw_w31 := K_w31.below
              have hz_w31 := K_w31.size
              clear K_w31
              clear E_w31 F_w31
              refine ⟨fun K hK0 => ?_, trivial⟩
              have hK := Lib.hid hK0
              clear hK0
              have hb := hw_w31
              have HKK := KH_w31
              clear hw_w31 hz_w31 KH_w31
              replace HST := Lib.hid (HST.out.call hb)
              clear hb
              go_wp2_with fail
              with_reducible refine (runtap x _).mono ?_
              rintro e w32 ⟨rfl, hb⟩
              replace HKK := Lib.hid (Kept.step HKK.out (Nat.le_refl _) hb)
              replace HST := Lib.hid (HST.out.call hb)
              clear hb
              go_wp2_with fail
              first | (refine ⟨rfl, ⟨⟨_, HKK.out, trivial⟩, rfl⟩, hK.out _ _ ?_⟩; clear hK K) | (refine ⟨⟨⟨_, HKK.out, trivial⟩, rfl⟩, hK.out _ _ ?_⟩; clear hK K)
              repeat (go_big_quiet_step (fail))
              refine wpQuiet_nil ?_
              refine ⟨fun K hK0 => ?_, trivial⟩
              have hK := Lib.hid hK0
              clear hK0
              have HTH : Hid (w32.there g0 (k * 12) 12) := Lib.hid (fun j hj => by
                obtain ⟨u, hu⟩ : ∃ u, (oc x)[j]? = some u := ⟨_, List.getElem?_eq_getElem hj⟩
                have h := (HOB.out _ HST.out).at (i := k) (x := x) oc_len (by rw [mapTo_get (onF (Y.seat q).fld unO) k Y.ob hk]; exact HXS.out) hu (k * 12 + j) rfl
                exact ⟨by rw [h.1]; rfl, h.2⟩)
              go_wp2_with (refine wpList_store_mid rfl 57 _ _ rfl g0 (k * 12) #[.int .i64 (unO x).id, .int .i64 (unO x).cd, .int .i64 (unO x).ow, .int .i64 (unO x).po, .int .i64 (unO x).tg, .int .i64 (unO x).da, .int .i64 (unO x).co, .int .i64 (unO x).pp, .int .i64 (unO x).pt, .bool (unO x).ta, .bool (unO x).si, .bool (unO x).dm] rfl rfl HTH.out (by kernel_rfl) (by simp [Value.oneCell']) ?_)
              obtain ⟨w33, h33⟩ : ∃ W, W = w32.setCells g0 (k * 12) [.int .i64 (unO x).id, .int .i64 (unO x).cd, .int .i64 (unO x).ow, .int .i64 (unO x).po, .int .i64 (unO x).tg, .int .i64 (unO x).da, .int .i64 (unO x).co, .int .i64 (unO x).pp, .int .i64 (unO x).pt, .bool (unO x).ta, .bool (unO x).si, .bool (unO x).dm] := ⟨_, rfl⟩
              change K _ (w32.setCells g0 (k * 12) [.int .i64 (unO x).id, .int .i64 (unO x).cd, .int .i64 (unO x).ow, .int .i64 (unO x).po, .int .i64 (unO x).tg, .int .i64 (unO x).da, .int .i64 (unO x).co, .int .i64 (unO x).pp, .int .i64 (unO x).pt, .bool (unO x).ta, .bool (unO x).si, .bool (unO x).dm])
              rw [← h33]
              clear HTH
              first | (refine ⟨rfl, hK.out _ _ ?_⟩; clear hK K) | (refine hK.out _ _ ?_; clear hK K)
              clear _ne
              have HS33 : Hid (BoxO w lo hi { s' with at' := nilSl, bl := nilSl } { Y with ob := mapTo (onF (Y.seat q).fld unO) (k + 1) Y.ob } w33) := Lib.hid (by
                have ho2 : Onl [g0] w32 w33 := by rw [h33]; exact Onl.setCells _ _ _ (Onl.refl _ _) (.inl (by simp))
                have h1 := (HOB.out _ HST.out).setn (fun _ => rfl) (unO x) (i := k) (by rw [mapTo_length _ _ _ hk]; exact hkl) (k * 12) rfl _ rfl
                rw [HS.out, ← HOV.out] at h1
                have h2 := HST.out.own.setOb (g := g0) (by rw [HOV.out]; rfl) ho2 (by rw [h33]; exact h1)
                exact HST.out.ev HLO2.out (Rng.onl (S := [g0]) ho2 (by have h1 := HGL.out; have h2 := HGH.out; simp; omega)) (HST.out.box.onl ho2 (by have h1 := HGL.out; have h2 := HLO2.out; simp; omega)) h2)
              clear h33 e0 pP pn q0 q1 q2 q3 q4 q5 q6 q7 q8 q9 q10 q11
              go_wp2_with fail
              go_roundw
              case rel => exact ⟨k + 1, by omega, by go_num, HS33.out⟩
              case measure => simp [intOf]; omega
            · have t1 : ((((Y.seat q).fld.count x.id : Nat) : Int) == 1) = false := by rw [HCC.out]; exact beq_false_of_ne (by omega)
              have t2 : ((Y.seat q).fld.count x.id == 1) = false := by rw [HCC.out]; exact beq_false_of_ne h1
              have HS : Hid (mapTo (onF (Y.seat q).fld unO) (k + 1) Y.ob = mapTo (onF (Y.seat q).fld unO) k Y.ob) := Lib.hid (mapTo_same _ _ _ _ HXS.out (by
                have hm : x.id ∉ (Y.seat q).fld := fun hm => h1 (by rw [← HCC.out]; exact nodup_count.1 HNDY.out _ hm)
                unfold onF; rw [if_neg hm]))
              clear h1
              refine rg23_18 (w0 := wq) (B := wq.heap.size) (n := wq.heap.size) (L := []) (E := fun _ => True) (F := fun _ => True) (by kernel_rfl) (by kernel_rfl) ⟨by go_grown, by go_size, (by simp [go_sem] <;> omega)⟩ trivial (fun _ _ _ _ => trivial) trivial (fun _ _ _ _ => trivial) (fun w21 K_w21 E_w21 F_w21 => ?_)
              have _ne : Nonempty (KX (wq.heap.size) wq (wq.heap.size) [] (fun _ => True)) := ⟨⟨_, K_w21, E_w21⟩⟩
              repeat (go_big_quiet_step (fail))
              refine wpQuiet_nil ?_
              have rf : ∀ s : KX (wq.heap.size) wq (wq.heap.size) [] (fun _ => True), s.val.cell? ⟨w.heap.size, 1 + q * 14 + 7, none⟩ = some (.slice fa fn fc) := fun s => (s.kept.below.cell (p := ⟨w.heap.size, 1 + q * 14 + 7, none⟩) pP).trans ef
              have rn : ∀ s : KX (wq.heap.size) wq (wq.heap.size) [] (fun _ => True), s.val.cell? ⟨n0, 0, none⟩ = some (.int .i64 x.id) := fun s => (s.kept.below.cell (p := ⟨n0, 0, none⟩) pn).trans q0
              have rp : ∀ s : KX (wq.heap.size) wq (wq.heap.size) [] (fun _ => True), s.val.cell? ⟨w.heap.size, 34, none⟩ = some (.int .i64 (q : Nat)) := fun s => (s.kept.below.cell (p := ⟨w.heap.size, 34, none⟩) pP).trans e34
              repeat (go_big_quiet_step (fail))
              refine wpQuiet_nil ?_
              clear rf rn rp
              repeat (go_big_quiet_step (fail))
              refine wpQuiet_nil ?_
              have rf : ∀ s : KX (wq.heap.size) wq (wq.heap.size) [] (fun _ => True), s.val.cell? ⟨w.heap.size, 1 + q * 14 + 7, none⟩ = some (.slice fa fn fc) := fun s => (s.kept.below.cell (p := ⟨w.heap.size, 1 + q * 14 + 7, none⟩) pP).trans ef
              have rn : ∀ s : KX (wq.heap.size) wq (wq.heap.size) [] (fun _ => True), s.val.cell? ⟨n0, 0, none⟩ = some (.int .i64 x.id) := fun s => (s.kept.below.cell (p := ⟨n0, 0, none⟩) pn).trans q0
              have rp : ∀ s : KX (wq.heap.size) wq (wq.heap.size) [] (fun _ => True), s.val.cell? ⟨w.heap.size, 34, none⟩ = some (.int .i64 (q : Nat)) := fun s => (s.kept.below.cell (p := ⟨w.heap.size, 34, none⟩) pP).trans e34
              repeat (go_big_quiet_step (fail))
              refine wpQuiet_nil ?_
              clear rf rn rp
              have KH_w21 := Lib.hid K_w21
              have hw_w21 := K_w21.below
              have hz_w21 := K_w21.size
              clear K_w21
              clear E_w21 F_w21
              refine ⟨fun K hK0 => ?_, trivial⟩
              have hK := Lib.hid hK0
              clear hK0
              have hb := hw_w21
              clear hw_w21 hz_w21 KH_w21
              replace HST := Lib.hid (HST.out.call hb)
              replace HQ := Lib.hid (HQ.out.below hb)
              clear hb
              go_wp2_with fail
              with_reducible refine (countI _ (Y.seat q).fld x.id _ (HFR.out _ HST.out)).mono ?_
              rintro e w' ⟨rfl, rfl⟩
              go_wp2_with fail
              first | (refine ⟨rfl, hK.out _ _ ?_⟩; clear hK K) | (refine hK.out _ _ ?_; clear hK K)
              repeat (go_big_quiet_step (fail))
              refine wpQuiet_nil ?_
              clear _ne
              clear q0 ef pP pn e34
              go_wp2_with fail
              go_roundw
              case rel => exact ⟨k + 1, by omega, by go_num, by rw [HS.out]; exact HST.out⟩
              case measure => simp [intOf]; omega
          · have hke : k = Y.ob.length := by omega
            have HSD : Hid (BoxO w lo hi { s' with at' := nilSl, bl := nilSl } (Y.every q unO) wr) := Lib.hid (by have h := HST.out; rw [hke, mapTo_all] at h; exact h)
            have e0 := HC0.out wr HST.out.box
            clear hke HST
            have HST : Hid (BoxO w lo hi { s' with at' := nilSl, bl := nilSl } (beB B) wr) := Lib.hid (by
              have h := HSD.out
              rw [HYE.out] at h
              have e : beB B = (be1 B).every q unO := by unfold beB; rw [HQ0.out]; rfl
              rw [e]; exact h)
            have HX : Hid (Bx wr w.heap.size { s' with at' := nilSl, bl := nilSl } (beB B)) := Lib.hid HST.out.box
            have HZ := Lib.hid HST.out.res
            have HB := Lib.hid HST.out.below
            go_upto_region 20 with fail
            go_wp2_with (first | (refine wpList_load_bx _ rfl rfl HX.out (by kernel_rfl) ?_) | (refine wpList_store_bh (s := { s' with at' := nilSl, bl := nilSl }) (B := beB B) rfl _ _ rfl rfl rfl HZ.out rfl ?_; intro w9 hw9))
            have hg9 : Bx w9 (w.heap.size + 1) { s' with at' := nilSl, bl := nilSl } (beB B) := by rw [hw9.out]; exact Bx.row HZ.out _ _
            have ho9 : Onl [w.heap.size + 1] wr w9 := by rw [hw9.out]; exact Onl.setRow (Onl.refl _ _) (.inl (by simp)) _
            have hb9 : Below w.heap.size w w9 := belowOnl HB.out ho9 (by simp) HB.out.size
            have HG9 := Lib.hid hg9
            have HPOST : Hid (BrA w (beB B) (.int .i64 0) (.returned (.tuple #[bv { s' with at' := nilSl, bl := nilSl } (beB B), .int .i64 0])) w9) := Lib.hid ⟨_, rfl, (HST.out.own.keep (fun k a _ => ho9.block k (by have := HST.out.hi; omega) (by have := HLO2.out; simp; omega))).mono (by have := HLO2.out; omega) (Nat.le_trans HST.out.hi ho9.size), hb9⟩
            clear hw9 hg9 ho9 hb9
            go_wp2_with fail
            exact bodyPost_ret (v := .tuple #[bv { s' with at' := nilSl, bl := nilSl } (beB B), .int .i64 0]) (results_b1 Tryd.results23 _ _ HG9.out rfl rfl) rfl HPOST.out
  · have t1 : (B.tu == 0) = false := by simp [hT]
    have HT := Lib.hid hT
    clear hT
    have c31 : w3.cell? ⟨w.heap.size, 31, none⟩ = some (.slice s'.at'.a s'.at'.n s'.at'.c) := HX.out.cell 31
    have f31 := HX.out.free 31
    have c32 : w3.cell? ⟨w.heap.size, 32, none⟩ = some (.slice s'.bl.a s'.bl.n s'.bl.c) := HX.out.cell 32
    have f32 := HX.out.free 32
    have c33 : w3.cell? ⟨w.heap.size, 33, none⟩ = some (.int .i64 B.tu) := HX.out.cell 33
    have f33 := HX.out.free 33
    have c34 : w3.cell? ⟨w.heap.size, 34, none⟩ = some (.int .i64 B.ac) := HX.out.cell 34
    have f34 := HX.out.free 34
    have c35 : w3.cell? ⟨w.heap.size, 35, none⟩ = some (.int .i64 B.ph) := HX.out.cell 35
    have f35 := HX.out.free 35
    have c36 : w3.cell? ⟨w.heap.size, 36, none⟩ = some (.int .i64 B.ho) := HX.out.cell 36
    have f36 := HX.out.free 36
    have c37 : w3.cell? ⟨w.heap.size, 37, none⟩ = some (.int .i64 B.pa) := HX.out.cell 37
    have f37 := HX.out.free 37
    go_upto_region 9 with fail
    obtain ⟨w4, hw⟩ : ∃ X, X = (((((((w3.setCell ⟨w.heap.size, 34, none⟩ (.int .i64 (1 - B.ac))).setCell ⟨w.heap.size, 33, none⟩ (.int .i64 (B.tu + 1))).setCell ⟨w.heap.size, 35, none⟩ (.int .i64 1)).setCell ⟨w.heap.size, 31, none⟩ (.slice none 0 0)).setCell ⟨w.heap.size, 32, none⟩ (.slice none 0 0)).setCell ⟨w.heap.size, 36, none⟩ (.int .i64 (-1))).setCell ⟨w.heap.size, 37, none⟩ (.int .i64 0)) := ⟨_, rfl⟩
    rw [← hw]
    have hx4 : Bx w4 w.heap.size { s' with at' := nilSl, bl := nilSl } (be0 B) := by rw [hw, be0_pos HT.out]; exact Bx.ro (w := w3) (hset (hset (hset (hset (hset (hset (hset HX.out 34 (.int .i64 (1 - B.ac))) 33 (.int .i64 (B.tu + 1))) 35 (.int .i64 1)) 31 (.slice none 0 0)) 32 (.slice none 0 0)) 36 (.int .i64 (-1))) 37 (.int .i64 0)) (by simp [bcells, nilSl, Sl.v])
    have ho4 : Onl [w.heap.size] w3 w4 := by rw [hw]; exact (Onl.setCell (Onl.setCell (Onl.setCell (Onl.setCell (Onl.setCell (Onl.setCell (Onl.setCell (Onl.refl _ _) (.inl (by simp)) _) (.inl (by simp)) _) (.inl (by simp)) _) (.inl (by simp)) _) (.inl (by simp)) _) (.inl (by simp)) _) (.inl (by simp)) _)
    obtain ⟨lo, hlo⟩ : ∃ n, n = w.heap.size + 1 + 1 := ⟨_, rfl⟩
    obtain ⟨hi, hhi⟩ : ∃ n, n = w2.heap.size := ⟨_, rfl⟩
    have HLO2 : Hid (w.heap.size + 1 + 1 ≤ lo) := Lib.hid (by omega)
    have HST0 : Hid (BoxO w lo hi s' B w3) := Lib.hid ⟨HB.out, HX.out, HZ.out, by rw [hlo, hhi]; exact HO.out, by rw [hhi]; exact HSZ.out⟩
    clear hlo hhi HO HSZ HB HX HZ
    have HST : Hid (BoxO w lo hi { s' with at' := nilSl, bl := nilSl } (be0 B) w4) := Lib.hid (HST0.out.put HLO2.out ho4 hx4 (fun W h => beO h))
    clear hw hx4 ho4 HST0 c31 f31 c32 f32 c33 f33 c34 f34 c35 f35 c36 f36 c37 f37 hw1 hw2 t1
    go_wp2_with fail
    go_loopw [4] (fun v wr => FrL w lo hi { s' with at' := nilSl, bl := nilSl } B v wr) (fun v _ => 2 - (intOf v).toNat)
    case atStart => exact ⟨0, by omega, rfl, HST.out⟩
    case round =>
      obtain ⟨p, hp, rfl, hst⟩ := hrel
      replace HST := Lib.hid hst
      clear hst
      by_cases hp2 : p < 2
      · have i1 : (0 : Int) ≤ (p : Int) := by omega
        have i2 : (p : Int) < 2 := by omega
        have HTH := Lib.hid (poolThere HST.out.box hp2)
        go_wp2_with (refine wpList_store_midL w.heap.size (1 + p * 14 + 1) #[.int .i64 0, .int .i64 0, .int .i64 0, .int .i64 0] rfl rfl HTH.out (by kernel_rfl) (by simp [Value.oneCell']) ?_)
        intro w5 hw0
        have hw := hw0.out
        have HX5 : Hid (Bx w5 w.heap.size { s' with at' := nilSl, bl := nilSl } ((frN B p).noPool p)) := Lib.hid (by rw [hw]; exact HST.out.box.pool hp2)
        have c10 := (HX5.out.seatc hp2).1
        have c13 := (HX5.out.seatc hp2).2
        have f10 := HX5.out.free (1 + p * 14 + 10)
        have f13 := HX5.out.free (1 + p * 14 + 13)
        have HS6 : Hid (BoxO w lo hi { s' with at' := nilSl, bl := nilSl } (frN B (p + 1)) ((w5.setCell ⟨w.heap.size, 1 + p * 14 + 10, none⟩ (.bool false)).setCell ⟨w.heap.size, 1 + p * 14 + 13, none⟩ (.int .i64 0))) := Lib.hid (by
          rw [frN_succ B hp2]
          exact HST.out.put HLO2.out (((by rw [hw]; exact Onl.setCells _ _ _ (Onl.refl _ _) (.inl (by simp)) : Onl [w.heap.size] wr w5).setCell (.inl (by simp)) _).setCell (.inl (by simp)) _) (by rw [hw]; exact HST.out.box.fresh hp2) (fun W h => freshO h hp2))
        clear hw hw0 HTH hp2
        go_wp2_with fail
        go_roundw
        case rel => exact ⟨p + 1, by omega, by go_num, HS6.out⟩
        case measure => simp [intOf]; omega
      · obtain rfl : p = 2 := by omega
        obtain ⟨q, hq⟩ : ∃ q : Nat, nxA B = q := ⟨(nxA B).toNat, (nxA_bd HAC.out).1⟩
        have hp2 : q < 2 := by have h := nxA_bd HAC.out; omega
        have HQ0 := Lib.hid hq
        have k1 : (0 : Int) ≤ (q : Int) := by omega
        have k2 : (q : Int) < 2 := by omega
        have HNDX : Hid (((be1 B).seat q).fld.Nodup) := Lib.hid (HND.out q)
        clear hq
        replace HST : Hid (BoxO w lo hi { s' with at' := nilSl, bl := nilSl } (be1 B) wr) := HST
        obtain ⟨wo, hwo⟩ : ∃ W, W = wr := ⟨_, rfl⟩
        rw [← hwo] at HST ⊢
        clear hwo
        obtain ⟨Y, hY⟩ : ∃ Y, Y = be1 B := ⟨_, rfl⟩
        rw [← hY] at HST
        have HNDY : Hid ((Y.seat q).fld.Nodup) := Lib.hid (by rw [hY]; exact HNDX.out)
        have HYE := Lib.hid hY
        clear hY HNDX
        obtain ⟨oa, oc', hvo⟩ := HST.out.own.ob.1.form
        have HC0 : Hid (∀ W, Bx W w.heap.size { s' with at' := nilSl, bl := nilSl } Y → W.cell? ⟨w.heap.size, 0, none⟩ = some (.slice oa Y.ob.length oc')) := Lib.hid (fun W h => by rw [h.cell 0, ← hvo]; rfl)
        have HOV : Hid (({ s' with at' := nilSl, bl := nilSl } : Bs).ob.v = .slice oa Y.ob.length oc') := Lib.hid hvo
        obtain ⟨⟨fa, fn, fc⟩, hfz⟩ : ∃ qz, ({ s' with at' := nilSl, bl := nilSl } : Bs).zl q 2 = qz := ⟨_, rfl⟩
        have HC7 : Hid (∀ W, Bx W w.heap.size { s' with at' := nilSl, bl := nilSl } Y → W.cell? ⟨w.heap.size, 1 + q * 14 + 7, none⟩ = some (.slice fa fn fc)) := Lib.hid (fun W h => by
          have h1 := h.zone (p := q) (z := 2) hp2 (by omega)
          rw [hfz] at h1
          exact h1)
        have HFR : Hid (∀ (W : World) {l : List Ob}, BoxO w lo hi { s' with at' := nilSl, bl := nilSl } { Y with ob := l } W → Rw ic 1 W (.slice fa fn fc) (Y.seat q).fld) := Lib.hid (fun W l h => by
          have h1 := h.own.rd.zone q 2
          rw [hfz] at h1
          exact h1)
        have hom : Y.ob.length ≤ 9223372036854775807 := by have := HST.out.own.ob.1.max; unfold maxLen at this; omega
        have HS0 : Hid (BoxO w lo hi { s' with at' := nilSl, bl := nilSl } { Y with ob := mapTo (onF (Y.seat q).fld unO) 0 Y.ob } wo) := Lib.hid (by rw [mapTo_zero]; exact HST.out)
        clear hvo hfz
        go_wp2_with fail
        go_loopw [6] (fun i wr => EvR w lo hi { s' with at' := nilSl, bl := nilSl } Y (onF (Y.seat q).fld unO) i wr) (fun i _ => Y.ob.length - (intOf i).toNat)
        case atStart => exact ⟨0, by omega, rfl, HS0.out⟩
        case round =>
          obtain ⟨k, hk, rfl, hst⟩ := hrel
          replace HST := Lib.hid hst
          clear hst HS0
          by_cases hkl : k < Y.ob.length
          · obtain ⟨x, hx⟩ : ∃ x, Y.ob[k]? = some x := ⟨_, List.getElem?_eq_getElem hkl⟩
            have hlen : (mapTo (onF (Y.seat q).fld unO) k Y.ob).length = Y.ob.length := mapTo_length _ _ _ hk
            obtain ⟨g0, cap, hv, hg1, hg2, hg3⟩ := HST.out.own.ob.pos (by show 0 < (mapTo _ _ _).length; omega)
            have hv2 := HOV.out
            change ({ s' with at' := nilSl, bl := nilSl } : Bs).ob.v = .slice _ (mapTo (onF (Y.seat q).fld unO) k Y.ob).length _ at hv
            rw [hlen, hv2] at hv
            simp only [Value.slice.injEq, true_and] at hv
            obtain ⟨rfl, rfl⟩ := hv
            have hxm : (mapTo (onF (Y.seat q).fld unO) k Y.ob)[k]? = some x := by rw [mapTo_get _ _ _ hk]; exact hx
            have HOB : Hid (∀ W, BoxO w lo hi { s' with at' := nilSl, bl := nilSl } { Y with ob := mapTo (onF (Y.seat q).fld unO) k Y.ob } W → Ox oc 12 57 lo hi W (.slice (some ⟨g0, 0, none⟩) Y.ob.length oc') (mapTo (onF (Y.seat q).fld unO) k Y.ob)) := Lib.hid (fun W h => by rw [← HOV.out]; exact h.own.ob)
            have hd : ∀ (j : Nat) (u : Value), (oc x)[j]? = some u → wr.cell? ⟨g0, k * 12 + j, none⟩ = some u := fun j u hu => ((HOB.out _ HST.out).at oc_len hxm hu (k * 12 + j) rfl).1
            have d0 : wr.cell? ⟨g0, k * 12, none⟩ = some (.int .i64 x.id) := hd 0 _ rfl
            have d1 : wr.cell? ⟨g0, k * 12 + 1, none⟩ = some (.int .i64 x.cd) := hd 1 _ rfl
            have d2 : wr.cell? ⟨g0, k * 12 + 2, none⟩ = some (.int .i64 x.ow) := hd 2 _ rfl
            have d3 : wr.cell? ⟨g0, k * 12 + 3, none⟩ = some (.int .i64 x.po) := hd 3 _ rfl
            have d4 : wr.cell? ⟨g0, k * 12 + 4, none⟩ = some (.int .i64 x.tg) := hd 4 _ rfl
            have d5 : wr.cell? ⟨g0, k * 12 + 5, none⟩ = some (.int .i64 x.da) := hd 5 _ rfl
            have d6 : wr.cell? ⟨g0, k * 12 + 6, none⟩ = some (.int .i64 x.co) := hd 6 _ rfl
            have d7 : wr.cell? ⟨g0, k * 12 + 7, none⟩ = some (.int .i64 x.pp) := hd 7 _ rfl
            have d8 : wr.cell? ⟨g0, k * 12 + 8, none⟩ = some (.int .i64 x.pt) := hd 8 _ rfl
            have d9 : wr.cell? ⟨g0, k * 12 + 9, none⟩ = some (.bool x.ta) := hd 9 _ rfl
            have d10 : wr.cell? ⟨g0, k * 12 + 10, none⟩ = some (.bool x.si) := hd 10 _ rfl
            have d11 : wr.cell? ⟨g0, k * 12 + 11, none⟩ = some (.bool x.dm) := hd 11 _ rfl
            have i1 : (0 : Int) ≤ (k : Int) := by omega
            have i2 : (k : Int) < (Y.ob.length : Int) := by omega
            have e0 := HC0.out wr HST.out.box
            have HXS := Lib.hid hx
            have HGL := Lib.hid hg1
            have HGH := Lib.hid hg2
            clear hlen hv2 hxm hx hd hg1 hg2 hg3
            go_upto_region 18 with fail
            obtain ⟨wq, hwq⟩ : ∃ W, W = wr.alloc (.cells #[.int .i64 x.id, .int .i64 x.cd, .int .i64 x.ow, .int .i64 x.po, .int .i64 x.tg, .int .i64 x.da, .int .i64 x.co, .int .i64 x.pp, .int .i64 x.pt, .bool x.ta, .bool x.si, .bool x.dm] 57) := ⟨_, rfl⟩
            rw [← hwq]
            have hqb : Below wr.heap.size wr wq := by rw [hwq]; exact (Below.refl _ _).alloc (Nat.le_refl _) _
            have hqr : Ro wq wr.heap.size #[.int .i64 x.id, .int .i64 x.cd, .int .i64 x.ow, .int .i64 x.po, .int .i64 x.tg, .int .i64 x.da, .int .i64 x.co, .int .i64 x.pp, .int .i64 x.pt, .bool x.ta, .bool x.si, .bool x.dm] 57 := by rw [hwq]; exact Ro.new _ _ _
            clear hwq d0 d1 d2 d3 d4 d5 d6 d7 d8 d9 d10 d11 e0
            obtain ⟨n0, hn0⟩ : ∃ n, n = wr.heap.size := ⟨_, rfl⟩
            rw [← hn0] at hqr ⊢
            have HQ := Lib.hid hqr
            replace HST := Lib.hid (HST.out.call hqb)
            have q0 : wq.cell? ⟨n0, 0, none⟩ = some (.int .i64 x.id) := HQ.out.cell 0
            have ef := HC7.out wq HST.out.box
            have pP := HST.out.box.lt
            have pn := hqr.lt
            have e34 : wq.cell? ⟨w.heap.size, 34, none⟩ = some (.int .i64 (q : Nat)) := by rw [HST.out.box.cell 34]; show some (Value.int .i64 Y.ac) = _; rw [HYE.out, ← HQ0.out]; rfl
            obtain ⟨c, hc⟩ : ∃ c, (Y.seat q).fld.count x.id = c := ⟨_, rfl⟩
            have HCC := Lib.hid hc
            clear hqr hn0 hqb hc
            by_cases h1 : c = 1
            · have t1 : (((Y.seat q).fld.count x.id : Nat) : Int) == 1 := by rw [HCC.out, h1]; rfl
              have t2 : ((Y.seat q).fld.count x.id == 1) = true := by rw [HCC.out, h1]; rfl
              have HS : Hid ((mapTo (onF (Y.seat q).fld unO) k Y.ob).set k (unO x) = mapTo (onF (Y.seat q).fld unO) (k + 1) Y.ob) := Lib.hid (by
                have hm : x.id ∈ (Y.seat q).fld := List.count_pos_iff.1 (by rw [HCC.out]; omega)
                rw [← mapTo_set _ _ _ _ HXS.out]; unfold onF; rw [if_pos hm])
              clear h1
              refine rg23_18 (w0 := wq) (B := wq.heap.size) (n := wq.heap.size) (L := []) (E := fun _ => True) (F := fun _ => True) (by kernel_rfl) (by kernel_rfl) ⟨by go_grown, by go_size, (by simp [go_sem] <;> omega)⟩ trivial (fun _ _ _ _ => trivial) trivial (fun _ _ _ _ => trivial) (fun w21 K_w21 E_w21 F_w21 => ?_)
              have _ne : Nonempty (KX (wq.heap.size) wq (wq.heap.size) [] (fun _ => True)) := ⟨⟨_, K_w21, E_w21⟩⟩
              repeat (go_big_quiet_step (fail))
              refine wpQuiet_nil ?_
              have rf : ∀ s : KX (wq.heap.size) wq (wq.heap.size) [] (fun _ => True), s.val.cell? ⟨w.heap.size, 1 + q * 14 + 7, none⟩ = some (.slice fa fn fc) := fun s => (s.kept.below.cell (p := ⟨w.heap.size, 1 + q * 14 + 7, none⟩) pP).trans ef
              have rn : ∀ s : KX (wq.heap.size) wq (wq.heap.size) [] (fun _ => True), s.val.cell? ⟨n0, 0, none⟩ = some (.int .i64 x.id) := fun s => (s.kept.below.cell (p := ⟨n0, 0, none⟩) pn).trans q0
              have rp : ∀ s : KX (wq.heap.size) wq (wq.heap.size) [] (fun _ => True), s.val.cell? ⟨w.heap.size, 34, none⟩ = some (.int .i64 (q : Nat)) := fun s => (s.kept.below.cell (p := ⟨w.heap.size, 34, none⟩) pP).trans e34
              repeat (go_big_quiet_step (fail))
              refine wpQuiet_nil ?_
              clear rf rn rp
              repeat (go_big_quiet_step (fail))
              refine wpQuiet_nil ?_
              have rf : ∀ s : KX (wq.heap.size) wq (wq.heap.size) [] (fun _ => True), s.val.cell? ⟨w.heap.size, 1 + q * 14 + 7, none⟩ = some (.slice fa fn fc) := fun s => (s.kept.below.cell (p := ⟨w.heap.size, 1 + q * 14 + 7, none⟩) pP).trans ef
              have rn : ∀ s : KX (wq.heap.size) wq (wq.heap.size) [] (fun _ => True), s.val.cell? ⟨n0, 0, none⟩ = some (.int .i64 x.id) := fun s => (s.kept.below.cell (p := ⟨n0, 0, none⟩) pn).trans q0
              have rp : ∀ s : KX (wq.heap.size) wq (wq.heap.size) [] (fun _ => True), s.val.cell? ⟨w.heap.size, 34, none⟩ = some (.int .i64 (q : Nat)) := fun s => (s.kept.below.cell (p := ⟨w.heap.size, 34, none⟩) pP).trans e34
              repeat (go_big_quiet_step (fail))
              refine wpQuiet_nil ?_
              clear rf rn rp
              have KH_w21 := Lib.hid K_w21
              have hw_w21 := K_w21.below
              have hz_w21 := K_w21.size
              clear K_w21
              clear E_w21 F_w21
              refine ⟨fun K hK0 => ?_, trivial⟩
              have hK := Lib.hid hK0
              clear hK0
              have hb := hw_w21
              clear hw_w21 hz_w21 KH_w21
              replace HST := Lib.hid (HST.out.call hb)
              replace HQ := Lib.hid (HQ.out.below hb)
              clear hb
              go_wp2_with fail
              with_reducible refine (countI _ (Y.seat q).fld x.id _ (HFR.out _ HST.out)).mono ?_
              rintro e w' ⟨rfl, rfl⟩
              go_wp2_with fail
              first | (refine ⟨rfl, hK.out _ _ ?_⟩; clear hK K) | (refine hK.out _ _ ?_; clear hK K)
              repeat (go_big_quiet_step (fail))
              refine wpQuiet_nil ?_
              clear _ne
              clear q0 ef pP pn e34 t1 t2
              go_upto_region 19 with fail
              have e0 := HC0.out w21 HST.out.box
              have pP := HST.out.box.lt
              have pn := HQ.out.lt
              have q0 : w21.cell? ⟨n0, 0, none⟩ = some (.int .i64 x.id) := HQ.out.cell 0
              have q1 : w21.cell? ⟨n0, 1, none⟩ = some (.int .i64 x.cd) := HQ.out.cell 1
              have q2 : w21.cell? ⟨n0, 2, none⟩ = some (.int .i64 x.ow) := HQ.out.cell 2
              have q3 : w21.cell? ⟨n0, 3, none⟩ = some (.int .i64 x.po) := HQ.out.cell 3
              have q4 : w21.cell? ⟨n0, 4, none⟩ = some (.int .i64 x.tg) := HQ.out.cell 4
              have q5 : w21.cell? ⟨n0, 5, none⟩ = some (.int .i64 x.da) := HQ.out.cell 5
              have q6 : w21.cell? ⟨n0, 6, none⟩ = some (.int .i64 x.co) := HQ.out.cell 6
              have q7 : w21.cell? ⟨n0, 7, none⟩ = some (.int .i64 x.pp) := HQ.out.cell 7
              have q8 : w21.cell? ⟨n0, 8, none⟩ = some (.int .i64 x.pt) := HQ.out.cell 8
              have q9 : w21.cell? ⟨n0, 9, none⟩ = some (.bool x.ta) := HQ.out.cell 9
              have q10 : w21.cell? ⟨n0, 10, none⟩ = some (.bool x.si) := HQ.out.cell 10
              have q11 : w21.cell? ⟨n0, 11, none⟩ = some (.bool x.dm) := HQ.out.cell 11
              refine rg23_19 (w0 := w21) (B := w21.heap.size) (n := w21.heap.size) (L := []) (E := fun _ => True) (F := fun _ => True) (by kernel_rfl) (by kernel_rfl) ⟨by go_grown, by go_size, (by simp [go_sem] <;> omega)⟩ trivial (fun _ _ _ _ => trivial) trivial (fun _ _ _ _ => trivial) (fun w31 K_w31 E_w31 F_w31 => ?_)
              have _ne : Nonempty (KX (w21.heap.size) w21 (w21.heap.size) [] (fun _ => True)) := ⟨⟨_, K_w31, E_w31⟩⟩
              repeat (go_big_quiet_step (fail))
              refine wpQuiet_nil ?_
              have ro : ∀ s : KX (w21.heap.size) w21 (w21.heap.size) [] (fun _ => True), s.val.cell? ⟨w.heap.size, 0, none⟩ = some (.slice (some ⟨g0, 0, none⟩) Y.ob.length oc') := fun s => (s.kept.below.cell (p := ⟨w.heap.size, 0, none⟩) pP).trans e0
              have r0 : ∀ s : KX (w21.heap.size) w21 (w21.heap.size) [] (fun _ => True), s.val.cell? ⟨n0, 0, none⟩ = some (.int .i64 x.id) := fun s => (s.kept.below.cell (p := ⟨n0, 0, none⟩) pn).trans q0
              have r1 : ∀ s : KX (w21.heap.size) w21 (w21.heap.size) [] (fun _ => True), s.val.cell? ⟨n0, 1, none⟩ = some (.int .i64 x.cd) := fun s => (s.kept.below.cell (p := ⟨n0, 1, none⟩) pn).trans q1
              have r2 : ∀ s : KX (w21.heap.size) w21 (w21.heap.size) [] (fun _ => True), s.val.cell? ⟨n0, 2, none⟩ = some (.int .i64 x.ow) := fun s => (s.kept.below.cell (p := ⟨n0, 2, none⟩) pn).trans q2
              have r3 : ∀ s : KX (w21.heap.size) w21 (w21.heap.size) [] (fun _ => True), s.val.cell? ⟨n0, 3, none⟩ = some (.int .i64 x.po) := fun s => (s.kept.below.cell (p := ⟨n0, 3, none⟩) pn).trans q3
              have r4 : ∀ s : KX (w21.heap.size) w21 (w21.heap.size) [] (fun _ => True), s.val.cell? ⟨n0, 4, none⟩ = some (.int .i64 x.tg) := fun s => (s.kept.below.cell (p := ⟨n0, 4, none⟩) pn).trans q4
              have r5 : ∀ s : KX (w21.heap.size) w21 (w21.heap.size) [] (fun _ => True), s.val.cell? ⟨n0, 5, none⟩ = some (.int .i64 x.da) := fun s => (s.kept.below.cell (p := ⟨n0, 5, none⟩) pn).trans q5
              have r6 : ∀ s : KX (w21.heap.size) w21 (w21.heap.size) [] (fun _ => True), s.val.cell? ⟨n0, 6, none⟩ = some (.int .i64 x.co) := fun s => (s.kept.below.cell (p := ⟨n0, 6, none⟩) pn).trans q6
              have r7 : ∀ s : KX (w21.heap.size) w21 (w21.heap.size) [] (fun _ => True), s.val.cell? ⟨n0, 7, none⟩ = some (.int .i64 x.pp) := fun s => (s.kept.below.cell (p := ⟨n0, 7, none⟩) pn).trans q7
              have r8 : ∀ s : KX (w21.heap.size) w21 (w21.heap.size) [] (fun _ => True), s.val.cell? ⟨n0, 8, none⟩ = some (.int .i64 x.pt) := fun s => (s.kept.below.cell (p := ⟨n0, 8, none⟩) pn).trans q8
              have r9 : ∀ s : KX (w21.heap.size) w21 (w21.heap.size) [] (fun _ => True), s.val.cell? ⟨n0, 9, none⟩ = some (.bool x.ta) := fun s => (s.kept.below.cell (p := ⟨n0, 9, none⟩) pn).trans q9
              have r10 : ∀ s : KX (w21.heap.size) w21 (w21.heap.size) [] (fun _ => True), s.val.cell? ⟨n0, 10, none⟩ = some (.bool x.si) := fun s => (s.kept.below.cell (p := ⟨n0, 10, none⟩) pn).trans q10
              have r11 : ∀ s : KX (w21.heap.size) w21 (w21.heap.size) [] (fun _ => True), s.val.cell? ⟨n0, 11, none⟩ = some (.bool x.dm) := fun s => (s.kept.below.cell (p := ⟨n0, 11, none⟩) pn).trans q11
              repeat (go_big_quiet_step (fail))
              refine wpQuiet_nil ?_
              clear ro r0 r1 r2 r3 r4 r5 r6 r7 r8 r9 r10 r11
              have KH_w31 := Lib.hid K_w31
              have hw_w31 := K_w31.below
              have hz_w31 := K_w31.size
              clear K_w31
              clear E_w31 F_w31
              refine ⟨fun K hK0 => ?_, trivial⟩
              have hK := Lib.hid hK0
              clear hK0
              have hb := hw_w31
              have HKK := KH_w31
              clear hw_w31 hz_w31 KH_w31
              replace HST := Lib.hid (HST.out.call hb)
              clear hb
              go_wp2_with fail
              with_reducible refine (runtap x _).mono ?_
              rintro e w32 ⟨rfl, hb⟩
              replace HKK := Lib.hid (Kept.step HKK.out (Nat.le_refl _) hb)
              replace HST := Lib.hid (HST.out.call hb)
              clear hb
              go_wp2_with fail
              first | (refine ⟨rfl, ⟨⟨_, HKK.out, trivial⟩, rfl⟩, hK.out _ _ ?_⟩; clear hK K) | (refine ⟨⟨⟨_, HKK.out, trivial⟩, rfl⟩, hK.out _ _ ?_⟩; clear hK K)
              repeat (go_big_quiet_step (fail))
              refine wpQuiet_nil ?_
              refine ⟨fun K hK0 => ?_, trivial⟩
              have hK := Lib.hid hK0
              clear hK0
              have HTH : Hid (w32.there g0 (k * 12) 12) := Lib.hid (fun j hj => by
                obtain ⟨u, hu⟩ : ∃ u, (oc x)[j]? = some u := ⟨_, List.getElem?_eq_getElem hj⟩
                have h := (HOB.out _ HST.out).at (i := k) (x := x) oc_len (by rw [mapTo_get (onF (Y.seat q).fld unO) k Y.ob hk]; exact HXS.out) hu (k * 12 + j) rfl
                exact ⟨by rw [h.1]; rfl, h.2⟩)
              go_wp2_with (refine wpList_store_mid rfl 57 _ _ rfl g0 (k * 12) #[.int .i64 (unO x).id, .int .i64 (unO x).cd, .int .i64 (unO x).ow, .int .i64 (unO x).po, .int .i64 (unO x).tg, .int .i64 (unO x).da, .int .i64 (unO x).co, .int .i64 (unO x).pp, .int .i64 (unO x).pt, .bool (unO x).ta, .bool (unO x).si, .bool (unO x).dm] rfl rfl HTH.out (by kernel_rfl) (by simp [Value.oneCell']) ?_)
              obtain ⟨w33, h33⟩ : ∃ W, W = w32.setCells g0 (k * 12) [.int .i64 (unO x).id, .int .i64 (unO x).cd, .int .i64 (unO x).ow, .int .i64 (unO x).po, .int .i64 (unO x).tg, .int .i64 (unO x).da, .int .i64 (unO x).co, .int .i64 (unO x).pp, .int .i64 (unO x).pt, .bool (unO x).ta, .bool (unO x).si, .bool (unO x).dm] := ⟨_, rfl⟩
              change K _ (w32.setCells g0 (k * 12) [.int .i64 (unO x).id, .int .i64 (unO x).cd, .int .i64 (unO x).ow, .int .i64 (unO x).po, .int .i64 (unO x).tg, .int .i64 (unO x).da, .int .i64 (unO x).co, .int .i64 (unO x).pp, .int .i64 (unO x).pt, .bool (unO x).ta, .bool (unO x).si, .bool (unO x).dm])
              rw [← h33]
              clear HTH
              first | (refine ⟨rfl, hK.out _ _ ?_⟩; clear hK K) | (refine hK.out _ _ ?_; clear hK K)
              clear _ne
              have HS33 : Hid (BoxO w lo hi { s' with at' := nilSl, bl := nilSl } { Y with ob := mapTo (onF (Y.seat q).fld unO) (k + 1) Y.ob } w33) := Lib.hid (by
                have ho2 : Onl [g0] w32 w33 := by rw [h33]; exact Onl.setCells _ _ _ (Onl.refl _ _) (.inl (by simp))
                have h1 := (HOB.out _ HST.out).setn (fun _ => rfl) (unO x) (i := k) (by rw [mapTo_length _ _ _ hk]; exact hkl) (k * 12) rfl _ rfl
                rw [HS.out, ← HOV.out] at h1
                have h2 := HST.out.own.setOb (g := g0) (by rw [HOV.out]; rfl) ho2 (by rw [h33]; exact h1)
                exact HST.out.ev HLO2.out (Rng.onl (S := [g0]) ho2 (by have h1 := HGL.out; have h2 := HGH.out; simp; omega)) (HST.out.box.onl ho2 (by have h1 := HGL.out; have h2 := HLO2.out; simp; omega)) h2)
              clear h33 e0 pP pn q0 q1 q2 q3 q4 q5 q6 q7 q8 q9 q10 q11
              go_wp2_with fail
              go_roundw
              case rel => exact ⟨k + 1, by omega, by go_num, HS33.out⟩
              case measure => simp [intOf]; omega
            · have t1 : ((((Y.seat q).fld.count x.id : Nat) : Int) == 1) = false := by rw [HCC.out]; exact beq_false_of_ne (by omega)
              have t2 : ((Y.seat q).fld.count x.id == 1) = false := by rw [HCC.out]; exact beq_false_of_ne h1
              have HS : Hid (mapTo (onF (Y.seat q).fld unO) (k + 1) Y.ob = mapTo (onF (Y.seat q).fld unO) k Y.ob) := Lib.hid (mapTo_same _ _ _ _ HXS.out (by
                have hm : x.id ∉ (Y.seat q).fld := fun hm => h1 (by rw [← HCC.out]; exact nodup_count.1 HNDY.out _ hm)
                unfold onF; rw [if_neg hm]))
              clear h1
              refine rg23_18 (w0 := wq) (B := wq.heap.size) (n := wq.heap.size) (L := []) (E := fun _ => True) (F := fun _ => True) (by kernel_rfl) (by kernel_rfl) ⟨by go_grown, by go_size, (by simp [go_sem] <;> omega)⟩ trivial (fun _ _ _ _ => trivial) trivial (fun _ _ _ _ => trivial) (fun w21 K_w21 E_w21 F_w21 => ?_)
              have _ne : Nonempty (KX (wq.heap.size) wq (wq.heap.size) [] (fun _ => True)) := ⟨⟨_, K_w21, E_w21⟩⟩
              repeat (go_big_quiet_step (fail))
              refine wpQuiet_nil ?_
              have rf : ∀ s : KX (wq.heap.size) wq (wq.heap.size) [] (fun _ => True), s.val.cell? ⟨w.heap.size, 1 + q * 14 + 7, none⟩ = some (.slice fa fn fc) := fun s => (s.kept.below.cell (p := ⟨w.heap.size, 1 + q * 14 + 7, none⟩) pP).trans ef
              have rn : ∀ s : KX (wq.heap.size) wq (wq.heap.size) [] (fun _ => True), s.val.cell? ⟨n0, 0, none⟩ = some (.int .i64 x.id) := fun s => (s.kept.below.cell (p := ⟨n0, 0, none⟩) pn).trans q0
              have rp : ∀ s : KX (wq.heap.size) wq (wq.heap.size) [] (fun _ => True), s.val.cell? ⟨w.heap.size, 34, none⟩ = some (.int .i64 (q : Nat)) := fun s => (s.kept.below.cell (p := ⟨w.heap.size, 34, none⟩) pP).trans e34
              repeat (go_big_quiet_step (fail))
              refine wpQuiet_nil ?_
              clear rf rn rp
              repeat (go_big_quiet_step (fail))
              refine wpQuiet_nil ?_
              have rf : ∀ s : KX (wq.heap.size) wq (wq.heap.size) [] (fun _ => True), s.val.cell? ⟨w.heap.size, 1 + q * 14 + 7, none⟩ = some (.slice fa fn fc) := fun s => (s.kept.below.cell (p := ⟨w.heap.size, 1 + q * 14 + 7, none⟩) pP).trans ef
              have rn : ∀ s : KX (wq.heap.size) wq (wq.heap.size) [] (fun _ => True), s.val.cell? ⟨n0, 0, none⟩ = some (.int .i64 x.id) := fun s => (s.kept.below.cell (p := ⟨n0, 0, none⟩) pn).trans q0
              have rp : ∀ s : KX (wq.heap.size) wq (wq.heap.size) [] (fun _ => True), s.val.cell? ⟨w.heap.size, 34, none⟩ = some (.int .i64 (q : Nat)) := fun s => (s.kept.below.cell (p := ⟨w.heap.size, 34, none⟩) pP).trans e34
              repeat (go_big_quiet_step (fail))
              refine wpQuiet_nil ?_
              clear rf rn rp
              have KH_w21 := Lib.hid K_w21
              have hw_w21 := K_w21.below
              have hz_w21 := K_w21.size
              clear K_w21
              clear E_w21 F_w21
              refine ⟨fun K hK0 => ?_, trivial⟩
              have hK := Lib.hid hK0
              clear hK0
              have hb := hw_w21
              clear hw_w21 hz_w21 KH_w21
              replace HST := Lib.hid (HST.out.call hb)
              replace HQ := Lib.hid (HQ.out.below hb)
              clear hb
              go_wp2_with fail
              with_reducible refine (countI _ (Y.seat q).fld x.id _ (HFR.out _ HST.out)).mono ?_
              rintro e w' ⟨rfl, rfl⟩
              go_wp2_with fail
              first | (refine ⟨rfl, hK.out _ _ ?_⟩; clear hK K) | (refine hK.out _ _ ?_; clear hK K)
              repeat (go_big_quiet_step (fail))
              refine wpQuiet_nil ?_
              clear _ne
              clear q0 ef pP pn e34
              go_wp2_with fail
              go_roundw
              case rel => exact ⟨k + 1, by omega, by go_num, by rw [HS.out]; exact HST.out⟩
              case measure => simp [intOf]; omega
          · have hke : k = Y.ob.length := by omega
            have HSD : Hid (BoxO w lo hi { s' with at' := nilSl, bl := nilSl } (Y.every q unO) wr) := Lib.hid (by have h := HST.out; rw [hke, mapTo_all] at h; exact h)
            have e0 := HC0.out wr HST.out.box
            clear hke HST
            have HST : Hid (BoxO w lo hi { s' with at' := nilSl, bl := nilSl } (beB B) wr) := Lib.hid (by
              have h := HSD.out
              rw [HYE.out] at h
              have e : beB B = (be1 B).every q unO := by unfold beB; rw [HQ0.out]; rfl
              rw [e]; exact h)
            have HX : Hid (Bx wr w.heap.size { s' with at' := nilSl, bl := nilSl } (beB B)) := Lib.hid HST.out.box
            have HZ := Lib.hid HST.out.res
            have HB := Lib.hid HST.out.below
            go_upto_region 20 with fail
            go_wp2_with (first | (refine wpList_load_bx _ rfl rfl HX.out (by kernel_rfl) ?_) | (refine wpList_store_bh (s := { s' with at' := nilSl, bl := nilSl }) (B := beB B) rfl _ _ rfl rfl rfl HZ.out rfl ?_; intro w9 hw9))
            have hg9 : Bx w9 (w.heap.size + 1) { s' with at' := nilSl, bl := nilSl } (beB B) := by rw [hw9.out]; exact Bx.row HZ.out _ _
            have ho9 : Onl [w.heap.size + 1] wr w9 := by rw [hw9.out]; exact Onl.setRow (Onl.refl _ _) (.inl (by simp)) _
            have hb9 : Below w.heap.size w w9 := belowOnl HB.out ho9 (by simp) HB.out.size
            have HG9 := Lib.hid hg9
            have HPOST : Hid (BrA w (beB B) (.int .i64 0) (.returned (.tuple #[bv { s' with at' := nilSl, bl := nilSl } (beB B), .int .i64 0])) w9) := Lib.hid ⟨_, rfl, (HST.out.own.keep (fun k a _ => ho9.block k (by have := HST.out.hi; omega) (by have := HLO2.out; simp; omega))).mono (by have := HLO2.out; omega) (Nat.le_trans HST.out.hi ho9.size), hb9⟩
            clear hw9 hg9 ho9 hb9
            go_wp2_with fail
            exact bodyPost_ret (v := .tuple #[bv { s' with at' := nilSl, bl := nilSl } (beB B), .int .i64 0]) (results_b1 Tryd.results23 _ _ HG9.out rfl rfl) rfl HPOST.out
end Go.Proofs.YtkkpckkkcclhhaaDoor
