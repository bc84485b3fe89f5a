/- Passing, the end and the beginning of a turn, by the code. -/
import Derived.Test.YtkkpckkkcclhhaaDoorBTb
import Derived.Deep.DeepCutAuto
import Derived.LoopTactic
import Derived.Deep.MidRow
namespace Go.Proofs.YtkkpckkkcclhhaaDoor
open Go.RowKit Plain
set_option linter.unusedVariables false
set_option linter.unusedSimpArgs false

theorem rg17_5 {P : Program} {B n : Nat} {w0 : World} {L : List (Nat × Nat × Value)} {E F : World → Prop} {id : Nat} {Q : Exit → Act → World → Prop} {a : Act} {w : World} {o0 o1 o2 o3 o4 o5 o6 o7 : Oper} (hm : P.follows .mixedOrders = true)
    (hB : (Region.noSelect [o0, o1, o2, o3, o4, o5, o6, o7].toArray && Scr.ok .any [o0, o1, o2, o3, o4, o5, o6, o7].toArray [1, 4] [0, 2, 3, 5, 6, 7] (.free 0 (.free 3 (.read 1 (.free 2 (.free 6 (.read 4 (.free 5 (.free 7 .done)))))))) true true [o0, o1, o2, o3, o4, o5, o6, o7].toArray.size (Array.replicate [o0, o1, o2, o3, o4, o5, o6, o7].toArray.size false)) = true)
    (k : Kept B w0 n L w) (he : E w) (hE : ∀ W W', E W → Below W.heap.size W W' → E W') (hf : F w) (hF : ∀ W W', F W → Below W.heap.size W W' → F W')
    (h : ∀ wk, Kept B w0 n L wk → E wk → F wk → wpQuiet P [o0, o1, o2, o3, o4, o5, o6, o7].toArray (fun _ => True) (fun a0 => wpQuiet P [o0, o1, o2, o3, o4, o5, o6, o7].toArray (fun w' => ∃ s : KX B w0 n L E, w' = s.val) (fun a1 => wpQuiet P [o0, o1, o2, o3, o4, o5, o6, o7].toArray (fun _ => True) (fun a2 => wpQuiet P [o0, o1, o2, o3, o4, o5, o6, o7].toArray (fun w' => ∃ s : KX B w0 n L E, w' = s.val) (fun a3 => wpQuiet P [o0, o1, o2, o3, o4, o5, o6, o7].toArray (fun _ => True) (fun a4 => Q .normal a4 wk) [o5, o7] a3) [o4] a2) [o2, o6] a1) [o1] a0) [o0, o3] a) : (Code.region id [o0, o1, o2, o3, o4, o5, o6, o7].toArray true).wp P Q a w := by
  have e1 : E w.drew := hE _ _ he ((Below.refl _ _).drew)
  have g := h _ k.drew e1 (hF _ _ hf ((Below.refl _ _).drew))
  exact wp_region_scr (U := (fun w' => ∃ s : KX B w0 n L E, w' = s.val)) (ops := [o0, o1, o2, o3, o4, o5, o6, o7].toArray) (.free 0 (.free 3 (.read 1 (.free 2 (.free 6 (.read 4 (.free 5 (.free 7 .done)))))))) [1, 4] [0, 2, 3, 5, 6, 7] hm hB ⟨⟨_, k.drew, e1⟩, rfl⟩ (Scr.of_free rfl g (fun _ g0 => Scr.of_free rfl g0 (fun _ g1 => Scr.of_read rfl g1 (fun _ g2 => Scr.of_free rfl g2 (fun _ g3 => Scr.of_free rfl g3 (fun _ g4 => Scr.of_read rfl g4 (fun _ g5 => Scr.of_free rfl g5 (fun _ g6 => Scr.of_free rfl g6 (fun _ g7 => g7)))))))))
set_option maxRecDepth 100000 in
set_option maxHeartbeats 4000000 in
theorem pass_two (s : Bs) (B : Bd) (w : World) (h : BdR w s B) (hk : B.Ok) (hv : VB B) (h1 : ¬ B.ho < 0) (h2 : 1 ≤ B.pa) : Calls Tryd.prog 17 #[bv s B] w (BrP w (giB B (-1) 0) (.bool true) (.int .i64 0)) := by
  have hn := hv.num
  unfold vNum at hn
  have t0 : decide (B.ho < 0) = false := decide_eq_false h1
  have t1 : decide (B.pa + 1 ≥ 2) = true := decide_eq_true (by omega)
  have hw1 : wrap64 (1 - B.ho) = 1 - B.ho := by unfold wrap64; omega
  have hw2 : wrap64 (B.pa + 1) = B.pa + 1 := by unfold wrap64; omega
  have t2 : decide (2 ≤ wrap64 (B.pa + 1)) = true := by rw [hw2]; exact decide_eq_true (by omega)
  have t3 : decide (wrap64 (B.pa + 1) ≥ 2) = true := by rw [hw2]; exact decide_eq_true (by omega)
  have HA : Hid ((-1 ≤ (-1 : Int) ∧ (-1 : Int) ≤ 1) ∧ (0 ≤ (0 : Int) ∧ (0 : Int) ≤ 2)) := Lib.hid (by omega)
  clear hn h1 h2
  have HR := Lib.hid h
  have HK := Lib.hid hk
  have HV := Lib.hid hv
  clear h hk hv
  go_enter Tryd.func17, Tryd.ntmps17
  go_upto_region 1 with fail
  change Code.wp Tryd.prog _ _ _ ((w.alloc (.cells (bcells s B) 39)).alloc (.cells (bcells nilS zeroB) 39))
  obtain ⟨wz, hwz⟩ : ∃ W, W = (w.alloc (.cells (bcells s B) 39)).alloc (.cells (bcells nilS zeroB) 39) := ⟨_, rfl⟩
  have hsz : wz.heap.size = w.heap.size + 1 + 1 := by rw [hwz]; simp
  have b1 : Below w.heap.size w (w.alloc (.cells (bcells s B) 39)) := (Below.refl _ _).alloc (Nat.le_refl _) _
  have b2 : Below (w.alloc (.cells (bcells s B) 39)).heap.size (w.alloc (.cells (bcells s B) 39)) wz := by rw [hwz]; exact (Below.refl _ _).alloc (Nat.le_refl _) _
  have HX : Hid (Bx wz w.heap.size s B) := Lib.hid (Bx.below (w := w.alloc (.cells (bcells s B) 39)) (heap_alloc_new _ _) b2)
  have HZ : Hid (Bx wz (w.heap.size + 1) nilS zeroB) := Lib.hid (by rw [hwz, show w.heap.size + 1 = (w.alloc (.cells (bcells s B) 39)).heap.size by simp]; exact heap_alloc_new _ _)
  have HB : Hid (Below w.heap.size w wz) := Lib.hid (below_via b1 b2)
  rw [← hwz]
  clear hwz b1 b2
  clear hsz
  go_wp2_with (refine wpList_load_bx _ rfl rfl HX.out (by kernel_rfl) ?_)
  with_reducible refine (bvalid s B _ (HR.out.below HB.out) HK.out.i HK.out.sm).mono ?_
  rintro e w1 ⟨⟨r, rfl, hr⟩, hb⟩
  obtain rfl : r = true := hr.2 HV.out
  clear hr
  replace HX := Lib.hid (HX.out.below hb)
  replace HZ := Lib.hid (HZ.out.below hb)
  replace HB := Lib.hid (below_via HB.out hb)
  clear hb
  have c36 : w1.cell? ⟨w.heap.size, 36, none⟩ = some (.int .i64 B.ho) := HX.out.cell 36
  have c37 : w1.cell? ⟨w.heap.size, 37, none⟩ = some (.int .i64 B.pa) := HX.out.cell 37
  have pP := HX.out.lt
  go_upto_region 5 with fail
  refine rg17_5 (w0 := w1) (B := w1.heap.size) (n := w1.heap.size) (L := []) (E := fun _ => True) (F := fun _ => True) (by kernel_rfl) (by kernel_rfl) ⟨by go_grown, by go_size, (by simp [go_sem] <;> omega)⟩ trivial (fun _ _ _ _ => trivial) trivial (fun _ _ _ _ => trivial) (fun w21 K_w21 E_w21 F_w21 => ?_)
  have _ne : Nonempty (KX (w1.heap.size) w1 (w1.heap.size) [] (fun _ => True)) := ⟨⟨_, K_w21, E_w21⟩⟩
  repeat (go_big_quiet_step (fail))
  refine wpQuiet_nil ?_
  have ra : ∀ s : KX (w1.heap.size) w1 (w1.heap.size) [] (fun _ => True), s.val.cell? ⟨w.heap.size, 36, none⟩ = some (.int .i64 B.ho) := fun s => (s.kept.below.cell (p := ⟨w.heap.size, 36, none⟩) pP).trans c36
  have rb : ∀ s : KX (w1.heap.size) w1 (w1.heap.size) [] (fun _ => True), s.val.cell? ⟨w.heap.size, 37, none⟩ = some (.int .i64 B.pa) := fun s => (s.kept.below.cell (p := ⟨w.heap.size, 37, none⟩) pP).trans c37
  repeat (go_big_quiet_step (fail))
  refine wpQuiet_nil ?_
  clear ra rb
  repeat (go_big_quiet_step (fail))
  refine wpQuiet_nil ?_
  have ra : ∀ s : KX (w1.heap.size) w1 (w1.heap.size) [] (fun _ => True), s.val.cell? ⟨w.heap.size, 36, none⟩ = some (.int .i64 B.ho) := fun s => (s.kept.below.cell (p := ⟨w.heap.size, 36, none⟩) pP).trans c36
  have rb : ∀ s : KX (w1.heap.size) w1 (w1.heap.size) [] (fun _ => True), s.val.cell? ⟨w.heap.size, 37, none⟩ = some (.int .i64 B.pa) := fun s => (s.kept.below.cell (p := ⟨w.heap.size, 37, none⟩) pP).trans c37
  repeat (go_big_quiet_step (fail))
  refine wpQuiet_nil ?_
  clear ra rb
  repeat (go_big_quiet_step (fail))
  refine wpQuiet_nil ?_
  clear _ne
  have KH_w21 := Lib.hid K_w21
  have hw_w21 := K_w21.below
  have hz_w21 := K_w21.size
  clear K_w21
  clear E_w21 F_w21
  have hb := hw_w21
  replace HX := Lib.hid (HX.out.below hb)
  replace HZ := Lib.hid (HZ.out.below hb)
  replace HB := Lib.hid (below_via HB.out hb)
  clear hb hw_w21 hz_w21 KH_w21 c36 c37 pP
  have HW1 := Lib.hid hw1
  have HW2 := Lib.hid hw2
  clear hw1 hw2
  go_upto_region 9 with fail
  clear t0 t1 t2 t3
  go_wp2_with (refine wpList_load_bx _ rfl rfl HX.out (by kernel_rfl) ?_)
  with_reducible refine (give_ok s B ((-1 : Int)) ((0 : Int)) _ (HR.out.below HB.out) HK.out HV.out HA.out.1 HA.out.2).mono ?_
  rintro e w2 ⟨s', rfl, ho, hb⟩
  have HLO : Hid (w.heap.size + 1 + 1 ≤ w21.heap.size) := Lib.hid (by have := HZ.out.lt; omega)
  have HO0 := Lib.hid ho
  replace HX := Lib.hid (HX.out.below hb)
  replace HZ := Lib.hid (HZ.out.below hb)
  replace HB := Lib.hid (below_via HB.out hb)
  clear hb ho
  go_wp2_with (refine wpList_store_bh rfl _ _ rfl rfl rfl HX.out rfl ?_)
  intro w3 hw0
  have hw := hw0.out
  have hon : Onl [w.heap.size] w2 w3 := by rw [hw]; exact Onl.setRow (Onl.refl _ _) (.inl (by simp)) _
  replace HX : Hid (Bx w3 w.heap.size s' (giB B (-1) 0)) := Lib.hid (by rw [hw]; exact Bx.row HX.out s' _)
  have HO : Hid (BdO (w.heap.size + 1 + 1) w2.heap.size w3 s' (giB B (-1) 0)) := Lib.hid ((HO0.out.mono HLO.out (Nat.le_refl _)).keep (fun k a b => hon.block k b (by simp; omega)))
  replace HZ := Lib.hid (HZ.out.onl hon (by simp))
  replace HB := Lib.hid (belowOnl HB.out hon (by simp) HB.out.size)
  have HSZ : Hid (w2.heap.size ≤ w3.heap.size) := Lib.hid hon.size
  clear hw hw0 hon HO0
  go_wp2_with (first | (refine wpList_load_bx _ rfl rfl HX.out (by kernel_rfl) ?_) | (refine wpList_store_bh (s := s') (B := giB B (-1) 0) rfl _ _ rfl rfl rfl HZ.out rfl ?_; intro w9 hw9))
  have hg9 : Bx w9 (w.heap.size + 1) s' (giB B (-1) 0) := by rw [hw9.out]; exact Bx.row HZ.out _ _
  have ho9 : Onl [w.heap.size + 1] w3 w9 := by rw [hw9.out]; exact Onl.setRow (Onl.refl _ _) (.inl (by simp)) _
  have hb9 : Below w.heap.size w w9 := belowOnl HB.out ho9 (by simp) HB.out.size
  have HG9 := Lib.hid hg9
  have HPOST : Hid (BrP w (giB B (-1) 0) (.bool true) (.int .i64 0) (.returned (.tuple #[bv s' (giB B (-1) 0), .bool true, .int .i64 0])) w9) := Lib.hid ⟨_, rfl, (HO.out.keep (fun k a _ => ho9.block k (by have := HSZ.out; omega) (by simp; omega))).mono (by omega) (Nat.le_trans HSZ.out ho9.size), hb9⟩
  clear hw9 hg9 ho9 hb9
  go_wp2_with fail
  exact bodyPost_ret (v := .tuple #[bv s' (giB B (-1) 0), .bool true, .int .i64 0]) (results_b2 Tryd.results17 _ _ HG9.out rfl rfl rfl) rfl HPOST.out
set_option maxRecDepth 100000 in
set_option maxHeartbeats 4000000 in
theorem pass_one (s : Bs) (B : Bd) (w : World) (h : BdR w s B) (hk : B.Ok) (hv : VB B) (h1 : ¬ B.ho < 0) (h2 : B.pa = 0) : Calls Tryd.prog 17 #[bv s B] w (BrP w (giB B (1 - B.ho) (B.pa + 1)) (.bool false) (.int .i64 0)) := by
  have hn := hv.num
  unfold vNum at hn
  have t0 : decide (B.ho < 0) = false := decide_eq_false h1
  have t1 : decide (B.pa + 1 ≥ 2) = false := decide_eq_false (by omega)
  have hw1 : wrap64 (1 - B.ho) = 1 - B.ho := by unfold wrap64; omega
  have hw2 : wrap64 (B.pa + 1) = B.pa + 1 := by unfold wrap64; omega
  have t2 : decide (2 ≤ wrap64 (B.pa + 1)) = false := by rw [hw2]; exact decide_eq_false (by omega)
  have t3 : decide (wrap64 (B.pa + 1) ≥ 2) = false := by rw [hw2]; exact decide_eq_false (by omega)
  have HA : Hid ((-1 ≤ 1 - B.ho ∧ 1 - B.ho ≤ 1) ∧ (0 ≤ B.pa + 1 ∧ B.pa + 1 ≤ 2)) := Lib.hid (by omega)
  clear hn h1 h2
  have HR := Lib.hid h
  have HK := Lib.hid hk
  have HV := Lib.hid hv
  clear h hk hv
  go_enter Tryd.func17, Tryd.ntmps17
  go_upto_region 1 with fail
  change Code.wp Tryd.prog _ _ _ ((w.alloc (.cells (bcells s B) 39)).alloc (.cells (bcells nilS zeroB) 39))
  obtain ⟨wz, hwz⟩ : ∃ W, W = (w.alloc (.cells (bcells s B) 39)).alloc (.cells (bcells nilS zeroB) 39) := ⟨_, rfl⟩
  have hsz : wz.heap.size = w.heap.size + 1 + 1 := by rw [hwz]; simp
  have b1 : Below w.heap.size w (w.alloc (.cells (bcells s B) 39)) := (Below.refl _ _).alloc (Nat.le_refl _) _
  have b2 : Below (w.alloc (.cells (bcells s B) 39)).heap.size (w.alloc (.cells (bcells s B) 39)) wz := by rw [hwz]; exact (Below.refl _ _).alloc (Nat.le_refl _) _
  have HX : Hid (Bx wz w.heap.size s B) := Lib.hid (Bx.below (w := w.alloc (.cells (bcells s B) 39)) (heap_alloc_new _ _) b2)
  have HZ : Hid (Bx wz (w.heap.size + 1) nilS zeroB) := Lib.hid (by rw [hwz, show w.heap.size + 1 = (w.alloc (.cells (bcells s B) 39)).heap.size by simp]; exact heap_alloc_new _ _)
  have HB : Hid (Below w.heap.size w wz) := Lib.hid (below_via b1 b2)
  rw [← hwz]
  clear hwz b1 b2
  clear hsz
  go_wp2_with (refine wpList_load_bx _ rfl rfl HX.out (by kernel_rfl) ?_)
  with_reducible refine (bvalid s B _ (HR.out.below HB.out) HK.out.i HK.out.sm).mono ?_
  rintro e w1 ⟨⟨r, rfl, hr⟩, hb⟩
  obtain rfl : r = true := hr.2 HV.out
  clear hr
  replace HX := Lib.hid (HX.out.below hb)
  replace HZ := Lib.hid (HZ.out.below hb)
  replace HB := Lib.hid (below_via HB.out hb)
  clear hb
  have c36 : w1.cell? ⟨w.heap.size, 36, none⟩ = some (.int .i64 B.ho) := HX.out.cell 36
  have c37 : w1.cell? ⟨w.heap.size, 37, none⟩ = some (.int .i64 B.pa) := HX.out.cell 37
  have pP := HX.out.lt
  go_upto_region 5 with fail
  refine rg17_5 (w0 := w1) (B := w1.heap.size) (n := w1.heap.size) (L := []) (E := fun _ => True) (F := fun _ => True) (by kernel_rfl) (by kernel_rfl) ⟨by go_grown, by go_size, (by simp [go_sem] <;> omega)⟩ trivial (fun _ _ _ _ => trivial) trivial (fun _ _ _ _ => trivial) (fun w21 K_w21 E_w21 F_w21 => ?_)
  have _ne : Nonempty (KX (w1.heap.size) w1 (w1.heap.size) [] (fun _ => True)) := ⟨⟨_, K_w21, E_w21⟩⟩
  repeat (go_big_quiet_step (fail))
  refine wpQuiet_nil ?_
  have ra : ∀ s : KX (w1.heap.size) w1 (w1.heap.size) [] (fun _ => True), s.val.cell? ⟨w.heap.size, 36, none⟩ = some (.int .i64 B.ho) := fun s => (s.kept.below.cell (p := ⟨w.heap.size, 36, none⟩) pP).trans c36
  have rb : ∀ s : KX (w1.heap.size) w1 (w1.heap.size) [] (fun _ => True), s.val.cell? ⟨w.heap.size, 37, none⟩ = some (.int .i64 B.pa) := fun s => (s.kept.below.cell (p := ⟨w.heap.size, 37, none⟩) pP).trans c37
  repeat (go_big_quiet_step (fail))
  refine wpQuiet_nil ?_
  clear ra rb
  repeat (go_big_quiet_step (fail))
  refine wpQuiet_nil ?_
  have ra : ∀ s : KX (w1.heap.size) w1 (w1.heap.size) [] (fun _ => True), s.val.cell? ⟨w.heap.size, 36, none⟩ = some (.int .i64 B.ho) := fun s => (s.kept.below.cell (p := ⟨w.heap.size, 36, none⟩) pP).trans c36
  have rb : ∀ s : KX (w1.heap.size) w1 (w1.heap.size) [] (fun _ => True), s.val.cell? ⟨w.heap.size, 37, none⟩ = some (.int .i64 B.pa) := fun s => (s.kept.below.cell (p := ⟨w.heap.size, 37, none⟩) pP).trans c37
  repeat (go_big_quiet_step (fail))
  refine wpQuiet_nil ?_
  clear ra rb
  repeat (go_big_quiet_step (fail))
  refine wpQuiet_nil ?_
  clear _ne
  have KH_w21 := Lib.hid K_w21
  have hw_w21 := K_w21.below
  have hz_w21 := K_w21.size
  clear K_w21
  clear E_w21 F_w21
  have hb := hw_w21
  replace HX := Lib.hid (HX.out.below hb)
  replace HZ := Lib.hid (HZ.out.below hb)
  replace HB := Lib.hid (below_via HB.out hb)
  clear hb hw_w21 hz_w21 KH_w21 c36 c37 pP
  have HW1 := Lib.hid hw1
  have HW2 := Lib.hid hw2
  clear hw1 hw2
  go_upto_region 9 with fail
  clear t0 t1 t2 t3
  go_wp2_with (refine wpList_load_bx _ rfl rfl HX.out (by kernel_rfl) ?_)
  rw [HW1.out, HW2.out]
  with_reducible refine (give_ok s B (1 - B.ho) (B.pa + 1) _ (HR.out.below HB.out) HK.out HV.out HA.out.1 HA.out.2).mono ?_
  rintro e w2 ⟨s', rfl, ho, hb⟩
  have HLO : Hid (w.heap.size + 1 + 1 ≤ w21.heap.size) := Lib.hid (by have := HZ.out.lt; omega)
  have HO0 := Lib.hid ho
  replace HX := Lib.hid (HX.out.below hb)
  replace HZ := Lib.hid (HZ.out.below hb)
  replace HB := Lib.hid (below_via HB.out hb)
  clear hb ho
  go_wp2_with (refine wpList_store_bh rfl _ _ rfl rfl rfl HX.out rfl ?_)
  intro w3 hw0
  have hw := hw0.out
  have hon : Onl [w.heap.size] w2 w3 := by rw [hw]; exact Onl.setRow (Onl.refl _ _) (.inl (by simp)) _
  replace HX : Hid (Bx w3 w.heap.size s' (giB B (1 - B.ho) (B.pa + 1))) := Lib.hid (by rw [hw]; exact Bx.row HX.out s' _)
  have HO : Hid (BdO (w.heap.size + 1 + 1) w2.heap.size w3 s' (giB B (1 - B.ho) (B.pa + 1))) := Lib.hid ((HO0.out.mono HLO.out (Nat.le_refl _)).keep (fun k a b => hon.block k b (by simp; omega)))
  replace HZ := Lib.hid (HZ.out.onl hon (by simp))
  replace HB := Lib.hid (belowOnl HB.out hon (by simp) HB.out.size)
  have HSZ : Hid (w2.heap.size ≤ w3.heap.size) := Lib.hid hon.size
  clear hw hw0 hon HO0
  go_wp2_with (first | (refine wpList_load_bx _ rfl rfl HX.out (by kernel_rfl) ?_) | (refine wpList_store_bh (s := s') (B := giB B (1 - B.ho) (B.pa + 1)) rfl _ _ rfl rfl rfl HZ.out rfl ?_; intro w9 hw9))
  have hg9 : Bx w9 (w.heap.size + 1) s' (giB B (1 - B.ho) (B.pa + 1)) := by rw [hw9.out]; exact Bx.row HZ.out _ _
  have ho9 : Onl [w.heap.size + 1] w3 w9 := by rw [hw9.out]; exact Onl.setRow (Onl.refl _ _) (.inl (by simp)) _
  have hb9 : Below w.heap.size w w9 := belowOnl HB.out ho9 (by simp) HB.out.size
  have HG9 := Lib.hid hg9
  have HPOST : Hid (BrP w (giB B (1 - B.ho) (B.pa + 1)) (.bool false) (.int .i64 0) (.returned (.tuple #[bv s' (giB B (1 - B.ho) (B.pa + 1)), .bool false, .int .i64 0])) w9) := Lib.hid ⟨_, rfl, (HO.out.keep (fun k a _ => ho9.block k (by have := HSZ.out; omega) (by simp; omega))).mono (by omega) (Nat.le_trans HSZ.out ho9.size), hb9⟩
  clear hw9 hg9 ho9 hb9
  go_wp2_with fail
  exact bodyPost_ret (v := .tuple #[bv s' (giB B (1 - B.ho) (B.pa + 1)), .bool false, .int .i64 0]) (results_b2 Tryd.results17 _ _ HG9.out rfl rfl rfl) rfl HPOST.out
set_option maxRecDepth 100000 in
set_option maxHeartbeats 4000000 in
theorem pass_bad (s : Bs) (B : Bd) (w : World) (h : BdR w s B) (hk : B.Ok) (hv : ¬ VB B) : Calls Tryd.prog 17 #[bv s B] w (BrP w zeroB (.bool false) (.int .i64 2)) := by
  have HR := Lib.hid h
  have HK := Lib.hid hk
  have HV := Lib.hid hv
  clear h hk hv
  go_enter Tryd.func17, Tryd.ntmps17
  go_upto_region 1 with fail
  change Code.wp Tryd.prog _ _ _ ((w.alloc (.cells (bcells s B) 39)).alloc (.cells (bcells nilS zeroB) 39))
  obtain ⟨wz, hwz⟩ : ∃ W, W = (w.alloc (.cells (bcells s B) 39)).alloc (.cells (bcells nilS zeroB) 39) := ⟨_, rfl⟩
  have hsz : wz.heap.size = w.heap.size + 1 + 1 := by rw [hwz]; simp
  have b1 : Below w.heap.size w (w.alloc (.cells (bcells s B) 39)) := (Below.refl _ _).alloc (Nat.le_refl _) _
  have b2 : Below (w.alloc (.cells (bcells s B) 39)).heap.size (w.alloc (.cells (bcells s B) 39)) wz := by rw [hwz]; exact (Below.refl _ _).alloc (Nat.le_refl _) _
  have HX : Hid (Bx wz w.heap.size s B) := Lib.hid (Bx.below (w := w.alloc (.cells (bcells s B) 39)) (heap_alloc_new _ _) b2)
  have HZ : Hid (Bx wz (w.heap.size + 1) nilS zeroB) := Lib.hid (by rw [hwz, show w.heap.size + 1 = (w.alloc (.cells (bcells s B) 39)).heap.size by simp]; exact heap_alloc_new _ _)
  have HB : Hid (Below w.heap.size w wz) := Lib.hid (below_via b1 b2)
  rw [← hwz]
  clear hwz b1 b2
  clear hsz
  go_wp2_with (refine wpList_load_bx _ rfl rfl HX.out (by kernel_rfl) ?_)
  with_reducible refine (bvalid s B _ (HR.out.below HB.out) HK.out.i HK.out.sm).mono ?_
  rintro e w1 ⟨⟨r, rfl, hr⟩, hb⟩
  obtain rfl : r = false := by cases r with | false => rfl | true => exact absurd (hr.1 rfl) HV.out
  clear hr
  replace HX := Lib.hid (HX.out.below hb)
  replace HZ := Lib.hid (HZ.out.below hb)
  replace HB := Lib.hid (below_via HB.out hb)
  clear hb
  go_upto_region 2 with fail
  go_wp2_with (first | (refine wpList_store_bh (s := nilS) (B := zeroB) rfl _ _ rfl rfl rfl HZ.out rfl ?_; intro w9 hw9))
  have hg9 : Bx w9 (w.heap.size + 1) nilS (zeroB) := by rw [hw9.out]; exact Bx.row HZ.out _ _
  have ho9 : Onl [w.heap.size + 1] w1 w9 := by rw [hw9.out]; exact Onl.setRow (Onl.refl _ _) (.inl (by simp)) _
  have hb9 : Below w.heap.size w w9 := belowOnl HB.out ho9 (by simp) HB.out.size
  have HG9 := Lib.hid hg9
  have HPOST : Hid (BrP w (zeroB) (.bool false) (.int .i64 2) (.returned (.tuple #[bv nilS (zeroB), .bool false, .int .i64 2])) w9) := Lib.hid ⟨_, rfl, zeroOwn _ _ _, hb9⟩
  clear hw9 hg9 ho9 hb9
  go_wp2_with fail
  exact bodyPost_ret (v := .tuple #[bv nilS (zeroB), .bool false, .int .i64 2]) (results_b2 Tryd.results17 _ _ HG9.out rfl rfl rfl) rfl HPOST.out
set_option maxRecDepth 100000 in
set_option maxHeartbeats 4000000 in
theorem pass_state (s : Bs) (B : Bd) (w : World) (h : BdR w s B) (hk : B.Ok) (hv : VB B) (h1 : B.ho < 0) : Calls Tryd.prog 17 #[bv s B] w (BrP w zeroB (.bool false) (.int .i64 8)) := by
  have t0 : decide (B.ho < 0) = true := decide_eq_true h1
  clear h1
  have HR := Lib.hid h
  have HK := Lib.hid hk
  have HV := Lib.hid hv
  clear h hk hv
  go_enter Tryd.func17, Tryd.ntmps17
  go_upto_region 1 with fail
  change Code.wp Tryd.prog _ _ _ ((w.alloc (.cells (bcells s B) 39)).alloc (.cells (bcells nilS zeroB) 39))
  obtain ⟨wz, hwz⟩ : ∃ W, W = (w.alloc (.cells (bcells s B) 39)).alloc (.cells (bcells nilS zeroB) 39) := ⟨_, rfl⟩
  have hsz : wz.heap.size = w.heap.size + 1 + 1 := by rw [hwz]; simp
  have b1 : Below w.heap.size w (w.alloc (.cells (bcells s B) 39)) := (Below.refl _ _).alloc (Nat.le_refl _) _
  have b2 : Below (w.alloc (.cells (bcells s B) 39)).heap.size (w.alloc (.cells (bcells s B) 39)) wz := by rw [hwz]; exact (Below.refl _ _).alloc (Nat.le_refl _) _
  have HX : Hid (Bx wz w.heap.size s B) := Lib.hid (Bx.below (w := w.alloc (.cells (bcells s B) 39)) (heap_alloc_new _ _) b2)
  have HZ : Hid (Bx wz (w.heap.size + 1) nilS zeroB) := Lib.hid (by rw [hwz, show w.heap.size + 1 = (w.alloc (.cells (bcells s B) 39)).heap.size by simp]; exact heap_alloc_new _ _)
  have HB : Hid (Below w.heap.size w wz) := Lib.hid (below_via b1 b2)
  rw [← hwz]
  clear hwz b1 b2
  clear hsz
  go_wp2_with (refine wpList_load_bx _ rfl rfl HX.out (by kernel_rfl) ?_)
  with_reducible refine (bvalid s B _ (HR.out.below HB.out) HK.out.i HK.out.sm).mono ?_
  rintro e w1 ⟨⟨r, rfl, hr⟩, hb⟩
  obtain rfl : r = true := hr.2 HV.out
  clear hr
  replace HX := Lib.hid (HX.out.below hb)
  replace HZ := Lib.hid (HZ.out.below hb)
  replace HB := Lib.hid (below_via HB.out hb)
  clear hb
  have c36 : w1.cell? ⟨w.heap.size, 36, none⟩ = some (.int .i64 B.ho) := HX.out.cell 36
  go_upto_region 4 with fail
  clear c36 t0
  go_wp2_with (first | (refine wpList_store_bh (s := nilS) (B := zeroB) rfl _ _ rfl rfl rfl HZ.out rfl ?_; intro w9 hw9))
  have hg9 : Bx w9 (w.heap.size + 1) nilS (zeroB) := by rw [hw9.out]; exact Bx.row HZ.out _ _
  have ho9 : Onl [w.heap.size + 1] w1 w9 := by rw [hw9.out]; exact Onl.setRow (Onl.refl _ _) (.inl (by simp)) _
  have hb9 : Below w.heap.size w w9 := belowOnl HB.out ho9 (by simp) HB.out.size
  have HG9 := Lib.hid hg9
  have HPOST : Hid (BrP w (zeroB) (.bool false) (.int .i64 8) (.returned (.tuple #[bv nilS (zeroB), .bool false, .int .i64 8])) w9) := Lib.hid ⟨_, rfl, zeroOwn _ _ _, hb9⟩
  clear hw9 hg9 ho9 hb9
  go_wp2_with fail
  exact bodyPost_ret (v := .tuple #[bv nilS (zeroB), .bool false, .int .i64 8]) (results_b2 Tryd.results17 _ _ HG9.out rfl rfl rfl) rfl HPOST.out
theorem Bx.ro {w w' : World} {P : Nat} {s : Bs} {B : Bd} {C : Array Value} (h : w'.heap[P]? = some (.cells C 39 (0, 0))) (he : C = bcells s B) : Bx w' P s B := by rw [he] at h; exact h
theorem hset {w : World} {P : Nat} {C : Array Value} (h : w.heap[P]? = some (.cells C 39 (0, 0))) (i : Nat) (v : Value) : (w.setCell ⟨P, i, none⟩ v).heap[P]? = some (.cells (C.setIfInBounds i v) 39 (0, 0)) := heap_setCell_same w P i C 39 v h
theorem Bx.pool {w : World} {P : Nat} {s : Bs} {B : Bd} (h : Bx w P s B) {p : Nat} (hp : p < 2) : Bx (w.setCells P (1 + p * 14 + 1) [.int .i64 0, .int .i64 0, .int .i64 0, .int .i64 0]) P s (B.noPool p) := by
  have : p = 0 ∨ p = 1 := by omega
  rcases this with rfl | rfl
  · exact Bx.ro (w := w) (hset (hset (hset (hset h 2 (.int .i64 0)) 3 (.int .i64 0)) 4 (.int .i64 0)) 5 (.int .i64 0)) rfl
  · exact Bx.ro (w := w) (hset (hset (hset (hset h 16 (.int .i64 0)) 17 (.int .i64 0)) 18 (.int .i64 0)) 19 (.int .i64 0)) rfl
theorem il_noPool (B : Bd) {p : Nat} (hp : p < 2) {j : Nat} (hj : j < 9) : (B.noPool p).il j = B.il j := by
  have : p = 0 ∨ p = 1 := by omega
  rcases this with rfl | rfl <;> exact (match j, hj with
    | 0, _ => rfl
    | 1, _ => rfl
    | 2, _ => rfl
    | 3, _ => rfl
    | 4, _ => rfl
    | 5, _ => rfl
    | 6, _ => rfl
    | 7, _ => rfl
    | 8, _ => rfl)
theorem poolO {lo hi : Nat} {w : World} {s : Bs} {B : Bd} (h : BdO lo hi w s B) {p : Nat} (hp : p < 2) : BdO lo hi w s (B.noPool p) := by
  have e : (B.noPool p).ob = B.ob ∧ (B.noPool p).st = B.st ∧ (B.noPool p).qu = B.qu ∧ (B.noPool p).bl = B.bl := by
    unfold Plain.Bd.noPool
    split <;> exact ⟨rfl, rfl, rfl, rfl⟩
  exact ⟨by rw [e.1]; exact h.ob, fun j hj => by rw [il_noPool B hp hj]; exact h.il j hj, h.nd, by rw [e.2.1]; exact h.st, by rw [e.2.2.1]; exact h.qu, h.ns, by rw [e.2.2.2]; exact h.bl⟩
def clN (B : Bd) (k : Nat) : Bd := if k = 0 then B else if k = 1 then clP B 0 else clB B
theorem clN_succ (B : Bd) {p : Nat} (hp : p < 2) : clN B (p + 1) = clP (clN B p) p := by
  have : p = 0 ∨ p = 1 := by omega
  rcases this with rfl | rfl <;> rfl
/-- a box of ours with a board of our own, and the zero board beside it -/
structure BoxO (w : World) (lo hi : Nat) (s : Bs) (B : Bd) (wr : World) : Prop where
  below : Below w.heap.size w wr
  box : Bx wr w.heap.size s B
  res : Bx wr (w.heap.size + 1) nilS zeroB
  own : BdO lo hi wr s B
  hi : hi ≤ wr.heap.size
theorem BoxO.call {w : World} {lo hi : Nat} {s : Bs} {B : Bd} {wr w' : World} (h : BoxO w lo hi s B wr) (hb : Below wr.heap.size wr w') : BoxO w lo hi s B w' :=
  ⟨below_via h.below hb, h.box.below hb, h.res.below hb, h.own.below hb, Nat.le_trans h.hi hb.size⟩
/-- the box itself is written -/
theorem BoxO.put {w : World} {lo hi : Nat} {s s' : Bs} {B B' : Bd} {wr w' : World} (h : BoxO w lo hi s B wr) (hlo : w.heap.size + 1 + 1 ≤ lo) (ho : Onl [w.heap.size] wr w') (hx : Bx w' w.heap.size s' B') (hn : ∀ W, BdO lo hi W s B → BdO lo hi W s' B') : BoxO w lo hi s' B' w' :=
  ⟨belowOnl h.below ho (by simp) h.below.size, hx, h.res.onl ho (by simp), hn _ (h.own.keep (fun k a b => ho.block k (by have := h.hi; omega) (by simp; omega))), Nat.le_trans h.hi ho.size⟩
/-- rows of the board are written -/
theorem BoxO.ev {w : World} {lo hi : Nat} {s s' : Bs} {B B' : Bd} {wr w' : World} (h : BoxO w lo hi s B wr) (hlo : w.heap.size + 1 + 1 ≤ lo) (hr : Rng lo hi wr w') (hx : Bx w' w.heap.size s' B') (hn : BdO lo hi w' s' B') : BoxO w lo hi s' B' w' :=
  ⟨hr.below h.below (by omega) h.below.size, hx, (hr.block _ h.res.lt (by omega)).trans h.res, hn, Nat.le_trans h.hi hr.size⟩
def ClL (w : World) (lo hi : Nat) (s : Bs) (B : Bd) (v : Value) (wr : World) : Prop := ∃ p : Nat, p ≤ 2 ∧ v = .int .i64 p ∧ BoxO w lo hi s (clN B p) wr
theorem wpList_store_midL {P : Program} {ops : Array Oper} {rest : List Oper} {T ty : TypeId} {x y : Operand} {pos : String} {after : Array Edge} {a : Act} {w : World} {Q : Exit → Act → World → Prop} (b o : Nat) (cells : Array Value) (hx : a.eval x = .pointer (some ⟨b, o, none⟩)) (hy : a.eval y = .agg cells)
    (ht : w.there b o cells.size) (hi : (P.info? T).map (·.size) = some cells.size) (h1 : cells.all (·.oneCell') = true)
    (h : ∀ w', Hid (w' = w.setCells b o cells.toList) → wpList P ops Q rest (a.put none undef) w') : wpList P ops Q ({ dst := none, op := .store T x y, type := ty, pos := pos, after := after, guard := none } :: rest) a w :=
  wpList_store_mid rfl T x y rfl b o cells hx hy ht hi h1 (h _ (Lib.hid rfl))
theorem poolThere {w : World} {P : Nat} {s : Bs} {B : Bd} (h : Bx w P s B) {p : Nat} (hp : p < 2) : w.there P (1 + p * 14 + 1) 4 := fun j hj => ⟨by
  rw [h.cell]
  have : j = 0 ∨ j = 1 ∨ j = 2 ∨ j = 3 := by omega
  have : p = 0 ∨ p = 1 := by omega
  rcases this with rfl | rfl <;> rcases ‹j = 0 ∨ _› with rfl | rfl | rfl | rfl <;> rfl, h.free _⟩
set_option maxRecDepth 100000 in
set_option maxHeartbeats 4000000 in
theorem close_ok (s : Bs) (B : Bd) (w : World) (h : BdR w s B) (hk : B.Ok) (hv : VB B) : Calls Tryd.prog 22 #[bv s B] w (CpA w (clB B)) := by
  have HR := Lib.hid h
  have HK := Lib.hid hk
  have HV := Lib.hid hv
  clear h hk hv
  go_enter Tryd.func22, Tryd.ntmps22
  go_upto_region 1 with fail
  change Code.wp Tryd.prog _ _ _ ((w.alloc (.cells (bcells s B) 39)).alloc (.cells (bcells nilS zeroB) 39))
  obtain ⟨wz, hwz⟩ : ∃ W, W = (w.alloc (.cells (bcells s B) 39)).alloc (.cells (bcells nilS zeroB) 39) := ⟨_, rfl⟩
  have hsz : wz.heap.size = w.heap.size + 1 + 1 := by rw [hwz]; simp
  have b1 : Below w.heap.size w (w.alloc (.cells (bcells s B) 39)) := (Below.refl _ _).alloc (Nat.le_refl _) _
  have b2 : Below (w.alloc (.cells (bcells s B) 39)).heap.size (w.alloc (.cells (bcells s B) 39)) wz := by rw [hwz]; exact (Below.refl _ _).alloc (Nat.le_refl _) _
  have HX : Hid (Bx wz w.heap.size s B) := Lib.hid (Bx.below (w := w.alloc (.cells (bcells s B) 39)) (heap_alloc_new _ _) b2)
  have HZ : Hid (Bx wz (w.heap.size + 1) nilS zeroB) := Lib.hid (by rw [hwz, show w.heap.size + 1 = (w.alloc (.cells (bcells s B) 39)).heap.size by simp]; exact heap_alloc_new _ _)
  have HB : Hid (Below w.heap.size w wz) := Lib.hid (below_via b1 b2)
  rw [← hwz]
  clear hwz b1 b2
  clear hsz
  go_wp2_with (refine wpList_load_bx _ rfl rfl HX.out (by kernel_rfl) ?_)
  with_reducible refine (bvalid s B _ (HR.out.below HB.out) HK.out.i HK.out.sm).mono ?_
  rintro e w1 ⟨⟨r, rfl, hr⟩, hb⟩
  obtain rfl : r = true := hr.2 HV.out
  clear hr
  replace HX := Lib.hid (HX.out.below hb)
  replace HZ := Lib.hid (HZ.out.below hb)
  replace HB := Lib.hid (below_via HB.out hb)
  clear hb
  go_upto_region 3 with fail
  go_wp2_with (refine wpList_load_bx _ rfl rfl HX.out (by kernel_rfl) ?_)
  with_reducible refine (bcopy s B _ (HR.out.below HB.out) HK.out.sm ⟨HK.out.st, HK.out.qu⟩).mono ?_
  rintro e w2 ⟨s', rfl, ho, hb⟩
  have HLO : Hid (w.heap.size + 1 + 1 ≤ w1.heap.size) := Lib.hid (by have := HZ.out.lt; omega)
  have HO0 := Lib.hid ho
  replace HX := Lib.hid (HX.out.below hb)
  replace HZ := Lib.hid (HZ.out.below hb)
  replace HB := Lib.hid (below_via HB.out hb)
  clear hb ho
  go_wp2_with (refine wpList_store_bh rfl _ _ rfl rfl rfl HX.out rfl ?_)
  intro w3 hw0
  have hw := hw0.out
  have hon : Onl [w.heap.size] w2 w3 := by rw [hw]; exact Onl.setRow (Onl.refl _ _) (.inl (by simp)) _
  replace HX : Hid (Bx w3 w.heap.size s' B) := Lib.hid (by rw [hw]; exact Bx.row HX.out s' B)
  have HO : Hid (BdO (w.heap.size + 1 + 1) w2.heap.size w3 s' B) := Lib.hid ((HO0.out.mono HLO.out (Nat.le_refl _)).keep (fun k a b => hon.block k b (by simp; omega)))
  replace HZ := Lib.hid (HZ.out.onl hon (by simp))
  replace HB := Lib.hid (belowOnl HB.out hon (by simp) HB.out.size)
  have HSZ : Hid (w2.heap.size ≤ w3.heap.size) := Lib.hid hon.size
  clear hw hw0 hon HO0
  obtain ⟨lo, hlo⟩ : ∃ n, n = w.heap.size + 1 + 1 := ⟨_, rfl⟩
  obtain ⟨hi, hhi⟩ : ∃ n, n = w2.heap.size := ⟨_, rfl⟩
  have HLO2 : Hid (w.heap.size + 1 + 1 ≤ lo) := Lib.hid (by omega)
  have HST : Hid (BoxO w lo hi s' B w3) := Lib.hid ⟨HB.out, HX.out, HZ.out, by rw [hlo, hhi]; exact HO.out, by rw [hhi]; exact HSZ.out⟩
  clear hlo hhi HO HSZ HB HX HZ
  go_wp2_with fail
  go_loopw [10] (fun v wr => ClL w lo hi s' B v wr) (fun v _ => 2 - (intOf v).toNat)
  case atStart => exact ⟨0, by omega, rfl, HST.out⟩
  case round =>
    obtain ⟨p, hp, rfl, hst⟩ := hrel
    replace HST := Lib.hid hst
    clear hst
    by_cases hp2 : p < 2
    · have i1 : (0 : Int) ≤ (p : Int) := by omega
      have i2 : (p : Int) < 2 := by omega
      have HTH := Lib.hid (poolThere HST.out.box hp2)
      go_wp2_with (refine wpList_store_midL w.heap.size (1 + p * 14 + 1) #[.int .i64 0, .int .i64 0, .int .i64 0, .int .i64 0] rfl rfl HTH.out (by kernel_rfl) (by simp [Value.oneCell']) ?_)
      intro w5 hw0
      have hw := hw0.out
      have HS5 : Hid (BoxO w lo hi s' ((clN B p).noPool p) w5) := Lib.hid (HST.out.put HLO2.out (by rw [hw]; exact Onl.setCells _ _ _ (Onl.refl _ _) (.inl (by simp))) (by rw [hw]; exact HST.out.box.pool hp2) (fun W h => poolO h hp2))
      have HP2 := Lib.hid hp2
      clear hw hw0 HTH
      go_wp2_with fail
      with_reducible refine (everyRe w.heap.size s' _ p p lo hi _ HS5.out.box HS5.out.own (.inl (by have := HLO2.out; omega)) HS5.out.hi HP2.out rfl).mono ?_
      rintro e w6 ⟨rfl, hx6, ho6, hr6⟩
      have HS6 : Hid (BoxO w lo hi s' (clN B (p + 1)) w6) := Lib.hid (by rw [clN_succ B HP2.out]; exact HS5.out.ev HLO2.out hr6 hx6 ho6)
      clear hx6 ho6 hr6
      go_wp2_with fail
      go_roundw
      case rel => exact ⟨p + 1, by omega, by go_num, HS6.out⟩
      case measure => simp [intOf]; omega
    · obtain rfl : p = 2 := by omega
      have HX : Hid (Bx wr w.heap.size s' (clB B)) := Lib.hid HST.out.box
      have HZ := Lib.hid HST.out.res
      have HB := Lib.hid HST.out.below
      go_upto_region 10 with fail
      go_wp2_with (first | (refine wpList_load_bx _ rfl rfl HX.out (by kernel_rfl) ?_) | (refine wpList_store_bh (s := s') (B := clB B) rfl _ _ rfl rfl rfl HZ.out rfl ?_; intro w9 hw9))
      have hg9 : Bx w9 (w.heap.size + 1) s' (clB B) := by rw [hw9.out]; exact Bx.row HZ.out _ _
      have ho9 : Onl [w.heap.size + 1] wr w9 := by rw [hw9.out]; exact Onl.setRow (Onl.refl _ _) (.inl (by simp)) _
      have hb9 : Below w.heap.size w w9 := belowOnl HB.out ho9 (by simp) HB.out.size
      have HG9 := Lib.hid hg9
      have HPOST : Hid (CpA w (clB B) (.returned (bv s' (clB B))) w9) := Lib.hid ⟨_, rfl, (HST.out.own.keep (fun k a _ => ho9.block k (by have := HST.out.hi; omega) (by have := HLO2.out; simp; omega))).mono (by have := HLO2.out; omega) (Nat.le_trans HST.out.hi ho9.size), hb9⟩
      clear hw9 hg9 ho9 hb9
      go_wp2_with fail
      exact bodyPost_ret (v := bv s' (clB B)) (results_b0 Tryd.results22 _ _ HG9.out rfl) rfl HPOST.out

end Go.Proofs.YtkkpckkkcclhhaaDoor
