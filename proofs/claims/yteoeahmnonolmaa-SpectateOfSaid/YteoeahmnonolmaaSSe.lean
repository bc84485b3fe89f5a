/- Does See return what is public of a board. -/
import Derived.Test.YteoeahmnonolmaaSE5
import Derived.Test.YteoeahmnonolmaaSSm
import Derived.Test.YteoeahmnonolmaaSW
import Derived.Test.YteoeahmnonolmaaSSp
import Derived.Deep.DeepCutAuto
import Derived.LoopTactic
import Derived.Deep.MidRow
namespace Go.Proofs.Yteoeahmnonolmaa
open Go.RowKit Plain
set_option linter.unusedVariables false
set_option linter.unusedSimpArgs false

set_option maxRecDepth 100000 in
set_option maxHeartbeats 4000000 in
theorem sees_ok (pr : Value) (S : List Nat) (K : World → Prop) (hK : ∀ W W', K W → Below W.heap.size W W' → K W') (s : Bs) (B : Bd) (t at' no : Int) (w : World) (h : BdR w s B) (hi : B.I) (hsm : B.Sm) (hv : VB B) (hno : no = 0) (hS : ∀ k ∈ S, k < w.heap.size) (hbr : ∀ W, Onl S w W → BdR W s B) (hsee : ∀ W, Below w.heap.size w W → Calls Try.prog 12 #[pr, .int .u64 t] W fun e w' => SeA W S (puB B) at' no e w' ∧ K w') : Calls Try.prog 17 #[pr, .int .u64 t, bv s B, .int .u64 at', .int .i64 no] w fun e w' => e = .returned (.bool true) ∧ Onl S w w' ∧ K w' := by
  have HR := Lib.hid h
  have HI := Lib.hid hi
  have HSM := Lib.hid hsm
  have HV := Lib.hid hv
  have HSE := Lib.hid hsee
  have HKB := Lib.hid hK
  have HCH := Lib.hid hbr
  have HSS := Lib.hid hS
  subst hno
  clear h hi hsm hv hsee hK hS hbr
  go_enter Try.func17, Try.ntmps17
  go_upto_region 1 with fail
  change Code.wp Try.prog _ _ _ (w.alloc (.cells (bcells s B) 34))
  obtain ⟨wz, hwz⟩ : ∃ W, W = w.alloc (.cells (bcells s B) 34) := ⟨_, rfl⟩
  have HX : Hid (Bx wz w.heap.size s B) := Lib.hid (by rw [hwz]; exact heap_alloc_new _ _)
  have hb0 : Below w.heap.size w wz := by rw [hwz]; exact (Below.refl _ _).alloc (Nat.le_refl _) _
  have HB0 := Lib.hid hb0
  have HC := Lib.hid (HSE.out wz hb0)
  rw [← hwz]
  clear hwz hb0 HSE
  go_wp2_with fail
  with_reducible refine HC.out.mono ?_
  rintro e w2 ⟨⟨sp, rfl, hpo, hon⟩, hk⟩
  have HPO := Lib.hid hpo
  have HK := Lib.hid hk
  have HON : Hid (Onl S w w2) := Lib.hid ((Onl.of HB0.out).trans hon)
  replace HX := Lib.hid (HX.out.onl hon (fun hm => by have := HSS.out _ hm; omega))
  replace HR : Hid (BdR w2 s B) := Lib.hid (HCH.out w2 HON.out)
  clear hpo hon hk HC
  obtain ⟨q1, hq1⟩ : ∃ n, n = w2.heap.size := ⟨_, rfl⟩
  go_wp2_with (first | (refine wpList_store_ph (s := sp) (P := puB B) rfl _ _ rfl rfl rfl (heap_alloc_new _ _) rfl ?_; intro w9 hw9; have hb9 := (pboxed hw9.out).1; have HP1 := Lib.hid (pboxed hw9.out).2; have HBW : Hid (Below w2.heap.size w2 w9) := Lib.hid hb9; replace HX := Lib.hid (HX.out.below hb9); replace HR := Lib.hid (HR.out.below hb9); have HR1 : Hid (PuR w9 sp (puB B)) := Lib.hid (HPO.out.rd.below hb9); have HR0 : Hid (∀ W, Below w2.heap.size w2 W → PuR W sp (puB B)) := Lib.hid (fun W h => HPO.out.rd.below h); clear hw9 hb9 HPO) | (refine wpList_load_bx _ rfl rfl HX.out (by kernel_rfl) ?_))
  rw [← hq1] at HP1 ⊢
  clear hq1
  with_reducible refine (lpublic_ok s B _ HR.out HI.out HSM.out HV.out).mono ?_
  rintro e w3 ⟨sq, rfl, hpr, hb3⟩
  have HR2 := Lib.hid hpr
  replace HBW := Lib.hid (below_via HBW.out hb3)
  replace HP1 := Lib.hid (HP1.out.below hb3)
  replace HR1 := Lib.hid (HR1.out.below hb3)
  have HQL : Hid (q1 < w3.heap.size) := Lib.hid HP1.out.lt
  clear hpr hb3 HX HR
  obtain ⟨q2, hq2⟩ : ∃ n, n = w3.heap.size := ⟨_, rfl⟩
  go_wp2_with (first | (refine wpList_store_ph (s := sq) (P := puB B) rfl _ _ rfl rfl rfl (heap_alloc_new _ _) rfl ?_; intro w8 hw8; have hb8 := (pboxed hw8.out).1; have HP2 := Lib.hid (pboxed hw8.out).2; replace HBW := Lib.hid (below_via HBW.out hb8); replace HP1 := Lib.hid (HP1.out.below hb8); replace HR1 := Lib.hid (HR1.out.below hb8); replace HR2 := Lib.hid (HR2.out.below hb8); clear hw8 hb8) | (refine wpList_load_px _ rfl rfl HP1.out (by kernel_rfl) ?_) | (refine wpList_load_px _ rfl rfl HP2.out (by kernel_rfl) ?_))
  with_reducible refine (lsame_t sp sq _ _ _ HR1.out HR2.out rfl).mono ?_
  rintro e w6 ⟨r, rfl, hr, hb6⟩
  obtain rfl : r = true := hr.2 rfl
  have HPOST : Hid (Onl S w w6 ∧ K w6) := Lib.hid ⟨HON.out.grow (below_via HBW.out hb6), HKB.out _ _ HK.out (below_via HBW.out hb6)⟩
  clear hr hb6
  go_wp2_with fail
  go_returns
  exact ⟨rfl, HPOST.out.1, HPOST.out.2⟩
set_option maxRecDepth 100000 in
set_option maxHeartbeats 4000000 in
theorem sees_nov (pr : Value) (S : List Nat) (K : World → Prop) (hK : ∀ W W', K W → Below W.heap.size W W' → K W') (s : Bs) (B : Bd) (t at' no : Int) (w : World) (h : BdR w s B) (hi : B.I) (hsm : B.Sm) (hv : VB B) (hno : no ≠ 0) (hS : ∀ k ∈ S, k < w.heap.size) (hbr : ∀ W, Onl S w W → BdR W s B) (hsee : ∀ W, Below w.heap.size w W → Calls Try.prog 12 #[pr, .int .u64 t] W fun e w' => SeA W S (zeroPu) at' no e w' ∧ K w') : Calls Try.prog 17 #[pr, .int .u64 t, bv s B, .int .u64 at', .int .i64 no] w fun e w' => e = .returned (.bool true) ∧ Onl S w w' ∧ K w' := by
  have HR := Lib.hid h
  have HI := Lib.hid hi
  have HSM := Lib.hid hsm
  have HV := Lib.hid hv
  have HSE := Lib.hid hsee
  have HKB := Lib.hid hK
  have HCH := Lib.hid hbr
  have HSS := Lib.hid hS
  have tno : (no != 0) = true := by simpa using hno
  clear h hi hsm hv hsee hK hS hbr hno
  go_enter Try.func17, Try.ntmps17
  go_upto_region 1 with fail
  change Code.wp Try.prog _ _ _ (w.alloc (.cells (bcells s B) 34))
  obtain ⟨wz, hwz⟩ : ∃ W, W = w.alloc (.cells (bcells s B) 34) := ⟨_, rfl⟩
  have HX : Hid (Bx wz w.heap.size s B) := Lib.hid (by rw [hwz]; exact heap_alloc_new _ _)
  have hb0 : Below w.heap.size w wz := by rw [hwz]; exact (Below.refl _ _).alloc (Nat.le_refl _) _
  have HB0 := Lib.hid hb0
  have HC := Lib.hid (HSE.out wz hb0)
  rw [← hwz]
  clear hwz hb0 HSE
  go_wp2_with fail
  with_reducible refine HC.out.mono ?_
  rintro e w2 ⟨⟨sp, rfl, hpo, hon⟩, hk⟩
  have HPO := Lib.hid hpo
  have HK := Lib.hid hk
  have HON : Hid (Onl S w w2) := Lib.hid ((Onl.of HB0.out).trans hon)
  replace HX := Lib.hid (HX.out.onl hon (fun hm => by have := HSS.out _ hm; omega))
  replace HR : Hid (BdR w2 s B) := Lib.hid (HCH.out w2 HON.out)
  clear hpo hon hk HC
  obtain ⟨q1, hq1⟩ : ∃ n, n = w2.heap.size := ⟨_, rfl⟩
  go_wp2_with (first | (refine wpList_store_ph (s := sp) (P := zeroPu) rfl _ _ rfl rfl rfl (heap_alloc_new _ _) rfl ?_; intro w9 hw9; have hb9 := (pboxed hw9.out).1; have HP1 := Lib.hid (pboxed hw9.out).2; have HBW : Hid (Below w2.heap.size w2 w9) := Lib.hid hb9; replace HX := Lib.hid (HX.out.below hb9); replace HR := Lib.hid (HR.out.below hb9); have HR1 : Hid (PuR w9 sp (zeroPu)) := Lib.hid (HPO.out.rd.below hb9); have HR0 : Hid (∀ W, Below w2.heap.size w2 W → PuR W sp (zeroPu)) := Lib.hid (fun W h => HPO.out.rd.below h); clear hw9 hb9 HPO) | (refine wpList_load_bx _ rfl rfl HX.out (by kernel_rfl) ?_))
  rw [← hq1] at HP1 ⊢
  clear hq1
  with_reducible refine (lpublic_ok s B _ HR.out HI.out HSM.out HV.out).mono ?_
  rintro e w3 ⟨sq, rfl, hpr, hb3⟩
  have HR2 := Lib.hid hpr
  replace HBW := Lib.hid (below_via HBW.out hb3)
  replace HP1 := Lib.hid (HP1.out.below hb3)
  replace HR1 := Lib.hid (HR1.out.below hb3)
  have HQL : Hid (q1 < w3.heap.size) := Lib.hid HP1.out.lt
  clear hpr hb3 HX HR
  obtain ⟨q2, hq2⟩ : ∃ n, n = w3.heap.size := ⟨_, rfl⟩
  have HSW : Hid (w2.heap.size ≤ w3.heap.size) := Lib.hid HBW.out.size
  go_wp2_with (first | (refine wpList_store_ph (s := sq) (P := puB B) rfl _ _ rfl rfl rfl (heap_alloc_new _ _) rfl ?_; intro w8 hw8; have hb8 := (pboxed hw8.out).1; have HP2 := Lib.hid (pboxed hw8.out).2; replace HBW := Lib.hid (below_via HBW.out hb8); replace HP1 := Lib.hid (HP1.out.below hb8); replace HR1 := Lib.hid (HR1.out.below hb8); clear hw8 hb8) | (refine wpList_store_ph (s := nilPs) (P := zeroPu) rfl _ _ rfl rfl rfl HP2.out rfl ?_; intro w7 hw7; have ho7 : Onl [w3.heap.size] _ w7 := (by rw [hw7.out]; exact Onl.setRow (Onl.refl _ _) (.inl (by simp)) _); replace HR1 := Lib.hid (HR0.out _ (belowOnl HBW.out ho7 (by have := HSW.out; simp; omega) HBW.out.size)); replace HP1 := Lib.hid (HP1.out.onl ho7 (by have := HQL.out; simp; omega)); replace HBW := Lib.hid (belowOnl HBW.out ho7 (by have := HSW.out; simp; omega) HBW.out.size); replace HP2 := Lib.hid (Px.row HP2.out nilPs zeroPu); rw [← hw7.out] at HP2; clear hw7 ho7) | (refine wpList_load_px _ rfl rfl HP1.out (by kernel_rfl) ?_) | (refine wpList_load_px _ rfl rfl HP2.out (by kernel_rfl) ?_))
  with_reducible refine (lsame_t sp nilPs _ _ _ HR1.out (PuO.zero 0 0 _).rd rfl).mono ?_
  rintro e w6 ⟨r, rfl, hr, hb6⟩
  obtain rfl : r = true := hr.2 rfl
  have HPOST : Hid (Onl S w w6 ∧ K w6) := Lib.hid ⟨HON.out.grow (below_via HBW.out hb6), HKB.out _ _ HK.out (below_via HBW.out hb6)⟩
  clear hr hb6
  go_wp2_with fail
  go_returns
  exact ⟨rfl, HPOST.out.1, HPOST.out.2⟩
set_option maxRecDepth 100000 in
set_option maxHeartbeats 4000000 in
theorem sees_nob (pr : Value) (S : List Nat) (K : World → Prop) (hK : ∀ W W', K W → Below W.heap.size W W' → K W') (s : Bs) (B : Bd) (t at' no : Int) (w : World) (h : BdR w s B) (hi : B.I) (hsm : B.Sm) (hv : ¬ VB B) (hno : no ≠ 0) (hS : ∀ k ∈ S, k < w.heap.size) (hbr : ∀ W, Onl S w W → BdR W s B) (hsee : ∀ W, Below w.heap.size w W → Calls Try.prog 12 #[pr, .int .u64 t] W fun e w' => SeA W S (zeroPu) at' no e w' ∧ K w') : Calls Try.prog 17 #[pr, .int .u64 t, bv s B, .int .u64 at', .int .i64 no] w fun e w' => e = .returned (.bool true) ∧ Onl S w w' ∧ K w' := by
  have HR := Lib.hid h
  have HI := Lib.hid hi
  have HSM := Lib.hid hsm
  have HV := Lib.hid hv
  have HSE := Lib.hid hsee
  have HKB := Lib.hid hK
  have HCH := Lib.hid hbr
  have HSS := Lib.hid hS
  have tno : (no != 0) = true := by simpa using hno
  clear h hi hsm hv hsee hK hS hbr hno
  go_enter Try.func17, Try.ntmps17
  go_upto_region 1 with fail
  change Code.wp Try.prog _ _ _ (w.alloc (.cells (bcells s B) 34))
  obtain ⟨wz, hwz⟩ : ∃ W, W = w.alloc (.cells (bcells s B) 34) := ⟨_, rfl⟩
  have HX : Hid (Bx wz w.heap.size s B) := Lib.hid (by rw [hwz]; exact heap_alloc_new _ _)
  have hb0 : Below w.heap.size w wz := by rw [hwz]; exact (Below.refl _ _).alloc (Nat.le_refl _) _
  have HB0 := Lib.hid hb0
  have HC := Lib.hid (HSE.out wz hb0)
  rw [← hwz]
  clear hwz hb0 HSE
  go_wp2_with fail
  with_reducible refine HC.out.mono ?_
  rintro e w2 ⟨⟨sp, rfl, hpo, hon⟩, hk⟩
  have HPO := Lib.hid hpo
  have HK := Lib.hid hk
  have HON : Hid (Onl S w w2) := Lib.hid ((Onl.of HB0.out).trans hon)
  replace HX := Lib.hid (HX.out.onl hon (fun hm => by have := HSS.out _ hm; omega))
  replace HR : Hid (BdR w2 s B) := Lib.hid (HCH.out w2 HON.out)
  clear hpo hon hk HC
  obtain ⟨q1, hq1⟩ : ∃ n, n = w2.heap.size := ⟨_, rfl⟩
  go_wp2_with (first | (refine wpList_store_ph (s := sp) (P := zeroPu) rfl _ _ rfl rfl rfl (heap_alloc_new _ _) rfl ?_; intro w9 hw9; have hb9 := (pboxed hw9.out).1; have HP1 := Lib.hid (pboxed hw9.out).2; have HBW : Hid (Below w2.heap.size w2 w9) := Lib.hid hb9; replace HX := Lib.hid (HX.out.below hb9); replace HR := Lib.hid (HR.out.below hb9); have HR1 : Hid (PuR w9 sp (zeroPu)) := Lib.hid (HPO.out.rd.below hb9); have HR0 : Hid (∀ W, Below w2.heap.size w2 W → PuR W sp (zeroPu)) := Lib.hid (fun W h => HPO.out.rd.below h); clear hw9 hb9 HPO) | (refine wpList_load_bx _ rfl rfl HX.out (by kernel_rfl) ?_))
  rw [← hq1] at HP1 ⊢
  clear hq1
  with_reducible refine (lpublic_bad s B _ HR.out HI.out HSM.out HV.out).mono ?_
  rintro e w3 ⟨sq, rfl, hpr, hb3⟩
  have HR2 := Lib.hid hpr
  replace HBW := Lib.hid (below_via HBW.out hb3)
  replace HP1 := Lib.hid (HP1.out.below hb3)
  replace HR1 := Lib.hid (HR1.out.below hb3)
  have HQL : Hid (q1 < w3.heap.size) := Lib.hid HP1.out.lt
  clear hpr hb3 HX HR
  obtain ⟨q2, hq2⟩ : ∃ n, n = w3.heap.size := ⟨_, rfl⟩
  have HSW : Hid (w2.heap.size ≤ w3.heap.size) := Lib.hid HBW.out.size
  go_wp2_with (first | (refine wpList_store_ph (s := sq) (P := zeroPu) rfl _ _ rfl rfl rfl (heap_alloc_new _ _) rfl ?_; intro w8 hw8; have hb8 := (pboxed hw8.out).1; have HP2 := Lib.hid (pboxed hw8.out).2; replace HBW := Lib.hid (below_via HBW.out hb8); replace HP1 := Lib.hid (HP1.out.below hb8); replace HR1 := Lib.hid (HR1.out.below hb8); clear hw8 hb8) | (refine wpList_store_ph (s := nilPs) (P := zeroPu) rfl _ _ rfl rfl rfl HP2.out rfl ?_; intro w7 hw7; have ho7 : Onl [w3.heap.size] _ w7 := (by rw [hw7.out]; exact Onl.setRow (Onl.refl _ _) (.inl (by simp)) _); replace HR1 := Lib.hid (HR0.out _ (belowOnl HBW.out ho7 (by have := HSW.out; simp; omega) HBW.out.size)); replace HP1 := Lib.hid (HP1.out.onl ho7 (by have := HQL.out; simp; omega)); replace HBW := Lib.hid (belowOnl HBW.out ho7 (by have := HSW.out; simp; omega) HBW.out.size); replace HP2 := Lib.hid (Px.row HP2.out nilPs zeroPu); rw [← hw7.out] at HP2; clear hw7 ho7) | (refine wpList_load_px _ rfl rfl HP1.out (by kernel_rfl) ?_) | (refine wpList_load_px _ rfl rfl HP2.out (by kernel_rfl) ?_))
  with_reducible refine (lsame_t sp nilPs _ _ _ HR1.out (PuO.zero 0 0 _).rd rfl).mono ?_
  rintro e w6 ⟨r, rfl, hr, hb6⟩
  obtain rfl : r = true := hr.2 rfl
  have HPOST : Hid (Onl S w w6 ∧ K w6) := Lib.hid ⟨HON.out.grow (below_via HBW.out hb6), HKB.out _ _ HK.out (below_via HBW.out hb6)⟩
  clear hr hb6
  go_wp2_with fail
  go_returns
  exact ⟨rfl, HPOST.out.1, HPOST.out.2⟩
end Go.Proofs.Yteoeahmnonolmaa
