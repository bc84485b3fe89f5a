/-
  PROVED: the law StrikeNone returns true for every input, and its arguments read afterwards as they read before (Rows.StrikeNoneSaid). CONDITIONS: none.
-/
import Derived.Test.YtobkgdhniibopaaRows
import Derived.Test.YtobkgdhniibopaaMore
import Derived.WalkKit
import Derived.ProofKit
import Derived.OpenShut
import Derived.Lib.SmallJoins
import Derived.Carry
namespace Go.Proofs.Ytobkgdhniibopaa.strikeNone
open Go.ChangeShapes Go.WideShapes Go.ChangeAt Go.RowKit Go.WideMaps Go.WideElems
set_option linter.unusedVariables false
set_option linter.unusedSimpArgs false

theorem own : ownKnob Try.prog.godebug = none := by kernel_rfl
theorem laidOut : laidOutB Try.prog = true := by kernel_rfl
open Plain

set_option maxRecDepth 100000 in
set_option maxHeartbeats 4000000 in
theorem walk (a0 : Int) (a1 : Int) (w : World) (w0 : (Lit.int .i64 a0).wf = true) (w1 : (Lit.int .u64 a1).wf = true) :
    Calls Try.prog 7 #[.int .i64 a0, .int .u64 a1] w fun e w' => e = .returned (.bool true) ∧ Below w.heap.size w w' := by
  have HZ : BookAt (w.alloc (.cells #[.int .i64 0, .int .u64 0, .bool false, .int .u64 0, .int .i64 0, .bool false, .bool false, .int .u64 0, .int .i64 0, .bool false] 63)) w.heap.size (⟨0, 0, false, 0, 0, false, false, 0, 0, false⟩ : Bk) := BookAt.new w (⟨0, 0, false, 0, 0, false, false, 0, 0, false⟩ : Bk)
  have HB := Lib.hid HZ
  clear HZ w0 w1
  go_enter Try.func7, Try.ntmps7
  go_wp2_with fail
  refine wp_loop_rounds 3 ?_
  rw [rounds_succ]
  go_wp2_with fail
  with_reducible refine (strikes25_nil a0 _).mono ?_
  rintro e w1 ⟨rfl, hb_w1⟩
  have K_w1 : Kept w.heap.size w (w.heap.size + 2) [(w.heap.size + 1, 0, .pointer none), (w.heap.size + 1, 1, .pointer (some ⟨w.heap.size, 0, none⟩))] w1 := Kept.of hb_w1 (by go_grown) (by go_size) (by omega) (by simp [go_sem] <;> omega)
  replace HB := Lib.hid ((HB.out.below (by go_grown)).below hb_w1)
  clear hb_w1
  have KH_w1 := Lib.hid K_w1
  have hw_w1 := K_w1.below
  have hz_w1 := K_w1.size
  have lS_w1 : w.heap.size + 1 < w1.heap.size := by omega
  clear K_w1
  go_wp2_with fail
  with_reducible refine (answer23_nil a0 _).mono ?_
  rintro e w2 ⟨rfl, hb_w2⟩
  have K_w2 : Kept w.heap.size w (w.heap.size + 2) [(w.heap.size + 1, 0, .pointer none), (w.heap.size + 1, 1, .pointer (some ⟨w.heap.size, 0, none⟩))] w2 := (KH_w1.out.step (by omega) (by go_grown)).step (by omega) hb_w2
  replace HB := Lib.hid (HB.out.below hb_w2)
  clear hb_w2
  have KH_w2 := Lib.hid K_w2
  have hw_w2 := K_w2.below
  have hz_w2 := K_w2.size
  have lS_w2 : w.heap.size + 1 < w2.heap.size := by omega
  clear lS_w1
  clear K_w2
  go_wp2_with fail
  with_reducible refine (join14_nil a0 a1 _).mono ?_
  rintro e w3 ⟨rfl, hb_w3⟩
  have K_w3 : Kept w.heap.size w (w.heap.size + 2) [(w.heap.size + 1, 0, .pointer none), (w.heap.size + 1, 1, .pointer (some ⟨w.heap.size, 0, none⟩))] w3 := (KH_w2.out.step (by omega) (by go_grown)).step (by omega) hb_w3
  replace HB := Lib.hid (HB.out.below hb_w3)
  clear hb_w3
  have KH_w3 := Lib.hid K_w3
  have hw_w3 := K_w3.below
  have hz_w3 := K_w3.size
  have lS_w3 : w.heap.size + 1 < w3.heap.size := by omega
  clear lS_w2
  clear K_w3
  go_wp2_with fail
  with_reducible refine (leave16_nil a0 a1 _).mono ?_
  rintro e w4 ⟨rfl, hb_w4⟩
  have K_w4 : Kept w.heap.size w (w.heap.size + 2) [(w.heap.size + 1, 0, .pointer none), (w.heap.size + 1, 1, .pointer (some ⟨w.heap.size, 0, none⟩))] w4 := (KH_w3.out.step (by omega) (by go_grown)).step (by omega) hb_w4
  replace HB := Lib.hid (HB.out.below hb_w4)
  clear hb_w4
  have KH_w4 := Lib.hid K_w4
  have hw_w4 := K_w4.below
  have hz_w4 := K_w4.size
  have lS_w4 : w.heap.size + 1 < w4.heap.size := by omega
  clear lS_w3
  clear K_w4
  go_wp2_with fail
  with_reducible refine (auto20_nil a0 _).mono ?_
  rintro e w5 ⟨rfl, hb_w5⟩
  have K_w5 : Kept w.heap.size w (w.heap.size + 2) [(w.heap.size + 1, 0, .pointer none), (w.heap.size + 1, 1, .pointer (some ⟨w.heap.size, 0, none⟩))] w5 := (KH_w4.out.step (by omega) (by go_grown)).step (by omega) hb_w5
  replace HB := Lib.hid (HB.out.below hb_w5)
  clear hb_w5
  have KH_w5 := Lib.hid K_w5
  have hw_w5 := K_w5.below
  have hz_w5 := K_w5.size
  have lS_w5 : w.heap.size + 1 < w5.heap.size := by omega
  clear lS_w4
  clear K_w5
  go_wp2_with fail
  with_reducible refine (strikes21_nil a0 _).mono ?_
  rintro e w6 ⟨rfl, hb_w6⟩
  have K_w6 : Kept w.heap.size w (w.heap.size + 2) [(w.heap.size + 1, 0, .pointer none), (w.heap.size + 1, 1, .pointer (some ⟨w.heap.size, 0, none⟩))] w6 := (KH_w5.out.step (by omega) (by go_grown)).step (by omega) hb_w6
  replace HB := Lib.hid (HB.out.below hb_w6)
  clear hb_w6
  have KH_w6 := Lib.hid K_w6
  have hw_w6 := K_w6.below
  have hz_w6 := K_w6.size
  have lS_w6 : w.heap.size + 1 < w6.heap.size := by omega
  clear lS_w5
  clear K_w6
  go_wp2_with fail
  with_reducible refine (here18_nil a0 _).mono ?_
  rintro e w7 ⟨rfl, hb_w7⟩
  have K_w7 : Kept w.heap.size w (w.heap.size + 2) [(w.heap.size + 1, 0, .pointer none), (w.heap.size + 1, 1, .pointer (some ⟨w.heap.size, 0, none⟩))] w7 := (KH_w6.out.step (by omega) (by go_grown)).step (by omega) hb_w7
  replace HB := Lib.hid (HB.out.below hb_w7)
  clear hb_w7
  have KH_w7 := Lib.hid K_w7
  have hw_w7 := K_w7.below
  have hz_w7 := K_w7.size
  have lS_w7 : w.heap.size + 1 < w7.heap.size := by omega
  clear lS_w6
  clear K_w7
  go_wp2_with fail
  with_reducible refine (due19_nil a0 _).mono ?_
  rintro e w8 ⟨rfl, hb_w8⟩
  have K_w8 : Kept w.heap.size w (w.heap.size + 2) [(w.heap.size + 1, 0, .pointer none), (w.heap.size + 1, 1, .pointer (some ⟨w.heap.size, 0, none⟩))] w8 := (KH_w7.out.step (by omega) (by go_grown)).step (by omega) hb_w8
  replace HB := Lib.hid (HB.out.below hb_w8)
  clear hb_w8
  have KH_w8 := Lib.hid K_w8
  have hw_w8 := K_w8.below
  have hz_w8 := K_w8.size
  have lS_w8 : w.heap.size + 1 < w8.heap.size := by omega
  clear lS_w7
  clear K_w8
  go_wp2_with fail
  with_reducible refine (lost15_nil a1 _).mono ?_
  rintro e w9 ⟨rfl, hb_w9⟩
  have K_w9 : Kept w.heap.size w (w.heap.size + 2) [(w.heap.size + 1, 0, .pointer none), (w.heap.size + 1, 1, .pointer (some ⟨w.heap.size, 0, none⟩))] w9 := (KH_w8.out.step (by omega) (by go_grown)).step (by omega) hb_w9
  replace HB := Lib.hid (HB.out.below hb_w9)
  clear hb_w9
  have KH_w9 := Lib.hid K_w9
  have hw_w9 := K_w9.below
  have hz_w9 := K_w9.size
  have lS_w9 : w.heap.size + 1 < w9.heap.size := by omega
  clear lS_w8
  clear K_w9
  go_wp2_with fail
  with_reducible refine (copy26_nil _).mono ?_
  rintro e w10 ⟨rfl, hb_w10⟩
  have K_w10 : Kept w.heap.size w (w.heap.size + 2) [(w.heap.size + 1, 0, .pointer none), (w.heap.size + 1, 1, .pointer (some ⟨w.heap.size, 0, none⟩))] w10 := (KH_w9.out.step (by omega) (by go_grown)).step (by omega) hb_w10
  replace HB := Lib.hid (HB.out.below hb_w10)
  clear hb_w10
  have KH_w10 := Lib.hid K_w10
  have hw_w10 := K_w10.below
  have hz_w10 := K_w10.size
  have lS_w10 : w.heap.size + 1 < w10.heap.size := by omega
  clear lS_w9
  clear K_w10
  have cS0_w10 := KH_w10.out.at (b := w.heap.size + 1) (o := 0) (v := .pointer none) (by simp)
  have fS0_w10 := KH_w10.out.free (b := w.heap.size + 1) (o := 0) (v := .pointer none) (by simp)
  have cS1_w10 := KH_w10.out.at (b := w.heap.size + 1) (o := 1) (v := .pointer (some ⟨w.heap.size, 0, none⟩)) (by simp)
  have fS1_w10 := KH_w10.out.free (b := w.heap.size + 1) (o := 1) (v := .pointer (some ⟨w.heap.size, 0, none⟩)) (by simp)
  go_wp2_with fail
  rw [rounds_succ]
  go_wp2_with fail
  with_reducible refine (strikes25_zero w.heap.size (⟨0, 0, false, 0, 0, false, false, 0, 0, false⟩ : Bk) a0 _ HB.out rfl rfl).mono ?_
  rintro e w11 ⟨rfl, hb_w11⟩
  have K_w11 : Kept w.heap.size w (w.heap.size + 2) [(w.heap.size + 1, 0, .pointer none), (w.heap.size + 1, 1, .pointer (some ⟨w.heap.size, 0, none⟩))] w11 := (KH_w10.out.step (by omega) (by go_grown)).step (by omega) hb_w11
  replace HB := Lib.hid (HB.out.below hb_w11)
  clear hb_w11
  have KH_w11 := Lib.hid K_w11
  have hw_w11 := K_w11.below
  have hz_w11 := K_w11.size
  have lS_w11 : w.heap.size + 1 < w11.heap.size := by omega
  clear lS_w10 cS0_w10 fS0_w10 cS1_w10 fS1_w10
  clear K_w11
  go_wp2_with fail
  with_reducible refine (answer23_zero w.heap.size (⟨0, 0, false, 0, 0, false, false, 0, 0, false⟩ : Bk) a0 _ HB.out rfl rfl).mono ?_
  rintro e w12 ⟨rfl, hb_w12⟩
  have K_w12 : Kept w.heap.size w (w.heap.size + 2) [(w.heap.size + 1, 0, .pointer none), (w.heap.size + 1, 1, .pointer (some ⟨w.heap.size, 0, none⟩))] w12 := (KH_w11.out.step (by omega) (by go_grown)).step (by omega) hb_w12
  replace HB := Lib.hid (HB.out.below hb_w12)
  clear hb_w12
  have KH_w12 := Lib.hid K_w12
  have hw_w12 := K_w12.below
  have hz_w12 := K_w12.size
  have lS_w12 : w.heap.size + 1 < w12.heap.size := by omega
  clear lS_w11
  clear K_w12
  go_wp2_with fail
  with_reducible refine (join14_zero w.heap.size (⟨0, 0, false, 0, 0, false, false, 0, 0, false⟩ : Bk) a0 a1 _ HB.out rfl rfl).mono ?_
  rintro e w13 ⟨rfl, hb_w13⟩
  have K_w13 : Kept w.heap.size w (w.heap.size + 2) [(w.heap.size + 1, 0, .pointer none), (w.heap.size + 1, 1, .pointer (some ⟨w.heap.size, 0, none⟩))] w13 := (KH_w12.out.step (by omega) (by go_grown)).step (by omega) hb_w13
  replace HB := Lib.hid (HB.out.below hb_w13)
  clear hb_w13
  have KH_w13 := Lib.hid K_w13
  have hw_w13 := K_w13.below
  have hz_w13 := K_w13.size
  have lS_w13 : w.heap.size + 1 < w13.heap.size := by omega
  clear lS_w12
  clear K_w13
  go_wp2_with fail
  with_reducible refine (leave16_zero w.heap.size (⟨0, 0, false, 0, 0, false, false, 0, 0, false⟩ : Bk) a0 a1 _ HB.out rfl rfl).mono ?_
  rintro e w14 ⟨rfl, hb_w14⟩
  have K_w14 : Kept w.heap.size w (w.heap.size + 2) [(w.heap.size + 1, 0, .pointer none), (w.heap.size + 1, 1, .pointer (some ⟨w.heap.size, 0, none⟩))] w14 := (KH_w13.out.step (by omega) (by go_grown)).step (by omega) hb_w14
  replace HB := Lib.hid (HB.out.below hb_w14)
  clear hb_w14
  have KH_w14 := Lib.hid K_w14
  have hw_w14 := K_w14.below
  have hz_w14 := K_w14.size
  have lS_w14 : w.heap.size + 1 < w14.heap.size := by omega
  clear lS_w13
  clear K_w14
  go_wp2_with fail
  with_reducible refine (auto20_zero w.heap.size (⟨0, 0, false, 0, 0, false, false, 0, 0, false⟩ : Bk) a0 _ HB.out rfl rfl).mono ?_
  rintro e w15 ⟨rfl, hb_w15⟩
  have K_w15 : Kept w.heap.size w (w.heap.size + 2) [(w.heap.size + 1, 0, .pointer none), (w.heap.size + 1, 1, .pointer (some ⟨w.heap.size, 0, none⟩))] w15 := (KH_w14.out.step (by omega) (by go_grown)).step (by omega) hb_w15
  replace HB := Lib.hid (HB.out.below hb_w15)
  clear hb_w15
  have KH_w15 := Lib.hid K_w15
  have hw_w15 := K_w15.below
  have hz_w15 := K_w15.size
  have lS_w15 : w.heap.size + 1 < w15.heap.size := by omega
  clear lS_w14
  clear K_w15
  go_wp2_with fail
  with_reducible refine (strikes21_zero w.heap.size (⟨0, 0, false, 0, 0, false, false, 0, 0, false⟩ : Bk) a0 _ HB.out rfl rfl).mono ?_
  rintro e w16 ⟨rfl, hb_w16⟩
  have K_w16 : Kept w.heap.size w (w.heap.size + 2) [(w.heap.size + 1, 0, .pointer none), (w.heap.size + 1, 1, .pointer (some ⟨w.heap.size, 0, none⟩))] w16 := (KH_w15.out.step (by omega) (by go_grown)).step (by omega) hb_w16
  replace HB := Lib.hid (HB.out.below hb_w16)
  clear hb_w16
  have KH_w16 := Lib.hid K_w16
  have hw_w16 := K_w16.below
  have hz_w16 := K_w16.size
  have lS_w16 : w.heap.size + 1 < w16.heap.size := by omega
  clear lS_w15
  clear K_w16
  go_wp2_with fail
  with_reducible refine (here18_zero w.heap.size (⟨0, 0, false, 0, 0, false, false, 0, 0, false⟩ : Bk) a0 _ HB.out rfl rfl).mono ?_
  rintro e w17 ⟨rfl, hb_w17⟩
  have K_w17 : Kept w.heap.size w (w.heap.size + 2) [(w.heap.size + 1, 0, .pointer none), (w.heap.size + 1, 1, .pointer (some ⟨w.heap.size, 0, none⟩))] w17 := (KH_w16.out.step (by omega) (by go_grown)).step (by omega) hb_w17
  replace HB := Lib.hid (HB.out.below hb_w17)
  clear hb_w17
  have KH_w17 := Lib.hid K_w17
  have hw_w17 := K_w17.below
  have hz_w17 := K_w17.size
  have lS_w17 : w.heap.size + 1 < w17.heap.size := by omega
  clear lS_w16
  clear K_w17
  go_wp2_with fail
  with_reducible refine (due19_zero w.heap.size (⟨0, 0, false, 0, 0, false, false, 0, 0, false⟩ : Bk) a0 _ HB.out rfl rfl).mono ?_
  rintro e w18 ⟨rfl, hb_w18⟩
  have K_w18 : Kept w.heap.size w (w.heap.size + 2) [(w.heap.size + 1, 0, .pointer none), (w.heap.size + 1, 1, .pointer (some ⟨w.heap.size, 0, none⟩))] w18 := (KH_w17.out.step (by omega) (by go_grown)).step (by omega) hb_w18
  replace HB := Lib.hid (HB.out.below hb_w18)
  clear hb_w18
  have KH_w18 := Lib.hid K_w18
  have hw_w18 := K_w18.below
  have hz_w18 := K_w18.size
  have lS_w18 : w.heap.size + 1 < w18.heap.size := by omega
  clear lS_w17
  clear K_w18
  go_wp2_with fail
  with_reducible refine (lost15_zero w.heap.size (⟨0, 0, false, 0, 0, false, false, 0, 0, false⟩ : Bk) a1 _ HB.out rfl rfl).mono ?_
  rintro e w19 ⟨rfl, hb_w19⟩
  have K_w19 : Kept w.heap.size w (w.heap.size + 2) [(w.heap.size + 1, 0, .pointer none), (w.heap.size + 1, 1, .pointer (some ⟨w.heap.size, 0, none⟩))] w19 := (KH_w18.out.step (by omega) (by go_grown)).step (by omega) hb_w19
  replace HB := Lib.hid (HB.out.below hb_w19)
  clear hb_w19
  have KH_w19 := Lib.hid K_w19
  have hw_w19 := K_w19.below
  have hz_w19 := K_w19.size
  have lS_w19 : w.heap.size + 1 < w19.heap.size := by omega
  clear lS_w18
  clear K_w19
  go_wp2_with fail
  with_reducible refine (copy26_zero w.heap.size (⟨0, 0, false, 0, 0, false, false, 0, 0, false⟩ : Bk)  _ HB.out rfl rfl).mono ?_
  rintro e w20 ⟨rfl, hb_w20⟩
  have K_w20 : Kept w.heap.size w (w.heap.size + 2) [(w.heap.size + 1, 0, .pointer none), (w.heap.size + 1, 1, .pointer (some ⟨w.heap.size, 0, none⟩))] w20 := (KH_w19.out.step (by omega) (by go_grown)).step (by omega) hb_w20
  replace HB := Lib.hid (HB.out.below hb_w20)
  clear hb_w20
  have KH_w20 := Lib.hid K_w20
  have hw_w20 := K_w20.below
  have hz_w20 := K_w20.size
  have lS_w20 : w.heap.size + 1 < w20.heap.size := by omega
  clear lS_w19
  clear K_w20
  have cS0_w20 := KH_w20.out.at (b := w.heap.size + 1) (o := 0) (v := .pointer none) (by simp)
  have fS0_w20 := KH_w20.out.free (b := w.heap.size + 1) (o := 0) (v := .pointer none) (by simp)
  have cS1_w20 := KH_w20.out.at (b := w.heap.size + 1) (o := 1) (v := .pointer (some ⟨w.heap.size, 0, none⟩)) (by simp)
  have fS1_w20 := KH_w20.out.free (b := w.heap.size + 1) (o := 1) (v := .pointer (some ⟨w.heap.size, 0, none⟩)) (by simp)
  go_wp2_with fail
  rw [rounds_succ]
  go_wp2_with fail
  with_reducible refine (known11 _).mono ?_
  rintro e w21 ⟨rfl, hb_w21⟩
  have K_w21 : Kept w.heap.size w (w.heap.size + 2) [(w.heap.size + 1, 0, .pointer none), (w.heap.size + 1, 1, .pointer (some ⟨w.heap.size, 0, none⟩))] w21 := (KH_w20.out.step (by omega) (by go_grown)).step (by omega) hb_w21
  clear hb_w21
  have KH_w21 := Lib.hid K_w21
  have hw_w21 := K_w21.below
  have hz_w21 := K_w21.size
  have lS_w21 : w.heap.size + 1 < w21.heap.size := by omega
  clear lS_w20 cS0_w20 fS0_w20 cS1_w20 fS1_w20
  clear K_w21
  go_wp2_with fail
  go_returns
  exact ⟨rfl, by go_grown⟩

set_option maxRecDepth 100000 in
theorem lifted (os : Os) (started : os.Started) (H : Type) (enc : TypeId × Value → H) :
    ReturnsInHanded {} Try.checked os 7 .any (Rows.strikeNoneSpec.pre6 enc Try.prog Try.f7 Rows.strikeNoneRow.domain false) (Rows.strikeNoneSpec.post enc Try.prog Try.f7 false true false false) := by
  refine returnsInHanded_of_change (C := Try.checked) own started (by kernel_rfl) Try.func7
    (ChangeSpec.witness6 (enc := enc) (C := Try.checked) false ⟨#[], #[.int .i64 0, .int .u64 0], []⟩ 8 (by kernel_rfl) (by kernel_rfl) (by kernel_rfl) (by kernel_rfl)) ?_
  intro W base args ds gs before hval0 hW hcnd _
  have hval : ∀ (j : Nat) t v, Try.f7.params[j]? = some t → args[j]? = some v → Value.okWide Try.prog W .any base t v := hval0
  have hW' := hW
  obtain ⟨p, q, hA0, hV, rfl, hfz, hnd⟩ := hW
  have hA : DataW.TrodAll enc Try.prog W 0 (fun _ => true) true Try.f7.params.toList args.toList ds p := hA0
  rw [Try.params7] at hA hval
  obtain ⟨v0, vs0, d0, ds0, p0, q0, hargs, rfl, rfl, h0, r0⟩ := trodAll_cons hA
  obtain ⟨v1, vs1, d1, ds1, p1, q1, rfl, rfl, rfl, h1, r1⟩ := trodAll_cons r0
  obtain ⟨rfl, rfl, rfl⟩ := trodAll_nil r1
  obtain rfl : args = #[v0, v1] := by cases args; simp_all
  obtain ⟨rfl, rfl⟩ := trodVars_none hV
  have k0 := h0
  have lt0 : ∀ x ∈ p0, x.block < W.heap.size := by obtain ⟨m, hm⟩ := k0; exact DataW.trod_lt m _ _ _ hm
  have k1 := h1
  have lt1 : ∀ x ∈ p1, x.block < W.heap.size := by obtain ⟨m, hm⟩ := k1; exact DataW.trod_lt m _ _ _ hm
  obtain ⟨a0, rfl, rfl, rfl, w0⟩ := open_int Try.underlying3 (hval 0 3 v0 rfl rfl) h0
  obtain ⟨a1, rfl, rfl, rfl, w1⟩ := open_int Try.underlying23 (hval 1 23 v1 rfl rfl) h1
  clear hA0 hval0
  refine (walk a0 a1 W w0 w1).mono fun e W' ⟨he, bel⟩ => ?_
  subst he
  exact ⟨_, rfl, _, _, _, [], _, [], hW', trodAll_mk1 (shut_bool Try.underlying4 _), (trodAll_cons_mk (Below.trod laidOut (by kernel_rfl) (of_decide_eq_true (by kernel_rfl)) k0 bel lt0) (trodAll_cons_mk (Below.trod laidOut (by kernel_rfl) (of_decide_eq_true (by kernel_rfl)) k1 bel lt1) trodAll_mk0)), rfl, bel.frame _, fun h => by cases h⟩

theorem over : Rows.strikeNoneRow.holds Try.pinned (OpenSpec.ofChange Rows.strikeNoneSpec) :=
  OpenClaim.holds_of_wide 7 Try.f7 rfl rfl rfl rfl rfl rfl rfl ⟨rfl, rfl, rfl, rfl, rfl⟩ rfl rfl rfl rfl rfl (by kernel_rfl) Try.func7 (by kernel_rfl)
    (of_decide_eq_true (by kernel_rfl)) (by unfold Func.isWrapper; first | (rw [if_pos (by decide +kernel)]; kernel_rfl) | (rw [if_neg (by decide +kernel)]; exact ⟨rfl, rfl⟩))
    (fun os started H enc _ => lifted os started H enc)

/-- THE STATEMENT -/
theorem proved : Rows.StrikeNoneSaid := over
end Go.Proofs.Ytobkgdhniibopaa.strikeNone
