/-
  PROVED: the law StrikeValid returns true for every input, and its arguments read afterwards as they read before (Rows.StrikeValidSaid). CONDITIONS: none.
-/
import Derived.Test.YtobkgdhniibopaaRows
import Derived.Test.YtobkgdhniibopaaMore
import Derived.WalkKit
import Derived.ProofKit
import Derived.OpenShut
import Derived.Lib.SmallJoins
import Derived.Carry
namespace Go.Proofs.Ytobkgdhniibopaa.strikeValid
open Go.ChangeShapes Go.WideShapes Go.ChangeAt Go.RowKit Go.WideMaps Go.WideElems
set_option linter.unusedVariables false
set_option linter.unusedSimpArgs false

theorem own : ownKnob Try.prog.godebug = none := by kernel_rfl
theorem laidOut : laidOutB Try.prog = true := by kernel_rfl
open Plain

set_option maxRecDepth 100000 in
set_option maxHeartbeats 4000000 in
theorem walk (a0_0 : Int) (a0_1 : Int) (a1 : Int) (w : World) (w0_0 : (Lit.int .i64 a0_0).wf = true) (w0_1 : (Lit.int .u64 a0_1).wf = true) (w1 : (Lit.int .u64 a1).wf = true) :
    Calls Try.prog 3 #[.agg #[.int .i64 a0_0, .int .u64 a0_1], .int .u64 a1] w fun e w' => e = .returned (.bool true) ∧ Below w.heap.size w w' := by
  have hg : U a0_1 := by simpa [U, Lit.wf, IntKind.min, IntKind.max, IntKind.signed, IntKind.bits] using w0_1
  have ht : U a1 := by simpa [U, Lit.wf, IntKind.min, IntKind.max, IntKind.signed, IntKind.bits] using w1
  clear w0_0 w0_1 w1
  cases hv : vC a0_0 a0_1
  · have HV := Lib.hid hv
    clear hv hg ht
    go_enter Try.func3, Try.ntmps3
    go_wp2_with fail
    with_reducible refine (new8_bad a0_0 a0_1 a1 _ HV.out).mono ?_
    rintro e w1 ⟨rfl, hb_w1⟩
    have K_w1 : Kept w.heap.size w (w.heap.size + 1) [(w.heap.size, 0, .int .i64 a0_0), (w.heap.size, 1, .int .u64 a0_1)] w1 := Kept.of hb_w1 (by go_grown) (by go_size) (by omega) (by simp [go_sem] <;> omega)
    clear hb_w1
    have KH_w1 := Lib.hid K_w1
    have hw_w1 := K_w1.below
    have hz_w1 := K_w1.size
    have lC_w1 : w.heap.size < w1.heap.size := by omega
    have cC0_w1 := K_w1.at (b := w.heap.size) (o := 0) (v := .int .i64 a0_0) (by simp)
    have fC0_w1 := K_w1.free (b := w.heap.size) (o := 0) (v := .int .i64 a0_0) (by simp)
    have cC1_w1 := K_w1.at (b := w.heap.size) (o := 1) (v := .int .u64 a0_1) (by simp)
    have fC1_w1 := K_w1.free (b := w.heap.size) (o := 1) (v := .int .u64 a0_1) (by simp)
    clear K_w1
    go_wp2_with fail
    with_reducible refine (valid9c a0_0 a0_1 _ _ HV.out).mono ?_
    rintro e w2 ⟨rfl, hb_w2⟩
    have K_w2 : Kept w.heap.size w (w.heap.size + 1) [(w.heap.size, 0, .int .i64 a0_0), (w.heap.size, 1, .int .u64 a0_1)] w2 := (KH_w1.out.step (by omega) (by go_grown)).step (by omega) hb_w2
    clear hb_w2
    have KH_w2 := Lib.hid K_w2
    have hw_w2 := K_w2.below
    have hz_w2 := K_w2.size
    have lC_w2 : w.heap.size < w2.heap.size := by omega
    have cC0_w2 := K_w2.at (b := w.heap.size) (o := 0) (v := .int .i64 a0_0) (by simp)
    have fC0_w2 := K_w2.free (b := w.heap.size) (o := 0) (v := .int .i64 a0_0) (by simp)
    have cC1_w2 := K_w2.at (b := w.heap.size) (o := 1) (v := .int .u64 a0_1) (by simp)
    have fC1_w2 := K_w2.free (b := w.heap.size) (o := 1) (v := .int .u64 a0_1) (by simp)
    clear lC_w1 cC0_w1 fC0_w1 cC1_w1 fC1_w1
    clear K_w2
    go_wp2_with fail
    with_reducible refine (valid10c a0_0 a0_1 _ _ HV.out).mono ?_
    rintro e w3 ⟨rfl, hb_w3⟩
    have K_w3 : Kept w.heap.size w (w.heap.size + 1) [(w.heap.size, 0, .int .i64 a0_0), (w.heap.size, 1, .int .u64 a0_1)] w3 := (KH_w2.out.step (by omega) (by go_grown)).step (by omega) hb_w3
    clear hb_w3
    have KH_w3 := Lib.hid K_w3
    have hw_w3 := K_w3.below
    have hz_w3 := K_w3.size
    have lC_w3 : w.heap.size < w3.heap.size := by omega
    have cC0_w3 := K_w3.at (b := w.heap.size) (o := 0) (v := .int .i64 a0_0) (by simp)
    have fC0_w3 := K_w3.free (b := w.heap.size) (o := 0) (v := .int .i64 a0_0) (by simp)
    have cC1_w3 := K_w3.at (b := w.heap.size) (o := 1) (v := .int .u64 a0_1) (by simp)
    have fC1_w3 := K_w3.free (b := w.heap.size) (o := 1) (v := .int .u64 a0_1) (by simp)
    clear lC_w2 cC0_w2 fC0_w2 cC1_w2 fC1_w2
    clear K_w3
    go_wp2_with fail
    with_reducible refine (known11 _).mono ?_
    rintro e w4 ⟨rfl, hb_w4⟩
    have K_w4 : Kept w.heap.size w (w.heap.size + 1) [(w.heap.size, 0, .int .i64 a0_0), (w.heap.size, 1, .int .u64 a0_1)] w4 := (KH_w3.out.step (by omega) (by go_grown)).step (by omega) hb_w4
    clear hb_w4
    have KH_w4 := Lib.hid K_w4
    have hw_w4 := K_w4.below
    have hz_w4 := K_w4.size
    have lC_w4 : w.heap.size < w4.heap.size := by omega
    have cC0_w4 := K_w4.at (b := w.heap.size) (o := 0) (v := .int .i64 a0_0) (by simp)
    have fC0_w4 := K_w4.free (b := w.heap.size) (o := 0) (v := .int .i64 a0_0) (by simp)
    have cC1_w4 := K_w4.at (b := w.heap.size) (o := 1) (v := .int .u64 a0_1) (by simp)
    have fC1_w4 := K_w4.free (b := w.heap.size) (o := 1) (v := .int .u64 a0_1) (by simp)
    clear lC_w3 cC0_w3 fC0_w3 cC1_w3 fC1_w3
    clear K_w4
    go_wp2_with fail
    go_returns
    exact ⟨rfl, by go_grown⟩
  · have OK := Lib.hid (ok_new hv hg.1 ht)
    have HV := Lib.hid hv
    clear hv hg ht
    go_enter Try.func3, Try.ntmps3
    go_wp2_with fail
    with_reducible refine (new8 a0_0 a0_1 a1 _ HV.out).mono ?_
    rintro e w1 ⟨P, hP, rfl, hB, hb_w1⟩
    have K_w1 : Kept w.heap.size w (w.heap.size + 1) [(w.heap.size, 0, .int .i64 a0_0), (w.heap.size, 1, .int .u64 a0_1)] w1 := Kept.of hb_w1 (by go_grown) (by go_size) (by omega) (by simp [go_sem] <;> omega)
    clear hb_w1
    have KH_w1 := Lib.hid K_w1
    have hw_w1 := K_w1.below
    have hz_w1 := K_w1.size
    have lC_w1 : w.heap.size < w1.heap.size := by omega
    have cC0_w1 := K_w1.at (b := w.heap.size) (o := 0) (v := .int .i64 a0_0) (by simp)
    have fC0_w1 := K_w1.free (b := w.heap.size) (o := 0) (v := .int .i64 a0_0) (by simp)
    have cC1_w1 := K_w1.at (b := w.heap.size) (o := 1) (v := .int .u64 a0_1) (by simp)
    have fC1_w1 := K_w1.free (b := w.heap.size) (o := 1) (v := .int .u64 a0_1) (by simp)
    clear K_w1
    have HB := Lib.hid hB
    clear hB
    go_wp2_with fail
    with_reducible refine (valid9c a0_0 a0_1 _ _ HV.out).mono ?_
    rintro e w2 ⟨rfl, hb_w2⟩
    have K_w2 : Kept w.heap.size w (w.heap.size + 1) [(w.heap.size, 0, .int .i64 a0_0), (w.heap.size, 1, .int .u64 a0_1)] w2 := (KH_w1.out.step (by omega) (by go_grown)).step (by omega) hb_w2
    replace HB := Lib.hid (HB.out.below hb_w2)
    clear hb_w2
    have KH_w2 := Lib.hid K_w2
    have hw_w2 := K_w2.below
    have hz_w2 := K_w2.size
    have lC_w2 : w.heap.size < w2.heap.size := by omega
    have cC0_w2 := K_w2.at (b := w.heap.size) (o := 0) (v := .int .i64 a0_0) (by simp)
    have fC0_w2 := K_w2.free (b := w.heap.size) (o := 0) (v := .int .i64 a0_0) (by simp)
    have cC1_w2 := K_w2.at (b := w.heap.size) (o := 1) (v := .int .u64 a0_1) (by simp)
    have fC1_w2 := K_w2.free (b := w.heap.size) (o := 1) (v := .int .u64 a0_1) (by simp)
    clear lC_w1 cC0_w1 fC0_w1 cC1_w1 fC1_w1
    clear K_w2
    go_wp2_with fail
    with_reducible refine (valid10c a0_0 a0_1 _ _ HV.out).mono ?_
    rintro e w3 ⟨rfl, hb_w3⟩
    have K_w3 : Kept w.heap.size w (w.heap.size + 1) [(w.heap.size, 0, .int .i64 a0_0), (w.heap.size, 1, .int .u64 a0_1)] w3 := (KH_w2.out.step (by omega) (by go_grown)).step (by omega) hb_w3
    replace HB := Lib.hid (HB.out.below hb_w3)
    clear hb_w3
    have KH_w3 := Lib.hid K_w3
    have hw_w3 := K_w3.below
    have hz_w3 := K_w3.size
    have lC_w3 : w.heap.size < w3.heap.size := by omega
    have cC0_w3 := K_w3.at (b := w.heap.size) (o := 0) (v := .int .i64 a0_0) (by simp)
    have fC0_w3 := K_w3.free (b := w.heap.size) (o := 0) (v := .int .i64 a0_0) (by simp)
    have cC1_w3 := K_w3.at (b := w.heap.size) (o := 1) (v := .int .u64 a0_1) (by simp)
    have fC1_w3 := K_w3.free (b := w.heap.size) (o := 1) (v := .int .u64 a0_1) (by simp)
    clear lC_w2 cC0_w2 fC0_w2 cC1_w2 fC1_w2
    clear K_w3
    go_wp2_with fail
    with_reducible refine (new13 a0_0 a0_1 a1 _).mono ?_
    rintro e w4 ⟨rfl, hb_w4⟩
    have K_w4 : Kept w.heap.size w (w.heap.size + 1) [(w.heap.size, 0, .int .i64 a0_0), (w.heap.size, 1, .int .u64 a0_1)] w4 := (KH_w3.out.step (by omega) (by go_grown)).step (by omega) hb_w4
    replace HB := Lib.hid (HB.out.below hb_w4)
    clear hb_w4
    have KH_w4 := Lib.hid K_w4
    have hw_w4 := K_w4.below
    have hz_w4 := K_w4.size
    have lC_w4 : w.heap.size < w4.heap.size := by omega
    have cC0_w4 := K_w4.at (b := w.heap.size) (o := 0) (v := .int .i64 a0_0) (by simp)
    have fC0_w4 := K_w4.free (b := w.heap.size) (o := 0) (v := .int .i64 a0_0) (by simp)
    have cC1_w4 := K_w4.at (b := w.heap.size) (o := 1) (v := .int .u64 a0_1) (by simp)
    have fC1_w4 := K_w4.free (b := w.heap.size) (o := 1) (v := .int .u64 a0_1) (by simp)
    clear lC_w3 cC0_w3 fC0_w3 cC1_w3 fC1_w3
    clear K_w4
    go_wp2_with fail
    with_reducible refine (looks12n P a0_0 a0_1 a1 _ HB.out OK.out).mono ?_
    rintro e w5 ⟨rfl, hb_w5⟩
    have K_w5 : Kept w.heap.size w (w.heap.size + 1) [(w.heap.size, 0, .int .i64 a0_0), (w.heap.size, 1, .int .u64 a0_1)] w5 := (KH_w4.out.step (by omega) (by go_grown)).step (by omega) hb_w5
    replace HB := Lib.hid (HB.out.below hb_w5)
    clear hb_w5
    have KH_w5 := Lib.hid K_w5
    have hw_w5 := K_w5.below
    have hz_w5 := K_w5.size
    have lC_w5 : w.heap.size < w5.heap.size := by omega
    have cC0_w5 := K_w5.at (b := w.heap.size) (o := 0) (v := .int .i64 a0_0) (by simp)
    have fC0_w5 := K_w5.free (b := w.heap.size) (o := 0) (v := .int .i64 a0_0) (by simp)
    have cC1_w5 := K_w5.at (b := w.heap.size) (o := 1) (v := .int .u64 a0_1) (by simp)
    have fC1_w5 := K_w5.free (b := w.heap.size) (o := 1) (v := .int .u64 a0_1) (by simp)
    clear lC_w4 cC0_w4 fC0_w4 cC1_w4 fC1_w4
    clear K_w5
    go_wp2_with fail
    with_reducible refine (known11 _).mono ?_
    rintro e w6 ⟨rfl, hb_w6⟩
    have K_w6 : Kept w.heap.size w (w.heap.size + 1) [(w.heap.size, 0, .int .i64 a0_0), (w.heap.size, 1, .int .u64 a0_1)] w6 := (KH_w5.out.step (by omega) (by go_grown)).step (by omega) hb_w6
    clear hb_w6
    have KH_w6 := Lib.hid K_w6
    have hw_w6 := K_w6.below
    have hz_w6 := K_w6.size
    have lC_w6 : w.heap.size < w6.heap.size := by omega
    have cC0_w6 := K_w6.at (b := w.heap.size) (o := 0) (v := .int .i64 a0_0) (by simp)
    have fC0_w6 := K_w6.free (b := w.heap.size) (o := 0) (v := .int .i64 a0_0) (by simp)
    have cC1_w6 := K_w6.at (b := w.heap.size) (o := 1) (v := .int .u64 a0_1) (by simp)
    have fC1_w6 := K_w6.free (b := w.heap.size) (o := 1) (v := .int .u64 a0_1) (by simp)
    clear lC_w5 cC0_w5 fC0_w5 cC1_w5 fC1_w5
    clear K_w6
    go_wp2_with fail
    go_returns
    exact ⟨rfl, by go_grown⟩

set_option maxRecDepth 100000 in
theorem lifted (os : Os) (started : os.Started) (H : Type) (enc : TypeId × Value → H) :
    ReturnsInHanded {} Try.checked os 3 .any (Rows.strikeValidSpec.pre6 enc Try.prog Try.f3 Rows.strikeValidRow.domain false) (Rows.strikeValidSpec.post enc Try.prog Try.f3 false true false false) := by
  refine returnsInHanded_of_change (C := Try.checked) own started (by kernel_rfl) Try.func3
    (ChangeSpec.witness6 (enc := enc) (C := Try.checked) false ⟨#[], #[.agg #[.int .i64 0, .int .u64 0], .int .u64 0], []⟩ 8 (by kernel_rfl) (by kernel_rfl) (by kernel_rfl) (by kernel_rfl)) ?_
  intro W base args ds gs before hval0 hW hcnd _
  have hval : ∀ (j : Nat) t v, Try.f3.params[j]? = some t → args[j]? = some v → Value.okWide Try.prog W .any base t v := hval0
  have hW' := hW
  obtain ⟨p, q, hA0, hV, rfl, hfz, hnd⟩ := hW
  have hA : DataW.TrodAll enc Try.prog W 0 (fun _ => true) true Try.f3.params.toList args.toList ds p := hA0
  rw [Try.params3] at hA hval
  obtain ⟨v0, vs0, d0, ds0, p0, q0, hargs, rfl, rfl, h0, r0⟩ := trodAll_cons hA
  obtain ⟨v1, vs1, d1, ds1, p1, q1, rfl, rfl, rfl, h1, r1⟩ := trodAll_cons r0
  obtain ⟨rfl, rfl, rfl⟩ := trodAll_nil r1
  obtain rfl : args = #[v0, v1] := by cases args; simp_all
  obtain ⟨rfl, rfl⟩ := trodVars_none hV
  have k0 := h0
  have lt0 : ∀ x ∈ p0, x.block < W.heap.size := by obtain ⟨m, hm⟩ := k0; exact DataW.trod_lt m _ _ _ hm
  have k1 := h1
  have lt1 : ∀ x ∈ p1, x.block < W.heap.size := by obtain ⟨m, hm⟩ := k1; exact DataW.trod_lt m _ _ _ hm
  obtain ⟨c0_0, c0_1, y0_0, y0_1, m0, rfl, rfl, rfl, hy0_0, hy0_1⟩ := Joins.open_agg2 Try.underlying25 (by kernel_rfl) (by kernel_rfl) (hval 0 25 v0 rfl rfl) h0
  obtain ⟨a0_0, e0_0, rfl, w0_0⟩ := DataW.trod_int Try.underlying3 hy0_0
  simp at e0_0
  subst e0_0
  obtain ⟨a0_1, e0_1, rfl, w0_1⟩ := DataW.trod_int Try.underlying23 hy0_1
  simp at e0_1
  subst e0_1
  obtain ⟨a1, rfl, rfl, rfl, w1⟩ := open_int Try.underlying23 (hval 1 23 v1 rfl rfl) h1
  clear hA0 hval0
  refine (walk a0_0 a0_1 a1 W w0_0 w0_1 w1).mono fun e W' ⟨he, bel⟩ => ?_
  subst he
  exact ⟨_, rfl, _, _, _, [], _, [], hW', trodAll_mk1 (shut_bool Try.underlying4 _), (trodAll_cons_mk (Below.trod laidOut (by kernel_rfl) (of_decide_eq_true (by kernel_rfl)) k0 bel lt0) (trodAll_cons_mk (Below.trod laidOut (by kernel_rfl) (of_decide_eq_true (by kernel_rfl)) k1 bel lt1) trodAll_mk0)), rfl, bel.frame _, fun h => by cases h⟩

theorem over : Rows.strikeValidRow.holds Try.pinned (OpenSpec.ofChange Rows.strikeValidSpec) :=
  OpenClaim.holds_of_wide 3 Try.f3 rfl rfl rfl rfl rfl rfl rfl ⟨rfl, rfl, rfl, rfl, rfl⟩ rfl rfl rfl rfl rfl (by kernel_rfl) Try.func3 (by kernel_rfl)
    (of_decide_eq_true (by kernel_rfl)) (by unfold Func.isWrapper; first | (rw [if_pos (by decide +kernel)]; kernel_rfl) | (rw [if_neg (by decide +kernel)]; exact ⟨rfl, rfl⟩))
    (fun os started H enc _ => lifted os started H enc)

/-- THE STATEMENT -/
theorem proved : Rows.StrikeValidSaid := over
end Go.Proofs.Ytobkgdhniibopaa.strikeValid
