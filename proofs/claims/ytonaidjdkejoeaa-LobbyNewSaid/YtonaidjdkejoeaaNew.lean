/-
  PROVED: the law LobbyNew returns true for every input, and its arguments read afterwards as they read before (Rows.LobbyNewSaid). CONDITIONS: none.
-/
import Derived.Test.YtonaidjdkejoeaaRows
import Derived.Test.YtonaidjdkejoeaaMo
import Derived.WalkKit
import Derived.ProofKit
import Derived.OpenShut
import Derived.Lib.SmallJoins
import Derived.Carry
namespace Go.Proofs.Ytonaidjdkejoeaa.lobbyNew
open Go.ChangeShapes Go.WideShapes Go.ChangeAt Go.RowKit Go.WideMaps Go.WideElems
set_option linter.unusedVariables false
set_option linter.unusedSimpArgs false

theorem own : ownKnob Try.prog.godebug = none := by kernel_rfl
theorem laidOut : laidOutB Try.prog = true := by kernel_rfl
open Plain
theorem nd_nil (ba st to' now : Int) : (⟨ba, st, to', now, []⟩ : Lb).Nd := fun i k p q h => by simp at h
theorem vC_ok {ba st to' : Int} (h : vC ba st to' = true) : (⟨ba, st, to', 0, []⟩ : Lb).Ok := by
  unfold vC at h
  have h := of_decide_eq_true h
  exact ⟨h.1, h.2.1, h.2.2.1, h.2.2.2.1, h.2.2.2.2.1, h.2.2.2.2.2, (by unfold U; simp), (fun p hp => by cases hp), (by simp)⟩

set_option maxRecDepth 100000 in
set_option maxHeartbeats 4000000 in
theorem walk (a0_0 : Int) (a0_1 : Int) (a0_2 : Int) (w : World) (w0_0 : (Lit.int .i64 a0_0).wf = true) (w0_1 : (Lit.int .i64 a0_1).wf = true) (w0_2 : (Lit.int .u64 a0_2).wf = true) :
    Calls Try.prog 4 #[.agg #[.int .i64 a0_0, .int .i64 a0_1, .int .u64 a0_2]] w fun e w' => e = .returned (.bool true) ∧ Below w.heap.size w w' := by
  clear w0_0 w0_1 w0_2
  cases hv : vC a0_0 a0_1 a0_2
  · have HV := Lib.hid hv
    clear hv
    go_enter Try.func4, Try.ntmps4
    go_wp2_with fail
    with_reducible refine (new9_no a0_0 a0_1 a0_2 _ HV.out).mono ?_
    rintro e w1 ⟨rfl, hb_w1⟩
    have K_w1 : Kept w.heap.size w (w.heap.size + 1) [(w.heap.size, 0, .int .i64 a0_0), (w.heap.size, 1, .int .i64 a0_1), (w.heap.size, 2, .int .u64 a0_2)] w1 := Kept.of hb_w1 (by go_grown) (by go_size) (by omega) (by simp [go_sem] <;> omega)
    clear hb_w1
    have KH_w1 := Lib.hid K_w1
    have hw_w1 := K_w1.below
    have hz_w1 := K_w1.size
    have lC_w1 : w.heap.size < w1.heap.size := by omega
    clear K_w1
    have cC0_w1 := KH_w1.out.at (b := w.heap.size) (o := 0) (v := .int .i64 a0_0) (by simp)
    have fC0_w1 := KH_w1.out.free (b := w.heap.size) (o := 0) (v := .int .i64 a0_0) (by simp)
    have cC1_w1 := KH_w1.out.at (b := w.heap.size) (o := 1) (v := .int .i64 a0_1) (by simp)
    have fC1_w1 := KH_w1.out.free (b := w.heap.size) (o := 1) (v := .int .i64 a0_1) (by simp)
    have cC2_w1 := KH_w1.out.at (b := w.heap.size) (o := 2) (v := .int .u64 a0_2) (by simp)
    have fC2_w1 := KH_w1.out.free (b := w.heap.size) (o := 2) (v := .int .u64 a0_2) (by simp)
    go_wp2_with fail
    with_reducible refine (allowed13c a0_0 a0_1 a0_2 false _ HV.out).mono ?_
    rintro e w2 ⟨rfl, hb_w2⟩
    have K_w2 := (KH_w1.out.step (by omega) (by go_grown)).step (by omega) hb_w2
    clear hb_w2
    have KH_w2 := Lib.hid K_w2
    have hw_w2 := K_w2.below
    have hz_w2 := K_w2.size
    have lC_w2 : w.heap.size < w2.heap.size := by omega
    clear lC_w1 cC0_w1 fC0_w1 cC1_w1 fC1_w1 cC2_w1 fC2_w1
    clear K_w2
    go_wp2_with fail
    with_reducible refine (known _).mono ?_
    rintro e w3 ⟨rfl, hb_w3⟩
    have K_w3 := (KH_w2.out.step (by omega) (by go_grown)).step (by omega) hb_w3
    clear hb_w3
    have KH_w3 := Lib.hid K_w3
    have hw_w3 := K_w3.below
    have hz_w3 := K_w3.size
    have lC_w3 : w.heap.size < w3.heap.size := by omega
    clear lC_w2
    clear K_w3
    go_wp2_with fail
    go_returns
    exact ⟨rfl, by go_grown⟩
  · have HV := Lib.hid hv
    clear hv
    go_enter Try.func4, Try.ntmps4
    go_wp2_with fail
    with_reducible refine (new9 a0_0 a0_1 a0_2 _ HV.out).mono ?_
    rintro e w1 ⟨P, rfl, hP, hlob, hb_w1⟩
    have K_w1 : Kept w.heap.size w (w.heap.size + 1) [(w.heap.size, 0, .int .i64 a0_0), (w.heap.size, 1, .int .i64 a0_1), (w.heap.size, 2, .int .u64 a0_2)] w1 := Kept.of hb_w1 (by go_grown) (by go_size) (by omega) (by simp [go_sem] <;> omega)
    clear hb_w1
    have KH_w1 := Lib.hid K_w1
    have hw_w1 := K_w1.below
    have hz_w1 := K_w1.size
    have lC_w1 : w.heap.size < w1.heap.size := by omega
    clear K_w1
    have HL := Lib.hid hlob
    clear hlob
    have cC0_w1 := KH_w1.out.at (b := w.heap.size) (o := 0) (v := .int .i64 a0_0) (by simp)
    have fC0_w1 := KH_w1.out.free (b := w.heap.size) (o := 0) (v := .int .i64 a0_0) (by simp)
    have cC1_w1 := KH_w1.out.at (b := w.heap.size) (o := 1) (v := .int .i64 a0_1) (by simp)
    have fC1_w1 := KH_w1.out.free (b := w.heap.size) (o := 1) (v := .int .i64 a0_1) (by simp)
    have cC2_w1 := KH_w1.out.at (b := w.heap.size) (o := 2) (v := .int .u64 a0_2) (by simp)
    have fC2_w1 := KH_w1.out.free (b := w.heap.size) (o := 2) (v := .int .u64 a0_2) (by simp)
    go_wp2_with fail
    with_reducible refine (allowed13c a0_0 a0_1 a0_2 true _ HV.out).mono ?_
    rintro e w2 ⟨rfl, hb_w2⟩
    have K_w2 := (KH_w1.out.step (by omega) (by go_grown)).step (by omega) hb_w2
    replace HL := Lib.hid (HL.out.below hb_w2)
    clear hb_w2
    have KH_w2 := Lib.hid K_w2
    have hw_w2 := K_w2.below
    have hz_w2 := K_w2.size
    have lC_w2 : w.heap.size < w2.heap.size := by omega
    clear lC_w1 cC0_w1 fC0_w1 cC1_w1 fC1_w1 cC2_w1 fC2_w1
    clear K_w2
    have cC0_w2 := KH_w2.out.at (b := w.heap.size) (o := 0) (v := .int .i64 a0_0) (by simp)
    have fC0_w2 := KH_w2.out.free (b := w.heap.size) (o := 0) (v := .int .i64 a0_0) (by simp)
    have cC1_w2 := KH_w2.out.at (b := w.heap.size) (o := 1) (v := .int .i64 a0_1) (by simp)
    have fC1_w2 := KH_w2.out.free (b := w.heap.size) (o := 1) (v := .int .i64 a0_1) (by simp)
    have cC2_w2 := KH_w2.out.at (b := w.heap.size) (o := 2) (v := .int .u64 a0_2) (by simp)
    have fC2_w2 := KH_w2.out.free (b := w.heap.size) (o := 2) (v := .int .u64 a0_2) (by simp)
    go_wp2_with fail
    have hL2 := HL.out.below ((Below.refl _ _).alloc (Nat.le_refl _) (.cells #[.int .i64 a0_0, .int .i64 a0_1, .int .u64 a0_2, .int .u64 0, .slice none 0 0] 43))
    have hM2 : ModAt (w2.alloc (.cells #[.int .i64 a0_0, .int .i64 a0_1, .int .u64 a0_2, .int .u64 0, .slice none 0 0] 43)) w2.heap.size ⟨a0_0, a0_1, a0_2, 0, []⟩ (.slice none 0 0) := ⟨heap_alloc_new _ _, Rw.nil _⟩
    with_reducible refine (alike14 P w2.heap.size ⟨a0_0, a0_1, a0_2, 0, []⟩ _ _ _ hL2 hM2 (vC_ok HV.out) (nd_nil _ _ _ _)).mono ?_
    rintro e w3 ⟨rfl, hb3⟩
    have hw_w3 : Below w.heap.size w w3 := below_via (hw_w2.alloc hw_w2.size _) hb3
    clear hL2 hM2 hb3
    go_wp2_with fail
    with_reducible refine (known _).mono ?_
    rintro e w4 ⟨rfl, hb4⟩
    go_wp2_with fail
    go_returns
    exact ⟨rfl, below_via hw_w3 hb4⟩

set_option maxRecDepth 100000 in
theorem lifted (os : Os) (started : os.Started) (H : Type) (enc : TypeId × Value → H) :
    ReturnsInHanded {} Try.checked os 4 .any (Rows.lobbyNewSpec.pre6 enc Try.prog Try.f4 Rows.lobbyNewRow.domain false) (Rows.lobbyNewSpec.post enc Try.prog Try.f4 false true false false) := by
  refine returnsInHanded_of_change (C := Try.checked) own started (by kernel_rfl) Try.func4
    (ChangeSpec.witness6 (enc := enc) (C := Try.checked) false ⟨#[], #[.agg #[.int .i64 0, .int .i64 0, .int .u64 0]], []⟩ 8 (by kernel_rfl) (by kernel_rfl) (by kernel_rfl) (by kernel_rfl)) ?_
  intro W base args ds gs before hval0 hW hcnd _
  have hval : ∀ (j : Nat) t v, Try.f4.params[j]? = some t → args[j]? = some v → Value.okWide Try.prog W .any base t v := hval0
  have hW' := hW
  obtain ⟨p, q, hA0, hV, rfl, hfz, hnd⟩ := hW
  have hA : DataW.TrodAll enc Try.prog W 0 (fun _ => true) true Try.f4.params.toList args.toList ds p := hA0
  rw [Try.params4] at hA hval
  obtain ⟨v0, vs0, d0, ds0, p0, q0, hargs, rfl, rfl, h0, r0⟩ := trodAll_cons hA
  obtain ⟨rfl, rfl, rfl⟩ := trodAll_nil r0
  obtain rfl : args = #[v0] := by cases args; simp_all
  obtain ⟨rfl, rfl⟩ := trodVars_none hV
  have k0 := h0
  have lt0 : ∀ x ∈ p0, x.block < W.heap.size := by obtain ⟨m, hm⟩ := k0; exact DataW.trod_lt m _ _ _ hm
  obtain ⟨c0_0, c0_1, c0_2, y0_0, y0_1, y0_2, m0, rfl, rfl, rfl, hy0_0, hy0_1, hy0_2⟩ := Joins.open_agg3 Try.underlying30 (by kernel_rfl) (by kernel_rfl) (hval 0 30 v0 rfl rfl) h0
  obtain ⟨a0_0, e0_0, rfl, w0_0⟩ := DataW.trod_int Try.underlying3 hy0_0
  simp at e0_0
  subst e0_0
  obtain ⟨a0_1, e0_1, rfl, w0_1⟩ := DataW.trod_int Try.underlying3 hy0_1
  simp at e0_1
  subst e0_1
  obtain ⟨a0_2, e0_2, rfl, w0_2⟩ := DataW.trod_int Try.underlying28 hy0_2
  simp at e0_2
  subst e0_2
  clear hA0 hval0
  refine (walk a0_0 a0_1 a0_2 W w0_0 w0_1 w0_2).mono fun e W' ⟨he, bel⟩ => ?_
  subst he
  exact ⟨_, rfl, _, _, _, [], _, [], hW', trodAll_mk1 (shut_bool Try.underlying4 _), (trodAll_cons_mk (Below.trod laidOut (by kernel_rfl) (of_decide_eq_true (by kernel_rfl)) k0 bel lt0) trodAll_mk0), rfl, bel.frame _, fun h => by cases h⟩

theorem over : Rows.lobbyNewRow.holds Try.pinned (OpenSpec.ofChange Rows.lobbyNewSpec) :=
  OpenClaim.holds_of_wide 4 Try.f4 rfl rfl rfl rfl rfl rfl rfl ⟨rfl, rfl, rfl, rfl, rfl⟩ rfl rfl rfl rfl rfl (by kernel_rfl) Try.func4 (by kernel_rfl)
    (of_decide_eq_true (by kernel_rfl)) (by unfold Func.isWrapper; first | (rw [if_pos (by decide +kernel)]; kernel_rfl) | (rw [if_neg (by decide +kernel)]; exact ⟨rfl, rfl⟩))
    (fun os started H enc _ => lifted os started H enc)

/-- THE STATEMENT -/
theorem proved : Rows.LobbyNewSaid := over
end Go.Proofs.Ytonaidjdkejoeaa.lobbyNew
