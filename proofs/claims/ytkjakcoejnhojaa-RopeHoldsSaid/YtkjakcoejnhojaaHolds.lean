/-
  PROVED: the law RopeHolds returns true for every input, and its arguments read afterwards as they read before (Rows.RopeHoldsSaid). CONDITIONS: none.
-/
import Derived.Test.YtkjakcoejnhojaaRows
import Derived.Test.YtkjakcoejnhojaaKnown
import Derived.Test.YtkjakcoejnhojaaHoldsW
import Derived.WalkKit
import Derived.ProofKit
import Derived.OpenShut
import Derived.Lib.SmallJoins
import Derived.Carry
namespace Go.Proofs.Ytkjakcoejnhojaa.ropeHolds
open Go.ChangeShapes Go.WideShapes Go.ChangeAt Go.RowKit Go.WideMaps Go.WideElems
set_option linter.unusedVariables false
set_option linter.unusedSimpArgs false

theorem own : ownKnob Try.prog.godebug = none := by kernel_rfl
theorem laidOut : laidOutB Try.prog = true := by kernel_rfl
open Plain

set_option maxRecDepth 100000 in
set_option maxHeartbeats 4000000 in
theorem walk (a0_0 : Int) (a0_1 : Int) (a1 : Int) (a2 : Int) (w : World) (w0_0 : (Lit.int .u64 a0_0).wf = true) (w0_1 : (Lit.int .u64 a0_1).wf = true) (w1 : (Lit.int .u64 a1).wf = true) (w2 : (Lit.int .u64 a2).wf = true) :
    Calls Try.prog 7 #[.agg #[.int .u64 a0_0, .int .u64 a0_1], .int .u64 a1, .int .u64 a2] w fun e w' => e = .returned (.bool true) ∧ Below w.heap.size w w' := by
  have u0 : U a0_0 := by simpa [U, Lit.wf, IntKind.min, IntKind.max, IntKind.signed, IntKind.bits] using w0_0
  have u1 : U a0_1 := by simpa [U, Lit.wf, IntKind.min, IntKind.max, IntKind.signed, IntKind.bits] using w0_1
  have u2 : U a1 := by simpa [U, Lit.wf, IntKind.min, IntKind.max, IntKind.signed, IntKind.bits] using w1
  have u3 : U a2 := by simpa [U, Lit.wf, IntKind.min, IntKind.max, IntKind.signed, IntKind.bits] using w2
  clear w0_0 w0_1 w1 w2
  cases h : vR a0_0 a0_1
  ·
    go_enter Try.func7, Try.ntmps7
    go_wp2_with fail
    with_reducible refine (charge20_no _ _ _ _ h).mono ?_
    rintro e w1 ⟨rfl, hb_w1⟩
    have K_w1 : Kept w.heap.size w (w.heap.size + 1) [(w.heap.size, 0, .int .u64 a0_0), (w.heap.size, 1, .int .u64 a0_1)] w1 := Kept.of hb_w1 (by go_grown) (by go_size) (by omega) (by simp [go_sem] <;> omega)
    clear hb_w1
    have hw_w1 := K_w1.below
    have hz_w1 := K_w1.size
    have lP_w1 : w.heap.size < w1.heap.size := by omega
    have cP0_w1 := K_w1.at (b := w.heap.size) (o := 0) (v := .int .u64 a0_0) (by simp)
    have fP0_w1 := K_w1.free (b := w.heap.size) (o := 0) (v := .int .u64 a0_0) (by simp)
    have cP1_w1 := K_w1.at (b := w.heap.size) (o := 1) (v := .int .u64 a0_1) (by simp)
    have fP1_w1 := K_w1.free (b := w.heap.size) (o := 1) (v := .int .u64 a0_1) (by simp)
    clear K_w1
    go_wp2_with fail
    with_reducible refine (valid9 _ _ _).mono ?_
    rintro e w2 ⟨rfl, hb_w2⟩
    have K_w2 : Kept w.heap.size w (w.heap.size + 1) [(w.heap.size, 0, .int .u64 a0_0), (w.heap.size, 1, .int .u64 a0_1)] w2 := Kept.of hb_w2 (by go_grown) (by go_size) (by omega) (by simp [go_sem, lP_w1, cP0_w1, fP0_w1, cP1_w1, fP1_w1] <;> omega)
    clear hb_w2
    have hw_w2 := K_w2.below
    have hz_w2 := K_w2.size
    have lP_w2 : w.heap.size < w2.heap.size := by omega
    have cP0_w2 := K_w2.at (b := w.heap.size) (o := 0) (v := .int .u64 a0_0) (by simp)
    have fP0_w2 := K_w2.free (b := w.heap.size) (o := 0) (v := .int .u64 a0_0) (by simp)
    have cP1_w2 := K_w2.at (b := w.heap.size) (o := 1) (v := .int .u64 a0_1) (by simp)
    have fP1_w2 := K_w2.free (b := w.heap.size) (o := 1) (v := .int .u64 a0_1) (by simp)
    clear lP_w1 cP0_w1 fP0_w1 cP1_w1 fP1_w1
    clear K_w2
    go_wp2_with fail
    with_reducible refine (known12 _).mono ?_
    rintro e w3 ⟨rfl, hb_w3⟩
    have K_w3 : Kept w.heap.size w (w.heap.size + 1) [(w.heap.size, 0, .int .u64 a0_0), (w.heap.size, 1, .int .u64 a0_1)] w3 := Kept.of hb_w3 (by go_grown) (by go_size) (by omega) (by simp [go_sem, lP_w2, cP0_w2, fP0_w2, cP1_w2, fP1_w2] <;> omega)
    clear hb_w3
    have hw_w3 := K_w3.below
    have hz_w3 := K_w3.size
    have lP_w3 : w.heap.size < w3.heap.size := by omega
    have cP0_w3 := K_w3.at (b := w.heap.size) (o := 0) (v := .int .u64 a0_0) (by simp)
    have fP0_w3 := K_w3.free (b := w.heap.size) (o := 0) (v := .int .u64 a0_0) (by simp)
    have cP1_w3 := K_w3.at (b := w.heap.size) (o := 1) (v := .int .u64 a0_1) (by simp)
    have fP1_w3 := K_w3.free (b := w.heap.size) (o := 1) (v := .int .u64 a0_1) (by simp)
    clear lP_w2 cP0_w2 fP0_w2 cP1_w2 fP1_w2
    clear K_w3
    go_wp2_with fail
    go_returns
    exact ⟨rfl, by go_grown⟩
  · exact holds_yes _ _ _ _ _ u0 u1 u2 u3 h

set_option maxRecDepth 100000 in
theorem lifted (os : Os) (started : os.Started) (H : Type) (enc : TypeId × Value → H) :
    ReturnsInHanded {} Try.checked os 7 .any (Rows.ropeHoldsSpec.pre6 enc Try.prog Try.f7 Rows.ropeHoldsRow.domain false) (Rows.ropeHoldsSpec.post enc Try.prog Try.f7 false true false false) := by
  refine returnsInHanded_of_change (C := Try.checked) own started (by kernel_rfl) Try.func7
    (ChangeSpec.witness6 (enc := enc) (C := Try.checked) false ⟨#[], #[.agg #[.int .u64 0, .int .u64 0], .int .u64 0, .int .u64 0], []⟩ 8 (by kernel_rfl) (by kernel_rfl) (by kernel_rfl) (by kernel_rfl)) ?_
  intro W base args ds gs before hval0 hW hcnd _
  have hval : ∀ (j : Nat) t v, Try.f7.params[j]? = some t → args[j]? = some v → Value.okWide Try.prog W .any base t v := hval0
  have hW' := hW
  obtain ⟨p, q, hA0, hV, rfl, hfz, hnd⟩ := hW
  have hA : DataW.TrodAll enc Try.prog W 0 (fun _ => true) true Try.f7.params.toList args.toList ds p := hA0
  rw [Try.params7] at hA hval
  obtain ⟨v0, vs0, d0, ds0, p0, q0, hargs, rfl, rfl, h0, r0⟩ := trodAll_cons hA
  obtain ⟨v1, vs1, d1, ds1, p1, q1, rfl, rfl, rfl, h1, r1⟩ := trodAll_cons r0
  obtain ⟨v2, vs2, d2, ds2, p2, q2, rfl, rfl, rfl, h2, r2⟩ := trodAll_cons r1
  obtain ⟨rfl, rfl, rfl⟩ := trodAll_nil r2
  obtain rfl : args = #[v0, v1, v2] := by cases args; simp_all
  obtain ⟨rfl, rfl⟩ := trodVars_none hV
  have k0 := h0
  have lt0 : ∀ x ∈ p0, x.block < W.heap.size := by obtain ⟨m, hm⟩ := k0; exact DataW.trod_lt m _ _ _ hm
  have k1 := h1
  have lt1 : ∀ x ∈ p1, x.block < W.heap.size := by obtain ⟨m, hm⟩ := k1; exact DataW.trod_lt m _ _ _ hm
  have k2 := h2
  have lt2 : ∀ x ∈ p2, x.block < W.heap.size := by obtain ⟨m, hm⟩ := k2; exact DataW.trod_lt m _ _ _ hm
  obtain ⟨c0_0, c0_1, y0_0, y0_1, m0, rfl, rfl, rfl, hy0_0, hy0_1⟩ := Joins.open_agg2 Try.underlying25 (by kernel_rfl) (by kernel_rfl) (hval 0 25 v0 rfl rfl) h0
  obtain ⟨a0_0, e0_0, rfl, w0_0⟩ := DataW.trod_int Try.underlying23 hy0_0
  simp at e0_0
  subst e0_0
  obtain ⟨a0_1, e0_1, rfl, w0_1⟩ := DataW.trod_int Try.underlying23 hy0_1
  simp at e0_1
  subst e0_1
  obtain ⟨a1, rfl, rfl, rfl, w1⟩ := open_int Try.underlying23 (hval 1 23 v1 rfl rfl) h1
  obtain ⟨a2, rfl, rfl, rfl, w2⟩ := open_int Try.underlying23 (hval 2 23 v2 rfl rfl) h2
  clear hA0 hval0
  refine (walk a0_0 a0_1 a1 a2 W w0_0 w0_1 w1 w2).mono fun e W' ⟨he, bel⟩ => ?_
  subst he
  exact ⟨_, rfl, _, _, _, [], _, [], hW', trodAll_mk1 (shut_bool Try.underlying4 _), (trodAll_cons_mk (Below.trod laidOut (by kernel_rfl) (of_decide_eq_true (by kernel_rfl)) k0 bel lt0) (trodAll_cons_mk (Below.trod laidOut (by kernel_rfl) (of_decide_eq_true (by kernel_rfl)) k1 bel lt1) (trodAll_cons_mk (Below.trod laidOut (by kernel_rfl) (of_decide_eq_true (by kernel_rfl)) k2 bel lt2) trodAll_mk0))), rfl, bel.frame _, fun h => by cases h⟩

theorem over : Rows.ropeHoldsRow.holds Try.pinned (OpenSpec.ofChange Rows.ropeHoldsSpec) :=
  OpenClaim.holds_of_wide 7 Try.f7 rfl rfl rfl rfl rfl rfl rfl ⟨rfl, rfl, rfl, rfl, rfl⟩ rfl rfl rfl rfl rfl (by kernel_rfl) Try.func7 (by kernel_rfl)
    (of_decide_eq_true (by kernel_rfl)) (by unfold Func.isWrapper; first | (rw [if_pos (by decide +kernel)]; kernel_rfl) | (rw [if_neg (by decide +kernel)]; exact ⟨rfl, rfl⟩))
    (fun os started H enc _ => lifted os started H enc)

/-- THE STATEMENT -/
theorem proved : Rows.RopeHoldsSaid := over
end Go.Proofs.Ytkjakcoejnhojaa.ropeHolds
