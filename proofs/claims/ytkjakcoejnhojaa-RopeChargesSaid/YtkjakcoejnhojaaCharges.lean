/-
  PROVED: the law RopeCharges returns true for every input, and its arguments read afterwards as they read before (Rows.RopeChargesSaid). CONDITIONS: none.
-/
import Derived.Test.YtkjakcoejnhojaaRows
import Derived.Test.YtkjakcoejnhojaaKnown
import Derived.WalkKit
import Derived.ProofKit
import Derived.OpenShut
import Derived.Lib.SmallJoins
import Derived.Carry
namespace Go.Proofs.Ytkjakcoejnhojaa.ropeCharges
open Go.ChangeShapes Go.WideShapes Go.ChangeAt Go.RowKit Go.WideMaps Go.WideElems
set_option linter.unusedVariables false
set_option linter.unusedSimpArgs false

theorem own : ownKnob Try.prog.godebug = none := by kernel_rfl
theorem laidOut : laidOutB Try.prog = true := by kernel_rfl
open Plain

set_option maxRecDepth 100000 in
set_option maxHeartbeats 4000000 in
theorem walk (a0_0 : Int) (a0_1 : Int) (a1 : Int) (w : World) (w0_0 : (Lit.int .u64 a0_0).wf = true) (w0_1 : (Lit.int .u64 a0_1).wf = true) (w1 : (Lit.int .u64 a1).wf = true) :
    Calls Try.prog 3 #[.agg #[.int .u64 a0_0, .int .u64 a0_1], .int .u64 a1] w fun e w' => e = .returned (.bool true) ∧ Below w.heap.size w w' := by
  have u0 : U a0_0 := by simpa [U, Lit.wf, IntKind.min, IntKind.max, IntKind.signed, IntKind.bits] using w0_0
  have u1 : U a0_1 := by simpa [U, Lit.wf, IntKind.min, IntKind.max, IntKind.signed, IntKind.bits] using w0_1
  have u2 : U a1 := by simpa [U, Lit.wf, IntKind.min, IntKind.max, IntKind.signed, IntKind.bits] using w1
  cases h : vR a0_0 a0_1
  · clear w0_0 w0_1 w1
    go_enter Try.func3, Try.ntmps3
    go_wp2_with fail
    with_reducible refine (charge8_no _ _ _ _ h).mono ?_
    rintro e w1 ⟨rfl, hb_w1⟩
    have K_w1 : Kept w.heap.size w (w.heap.size + 1) [(w.heap.size, 0, .int .u64 a0_0), (w.heap.size, 1, .int .u64 a0_1)] w1 := Kept.of hb_w1 (by go_grown) (by go_size) (by omega) (by simp [go_sem] <;> omega)
    clear hb_w1
    have hw_w1 := K_w1.below
    have hz_w1 := K_w1.size
    have lP_w1 : w.heap.size < w1.heap.size := by omega
    have cP0_w1 := K_w1.at (b := w.heap.size) (o := 0) (v := .int .u64 a0_0) (by simp)
    have fP0_w1 := K_w1.free (b := w.heap.size) (o := 0) (v := .int .u64 a0_0) (by simp)
    have cP1_w1 := K_w1.at (b := w.heap.size) (o := 1) (v := .int .u64 a0_1) (by simp)
    have fP1_w1 := K_w1.free (b := w.heap.size) (o := 1) (v := .int .u64 a0_1) (by simp)
    clear K_w1
    go_wp2_with fail
    refine wp_region_kept (w := w) (B := w.heap.size) (n := w1.heap.size + 1) (L := [(w.heap.size, 0, .int .u64 a0_0), (w.heap.size, 1, .int .u64 a0_1), (w1.heap.size, 0, .int .u64 0), (w1.heap.size, 1, .int .u64 0)]) ⟨by go_grown, by go_size, (by simp [go_sem, lP_w1, cP0_w1, fP0_w1, cP1_w1, fP1_w1] <;> omega)⟩ (by kernel_rfl) (by kernel_rfl) (fun _ne => ?_)
    have rP0 : ∀ s : KW w.heap.size w (w1.heap.size + 1) [(w.heap.size, 0, .int .u64 a0_0), (w.heap.size, 1, .int .u64 a0_1), (w1.heap.size, 0, .int .u64 0), (w1.heap.size, 1, .int .u64 0)], s.val.cell? ⟨w.heap.size, 0, none⟩ = some (.int .u64 a0_0) := fun s => s.kept.at (by simp)
    have rP1 : ∀ s : KW w.heap.size w (w1.heap.size + 1) [(w.heap.size, 0, .int .u64 a0_0), (w.heap.size, 1, .int .u64 a0_1), (w1.heap.size, 0, .int .u64 0), (w1.heap.size, 1, .int .u64 0)], s.val.cell? ⟨w.heap.size, 1, none⟩ = some (.int .u64 a0_1) := fun s => s.kept.at (by simp)
    have rX0 : ∀ s : KW w.heap.size w (w1.heap.size + 1) [(w.heap.size, 0, .int .u64 a0_0), (w.heap.size, 1, .int .u64 a0_1), (w1.heap.size, 0, .int .u64 0), (w1.heap.size, 1, .int .u64 0)], s.val.cell? ⟨w1.heap.size, 0, none⟩ = some (.int .u64 0) := fun s => s.kept.at (by simp)
    have rX1 : ∀ s : KW w.heap.size w (w1.heap.size + 1) [(w.heap.size, 0, .int .u64 a0_0), (w.heap.size, 1, .int .u64 a0_1), (w1.heap.size, 0, .int .u64 0), (w1.heap.size, 1, .int .u64 0)], s.val.cell? ⟨w1.heap.size, 1, none⟩ = some (.int .u64 0) := fun s => s.kept.at (by simp)
    repeat (go_big_quiet_step (first | (go_at_call 9; exact calls_kept (by omega) (valid9 _ _ _)) | (go_at_call 10; exact calls_kept (by omega) (valid10 _ _ _)) | (go_at_call 11; exact calls_kept (by omega) (charges11_no _ _ _ _ h)) | (go_at_call 12; exact calls_kept (by omega) (known12 _))))
    refine wpQuiet_nil ?_
    rintro w2 ⟨⟨_, K_w2⟩, rfl⟩
    clear _ne rP0 rP1 rX0 rX1
    have hw_w2 := K_w2.below
    have hz_w2 := K_w2.size
    have lP_w2 : w.heap.size < w2.heap.size := by omega
    have cP0_w2 := K_w2.at (b := w.heap.size) (o := 0) (v := .int .u64 a0_0) (by simp)
    have fP0_w2 := K_w2.free (b := w.heap.size) (o := 0) (v := .int .u64 a0_0) (by simp)
    have cP1_w2 := K_w2.at (b := w.heap.size) (o := 1) (v := .int .u64 a0_1) (by simp)
    have fP1_w2 := K_w2.free (b := w.heap.size) (o := 1) (v := .int .u64 a0_1) (by simp)
    have lX_w2 : w1.heap.size < w2.heap.size := by omega
    have cX0_w2 := K_w2.at (b := w1.heap.size) (o := 0) (v := .int .u64 0) (by simp)
    have fX0_w2 := K_w2.free (b := w1.heap.size) (o := 0) (v := .int .u64 0) (by simp)
    have cX1_w2 := K_w2.at (b := w1.heap.size) (o := 1) (v := .int .u64 0) (by simp)
    have fX1_w2 := K_w2.free (b := w1.heap.size) (o := 1) (v := .int .u64 0) (by simp)
    clear lP_w1 cP0_w1 fP0_w1 cP1_w1 fP1_w1
    clear K_w2
    go_wp2_with fail
    go_returns
    exact ⟨rfl, by go_grown⟩
  · clear w0_0 w0_1 w1
    go_enter Try.func3, Try.ntmps3
    go_wp2_with fail
    with_reducible refine (charge8 _ _ _ _ u0 u1 u2 h).mono ?_
    rintro e w1 ⟨rfl, hb_w1⟩
    have K_w1 : Kept w.heap.size w (w.heap.size + 1) [(w.heap.size, 0, .int .u64 a0_0), (w.heap.size, 1, .int .u64 a0_1)] w1 := Kept.of hb_w1 (by go_grown) (by go_size) (by omega) (by simp [go_sem] <;> omega)
    clear hb_w1
    have hw_w1 := K_w1.below
    have hz_w1 := K_w1.size
    have lP_w1 : w.heap.size < w1.heap.size := by omega
    have cP0_w1 := K_w1.at (b := w.heap.size) (o := 0) (v := .int .u64 a0_0) (by simp)
    have fP0_w1 := K_w1.free (b := w.heap.size) (o := 0) (v := .int .u64 a0_0) (by simp)
    have cP1_w1 := K_w1.at (b := w.heap.size) (o := 1) (v := .int .u64 a0_1) (by simp)
    have fP1_w1 := K_w1.free (b := w.heap.size) (o := 1) (v := .int .u64 a0_1) (by simp)
    clear K_w1
    go_wp2_with fail
    refine wp_region_kept (w := w) (B := w.heap.size) (n := w1.heap.size + 1) (L := [(w.heap.size, 0, .int .u64 a0_0), (w.heap.size, 1, .int .u64 a0_1), (w1.heap.size, 0, .int .u64 (sub0 a0_0 a1)), (w1.heap.size, 1, .int .u64 (sub0 a0_1 (sub0 a1 a0_0)))]) ⟨by go_grown, by go_size, (by simp [go_sem, lP_w1, cP0_w1, fP0_w1, cP1_w1, fP1_w1] <;> omega)⟩ (by kernel_rfl) (by kernel_rfl) (fun _ne => ?_)
    have rP0 : ∀ s : KW w.heap.size w (w1.heap.size + 1) [(w.heap.size, 0, .int .u64 a0_0), (w.heap.size, 1, .int .u64 a0_1), (w1.heap.size, 0, .int .u64 (sub0 a0_0 a1)), (w1.heap.size, 1, .int .u64 (sub0 a0_1 (sub0 a1 a0_0)))], s.val.cell? ⟨w.heap.size, 0, none⟩ = some (.int .u64 a0_0) := fun s => s.kept.at (by simp)
    have rP1 : ∀ s : KW w.heap.size w (w1.heap.size + 1) [(w.heap.size, 0, .int .u64 a0_0), (w.heap.size, 1, .int .u64 a0_1), (w1.heap.size, 0, .int .u64 (sub0 a0_0 a1)), (w1.heap.size, 1, .int .u64 (sub0 a0_1 (sub0 a1 a0_0)))], s.val.cell? ⟨w.heap.size, 1, none⟩ = some (.int .u64 a0_1) := fun s => s.kept.at (by simp)
    have rX0 : ∀ s : KW w.heap.size w (w1.heap.size + 1) [(w.heap.size, 0, .int .u64 a0_0), (w.heap.size, 1, .int .u64 a0_1), (w1.heap.size, 0, .int .u64 (sub0 a0_0 a1)), (w1.heap.size, 1, .int .u64 (sub0 a0_1 (sub0 a1 a0_0)))], s.val.cell? ⟨w1.heap.size, 0, none⟩ = some (.int .u64 (sub0 a0_0 a1)) := fun s => s.kept.at (by simp)
    have rX1 : ∀ s : KW w.heap.size w (w1.heap.size + 1) [(w.heap.size, 0, .int .u64 a0_0), (w.heap.size, 1, .int .u64 a0_1), (w1.heap.size, 0, .int .u64 (sub0 a0_0 a1)), (w1.heap.size, 1, .int .u64 (sub0 a0_1 (sub0 a1 a0_0)))], s.val.cell? ⟨w1.heap.size, 1, none⟩ = some (.int .u64 (sub0 a0_1 (sub0 a1 a0_0))) := fun s => s.kept.at (by simp)
    repeat (go_big_quiet_step (first | (go_at_call 9; exact calls_kept (by omega) (valid9 _ _ _)) | (go_at_call 10; exact calls_kept (by omega) (valid10 _ _ _)) | (go_at_call 11; exact calls_kept (by omega) (charges11 _ _ _ _ _ _ _ _ u0 u1 u2 h rfl rfl rfl rfl)) | (go_at_call 12; exact calls_kept (by omega) (known12 _))))
    refine wpQuiet_nil ?_
    rintro w2 ⟨⟨_, K_w2⟩, rfl⟩
    clear _ne rP0 rP1 rX0 rX1
    have hw_w2 := K_w2.below
    have hz_w2 := K_w2.size
    have lP_w2 : w.heap.size < w2.heap.size := by omega
    have cP0_w2 := K_w2.at (b := w.heap.size) (o := 0) (v := .int .u64 a0_0) (by simp)
    have fP0_w2 := K_w2.free (b := w.heap.size) (o := 0) (v := .int .u64 a0_0) (by simp)
    have cP1_w2 := K_w2.at (b := w.heap.size) (o := 1) (v := .int .u64 a0_1) (by simp)
    have fP1_w2 := K_w2.free (b := w.heap.size) (o := 1) (v := .int .u64 a0_1) (by simp)
    have lX_w2 : w1.heap.size < w2.heap.size := by omega
    have cX0_w2 := K_w2.at (b := w1.heap.size) (o := 0) (v := .int .u64 (sub0 a0_0 a1)) (by simp)
    have fX0_w2 := K_w2.free (b := w1.heap.size) (o := 0) (v := .int .u64 (sub0 a0_0 a1)) (by simp)
    have cX1_w2 := K_w2.at (b := w1.heap.size) (o := 1) (v := .int .u64 (sub0 a0_1 (sub0 a1 a0_0))) (by simp)
    have fX1_w2 := K_w2.free (b := w1.heap.size) (o := 1) (v := .int .u64 (sub0 a0_1 (sub0 a1 a0_0))) (by simp)
    clear lP_w1 cP0_w1 fP0_w1 cP1_w1 fP1_w1
    clear K_w2
    go_wp2_with fail
    go_returns
    exact ⟨rfl, by go_grown⟩

set_option maxRecDepth 100000 in
theorem lifted (os : Os) (started : os.Started) (H : Type) (enc : TypeId × Value → H) :
    ReturnsInHanded {} Try.checked os 3 .any (Rows.ropeChargesSpec.pre6 enc Try.prog Try.f3 Rows.ropeChargesRow.domain false) (Rows.ropeChargesSpec.post enc Try.prog Try.f3 false true false false) := by
  refine returnsInHanded_of_change (C := Try.checked) own started (by kernel_rfl) Try.func3
    (ChangeSpec.witness6 (enc := enc) (C := Try.checked) false ⟨#[], #[.agg #[.int .u64 0, .int .u64 0], .int .u64 0], []⟩ 8 (by kernel_rfl) (by kernel_rfl) (by kernel_rfl) (by kernel_rfl)) ?_
  intro W base args ds gs before hval0 hW hcnd _
  have hval : ∀ (j : Nat) t v, Try.f3.params[j]? = some t → args[j]? = some v → Value.okWide Try.prog W .any base t v := hval0
  have hW' := hW
  obtain ⟨p, q, hA0, hV, rfl, hfz, hnd⟩ := hW
  have hA : DataW.TrodAll enc Try.prog W 0 (fun _ => true) true Try.f3.params.toList args.toList ds p := hA0
  rw [Try.params3] at hA hval
  obtain ⟨v0, vs0, d0, ds0, p0, q0, hargs, rfl, rfl, h0, r0⟩ := trodAll_cons hA
  obtain ⟨v1, vs1, d1, ds1, p1, q1, rfl, rfl, rfl, h1, r1⟩ := trodAll_cons r0
  obtain ⟨rfl, rfl, rfl⟩ := trodAll_nil r1
  obtain rfl : args = #[v0, v1] := by cases args; simp_all
  obtain ⟨rfl, rfl⟩ := trodVars_none hV
  have k0 := h0
  have lt0 : ∀ x ∈ p0, x.block < W.heap.size := by obtain ⟨m, hm⟩ := k0; exact DataW.trod_lt m _ _ _ hm
  have k1 := h1
  have lt1 : ∀ x ∈ p1, x.block < W.heap.size := by obtain ⟨m, hm⟩ := k1; exact DataW.trod_lt m _ _ _ hm
  obtain ⟨c0_0, c0_1, y0_0, y0_1, m0, rfl, rfl, rfl, hy0_0, hy0_1⟩ := Joins.open_agg2 Try.underlying25 (by kernel_rfl) (by kernel_rfl) (hval 0 25 v0 rfl rfl) h0
  obtain ⟨a0_0, e0_0, rfl, w0_0⟩ := DataW.trod_int Try.underlying23 hy0_0
  simp at e0_0
  subst e0_0
  obtain ⟨a0_1, e0_1, rfl, w0_1⟩ := DataW.trod_int Try.underlying23 hy0_1
  simp at e0_1
  subst e0_1
  obtain ⟨a1, rfl, rfl, rfl, w1⟩ := open_int Try.underlying23 (hval 1 23 v1 rfl rfl) h1
  clear hA0 hval0
  refine (walk a0_0 a0_1 a1 W w0_0 w0_1 w1).mono fun e W' ⟨he, bel⟩ => ?_
  subst he
  exact ⟨_, rfl, _, _, _, [], _, [], hW', trodAll_mk1 (shut_bool Try.underlying4 _), (trodAll_cons_mk (Below.trod laidOut (by kernel_rfl) (of_decide_eq_true (by kernel_rfl)) k0 bel lt0) (trodAll_cons_mk (Below.trod laidOut (by kernel_rfl) (of_decide_eq_true (by kernel_rfl)) k1 bel lt1) trodAll_mk0)), rfl, bel.frame _, fun h => by cases h⟩

theorem over : Rows.ropeChargesRow.holds Try.pinned (OpenSpec.ofChange Rows.ropeChargesSpec) :=
  OpenClaim.holds_of_wide 3 Try.f3 rfl rfl rfl rfl rfl rfl rfl ⟨rfl, rfl, rfl, rfl, rfl⟩ rfl rfl rfl rfl rfl (by kernel_rfl) Try.func3 (by kernel_rfl)
    (of_decide_eq_true (by kernel_rfl)) (by unfold Func.isWrapper; first | (rw [if_pos (by decide +kernel)]; kernel_rfl) | (rw [if_neg (by decide +kernel)]; exact ⟨rfl, rfl⟩))
    (fun os started H enc _ => lifted os started H enc)

/-- THE STATEMENT -/
theorem proved : Rows.RopeChargesSaid := over
end Go.Proofs.Ytkjakcoejnhojaa.ropeCharges
