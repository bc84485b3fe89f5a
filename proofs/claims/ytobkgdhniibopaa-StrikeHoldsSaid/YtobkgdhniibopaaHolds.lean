/-
  PROVED: the law StrikeHolds returns true for every input, and its arguments read afterwards as they read before (Rows.StrikeHoldsSaid). CONDITIONS: none.
-/
import Derived.Test.YtobkgdhniibopaaRows
import Derived.Test.YtobkgdhniibopaaHoldsV
import Derived.WalkKit
import Derived.ProofKit
import Derived.OpenShut
import Derived.Lib.SmallJoins
import Derived.Carry
namespace Go.Proofs.Ytobkgdhniibopaa.strikeHolds
open Go.ChangeShapes Go.WideShapes Go.ChangeAt Go.RowKit Go.WideMaps Go.WideElems
set_option linter.unusedVariables false
set_option linter.unusedSimpArgs false

theorem own : ownKnob Try.prog.godebug = none := by kernel_rfl
theorem laidOut : laidOutB Try.prog = true := by kernel_rfl
open Plain Go.Deep

set_option maxRecDepth 100000 in
set_option maxHeartbeats 4000000 in
theorem walk (a0_0 : Int) (a0_1 : Int) (a1 : Int) (a2 : Option Addr) (len2 cap2 : Nat) (rows2 : List (List Int)) (w : World) (w0_0 : (Lit.int .i64 a0_0).wf = true) (w0_1 : (Lit.int .u64 a0_1).wf = true) (w1 : (Lit.int .u64 a1).wf = true) (w2 : SRow [.i64, .i64, .u64] w (.slice a2 len2 cap2) rows2) (l2 : rows2.length = len2) :
    Calls Try.prog 5 #[.agg #[.int .i64 a0_0, .int .u64 a0_1], .int .u64 a1, .slice a2 len2 cap2] w fun e w' => e = .returned (.bool true) ∧ Below w.heap.size w w' := by
  have hg : U a0_1 := by simpa [U, Lit.wf, IntKind.min, IntKind.max, IntKind.signed, IntKind.bits] using w0_1
  have ht : U a1 := by simpa [U, Lit.wf, IntKind.min, IntKind.max, IntKind.signed, IntKind.bits] using w1
  cases hv : vC a0_0 a0_1
  · exact holds5_bad _ _ _ _ _ hv
  · by_cases h80 : 80 < len2
    · refine holds5_long _ _ _ _ _ _ _ hv h80 ?_
      have hm := (w2.some (by intro e; rw [e] at l2; simp at l2; omega)).1
      unfold maxLen at hm
      omega
    · exact holds5_some _ _ _ _ _ _ _ _ _ rfl l2 hv (ok_new hv hg.1 ht) (by omega) w2

set_option maxRecDepth 100000 in
theorem lifted (os : Os) (started : os.Started) (H : Type) (enc : TypeId × Value → H) :
    ReturnsInHanded {} Try.checked os 5 .any (Rows.strikeHoldsSpec.pre6 enc Try.prog Try.f5 Rows.strikeHoldsRow.domain false) (Rows.strikeHoldsSpec.post enc Try.prog Try.f5 false true false false) := by
  refine returnsInHanded_of_change (C := Try.checked) own started (by kernel_rfl) Try.func5
    (ChangeSpec.witness6 (enc := enc) (C := Try.checked) false ⟨#[], #[.agg #[.int .i64 0, .int .u64 0], .int .u64 0, .slice none 0 0], []⟩ 8 (by kernel_rfl) (by kernel_rfl) (by kernel_rfl) (by kernel_rfl)) ?_
  intro W base args ds gs before hval0 hW hcnd _
  have hval : ∀ (j : Nat) t v, Try.f5.params[j]? = some t → args[j]? = some v → Value.okWide Try.prog W .any base t v := hval0
  have hW' := hW
  obtain ⟨p, q, hA0, hV, rfl, hfz, hnd⟩ := hW
  have hA : DataW.TrodAll enc Try.prog W 0 (fun _ => true) true Try.f5.params.toList args.toList ds p := hA0
  rw [Try.params5] at hA hval
  obtain ⟨v0, vs0, d0, ds0, p0, q0, hargs, rfl, rfl, h0, r0⟩ := trodAll_cons hA
  obtain ⟨v1, vs1, d1, ds1, p1, q1, rfl, rfl, rfl, h1, r1⟩ := trodAll_cons r0
  obtain ⟨v2, vs2, d2, ds2, p2, q2, rfl, rfl, rfl, h2, r2⟩ := trodAll_cons r1
  obtain ⟨rfl, rfl, rfl⟩ := trodAll_nil r2
  obtain rfl : args = #[v0, v1, v2] := by cases args; simp_all
  obtain ⟨rfl, rfl⟩ := trodVars_none hV
  have k0 := h0
  have lt0 : ∀ x ∈ p0, x.block < W.heap.size := by obtain ⟨m, hm⟩ := k0; exact DataW.trod_lt m _ _ _ hm
  have k1 := h1
  have lt1 : ∀ x ∈ p1, x.block < W.heap.size := by obtain ⟨m, hm⟩ := k1; exact DataW.trod_lt m _ _ _ hm
  have k2 := h2
  have lt2 : ∀ x ∈ p2, x.block < W.heap.size := by obtain ⟨m, hm⟩ := k2; exact DataW.trod_lt m _ _ _ hm
  obtain ⟨c0_0, c0_1, y0_0, y0_1, m0, rfl, rfl, rfl, hy0_0, hy0_1⟩ := Joins.open_agg2 Try.underlying25 (by kernel_rfl) (by kernel_rfl) (hval 0 25 v0 rfl rfl) h0
  obtain ⟨a0_0, e0_0, rfl, w0_0⟩ := DataW.trod_int Try.underlying3 hy0_0
  simp at e0_0
  subst e0_0
  obtain ⟨a0_1, e0_1, rfl, w0_1⟩ := DataW.trod_int Try.underlying23 hy0_1
  simp at e0_1
  subst e0_1
  obtain ⟨a1, rfl, rfl, rfl, w1⟩ := open_int Try.underlying23 (hval 1 23 v1 rfl rfl) h1
  obtain ⟨a2, len2, cap2, rfl⟩ := okWide_slice Try.underlying46 (hval 2 46 v2 rfl rfl)
  obtain ⟨rows2, w2, l2⟩ : ∃ rows, SRow [.i64, .i64, .u64] W (.slice a2 len2 cap2) rows ∧ rows.length = len2 :=
    open_srow [.i64, .i64, .u64] Try.underlying46 Try.underlying49 (by kernel_rfl) (by kernel_rfl) rfl (by decide) (by
      intro j f k v y n hf hk ht
      match j with
      | 0 =>
        simp at hf hk
        subst hf hk
        obtain ⟨z, e, _, hw⟩ := DataW.trod_int Try.underlying3 ht
        simp at e
        exact ⟨z, e, hw⟩
      | 1 =>
        simp at hf hk
        subst hf hk
        obtain ⟨z, e, _, hw⟩ := DataW.trod_int Try.underlying3 ht
        simp at e
        exact ⟨z, e, hw⟩
      | 2 =>
        simp at hf hk
        subst hf hk
        obtain ⟨z, e, _, hw⟩ := DataW.trod_int Try.underlying23 ht
        simp at e
        exact ⟨z, e, hw⟩
      | (m + 3) => simp at hk) h2
  clear hA0 hval0
  refine (walk a0_0 a0_1 a1 a2 len2 cap2 rows2 W w0_0 w0_1 w1 w2 l2).mono fun e W' ⟨he, bel⟩ => ?_
  subst he
  exact ⟨_, rfl, _, _, _, [], _, [], hW', trodAll_mk1 (shut_bool Try.underlying4 _), (trodAll_cons_mk (Below.trod laidOut (by kernel_rfl) (of_decide_eq_true (by kernel_rfl)) k0 bel lt0) (trodAll_cons_mk (Below.trod laidOut (by kernel_rfl) (of_decide_eq_true (by kernel_rfl)) k1 bel lt1) (trodAll_cons_mk (Below.trod laidOut (by kernel_rfl) (of_decide_eq_true (by kernel_rfl)) k2 bel lt2) trodAll_mk0))), rfl, bel.frame _, fun h => by cases h⟩

theorem over : Rows.strikeHoldsRow.holds Try.pinned (OpenSpec.ofChange Rows.strikeHoldsSpec) :=
  OpenClaim.holds_of_wide 5 Try.f5 rfl rfl rfl rfl rfl rfl rfl ⟨rfl, rfl, rfl, rfl, rfl⟩ rfl rfl rfl rfl rfl (by kernel_rfl) Try.func5 (by kernel_rfl)
    (of_decide_eq_true (by kernel_rfl)) (by unfold Func.isWrapper; first | (rw [if_pos (by decide +kernel)]; kernel_rfl) | (rw [if_neg (by decide +kernel)]; exact ⟨rfl, rfl⟩))
    (fun os started H enc _ => lifted os started H enc)

/-- THE STATEMENT -/
theorem proved : Rows.StrikeHoldsSaid := over
end Go.Proofs.Ytobkgdhniibopaa.strikeHolds
