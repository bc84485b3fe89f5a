/-
  PROVED: the law DraftPlays returns true for every input, and its arguments read afterwards as they read before (Rows.DraftPlaysSaid). CONDITIONS: none.
-/
import Derived.Test.YteocplabibhecaaRows
import Derived.Test.YteocplabibhecaaPyW
import Derived.Test.YteocplabibhecaaOpen
import Derived.WalkKit
import Derived.ProofKit
import Derived.OpenShut
import Derived.Lib.SmallJoins
import Derived.Carry
namespace Go.Proofs.Yteocplabibhecaa.draftPlays
open Go.ChangeShapes Go.WideShapes Go.ChangeAt Go.RowKit Go.WideMaps Go.WideElems
set_option linter.unusedVariables false
set_option linter.unusedSimpArgs false

theorem own : ownKnob Try.prog.godebug = none := by kernel_rfl
theorem laidOut : laidOutB Try.prog = true := by kernel_rfl
open Plain Go.Deep

set_option maxRecDepth 100000 in
set_option maxHeartbeats 4000000 in
theorem walk (a0 : Option Addr) (len0 cap0 : Nat) (ls0 : List (List (List Int))) (a1 : Option Addr) (len1 cap1 : Nat) (rows1 : List (List Int)) (w : World) (w0 : Rw3 w (.slice a0 len0 cap0) ls0) (l0 : ls0.length = len0) (w1 : SRow [.i64, .i64, .i64] w (.slice a1 len1 cap1) rows1) (l1 : rows1.length = len1) :
    Calls Try.prog 6 #[.slice a0 len0 cap0, .slice a1 len1 cap1] w fun e w' => e = .returned (.bool true) ∧ Below w.heap.size w w' := by
  subst l1
  exact plays6 _ ls0 _ _ rows1 w w0 w1

set_option maxRecDepth 100000 in
theorem lifted (os : Os) (started : os.Started) (H : Type) (enc : TypeId × Value → H) :
    ReturnsInHanded {} Try.checked os 6 .any (Rows.draftPlaysSpec.pre6 enc Try.prog Try.f6 Rows.draftPlaysRow.domain false) (Rows.draftPlaysSpec.post enc Try.prog Try.f6 false true false false) := by
  refine returnsInHanded_of_change (C := Try.checked) own started (by kernel_rfl) Try.func6
    (ChangeSpec.witness6 (enc := enc) (C := Try.checked) false ⟨#[], #[.slice none 0 0, .slice none 0 0], []⟩ 8 (by kernel_rfl) (by kernel_rfl) (by kernel_rfl) (by kernel_rfl)) ?_
  intro W base args ds gs before hval0 hW hcnd _
  have hval : ∀ (j : Nat) t v, Try.f6.params[j]? = some t → args[j]? = some v → Value.okWide Try.prog W .any base t v := hval0
  have hW' := hW
  obtain ⟨p, q, hA0, hV, rfl, hfz, hnd⟩ := hW
  have hA : DataW.TrodAll enc Try.prog W 0 (fun _ => true) true Try.f6.params.toList args.toList ds p := hA0
  rw [Try.params6] at hA hval
  obtain ⟨v0, vs0, d0, ds0, p0, q0, hargs, rfl, rfl, h0, r0⟩ := trodAll_cons hA
  obtain ⟨v1, vs1, d1, ds1, p1, q1, rfl, rfl, rfl, h1, r1⟩ := trodAll_cons r0
  obtain ⟨rfl, rfl, rfl⟩ := trodAll_nil r1
  obtain rfl : args = #[v0, v1] := by cases args; simp_all
  obtain ⟨rfl, rfl⟩ := trodVars_none hV
  have k0 := h0
  have lt0 : ∀ x ∈ p0, x.block < W.heap.size := by obtain ⟨m, hm⟩ := k0; exact DataW.trod_lt m _ _ _ hm
  have k1 := h1
  have lt1 : ∀ x ∈ p1, x.block < W.heap.size := by obtain ⟨m, hm⟩ := k1; exact DataW.trod_lt m _ _ _ hm
  obtain ⟨a0, len0, cap0, rfl⟩ := okWide_slice Try.underlying22 (hval 0 22 v0 rfl rfl)
  obtain ⟨ls0, w0, l0⟩ : ∃ ls, Rw3 W (.slice a0 len0 cap0) ls ∧ ls.length = len0 := by
    obtain ⟨fuel, hf⟩ := h0
    exact open_mats hf rfl
  obtain ⟨a1, len1, cap1, rfl⟩ := okWide_slice Try.underlying50 (hval 1 50 v1 rfl rfl)
  obtain ⟨rows1, w1, l1⟩ : ∃ rows, SRow [.i64, .i64, .i64] W (.slice a1 len1 cap1) rows ∧ rows.length = len1 :=
    open_srow [.i64, .i64, .i64] Try.underlying50 Try.underlying52 (by kernel_rfl) (by kernel_rfl) rfl (by decide) (by
      intro j f k v y n hf hk ht
      match j with
      | 0 =>
        simp at hf hk
        subst hf hk
        obtain ⟨z, e, _, hw⟩ := DataW.trod_int Try.underlying3 ht
        simp at e
        exact ⟨z, e, hw⟩
      | 1 =>
        simp at hf hk
        subst hf hk
        obtain ⟨z, e, _, hw⟩ := DataW.trod_int Try.underlying3 ht
        simp at e
        exact ⟨z, e, hw⟩
      | 2 =>
        simp at hf hk
        subst hf hk
        obtain ⟨z, e, _, hw⟩ := DataW.trod_int Try.underlying3 ht
        simp at e
        exact ⟨z, e, hw⟩
      | (m + 3) => simp at hk) h1
  clear hA0 hval0
  refine (walk a0 len0 cap0 ls0 a1 len1 cap1 rows1 W w0 l0 w1 l1).mono fun e W' ⟨he, bel⟩ => ?_
  subst he
  exact ⟨_, rfl, _, _, _, [], _, [], hW', trodAll_mk1 (shut_bool Try.underlying4 _), (trodAll_cons_mk (Below.trod laidOut (by kernel_rfl) (of_decide_eq_true (by kernel_rfl)) k0 bel lt0) (trodAll_cons_mk (Below.trod laidOut (by kernel_rfl) (of_decide_eq_true (by kernel_rfl)) k1 bel lt1) trodAll_mk0)), rfl, bel.frame _, fun h => by cases h⟩

theorem over : Rows.draftPlaysRow.holds Try.pinned (OpenSpec.ofChange Rows.draftPlaysSpec) :=
  OpenClaim.holds_of_wide 6 Try.f6 rfl rfl rfl rfl rfl rfl rfl ⟨rfl, rfl, rfl, rfl, rfl⟩ rfl rfl rfl rfl rfl (by kernel_rfl) Try.func6 (by kernel_rfl)
    (of_decide_eq_true (by kernel_rfl)) (by unfold Func.isWrapper; first | (rw [if_pos (by decide +kernel)]; kernel_rfl) | (rw [if_neg (by decide +kernel)]; exact ⟨rfl, rfl⟩))
    (fun os started H enc _ => lifted os started H enc)

/-- THE STATEMENT -/
theorem proved : Rows.DraftPlaysSaid := over
end Go.Proofs.Yteocplabibhecaa.draftPlays
