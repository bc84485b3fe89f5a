/-
  PROVED: the law LobbyPlays returns true for every input, and its arguments read afterwards as they read before (Rows.LobbyPlaysSaid). CONDITIONS: none.
-/
import Derived.Test.YtonaidjdkejoeaaRows
import Derived.Test.YtonaidjdkejoeaaPlaysW
import Derived.WalkKit
import Derived.ProofKit
import Derived.OpenShut
import Derived.Lib.SmallJoins
import Derived.Carry
namespace Go.Proofs.Ytonaidjdkejoeaa.lobbyPlays
open Go.ChangeShapes Go.WideShapes Go.ChangeAt Go.RowKit Go.WideMaps Go.WideElems
set_option linter.unusedVariables false
set_option linter.unusedSimpArgs false

theorem own : ownKnob Try.prog.godebug = none := by kernel_rfl
theorem laidOut : laidOutB Try.prog = true := by kernel_rfl
open Plain Go.Deep

set_option maxRecDepth 100000 in
set_option maxHeartbeats 4000000 in
theorem walk (a0_0 : Int) (a0_1 : Int) (a0_2 : Int) (a1 : Option Addr) (len1 cap1 : Nat) (rows1 : List (List Int)) (w : World) (w0_0 : (Lit.int .i64 a0_0).wf = true) (w0_1 : (Lit.int .i64 a0_1).wf = true) (w0_2 : (Lit.int .u64 a0_2).wf = true) (w1 : SRow [.i64, .i64, .i64, .u64] w (.slice a1 len1 cap1) rows1) (l1 : rows1.length = len1) :
    Calls Try.prog 6 #[.agg #[.int .i64 a0_0, .int .i64 a0_1, .int .u64 a0_2], .slice a1 len1 cap1] w fun e w' => e = .returned (.bool true) ∧ Below w.heap.size w w' := by
  clear w0_0 w0_1 w0_2
  cases hv : vC a0_0 a0_1 a0_2
  · exact plays6_bad _ _ _ _ _ (Lib.hid hv)
  · by_cases h60 : 60 < len1
    · exact plays6_long _ _ _ _ _ _ _ (Lib.hid hv) h60
    · subst l1
      exact plays6 _ _ _ _ _ _ _ (Lib.hid hv) (by omega) w1

set_option maxRecDepth 100000 in
theorem lifted (os : Os) (started : os.Started) (H : Type) (enc : TypeId × Value → H) :
    ReturnsInHanded {} Try.checked os 6 .any (Rows.lobbyPlaysSpec.pre6 enc Try.prog Try.f6 Rows.lobbyPlaysRow.domain false) (Rows.lobbyPlaysSpec.post enc Try.prog Try.f6 false true false false) := by
  refine returnsInHanded_of_change (C := Try.checked) own started (by kernel_rfl) Try.func6
    (ChangeSpec.witness6 (enc := enc) (C := Try.checked) false ⟨#[], #[.agg #[.int .i64 0, .int .i64 0, .int .u64 0], .slice none 0 0], []⟩ 8 (by kernel_rfl) (by kernel_rfl) (by kernel_rfl) (by kernel_rfl)) ?_
  intro W base args ds gs before hval0 hW hcnd _
  have hval : ∀ (j : Nat) t v, Try.f6.params[j]? = some t → args[j]? = some v → Value.okWide Try.prog W .any base t v := hval0
  have hW' := hW
  obtain ⟨p, q, hA0, hV, rfl, hfz, hnd⟩ := hW
  have hA : DataW.TrodAll enc Try.prog W 0 (fun _ => true) true Try.f6.params.toList args.toList ds p := hA0
  rw [Try.params6] at hA hval
  obtain ⟨v0, vs0, d0, ds0, p0, q0, hargs, rfl, rfl, h0, r0⟩ := trodAll_cons hA
  obtain ⟨v1, vs1, d1, ds1, p1, q1, rfl, rfl, rfl, h1, r1⟩ := trodAll_cons r0
  obtain ⟨rfl, rfl, rfl⟩ := trodAll_nil r1
  obtain rfl : args = #[v0, v1] := by cases args; simp_all
  obtain ⟨rfl, rfl⟩ := trodVars_none hV
  have k0 := h0
  have lt0 : ∀ x ∈ p0, x.block < W.heap.size := by obtain ⟨m, hm⟩ := k0; exact DataW.trod_lt m _ _ _ hm
  have k1 := h1
  have lt1 : ∀ x ∈ p1, x.block < W.heap.size := by obtain ⟨m, hm⟩ := k1; exact DataW.trod_lt m _ _ _ hm
  obtain ⟨c0_0, c0_1, c0_2, y0_0, y0_1, y0_2, m0, rfl, rfl, rfl, hy0_0, hy0_1, hy0_2⟩ := Joins.open_agg3 Try.underlying30 (by kernel_rfl) (by kernel_rfl) (hval 0 30 v0 rfl rfl) h0
  obtain ⟨a0_0, e0_0, rfl, w0_0⟩ := DataW.trod_int Try.underlying3 hy0_0
  simp at e0_0
  subst e0_0
  obtain ⟨a0_1, e0_1, rfl, w0_1⟩ := DataW.trod_int Try.underlying3 hy0_1
  simp at e0_1
  subst e0_1
  obtain ⟨a0_2, e0_2, rfl, w0_2⟩ := DataW.trod_int Try.underlying28 hy0_2
  simp at e0_2
  subst e0_2
  obtain ⟨a1, len1, cap1, rfl⟩ := okWide_slice Try.underlying53 (hval 1 53 v1 rfl rfl)
  obtain ⟨rows1, w1, l1⟩ : ∃ rows, SRow [.i64, .i64, .i64, .u64] W (.slice a1 len1 cap1) rows ∧ rows.length = len1 :=
    open_srow [.i64, .i64, .i64, .u64] Try.underlying53 Try.underlying57 (by kernel_rfl) (by kernel_rfl) rfl (by decide) (by
      intro j f k v y n hf hk ht
      match j with
      | 0 =>
        simp at hf hk
        subst hf hk
        obtain ⟨z, e, _, hw⟩ := DataW.trod_int Try.underlying3 ht
        simp at e
        exact ⟨z, e, hw⟩
      | 1 =>
        simp at hf hk
        subst hf hk
        obtain ⟨z, e, _, hw⟩ := DataW.trod_int Try.underlying3 ht
        simp at e
        exact ⟨z, e, hw⟩
      | 2 =>
        simp at hf hk
        subst hf hk
        obtain ⟨z, e, _, hw⟩ := DataW.trod_int Try.underlying3 ht
        simp at e
        exact ⟨z, e, hw⟩
      | 3 =>
        simp at hf hk
        subst hf hk
        obtain ⟨z, e, _, hw⟩ := DataW.trod_int Try.underlying28 ht
        simp at e
        exact ⟨z, e, hw⟩
      | (m + 4) => simp at hk) h1
  clear hA0 hval0
  refine (walk a0_0 a0_1 a0_2 a1 len1 cap1 rows1 W w0_0 w0_1 w0_2 w1 l1).mono fun e W' ⟨he, bel⟩ => ?_
  subst he
  exact ⟨_, rfl, _, _, _, [], _, [], hW', trodAll_mk1 (shut_bool Try.underlying4 _), (trodAll_cons_mk (Below.trod laidOut (by kernel_rfl) (of_decide_eq_true (by kernel_rfl)) k0 bel lt0) (trodAll_cons_mk (Below.trod laidOut (by kernel_rfl) (of_decide_eq_true (by kernel_rfl)) k1 bel lt1) trodAll_mk0)), rfl, bel.frame _, fun h => by cases h⟩

theorem over : Rows.lobbyPlaysRow.holds Try.pinned (OpenSpec.ofChange Rows.lobbyPlaysSpec) :=
  OpenClaim.holds_of_wide 6 Try.f6 rfl rfl rfl rfl rfl rfl rfl ⟨rfl, rfl, rfl, rfl, rfl⟩ rfl rfl rfl rfl rfl (by kernel_rfl) Try.func6 (by kernel_rfl)
    (of_decide_eq_true (by kernel_rfl)) (by unfold Func.isWrapper; first | (rw [if_pos (by decide +kernel)]; kernel_rfl) | (rw [if_neg (by decide +kernel)]; exact ⟨rfl, rfl⟩))
    (fun os started H enc _ => lifted os started H enc)

/-- THE STATEMENT -/
theorem proved : Rows.LobbyPlaysSaid := over
end Go.Proofs.Ytonaidjdkejoeaa.lobbyPlays
