/-
  PROVED: the law SeqnoNil returns true for every input, and its arguments read afterwards as they read before (Rows.SeqnoNilSaid). CONDITIONS: none.
-/
import Derived.Test.YthibagfmglnejaaRows
import Derived.Test.YthibagfmglnejaaNilW
import Derived.WalkKit
import Derived.ProofKit
import Derived.OpenShut
import Derived.Lib.SmallJoins
import Derived.Carry
namespace Go.Proofs.Ythibagfmglnejaa.seqnoNil
open Go.ChangeShapes Go.WideShapes Go.ChangeAt Go.RowKit Go.WideMaps Go.WideElems
set_option linter.unusedVariables false
set_option linter.unusedSimpArgs false

theorem own : ownKnob Try.prog.godebug = none := by kernel_rfl
theorem laidOut : laidOutB Try.prog = true := by kernel_rfl
open Plain

set_option maxRecDepth 100000 in
set_option maxHeartbeats 4000000 in
theorem walk (a0 : Int) (w : World) (w0 : (Lit.int .u16 a0).wf = true) :
    Calls Try.prog 8 #[.int .u16 a0] w fun e w' => e = .returned (.bool true) ∧ Below w.heap.size w w' := by
  clear w0
  go_enter Try.func8, Try.ntmps8
  go_wp2_with fail
  refine wp_loop_rounds 3 ?_
  rw [rounds_succ]
  go_wp2_with fail
  with_reducible refine (accept17_nil a0 _).mono ?_
  rintro e w' ⟨rfl, rfl⟩
  go_wp2_with fail
  with_reducible refine (has21_nil a0 _).mono ?_
  rintro e w' ⟨rfl, rfl⟩
  go_wp2_with fail
  with_reducible refine (looks20_nil _).mono ?_
  rintro e w1 ⟨rfl, hb_w1⟩
  have K_w1 : Kept w.heap.size w (w.heap.size + 2) [(w.heap.size, 0, .int .u16 0), (w.heap.size, 1, .slice none 0 0), (w.heap.size + 1, 0, .pointer none), (w.heap.size + 1, 1, .pointer (some ⟨w.heap.size, 0, none⟩))] w1 := Kept.of hb_w1 (by go_grown) (by go_size) (by omega) (by simp [go_sem] <;> omega)
  clear hb_w1
  have KH_w1 := Lib.hid K_w1
  have hw_w1 := K_w1.below
  have hz_w1 := K_w1.size
  have lZ_w1 : w.heap.size < w1.heap.size := by omega
  have cZ0_w1 := K_w1.at (b := w.heap.size) (o := 0) (v := .int .u16 0) (by simp)
  have fZ0_w1 := K_w1.free (b := w.heap.size) (o := 0) (v := .int .u16 0) (by simp)
  have cZ1_w1 := K_w1.at (b := w.heap.size) (o := 1) (v := .slice none 0 0) (by simp)
  have fZ1_w1 := K_w1.free (b := w.heap.size) (o := 1) (v := .slice none 0 0) (by simp)
  have lS_w1 : w.heap.size + 1 < w1.heap.size := by omega
  have cS0_w1 := K_w1.at (b := w.heap.size + 1) (o := 0) (v := .pointer none) (by simp)
  have fS0_w1 := K_w1.free (b := w.heap.size + 1) (o := 0) (v := .pointer none) (by simp)
  have cS1_w1 := K_w1.at (b := w.heap.size + 1) (o := 1) (v := .pointer (some ⟨w.heap.size, 0, none⟩)) (by simp)
  have fS1_w1 := K_w1.free (b := w.heap.size + 1) (o := 1) (v := .pointer (some ⟨w.heap.size, 0, none⟩)) (by simp)
  clear K_w1
  go_wp2_with fail
  with_reducible refine (copy23_nil _).mono ?_
  rintro e w' ⟨rfl, rfl⟩
  go_wp2_with fail
  rw [rounds_succ]
  go_wp2_with fail
  with_reducible refine (accept17_zero w.heap.size a0 _ cZ1_w1).mono ?_
  rintro e w' ⟨rfl, rfl⟩
  go_wp2_with fail
  with_reducible refine (has21_zero w.heap.size a0 _ cZ1_w1).mono ?_
  rintro e w' ⟨rfl, rfl⟩
  go_wp2_with fail
  with_reducible refine (looks20_zero w.heap.size _ cZ1_w1 (by omega)).mono ?_
  rintro e w2 ⟨rfl, hb_w2⟩
  have K_w2 : Kept w.heap.size w (w.heap.size + 2) [(w.heap.size, 0, .int .u16 0), (w.heap.size, 1, .slice none 0 0), (w.heap.size + 1, 0, .pointer none), (w.heap.size + 1, 1, .pointer (some ⟨w.heap.size, 0, none⟩))] w2 := (KH_w1.out.step (by omega) (by go_grown)).step (by omega) hb_w2
  clear hb_w2
  have KH_w2 := Lib.hid K_w2
  have hw_w2 := K_w2.below
  have hz_w2 := K_w2.size
  have lZ_w2 : w.heap.size < w2.heap.size := by omega
  have cZ0_w2 := K_w2.at (b := w.heap.size) (o := 0) (v := .int .u16 0) (by simp)
  have fZ0_w2 := K_w2.free (b := w.heap.size) (o := 0) (v := .int .u16 0) (by simp)
  have cZ1_w2 := K_w2.at (b := w.heap.size) (o := 1) (v := .slice none 0 0) (by simp)
  have fZ1_w2 := K_w2.free (b := w.heap.size) (o := 1) (v := .slice none 0 0) (by simp)
  have lS_w2 : w.heap.size + 1 < w2.heap.size := by omega
  have cS0_w2 := K_w2.at (b := w.heap.size + 1) (o := 0) (v := .pointer none) (by simp)
  have fS0_w2 := K_w2.free (b := w.heap.size + 1) (o := 0) (v := .pointer none) (by simp)
  have cS1_w2 := K_w2.at (b := w.heap.size + 1) (o := 1) (v := .pointer (some ⟨w.heap.size, 0, none⟩)) (by simp)
  have fS1_w2 := K_w2.free (b := w.heap.size + 1) (o := 1) (v := .pointer (some ⟨w.heap.size, 0, none⟩)) (by simp)
  clear lZ_w1 cZ0_w1 fZ0_w1 cZ1_w1 fZ1_w1 lS_w1 cS0_w1 fS0_w1 cS1_w1 fS1_w1
  clear K_w2
  go_wp2_with fail
  with_reducible refine (copy23_zero w.heap.size _ cZ1_w2).mono ?_
  rintro e w' ⟨rfl, rfl⟩
  go_wp2_with fail
  rw [rounds_succ]
  go_wp2_with fail
  with_reducible refine (known15 _).mono ?_
  rintro e w3 ⟨rfl, hb_w3⟩
  have K_w3 : Kept w.heap.size w (w.heap.size + 2) [(w.heap.size, 0, .int .u16 0), (w.heap.size, 1, .slice none 0 0), (w.heap.size + 1, 0, .pointer none), (w.heap.size + 1, 1, .pointer (some ⟨w.heap.size, 0, none⟩))] w3 := (KH_w2.out.step (by omega) (by go_grown)).step (by omega) hb_w3
  clear hb_w3
  have KH_w3 := Lib.hid K_w3
  have hw_w3 := K_w3.below
  have hz_w3 := K_w3.size
  have lZ_w3 : w.heap.size < w3.heap.size := by omega
  have cZ0_w3 := K_w3.at (b := w.heap.size) (o := 0) (v := .int .u16 0) (by simp)
  have fZ0_w3 := K_w3.free (b := w.heap.size) (o := 0) (v := .int .u16 0) (by simp)
  have cZ1_w3 := K_w3.at (b := w.heap.size) (o := 1) (v := .slice none 0 0) (by simp)
  have fZ1_w3 := K_w3.free (b := w.heap.size) (o := 1) (v := .slice none 0 0) (by simp)
  have lS_w3 : w.heap.size + 1 < w3.heap.size := by omega
  have cS0_w3 := K_w3.at (b := w.heap.size + 1) (o := 0) (v := .pointer none) (by simp)
  have fS0_w3 := K_w3.free (b := w.heap.size + 1) (o := 0) (v := .pointer none) (by simp)
  have cS1_w3 := K_w3.at (b := w.heap.size + 1) (o := 1) (v := .pointer (some ⟨w.heap.size, 0, none⟩)) (by simp)
  have fS1_w3 := K_w3.free (b := w.heap.size + 1) (o := 1) (v := .pointer (some ⟨w.heap.size, 0, none⟩)) (by simp)
  clear lZ_w2 cZ0_w2 fZ0_w2 cZ1_w2 fZ1_w2 lS_w2 cS0_w2 fS0_w2 cS1_w2 fS1_w2
  clear K_w3
  go_wp2_with fail
  go_returns
  exact ⟨rfl, by go_grown⟩

set_option maxRecDepth 100000 in
theorem lifted (os : Os) (started : os.Started) (H : Type) (enc : TypeId × Value → H) :
    ReturnsInHanded {} Try.checked os 8 .any (Rows.seqnoNilSpec.pre6 enc Try.prog Try.f8 Rows.seqnoNilRow.domain false) (Rows.seqnoNilSpec.post enc Try.prog Try.f8 false true false false) := by
  refine returnsInHanded_of_change (C := Try.checked) own started (by kernel_rfl) Try.func8
    (ChangeSpec.witness6 (enc := enc) (C := Try.checked) false ⟨#[], #[.int .u16 0], []⟩ 8 (by kernel_rfl) (by kernel_rfl) (by kernel_rfl) (by kernel_rfl)) ?_
  intro W base args ds gs before hval0 hW hcnd _
  have hval : ∀ (j : Nat) t v, Try.f8.params[j]? = some t → args[j]? = some v → Value.okWide Try.prog W .any base t v := hval0
  have hW' := hW
  obtain ⟨p, q, hA0, hV, rfl, hfz, hnd⟩ := hW
  have hA : DataW.TrodAll enc Try.prog W 0 (fun _ => true) true Try.f8.params.toList args.toList ds p := hA0
  rw [Try.params8] at hA hval
  obtain ⟨v0, vs0, d0, ds0, p0, q0, hargs, rfl, rfl, h0, r0⟩ := trodAll_cons hA
  obtain ⟨rfl, rfl, rfl⟩ := trodAll_nil r0
  obtain rfl : args = #[v0] := by cases args; simp_all
  obtain ⟨rfl, rfl⟩ := trodVars_none hV
  have k0 := h0
  have lt0 : ∀ x ∈ p0, x.block < W.heap.size := by obtain ⟨m, hm⟩ := k0; exact DataW.trod_lt m _ _ _ hm
  obtain ⟨a0, rfl, rfl, rfl, w0⟩ := open_int Try.underlying22 (hval 0 22 v0 rfl rfl) h0
  clear hA0 hval0
  refine (walk a0 W w0).mono fun e W' ⟨he, bel⟩ => ?_
  subst he
  exact ⟨_, rfl, _, _, _, [], _, [], hW', trodAll_mk1 (shut_bool Try.underlying4 _), (trodAll_cons_mk (Below.trod laidOut (by kernel_rfl) (of_decide_eq_true (by kernel_rfl)) k0 bel lt0) trodAll_mk0), rfl, bel.frame _, fun h => by cases h⟩

theorem over : Rows.seqnoNilRow.holds Try.pinned (OpenSpec.ofChange Rows.seqnoNilSpec) :=
  OpenClaim.holds_of_wide 8 Try.f8 rfl rfl rfl rfl rfl rfl rfl ⟨rfl, rfl, rfl, rfl, rfl⟩ rfl rfl rfl rfl rfl (by kernel_rfl) Try.func8 (by kernel_rfl)
    (of_decide_eq_true (by kernel_rfl)) (by unfold Func.isWrapper; first | (rw [if_pos (by decide +kernel)]; kernel_rfl) | (rw [if_neg (by decide +kernel)]; exact ⟨rfl, rfl⟩))
    (fun os started H enc _ => lifted os started H enc)

/-- THE STATEMENT -/
theorem proved : Rows.SeqnoNilSaid := over
end Go.Proofs.Ythibagfmglnejaa.seqnoNil
