/-
  PROVED: the law zeitnotlaw40.RatingHolds returns true for every input, and its arguments read afterwards as they read before (Rows.RatingHoldsSaid). CONDITIONS: none.
  The frame of the text was laid by a program of the kit; the walk is ours.
-/
import Derived.Test.YtnabpcgpheakfaaRows
import Derived.Test.YtnabpcgpheakfaaExp
import Derived.Test.YtnabpcgpheakfaaLaw
import Derived.WalkKit
import Derived.ProofKit
import Derived.OpenShut
import Derived.ShutString
namespace Go.Proofs.Ytnabpcgpheakfaa.ratingHolds
open Go.ChangeShapes Go.WideShapes Go.ChangeAt Go.RowKit
open Go.ChangeMaps (open_string shut_string)
set_option linter.unusedVariables false      -- a walk need not use every 'w<i>' (that an integer argument fits its kind)

theorem own : ownKnob Try.prog.godebug = none := by kernel_rfl

/-! ### STEP 1: THE WALK: the Go text returns true. 'Grown w w'': the world has at most new blocks (Derived/RowKit3.lean). Part the cases AHEAD of 'go_enter' where a test parts the walk; take each callee by a contract of your own. -/
set_option maxRecDepth 100000 in
set_option maxHeartbeats 4000000 in
theorem walk (a0 : Int) (a1 : Int) (a2 : Int) (a3 : Int) (a4 : Int) (w0 : (Lit.int .i64 a0).wf = true) (w1 : (Lit.int .i64 a1).wf = true) (w2 : (Lit.int .i64 a2).wf = true) (w3 : (Lit.int .i64 a3).wf = true) (w4 : (Lit.int .i64 a4).wf = true) (w : World) :
    Calls Try.prog 5 #[.int .i64 a0, .int .i64 a1, .int .i64 a2, .int .i64 a3, .int .i64 a4] w fun e w' => e = .returned (.bool true) ∧ Grown w w' := by
  cases ha : Plain.vB a0
  · go_enter Try.func5, Try.ntmps5
    go_wp2_with (first | (go_at_call 9; refine (valid9 _ _).mono ?_; rintro e w' ⟨rfl, rfl⟩) | (go_at_call 13; refine (allowed13 _ _ _).mono ?_; rintro e w' ⟨rfl, rfl⟩))
    with_reducible refine (known11 _).mono ?_
    rintro e w' ⟨rfl, rfl⟩
    go_wp2_with fail
    go_ret
    exact ⟨rfl, Grown.refl _⟩
  cases hb : Plain.vB a1
  · go_enter Try.func5, Try.ntmps5
    go_wp2_with (first | (go_at_call 9; refine (valid9 _ _).mono ?_; rintro e w' ⟨rfl, rfl⟩) | (go_at_call 13; refine (allowed13 _ _ _).mono ?_; rintro e w' ⟨rfl, rfl⟩))
    with_reducible refine (known11 _).mono ?_
    rintro e w' ⟨rfl, rfl⟩
    go_wp2_with fail
    go_ret
    exact ⟨rfl, Grown.refl _⟩
  cases hc : Plain.vB a2
  · go_enter Try.func5, Try.ntmps5
    go_wp2_with (first | (go_at_call 9; refine (valid9 _ _).mono ?_; rintro e w' ⟨rfl, rfl⟩) | (go_at_call 13; refine (allowed13 _ _ _).mono ?_; rintro e w' ⟨rfl, rfl⟩))
    with_reducible refine (known11 _).mono ?_
    rintro e w' ⟨rfl, rfl⟩
    go_wp2_with fail
    go_ret
    exact ⟨rfl, Grown.refl _⟩
  cases hf : Plain.alB a3 a4
  · go_enter Try.func5, Try.ntmps5
    go_wp2_with (first | (go_at_call 9; refine (valid9 _ _).mono ?_; rintro e w' ⟨rfl, rfl⟩) | (go_at_call 13; refine (allowed13 _ _ _).mono ?_; rintro e w' ⟨rfl, rfl⟩))
    with_reducible refine (known11 _).mono ?_
    rintro e w' ⟨rfl, rfl⟩
    go_wp2_with fail
    go_ret
    exact ⟨rfl, Grown.refl _⟩
  have ⟨x0, x1⟩ := Plain.vB_true ha
  have ⟨y0, y1⟩ := Plain.vB_true hb
  have ⟨z0, z1⟩ := Plain.vB_true hc
  have ⟨f0, f1, s0, s1⟩ := Plain.alB_true hf
  have hf' : Plain.alB a3 (2 - a4) = true := by simp [Plain.alB]; omega
  have b1 := Plain.ex_bd a0 a1
  have b2 := Plain.ex_bd a1 a0
  have b3 := Plain.ex_bd a2 a1
  have sm := Plain.ex_sum a0 a1
  have s_lo : 1000 ≤ Plain.ex a0 a1 + Plain.ex a1 a0 := by omega
  have s_hi : Plain.ex a0 a1 + Plain.ex a1 a0 ≤ 1000 := by omega
  have sme : (Plain.ex a0 a1 + Plain.ex a1 a0 != 1000) = false := by simp [sm]
  have cb := chg_bd a0 a1 a3 a4 ha hb
  have op := Plain.chg_opp (f := a3) (s := a4) ha hb
  obtain ⟨c, hcc⟩ : ∃ c, c = Plain.chg a0 a1 a3 a4 := ⟨_, rfl⟩
  have hp : Plain.vB (a0 + c) = true := by simp [Plain.vB]; omega
  have hq : Plain.vB (a1 - c) = true := by simp [Plain.vB]; omega
  have hq2 : Plain.vB (a1 + -c) = true := by simp [Plain.vB]; omega
  have wn : 2 ≤ a4 → 0 ≤ c := fun h => by have := Plain.chg_win (a := a0) (b := a1) (f := a3) (s := a4) ha hb f0 h; omega
  have ls : a4 ≤ 0 → c ≤ 0 := fun h => by have := Plain.chg_loss (a := a0) (b := a1) (f := a3) (s := a4) ha hb f0 h; omega
  have OP : Hid (Plain.chg a1 a0 a3 (2 - a4) = -c) := Lib.hid (by rw [op, hcc])
  have HCC := Lib.hid hcc
  have WN := Lib.hid wn
  have LS := Lib.hid ls
  have HF := Lib.hid hf'
  have c0 : 0 ≤ a0 + c := by omega
  have c1 : a0 + c ≤ 4000 := by omega
  have c2 : 0 ≤ a1 - c := by omega
  have c3 : a1 - c ≤ 4000 := by omega
  clear wn ls op cb hcc sm hf'
  rcases Int.lt_trichotomy a2 a0 with ho | ho | ho
  · have mo := Plain.ex_mono (c := a2) (a := a0) a1 (by omega)
    by_cases hs2 : a4 = 2
    · have e2 : (a4 != 2) = false := by simp [hs2]
      have e0 : (a4 != 0) = true := by simp [hs2]
      have cw := WN.out (by omega)
      have H2 := Lib.hid hs2
      clear hs2
      go_enter Try.func5, Try.ntmps5
      go_wp2_with (first | (go_at_call 9; refine (valid9 _ _).mono ?_; rintro e w' ⟨rfl, rfl⟩) | (go_at_call 13; refine (allowed13 _ _ _).mono ?_; rintro e w' ⟨rfl, rfl⟩))
      with_reducible refine (expect17 _ _ _ ha hb).mono ?_
      rintro e w' ⟨rfl, rfl⟩
      go_wp2_with fail
      with_reducible refine (expect17 _ _ _ hb ha).mono ?_
      rintro e w' ⟨rfl, rfl⟩
      go_wp2_with fail
      with_reducible refine (expect17 _ _ _ hc hb).mono ?_
      rintro e w' ⟨rfl, rfl⟩
      go_wp2_with fail
      with_reducible refine (match18 _ _ _ _ _ ha hb hf).mono ?_
      rw [← HCC.out]
      rintro e w' ⟨rfl, rfl⟩
      go_wp2_with fail
      with_reducible refine (match18 _ _ _ _ _ hb ha HF.out).mono ?_
      rw [OP.out]
      rintro e w' ⟨rfl, rfl⟩
      go_wp2_with (go_at_call 8; refine (valid8 _ _).mono ?_; rintro e w' ⟨rfl, rfl⟩)
      with_reducible refine (known11 _).mono ?_
      rintro e w' ⟨rfl, rfl⟩
      go_wp2_with fail
      go_ret
      exact ⟨rfl, Grown.refl _⟩
    by_cases hs0 : a4 = 0
    · have e2 : (a4 != 2) = true := by simp [hs2]
      have e0 : (a4 != 0) = false := by simp [hs0]
      have cw := LS.out (by omega)
      have H2 := Lib.hid hs2
      have H0 := Lib.hid hs0
      clear hs2 hs0
      go_enter Try.func5, Try.ntmps5
      go_wp2_with (first | (go_at_call 9; refine (valid9 _ _).mono ?_; rintro e w' ⟨rfl, rfl⟩) | (go_at_call 13; refine (allowed13 _ _ _).mono ?_; rintro e w' ⟨rfl, rfl⟩))
      with_reducible refine (expect17 _ _ _ ha hb).mono ?_
      rintro e w' ⟨rfl, rfl⟩
      go_wp2_with fail
      with_reducible refine (expect17 _ _ _ hb ha).mono ?_
      rintro e w' ⟨rfl, rfl⟩
      go_wp2_with fail
      with_reducible refine (expect17 _ _ _ hc hb).mono ?_
      rintro e w' ⟨rfl, rfl⟩
      go_wp2_with fail
      with_reducible refine (match18 _ _ _ _ _ ha hb hf).mono ?_
      rw [← HCC.out]
      rintro e w' ⟨rfl, rfl⟩
      go_wp2_with fail
      with_reducible refine (match18 _ _ _ _ _ hb ha HF.out).mono ?_
      rw [OP.out]
      rintro e w' ⟨rfl, rfl⟩
      go_wp2_with (go_at_call 8; refine (valid8 _ _).mono ?_; rintro e w' ⟨rfl, rfl⟩)
      with_reducible refine (known11 _).mono ?_
      rintro e w' ⟨rfl, rfl⟩
      go_wp2_with fail
      go_ret
      exact ⟨rfl, Grown.refl _⟩
    have e2 : (a4 != 2) = true := by simp [hs2]
    have e0 : (a4 != 0) = true := by simp [hs0]
    have H2 := Lib.hid hs2
    have H0 := Lib.hid hs0
    clear hs2 hs0
    go_enter Try.func5, Try.ntmps5
    go_wp2_with (first | (go_at_call 9; refine (valid9 _ _).mono ?_; rintro e w' ⟨rfl, rfl⟩) | (go_at_call 13; refine (allowed13 _ _ _).mono ?_; rintro e w' ⟨rfl, rfl⟩))
    with_reducible refine (expect17 _ _ _ ha hb).mono ?_
    rintro e w' ⟨rfl, rfl⟩
    go_wp2_with fail
    with_reducible refine (expect17 _ _ _ hb ha).mono ?_
    rintro e w' ⟨rfl, rfl⟩
    go_wp2_with fail
    with_reducible refine (expect17 _ _ _ hc hb).mono ?_
    rintro e w' ⟨rfl, rfl⟩
    go_wp2_with fail
    with_reducible refine (match18 _ _ _ _ _ ha hb hf).mono ?_
    rw [← HCC.out]
    rintro e w' ⟨rfl, rfl⟩
    go_wp2_with fail
    with_reducible refine (match18 _ _ _ _ _ hb ha HF.out).mono ?_
    rw [OP.out]
    rintro e w' ⟨rfl, rfl⟩
    go_wp2_with (go_at_call 8; refine (valid8 _ _).mono ?_; rintro e w' ⟨rfl, rfl⟩)
    with_reducible refine (known11 _).mono ?_
    rintro e w' ⟨rfl, rfl⟩
    go_wp2_with fail
    go_ret
    exact ⟨rfl, Grown.refl _⟩
  · subst ho
    by_cases hs2 : a4 = 2
    · have e2 : (a4 != 2) = false := by simp [hs2]
      have e0 : (a4 != 0) = true := by simp [hs2]
      have cw := WN.out (by omega)
      have H2 := Lib.hid hs2
      clear hs2
      go_enter Try.func5, Try.ntmps5
      go_wp2_with (first | (go_at_call 9; refine (valid9 _ _).mono ?_; rintro e w' ⟨rfl, rfl⟩) | (go_at_call 13; refine (allowed13 _ _ _).mono ?_; rintro e w' ⟨rfl, rfl⟩))
      with_reducible refine (expect17 _ _ _ ha hb).mono ?_
      rintro e w' ⟨rfl, rfl⟩
      go_wp2_with fail
      with_reducible refine (expect17 _ _ _ hb ha).mono ?_
      rintro e w' ⟨rfl, rfl⟩
      go_wp2_with fail
      with_reducible refine (expect17 _ _ _ hc hb).mono ?_
      rintro e w' ⟨rfl, rfl⟩
      go_wp2_with fail
      with_reducible refine (match18 _ _ _ _ _ ha hb hf).mono ?_
      rw [← HCC.out]
      rintro e w' ⟨rfl, rfl⟩
      go_wp2_with fail
      with_reducible refine (match18 _ _ _ _ _ hb ha HF.out).mono ?_
      rw [OP.out]
      rintro e w' ⟨rfl, rfl⟩
      go_wp2_with (go_at_call 8; refine (valid8 _ _).mono ?_; rintro e w' ⟨rfl, rfl⟩)
      with_reducible refine (known11 _).mono ?_
      rintro e w' ⟨rfl, rfl⟩
      go_wp2_with fail
      go_ret
      exact ⟨rfl, Grown.refl _⟩
    by_cases hs0 : a4 = 0
    · have e2 : (a4 != 2) = true := by simp [hs2]
      have e0 : (a4 != 0) = false := by simp [hs0]
      have cw := LS.out (by omega)
      have H2 := Lib.hid hs2
      have H0 := Lib.hid hs0
      clear hs2 hs0
      go_enter Try.func5, Try.ntmps5
      go_wp2_with (first | (go_at_call 9; refine (valid9 _ _).mono ?_; rintro e w' ⟨rfl, rfl⟩) | (go_at_call 13; refine (allowed13 _ _ _).mono ?_; rintro e w' ⟨rfl, rfl⟩))
      with_reducible refine (expect17 _ _ _ ha hb).mono ?_
      rintro e w' ⟨rfl, rfl⟩
      go_wp2_with fail
      with_reducible refine (expect17 _ _ _ hb ha).mono ?_
      rintro e w' ⟨rfl, rfl⟩
      go_wp2_with fail
      with_reducible refine (expect17 _ _ _ hc hb).mono ?_
      rintro e w' ⟨rfl, rfl⟩
      go_wp2_with fail
      with_reducible refine (match18 _ _ _ _ _ ha hb hf).mono ?_
      rw [← HCC.out]
      rintro e w' ⟨rfl, rfl⟩
      go_wp2_with fail
      with_reducible refine (match18 _ _ _ _ _ hb ha HF.out).mono ?_
      rw [OP.out]
      rintro e w' ⟨rfl, rfl⟩
      go_wp2_with (go_at_call 8; refine (valid8 _ _).mono ?_; rintro e w' ⟨rfl, rfl⟩)
      with_reducible refine (known11 _).mono ?_
      rintro e w' ⟨rfl, rfl⟩
      go_wp2_with fail
      go_ret
      exact ⟨rfl, Grown.refl _⟩
    have e2 : (a4 != 2) = true := by simp [hs2]
    have e0 : (a4 != 0) = true := by simp [hs0]
    have H2 := Lib.hid hs2
    have H0 := Lib.hid hs0
    clear hs2 hs0
    go_enter Try.func5, Try.ntmps5
    go_wp2_with (first | (go_at_call 9; refine (valid9 _ _).mono ?_; rintro e w' ⟨rfl, rfl⟩) | (go_at_call 13; refine (allowed13 _ _ _).mono ?_; rintro e w' ⟨rfl, rfl⟩))
    with_reducible refine (expect17 _ _ _ ha hb).mono ?_
    rintro e w' ⟨rfl, rfl⟩
    go_wp2_with fail
    with_reducible refine (expect17 _ _ _ hb ha).mono ?_
    rintro e w' ⟨rfl, rfl⟩
    go_wp2_with fail
    with_reducible refine (expect17 _ _ _ hc hb).mono ?_
    rintro e w' ⟨rfl, rfl⟩
    go_wp2_with fail
    with_reducible refine (match18 _ _ _ _ _ ha hb hf).mono ?_
    rw [← HCC.out]
    rintro e w' ⟨rfl, rfl⟩
    go_wp2_with fail
    with_reducible refine (match18 _ _ _ _ _ hb ha HF.out).mono ?_
    rw [OP.out]
    rintro e w' ⟨rfl, rfl⟩
    go_wp2_with (go_at_call 8; refine (valid8 _ _).mono ?_; rintro e w' ⟨rfl, rfl⟩)
    with_reducible refine (known11 _).mono ?_
    rintro e w' ⟨rfl, rfl⟩
    go_wp2_with fail
    go_ret
    exact ⟨rfl, Grown.refl _⟩
  · have mo : Plain.ex a0 a1 ≤ Plain.ex a2 a1 := Plain.ex_mono a1 (by omega)
    by_cases hs2 : a4 = 2
    · have e2 : (a4 != 2) = false := by simp [hs2]
      have e0 : (a4 != 0) = true := by simp [hs2]
      have cw := WN.out (by omega)
      have H2 := Lib.hid hs2
      clear hs2
      go_enter Try.func5, Try.ntmps5
      go_wp2_with (first | (go_at_call 9; refine (valid9 _ _).mono ?_; rintro e w' ⟨rfl, rfl⟩) | (go_at_call 13; refine (allowed13 _ _ _).mono ?_; rintro e w' ⟨rfl, rfl⟩))
      with_reducible refine (expect17 _ _ _ ha hb).mono ?_
      rintro e w' ⟨rfl, rfl⟩
      go_wp2_with fail
      with_reducible refine (expect17 _ _ _ hb ha).mono ?_
      rintro e w' ⟨rfl, rfl⟩
      go_wp2_with fail
      with_reducible refine (expect17 _ _ _ hc hb).mono ?_
      rintro e w' ⟨rfl, rfl⟩
      go_wp2_with fail
      with_reducible refine (match18 _ _ _ _ _ ha hb hf).mono ?_
      rw [← HCC.out]
      rintro e w' ⟨rfl, rfl⟩
      go_wp2_with fail
      with_reducible refine (match18 _ _ _ _ _ hb ha HF.out).mono ?_
      rw [OP.out]
      rintro e w' ⟨rfl, rfl⟩
      go_wp2_with (go_at_call 8; refine (valid8 _ _).mono ?_; rintro e w' ⟨rfl, rfl⟩)
      with_reducible refine (known11 _).mono ?_
      rintro e w' ⟨rfl, rfl⟩
      go_wp2_with fail
      go_ret
      exact ⟨rfl, Grown.refl _⟩
    by_cases hs0 : a4 = 0
    · have e2 : (a4 != 2) = true := by simp [hs2]
      have e0 : (a4 != 0) = false := by simp [hs0]
      have cw := LS.out (by omega)
      have H2 := Lib.hid hs2
      have H0 := Lib.hid hs0
      clear hs2 hs0
      go_enter Try.func5, Try.ntmps5
      go_wp2_with (first | (go_at_call 9; refine (valid9 _ _).mono ?_; rintro e w' ⟨rfl, rfl⟩) | (go_at_call 13; refine (allowed13 _ _ _).mono ?_; rintro e w' ⟨rfl, rfl⟩))
      with_reducible refine (expect17 _ _ _ ha hb).mono ?_
      rintro e w' ⟨rfl, rfl⟩
      go_wp2_with fail
      with_reducible refine (expect17 _ _ _ hb ha).mono ?_
      rintro e w' ⟨rfl, rfl⟩
      go_wp2_with fail
      with_reducible refine (expect17 _ _ _ hc hb).mono ?_
      rintro e w' ⟨rfl, rfl⟩
      go_wp2_with fail
      with_reducible refine (match18 _ _ _ _ _ ha hb hf).mono ?_
      rw [← HCC.out]
      rintro e w' ⟨rfl, rfl⟩
      go_wp2_with fail
      with_reducible refine (match18 _ _ _ _ _ hb ha HF.out).mono ?_
      rw [OP.out]
      rintro e w' ⟨rfl, rfl⟩
      go_wp2_with (go_at_call 8; refine (valid8 _ _).mono ?_; rintro e w' ⟨rfl, rfl⟩)
      with_reducible refine (known11 _).mono ?_
      rintro e w' ⟨rfl, rfl⟩
      go_wp2_with fail
      go_ret
      exact ⟨rfl, Grown.refl _⟩
    have e2 : (a4 != 2) = true := by simp [hs2]
    have e0 : (a4 != 0) = true := by simp [hs0]
    have H2 := Lib.hid hs2
    have H0 := Lib.hid hs0
    clear hs2 hs0
    go_enter Try.func5, Try.ntmps5
    go_wp2_with (first | (go_at_call 9; refine (valid9 _ _).mono ?_; rintro e w' ⟨rfl, rfl⟩) | (go_at_call 13; refine (allowed13 _ _ _).mono ?_; rintro e w' ⟨rfl, rfl⟩))
    with_reducible refine (expect17 _ _ _ ha hb).mono ?_
    rintro e w' ⟨rfl, rfl⟩
    go_wp2_with fail
    with_reducible refine (expect17 _ _ _ hb ha).mono ?_
    rintro e w' ⟨rfl, rfl⟩
    go_wp2_with fail
    with_reducible refine (expect17 _ _ _ hc hb).mono ?_
    rintro e w' ⟨rfl, rfl⟩
    go_wp2_with fail
    with_reducible refine (match18 _ _ _ _ _ ha hb hf).mono ?_
    rw [← HCC.out]
    rintro e w' ⟨rfl, rfl⟩
    go_wp2_with fail
    with_reducible refine (match18 _ _ _ _ _ hb ha HF.out).mono ?_
    rw [OP.out]
    rintro e w' ⟨rfl, rfl⟩
    go_wp2_with (go_at_call 8; refine (valid8 _ _).mono ?_; rintro e w' ⟨rfl, rfl⟩)
    with_reducible refine (known11 _).mono ?_
    rintro e w' ⟨rfl, rfl⟩
    go_wp2_with fail
    go_ret
    exact ⟨rfl, Grown.refl _⟩

/-! ### THE ROW's STEP: WRITTEN OUT: LEAVE IT -/
set_option maxRecDepth 100000 in
theorem lifted (os : Os) (started : os.Started) (H : Type) (enc : TypeId × Value → H) :
    ReturnsInHanded {} Try.checked os 5 .any (Rows.ratingHoldsSpec.pre6 enc Try.prog Try.f5 Rows.ratingHoldsRow.domain false) (Rows.ratingHoldsSpec.post enc Try.prog Try.f5 false true false false) := by
  refine returnsInHanded_of_change (C := Try.checked) own started (by kernel_rfl) Try.func5
    (ChangeSpec.witness6 (enc := enc) (C := Try.checked) false ⟨#[], #[.int .i64 0, .int .i64 0, .int .i64 0, .int .i64 0, .int .i64 0], []⟩ 8 (by kernel_rfl) (by kernel_rfl) (by kernel_rfl) (by kernel_rfl)) ?_
  intro W base args ds gs before hval0 hW hcnd _
  have hval : ∀ (j : Nat) t v, Try.f5.params[j]? = some t → args[j]? = some v → Value.okWide Try.prog W .any base t v := hval0
  have hW' := hW
  obtain ⟨p, q, hA0, hV, rfl, hfz, hnd⟩ := hW
  have hA : DataW.TrodAll enc Try.prog W 0 (fun _ => true) true Try.f5.params.toList args.toList ds p := hA0
  rw [Try.params5] at hA hval
  obtain ⟨v0, vs0, d0, ds0, p0, q0, hargs, rfl, rfl, h0, r0⟩ := trodAll_cons hA
  obtain ⟨v1, vs1, d1, ds1, p1, q1, rfl, rfl, rfl, h1, r1⟩ := trodAll_cons r0
  obtain ⟨v2, vs2, d2, ds2, p2, q2, rfl, rfl, rfl, h2, r2⟩ := trodAll_cons r1
  obtain ⟨v3, vs3, d3, ds3, p3, q3, rfl, rfl, rfl, h3, r3⟩ := trodAll_cons r2
  obtain ⟨v4, vs4, d4, ds4, p4, q4, rfl, rfl, rfl, h4, r4⟩ := trodAll_cons r3
  obtain ⟨rfl, rfl, rfl⟩ := trodAll_nil r4
  obtain rfl : args = #[v0, v1, v2, v3, v4] := by cases args; simp_all
  obtain ⟨rfl, rfl⟩ := trodVars_none hV
  obtain ⟨a0, rfl, rfl, rfl, w0⟩ := open_int Try.underlying3 (hval 0 3 v0 rfl rfl) h0
  obtain ⟨a1, rfl, rfl, rfl, w1⟩ := open_int Try.underlying3 (hval 1 3 v1 rfl rfl) h1
  obtain ⟨a2, rfl, rfl, rfl, w2⟩ := open_int Try.underlying3 (hval 2 3 v2 rfl rfl) h2
  obtain ⟨a3, rfl, rfl, rfl, w3⟩ := open_int Try.underlying3 (hval 3 3 v3 rfl rfl) h3
  obtain ⟨a4, rfl, rfl, rfl, w4⟩ := open_int Try.underlying27 (hval 4 27 v4 rfl rfl) h4
  clear hA0 hval0
  simp only [List.append_nil] at hW'
  refine (walk a0 a1 a2 a3 a4 w0 w1 w2 w3 w4 W).mono fun e W' ⟨he, hg⟩ => ?_
  subst he
  exact ⟨_, rfl, post_of_same (pa := []) (pv := []) hW' (fun _ _ _ => (trodAll_cons_mk (shut_bool Try.underlying4 _) trodAll_mk0)) (fun sp _ => (trodAll_cons_mk (shut_int Try.underlying3 w0) (trodAll_cons_mk (shut_int Try.underlying3 w1) (trodAll_cons_mk (shut_int Try.underlying3 w2) (trodAll_cons_mk (shut_int Try.underlying3 w3) (trodAll_cons_mk (shut_int Try.underlying27 w4) trodAll_mk0)))))) (fun _ _ => rfl) rfl
    (hg.frame _) hg.2.1 (ok_one (by kernel_rfl) rfl (okWide_bool_mk Try.underlying4 _))⟩

theorem over : Rows.ratingHoldsRow.holds Try.pinned (OpenSpec.ofChange Rows.ratingHoldsSpec) :=
  OpenClaim.holds_of_wide 5 Try.f5 rfl rfl rfl rfl rfl rfl rfl ⟨rfl, rfl, rfl, rfl, rfl⟩ rfl rfl rfl rfl rfl (by kernel_rfl) Try.func5 (by kernel_rfl)
    (of_decide_eq_true (by kernel_rfl)) (by unfold Func.isWrapper; first | (rw [if_pos (by decide +kernel)]; kernel_rfl) | (rw [if_neg (by decide +kernel)]; exact ⟨rfl, rfl⟩))
    (fun os started H enc _ => lifted os started H enc)

/-- ████ THE STATEMENT ████ -/
theorem proved : Rows.RatingHoldsSaid :=
  over
#print axioms proved
end Go.Proofs.Ytnabpcgpheakfaa.ratingHolds
