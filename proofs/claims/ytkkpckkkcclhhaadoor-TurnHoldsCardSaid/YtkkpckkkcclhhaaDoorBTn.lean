/- The phases and their words. -/
import Derived.Test.YtkkpckkkcclhhaaDoorBPt
import Derived.Test.YtkkpckkkcclhhaaDoorBW
import Derived.Test.YtkkpckkkcclhhaaDoorOx
import Derived.Deep.DeepCutAuto
import Derived.LoopTactic
import Derived.WalkKit
import Derived.ProofKit
import Derived.Lib.Hide
namespace Go.Proofs.YtkkpckkkcclhhaaDoor
open Go.RowKit Plain
set_option linter.unusedVariables false
set_option linter.unusedSimpArgs false

/-- the words of the phases, and of others -/
def wdB (p : Int) : ByteArray := if p = 0 then ⟨#[115, 101, 116, 117, 112]⟩ else if p = 1 then ⟨#[117, 110, 116, 97, 112]⟩ else if p = 2 then ⟨#[117, 112, 107, 101, 101, 112]⟩ else if p = 3 then ⟨#[100, 114, 97, 119]⟩ else if p = 4 then ⟨#[109, 97, 105, 110]⟩ else if p = 5 then ⟨#[97, 116, 116, 97, 99, 107]⟩ else if p = 6 then ⟨#[98, 108, 111, 99, 107]⟩ else if p = 7 then ⟨#[102, 105, 103, 104, 116]⟩ else if p = 8 then ⟨#[100, 97, 109, 97, 103, 101]⟩ else if p = 9 then ⟨#[115, 101, 99, 111, 110, 100]⟩ else if p = 10 then ⟨#[101, 110, 100]⟩ else ⟨#[]⟩
/-- the table of the words lies in block 0 -/
def Wds (w : World) : Prop := w.cell? ⟨0, 0, none⟩ = some (.string ⟨#[115, 101, 116, 117, 112]⟩) ∧ w.cell? ⟨0, 1, none⟩ = some (.string ⟨#[117, 110, 116, 97, 112]⟩) ∧ w.cell? ⟨0, 2, none⟩ = some (.string ⟨#[117, 112, 107, 101, 101, 112]⟩) ∧ w.cell? ⟨0, 3, none⟩ = some (.string ⟨#[100, 114, 97, 119]⟩) ∧ w.cell? ⟨0, 4, none⟩ = some (.string ⟨#[109, 97, 105, 110]⟩) ∧ w.cell? ⟨0, 5, none⟩ = some (.string ⟨#[97, 116, 116, 97, 99, 107]⟩) ∧ w.cell? ⟨0, 6, none⟩ = some (.string ⟨#[98, 108, 111, 99, 107]⟩) ∧ w.cell? ⟨0, 7, none⟩ = some (.string ⟨#[102, 105, 103, 104, 116]⟩) ∧ w.cell? ⟨0, 8, none⟩ = some (.string ⟨#[100, 97, 109, 97, 103, 101]⟩) ∧ w.cell? ⟨0, 9, none⟩ = some (.string ⟨#[115, 101, 99, 111, 110, 100]⟩) ∧ w.cell? ⟨0, 10, none⟩ = some (.string ⟨#[101, 110, 100]⟩) ∧ 0 < w.heap.size
theorem Wds.below {w w' : World} (h : Wds w) (hb : Below w.heap.size w w') : Wds w' := by
  obtain ⟨h0, h1, h2, h3, h4, h5, h6, h7, h8, h9, h10, hz⟩ := h
  have e : ∀ i, w'.cell? ⟨0, i, none⟩ = w.cell? ⟨0, i, none⟩ := fun i => hb.cell (p := ⟨0, i, none⟩) hz
  exact ⟨(e 0).trans h0, (e 1).trans h1, (e 2).trans h2, (e 3).trans h3, (e 4).trans h4, (e 5).trans h5, (e 6).trans h6, (e 7).trans h7, (e 8).trans h8, (e 9).trans h9, (e 10).trans h10, Nat.lt_of_lt_of_le hz hb.size⟩
theorem Wds.rng {w w' : World} {lo hi : Nat} (h : Wds w) (hr : Rng lo hi w w') (hl : 0 < lo) : Wds w' := by
  obtain ⟨h0, h1, h2, h3, h4, h5, h6, h7, h8, h9, h10, hz⟩ := h
  have e : ∀ i, w'.cell? ⟨0, i, none⟩ = w.cell? ⟨0, i, none⟩ := fun i => World.cell?_of_block (w := w) (hr.block 0 hz (by omega))
  exact ⟨(e 0).trans h0, (e 1).trans h1, (e 2).trans h2, (e 3).trans h3, (e 4).trans h4, (e 5).trans h5, (e 6).trans h6, (e 7).trans h7, (e 8).trans h8, (e 9).trans h9, (e 10).trans h10, Nat.lt_of_lt_of_le hz hr.size⟩
set_option maxRecDepth 100000 in
set_option maxHeartbeats 4000000 in
theorem word (p : Int) (w : World) (hw : Wds w) : Calls Tryd.prog 11 #[.int .i64 p] w fun e w' => e = .returned (.string (wdB p)) ∧ w = w' := by
  obtain ⟨h0, h1, h2, h3, h4, h5, h6, h7, h8, h9, h10, hz⟩ := hw
  by_cases a0 : p < 0
  · have HR : Hid (wdB p = ⟨#[]⟩) := Lib.hid (by unfold wdB; rw [if_neg (by omega)]; rw [if_neg (by omega)]; rw [if_neg (by omega)]; rw [if_neg (by omega)]; rw [if_neg (by omega)]; rw [if_neg (by omega)]; rw [if_neg (by omega)]; rw [if_neg (by omega)]; rw [if_neg (by omega)]; rw [if_neg (by omega)]; rw [if_neg (by omega)]; )
    have t0 : decide (p < 0) = true := decide_eq_true a0
    clear a0
    go_enter Tryd.func11, Tryd.ntmps11
    go_wp2_with fail
    go_returns
    exact ⟨by rw [HR.out]; rfl, rfl⟩
  have t0 : decide (p < 0) = false := decide_eq_false a0
  by_cases a1 : p ≥ 11
  · have HR : Hid (wdB p = ⟨#[]⟩) := Lib.hid (by unfold wdB; rw [if_neg (by omega)]; rw [if_neg (by omega)]; rw [if_neg (by omega)]; rw [if_neg (by omega)]; rw [if_neg (by omega)]; rw [if_neg (by omega)]; rw [if_neg (by omega)]; rw [if_neg (by omega)]; rw [if_neg (by omega)]; rw [if_neg (by omega)]; rw [if_neg (by omega)]; )
    have t1 : decide (p ≥ 11) = true := decide_eq_true a1
    clear a0 a1
    go_enter Tryd.func11, Tryd.ntmps11
    go_wp2_with fail
    go_returns
    exact ⟨by rw [HR.out]; rfl, rfl⟩
  have : p = 0 ∨ p = 1 ∨ p = 2 ∨ p = 3 ∨ p = 4 ∨ p = 5 ∨ p = 6 ∨ p = 7 ∨ p = 8 ∨ p = 9 ∨ p = 10 := by omega
  clear a0 a1 t0
  rcases this with rfl | rfl | rfl | rfl | rfl | rfl | rfl | rfl | rfl | rfl | rfl
  · go_enter Tryd.func11, Tryd.ntmps11
    go_wp2_with fail
    go_returns
    exact ⟨rfl, rfl⟩
  · go_enter Tryd.func11, Tryd.ntmps11
    go_wp2_with fail
    go_returns
    exact ⟨rfl, rfl⟩
  · go_enter Tryd.func11, Tryd.ntmps11
    go_wp2_with fail
    go_returns
    exact ⟨rfl, rfl⟩
  · go_enter Tryd.func11, Tryd.ntmps11
    go_wp2_with fail
    go_returns
    exact ⟨rfl, rfl⟩
  · go_enter Tryd.func11, Tryd.ntmps11
    go_wp2_with fail
    go_returns
    exact ⟨rfl, rfl⟩
  · go_enter Tryd.func11, Tryd.ntmps11
    go_wp2_with fail
    go_returns
    exact ⟨rfl, rfl⟩
  · go_enter Tryd.func11, Tryd.ntmps11
    go_wp2_with fail
    go_returns
    exact ⟨rfl, rfl⟩
  · go_enter Tryd.func11, Tryd.ntmps11
    go_wp2_with fail
    go_returns
    exact ⟨rfl, rfl⟩
  · go_enter Tryd.func11, Tryd.ntmps11
    go_wp2_with fail
    go_returns
    exact ⟨rfl, rfl⟩
  · go_enter Tryd.func11, Tryd.ntmps11
    go_wp2_with fail
    go_returns
    exact ⟨rfl, rfl⟩
  · go_enter Tryd.func11, Tryd.ntmps11
    go_wp2_with fail
    go_returns
    exact ⟨rfl, rfl⟩
/-- the phase that follows -/
def nxP (p : Int) (a : Bool) : Int := if p < 0 ∨ 10 < p then 0 else if p = 10 then 1 else if p = 5 ∧ a = false then 9 else p + 1
theorem wordc (p : Int) (s : ByteArray) (w : World) (hw : Wds w) (h : wdB p = s) : Calls Tryd.prog 11 #[.int .i64 p] w fun e w' => e = .returned (.string s) ∧ w = w' := by
  subst h
  exact word p w hw
theorem wd_out {p : Int} (h : p < 0 ∨ 11 ≤ p) : wdB p = ⟨#[]⟩ := by unfold wdB; rw [if_neg (by omega)]; rw [if_neg (by omega)]; rw [if_neg (by omega)]; rw [if_neg (by omega)]; rw [if_neg (by omega)]; rw [if_neg (by omega)]; rw [if_neg (by omega)]; rw [if_neg (by omega)]; rw [if_neg (by omega)]; rw [if_neg (by omega)]; rw [if_neg (by omega)];
set_option maxRecDepth 100000 in
set_option maxHeartbeats 4000000 in
theorem next (p : Int) (a : Bool) (w : World) (hw : Wds w) : Calls Tryd.prog 9 #[.int .i64 p, .bool a] w fun e w' => e = .returned (.int .i64 (nxP p a)) ∧ w = w' := by
  have HW := Lib.hid hw
  clear hw
  by_cases a0 : p < 0 ∨ 11 ≤ p
  · have HR : Hid (nxP p a = 0) := Lib.hid (by unfold nxP; rw [if_pos (by omega)])
    have t0 : (p == 0) = false := beq_false_of_ne (by omega)
    have t1 : (p == 10) = false := beq_false_of_ne (by omega)
    have t2 : (p == 5) = false := beq_false_of_ne (by omega)
    have HO := Lib.hid (wd_out a0)
    clear a0
    go_enter Tryd.func9, Tryd.ntmps9
    go_wp2_with fail
    with_reducible refine (wordc p _ _ HW.out HO.out).mono ?_
    rintro e w' ⟨rfl, rfl⟩
    go_wp2_with fail
    go_returns
    exact ⟨by rw [HR.out]; rfl, rfl⟩
  have : p = 0 ∨ p = 1 ∨ p = 2 ∨ p = 3 ∨ p = 4 ∨ p = 5 ∨ p = 6 ∨ p = 7 ∨ p = 8 ∨ p = 9 ∨ p = 10 := by omega
  clear a0
  rcases this with rfl | rfl | rfl | rfl | rfl | rfl | rfl | rfl | rfl | rfl | rfl <;> cases a
  · go_enter Tryd.func9, Tryd.ntmps9
    go_wp2_with fail
    go_returns
    exact ⟨rfl, rfl⟩
  · go_enter Tryd.func9, Tryd.ntmps9
    go_wp2_with fail
    go_returns
    exact ⟨rfl, rfl⟩
  · go_enter Tryd.func9, Tryd.ntmps9
    go_wp2_with fail
    with_reducible refine (wordc 1 ⟨#[117, 110, 116, 97, 112]⟩ _ HW.out rfl).mono ?_
    rintro e w' ⟨rfl, rfl⟩
    go_wp2_with fail
    go_returns
    exact ⟨rfl, rfl⟩
  · go_enter Tryd.func9, Tryd.ntmps9
    go_wp2_with fail
    with_reducible refine (wordc 1 ⟨#[117, 110, 116, 97, 112]⟩ _ HW.out rfl).mono ?_
    rintro e w' ⟨rfl, rfl⟩
    go_wp2_with fail
    go_returns
    exact ⟨rfl, rfl⟩
  · go_enter Tryd.func9, Tryd.ntmps9
    go_wp2_with fail
    with_reducible refine (wordc 2 ⟨#[117, 112, 107, 101, 101, 112]⟩ _ HW.out rfl).mono ?_
    rintro e w' ⟨rfl, rfl⟩
    go_wp2_with fail
    go_returns
    exact ⟨rfl, rfl⟩
  · go_enter Tryd.func9, Tryd.ntmps9
    go_wp2_with fail
    with_reducible refine (wordc 2 ⟨#[117, 112, 107, 101, 101, 112]⟩ _ HW.out rfl).mono ?_
    rintro e w' ⟨rfl, rfl⟩
    go_wp2_with fail
    go_returns
    exact ⟨rfl, rfl⟩
  · go_enter Tryd.func9, Tryd.ntmps9
    go_wp2_with fail
    with_reducible refine (wordc 3 ⟨#[100, 114, 97, 119]⟩ _ HW.out rfl).mono ?_
    rintro e w' ⟨rfl, rfl⟩
    go_wp2_with fail
    go_returns
    exact ⟨rfl, rfl⟩
  · go_enter Tryd.func9, Tryd.ntmps9
    go_wp2_with fail
    with_reducible refine (wordc 3 ⟨#[100, 114, 97, 119]⟩ _ HW.out rfl).mono ?_
    rintro e w' ⟨rfl, rfl⟩
    go_wp2_with fail
    go_returns
    exact ⟨rfl, rfl⟩
  · go_enter Tryd.func9, Tryd.ntmps9
    go_wp2_with fail
    with_reducible refine (wordc 4 ⟨#[109, 97, 105, 110]⟩ _ HW.out rfl).mono ?_
    rintro e w' ⟨rfl, rfl⟩
    go_wp2_with fail
    go_returns
    exact ⟨rfl, rfl⟩
  · go_enter Tryd.func9, Tryd.ntmps9
    go_wp2_with fail
    with_reducible refine (wordc 4 ⟨#[109, 97, 105, 110]⟩ _ HW.out rfl).mono ?_
    rintro e w' ⟨rfl, rfl⟩
    go_wp2_with fail
    go_returns
    exact ⟨rfl, rfl⟩
  · go_enter Tryd.func9, Tryd.ntmps9
    go_wp2_with fail
    go_returns
    exact ⟨rfl, rfl⟩
  · go_enter Tryd.func9, Tryd.ntmps9
    go_wp2_with fail
    with_reducible refine (wordc 5 ⟨#[97, 116, 116, 97, 99, 107]⟩ _ HW.out rfl).mono ?_
    rintro e w' ⟨rfl, rfl⟩
    go_wp2_with fail
    go_returns
    exact ⟨rfl, rfl⟩
  · go_enter Tryd.func9, Tryd.ntmps9
    go_wp2_with fail
    with_reducible refine (wordc 6 ⟨#[98, 108, 111, 99, 107]⟩ _ HW.out rfl).mono ?_
    rintro e w' ⟨rfl, rfl⟩
    go_wp2_with fail
    go_returns
    exact ⟨rfl, rfl⟩
  · go_enter Tryd.func9, Tryd.ntmps9
    go_wp2_with fail
    with_reducible refine (wordc 6 ⟨#[98, 108, 111, 99, 107]⟩ _ HW.out rfl).mono ?_
    rintro e w' ⟨rfl, rfl⟩
    go_wp2_with fail
    go_returns
    exact ⟨rfl, rfl⟩
  · go_enter Tryd.func9, Tryd.ntmps9
    go_wp2_with fail
    with_reducible refine (wordc 7 ⟨#[102, 105, 103, 104, 116]⟩ _ HW.out rfl).mono ?_
    rintro e w' ⟨rfl, rfl⟩
    go_wp2_with fail
    go_returns
    exact ⟨rfl, rfl⟩
  · go_enter Tryd.func9, Tryd.ntmps9
    go_wp2_with fail
    with_reducible refine (wordc 7 ⟨#[102, 105, 103, 104, 116]⟩ _ HW.out rfl).mono ?_
    rintro e w' ⟨rfl, rfl⟩
    go_wp2_with fail
    go_returns
    exact ⟨rfl, rfl⟩
  · go_enter Tryd.func9, Tryd.ntmps9
    go_wp2_with fail
    with_reducible refine (wordc 8 ⟨#[100, 97, 109, 97, 103, 101]⟩ _ HW.out rfl).mono ?_
    rintro e w' ⟨rfl, rfl⟩
    go_wp2_with fail
    go_returns
    exact ⟨rfl, rfl⟩
  · go_enter Tryd.func9, Tryd.ntmps9
    go_wp2_with fail
    with_reducible refine (wordc 8 ⟨#[100, 97, 109, 97, 103, 101]⟩ _ HW.out rfl).mono ?_
    rintro e w' ⟨rfl, rfl⟩
    go_wp2_with fail
    go_returns
    exact ⟨rfl, rfl⟩
  · go_enter Tryd.func9, Tryd.ntmps9
    go_wp2_with fail
    with_reducible refine (wordc 9 ⟨#[115, 101, 99, 111, 110, 100]⟩ _ HW.out rfl).mono ?_
    rintro e w' ⟨rfl, rfl⟩
    go_wp2_with fail
    go_returns
    exact ⟨rfl, rfl⟩
  · go_enter Tryd.func9, Tryd.ntmps9
    go_wp2_with fail
    with_reducible refine (wordc 9 ⟨#[115, 101, 99, 111, 110, 100]⟩ _ HW.out rfl).mono ?_
    rintro e w' ⟨rfl, rfl⟩
    go_wp2_with fail
    go_returns
    exact ⟨rfl, rfl⟩
  · go_enter Tryd.func9, Tryd.ntmps9
    go_wp2_with fail
    go_returns
    exact ⟨rfl, rfl⟩
  · go_enter Tryd.func9, Tryd.ntmps9
    go_wp2_with fail
    go_returns
    exact ⟨rfl, rfl⟩
set_option maxRecDepth 100000 in
set_option maxHeartbeats 4000000 in
theorem rnext (p : Int) (a : Bool) (w : World) : Calls Tryd.prog 10 #[.int .i64 p, .bool a] w fun e w' => e = .returned (.int .i64 (nxP p a)) ∧ w = w' := by
  by_cases a0 : p < 0
  · have HR : Hid (nxP p a = 0) := Lib.hid (by unfold nxP; rw [if_pos (by omega)])
    have t0 : decide (p < 0) = true := decide_eq_true a0
    clear a0
    go_enter Tryd.func10, Tryd.ntmps10
    go_wp2_with fail
    go_returns
    exact ⟨by rw [HR.out]; rfl, rfl⟩
  have t0 : decide (p < 0) = false := decide_eq_false a0
  by_cases a1 : p > 10
  · have HR : Hid (nxP p a = 0) := Lib.hid (by unfold nxP; rw [if_pos (by omega)])
    have t1 : decide (p > 10) = true := decide_eq_true a1
    clear a0 a1
    go_enter Tryd.func10, Tryd.ntmps10
    go_wp2_with fail
    go_returns
    exact ⟨by rw [HR.out]; rfl, rfl⟩
  have : p = 0 ∨ p = 1 ∨ p = 2 ∨ p = 3 ∨ p = 4 ∨ p = 5 ∨ p = 6 ∨ p = 7 ∨ p = 8 ∨ p = 9 ∨ p = 10 := by omega
  clear a0 a1 t0
  rcases this with rfl | rfl | rfl | rfl | rfl | rfl | rfl | rfl | rfl | rfl | rfl <;> cases a
  · go_enter Tryd.func10, Tryd.ntmps10
    go_wp2_with fail
    go_returns
    exact ⟨rfl, rfl⟩
  · go_enter Tryd.func10, Tryd.ntmps10
    go_wp2_with fail
    go_returns
    exact ⟨rfl, rfl⟩
  · go_enter Tryd.func10, Tryd.ntmps10
    go_wp2_with fail
    go_returns
    exact ⟨rfl, rfl⟩
  · go_enter Tryd.func10, Tryd.ntmps10
    go_wp2_with fail
    go_returns
    exact ⟨rfl, rfl⟩
  · go_enter Tryd.func10, Tryd.ntmps10
    go_wp2_with fail
    go_returns
    exact ⟨rfl, rfl⟩
  · go_enter Tryd.func10, Tryd.ntmps10
    go_wp2_with fail
    go_returns
    exact ⟨rfl, rfl⟩
  · go_enter Tryd.func10, Tryd.ntmps10
    go_wp2_with fail
    go_returns
    exact ⟨rfl, rfl⟩
  · go_enter Tryd.func10, Tryd.ntmps10
    go_wp2_with fail
    go_returns
    exact ⟨rfl, rfl⟩
  · go_enter Tryd.func10, Tryd.ntmps10
    go_wp2_with fail
    go_returns
    exact ⟨rfl, rfl⟩
  · go_enter Tryd.func10, Tryd.ntmps10
    go_wp2_with fail
    go_returns
    exact ⟨rfl, rfl⟩
  · go_enter Tryd.func10, Tryd.ntmps10
    go_wp2_with fail
    go_returns
    exact ⟨rfl, rfl⟩
  · go_enter Tryd.func10, Tryd.ntmps10
    go_wp2_with fail
    go_returns
    exact ⟨rfl, rfl⟩
  · go_enter Tryd.func10, Tryd.ntmps10
    go_wp2_with fail
    go_returns
    exact ⟨rfl, rfl⟩
  · go_enter Tryd.func10, Tryd.ntmps10
    go_wp2_with fail
    go_returns
    exact ⟨rfl, rfl⟩
  · go_enter Tryd.func10, Tryd.ntmps10
    go_wp2_with fail
    go_returns
    exact ⟨rfl, rfl⟩
  · go_enter Tryd.func10, Tryd.ntmps10
    go_wp2_with fail
    go_returns
    exact ⟨rfl, rfl⟩
  · go_enter Tryd.func10, Tryd.ntmps10
    go_wp2_with fail
    go_returns
    exact ⟨rfl, rfl⟩
  · go_enter Tryd.func10, Tryd.ntmps10
    go_wp2_with fail
    go_returns
    exact ⟨rfl, rfl⟩
  · go_enter Tryd.func10, Tryd.ntmps10
    go_wp2_with fail
    go_returns
    exact ⟨rfl, rfl⟩
  · go_enter Tryd.func10, Tryd.ntmps10
    go_wp2_with fail
    go_returns
    exact ⟨rfl, rfl⟩
  · go_enter Tryd.func10, Tryd.ntmps10
    go_wp2_with fail
    go_returns
    exact ⟨rfl, rfl⟩
  · go_enter Tryd.func10, Tryd.ntmps10
    go_wp2_with fail
    go_returns
    exact ⟨rfl, rfl⟩
end Go.Proofs.YtkkpckkkcclhhaaDoor
