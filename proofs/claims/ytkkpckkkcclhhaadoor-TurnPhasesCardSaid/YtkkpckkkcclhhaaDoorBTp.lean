/- The law about the phases: the walk. -/
import Derived.Test.YtkkpckkkcclhhaaDoorBTk
namespace Go.Proofs.YtkkpckkkcclhhaaDoor
open Go.RowKit Plain
set_option linter.unusedVariables false
set_option linter.unusedSimpArgs false

set_option maxRecDepth 100000 in
set_option maxHeartbeats 4000000 in
theorem rwords (w : World) : Calls Tryd.prog 8 #[] w fun e w' => e = .returned (.slice (some ⟨w.heap.size, 0, none⟩) 11 11) ∧ Below w.heap.size w w' ∧ w.heap.size < w'.heap.size ∧ ∀ k : Nat, k < 11 → w'.cell? ⟨w.heap.size, k, none⟩ = some (.string (wdB k)) := by
  go_enter Tryd.func8, Tryd.ntmps8
  go_wp2_with fail
  go_returns
  exact ⟨rfl, (Below.refl _ _).alloc (Nat.le_refl _) _, by simp, fun k hk => by
    match k, hk with
    | 0, _ => exact (Ro.new _ _ _).cell 0
    | 1, _ => exact (Ro.new _ _ _).cell 1
    | 2, _ => exact (Ro.new _ _ _).cell 2
    | 3, _ => exact (Ro.new _ _ _).cell 3
    | 4, _ => exact (Ro.new _ _ _).cell 4
    | 5, _ => exact (Ro.new _ _ _).cell 5
    | 6, _ => exact (Ro.new _ _ _).cell 6
    | 7, _ => exact (Ro.new _ _ _).cell 7
    | 8, _ => exact (Ro.new _ _ _).cell 8
    | 9, _ => exact (Ro.new _ _ _).cell 9
    | 10, _ => exact (Ro.new _ _ _).cell 10⟩
theorem rnextc (p : Int) (a : Bool) (r : Int) (w : World) (h : nxP p a = r) : Calls Tryd.prog 10 #[.int .i64 p, .bool a] w fun e w' => e = .returned (.int .i64 r) ∧ w = w' := by
  subst h
  exact rnext p a w
set_option maxRecDepth 100000 in
set_option maxHeartbeats 4000000 in
theorem phases (p : Int) (w : World) (hw : Wds w) : Calls Tryd.prog 3 #[.int .i64 p] w fun e w' => e = .returned (.bool true) ∧ Below w.heap.size w w' := by
  have HWD := Lib.hid hw
  clear hw
  by_cases a0 : p < 0
  · have HR : Hid (wdB p = ⟨#[]⟩) := Lib.hid (wd_out (by omega))
    have HN1 : Hid (nxP p true = 0) := Lib.hid (by unfold nxP; rw [if_pos (by omega)])
    have HN0 : Hid (nxP p false = 0) := Lib.hid (by unfold nxP; rw [if_pos (by omega)])
    have t0 : decide (p ≥ 0) = false := decide_eq_false (by omega)
    clear a0
    go_enter Tryd.func3, Tryd.ntmps3
    go_wp2_with fail
    with_reducible refine (nextc _ true 0 _ HWD.out HN1.out).mono ?_
    rintro e w' ⟨rfl, rfl⟩
    go_wp2_with fail
    with_reducible refine (rnextc _ true 0 _ HN1.out).mono ?_
    rintro e w' ⟨rfl, rfl⟩
    go_wp2_with fail
    with_reducible refine (nextc _ false 0 _ HWD.out HN0.out).mono ?_
    rintro e w' ⟨rfl, rfl⟩
    go_wp2_with fail
    with_reducible refine (rnextc _ false 0 _ HN0.out).mono ?_
    rintro e w' ⟨rfl, rfl⟩
    go_wp2_with fail
    with_reducible refine (wordc _ ⟨#[]⟩ _ HWD.out HR.out).mono ?_
    rintro e w' ⟨rfl, rfl⟩
    go_wp2_with fail
    with_reducible refine (known _ HWD.out).mono ?_
    rintro e w2 ⟨rfl, hb2⟩
    have HB := Lib.hid hb2
    clear hb2
    go_wp2_with fail
    go_returns
    exact ⟨rfl, HB.out⟩
  have t0 : decide (p ≥ 0) = true := decide_eq_true (by omega)
  by_cases a1 : p > 10
  · have HR : Hid (wdB p = ⟨#[]⟩) := Lib.hid (wd_out (by omega))
    have HN1 : Hid (nxP p true = 0) := Lib.hid (by unfold nxP; rw [if_pos (by omega)])
    have HN0 : Hid (nxP p false = 0) := Lib.hid (by unfold nxP; rw [if_pos (by omega)])
    have t1 : decide (p ≤ 10) = false := decide_eq_false (by omega)
    clear a0 a1
    go_enter Tryd.func3, Tryd.ntmps3
    go_wp2_with fail
    with_reducible refine (nextc _ true 0 _ HWD.out HN1.out).mono ?_
    rintro e w' ⟨rfl, rfl⟩
    go_wp2_with fail
    with_reducible refine (rnextc _ true 0 _ HN1.out).mono ?_
    rintro e w' ⟨rfl, rfl⟩
    go_wp2_with fail
    with_reducible refine (nextc _ false 0 _ HWD.out HN0.out).mono ?_
    rintro e w' ⟨rfl, rfl⟩
    go_wp2_with fail
    with_reducible refine (rnextc _ false 0 _ HN0.out).mono ?_
    rintro e w' ⟨rfl, rfl⟩
    go_wp2_with fail
    with_reducible refine (wordc _ ⟨#[]⟩ _ HWD.out HR.out).mono ?_
    rintro e w' ⟨rfl, rfl⟩
    go_wp2_with fail
    with_reducible refine (known _ HWD.out).mono ?_
    rintro e w2 ⟨rfl, hb2⟩
    have HB := Lib.hid hb2
    clear hb2
    go_wp2_with fail
    go_returns
    exact ⟨rfl, HB.out⟩
  have : p = 0 ∨ p = 1 ∨ p = 2 ∨ p = 3 ∨ p = 4 ∨ p = 5 ∨ p = 6 ∨ p = 7 ∨ p = 8 ∨ p = 9 ∨ p = 10 := by omega
  clear a0 a1 t0
  rcases this with rfl | rfl | rfl | rfl | rfl | rfl | rfl | rfl | rfl | rfl | rfl
  · go_enter Tryd.func3, Tryd.ntmps3
    go_wp2_with fail
    with_reducible refine (rwords _).mono ?_
    rintro e w1 ⟨rfl, hb, hz, hc⟩
    replace HWD := Lib.hid (HWD.out.below hb)
    have HB := Lib.hid hb
    have d0 := hc 0 (by omega)
    change w1.cell? _ = some (.string ⟨#[115, 101, 116, 117, 112]⟩) at d0
    clear hb hc hz
    go_wp2_with fail
    with_reducible refine (nextc _ true 1 _ HWD.out rfl).mono ?_
    rintro e w' ⟨rfl, rfl⟩
    go_wp2_with fail
    with_reducible refine (rnextc _ true 1 _ rfl).mono ?_
    rintro e w' ⟨rfl, rfl⟩
    go_wp2_with fail
    with_reducible refine (nextc _ false 1 _ HWD.out rfl).mono ?_
    rintro e w' ⟨rfl, rfl⟩
    go_wp2_with fail
    with_reducible refine (rnextc _ false 1 _ rfl).mono ?_
    rintro e w' ⟨rfl, rfl⟩
    go_wp2_with fail
    with_reducible refine (wordc _ ⟨#[115, 101, 116, 117, 112]⟩ _ HWD.out rfl).mono ?_
    rintro e w' ⟨rfl, rfl⟩
    go_wp2_with fail
    with_reducible refine (known _ HWD.out).mono ?_
    rintro e w2 ⟨rfl, hb2⟩
    replace HB := Lib.hid (below_via HB.out hb2)
    clear hb2
    go_wp2_with fail
    go_returns
    exact ⟨rfl, HB.out⟩
  · go_enter Tryd.func3, Tryd.ntmps3
    go_wp2_with fail
    with_reducible refine (rwords _).mono ?_
    rintro e w1 ⟨rfl, hb, hz, hc⟩
    replace HWD := Lib.hid (HWD.out.below hb)
    have HB := Lib.hid hb
    have d0 := hc 1 (by omega)
    change w1.cell? _ = some (.string ⟨#[117, 110, 116, 97, 112]⟩) at d0
    clear hb hc hz
    go_wp2_with fail
    with_reducible refine (nextc _ true 2 _ HWD.out rfl).mono ?_
    rintro e w' ⟨rfl, rfl⟩
    go_wp2_with fail
    with_reducible refine (rnextc _ true 2 _ rfl).mono ?_
    rintro e w' ⟨rfl, rfl⟩
    go_wp2_with fail
    with_reducible refine (nextc _ false 2 _ HWD.out rfl).mono ?_
    rintro e w' ⟨rfl, rfl⟩
    go_wp2_with fail
    with_reducible refine (rnextc _ false 2 _ rfl).mono ?_
    rintro e w' ⟨rfl, rfl⟩
    go_wp2_with fail
    with_reducible refine (wordc _ ⟨#[117, 110, 116, 97, 112]⟩ _ HWD.out rfl).mono ?_
    rintro e w' ⟨rfl, rfl⟩
    go_wp2_with fail
    with_reducible refine (known _ HWD.out).mono ?_
    rintro e w2 ⟨rfl, hb2⟩
    replace HB := Lib.hid (below_via HB.out hb2)
    clear hb2
    go_wp2_with fail
    go_returns
    exact ⟨rfl, HB.out⟩
  · go_enter Tryd.func3, Tryd.ntmps3
    go_wp2_with fail
    with_reducible refine (rwords _).mono ?_
    rintro e w1 ⟨rfl, hb, hz, hc⟩
    replace HWD := Lib.hid (HWD.out.below hb)
    have HB := Lib.hid hb
    have d0 := hc 2 (by omega)
    change w1.cell? _ = some (.string ⟨#[117, 112, 107, 101, 101, 112]⟩) at d0
    clear hb hc hz
    go_wp2_with fail
    with_reducible refine (nextc _ true 3 _ HWD.out rfl).mono ?_
    rintro e w' ⟨rfl, rfl⟩
    go_wp2_with fail
    with_reducible refine (rnextc _ true 3 _ rfl).mono ?_
    rintro e w' ⟨rfl, rfl⟩
    go_wp2_with fail
    with_reducible refine (nextc _ false 3 _ HWD.out rfl).mono ?_
    rintro e w' ⟨rfl, rfl⟩
    go_wp2_with fail
    with_reducible refine (rnextc _ false 3 _ rfl).mono ?_
    rintro e w' ⟨rfl, rfl⟩
    go_wp2_with fail
    with_reducible refine (wordc _ ⟨#[117, 112, 107, 101, 101, 112]⟩ _ HWD.out rfl).mono ?_
    rintro e w' ⟨rfl, rfl⟩
    go_wp2_with fail
    with_reducible refine (known _ HWD.out).mono ?_
    rintro e w2 ⟨rfl, hb2⟩
    replace HB := Lib.hid (below_via HB.out hb2)
    clear hb2
    go_wp2_with fail
    go_returns
    exact ⟨rfl, HB.out⟩
  · go_enter Tryd.func3, Tryd.ntmps3
    go_wp2_with fail
    with_reducible refine (rwords _).mono ?_
    rintro e w1 ⟨rfl, hb, hz, hc⟩
    replace HWD := Lib.hid (HWD.out.below hb)
    have HB := Lib.hid hb
    have d0 := hc 3 (by omega)
    change w1.cell? _ = some (.string ⟨#[100, 114, 97, 119]⟩) at d0
    clear hb hc hz
    go_wp2_with fail
    with_reducible refine (nextc _ true 4 _ HWD.out rfl).mono ?_
    rintro e w' ⟨rfl, rfl⟩
    go_wp2_with fail
    with_reducible refine (rnextc _ true 4 _ rfl).mono ?_
    rintro e w' ⟨rfl, rfl⟩
    go_wp2_with fail
    with_reducible refine (nextc _ false 4 _ HWD.out rfl).mono ?_
    rintro e w' ⟨rfl, rfl⟩
    go_wp2_with fail
    with_reducible refine (rnextc _ false 4 _ rfl).mono ?_
    rintro e w' ⟨rfl, rfl⟩
    go_wp2_with fail
    with_reducible refine (wordc _ ⟨#[100, 114, 97, 119]⟩ _ HWD.out rfl).mono ?_
    rintro e w' ⟨rfl, rfl⟩
    go_wp2_with fail
    with_reducible refine (known _ HWD.out).mono ?_
    rintro e w2 ⟨rfl, hb2⟩
    replace HB := Lib.hid (below_via HB.out hb2)
    clear hb2
    go_wp2_with fail
    go_returns
    exact ⟨rfl, HB.out⟩
  · go_enter Tryd.func3, Tryd.ntmps3
    go_wp2_with fail
    with_reducible refine (rwords _).mono ?_
    rintro e w1 ⟨rfl, hb, hz, hc⟩
    replace HWD := Lib.hid (HWD.out.below hb)
    have HB := Lib.hid hb
    have d0 := hc 4 (by omega)
    change w1.cell? _ = some (.string ⟨#[109, 97, 105, 110]⟩) at d0
    clear hb hc hz
    go_wp2_with fail
    with_reducible refine (nextc _ true 5 _ HWD.out rfl).mono ?_
    rintro e w' ⟨rfl, rfl⟩
    go_wp2_with fail
    with_reducible refine (rnextc _ true 5 _ rfl).mono ?_
    rintro e w' ⟨rfl, rfl⟩
    go_wp2_with fail
    with_reducible refine (nextc _ false 5 _ HWD.out rfl).mono ?_
    rintro e w' ⟨rfl, rfl⟩
    go_wp2_with fail
    with_reducible refine (rnextc _ false 5 _ rfl).mono ?_
    rintro e w' ⟨rfl, rfl⟩
    go_wp2_with fail
    with_reducible refine (wordc _ ⟨#[109, 97, 105, 110]⟩ _ HWD.out rfl).mono ?_
    rintro e w' ⟨rfl, rfl⟩
    go_wp2_with fail
    with_reducible refine (known _ HWD.out).mono ?_
    rintro e w2 ⟨rfl, hb2⟩
    replace HB := Lib.hid (below_via HB.out hb2)
    clear hb2
    go_wp2_with fail
    go_returns
    exact ⟨rfl, HB.out⟩
  · go_enter Tryd.func3, Tryd.ntmps3
    go_wp2_with fail
    with_reducible refine (rwords _).mono ?_
    rintro e w1 ⟨rfl, hb, hz, hc⟩
    replace HWD := Lib.hid (HWD.out.below hb)
    have HB := Lib.hid hb
    have d0 := hc 5 (by omega)
    change w1.cell? _ = some (.string ⟨#[97, 116, 116, 97, 99, 107]⟩) at d0
    clear hb hc hz
    go_wp2_with fail
    with_reducible refine (nextc _ true 6 _ HWD.out rfl).mono ?_
    rintro e w' ⟨rfl, rfl⟩
    go_wp2_with fail
    with_reducible refine (rnextc _ true 6 _ rfl).mono ?_
    rintro e w' ⟨rfl, rfl⟩
    go_wp2_with fail
    with_reducible refine (nextc _ false 9 _ HWD.out rfl).mono ?_
    rintro e w' ⟨rfl, rfl⟩
    go_wp2_with fail
    with_reducible refine (rnextc _ false 9 _ rfl).mono ?_
    rintro e w' ⟨rfl, rfl⟩
    go_wp2_with fail
    with_reducible refine (wordc _ ⟨#[97, 116, 116, 97, 99, 107]⟩ _ HWD.out rfl).mono ?_
    rintro e w' ⟨rfl, rfl⟩
    go_wp2_with fail
    with_reducible refine (known _ HWD.out).mono ?_
    rintro e w2 ⟨rfl, hb2⟩
    replace HB := Lib.hid (below_via HB.out hb2)
    clear hb2
    go_wp2_with fail
    go_returns
    exact ⟨rfl, HB.out⟩
  · go_enter Tryd.func3, Tryd.ntmps3
    go_wp2_with fail
    with_reducible refine (rwords _).mono ?_
    rintro e w1 ⟨rfl, hb, hz, hc⟩
    replace HWD := Lib.hid (HWD.out.below hb)
    have HB := Lib.hid hb
    have d0 := hc 6 (by omega)
    change w1.cell? _ = some (.string ⟨#[98, 108, 111, 99, 107]⟩) at d0
    clear hb hc hz
    go_wp2_with fail
    with_reducible refine (nextc _ true 7 _ HWD.out rfl).mono ?_
    rintro e w' ⟨rfl, rfl⟩
    go_wp2_with fail
    with_reducible refine (rnextc _ true 7 _ rfl).mono ?_
    rintro e w' ⟨rfl, rfl⟩
    go_wp2_with fail
    with_reducible refine (nextc _ false 7 _ HWD.out rfl).mono ?_
    rintro e w' ⟨rfl, rfl⟩
    go_wp2_with fail
    with_reducible refine (rnextc _ false 7 _ rfl).mono ?_
    rintro e w' ⟨rfl, rfl⟩
    go_wp2_with fail
    with_reducible refine (wordc _ ⟨#[98, 108, 111, 99, 107]⟩ _ HWD.out rfl).mono ?_
    rintro e w' ⟨rfl, rfl⟩
    go_wp2_with fail
    with_reducible refine (known _ HWD.out).mono ?_
    rintro e w2 ⟨rfl, hb2⟩
    replace HB := Lib.hid (below_via HB.out hb2)
    clear hb2
    go_wp2_with fail
    go_returns
    exact ⟨rfl, HB.out⟩
  · go_enter Tryd.func3, Tryd.ntmps3
    go_wp2_with fail
    with_reducible refine (rwords _).mono ?_
    rintro e w1 ⟨rfl, hb, hz, hc⟩
    replace HWD := Lib.hid (HWD.out.below hb)
    have HB := Lib.hid hb
    have d0 := hc 7 (by omega)
    change w1.cell? _ = some (.string ⟨#[102, 105, 103, 104, 116]⟩) at d0
    clear hb hc hz
    go_wp2_with fail
    with_reducible refine (nextc _ true 8 _ HWD.out rfl).mono ?_
    rintro e w' ⟨rfl, rfl⟩
    go_wp2_with fail
    with_reducible refine (rnextc _ true 8 _ rfl).mono ?_
    rintro e w' ⟨rfl, rfl⟩
    go_wp2_with fail
    with_reducible refine (nextc _ false 8 _ HWD.out rfl).mono ?_
    rintro e w' ⟨rfl, rfl⟩
    go_wp2_with fail
    with_reducible refine (rnextc _ false 8 _ rfl).mono ?_
    rintro e w' ⟨rfl, rfl⟩
    go_wp2_with fail
    with_reducible refine (wordc _ ⟨#[102, 105, 103, 104, 116]⟩ _ HWD.out rfl).mono ?_
    rintro e w' ⟨rfl, rfl⟩
    go_wp2_with fail
    with_reducible refine (known _ HWD.out).mono ?_
    rintro e w2 ⟨rfl, hb2⟩
    replace HB := Lib.hid (below_via HB.out hb2)
    clear hb2
    go_wp2_with fail
    go_returns
    exact ⟨rfl, HB.out⟩
  · go_enter Tryd.func3, Tryd.ntmps3
    go_wp2_with fail
    with_reducible refine (rwords _).mono ?_
    rintro e w1 ⟨rfl, hb, hz, hc⟩
    replace HWD := Lib.hid (HWD.out.below hb)
    have HB := Lib.hid hb
    have d0 := hc 8 (by omega)
    change w1.cell? _ = some (.string ⟨#[100, 97, 109, 97, 103, 101]⟩) at d0
    clear hb hc hz
    go_wp2_with fail
    with_reducible refine (nextc _ true 9 _ HWD.out rfl).mono ?_
    rintro e w' ⟨rfl, rfl⟩
    go_wp2_with fail
    with_reducible refine (rnextc _ true 9 _ rfl).mono ?_
    rintro e w' ⟨rfl, rfl⟩
    go_wp2_with fail
    with_reducible refine (nextc _ false 9 _ HWD.out rfl).mono ?_
    rintro e w' ⟨rfl, rfl⟩
    go_wp2_with fail
    with_reducible refine (rnextc _ false 9 _ rfl).mono ?_
    rintro e w' ⟨rfl, rfl⟩
    go_wp2_with fail
    with_reducible refine (wordc _ ⟨#[100, 97, 109, 97, 103, 101]⟩ _ HWD.out rfl).mono ?_
    rintro e w' ⟨rfl, rfl⟩
    go_wp2_with fail
    with_reducible refine (known _ HWD.out).mono ?_
    rintro e w2 ⟨rfl, hb2⟩
    replace HB := Lib.hid (below_via HB.out hb2)
    clear hb2
    go_wp2_with fail
    go_returns
    exact ⟨rfl, HB.out⟩
  · go_enter Tryd.func3, Tryd.ntmps3
    go_wp2_with fail
    with_reducible refine (rwords _).mono ?_
    rintro e w1 ⟨rfl, hb, hz, hc⟩
    replace HWD := Lib.hid (HWD.out.below hb)
    have HB := Lib.hid hb
    have d0 := hc 9 (by omega)
    change w1.cell? _ = some (.string ⟨#[115, 101, 99, 111, 110, 100]⟩) at d0
    clear hb hc hz
    go_wp2_with fail
    with_reducible refine (nextc _ true 10 _ HWD.out rfl).mono ?_
    rintro e w' ⟨rfl, rfl⟩
    go_wp2_with fail
    with_reducible refine (rnextc _ true 10 _ rfl).mono ?_
    rintro e w' ⟨rfl, rfl⟩
    go_wp2_with fail
    with_reducible refine (nextc _ false 10 _ HWD.out rfl).mono ?_
    rintro e w' ⟨rfl, rfl⟩
    go_wp2_with fail
    with_reducible refine (rnextc _ false 10 _ rfl).mono ?_
    rintro e w' ⟨rfl, rfl⟩
    go_wp2_with fail
    with_reducible refine (wordc _ ⟨#[115, 101, 99, 111, 110, 100]⟩ _ HWD.out rfl).mono ?_
    rintro e w' ⟨rfl, rfl⟩
    go_wp2_with fail
    with_reducible refine (known _ HWD.out).mono ?_
    rintro e w2 ⟨rfl, hb2⟩
    replace HB := Lib.hid (below_via HB.out hb2)
    clear hb2
    go_wp2_with fail
    go_returns
    exact ⟨rfl, HB.out⟩
  · go_enter Tryd.func3, Tryd.ntmps3
    go_wp2_with fail
    with_reducible refine (rwords _).mono ?_
    rintro e w1 ⟨rfl, hb, hz, hc⟩
    replace HWD := Lib.hid (HWD.out.below hb)
    have HB := Lib.hid hb
    have d0 := hc 10 (by omega)
    change w1.cell? _ = some (.string ⟨#[101, 110, 100]⟩) at d0
    clear hb hc hz
    go_wp2_with fail
    with_reducible refine (nextc _ true 1 _ HWD.out rfl).mono ?_
    rintro e w' ⟨rfl, rfl⟩
    go_wp2_with fail
    with_reducible refine (rnextc _ true 1 _ rfl).mono ?_
    rintro e w' ⟨rfl, rfl⟩
    go_wp2_with fail
    with_reducible refine (nextc _ false 1 _ HWD.out rfl).mono ?_
    rintro e w' ⟨rfl, rfl⟩
    go_wp2_with fail
    with_reducible refine (rnextc _ false 1 _ rfl).mono ?_
    rintro e w' ⟨rfl, rfl⟩
    go_wp2_with fail
    with_reducible refine (wordc _ ⟨#[101, 110, 100]⟩ _ HWD.out rfl).mono ?_
    rintro e w' ⟨rfl, rfl⟩
    go_wp2_with fail
    with_reducible refine (known _ HWD.out).mono ?_
    rintro e w2 ⟨rfl, hb2⟩
    replace HB := Lib.hid (below_via HB.out hb2)
    clear hb2
    go_wp2_with fail
    go_returns
    exact ⟨rfl, HB.out⟩
end Go.Proofs.YtkkpckkkcclhhaaDoor
