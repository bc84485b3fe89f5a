/- LobbyHolds: the walk. -/
import Derived.Test.YtonaidjdkejoeaaHoM
import Derived.LoopTactic
namespace Go.Proofs.Ytonaidjdkejoeaa
open Go.RowKit Plain
set_option linter.unusedVariables false
set_option linter.unusedSimpArgs false

set_option maxRecDepth 100000 in
set_option maxHeartbeats 4000000 in
theorem holds5_bad (ba st to' : Int) (v1 v2 v3 : Value) (w : World) (HV : Hid (vC ba st to' = false)) : Calls Try.prog 5 #[.agg #[.int .i64 ba, .int .i64 st, .int .u64 to'], v1, v2, v3] w fun e w' => e = .returned (.bool true) ∧ Below w.heap.size w w' := by
  go_enter Try.func5, Try.ntmps5
  go_wp2_with fail
  with_reducible refine (allowed13c ba st to' false _ HV.out).mono ?_
  rintro e w1 ⟨rfl, hb_w1⟩
  have K_w1 : Kept w.heap.size w (w.heap.size + 1) [(w.heap.size, 0, .int .i64 ba), (w.heap.size, 1, .int .i64 st), (w.heap.size, 2, .int .u64 to')] w1 := Kept.of hb_w1 (by go_grown) (by go_size) (by omega) (by simp [go_sem] <;> omega)
  clear hb_w1
  have KH_w1 := Lib.hid K_w1
  have hw_w1 := K_w1.below
  have hz_w1 := K_w1.size
  have lC_w1 : w.heap.size < w1.heap.size := by omega
  clear K_w1
  go_wp2_with fail
  with_reducible refine (known _).mono ?_
  rintro e w2 ⟨rfl, hb_w2⟩
  have K_w2 := (KH_w1.out.step (by omega) (by go_grown)).step (by omega) hb_w2
  clear hb_w2
  have KH_w2 := Lib.hid K_w2
  have hw_w2 := K_w2.below
  have hz_w2 := K_w2.size
  have lC_w2 : w.heap.size < w2.heap.size := by omega
  clear lC_w1
  clear K_w2
  go_wp2_with fail
  go_returns
  exact ⟨rfl, by go_grown⟩

set_option maxRecDepth 100000 in
set_option maxHeartbeats 4000000 in
theorem holds5_long (ba st to' : Int) (a1 : Option Addr) (n c1 : Nat) (f s : Int) (w : World) (HV : Hid (vC ba st to' = true)) (hl : 30 < n) : Calls Try.prog 5 #[.agg #[.int .i64 ba, .int .i64 st, .int .u64 to'], .slice a1 n c1, .int .u16 f, .int .u16 s] w fun e w' => e = .returned (.bool true) ∧ Below w.heap.size w w' := by
  have q : decide ((30 : Int) < (n : Int)) = true := by simp; omega
  go_enter Try.func5, Try.ntmps5
  go_wp2_with fail
  with_reducible refine (allowed13c ba st to' true _ HV.out).mono ?_
  rintro e w1 ⟨rfl, hb_w1⟩
  have K_w1 : Kept w.heap.size w (w.heap.size + 1) [(w.heap.size, 0, .int .i64 ba), (w.heap.size, 1, .int .i64 st), (w.heap.size, 2, .int .u64 to')] w1 := Kept.of hb_w1 (by go_grown) (by go_size) (by omega) (by simp [go_sem] <;> omega)
  clear hb_w1
  have KH_w1 := Lib.hid K_w1
  have hw_w1 := K_w1.below
  have hz_w1 := K_w1.size
  have lC_w1 : w.heap.size < w1.heap.size := by omega
  clear K_w1
  go_wp2_with fail
  with_reducible refine (known _).mono ?_
  rintro e w2 ⟨rfl, hb_w2⟩
  have K_w2 := (KH_w1.out.step (by omega) (by go_grown)).step (by omega) hb_w2
  clear hb_w2
  have KH_w2 := Lib.hid K_w2
  have hw_w2 := K_w2.below
  have hz_w2 := K_w2.size
  have lC_w2 : w.heap.size < w2.heap.size := by omega
  clear lC_w1
  clear K_w2
  go_wp2_with fail
  go_returns
  exact ⟨rfl, by go_grown⟩

theorem rg5_22 {P : Program} {B n : Nat} {w0 : World} {L : List (Nat × Nat × Value)} {E F : World → Prop} {id : Nat} {Q : Exit → Act → World → Prop} {a : Act} {w : World} {o0 o1 o2 o3 o4 o5 o6 o7 o8 o9 o10 o11 o12 o13 o14 o15 : Oper} (hm : P.follows .mixedOrders = true)
    (hB : (Region.noSelect [o0, o1, o2, o3, o4, o5, o6, o7, o8, o9, o10, o11, o12, o13, o14, o15].toArray && Scr.ok .any [o0, o1, o2, o3, o4, o5, o6, o7, o8, o9, o10, o11, o12, o13, o14, o15].toArray [4, 9] [0, 1, 2, 3, 5, 6, 7, 8, 11, 12, 13, 14] (.free 0 (.free 1 (.free 2 (.free 3 (.free 5 (.free 6 (.free 7 (.free 8 (.read 4 (.read 9 (.alt 10 (.free 11 (.free 12 (.free 13 (.free 14 (.altc 15 .done .stop))))) .stop))))))))))) true true [o0, o1, o2, o3, o4, o5, o6, o7, o8, o9, o10, o11, o12, o13, o14, o15].toArray.size (Array.replicate [o0, o1, o2, o3, o4, o5, o6, o7, o8, o9, o10, o11, o12, o13, o14, o15].toArray.size false)) = true)
    (k : Kept B w0 n L w) (he : E w) (hE : ∀ W W', E W → Below W.heap.size W W' → E W') (hf : F w) (hF : ∀ W W', F W → Below W.heap.size W W' → F W')
    (h : ∀ wk, Kept B w0 n L wk → E wk → F wk → wpQuiet P [o0, o1, o2, o3, o4, o5, o6, o7, o8, o9, o10, o11, o12, o13, o14, o15].toArray (fun _ => True) (fun a0 => wpQuiet P [o0, o1, o2, o3, o4, o5, o6, o7, o8, o9, o10, o11, o12, o13, o14, o15].toArray (fun w' => ∃ s : KX B w0 n L E, w' = s.val) (fun a1 => ((∀ K2 : Act → World → Prop, (∀ a2 w2, wpQuiet P [o0, o1, o2, o3, o4, o5, o6, o7, o8, o9, o10, o11, o12, o13, o14, o15].toArray (fun _ => True) (fun a3 => ((∀ K4 : Act → World → Prop, (∀ a4 w4, Q .normal a4 w4 → K4 a4 w4) → wpList P [o0, o1, o2, o3, o4, o5, o6, o7, o8, o9, o10, o11, o12, o13, o14, o15].toArray (fun e a4 w4 => e = .normal ∧ K4 a4 w4) [o15] a3 w2) ∧ True)) [o11, o12, o13, o14] a2 → K2 a2 w2) → wpList P [o0, o1, o2, o3, o4, o5, o6, o7, o8, o9, o10, o11, o12, o13, o14, o15].toArray (fun e a2 w2 => e = .normal ∧ (∃ s : KX B w0 n L E, w2 = s.val) ∧ K2 a2 w2) [o10] a1 wk) ∧ True)) [o4, o9] a0) [o0, o1, o2, o3, o5, o6, o7, o8] a) : (Code.region id [o0, o1, o2, o3, o4, o5, o6, o7, o8, o9, o10, o11, o12, o13, o14, o15].toArray true).wp P Q a w := by
  have e1 : E w.drew := hE _ _ he ((Below.refl _ _).drew)
  have g := h _ k.drew e1 (hF _ _ hf ((Below.refl _ _).drew))
  exact wp_region_scr (U := (fun w' => ∃ s : KX B w0 n L E, w' = s.val)) (ops := [o0, o1, o2, o3, o4, o5, o6, o7, o8, o9, o10, o11, o12, o13, o14, o15].toArray) (.free 0 (.free 1 (.free 2 (.free 3 (.free 5 (.free 6 (.free 7 (.free 8 (.read 4 (.read 9 (.alt 10 (.free 11 (.free 12 (.free 13 (.free 14 (.altc 15 .done .stop))))) .stop))))))))))) [4, 9] [0, 1, 2, 3, 5, 6, 7, 8, 11, 12, 13, 14] hm hB ⟨⟨_, k.drew, e1⟩, rfl⟩ (Scr.of_free rfl g (fun _ g0 => Scr.of_free rfl g0 (fun _ g1 => Scr.of_free rfl g1 (fun _ g2 => Scr.of_free rfl g2 (fun _ g3 => Scr.of_free rfl g3 (fun _ g4 => Scr.of_free rfl g4 (fun _ g5 => Scr.of_free rfl g5 (fun _ g6 => Scr.of_free rfl g6 (fun _ g7 => Scr.of_read rfl g7 (fun _ g8 => Scr.of_read rfl g8 (fun _ g9 => (Scr.of_alt rfl (g9.1 _ (fun _ _ g => g)) (fun _ _ g10 => Scr.of_free rfl g10 (fun _ g11 => Scr.of_free rfl g11 (fun _ g12 => Scr.of_free rfl g12 (fun _ g13 => Scr.of_free rfl g13 (fun _ g14 => (Scr.of_altc rfl (g14.1 _ (fun _ _ g => g)) (fun _ _ g15 => g15) trivial)))))) trivial))))))))))))
theorem rg5_57 {P : Program} {B n : Nat} {w0 : World} {L : List (Nat × Nat × Value)} {E F : World → Prop} {id : Nat} {Q : Exit → Act → World → Prop} {a : Act} {w : World} {o0 o1 o2 o3 o4 o5 o6 o7 o8 o9 o10 o11 o12 o13 o14 o15 o16 o17 o18 o19 o20 o21 o22 o23 o24 : Oper} (hm : P.follows .mixedOrders = true)
    (hB : (Region.noSelect [o0, o1, o2, o3, o4, o5, o6, o7, o8, o9, o10, o11, o12, o13, o14, o15, o16, o17, o18, o19, o20, o21, o22, o23, o24].toArray && Scr.ok .any [o0, o1, o2, o3, o4, o5, o6, o7, o8, o9, o10, o11, o12, o13, o14, o15, o16, o17, o18, o19, o20, o21, o22, o23, o24].toArray [8, 10, 18, 19, 22] [0, 1, 2, 3, 4, 5, 6, 7, 9, 11, 12, 13, 14, 15, 16, 17, 20, 21, 23, 24] (.free 0 (.free 1 (.free 2 (.free 3 (.free 4 (.free 5 (.free 6 (.free 7 (.read 8 (.free 9 (.read 10 (.free 11 (.free 12 (.free 13 (.free 14 (.free 15 (.free 16 (.free 17 (.free 21 (.read 18 (.read 19 (.free 20 (.read 22 (.free 23 (.free 24 .done))))))))))))))))))))))))) true true [o0, o1, o2, o3, o4, o5, o6, o7, o8, o9, o10, o11, o12, o13, o14, o15, o16, o17, o18, o19, o20, o21, o22, o23, o24].toArray.size (Array.replicate [o0, o1, o2, o3, o4, o5, o6, o7, o8, o9, o10, o11, o12, o13, o14, o15, o16, o17, o18, o19, o20, o21, o22, o23, o24].toArray.size false)) = true)
    (k : Kept B w0 n L w) (he : E w) (hE : ∀ W W', E W → Below W.heap.size W W' → E W') (hf : F w) (hF : ∀ W W', F W → Below W.heap.size W W' → F W')
    (h : ∀ wk, Kept B w0 n L wk → E wk → F wk → wpQuiet P [o0, o1, o2, o3, o4, o5, o6, o7, o8, o9, o10, o11, o12, o13, o14, o15, o16, o17, o18, o19, o20, o21, o22, o23, o24].toArray (fun _ => True) (fun a0 => wpQuiet P [o0, o1, o2, o3, o4, o5, o6, o7, o8, o9, o10, o11, o12, o13, o14, o15, o16, o17, o18, o19, o20, o21, o22, o23, o24].toArray (fun w' => ∃ s : KX B w0 n L E, w' = s.val) (fun a1 => wpQuiet P [o0, o1, o2, o3, o4, o5, o6, o7, o8, o9, o10, o11, o12, o13, o14, o15, o16, o17, o18, o19, o20, o21, o22, o23, o24].toArray (fun _ => True) (fun a2 => wpQuiet P [o0, o1, o2, o3, o4, o5, o6, o7, o8, o9, o10, o11, o12, o13, o14, o15, o16, o17, o18, o19, o20, o21, o22, o23, o24].toArray (fun w' => ∃ s : KX B w0 n L E, w' = s.val) (fun a3 => wpQuiet P [o0, o1, o2, o3, o4, o5, o6, o7, o8, o9, o10, o11, o12, o13, o14, o15, o16, o17, o18, o19, o20, o21, o22, o23, o24].toArray (fun _ => True) (fun a4 => wpQuiet P [o0, o1, o2, o3, o4, o5, o6, o7, o8, o9, o10, o11, o12, o13, o14, o15, o16, o17, o18, o19, o20, o21, o22, o23, o24].toArray (fun w' => ∃ s : KX B w0 n L E, w' = s.val) (fun a5 => wpQuiet P [o0, o1, o2, o3, o4, o5, o6, o7, o8, o9, o10, o11, o12, o13, o14, o15, o16, o17, o18, o19, o20, o21, o22, o23, o24].toArray (fun _ => True) (fun a6 => wpQuiet P [o0, o1, o2, o3, o4, o5, o6, o7, o8, o9, o10, o11, o12, o13, o14, o15, o16, o17, o18, o19, o20, o21, o22, o23, o24].toArray (fun w' => ∃ s : KX B w0 n L E, w' = s.val) (fun a7 => wpQuiet P [o0, o1, o2, o3, o4, o5, o6, o7, o8, o9, o10, o11, o12, o13, o14, o15, o16, o17, o18, o19, o20, o21, o22, o23, o24].toArray (fun _ => True) (fun a8 => Q .normal a8 wk) [o23, o24] a7) [o22] a6) [o20] a5) [o18, o19] a4) [o11, o12, o13, o14, o15, o16, o17, o21] a3) [o10] a2) [o9] a1) [o8] a0) [o0, o1, o2, o3, o4, o5, o6, o7] a) : (Code.region id [o0, o1, o2, o3, o4, o5, o6, o7, o8, o9, o10, o11, o12, o13, o14, o15, o16, o17, o18, o19, o20, o21, o22, o23, o24].toArray true).wp P Q a w := by
  have e1 : E w.drew := hE _ _ he ((Below.refl _ _).drew)
  have g := h _ k.drew e1 (hF _ _ hf ((Below.refl _ _).drew))
  exact wp_region_scr (U := (fun w' => ∃ s : KX B w0 n L E, w' = s.val)) (ops := [o0, o1, o2, o3, o4, o5, o6, o7, o8, o9, o10, o11, o12, o13, o14, o15, o16, o17, o18, o19, o20, o21, o22, o23, o24].toArray) (.free 0 (.free 1 (.free 2 (.free 3 (.free 4 (.free 5 (.free 6 (.free 7 (.read 8 (.free 9 (.read 10 (.free 11 (.free 12 (.free 13 (.free 14 (.free 15 (.free 16 (.free 17 (.free 21 (.read 18 (.read 19 (.free 20 (.read 22 (.free 23 (.free 24 .done))))))))))))))))))))))))) [8, 10, 18, 19, 22] [0, 1, 2, 3, 4, 5, 6, 7, 9, 11, 12, 13, 14, 15, 16, 17, 20, 21, 23, 24] hm hB ⟨⟨_, k.drew, e1⟩, rfl⟩ (Scr.of_free rfl g (fun _ g0 => Scr.of_free rfl g0 (fun _ g1 => Scr.of_free rfl g1 (fun _ g2 => Scr.of_free rfl g2 (fun _ g3 => Scr.of_free rfl g3 (fun _ g4 => Scr.of_free rfl g4 (fun _ g5 => Scr.of_free rfl g5 (fun _ g6 => Scr.of_free rfl g6 (fun _ g7 => Scr.of_read rfl g7 (fun _ g8 => Scr.of_free rfl g8 (fun _ g9 => Scr.of_read rfl g9 (fun _ g10 => Scr.of_free rfl g10 (fun _ g11 => Scr.of_free rfl g11 (fun _ g12 => Scr.of_free rfl g12 (fun _ g13 => Scr.of_free rfl g13 (fun _ g14 => Scr.of_free rfl g14 (fun _ g15 => Scr.of_free rfl g15 (fun _ g16 => Scr.of_free rfl g16 (fun _ g17 => Scr.of_free rfl g17 (fun _ g18 => Scr.of_read rfl g18 (fun _ g19 => Scr.of_read rfl g19 (fun _ g20 => Scr.of_free rfl g20 (fun _ g21 => Scr.of_read rfl g21 (fun _ g22 => Scr.of_free rfl g22 (fun _ g23 => Scr.of_free rfl g23 (fun _ g24 => g24))))))))))))))))))))))))))
theorem rg5_63 {P : Program} {B n : Nat} {w0 : World} {L : List (Nat × Nat × Value)} {E F : World → Prop} {id : Nat} {Q : Exit → Act → World → Prop} {a : Act} {w : World} {o0 o1 o2 o3 o4 o5 o6 o7 o8 o9 o10 o11 o12 o13 o14 o15 : Oper} (hm : P.follows .mixedOrders = true)
    (hB : (Region.noSelect [o0, o1, o2, o3, o4, o5, o6, o7, o8, o9, o10, o11, o12, o13, o14, o15].toArray && Scr.ok .any [o0, o1, o2, o3, o4, o5, o6, o7, o8, o9, o10, o11, o12, o13, o14, o15].toArray [4, 6, 11, 13] [0, 1, 2, 3, 5, 7, 8, 9, 10, 12, 14, 15] (.free 0 (.free 1 (.free 2 (.free 3 (.free 7 (.free 8 (.free 9 (.free 10 (.read 4 (.free 5 (.read 6 (.read 11 (.free 12 (.read 13 (.free 14 (.free 15 .done)))))))))))))))) true true [o0, o1, o2, o3, o4, o5, o6, o7, o8, o9, o10, o11, o12, o13, o14, o15].toArray.size (Array.replicate [o0, o1, o2, o3, o4, o5, o6, o7, o8, o9, o10, o11, o12, o13, o14, o15].toArray.size false)) = true)
    (k : Kept B w0 n L w) (he : E w) (hE : ∀ W W', E W → Below W.heap.size W W' → E W') (hf : F w) (hF : ∀ W W', F W → Below W.heap.size W W' → F W')
    (h : ∀ wk, Kept B w0 n L wk → E wk → F wk → wpQuiet P [o0, o1, o2, o3, o4, o5, o6, o7, o8, o9, o10, o11, o12, o13, o14, o15].toArray (fun _ => True) (fun a0 => wpQuiet P [o0, o1, o2, o3, o4, o5, o6, o7, o8, o9, o10, o11, o12, o13, o14, o15].toArray (fun w' => ∃ s : KX B w0 n L E, w' = s.val) (fun a1 => wpQuiet P [o0, o1, o2, o3, o4, o5, o6, o7, o8, o9, o10, o11, o12, o13, o14, o15].toArray (fun _ => True) (fun a2 => wpQuiet P [o0, o1, o2, o3, o4, o5, o6, o7, o8, o9, o10, o11, o12, o13, o14, o15].toArray (fun w' => ∃ s : KX B w0 n L E, w' = s.val) (fun a3 => wpQuiet P [o0, o1, o2, o3, o4, o5, o6, o7, o8, o9, o10, o11, o12, o13, o14, o15].toArray (fun _ => True) (fun a4 => wpQuiet P [o0, o1, o2, o3, o4, o5, o6, o7, o8, o9, o10, o11, o12, o13, o14, o15].toArray (fun w' => ∃ s : KX B w0 n L E, w' = s.val) (fun a5 => wpQuiet P [o0, o1, o2, o3, o4, o5, o6, o7, o8, o9, o10, o11, o12, o13, o14, o15].toArray (fun _ => True) (fun a6 => Q .normal a6 wk) [o14, o15] a5) [o13] a4) [o12] a3) [o6, o11] a2) [o5] a1) [o4] a0) [o0, o1, o2, o3, o7, o8, o9, o10] a) : (Code.region id [o0, o1, o2, o3, o4, o5, o6, o7, o8, o9, o10, o11, o12, o13, o14, o15].toArray true).wp P Q a w := by
  have e1 : E w.drew := hE _ _ he ((Below.refl _ _).drew)
  have g := h _ k.drew e1 (hF _ _ hf ((Below.refl _ _).drew))
  exact wp_region_scr (U := (fun w' => ∃ s : KX B w0 n L E, w' = s.val)) (ops := [o0, o1, o2, o3, o4, o5, o6, o7, o8, o9, o10, o11, o12, o13, o14, o15].toArray) (.free 0 (.free 1 (.free 2 (.free 3 (.free 7 (.free 8 (.free 9 (.free 10 (.read 4 (.free 5 (.read 6 (.read 11 (.free 12 (.read 13 (.free 14 (.free 15 .done)))))))))))))))) [4, 6, 11, 13] [0, 1, 2, 3, 5, 7, 8, 9, 10, 12, 14, 15] hm hB ⟨⟨_, k.drew, e1⟩, rfl⟩ (Scr.of_free rfl g (fun _ g0 => Scr.of_free rfl g0 (fun _ g1 => Scr.of_free rfl g1 (fun _ g2 => Scr.of_free rfl g2 (fun _ g3 => Scr.of_free rfl g3 (fun _ g4 => Scr.of_free rfl g4 (fun _ g5 => Scr.of_free rfl g5 (fun _ g6 => Scr.of_free rfl g6 (fun _ g7 => Scr.of_read rfl g7 (fun _ g8 => Scr.of_free rfl g8 (fun _ g9 => Scr.of_read rfl g9 (fun _ g10 => Scr.of_read rfl g10 (fun _ g11 => Scr.of_free rfl g11 (fun _ g12 => Scr.of_read rfl g12 (fun _ g13 => Scr.of_free rfl g13 (fun _ g14 => Scr.of_free rfl g14 (fun _ g15 => g15)))))))))))))))))
set_option maxRecDepth 100000 in
set_option maxHeartbeats 16000000 in
theorem holds5 (ba st to' : Int) (a1 : Option Addr) (n c1 : Nat) (rs : List Int) (f s : Int) (w : World) (HV : Hid (vC ba st to' = true)) (h30 : n ≤ 30) (hf : 0 ≤ f ∧ f ≤ 65535) (hs16 : 0 ≤ s ∧ s ≤ 65535) (HN : Hid (rs.length = n)) (F1 : Hid (0 < n → ∃ b off, a1 = some ⟨b, off, none⟩ ∧ b < w.heap.size ∧ ∀ i z, rs[i]? = some z → w.cell? ⟨b, off + i, none⟩ = some (.int .i64 z))) : Calls Try.prog 5 #[.agg #[.int .i64 ba, .int .i64 st, .int .u64 to'], .slice a1 n c1, .int .u16 f, .int .u16 s] w fun e w' => e = .returned (.bool true) ∧ Below w.heap.size w w' := by
  have q30 : decide ((30 : Int) < (n : Int)) = false := by simp; omega
  go_enter Try.func5, Try.ntmps5
  go_wp2_with fail
  with_reducible refine (allowed13c ba st to' true _ HV.out).mono ?_
  rintro e w1 ⟨rfl, hb_w1⟩
  have K_w1 : Kept w.heap.size w (w.heap.size + 1) [(w.heap.size, 0, .int .i64 ba), (w.heap.size, 1, .int .i64 st), (w.heap.size, 2, .int .u64 to')] w1 := Kept.of hb_w1 (by go_grown) (by go_size) (by omega) (by simp [go_sem] <;> omega)
  clear hb_w1
  have KH_w1 := Lib.hid K_w1
  have hw_w1 := K_w1.below
  have hz_w1 := K_w1.size
  have lC_w1 : w.heap.size < w1.heap.size := by omega
  clear K_w1
  have cC0_w1 := KH_w1.out.at (b := w.heap.size) (o := 0) (v := .int .i64 ba) (by simp)
  have fC0_w1 := KH_w1.out.free (b := w.heap.size) (o := 0) (v := .int .i64 ba) (by simp)
  have cC1_w1 := KH_w1.out.at (b := w.heap.size) (o := 1) (v := .int .i64 st) (by simp)
  have fC1_w1 := KH_w1.out.free (b := w.heap.size) (o := 1) (v := .int .i64 st) (by simp)
  have cC2_w1 := KH_w1.out.at (b := w.heap.size) (o := 2) (v := .int .u64 to') (by simp)
  have fC2_w1 := KH_w1.out.free (b := w.heap.size) (o := 2) (v := .int .u64 to') (by simp)
  go_wp2_with fail
  have EC1 := Lib.hid cC2_w1
  have HB1 := Lib.hid hw_w1
  with_reducible refine (newM ba st to' w1 _ (Below.refl _ _) HV.out).mono ?_
  rintro e w2 ⟨P, rfl, hm, _⟩
  have HM2 := Lib.hid hm
  clear hm cC0_w1 fC0_w1 cC1_w1 fC1_w1 cC2_w1 fC2_w1
  go_wp2_with fail
  go_loopw [11] (fun s wr => EnRel w1 P ba st to' rs s wr) (fun s _ => n - (intOf s).toNat)
  case atStart => exact ⟨0, Nat.zero_le _, rfl, HM2.out⟩
  case round =>
    clear HM2
    obtain ⟨i, hi, rfl, hm⟩ := hrel
    have HM := Lib.hid hm
    have hb1 := hm.bel
    have hz1 := hb1.size
    have hbw := below_via HB1.out (hb1)
    rw [HN.out] at hi
    clear hm
    by_cases hin : i < n
    · obtain ⟨ra, hra⟩ : ∃ r, rs[i]? = some r := ⟨rs[i]'(by rw [HN.out]; exact hin), List.getElem?_eq_getElem _⟩
      obtain ⟨br, off, rfl, hbr, hcr⟩ := F1.out (by omega)
      have er : wr.cell? ⟨br, off + i, none⟩ = some (.int .i64 ra) := (hbw.cell (p := ⟨br, off + i, none⟩) hbr).trans (hcr i _ hra)
      have HRI := Lib.hid hra
      have i1 : (0 : Int) ≤ (i : Int) := by omega
      have i2 : (i : Int) < (n : Int) := by omega
      have HBWR := Lib.hid hbw
      clear hcr hra hb1 hbw
      by_cases g1 : ra < 0
      · go_wp2_with fail
        with_reducible refine (known _).mono ?_
        rintro e w99 ⟨rfl, hb99⟩
        go_wp2_with fail
        go_returns
        exact ⟨rfl, below_via HBWR.out hb99⟩
      by_cases g2 : 4000 < ra
      · go_wp2_with fail
        with_reducible refine (known _).mono ?_
        rintro e w99 ⟨rfl, hb99⟩
        go_wp2_with fail
        go_returns
        exact ⟨rfl, below_via HBWR.out hb99⟩
      go_wp2_with fail
      with_reducible refine (enterM P (hl ba st to' rs i) (hl ba st to' rs (i + 1)) i i ra 0 w1 _ HM.out (by unfold U; omega) (hl_enE (by omega) (by omega)) (hl_next (by omega) (by omega) HRI.out)).mono ?_
      rintro e w3 ⟨rfl, hm⟩
      have HM3 := Lib.hid hm
      clear hm
      go_wp2_with fail
      go_roundw
      case rel => exact ⟨i + 1, by rw [HN.out]; omega, by go_num, HM3.out⟩
      case measure => simp [intOf]; omega
    · obtain rfl : i = n := by omega
      clear hi hin hb1 hbw hz1
      go_wp2_with fail
      with_reducible refine (nowM P (hl ba st to' rs i) (i - 1 : Nat) w1 _ HM.out rfl).mono ?_
      rintro e w2 ⟨rfl, hb2⟩
      have HM2 := Lib.hid (HM.out.below hb2)
      clear hb2
      go_wp2_with fail
      go_loopw [12, 13] (fun a b wr => TuRel w1 P to' rs a b wr) (fun _ b _ => 2 - (intOf b).toNat)
      case atStart => exact ⟨0, hl ba st to' rs i, (i - 1 : Nat), by omega, rfl, rfl, by omega, by omega, HM2.out, hl_hx (by rw [HN.out]; exact Nat.le_refl _), hl_nd _ _ _ _ _, rfl, rfl⟩
      case round =>
        clear HM2 HM
        obtain ⟨n, rfl⟩ : ∃ n, n = i := ⟨_, rfl⟩
        obtain ⟨k0, x, now, hk, rfl, rfl, hn0, hn1, hm, hxx, hnd, hxn, hxt⟩ := hrel
        obtain ⟨wo, rfl⟩ : ∃ wo, wo = wr := ⟨_, rfl⟩
        have HMO := Lib.hid hm
        have HXX := Lib.hid hxx
        have HND := Lib.hid hnd
        have HXN := Lib.hid hxn
        have HXT := Lib.hid hxt
        have hbwo := below_via HB1.out hm.bel
        have HID0 : Hid (∀ p ∈ x.l, 0 ≤ p.id) := Lib.hid (fun p hp => (HMO.out.ok.p p hp).i0)
        have hto : to' ≤ 4294967296 := by have := HMO.out.ok.o1; rw [HXT.out] at this; exact this
        have HZZ := Lib.hid hm.bel.size
        clear hm hxx hnd hxn hxt
        by_cases hk2 : k0 < 2
        · have j1 : (0 : Int) ≤ (k0 : Int) := by omega
          have j2 : (k0 : Int) < 2 := by omega
          go_wp2_with fail
          with_reducible refine (waitO P x _ w1 _ HMO.out rfl).mono ?_
          rintro e w3 ⟨v3, rfl, hb3, hbl3⟩
          obtain ⟨ab, cb, ev3⟩ := hb3.form
          have HB3 := Lib.hid (ev3 ▸ hb3)
          rw [List.length_map] at ev3 HB3
          subst ev3
          have HM3 := Lib.hid (HMO.out.below hbl3)
          have HBW3 := Lib.hid (below_via hbwo hbl3)
          clear hb3 hbl3
          have hmk := fun w => run_make_row' (P := Try.prog) 33 3 (.int .i64 0) 8 Try.underlying33 (by kernel_rfl) rfl .i64 .i64 n (by omega) (by omega) w
          go_wp2_with fail
          have HZ3 := Lib.hid (zeros_row w3 n h30)
          have hx200 : x.l.length ≤ 200 := HMO.out.ok.len
          go_loopw [16] (fun s wr => OldRel w3 x n s wr) (fun s _ => x.l.length - (intOf s).toNat)
          case atStart => exact ⟨0, _, Nat.zero_le _, rfl, List.length_replicate, HZ3.out, fun q p h => by omega, (Below.refl _ _).alloc (Nat.le_refl _) _⟩
          case round =>
            clear hmk HZ3
            obtain ⟨j, ol, hj, rfl, holn, hol, hpr, hb⟩ := hrel
            have HOLN := Lib.hid holn
            have HOL := Lib.hid hol
            have HPR := Lib.hid hpr
            have hz_wr := hb.size
            clear holn hol hpr
            by_cases hjl : j < x.l.length
            · obtain ⟨p, hp⟩ : ∃ p, x.l[j]? = some p := ⟨x.l[j], List.getElem?_eq_getElem hjl⟩
              obtain ⟨a, hal, hpa, hpsi, hpra⟩ := HXX.out p (List.mem_of_getElem? hp)
              obtain ⟨nw, hnw⟩ : ∃ m, winN x (a : Int) = m := ⟨_, rfl⟩
              have HNE : Hid (winE x (a : Int) = 0) := Lib.hid (by rw [← hpa]; unfold winE; rw [if_pos (winN_at HND.out hp).1])
              have HNW := Lib.hid hnw
              have HP := Lib.hid hp
              have HPA := Lib.hid hpa
              have HMR := Lib.hid (HM3.out.below hb)
              obtain ⟨oa, hoa⟩ : ∃ z, ol[a]? = some z := ⟨ol[a]'(by rw [HOLN.out]; rw [HN.out] at hal; exact hal), List.getElem?_eq_getElem _⟩
              have HOA := Lib.hid hoa
              obtain ⟨_, ax, cx, hvx, hfx⟩ := (HB3.out.rw (fun _ _ => rfl)).ints
              obtain ⟨bb, ob, rfl, hbb3, hcb⟩ := hfx (by rw [List.length_map]; omega)
              have eb : wr.cell? ⟨bb, ob + j, none⟩ = some (.int .i64 (a : Int)) := (hb.cell (p := ⟨bb, ob + j, none⟩) hbb3).trans (hcb j _ (by rw [List.getElem?_map, hp, Option.map_some, hpa]))
              have hbb : bb < wr.heap.size := by omega
              simp only [Value.slice.injEq] at hvx
              obtain ⟨rfl, hvl, rfl⟩ := hvx
              rw [HN.out] at hal
              have i1 : (0 : Int) ≤ (j : Int) := by omega
              have i2 : (j : Int) < (x.l.length : Int) := by omega
              have i3 : (0 : Int) ≤ (a : Int) := by omega
              have i4 : (a : Int) < (n : Int) := by omega
              clear hp hpa hpsi hpra hnw hoa hfx hcb hvl
              go_wp2_with fail
              refine rg5_22 (w0 := wr) (B := wr.heap.size) (n := wr.heap.size) (L := []) (E := fun _ => True) (F := fun _ => True) (by kernel_rfl) (by kernel_rfl) ⟨by go_grown, by go_size, (by simp [go_sem] <;> omega)⟩ trivial (fun _ _ _ _ => trivial) trivial (fun _ _ _ _ => trivial) (fun w41 K_w41 E_w41 F_w41 => ?_)
              have _ne : Nonempty (KX (wr.heap.size) wr (wr.heap.size) [] (fun _ => True)) := ⟨⟨_, K_w41, E_w41⟩⟩
              repeat (go_big_quiet_step (fail))
              refine wpQuiet_nil ?_
              have rb0 : ∀ s : KX (wr.heap.size) wr (wr.heap.size) [] (fun _ => True), s.val.cell? ⟨bb, ob + j, none⟩ = some (.int .i64 (a : Int)) := fun s => (s.kept.below.cell (p := ⟨bb, ob + j, none⟩) hbb).trans eb
              repeat (go_big_quiet_step (fail))
              refine wpQuiet_nil ?_
              clear rb0
              have KH_w41 := Lib.hid K_w41
              have hw_w41 := K_w41.below
              have hz_w41 := K_w41.size
              clear K_w41
              clear E_w41 F_w41
              refine ⟨fun K hK0 => ?_, trivial⟩
              have hK := Lib.hid hK0
              clear hK0
              go_wp2_with fail
              with_reducible refine (windowM P x (a : Int) nw 0 w1 _ (HMR.out.below (by go_grown)) HNW.out HNE.out).mono ?_
              rintro e w42 ⟨rfl, hb_w42⟩
              have K_w42 := (KH_w41.out.step (by omega) (by go_grown)).step (by omega) hb_w42
              clear hb_w42
              have KH_w42 := Lib.hid K_w42
              have hw_w42 := K_w42.below
              have hz_w42 := K_w42.size
              clear K_w42
              go_wp2_with fail
              first | (refine ⟨rfl, ⟨⟨_, KH_w42.out, trivial⟩, rfl⟩, hK.out _ _ ?_⟩; clear hK K) | (refine ⟨⟨⟨_, KH_w42.out, trivial⟩, rfl⟩, hK.out _ _ ?_⟩; clear hK K)
              repeat (go_big_quiet_step (fail))
              refine wpQuiet_nil ?_
              refine ⟨fun K hK0 => ?_, trivial⟩
              have hK := Lib.hid hK0
              clear hK0
              have hoc : w42.cell? ⟨w3.heap.size, a, none⟩ = some (.int .i64 oa) := ICEL (HOL.out.below hw_w42) HOA.out
              have hof : w42.frozen? ⟨w3.heap.size, a, none⟩ = false := (HOL.out.below hw_w42).frozenAt _
              go_wp2_with fail
              first | (refine ⟨rfl, hK.out _ _ ?_⟩; clear hK K) | (refine hK.out _ _ ?_; clear hK K)
              clear _ne
              go_wp2_with fail
              go_roundw
              case rel => exact ⟨j + 1, ol.set a nw, by omega, by go_num, by rw [List.length_set]; exact HOLN.out, (HOL.out.below hw_w42).set1 (fun _ => rfl) HOLN.out.symm a nw _ rfl, by rw [← HNW.out]; exact old_next HP.out HPA.out hal HOLN.out HID0.out HPR.out, (below_via hb hw_w42).setCell (Nat.le_refl _) _⟩
              case measure => simp [intOf]; omega
            · obtain rfl : j = x.l.length := by omega

              as_aux_lemma =>
                clear hj hjl
                obtain ⟨w6, rfl⟩ : ∃ W, W = wr := ⟨_, rfl⟩
                have HPRX : Hid (∀ p ∈ x.l, ol[p.id.toNat]? = some (winN x p.id)) := Lib.hid (fun p hp => by
                  obtain ⟨q, hq⟩ := List.getElem?_of_mem hp
                  exact HPR.out q p (List.getElem?_eq_some_iff.1 hq).1 hq)
                have HM6 := Lib.hid (HM3.out.below hb)
                have HB6 := Lib.hid (HB3.out.below hb)
                have HBW6 := Lib.hid (below_via HBW3.out hb)
                obtain ⟨dt, hdt, hdt0, hdt1⟩ : ∃ d, [f, s][k0]? = some d ∧ 0 ≤ d ∧ d ≤ 65535 := by
                  have h01 : k0 = 0 ∨ k0 = 1 := by omega
                  rcases h01 with rfl | rfl
                  · exact ⟨f, rfl, hf⟩
                  · exact ⟨s, rfl, hs16⟩
                obtain ⟨t, ht⟩ : ∃ t, now + dt = t := ⟨_, rfl⟩
                have HT := Lib.hid ht
                have q12 : IntKind.u64.wrap (now + dt) = t := by simp [IntKind.wrap, IntKind.signed, IntKind.bits]; omega
                have c23 : (w6.alloc (.cells #[.int .u16 f, .int .u16 s] 44)).cell? ⟨w6.heap.size, k0, none⟩ = some (.int .u16 dt) := by
                  have h01 : k0 = 0 ∨ k0 = 1 := by omega
                  rcases h01 with rfl | rfl
                  · obtain rfl : f = dt := by simpa using hdt
                    simp
                  · obtain rfl : s = dt := by simpa using hdt
                    simp
                go_wp2_with fail
                obtain ⟨w7, hw7⟩ : ∃ W, W = w6.alloc (.cells #[.int .u16 f, .int .u16 s] 44) := ⟨_, rfl⟩
                have hb7 : Below w6.heap.size w6 w7 := by rw [hw7]; go_grown
                rw [← hw7]
                clear hw7 c23 q12
                have ht0 : 0 ≤ t ∧ t ≤ 200000 := by omega
                have htn : now ≤ t := by omega
                obtain ⟨y, hy⟩ : ∃ y, mtX x t = y := ⟨_, rfl⟩
                obtain ⟨ps, hps⟩ : ∃ y, mtP x t = y := ⟨_, rfl⟩
                obtain ⟨gs, hgs⟩ : ∃ y, mtG x t = y := ⟨_, rfl⟩
                obtain ⟨ws, hws⟩ : ∃ l, y.l.map Pl.id = l := ⟨_, rfl⟩
                have HWSY := Lib.hid hws
                have hpm := match_perm x t
                have hlen := mt_len2 x t
                have HXLN : Hid (x.l.length ≤ 200) := Lib.hid HMO.out.ok.len
                rw [hps, hgs, hy, hws] at hpm
                rw [hps, hgs, hy] at hlen
                have HWL : Hid (ws.length = y.l.length) := Lib.hid (by rw [← hws, List.length_map])
                have HPM := Lib.hid hpm
                have HALL : Hid ((fp ps ++ gs ++ ws).length ≤ 200) := Lib.hid (by rw [List.length_append, List.length_append, fp_len]; have := HXLN.out; have := HWL.out; omega)
                have HPLN : Hid (2 * ps.length ≤ 200) := Lib.hid (by have := HXLN.out; omega)
                have HIN : Hid (∀ z ∈ fp ps ++ gs ++ ws, ∃ i : Nat, z = (i : Int) ∧ i < n) := Lib.hid (fun z hz => by
                  obtain ⟨i, h1, h2⟩ := hx_id HXX.out (HPM.out.mem_iff.1 hz)
                  exact ⟨i, h1, by rw [← HN.out]; exact h2⟩)
                have HYX : Hid (Hx rs y) := Lib.hid (by rw [← hy]; exact mtX_hx HXX.out t)
                have HYN : Hid y.Nd := Lib.hid (by rw [← hy]; exact mtX_nd HND.out t)
                have HYT : Hid (y.now = t) := Lib.hid (by rw [← hy]; exact mtX_now (by rw [HXN.out]; exact htn))
                have HYO : Hid (y.to = to') := Lib.hid (by rw [← hy]; exact HXT.out)
                have HLW : Hid (∀ i p, y.l[i]? = some p → winE y p.id = 0 ∧ winN y p.id = y.w p ∧ winN x p.id ≤ winN y p.id) := Lib.hid (fun i p h => by rw [← hy] at h ⊢; exact left_wnd HMO.out.ok HND.out t h)
                have HLT : Hid (∀ p ∈ y.l, p ∈ x.l ∧ 0 ≤ p.id ∧ p.id ≤ t ∧ t - p.id < to') := Lib.hid (fun p h => by
                  rw [← hy] at h
                  have h2 := left_time HXX.out HMO.out.ok (t := t) (by rw [HXN.out]; exact htn) h
                  rw [HXT.out] at h2
                  exact ⟨(mtX_mem h).1, h2⟩)
                have HLF : Hid (∀ i k p q, y.l[i]? = some p → y.l[k]? = some q → i ≠ k → ¬ (ap p.ra q.ra ≤ y.w p ∧ ap p.ra q.ra ≤ y.w q)) := Lib.hid (fun i k p q h1 h2 h3 => by rw [← hy] at h1 h2 ⊢; exact left_fit HXX.out t h1 h2 h3 rfl rfl)
                have HYR : Hid (∀ p ∈ y.l, 0 ≤ p.ra ∧ p.ra ≤ 4000) := Lib.hid (fun p h => by
                  have h2 := HMO.out.ok.p p (HLT.out p h).1
                  exact ⟨h2.r0, h2.r1⟩)
                clear ht
                have HM7 := Lib.hid (HM6.out.below hb7)
                have HB7 := Lib.hid (HB6.out.below hb7)
                have HOL7 := Lib.hid ((HOL.out).below hb7)
                have HBW7 := Lib.hid (below_via HBW6.out hb7)
                clear hb7 HM6 HB6 HBW6 HM3 HB3 HBW3 HOL hdt HPR hpm hlen hws hb
                go_wp2_with fail
                with_reducible refine (matchO P x t w1 _ HM7.out (by unfold U; omega)).mono ?_
                rintro e w8 ⟨pv, gv, rfl, hp8, hg8, hm8, ho8⟩
                rw [hy] at hm8
                rw [hps] at hp8
                rw [hgs] at hg8
                obtain ⟨ap1, cp1, epv⟩ := hp8.form
                obtain ⟨ag, cg, egv⟩ := hg8.form
                subst epv egv
                have HB8 := Lib.hid (HB7.out.onl ho8 (HM7.out.apart HB7.out))
                have HOL8 := Lib.hid (HOL7.out.onl ho8 (HM7.out.apart HOL7.out))
                have HBW8 : Hid (Below w.heap.size w w8) := Lib.hid (((Onl.of HBW7.out : Onl [P] w w7).trans ⟨ho8.os, ho8.tape, ho8.output, ho8.size, ho8.block⟩).below (fun q hq => by simp at hq; have := HM7.out.new; have := HB1.out.size; omega))
                have HP8 := Lib.hid hp8
                have HG8 := Lib.hid hg8
                have HM8 := Lib.hid hm8
                clear hp8 hg8 hm8 ho8 HB7 HOL7 HBW7 HM7 hy hps hgs
                go_wp2_with fail
                with_reducible refine (waitO P y _ w1 _ HM8.out HWSY.out).mono ?_
                rintro e w9 ⟨wv, rfl, hw9, hb9⟩
                obtain ⟨aw, cw, ewv⟩ := hw9.form
                subst ewv
                have HWS := Lib.hid hw9
                have HMY := Lib.hid (HM8.out.below hb9)
                have HPS := Lib.hid (HP8.out.below hb9)
                have HGS := Lib.hid (HG8.out.below hb9)
                have HB9B := Lib.hid (HB8.out.below hb9)
                have HOL9 := Lib.hid (HOL8.out.below hb9)
                have HBW9 := Lib.hid (below_via HBW8.out hb9)
                have HM19 := Lib.hid HMY.out.bel
                have hz19 := HMY.out.bel.size
                have EC9 : Hid (w9.cell? ⟨w.heap.size, 2, none⟩ = some (.int .u64 to')) := Lib.hid ((HMY.out.bel.cell (p := ⟨w.heap.size, 2, none⟩) lC_w1).trans EC1.out)
                have HCS : Hid (w.heap.size < w9.heap.size) := Lib.hid (by omega)
                clear hw9 hb9 HM8 HP8 HG8 HB8 HOL8 HBW8
                have hmk := fun w => run_make_row' (P := Try.prog) 33 3 (.int .i64 0) 8 Try.underlying33 (by kernel_rfl) rfl .i64 .i64 n (by omega) (by omega) w
                go_wp2_with fail
                have HZ9 := Lib.hid (zeros_row w9 n h30)
                go_loopw [22] (fun s wr => CnRel w9 n ps.length (fun j => fp (ps.take j)) (fun _ => []) s wr) (fun s _ => ps.length - (intOf s).toNat)
                case atStart => exact ⟨0, Nat.zero_le _, rfl, by have h := HZ9.out; rw [← cn_nil] at h; exact h, (Below.refl _ _).alloc (Nat.le_refl _) _⟩
                case round =>
                  clear hmk HZ9
                  obtain ⟨j, hj, rfl, hsn, hb⟩ := hrel
                  replace hsn : Ow ic 1 3 wr w9.heap.size (.slice (some ⟨w9.heap.size, 0, none⟩) n n) (cn n (fp (ps.take j)) []) := hsn
                  have HSN := Lib.hid hsn
                  have hz_wr := hb.size
                  clear hsn
                  by_cases hjl : j < ps.length
                  · obtain ⟨p, hp⟩ : ∃ p, ps[j]? = some p := ⟨ps[j], List.getElem?_eq_getElem hjl⟩
                    have hpm := fp_mem hp
                    obtain ⟨a, ha, hal⟩ := HIN.out p.1 (List.mem_append_left _ (List.mem_append_left _ hpm.1))
                    obtain ⟨b, hbq, hbl⟩ := HIN.out p.2 (List.mem_append_left _ (List.mem_append_left _ hpm.2))
                    obtain ⟨p1, p2⟩ := p
                    simp only at ha hbq
                    subst ha hbq
                    have HP := Lib.hid hp
                    obtain ⟨_, ax, cx, hvx, hfx⟩ := (HPS.out.rw (fun _ _ => rfl)).form
                    obtain ⟨bp, op, rfl, hbp9, hcp⟩ := hfx (by omega)
                    have ep0 : wr.cell? ⟨bp, op + j * 2, none⟩ = some (.int .i64 (a : Int)) := (hb.cell (p := ⟨bp, op + j * 2, none⟩) hbp9).trans (hcp j _ hp 0 _ rfl)
                    have ep1 : wr.cell? ⟨bp, op + j * 2 + 1, none⟩ = some (.int .i64 (b : Int)) := (hb.cell (p := ⟨bp, op + j * 2 + 1, none⟩) hbp9).trans (hcp j _ hp 1 _ rfl)
                    simp only [Value.slice.injEq] at hvx
                    obtain ⟨rfl, hvl, rfl⟩ := hvx
                    have hbd := cn_bd (fp (ps.take j)) [] (a : Int)
                    obtain ⟨s1, hs1⟩ : ∃ s, ((fp (ps.take j)).count (a : Int) : Int) - (([] : List Int).count (a : Int) : Int) = s := ⟨_, rfl⟩
                    have es1 : wr.cell? ⟨w9.heap.size, a, none⟩ = some (.int .i64 s1) := ICEL HSN.out (by rw [cn_at _ _ hal, hs1])
                    have fs1 : wr.frozen? ⟨w9.heap.size, a, none⟩ = false := HSN.out.frozenAt _
                    rw [hs1, fp_len, List.length_take, List.length_nil] at hbd
                    have hpl := HPLN.out
                    obtain ⟨sb1, sb2⟩ : 0 ≤ s1 ∧ s1 ≤ 1000 := by omega
                    have HS1 := Lib.hid hs1
                    have i1 : (0 : Int) ≤ (j : Int) := by omega
                    have i2 : (j : Int) < (ps.length : Int) := by omega
                    have i3 : (0 : Int) ≤ (a : Int) := by omega
                    have i4 : (a : Int) < (n : Int) := by omega
                    have i5 : (0 : Int) ≤ (b : Int) := by omega
                    have i6 : (b : Int) < (n : Int) := by omega
                    have hne : bp ≠ w9.heap.size := by omega
                    clear hp hpm hfx hcp hvl hbd hs1 hpl
                    go_upto_region 33 with fail
                    obtain ⟨wz, hwz⟩ : ∃ W, W = wr.setCell ⟨w9.heap.size, a, none⟩ (.int .i64 (s1 + 1)) := ⟨_, rfl⟩
                    rw [← hwz]
                    have hsz : Ow ic 1 3 wz w9.heap.size (.slice (some ⟨w9.heap.size, 0, none⟩) n n) (cn n (fp (ps.take j) ++ [(a : Int)]) []) := by
                      have h := HSN.out.set1 (fun _ => rfl) (cn_len n _ _).symm a (s1 + 1) (.int .i64 (s1 + 1)) rfl
                      rw [← HS1.out, cn_add hal, HS1.out, ← hwz] at h
                      exact h
                    have hbz : Below w9.heap.size w9 wz := by rw [hwz]; exact hb.setCell (Nat.le_refl _) _
                    have ez1 : wz.cell? ⟨bp, op + j * 2 + 1, none⟩ = some (.int .i64 (b : Int)) := by rw [hwz, World.cell?_setCell_other _ _ _ _ (by simp [hne]), ep1]
                    obtain ⟨s2, hs2⟩ : ∃ s, ((fp (ps.take j) ++ [(a : Int)]).count (b : Int) : Int) - (([] : List Int).count (b : Int) : Int) = s := ⟨_, rfl⟩
                    have hbd := cn_bd (fp (ps.take j) ++ [(a : Int)]) [] (b : Int)
                    rw [hs2, List.length_append, fp_len, List.length_take, List.length_nil, List.length_singleton] at hbd
                    have es2 : wz.cell? ⟨w9.heap.size, b, none⟩ = some (.int .i64 s2) := ICEL hsz (by rw [cn_at _ _ hbl, hs2])
                    have fs2 : wz.frozen? ⟨w9.heap.size, b, none⟩ = false := hsz.frozenAt _
                    have hpl := HPLN.out
                    obtain ⟨sb3, sb4⟩ : 0 ≤ s2 ∧ s2 ≤ 1000 := by omega
                    have HSZ := Lib.hid hsz
                    have HS2 := Lib.hid hs2
                    have HBZ := Lib.hid hbz
                    clear hwz hsz hbz hs2 hbd es1 fs1 ep0 ep1 HS1 hb hpl HSN
                    go_wp2_with fail
                    go_roundw
                    case rel => exact ⟨j + 1, by omega, by go_num, by
                      have h := HSZ.out.set1 (fun _ => rfl) (cn_len n _ _).symm b (s2 + 1) (.int .i64 (s2 + 1)) rfl
                      rw [← HS2.out, cn_add hbl, HS2.out, ← fp_next HP.out] at h
                      exact h, HBZ.out.setCell (Nat.le_refl _) _⟩
                    case measure => simp [intOf]; omega
                  · obtain rfl : j = ps.length := by omega

                    as_aux_lemma =>
                      rw [List.take_length] at HSN
                      obtain ⟨wp, rfl⟩ : ∃ wp, wp = wr := ⟨_, rfl⟩
                      have HBP := Lib.hid hb
                      have HSZ9 : Hid (w9.heap.size < wp.heap.size) := Lib.hid (HSN.out.typ _ rfl).2.1
                      go_wp2_with fail
                      obtain ⟨wq, hwq⟩ : ∃ W, W = wp.alloc (.cells #[.slice ag gs.length cg, .slice aw ws.length cw] 33) := ⟨_, rfl⟩
                      have hbq : Below wp.heap.size wp wq := by rw [hwq]; exact (Below.refl _ _).alloc (Nat.le_refl _) _
                      have hq0 : wq.cell? ⟨wp.heap.size, 0, none⟩ = some (.slice ag gs.length cg) := by rw [hwq]; simp
                      have hq1 : wq.cell? ⟨wp.heap.size, 1, none⟩ = some (.slice aw ws.length cw) := by rw [hwq]; simp
                      have hqs : wp.heap.size < wq.heap.size := by rw [hwq]; simp
                      rw [← hwq]
                      have HBQ9 := Lib.hid (below_via hb hbq)
                      have HSQ := Lib.hid (HSN.out.below hbq)
                      clear hwq hbq hb HSN
                      go_loopw [201] (fun s wr => TwRel w9 wq n (LkL ps gs ws) s wr) (fun s _ => 2 - (intOf s).toNat)
                      case atStart => exact ⟨0, by omega, rfl, HSQ.out, Onl.refl _ _⟩
                      case round =>
                        obtain ⟨j, hj, rfl, hsn, ho⟩ := hrel
                        obtain ⟨wt, rfl⟩ : ∃ wt, wt = wr := ⟨_, rfl⟩
                        have HST := Lib.hid hsn
                        have HOT := Lib.hid ho
                        have hzt := ho.size
                        clear hsn ho
                        by_cases hjl : j < 2
                        · obtain ⟨az, cz, zs, hc, hlk, hrw, hmem⟩ : ∃ az cz, ∃ zs : List Int, wt.cell? ⟨wp.heap.size, j, none⟩ = some (.slice az zs.length cz) ∧ LkL ps gs ws (j + 1) = LkL ps gs ws j ++ zs ∧ Rw ic 1 w9 (.slice az zs.length cz) zs ∧ (∀ z ∈ zs, z ∈ fp ps ++ gs ++ ws) := by
                            have hne : wp.heap.size ∉ [w9.heap.size] := by have := HBP.out.size; have := HSZ9.out; simp; omega
                            have h01 : j = 0 ∨ j = 1 := by omega
                            rcases h01 with rfl | rfl
                            · exact ⟨_, _, gs, (HOT.out.cell hqs hne).trans hq0, rfl, HGS.out.rw (fun _ _ => rfl), fun z hz => by simp [hz]⟩
                            · exact ⟨_, _, ws, (HOT.out.cell hqs hne).trans hq1, rfl, HWS.out.rw (fun _ _ => rfl), fun z hz => by simp [hz]⟩
                          have HLK := Lib.hid hlk
                          have HRW := Lib.hid hrw
                          have HME := Lib.hid hmem
                          obtain ⟨pre, hpre⟩ : ∃ l, LkL ps gs ws j = l := ⟨_, rfl⟩
                          rw [hpre] at HST HLK
                          have HPREL : Hid ((pre ++ zs).length ≤ 400) := Lib.hid (by
                            have h : (LkL ps gs ws (j + 1)).length ≤ (fp ps ++ gs ++ ws).length := by
                              have h01 : j = 0 ∨ j = 1 := by omega
                              rcases h01 with rfl | rfl <;> simp [LkL]
                            rw [HLK.out] at h
                            have := HALL.out
                            omega)
                          have HPRE := Lib.hid hpre
                          have i1 : (0 : Int) ≤ (j : Int) := by omega
                          have i2 : (j : Int) < 2 := by omega
                          clear hlk hrw hmem hpre
                          go_wp2_with fail
                          go_loopw [25] (fun s wr => InRel w9 wq n pre zs s wr) (fun s _ => zs.length - (intOf s).toNat)
                          case atStart => exact ⟨0, Nat.zero_le _, rfl, by rw [List.take_zero, List.append_nil]; exact HST.out, HOT.out⟩
                          case round =>
                            obtain ⟨i, hi, rfl, hsn, ho⟩ := hrel
                            have HSN := Lib.hid hsn
                            have HOI := Lib.hid ho
                            have hzi := ho.size
                            clear hsn ho hc
                            by_cases hil : i < zs.length
                            · obtain ⟨z, hz⟩ : ∃ z, zs[i]? = some z := ⟨zs[i], List.getElem?_eq_getElem hil⟩
                              obtain ⟨a, rfl, hal⟩ := HIN.out z (HME.out z (List.mem_of_getElem? hz))
                              have hb9 : Below w9.heap.size w9 wr := ((Onl.of HBQ9.out : Onl [w9.heap.size] w9 wq).trans ⟨HOI.out.os, HOI.out.tape, HOI.out.output, HOI.out.size, HOI.out.block⟩).below (fun q hq => by simp at hq; omega)
                              obtain ⟨_, ax, cx, hvx, hfx⟩ := HRW.out.ints
                              obtain ⟨bz, oz, rfl, hbz9, hcz⟩ := hfx (by omega)
                              have ez : wr.cell? ⟨bz, oz + i, none⟩ = some (.int .i64 (a : Int)) := (hb9.cell (p := ⟨bz, oz + i, none⟩) hbz9).trans (hcz i _ hz)
                              simp only [Value.slice.injEq] at hvx
                              obtain ⟨rfl, hvl, rfl⟩ := hvx
                              obtain ⟨s1, hs1⟩ : ∃ s, ((pre ++ zs.take i).count (a : Int) : Int) - (([] : List Int).count (a : Int) : Int) = s := ⟨_, rfl⟩
                              have hbd := cn_bd (pre ++ zs.take i) [] (a : Int)
                              rw [hs1, List.length_append, List.length_take, List.length_nil] at hbd
                              have es1 : wr.cell? ⟨w9.heap.size, a, none⟩ = some (.int .i64 s1) := ICEL HSN.out (by rw [cn_at _ _ hal, hs1])
                              have fs1 : wr.frozen? ⟨w9.heap.size, a, none⟩ = false := HSN.out.frozenAt _
                              have hpl := HPREL.out
                              rw [List.length_append] at hpl
                              obtain ⟨sb1, sb2⟩ : 0 ≤ s1 ∧ s1 ≤ 1000 := by omega
                              have HS1 := Lib.hid hs1
                              have HZI := Lib.hid hz
                              have i3 : (0 : Int) ≤ (a : Int) := by omega
                              have i4 : (a : Int) < (n : Int) := by omega
                              have i5 : (0 : Int) ≤ (i : Int) := by omega
                              have i6 : (i : Int) < (zs.length : Int) := by omega
                              clear hz hfx hcz hvl hbd hs1 hpl hb9
                              go_wp2_with fail
                              go_roundw
                              case rel => exact ⟨i + 1, by omega, by go_num, by
                                have h := HSN.out.set1 (fun _ => rfl) (cn_len n _ _).symm a (s1 + 1) (.int .i64 (s1 + 1)) rfl
                                rw [← HS1.out, cn_add hal, HS1.out] at h
                                rw [tk_next HZI.out, ← List.append_assoc]
                                exact h, HOI.out.setCell (q := ⟨w9.heap.size, a, none⟩) (.inl (by simp)) _⟩
                              case measure => simp [intOf]; omega
                            · obtain rfl : i = zs.length := by omega
                              rw [List.take_length, ← HLK.out] at HSN
                              go_wp2_with fail
                              go_roundw
                              case rel => exact ⟨j + 1, by omega, by go_num, HSN.out, HOI.out⟩
                              case measure => simp [intOf]; omega
                        · obtain rfl : j = 2 := by omega
                          have HB9 := Lib.hid (((Onl.of HBQ9.out : Onl [w9.heap.size] w9 wq).trans ⟨HOT.out.os, HOT.out.tape, HOT.out.output, HOT.out.size, HOT.out.block⟩).below (fun q hq => by simp at hq; omega) : Below w9.heap.size w9 wt)
                          have HSW : Hid (Ow ic 1 3 wt w9.heap.size (.slice (some ⟨w9.heap.size, 0, none⟩) n n) (cn n (fp ps ++ gs ++ ws) [])) := HST
                          clear HST HOT hzt hj hjl hq0 hq1 hqs HBQ9 HSQ

                          as_aux_lemma =>
                            go_wp2_with fail
                            have hx201 := HXLN.out
                            go_loopw [26] (fun s wr => CnRel w9 n x.l.length (fun _ => fp ps ++ gs ++ ws) (fun j => (x.l.map Pl.id).take j) s wr) (fun s _ => x.l.length - (intOf s).toNat)
                            case atStart => exact ⟨0, Nat.zero_le _, rfl, HSW.out, HB9.out⟩
                            case round =>
                              clear HSW
                              obtain ⟨j, hj, rfl, hsn, hb⟩ := hrel
                              replace hsn : Ow ic 1 3 wr w9.heap.size (.slice (some ⟨w9.heap.size, 0, none⟩) n n) (cn n (fp ps ++ gs ++ ws) ((x.l.map Pl.id).take j)) := hsn
                              have HSN := Lib.hid hsn
                              have hz_wr := hb.size
                              clear hsn
                              by_cases hjl : j < x.l.length
                              · obtain ⟨p, hp⟩ : ∃ p, x.l[j]? = some p := ⟨x.l[j], List.getElem?_eq_getElem hjl⟩
                                obtain ⟨a, hal, hpa, hpsi, hpra⟩ := HXX.out p (List.mem_of_getElem? hp)
                                rw [HN.out] at hal
                                have hids : (x.l.map Pl.id)[j]? = some (a : Int) := by rw [List.getElem?_map, hp, Option.map_some, hpa]
                                obtain ⟨_, ax, cx, hvx, hfx⟩ := (HB9B.out.rw (fun _ _ => rfl)).ints
                                obtain ⟨bb, ob, rfl, hbb9, hcb⟩ := hfx (by rw [List.length_map]; omega)
                                have eb : wr.cell? ⟨bb, ob + j, none⟩ = some (.int .i64 (a : Int)) := (hb.cell (p := ⟨bb, ob + j, none⟩) hbb9).trans (hcb j _ hids)
                                simp only [Value.slice.injEq] at hvx
                                obtain ⟨rfl, hvl, rfl⟩ := hvx
                                obtain ⟨s1, hs1⟩ : ∃ s, ((fp ps ++ gs ++ ws).count (a : Int) : Int) - (((x.l.map Pl.id).take j).count (a : Int) : Int) = s := ⟨_, rfl⟩
                                have hbd := cn_bd (fp ps ++ gs ++ ws) ((x.l.map Pl.id).take j) (a : Int)
                                rw [hs1] at hbd
                                have es1 : wr.cell? ⟨w9.heap.size, a, none⟩ = some (.int .i64 s1) := ICEL HSN.out (by rw [cn_at _ _ hal, hs1])
                                have fs1 : wr.frozen? ⟨w9.heap.size, a, none⟩ = false := HSN.out.frozenAt _
                                have hpl := HALL.out
                                have hpl2 : ((x.l.map Pl.id).take j).length ≤ 200 := by rw [List.length_take, List.length_map]; have := HXLN.out; omega
                                obtain ⟨sb1, sb2⟩ : -1000 ≤ s1 ∧ s1 ≤ 1000 := by omega
                                have HS1 := Lib.hid hs1
                                have HIJ := Lib.hid hids
                                have i1 : (0 : Int) ≤ (j : Int) := by omega
                                have i2 : (j : Int) < (x.l.length : Int) := by omega
                                have i3 : (0 : Int) ≤ (a : Int) := by omega
                                have i4 : (a : Int) < (n : Int) := by omega
                                clear hp hfx hcb hvl hbd hs1 hpl hpl2 hids hpa hpsi hpra
                                go_wp2_with fail
                                go_roundw
                                case rel => exact ⟨j + 1, by omega, by go_num, by
                                  have h := HSN.out.set1 (fun _ => rfl) (cn_len n _ _).symm a (s1 - 1) (.int .i64 (s1 - 1)) rfl
                                  rw [← HS1.out, cn_sub hal, HS1.out, ← tk_next HIJ.out] at h
                                  exact h, hb.setCell (Nat.le_refl _) _⟩
                                case measure => simp [intOf]; omega
                              · obtain rfl : j = x.l.length := by omega
                                have HSE : Hid (Ow ic 1 3 wr w9.heap.size (.slice (some ⟨w9.heap.size, 0, none⟩) n n) (List.replicate n (0 : Int))) := Lib.hid (by
                                  have h := HSN.out
                                  rw [List.take_of_length_le (by rw [List.length_map]; exact Nat.le_refl _), cn_perm HPM.out] at h
                                  exact h)
                                have HBE := Lib.hid hb
                                obtain ⟨we, rfl⟩ : ∃ we, we = wr := ⟨_, rfl⟩
                                clear HSN hb hj hjl HB9 hz_wr
                                go_wp2_with fail
                                go_loopw [27] (fun s wr => StRel we n s wr) (fun s _ => n - (intOf s).toNat)
                                case atStart => exact ⟨0, Nat.zero_le _, rfl, Below.refl _ _⟩
                                case round =>
                                  obtain ⟨j, hj, rfl, hb⟩ := hrel
                                  by_cases hjl : j < n
                                  · have es1 : wr.cell? ⟨w9.heap.size, j, none⟩ = some (.int .i64 0) := ICEL (HSE.out.below hb) (by rw [List.getElem?_replicate, if_pos hjl])
                                    have i1 : (0 : Int) ≤ (j : Int) := by omega
                                    have i2 : (j : Int) < (n : Int) := by omega
                                    go_wp2_with fail
                                    go_roundw
                                    case rel => exact ⟨j + 1, by omega, by go_num, hb⟩
                                    case measure => simp [intOf]; omega
                                  · obtain rfl : n = j := by omega
                                    clear hj hjl HSE

                                    as_aux_lemma =>
                                      obtain ⟨wx, rfl⟩ : ∃ wx, wx = wr := ⟨_, rfl⟩
                                      have HBX := Lib.hid (below_via HBE.out hb)
                                      clear hb HBE
                                      go_wp2_with fail
                                      rw [show ((2 : Nat) : Int) = (2 : Int) from rfl]
                                      go_loopw [28] (fun s wr => StRel wx ws.length s wr) (fun s _ => ws.length - (intOf s).toNat)
                                      case atStart => exact ⟨0, Nat.zero_le _, rfl, Below.refl _ _⟩
                                      case round =>
                                        obtain ⟨i, hi, rfl, hb⟩ := hrel
                                        have h9 := below_via HBX.out hb
                                        by_cases hil : i < ws.length
                                        · obtain ⟨p, hp⟩ : ∃ p, y.l[i]? = some p := ⟨y.l[i]'(by rw [← HWL.out]; exact hil), List.getElem?_eq_getElem _⟩
                                          have hpm := List.mem_of_getElem? hp
                                          obtain ⟨a, hal, hpa, hpsi, hpra⟩ := HYX.out p hpm
                                          rw [HN.out] at hal
                                          obtain ⟨g1, g2, g3⟩ := HLW.out i p hp
                                          obtain ⟨g4, g5, g6, g7⟩ := HLT.out p hpm
                                          obtain ⟨g8, g9⟩ := HYR.out p hpm
                                          have hoa := HPRX.out p g4
                                          rw [hpa] at g1 g2 g3 g5 g6 g7 hoa
                                          rw [Int.toNat_natCast] at hoa
                                          obtain ⟨n1, hn1⟩ : ∃ m, winN y (a : Int) = m := ⟨_, rfl⟩
                                          obtain ⟨oa, hoa2⟩ : ∃ m, winN x (a : Int) = m := ⟨_, rfl⟩
                                          rw [hn1] at g2 g3
                                          rw [hoa2] at g3 hoa
                                          have HN1 := Lib.hid hn1
                                          have HNE := Lib.hid g1
                                          have HW1 := Lib.hid g2
                                          have HPI := Lib.hid hp
                                          have eo9 : w9.cell? ⟨w3.heap.size, a, none⟩ = some (.int .i64 oa) := ICEL HOL9.out hoa
                                          have h39 : w3.heap.size < w9.heap.size := (HOL9.out.typ _ rfl).2.1
                                          obtain ⟨_, ax, cx, hvx, hfx⟩ := (HWS.out.rw (fun _ _ => rfl)).ints
                                          obtain ⟨bw, ow, rfl, hbw9, hcw⟩ := hfx (by omega)
                                          have ew9 : w9.cell? ⟨bw, ow + i, none⟩ = some (.int .i64 (a : Int)) := hcw i _ (by rw [← HWSY.out, List.getElem?_map, hp, Option.map_some, hpa])
                                          have HCW := Lib.hid hcw
                                          simp only [Value.slice.injEq] at hvx
                                          obtain ⟨rfl, hvl, rfl⟩ := hvx
                                          have hc9 : w.heap.size < w9.heap.size := HCS.out
                                          obtain ⟨ra, hra⟩ : ∃ r, p.ra = r := ⟨_, rfl⟩
                                          rw [hra] at hpra g8 g9
                                          have HRA := Lib.hid hra
                                          obtain ⟨br, off, ea1, hbr, hrc⟩ := F1.out (by omega)
                                          subst ea1
                                          have HRC := Lib.hid hrc
                                          have hbr9 : br < w9.heap.size := Nat.lt_of_lt_of_le hbr HBW9.out.size
                                          have era9 : w9.cell? ⟨br, off + a, none⟩ = some (.int .i64 ra) := (HBW9.out.cell (p := ⟨br, off + a, none⟩) hbr).trans (HRC.out a _ hpra)
                                          have i1 : (0 : Int) ≤ (i : Int) := by omega
                                          have i2 : (i : Int) < (ws.length : Int) := by omega
                                          have i3 : (0 : Int) ≤ (a : Int) := by omega
                                          have i4 : (a : Int) < (n : Int) := by omega
                                          have t1 : decide (n1 < oa) = false := decide_eq_false (by omega)
                                          have t2 : decide (to' ≤ t - (a : Int)) = false := decide_eq_false (by omega)
                                          have q57 : IntKind.u64.wrap (t - (a : Int)) = t - (a : Int) := by simp [IntKind.wrap, IntKind.signed, IntKind.bits]; omega
                                          have q58 : IntKind.u64.wrap (a : Int) = (a : Int) := by simp [IntKind.wrap, IntKind.signed, IntKind.bits]; omega
                                          have ewr := (h9.cell (p := ⟨bw, ow + i, none⟩) hbw9).trans ew9
                                          clear hp hpm hpa hpsi hpra g1 g2 g3 hoa hn1 hoa2 hfx hcw hvl hra hrc
                                          go_wp2_with fail
                                          with_reducible refine (windowM P y (a : Int) n1 0 w1 _ (HMY.out.below h9) HN1.out HNE.out).mono ?_
                                          rintro e w60 ⟨rfl, hb60⟩
                                          clear ewr
                                          have h960 : Below w9.heap.size w9 w60 := below_via h9 hb60
                                          have z60 := h960.size
                                          have ew : w60.cell? ⟨bw, ow + i, none⟩ = some (.int .i64 (a : Int)) := (h960.cell (p := ⟨bw, ow + i, none⟩) hbw9).trans ew9
                                          have eo : w60.cell? ⟨w3.heap.size, a, none⟩ = some (.int .i64 oa) := (h960.cell (p := ⟨w3.heap.size, a, none⟩) h39).trans eo9
                                          have ec : w60.cell? ⟨w.heap.size, 2, none⟩ = some (.int .u64 to') := (h960.cell (p := ⟨w.heap.size, 2, none⟩) hc9).trans EC9.out
                                          have hbw60 : bw < w60.heap.size := by omega
                                          have h360 : w3.heap.size < w60.heap.size := by omega
                                          have hc60 : w.heap.size < w60.heap.size := by omega
                                          go_wp2_with fail
                                          refine rg5_57 (w0 := w60) (B := w60.heap.size) (n := w60.heap.size) (L := []) (E := fun _ => True) (F := fun _ => True) (by kernel_rfl) (by kernel_rfl) ⟨by go_grown, by go_size, (by simp [go_sem] <;> omega)⟩ trivial (fun _ _ _ _ => trivial) trivial (fun _ _ _ _ => trivial) (fun w61 K_w61 E_w61 F_w61 => ?_)
                                          have _ne : Nonempty (KX (w60.heap.size) w60 (w60.heap.size) [] (fun _ => True)) := ⟨⟨_, K_w61, E_w61⟩⟩
                                          repeat (go_big_quiet_step (fail))
                                          refine wpQuiet_nil ?_
                                          have rw0 : ∀ s : KX (w60.heap.size) w60 (w60.heap.size) [] (fun _ => True), s.val.cell? ⟨bw, ow + i, none⟩ = some (.int .i64 (a : Int)) := fun s => (s.kept.below.cell (p := ⟨bw, ow + i, none⟩) hbw60).trans ew
                                          have ro0 : ∀ s : KX (w60.heap.size) w60 (w60.heap.size) [] (fun _ => True), s.val.cell? ⟨w3.heap.size, a, none⟩ = some (.int .i64 oa) := fun s => (s.kept.below.cell (p := ⟨w3.heap.size, a, none⟩) h360).trans eo
                                          have rc0 : ∀ s : KX (w60.heap.size) w60 (w60.heap.size) [] (fun _ => True), s.val.cell? ⟨w.heap.size, 2, none⟩ = some (.int .u64 to') := fun s => (s.kept.below.cell (p := ⟨w.heap.size, 2, none⟩) hc60).trans ec
                                          repeat (go_big_quiet_step (fail))
                                          refine wpQuiet_nil ?_
                                          clear rw0 ro0 rc0
                                          repeat (go_big_quiet_step (fail))
                                          refine wpQuiet_nil ?_
                                          have rw0 : ∀ s : KX (w60.heap.size) w60 (w60.heap.size) [] (fun _ => True), s.val.cell? ⟨bw, ow + i, none⟩ = some (.int .i64 (a : Int)) := fun s => (s.kept.below.cell (p := ⟨bw, ow + i, none⟩) hbw60).trans ew
                                          have ro0 : ∀ s : KX (w60.heap.size) w60 (w60.heap.size) [] (fun _ => True), s.val.cell? ⟨w3.heap.size, a, none⟩ = some (.int .i64 oa) := fun s => (s.kept.below.cell (p := ⟨w3.heap.size, a, none⟩) h360).trans eo
                                          have rc0 : ∀ s : KX (w60.heap.size) w60 (w60.heap.size) [] (fun _ => True), s.val.cell? ⟨w.heap.size, 2, none⟩ = some (.int .u64 to') := fun s => (s.kept.below.cell (p := ⟨w.heap.size, 2, none⟩) hc60).trans ec
                                          repeat (go_big_quiet_step (fail))
                                          refine wpQuiet_nil ?_
                                          clear rw0 ro0 rc0
                                          repeat (go_big_quiet_step (fail))
                                          refine wpQuiet_nil ?_
                                          have rw0 : ∀ s : KX (w60.heap.size) w60 (w60.heap.size) [] (fun _ => True), s.val.cell? ⟨bw, ow + i, none⟩ = some (.int .i64 (a : Int)) := fun s => (s.kept.below.cell (p := ⟨bw, ow + i, none⟩) hbw60).trans ew
                                          have ro0 : ∀ s : KX (w60.heap.size) w60 (w60.heap.size) [] (fun _ => True), s.val.cell? ⟨w3.heap.size, a, none⟩ = some (.int .i64 oa) := fun s => (s.kept.below.cell (p := ⟨w3.heap.size, a, none⟩) h360).trans eo
                                          have rc0 : ∀ s : KX (w60.heap.size) w60 (w60.heap.size) [] (fun _ => True), s.val.cell? ⟨w.heap.size, 2, none⟩ = some (.int .u64 to') := fun s => (s.kept.below.cell (p := ⟨w.heap.size, 2, none⟩) hc60).trans ec
                                          repeat (go_big_quiet_step (fail))
                                          refine wpQuiet_nil ?_
                                          clear rw0 ro0 rc0
                                          repeat (go_big_quiet_step (fail))
                                          refine wpQuiet_nil ?_
                                          have rw0 : ∀ s : KX (w60.heap.size) w60 (w60.heap.size) [] (fun _ => True), s.val.cell? ⟨bw, ow + i, none⟩ = some (.int .i64 (a : Int)) := fun s => (s.kept.below.cell (p := ⟨bw, ow + i, none⟩) hbw60).trans ew
                                          have ro0 : ∀ s : KX (w60.heap.size) w60 (w60.heap.size) [] (fun _ => True), s.val.cell? ⟨w3.heap.size, a, none⟩ = some (.int .i64 oa) := fun s => (s.kept.below.cell (p := ⟨w3.heap.size, a, none⟩) h360).trans eo
                                          have rc0 : ∀ s : KX (w60.heap.size) w60 (w60.heap.size) [] (fun _ => True), s.val.cell? ⟨w.heap.size, 2, none⟩ = some (.int .u64 to') := fun s => (s.kept.below.cell (p := ⟨w.heap.size, 2, none⟩) hc60).trans ec
                                          repeat (go_big_quiet_step (fail))
                                          refine wpQuiet_nil ?_
                                          clear rw0 ro0 rc0
                                          repeat (go_big_quiet_step (fail))
                                          refine wpQuiet_nil ?_
                                          clear _ne
                                          have KH_w61 := Lib.hid K_w61
                                          have hw_w61 := K_w61.below
                                          have hz_w61 := K_w61.size
                                          clear K_w61
                                          clear E_w61 F_w61
                                          have hbf : Below w9.heap.size w9 w61 := below_via h960 hw_w61
                                          have HXF := Lib.hid (below_via (below_via hb hb60) hw_w61)
                                          obtain ⟨wf, rfl⟩ : ∃ W, W = w61 := ⟨_, rfl⟩
                                          have HBF := Lib.hid hbf
                                          clear hbf KH_w61 ew eo ec hb60 h960 z60 hbw60 h360 hc60
                                          go_wp2_with fail
                                          go_loopw [31] (fun s wr => StRel wf i s wr) (fun s _ => i - (intOf s).toNat)
                                          case atStart => exact ⟨0, Nat.zero_le _, rfl, Below.refl _ _⟩
                                          case round =>
                                            clear hb h9
                                            obtain ⟨k, hk, rfl, hb⟩ := hrel
                                            by_cases hkl : k < i
                                            · obtain ⟨q, hq⟩ : ∃ q, y.l[k]? = some q := ⟨y.l[k]'(by rw [← HWL.out]; omega), List.getElem?_eq_getElem _⟩
                                              have hqm := List.mem_of_getElem? hq
                                              obtain ⟨b, hbl, hqb, hqsi, hqrb⟩ := HYX.out q hqm
                                              rw [HN.out] at hbl
                                              obtain ⟨f1, f2, f3⟩ := HLW.out k q hq
                                              obtain ⟨f8, f9⟩ := HYR.out q hqm
                                              rw [hqb] at f1 f2
                                              obtain ⟨n2, hn2⟩ : ∃ m, winN y (b : Int) = m := ⟨_, rfl⟩
                                              rw [hn2] at f2
                                              obtain ⟨rb, hrb⟩ : ∃ r, q.ra = r := ⟨_, rfl⟩
                                              have HN2 := Lib.hid hn2
                                              have HNE2 := Lib.hid f1
                                              have HNF : Hid (¬ (ap ra rb ≤ n1 ∧ ap ra rb ≤ n2)) := Lib.hid (by
                                                have h := HLF.out i k p q HPI.out hq (by omega)
                                                rw [← HW1.out, ← f2, HRA.out, hrb] at h
                                                exact h)
                                              rw [hrb] at hqrb f8 f9
                                              have ewk9 : w9.cell? ⟨bw, ow + k, none⟩ = some (.int .i64 (b : Int)) := HCW.out k _ (by rw [← HWSY.out, List.getElem?_map, hq, Option.map_some, hqb])
                                              have erb9 : w9.cell? ⟨br, off + b, none⟩ = some (.int .i64 rb) := (HBW9.out.cell (p := ⟨br, off + b, none⟩) hbr).trans (HRC.out b _ hqrb)
                                              have v1 : (0 : Int) ≤ (k : Int) := by omega
                                              have v2 : (k : Int) < (ws.length : Int) := by omega
                                              have v3 : (0 : Int) ≤ (b : Int) := by omega
                                              have v4 : (b : Int) < (n : Int) := by omega
                                              have v5 : (k : Int) < (i : Int) := by omega
                                              have v6 : (i : Int) < (ws.length : Int) := by omega
                                              clear hq hqm hqb hqsi hqrb f1 f2 f3 hn2 hrb
                                              have ewr2 := ((below_via HBF.out hb).cell (p := ⟨bw, ow + k, none⟩) hbw9).trans ewk9
                                              go_wp2_with fail
                                              with_reducible refine (windowM P y (b : Int) n2 0 w1 _ (HMY.out.below (below_via HBF.out hb)) HN2.out HNE2.out).mono ?_
                                              rintro e w70 ⟨rfl, hb70⟩
                                              clear ewr2
                                              have h970 : Below w9.heap.size w9 w70 := below_via (below_via HBF.out hb) hb70
                                              have z70 := h970.size
                                              have ewi : w70.cell? ⟨bw, ow + i, none⟩ = some (.int .i64 (a : Int)) := (h970.cell (p := ⟨bw, ow + i, none⟩) hbw9).trans ew9
                                              have ewk : w70.cell? ⟨bw, ow + k, none⟩ = some (.int .i64 (b : Int)) := (h970.cell (p := ⟨bw, ow + k, none⟩) hbw9).trans ewk9
                                              have era : w70.cell? ⟨br, off + a, none⟩ = some (.int .i64 ra) := (h970.cell (p := ⟨br, off + a, none⟩) hbr9).trans era9
                                              have erb : w70.cell? ⟨br, off + b, none⟩ = some (.int .i64 rb) := (h970.cell (p := ⟨br, off + b, none⟩) hbr9).trans erb9
                                              have hbw70 : bw < w70.heap.size := by omega
                                              have hbr70 : br < w70.heap.size := by omega
                                              go_wp2_with fail
                                              refine rg5_63 (w0 := w70) (B := w70.heap.size) (n := w70.heap.size) (L := []) (E := fun _ => True) (F := fun _ => True) (by kernel_rfl) (by kernel_rfl) ⟨by go_grown, by go_size, (by simp [go_sem] <;> omega)⟩ trivial (fun _ _ _ _ => trivial) trivial (fun _ _ _ _ => trivial) (fun w71 K_w71 E_w71 F_w71 => ?_)
                                              have _ne : Nonempty (KX (w70.heap.size) w70 (w70.heap.size) [] (fun _ => True)) := ⟨⟨_, K_w71, E_w71⟩⟩
                                              repeat (go_big_quiet_step (fail))
                                              refine wpQuiet_nil ?_
                                              have rw0 : ∀ s : KX (w70.heap.size) w70 (w70.heap.size) [] (fun _ => True), s.val.cell? ⟨bw, ow + i, none⟩ = some (.int .i64 (a : Int)) := fun s => (s.kept.below.cell (p := ⟨bw, ow + i, none⟩) hbw70).trans ewi
                                              have rw1 : ∀ s : KX (w70.heap.size) w70 (w70.heap.size) [] (fun _ => True), s.val.cell? ⟨bw, ow + k, none⟩ = some (.int .i64 (b : Int)) := fun s => (s.kept.below.cell (p := ⟨bw, ow + k, none⟩) hbw70).trans ewk
                                              have ra0 : ∀ s : KX (w70.heap.size) w70 (w70.heap.size) [] (fun _ => True), s.val.cell? ⟨br, off + a, none⟩ = some (.int .i64 ra) := fun s => (s.kept.below.cell (p := ⟨br, off + a, none⟩) hbr70).trans era
                                              have ra1 : ∀ s : KX (w70.heap.size) w70 (w70.heap.size) [] (fun _ => True), s.val.cell? ⟨br, off + b, none⟩ = some (.int .i64 rb) := fun s => (s.kept.below.cell (p := ⟨br, off + b, none⟩) hbr70).trans erb
                                              repeat (go_big_quiet_step (fail))
                                              refine wpQuiet_nil ?_
                                              clear rw0 rw1 ra0 ra1
                                              repeat (go_big_quiet_step (fail))
                                              refine wpQuiet_nil ?_
                                              have rw0 : ∀ s : KX (w70.heap.size) w70 (w70.heap.size) [] (fun _ => True), s.val.cell? ⟨bw, ow + i, none⟩ = some (.int .i64 (a : Int)) := fun s => (s.kept.below.cell (p := ⟨bw, ow + i, none⟩) hbw70).trans ewi
                                              have rw1 : ∀ s : KX (w70.heap.size) w70 (w70.heap.size) [] (fun _ => True), s.val.cell? ⟨bw, ow + k, none⟩ = some (.int .i64 (b : Int)) := fun s => (s.kept.below.cell (p := ⟨bw, ow + k, none⟩) hbw70).trans ewk
                                              have ra0 : ∀ s : KX (w70.heap.size) w70 (w70.heap.size) [] (fun _ => True), s.val.cell? ⟨br, off + a, none⟩ = some (.int .i64 ra) := fun s => (s.kept.below.cell (p := ⟨br, off + a, none⟩) hbr70).trans era
                                              have ra1 : ∀ s : KX (w70.heap.size) w70 (w70.heap.size) [] (fun _ => True), s.val.cell? ⟨br, off + b, none⟩ = some (.int .i64 rb) := fun s => (s.kept.below.cell (p := ⟨br, off + b, none⟩) hbr70).trans erb
                                              repeat (go_big_quiet_step (fail))
                                              refine wpQuiet_nil ?_
                                              clear rw0 rw1 ra0 ra1
                                              repeat (go_big_quiet_step (fail))
                                              refine wpQuiet_nil ?_
                                              have rw0 : ∀ s : KX (w70.heap.size) w70 (w70.heap.size) [] (fun _ => True), s.val.cell? ⟨bw, ow + i, none⟩ = some (.int .i64 (a : Int)) := fun s => (s.kept.below.cell (p := ⟨bw, ow + i, none⟩) hbw70).trans ewi
                                              have rw1 : ∀ s : KX (w70.heap.size) w70 (w70.heap.size) [] (fun _ => True), s.val.cell? ⟨bw, ow + k, none⟩ = some (.int .i64 (b : Int)) := fun s => (s.kept.below.cell (p := ⟨bw, ow + k, none⟩) hbw70).trans ewk
                                              have ra0 : ∀ s : KX (w70.heap.size) w70 (w70.heap.size) [] (fun _ => True), s.val.cell? ⟨br, off + a, none⟩ = some (.int .i64 ra) := fun s => (s.kept.below.cell (p := ⟨br, off + a, none⟩) hbr70).trans era
                                              have ra1 : ∀ s : KX (w70.heap.size) w70 (w70.heap.size) [] (fun _ => True), s.val.cell? ⟨br, off + b, none⟩ = some (.int .i64 rb) := fun s => (s.kept.below.cell (p := ⟨br, off + b, none⟩) hbr70).trans erb
                                              repeat (go_big_quiet_step (fail))
                                              refine wpQuiet_nil ?_
                                              clear rw0 rw1 ra0 ra1
                                              repeat (go_big_quiet_step (fail))
                                              refine wpQuiet_nil ?_
                                              clear _ne
                                              have KH_w71 := Lib.hid K_w71
                                              have hw_w71 := K_w71.below
                                              have hz_w71 := K_w71.size
                                              clear K_w71
                                              clear E_w71 F_w71
                                              have hbf : Below wf.heap.size wf w71 := below_via (below_via hb hb70) hw_w71
                                              obtain ⟨wg, rfl⟩ : ∃ W, W = w71 := ⟨_, rfl⟩
                                              have HBG := Lib.hid hbf
                                              clear KH_w71 ewi ewk era erb hb70 h970 z70 hbw70 hbr70 hbf
                                              have hAx : (if ra - rb < -(ra - rb) then -(ra - rb) else ra - rb) = ap ra rb := by unfold ap; split <;> omega
                                              obtain ⟨A, hA⟩ : ∃ A, ap ra rb = A := ⟨_, rfl⟩
                                              rw [hA] at hAx
                                              have HNA := HNF.out
                                              rw [hA] at HNA
                                              clear hA
                                              by_cases hd1 : A ≤ n1
                                              · have hd2 : ¬ A ≤ n2 := fun h => HNA ⟨hd1, h⟩
                                                clear HNA
                                                go_wp2_with fail
                                                go_roundw
                                                case rel => exact ⟨k + 1, by omega, by go_num, HBG.out⟩
                                                case measure => simp [intOf]; omega
                                              · clear HNA
                                                go_wp2_with fail
                                                go_roundw
                                                case rel => exact ⟨k + 1, by omega, by go_num, HBG.out⟩
                                                case measure => simp [intOf]; omega
                                            · obtain rfl : k = i := by omega
                                              go_wp2_with fail
                                              go_roundw
                                              case rel => exact ⟨k + 1, by omega, by go_num, below_via HXF.out hb⟩
                                              case measure => simp [intOf]; omega
                                        · obtain rfl : i = ws.length := by omega
                                          go_wp2_with fail
                                          go_roundw
                                          case rel => exact ⟨k0 + 1, y, t, by omega, by go_num, rfl, by omega, by have := HT.out; omega, HMY.out.below h9, HYX.out, HYN.out, HYT.out, HYO.out⟩
                                          case measure => simp [intOf]; omega
        · obtain rfl : k0 = 2 := by omega
          go_wp2_with fail
          with_reducible refine (known _).mono ?_
          rintro e w99 ⟨rfl, hb99⟩
          go_wp2_with fail
          go_returns
          exact ⟨rfl, below_via hbwo hb99⟩
end Go.Proofs.Ytonaidjdkejoeaa
