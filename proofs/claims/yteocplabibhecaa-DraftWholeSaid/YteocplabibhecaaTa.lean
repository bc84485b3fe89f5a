/- Take. -/
import Derived.Test.YteocplabibhecaaTk
import Derived.Laws.AppendOwn
import Derived.Deep.DeepCutAuto
namespace Go.Proofs.Yteocplabibhecaa
open Go.RowKit Plain
set_option linter.unusedVariables false
set_option linter.unusedSimpArgs false

theorem rg22_10 {P : Program} {B n : Nat} {w0 : World} {L : List (Nat × Nat × Value)} {E F : World → Prop} {id : Nat} {Q : Exit → Act → World → Prop} {a : Act} {w : World} {o0 o1 o2 o3 o4 o5 o6 o7 o8 o9 o10 o11 o12 o13 : Oper} (hm : P.follows .mixedOrders = true)
    (hB : (Region.noSelect [o0, o1, o2, o3, o4, o5, o6, o7, o8, o9, o10, o11, o12, o13].toArray && Scr.ok .any [o0, o1, o2, o3, o4, o5, o6, o7, o8, o9, o10, o11, o12, o13].toArray [3, 7, 9, 12] [0, 1, 2, 4, 5, 6, 8, 10, 11, 13] (.free 0 (.free 1 (.free 2 (.free 4 (.free 5 (.free 6 (.free 10 (.read 3 (.read 7 (.free 8 (.read 9 (.free 11 (.read 12 (.free 13 .done)))))))))))))) true true [o0, o1, o2, o3, o4, o5, o6, o7, o8, o9, o10, o11, o12, o13].toArray.size (Array.replicate [o0, o1, o2, o3, o4, o5, o6, o7, o8, o9, o10, o11, o12, o13].toArray.size false)) = true)
    (k : Kept B w0 n L w) (he : E w) (hE : ∀ W W', E W → Below W.heap.size W W' → E W') (hf : F w) (hF : ∀ W W', F W → Below W.heap.size W W' → F W')
    (h : ∀ wk, Kept B w0 n L wk → E wk → F wk → wpQuiet P [o0, o1, o2, o3, o4, o5, o6, o7, o8, o9, o10, o11, o12, o13].toArray (fun _ => True) (fun a0 => wpQuiet P [o0, o1, o2, o3, o4, o5, o6, o7, o8, o9, o10, o11, o12, o13].toArray (fun w' => ∃ s : KX B w0 n L E, w' = s.val) (fun a1 => wpQuiet P [o0, o1, o2, o3, o4, o5, o6, o7, o8, o9, o10, o11, o12, o13].toArray (fun _ => True) (fun a2 => wpQuiet P [o0, o1, o2, o3, o4, o5, o6, o7, o8, o9, o10, o11, o12, o13].toArray (fun w' => ∃ s : KX B w0 n L E, w' = s.val) (fun a3 => wpQuiet P [o0, o1, o2, o3, o4, o5, o6, o7, o8, o9, o10, o11, o12, o13].toArray (fun _ => True) (fun a4 => wpQuiet P [o0, o1, o2, o3, o4, o5, o6, o7, o8, o9, o10, o11, o12, o13].toArray (fun w' => ∃ s : KX B w0 n L E, w' = s.val) (fun a5 => wpQuiet P [o0, o1, o2, o3, o4, o5, o6, o7, o8, o9, o10, o11, o12, o13].toArray (fun _ => True) (fun a6 => Q .normal a6 wk) [o13] a5) [o12] a4) [o11] a3) [o9] a2) [o8] a1) [o3, o7] a0) [o0, o1, o2, o4, o5, o6, o10] a) : (Code.region id [o0, o1, o2, o3, o4, o5, o6, o7, o8, o9, o10, o11, o12, o13].toArray true).wp P Q a w := by
  have e1 : E w.drew := hE _ _ he ((Below.refl _ _).drew)
  have g := h _ k.drew e1 (hF _ _ hf ((Below.refl _ _).drew))
  exact wp_region_scr (U := (fun w' => ∃ s : KX B w0 n L E, w' = s.val)) (ops := [o0, o1, o2, o3, o4, o5, o6, o7, o8, o9, o10, o11, o12, o13].toArray) (.free 0 (.free 1 (.free 2 (.free 4 (.free 5 (.free 6 (.free 10 (.read 3 (.read 7 (.free 8 (.read 9 (.free 11 (.read 12 (.free 13 .done)))))))))))))) [3, 7, 9, 12] [0, 1, 2, 4, 5, 6, 8, 10, 11, 13] hm hB ⟨⟨_, k.drew, e1⟩, rfl⟩ (Scr.of_free rfl g (fun _ g0 => Scr.of_free rfl g0 (fun _ g1 => Scr.of_free rfl g1 (fun _ g2 => Scr.of_free rfl g2 (fun _ g3 => Scr.of_free rfl g3 (fun _ g4 => Scr.of_free rfl g4 (fun _ g5 => Scr.of_free rfl g5 (fun _ g6 => Scr.of_read rfl g6 (fun _ g7 => Scr.of_read rfl g7 (fun _ g8 => Scr.of_free rfl g8 (fun _ g9 => Scr.of_read rfl g9 (fun _ g10 => Scr.of_free rfl g10 (fun _ g11 => Scr.of_read rfl g11 (fun _ g12 => Scr.of_free rfl g12 (fun _ g13 => g13)))))))))))))))
theorem rg22_14 {P : Program} {B n : Nat} {w0 : World} {L : List (Nat × Nat × Value)} {E F : World → Prop} {id : Nat} {Q : Exit → Act → World → Prop} {a : Act} {w : World} {o0 o1 o2 o3 o4 o5 o6 o7 o8 o9 o10 o11 o12 o13 o14 o15 o16 o17 : Oper} (hm : P.follows .mixedOrders = true)
    (hB : (Region.noSelect [o0, o1, o2, o3, o4, o5, o6, o7, o8, o9, o10, o11, o12, o13, o14, o15, o16, o17].toArray && Scr.ok .any [o0, o1, o2, o3, o4, o5, o6, o7, o8, o9, o10, o11, o12, o13, o14, o15, o16, o17].toArray [3, 7, 9] [0, 1, 2, 4, 5, 6, 8, 10, 11, 12, 13, 14, 16] (.free 0 (.free 1 (.free 2 (.free 4 (.free 5 (.free 6 (.free 10 (.free 11 (.free 12 (.free 13 (.free 14 (.read 3 (.read 7 (.free 8 (.read 9 (.alt 15 (.free 16 (.altc 17 .done .stop)) .stop)))))))))))))))) true true [o0, o1, o2, o3, o4, o5, o6, o7, o8, o9, o10, o11, o12, o13, o14, o15, o16, o17].toArray.size (Array.replicate [o0, o1, o2, o3, o4, o5, o6, o7, o8, o9, o10, o11, o12, o13, o14, o15, o16, o17].toArray.size false)) = true)
    (k : Kept B w0 n L w) (he : E w) (hE : ∀ W W', E W → Below W.heap.size W W' → E W') (hf : F w) (hF : ∀ W W', F W → Below W.heap.size W W' → F W')
    (h : ∀ wk, Kept B w0 n L wk → E wk → F wk → wpQuiet P [o0, o1, o2, o3, o4, o5, o6, o7, o8, o9, o10, o11, o12, o13, o14, o15, o16, o17].toArray (fun _ => True) (fun a0 => wpQuiet P [o0, o1, o2, o3, o4, o5, o6, o7, o8, o9, o10, o11, o12, o13, o14, o15, o16, o17].toArray (fun w' => ∃ s : KX B w0 n L E, w' = s.val) (fun a1 => wpQuiet P [o0, o1, o2, o3, o4, o5, o6, o7, o8, o9, o10, o11, o12, o13, o14, o15, o16, o17].toArray (fun _ => True) (fun a2 => wpQuiet P [o0, o1, o2, o3, o4, o5, o6, o7, o8, o9, o10, o11, o12, o13, o14, o15, o16, o17].toArray (fun w' => ∃ s : KX B w0 n L E, w' = s.val) (fun a3 => ((∀ K4 : Act → World → Prop, (∀ a4 w4, wpQuiet P [o0, o1, o2, o3, o4, o5, o6, o7, o8, o9, o10, o11, o12, o13, o14, o15, o16, o17].toArray (fun _ => True) (fun a5 => ((∀ K6 : Act → World → Prop, (∀ a6 w6, Q .normal a6 w6 → K6 a6 w6) → wpList P [o0, o1, o2, o3, o4, o5, o6, o7, o8, o9, o10, o11, o12, o13, o14, o15, o16, o17].toArray (fun e a6 w6 => e = .normal ∧ K6 a6 w6) [o17] a5 w4) ∧ True)) [o16] a4 → K4 a4 w4) → wpList P [o0, o1, o2, o3, o4, o5, o6, o7, o8, o9, o10, o11, o12, o13, o14, o15, o16, o17].toArray (fun e a4 w4 => e = .normal ∧ (∃ s : KX B w0 n L E, w4 = s.val) ∧ K4 a4 w4) [o15] a3 wk) ∧ True)) [o9] a2) [o8] a1) [o3, o7] a0) [o0, o1, o2, o4, o5, o6, o10, o11, o12, o13, o14] a) : (Code.region id [o0, o1, o2, o3, o4, o5, o6, o7, o8, o9, o10, o11, o12, o13, o14, o15, o16, o17].toArray true).wp P Q a w := by
  have e1 : E w.drew := hE _ _ he ((Below.refl _ _).drew)
  have g := h _ k.drew e1 (hF _ _ hf ((Below.refl _ _).drew))
  exact wp_region_scr (U := (fun w' => ∃ s : KX B w0 n L E, w' = s.val)) (ops := [o0, o1, o2, o3, o4, o5, o6, o7, o8, o9, o10, o11, o12, o13, o14, o15, o16, o17].toArray) (.free 0 (.free 1 (.free 2 (.free 4 (.free 5 (.free 6 (.free 10 (.free 11 (.free 12 (.free 13 (.free 14 (.read 3 (.read 7 (.free 8 (.read 9 (.alt 15 (.free 16 (.altc 17 .done .stop)) .stop)))))))))))))))) [3, 7, 9] [0, 1, 2, 4, 5, 6, 8, 10, 11, 12, 13, 14, 16] hm hB ⟨⟨_, k.drew, e1⟩, rfl⟩ (Scr.of_free rfl g (fun _ g0 => Scr.of_free rfl g0 (fun _ g1 => Scr.of_free rfl g1 (fun _ g2 => Scr.of_free rfl g2 (fun _ g3 => Scr.of_free rfl g3 (fun _ g4 => Scr.of_free rfl g4 (fun _ g5 => Scr.of_free rfl g5 (fun _ g6 => Scr.of_free rfl g6 (fun _ g7 => Scr.of_free rfl g7 (fun _ g8 => Scr.of_free rfl g8 (fun _ g9 => Scr.of_free rfl g9 (fun _ g10 => Scr.of_read rfl g10 (fun _ g11 => Scr.of_read rfl g11 (fun _ g12 => Scr.of_free rfl g12 (fun _ g13 => Scr.of_read rfl g13 (fun _ g14 => (Scr.of_alt rfl (g14.1 _ (fun _ _ g => g)) (fun _ _ g15 => Scr.of_free rfl g15 (fun _ g16 => (Scr.of_altc rfl (g16.1 _ (fun _ _ g => g)) (fun _ _ g17 => g17) trivial))) trivial)))))))))))))))))
theorem rg22_15 {P : Program} {B n : Nat} {w0 : World} {L : List (Nat × Nat × Value)} {E F : World → Prop} {id : Nat} {Q : Exit → Act → World → Prop} {a : Act} {w : World} {o0 o1 o2 o3 o4 o5 o6 o7 o8 o9 o10 o11 o12 o13 o14 o15 o16 : Oper} (hm : P.follows .mixedOrders = true)
    (hB : (Region.noSelect [o0, o1, o2, o3, o4, o5, o6, o7, o8, o9, o10, o11, o12, o13, o14, o15, o16].toArray && Scr.ok .any [o0, o1, o2, o3, o4, o5, o6, o7, o8, o9, o10, o11, o12, o13, o14, o15, o16].toArray [3, 8, 11] [0, 1, 2, 4, 5, 6, 7, 9, 10, 12, 15] (.free 0 (.free 1 (.free 2 (.free 4 (.free 5 (.free 6 (.free 7 (.free 9 (.free 12 (.read 3 (.read 8 (.free 10 (.read 11 (.alt 13 (.alt 14 (.free 15 (.altc 16 .done .stop)) .stop) .stop)))))))))))))) true true [o0, o1, o2, o3, o4, o5, o6, o7, o8, o9, o10, o11, o12, o13, o14, o15, o16].toArray.size (Array.replicate [o0, o1, o2, o3, o4, o5, o6, o7, o8, o9, o10, o11, o12, o13, o14, o15, o16].toArray.size false)) = true)
    (k : Kept B w0 n L w) (he : E w) (hE : ∀ W W', E W → Below W.heap.size W W' → E W') (hf : F w) (hF : ∀ W W', F W → Below W.heap.size W W' → F W')
    (h : ∀ wk, Kept B w0 n L wk → E wk → F wk → wpQuiet P [o0, o1, o2, o3, o4, o5, o6, o7, o8, o9, o10, o11, o12, o13, o14, o15, o16].toArray (fun _ => True) (fun a0 => wpQuiet P [o0, o1, o2, o3, o4, o5, o6, o7, o8, o9, o10, o11, o12, o13, o14, o15, o16].toArray (fun w' => ∃ s : KX B w0 n L E, w' = s.val) (fun a1 => wpQuiet P [o0, o1, o2, o3, o4, o5, o6, o7, o8, o9, o10, o11, o12, o13, o14, o15, o16].toArray (fun _ => True) (fun a2 => wpQuiet P [o0, o1, o2, o3, o4, o5, o6, o7, o8, o9, o10, o11, o12, o13, o14, o15, o16].toArray (fun w' => ∃ s : KX B w0 n L E, w' = s.val) (fun a3 => ((∀ K4 : Act → World → Prop, (∀ a4 w4, ((∀ K5 : Act → World → Prop, (∀ a5 w5, wpQuiet P [o0, o1, o2, o3, o4, o5, o6, o7, o8, o9, o10, o11, o12, o13, o14, o15, o16].toArray (fun _ => True) (fun a6 => ((∀ K7 : Act → World → Prop, (∀ a7 w7, Q .normal a7 w7 → K7 a7 w7) → wpList P [o0, o1, o2, o3, o4, o5, o6, o7, o8, o9, o10, o11, o12, o13, o14, o15, o16].toArray (fun e a7 w7 => e = .normal ∧ K7 a7 w7) [o16] a6 w5) ∧ True)) [o15] a5 → K5 a5 w5) → wpList P [o0, o1, o2, o3, o4, o5, o6, o7, o8, o9, o10, o11, o12, o13, o14, o15, o16].toArray (fun e a5 w5 => e = .normal ∧ (∃ s : KX B w0 n L E, w5 = s.val) ∧ K5 a5 w5) [o14] a4 w4) ∧ True) → K4 a4 w4) → wpList P [o0, o1, o2, o3, o4, o5, o6, o7, o8, o9, o10, o11, o12, o13, o14, o15, o16].toArray (fun e a4 w4 => e = .normal ∧ (∃ s : KX B w0 n L E, w4 = s.val) ∧ K4 a4 w4) [o13] a3 wk) ∧ True)) [o11] a2) [o10] a1) [o3, o8] a0) [o0, o1, o2, o4, o5, o6, o7, o9, o12] a) : (Code.region id [o0, o1, o2, o3, o4, o5, o6, o7, o8, o9, o10, o11, o12, o13, o14, o15, o16].toArray true).wp P Q a w := by
  have e1 : E w.drew := hE _ _ he ((Below.refl _ _).drew)
  have g := h _ k.drew e1 (hF _ _ hf ((Below.refl _ _).drew))
  exact wp_region_scr (U := (fun w' => ∃ s : KX B w0 n L E, w' = s.val)) (ops := [o0, o1, o2, o3, o4, o5, o6, o7, o8, o9, o10, o11, o12, o13, o14, o15, o16].toArray) (.free 0 (.free 1 (.free 2 (.free 4 (.free 5 (.free 6 (.free 7 (.free 9 (.free 12 (.read 3 (.read 8 (.free 10 (.read 11 (.alt 13 (.alt 14 (.free 15 (.altc 16 .done .stop)) .stop) .stop)))))))))))))) [3, 8, 11] [0, 1, 2, 4, 5, 6, 7, 9, 10, 12, 15] hm hB ⟨⟨_, k.drew, e1⟩, rfl⟩ (Scr.of_free rfl g (fun _ g0 => Scr.of_free rfl g0 (fun _ g1 => Scr.of_free rfl g1 (fun _ g2 => Scr.of_free rfl g2 (fun _ g3 => Scr.of_free rfl g3 (fun _ g4 => Scr.of_free rfl g4 (fun _ g5 => Scr.of_free rfl g5 (fun _ g6 => Scr.of_free rfl g6 (fun _ g7 => Scr.of_free rfl g7 (fun _ g8 => Scr.of_read rfl g8 (fun _ g9 => Scr.of_read rfl g9 (fun _ g10 => Scr.of_free rfl g10 (fun _ g11 => Scr.of_read rfl g11 (fun _ g12 => (Scr.of_alt rfl (g12.1 _ (fun _ _ g => g)) (fun _ _ g13 => (Scr.of_alt rfl (g13.1 _ (fun _ _ g => g)) (fun _ _ g14 => Scr.of_free rfl g14 (fun _ g15 => (Scr.of_altc rfl (g15.1 _ (fun _ _ g => g)) (fun _ _ g16 => g16) trivial))) trivial)) trivial)))))))))))))))
theorem rg22_20 {P : Program} {B n : Nat} {w0 : World} {L : List (Nat × Nat × Value)} {E F : World → Prop} {id : Nat} {Q : Exit → Act → World → Prop} {a : Act} {w : World} {o0 o1 o2 o3 o4 o5 o6 o7 o8 o9 o10 o11 o12 o13 : Oper} (hm : P.follows .mixedOrders = true)
    (hB : (Region.noSelect [o0, o1, o2, o3, o4, o5, o6, o7, o8, o9, o10, o11, o12, o13].toArray && Scr.ok .any [o0, o1, o2, o3, o4, o5, o6, o7, o8, o9, o10, o11, o12, o13].toArray [3, 7, 9, 11] [0, 1, 2, 4, 5, 6, 8, 10, 12, 13] (.free 0 (.free 1 (.free 2 (.free 4 (.free 5 (.free 6 (.read 3 (.read 7 (.free 8 (.read 9 (.free 10 (.read 11 (.free 12 (.free 13 .done)))))))))))))) true true [o0, o1, o2, o3, o4, o5, o6, o7, o8, o9, o10, o11, o12, o13].toArray.size (Array.replicate [o0, o1, o2, o3, o4, o5, o6, o7, o8, o9, o10, o11, o12, o13].toArray.size false)) = true)
    (k : Kept B w0 n L w) (he : E w) (hE : ∀ W W', E W → Below W.heap.size W W' → E W') (hf : F w) (hF : ∀ W W', F W → Below W.heap.size W W' → F W')
    (h : ∀ wk, Kept B w0 n L wk → E wk → F wk → wpQuiet P [o0, o1, o2, o3, o4, o5, o6, o7, o8, o9, o10, o11, o12, o13].toArray (fun _ => True) (fun a0 => wpQuiet P [o0, o1, o2, o3, o4, o5, o6, o7, o8, o9, o10, o11, o12, o13].toArray (fun w' => ∃ s : KX B w0 n L E, w' = s.val) (fun a1 => wpQuiet P [o0, o1, o2, o3, o4, o5, o6, o7, o8, o9, o10, o11, o12, o13].toArray (fun _ => True) (fun a2 => wpQuiet P [o0, o1, o2, o3, o4, o5, o6, o7, o8, o9, o10, o11, o12, o13].toArray (fun w' => ∃ s : KX B w0 n L E, w' = s.val) (fun a3 => wpQuiet P [o0, o1, o2, o3, o4, o5, o6, o7, o8, o9, o10, o11, o12, o13].toArray (fun _ => True) (fun a4 => wpQuiet P [o0, o1, o2, o3, o4, o5, o6, o7, o8, o9, o10, o11, o12, o13].toArray (fun w' => ∃ s : KX B w0 n L E, w' = s.val) (fun a5 => wpQuiet P [o0, o1, o2, o3, o4, o5, o6, o7, o8, o9, o10, o11, o12, o13].toArray (fun _ => True) (fun a6 => Q .normal a6 wk) [o12, o13] a5) [o11] a4) [o10] a3) [o9] a2) [o8] a1) [o3, o7] a0) [o0, o1, o2, o4, o5, o6] a) : (Code.region id [o0, o1, o2, o3, o4, o5, o6, o7, o8, o9, o10, o11, o12, o13].toArray true).wp P Q a w := by
  have e1 : E w.drew := hE _ _ he ((Below.refl _ _).drew)
  have g := h _ k.drew e1 (hF _ _ hf ((Below.refl _ _).drew))
  exact wp_region_scr (U := (fun w' => ∃ s : KX B w0 n L E, w' = s.val)) (ops := [o0, o1, o2, o3, o4, o5, o6, o7, o8, o9, o10, o11, o12, o13].toArray) (.free 0 (.free 1 (.free 2 (.free 4 (.free 5 (.free 6 (.read 3 (.read 7 (.free 8 (.read 9 (.free 10 (.read 11 (.free 12 (.free 13 .done)))))))))))))) [3, 7, 9, 11] [0, 1, 2, 4, 5, 6, 8, 10, 12, 13] hm hB ⟨⟨_, k.drew, e1⟩, rfl⟩ (Scr.of_free rfl g (fun _ g0 => Scr.of_free rfl g0 (fun _ g1 => Scr.of_free rfl g1 (fun _ g2 => Scr.of_free rfl g2 (fun _ g3 => Scr.of_free rfl g3 (fun _ g4 => Scr.of_free rfl g4 (fun _ g5 => Scr.of_read rfl g5 (fun _ g6 => Scr.of_read rfl g6 (fun _ g7 => Scr.of_free rfl g7 (fun _ g8 => Scr.of_read rfl g8 (fun _ g9 => Scr.of_free rfl g9 (fun _ g10 => Scr.of_read rfl g10 (fun _ g11 => Scr.of_free rfl g11 (fun _ g12 => Scr.of_free rfl g12 (fun _ g13 => g13)))))))))))))))
theorem zero4 (w : World) : (zeroValue 4).run Try.prog w = .ok (.bool false) w := by kernel_rfl
theorem onl_less {w W W' : World} {S S2 : List Nat} (h : Onl S w W) (h2 : Onl S2 W W') (hs : ∀ b ∈ S2, b ∈ S ∨ w.heap.size ≤ b) : Onl S w W' :=
  ⟨h2.os.trans h.os, h2.tape.trans h.tape, h2.output.trans h.output, Nat.le_trans h.size h2.size, fun k hk hne => (h2.block k (Nat.lt_of_lt_of_le hk h.size) (fun hm => by
    rcases hs k hm with h1 | h1
    · exact hne h1
    · omega)).trans (h.block k hk hne)⟩
theorem mid_row0 {x : Dr} {c : Nat} (h : x.Mid c) : ∃ l, at2 x.rs x.rd 0 = some l := by
  have h1 := h.row _ (List.getElem_mem h.rd)
  have h2 : 0 < (x.rs[x.rd]'h.rd).length := by rw [h1]; have := h.n2; omega
  exact ⟨_, at2_of (List.getElem?_eq_getElem h.rd) (List.getElem?_eq_getElem h2)⟩
set_option maxRecDepth 100000 in
set_option maxHeartbeats 8000000 in
theorem take22 (P : Nat) (B c : Nat) (S : List Nat) (d : Dr) (p i : Int) (w : World) (h : DrAt w B S P d) (iv : d.Inv c) : Calls Try.prog 22 #[.pointer (some ⟨P, 0, none⟩), .int .i64 p, .int .i64 i] w (TakeAt w B S P (d.stp p i) (d.got p i) (d.err p i)) := by
  have HN := Lib.hid (none31 P B c S d w h iv)
  have hn8 := iv.n8
  have hn2 := iv.n2
  have HDA := Lib.hid h
  have HIV := Lib.hid iv
  obtain ⟨so, st, sm, rvs, vss, hd⟩ := h
  have HD := Lib.hid hd
  obtain ⟨c0, c1, c2, c3, c4⟩ := hd.cells
  have hP := hd.lt
  by_cases h1 : p < 0 ∨ (d.n : Int) ≤ p
  · have E0 : Hid (d.err p i = 2) := Lib.hid (by unfold Dr.err; rw [if_pos h1])
    clear hd iv
    rcases h1 with h1 | h1
    · go_enter Try.func22, Try.ntmps22
      go_wp2_with fail
      with_reducible refine HN.out.mono ?_
      rintro e w ⟨rfl, rfl⟩
      go_wp2_with fail
      go_returns
      rw [E0.out, (stp_bad E0.out (by decide)).1, (stp_bad E0.out (by decide)).2]
      exact TakeAt.same HDA.out (Below.refl _ _)
    · have h2 : ¬ p < 0 := by omega
      go_enter Try.func22, Try.ntmps22
      go_wp2_with fail
      with_reducible refine HN.out.mono ?_
      rintro e w ⟨rfl, rfl⟩
      go_wp2_with fail
      go_returns
      rw [E0.out, (stp_bad E0.out (by decide)).1, (stp_bad E0.out (by decide)).2]
      exact TakeAt.same HDA.out (Below.refl _ _)
  obtain ⟨q, rfl⟩ : ∃ q : Nat, p = q := ⟨p.toNat, by omega⟩
  have hq : q < d.n := by omega
  have i1 : (0 : Int) ≤ (q : Int) := by omega
  have i2 : (q : Int) < (d.n : Int) := by omega
  cases ho : d.over
  · have HO := Lib.hid (over32c P B c S d false w HDA.out iv ho)
    have hne : d.rd ≠ d.rs.length := fun e => by rw [(over_iff d).2 e] at ho; cases ho
    have hrd := iv.rd
    obtain ⟨mb, hma, hml, hmc, hmb, _⟩ := hd.mvc (p := q) (by rw [iv.mv]; exact hq)
    have hmv := iv.mv
    rw [hma, hmv] at c2
    cases hm : d.mvd q
    · rw [hm] at hmc
      obtain ⟨l, hl⟩ : ∃ l, d.pk q = l := ⟨_, rfl⟩
      have hat := iv.pk_at (by omega) q
      rw [hl] at hat
      have hnow := iv.now q hq (by omega)
      rw [hl] at hnow
      have hll : l.length ≤ 15 := by have := iv.c15; omega
      have hfr := iv.fr_lt q
      obtain ⟨ob, rb, rc, pa, pc, hk⟩ := hd.pk iv.row hat
      have ha := hk.oa
      rw [ha] at c0
      have hol := hk.ol
      have e_o := hk.oc
      have hrl := hk.rl
      have e_r := hk.rcell
      have HLL := Lib.hid hll
      have HQ := Lib.hid hq
      have HO2 := Lib.hid hne
      have j1 : (d.rd : Int) < (d.rs.length : Int) := by omega
      have j2 : (d.fr q : Int) < (d.n : Int) := by omega
      have j3 : (0 : Int) ≤ (d.fr q : Int) := by omega
      have j4 : (0 : Int) ≤ (d.rd : Int) := by omega
      have hr4 := iv.r4
      by_cases hi : i < 0 ∨ (l.length : Int) ≤ i
      · have E0 : Hid (d.err q i = 3) := Lib.hid (by unfold Dr.err; rw [if_neg h1, ho, if_neg (by decide), Int.toNat_natCast, hm, if_neg (by decide), hl, if_pos hi])
        clear hd iv hk ha hat hl hnow ho hm hq hne hfr h1
        rcases hi with hi | hi
        · go_enter Try.func22, Try.ntmps22
          go_wp2_with fail
          with_reducible refine HN.out.mono ?_
          rintro e w ⟨rfl, rfl⟩
          go_wp2_with fail
          with_reducible refine HO.out.mono ?_
          rintro e w1 ⟨rfl, hb1⟩
          have hz1 := hb1.size
          have hmc := (hb1.cell (p := ⟨mb, q, none⟩) hml).trans hmc
          have c2 := (hb1.cell (p := ⟨P, 2, none⟩) hP).trans c2
          have hP1 : P < w1.heap.size := Nat.lt_of_lt_of_le hP hb1.size
          have hml1 : mb < w1.heap.size := Nat.lt_of_lt_of_le hml hb1.size
          go_wp2_with fail
          with_reducible refine (front34 P B c S d q _ (HDA.out.below hb1) HIV.out HQ.out HO2.out).mono ?_
          rintro e w1 ⟨rfl, rfl⟩
          have c0 := (hb1.cell (p := ⟨P, 0, none⟩) hP).trans c0
          have c3 := (hb1.cell (p := ⟨P, 3, none⟩) hP).trans c3
          have e_o := (hb1.cell (p := ⟨ob, d.rd, none⟩) hol).trans e_o
          have e_r := (hb1.cell (p := ⟨rb, d.fr q, none⟩) hrl).trans e_r
          have hol1 : ob < w1.heap.size := Nat.lt_of_lt_of_le hol hb1.size
          have hrl1 : rb < w1.heap.size := Nat.lt_of_lt_of_le hrl hb1.size
          go_wp2_with fail
          refine rg22_10 (w0 := w1) (B := w1.heap.size) (n := w1.heap.size) (L := []) (E := fun _ => True) (F := fun _ => True) (by kernel_rfl) (by kernel_rfl) ⟨by go_grown, by go_size, (by simp [go_sem] <;> omega)⟩ trivial (fun _ _ _ _ => trivial) trivial (fun _ _ _ _ => trivial) (fun w20 K_w20 E_w20 F_w20 => ?_)
          have _ne : Nonempty (KX (w1.heap.size) w1 (w1.heap.size) [] (fun _ => True)) := ⟨⟨_, K_w20, E_w20⟩⟩
          repeat (go_big_quiet_step (fail))
          refine wpQuiet_nil ?_
          have rx0 : ∀ s : KX (w1.heap.size) w1 (w1.heap.size) [] (fun _ => True), s.val.cell? ⟨P, 0, none⟩ = some (.slice (some ⟨ob, 0, none⟩) d.rs.length so.c) := fun s => (s.kept.below.cell (p := ⟨P, 0, none⟩) hP1).trans c0
          have rx1 : ∀ s : KX (w1.heap.size) w1 (w1.heap.size) [] (fun _ => True), s.val.cell? ⟨P, 3, none⟩ = some (.int .i64 d.rd) := fun s => (s.kept.below.cell (p := ⟨P, 3, none⟩) hP1).trans c3
          have rx2 : ∀ s : KX (w1.heap.size) w1 (w1.heap.size) [] (fun _ => True), s.val.cell? ⟨ob, d.rd, none⟩ = some (.slice (some ⟨rb, 0, none⟩) d.n rc) := fun s => (s.kept.below.cell (p := ⟨ob, d.rd, none⟩) hol1).trans e_o
          have rx3 : ∀ s : KX (w1.heap.size) w1 (w1.heap.size) [] (fun _ => True), s.val.cell? ⟨rb, d.fr q, none⟩ = some (.slice pa l.length pc) := fun s => (s.kept.below.cell (p := ⟨rb, d.fr q, none⟩) hrl1).trans e_r
          repeat (go_big_quiet_step (fail))
          refine wpQuiet_nil ?_
          clear rx0 rx1 rx2 rx3
          repeat (go_big_quiet_step (fail))
          refine wpQuiet_nil ?_
          have rx0 : ∀ s : KX (w1.heap.size) w1 (w1.heap.size) [] (fun _ => True), s.val.cell? ⟨P, 0, none⟩ = some (.slice (some ⟨ob, 0, none⟩) d.rs.length so.c) := fun s => (s.kept.below.cell (p := ⟨P, 0, none⟩) hP1).trans c0
          have rx1 : ∀ s : KX (w1.heap.size) w1 (w1.heap.size) [] (fun _ => True), s.val.cell? ⟨P, 3, none⟩ = some (.int .i64 d.rd) := fun s => (s.kept.below.cell (p := ⟨P, 3, none⟩) hP1).trans c3
          have rx2 : ∀ s : KX (w1.heap.size) w1 (w1.heap.size) [] (fun _ => True), s.val.cell? ⟨ob, d.rd, none⟩ = some (.slice (some ⟨rb, 0, none⟩) d.n rc) := fun s => (s.kept.below.cell (p := ⟨ob, d.rd, none⟩) hol1).trans e_o
          have rx3 : ∀ s : KX (w1.heap.size) w1 (w1.heap.size) [] (fun _ => True), s.val.cell? ⟨rb, d.fr q, none⟩ = some (.slice pa l.length pc) := fun s => (s.kept.below.cell (p := ⟨rb, d.fr q, none⟩) hrl1).trans e_r
          repeat (go_big_quiet_step (fail))
          refine wpQuiet_nil ?_
          clear rx0 rx1 rx2 rx3
          repeat (go_big_quiet_step (fail))
          refine wpQuiet_nil ?_
          have rx0 : ∀ s : KX (w1.heap.size) w1 (w1.heap.size) [] (fun _ => True), s.val.cell? ⟨P, 0, none⟩ = some (.slice (some ⟨ob, 0, none⟩) d.rs.length so.c) := fun s => (s.kept.below.cell (p := ⟨P, 0, none⟩) hP1).trans c0
          have rx1 : ∀ s : KX (w1.heap.size) w1 (w1.heap.size) [] (fun _ => True), s.val.cell? ⟨P, 3, none⟩ = some (.int .i64 d.rd) := fun s => (s.kept.below.cell (p := ⟨P, 3, none⟩) hP1).trans c3
          have rx2 : ∀ s : KX (w1.heap.size) w1 (w1.heap.size) [] (fun _ => True), s.val.cell? ⟨ob, d.rd, none⟩ = some (.slice (some ⟨rb, 0, none⟩) d.n rc) := fun s => (s.kept.below.cell (p := ⟨ob, d.rd, none⟩) hol1).trans e_o
          have rx3 : ∀ s : KX (w1.heap.size) w1 (w1.heap.size) [] (fun _ => True), s.val.cell? ⟨rb, d.fr q, none⟩ = some (.slice pa l.length pc) := fun s => (s.kept.below.cell (p := ⟨rb, d.fr q, none⟩) hrl1).trans e_r
          repeat (go_big_quiet_step (fail))
          refine wpQuiet_nil ?_
          clear rx0 rx1 rx2 rx3
          repeat (go_big_quiet_step (fail))
          refine wpQuiet_nil ?_
          clear _ne
          have KH_w20 := Lib.hid K_w20
          have hw_w20 := K_w20.below
          have hz_w20 := K_w20.size
          clear K_w20
          clear E_w20 F_w20
          go_wp2_with fail
          go_returns
          rw [E0.out, (stp_bad E0.out (by decide)).1, (stp_bad E0.out (by decide)).2]
          exact TakeAt.same HDA.out (below_via hb1 hw_w20)
        · have hi0 : ¬ i < 0 := by omega
          go_enter Try.func22, Try.ntmps22
          go_wp2_with fail
          with_reducible refine HN.out.mono ?_
          rintro e w ⟨rfl, rfl⟩
          go_wp2_with fail
          with_reducible refine HO.out.mono ?_
          rintro e w1 ⟨rfl, hb1⟩
          have hz1 := hb1.size
          have hmc := (hb1.cell (p := ⟨mb, q, none⟩) hml).trans hmc
          have c2 := (hb1.cell (p := ⟨P, 2, none⟩) hP).trans c2
          have hP1 : P < w1.heap.size := Nat.lt_of_lt_of_le hP hb1.size
          have hml1 : mb < w1.heap.size := Nat.lt_of_lt_of_le hml hb1.size
          go_wp2_with fail
          with_reducible refine (front34 P B c S d q _ (HDA.out.below hb1) HIV.out HQ.out HO2.out).mono ?_
          rintro e w1 ⟨rfl, rfl⟩
          have c0 := (hb1.cell (p := ⟨P, 0, none⟩) hP).trans c0
          have c3 := (hb1.cell (p := ⟨P, 3, none⟩) hP).trans c3
          have e_o := (hb1.cell (p := ⟨ob, d.rd, none⟩) hol).trans e_o
          have e_r := (hb1.cell (p := ⟨rb, d.fr q, none⟩) hrl).trans e_r
          have hol1 : ob < w1.heap.size := Nat.lt_of_lt_of_le hol hb1.size
          have hrl1 : rb < w1.heap.size := Nat.lt_of_lt_of_le hrl hb1.size
          go_wp2_with fail
          refine rg22_10 (w0 := w1) (B := w1.heap.size) (n := w1.heap.size) (L := []) (E := fun _ => True) (F := fun _ => True) (by kernel_rfl) (by kernel_rfl) ⟨by go_grown, by go_size, (by simp [go_sem] <;> omega)⟩ trivial (fun _ _ _ _ => trivial) trivial (fun _ _ _ _ => trivial) (fun w20 K_w20 E_w20 F_w20 => ?_)
          have _ne : Nonempty (KX (w1.heap.size) w1 (w1.heap.size) [] (fun _ => True)) := ⟨⟨_, K_w20, E_w20⟩⟩
          repeat (go_big_quiet_step (fail))
          refine wpQuiet_nil ?_
          have rx0 : ∀ s : KX (w1.heap.size) w1 (w1.heap.size) [] (fun _ => True), s.val.cell? ⟨P, 0, none⟩ = some (.slice (some ⟨ob, 0, none⟩) d.rs.length so.c) := fun s => (s.kept.below.cell (p := ⟨P, 0, none⟩) hP1).trans c0
          have rx1 : ∀ s : KX (w1.heap.size) w1 (w1.heap.size) [] (fun _ => True), s.val.cell? ⟨P, 3, none⟩ = some (.int .i64 d.rd) := fun s => (s.kept.below.cell (p := ⟨P, 3, none⟩) hP1).trans c3
          have rx2 : ∀ s : KX (w1.heap.size) w1 (w1.heap.size) [] (fun _ => True), s.val.cell? ⟨ob, d.rd, none⟩ = some (.slice (some ⟨rb, 0, none⟩) d.n rc) := fun s => (s.kept.below.cell (p := ⟨ob, d.rd, none⟩) hol1).trans e_o
          have rx3 : ∀ s : KX (w1.heap.size) w1 (w1.heap.size) [] (fun _ => True), s.val.cell? ⟨rb, d.fr q, none⟩ = some (.slice pa l.length pc) := fun s => (s.kept.below.cell (p := ⟨rb, d.fr q, none⟩) hrl1).trans e_r
          repeat (go_big_quiet_step (fail))
          refine wpQuiet_nil ?_
          clear rx0 rx1 rx2 rx3
          repeat (go_big_quiet_step (fail))
          refine wpQuiet_nil ?_
          have rx0 : ∀ s : KX (w1.heap.size) w1 (w1.heap.size) [] (fun _ => True), s.val.cell? ⟨P, 0, none⟩ = some (.slice (some ⟨ob, 0, none⟩) d.rs.length so.c) := fun s => (s.kept.below.cell (p := ⟨P, 0, none⟩) hP1).trans c0
          have rx1 : ∀ s : KX (w1.heap.size) w1 (w1.heap.size) [] (fun _ => True), s.val.cell? ⟨P, 3, none⟩ = some (.int .i64 d.rd) := fun s => (s.kept.below.cell (p := ⟨P, 3, none⟩) hP1).trans c3
          have rx2 : ∀ s : KX (w1.heap.size) w1 (w1.heap.size) [] (fun _ => True), s.val.cell? ⟨ob, d.rd, none⟩ = some (.slice (some ⟨rb, 0, none⟩) d.n rc) := fun s => (s.kept.below.cell (p := ⟨ob, d.rd, none⟩) hol1).trans e_o
          have rx3 : ∀ s : KX (w1.heap.size) w1 (w1.heap.size) [] (fun _ => True), s.val.cell? ⟨rb, d.fr q, none⟩ = some (.slice pa l.length pc) := fun s => (s.kept.below.cell (p := ⟨rb, d.fr q, none⟩) hrl1).trans e_r
          repeat (go_big_quiet_step (fail))
          refine wpQuiet_nil ?_
          clear rx0 rx1 rx2 rx3
          repeat (go_big_quiet_step (fail))
          refine wpQuiet_nil ?_
          have rx0 : ∀ s : KX (w1.heap.size) w1 (w1.heap.size) [] (fun _ => True), s.val.cell? ⟨P, 0, none⟩ = some (.slice (some ⟨ob, 0, none⟩) d.rs.length so.c) := fun s => (s.kept.below.cell (p := ⟨P, 0, none⟩) hP1).trans c0
          have rx1 : ∀ s : KX (w1.heap.size) w1 (w1.heap.size) [] (fun _ => True), s.val.cell? ⟨P, 3, none⟩ = some (.int .i64 d.rd) := fun s => (s.kept.below.cell (p := ⟨P, 3, none⟩) hP1).trans c3
          have rx2 : ∀ s : KX (w1.heap.size) w1 (w1.heap.size) [] (fun _ => True), s.val.cell? ⟨ob, d.rd, none⟩ = some (.slice (some ⟨rb, 0, none⟩) d.n rc) := fun s => (s.kept.below.cell (p := ⟨ob, d.rd, none⟩) hol1).trans e_o
          have rx3 : ∀ s : KX (w1.heap.size) w1 (w1.heap.size) [] (fun _ => True), s.val.cell? ⟨rb, d.fr q, none⟩ = some (.slice pa l.length pc) := fun s => (s.kept.below.cell (p := ⟨rb, d.fr q, none⟩) hrl1).trans e_r
          repeat (go_big_quiet_step (fail))
          refine wpQuiet_nil ?_
          clear rx0 rx1 rx2 rx3
          repeat (go_big_quiet_step (fail))
          refine wpQuiet_nil ?_
          clear _ne
          have KH_w20 := Lib.hid K_w20
          have hw_w20 := K_w20.below
          have hz_w20 := K_w20.size
          clear K_w20
          clear E_w20 F_w20
          go_wp2_with fail
          go_returns
          rw [E0.out, (stp_bad E0.out (by decide)).1, (stp_bad E0.out (by decide)).2]
          exact TakeAt.same HDA.out (below_via hb1 hw_w20)
      · obtain ⟨k, rfl⟩ : ∃ k : Nat, i = k := ⟨i.toNat, by omega⟩
        have E0 : Hid (d.err q k = 0) := Lib.hid (by unfold Dr.err; rw [if_neg h1, ho, if_neg (by decide), Int.toNat_natCast, hm, if_neg (by decide), hl, if_neg hi])
        have hkl : k < l.length := by omega
        have STP : Hid (d.stp q k = (d.put q k).fin) := Lib.hid (by unfold Dr.stp Dr.take; rw [if_pos E0.out, Int.toNat_natCast, Int.toNat_natCast])
        obtain ⟨card, hcd⟩ : ∃ x, l[k]? = some x := ⟨_, List.getElem?_eq_getElem hkl⟩
        have HCARD := Lib.hid hcd
        have GOT : Hid (d.got q k = card) := Lib.hid (by unfold Dr.got Dr.card; rw [if_pos E0.out, Int.toNat_natCast, Int.toNat_natCast, hl, getD_lt hcd])
        obtain ⟨m, hm1⟩ : ∃ m, l.length = k + m + 1 := ⟨l.length - k - 1, by omega⟩
        have HLM := Lib.hid hm1
        obtain ⟨pb, cap', hpv, _, hpb, hrow⟩ := hk.row.pos (by intro e; rw [e] at hkl; simp at hkl)
        simp only [Value.slice.injEq] at hpv
        obtain ⟨rfl, _, rfl⟩ := hpv
        have HROW := Lib.hid hrow
        rw [hm1] at e_r
        have hrvn : (rvs ++ [st])[d.rd]? = some ⟨some ⟨rb, 0, none⟩, d.n, rc⟩ := by rw [List.getElem?_append_left (by rw [hd.rlen]; omega)]; exact hk.rv
        have HRV := Lib.hid hrvn
        have hpvn := hk.pv
        rw [hm1] at hpvn
        have HPV := Lib.hid hpvn
        obtain ⟨r0, hr0, hr0k⟩ := at2_row hpvn
        have HVR := Lib.hid hr0
        have HRP : Hid (rb ∉ [pb]) := Lib.hid (by
          have t1 : Ty w (some rb) 32 := (hd.rows.row _ _ _ hrvn hr0).ty rfl
          have t2 : Ty w (some pb) 3 := Oe.ty hrow rfl
          simpa using ty_ne t1 t2 (by decide))
        have HPP : Hid (P ∉ [pb]) := Lib.hid (by
          have t2 : Ty w (some pb) 3 := Oe.ty hrow rfl
          simpa using ty_ne hd.tyP t2 (by decide))
        have HOP : Hid (ob ∉ [pb]) := Lib.hid (by
          have t1 : Ty w (some ob) 30 := hd.out.ty hk.ob
          have t2 : Ty w (some pb) 3 := Oe.ty hrow rfl
          simpa using ty_ne t1 t2 (by decide))
        have HTP : Hid (∀ b ∈ [pb], blk (Sl.v ⟨some ⟨pb, 0, none⟩, k + m + 1, pc⟩) = some b) := Lib.hid (fun b hb => by simp at hb; subst hb; rfl)
        have HS1 : Hid (set2 d.rs d.rd (d.fr q) (l.eraseIdx k) ++ [d.tk] = set2 (d.rs ++ [d.tk]) d.rd (d.fr q) (l.eraseIdx k)) := Lib.hid (set2_left _ _ _ _ _ (by omega)).symm
        obtain ⟨tl, htl0⟩ : ∃ t, d.tk[q]? = some t := ⟨_, List.getElem?_eq_getElem (show q < d.tk.length from hq)⟩
        have HTKL : Hid ((Dr.tk ⟨set2 d.rs d.rd (d.fr q) (l.eraseIdx k), d.tk, d.mv, d.rd, d.tn⟩)[q]? = some tl) := Lib.hid htl0
        have hgt := getD_lt (d := []) htl0
        have HTLL : Hid (tl.length ≤ 100) := Lib.hid (by
          have h4 := iv.tkl q hq
          rw [hgt] at h4
          have h5 := iv.c15
          have h7 := iv.tn (by omega)
          have h8 : d.rd * c ≤ 4 * 15 := Nat.mul_le_mul (by omega) h5
          split at h4 <;> omega)
        have HRT31 : Hid ((rvs ++ [st])[d.rs.length]? = some ⟨st.a, st.n, st.c⟩) := Lib.hid (by rw [← hd.rlen]; simp)
        have HS2 : Hid (set2 d.rs d.rd (d.fr q) (l.eraseIdx k) ++ [d.tk.set q (tl ++ [card])] = set2 (set2 d.rs d.rd (d.fr q) (l.eraseIdx k) ++ [d.tk]) d.rs.length q (tl ++ [card])) := Lib.hid (by
          have h := set2_last (set2 d.rs d.rd (d.fr q) (l.eraseIdx k)) d.tk q (tl ++ [card])
          rw [set2_length] at h
          exact h.symm)
        have HQM : Hid (q < (Dr.mv ⟨set2 d.rs d.rd (d.fr q) (l.eraseIdx k), d.tk.set q (tl ++ [card]), d.mv, d.rd, d.tn⟩).length) := Lib.hid (show q < d.mv.length by omega)
        have HMA := Lib.hid hma
        have HMVL := Lib.hid hmv
        have HMVQ := Lib.hid hm
        have HPUT1 : Hid ((d.put q k).rs = Dr.rs ⟨set2 d.rs d.rd (d.fr q) (l.eraseIdx k), d.tk.set q (tl ++ [card]), d.mv, d.rd, d.tn⟩) := Lib.hid (by show set2 _ _ _ ((d.pk q).eraseIdx k) = _; rw [hl])
        have HPUT2 : Hid ((d.put q k).tk = Dr.tk ⟨set2 d.rs d.rd (d.fr q) (l.eraseIdx k), d.tk.set q (tl ++ [card]), d.mv, d.rd, d.tn⟩) := Lib.hid (by show d.tk.set q (d.tk.getD q [] ++ [d.card q k]) = _; rw [hgt]; unfold Dr.card; rw [hl, getD_lt hcd])
        have HMID : Hid ((d.put q k).Mid c) := Lib.hid (put_mid iv hq hne hm (by rw [hl]; exact hkl))
        have HXN : Hid ((d.put q k).n = d.n) := Lib.hid (by simp [Dr.put, Dr.n])
        have l1 : (0 : Int) ≤ (k : Int) := by omega
        have l2 : (k : Int) < ((k + m + 1 : Nat) : Int) := by omega
        have l3 : k + m + 1 ≤ 15 := by omega
        clear hd iv hk ha hat hl hnow ho hm hq hne hfr h1 hi hcd hm1 hrow hrvn hpvn hr0 hr0k htl0 hgt hma hmv hmb
        go_enter Try.func22, Try.ntmps22
        go_wp2_with fail
        with_reducible refine HN.out.mono ?_
        rintro e w ⟨rfl, rfl⟩
        go_wp2_with fail
        with_reducible refine HO.out.mono ?_
        rintro e w1 ⟨rfl, hb1⟩
        have hz1 := hb1.size
        have hmc := (hb1.cell (p := ⟨mb, q, none⟩) hml).trans hmc
        have c2 := (hb1.cell (p := ⟨P, 2, none⟩) hP).trans c2
        have hP1 : P < w1.heap.size := Nat.lt_of_lt_of_le hP hb1.size
        have hml1 : mb < w1.heap.size := Nat.lt_of_lt_of_le hml hb1.size
        go_wp2_with fail
        with_reducible refine (front34 P B c S d q _ (HDA.out.below hb1) HIV.out HQ.out HO2.out).mono ?_
        rintro e w1 ⟨rfl, rfl⟩
        have c0 := (hb1.cell (p := ⟨P, 0, none⟩) hP).trans c0
        have c3 := (hb1.cell (p := ⟨P, 3, none⟩) hP).trans c3
        have e_o := (hb1.cell (p := ⟨ob, d.rd, none⟩) hol).trans e_o
        have e_r := (hb1.cell (p := ⟨rb, d.fr q, none⟩) hrl).trans e_r
        have hol1 : ob < w1.heap.size := Nat.lt_of_lt_of_le hol hb1.size
        have hrl1 : rb < w1.heap.size := Nat.lt_of_lt_of_le hrl hb1.size
        go_wp2_with fail
        refine rg22_10 (w0 := w1) (B := w1.heap.size) (n := w1.heap.size) (L := []) (E := fun _ => True) (F := fun _ => True) (by kernel_rfl) (by kernel_rfl) ⟨by go_grown, by go_size, (by simp [go_sem] <;> omega)⟩ trivial (fun _ _ _ _ => trivial) trivial (fun _ _ _ _ => trivial) (fun w20 K_w20 E_w20 F_w20 => ?_)
        have _ne : Nonempty (KX (w1.heap.size) w1 (w1.heap.size) [] (fun _ => True)) := ⟨⟨_, K_w20, E_w20⟩⟩
        repeat (go_big_quiet_step (fail))
        refine wpQuiet_nil ?_
        have rx0 : ∀ s : KX (w1.heap.size) w1 (w1.heap.size) [] (fun _ => True), s.val.cell? ⟨P, 0, none⟩ = some (.slice (some ⟨ob, 0, none⟩) d.rs.length so.c) := fun s => (s.kept.below.cell (p := ⟨P, 0, none⟩) hP1).trans c0
        have rx1 : ∀ s : KX (w1.heap.size) w1 (w1.heap.size) [] (fun _ => True), s.val.cell? ⟨P, 3, none⟩ = some (.int .i64 d.rd) := fun s => (s.kept.below.cell (p := ⟨P, 3, none⟩) hP1).trans c3
        have rx2 : ∀ s : KX (w1.heap.size) w1 (w1.heap.size) [] (fun _ => True), s.val.cell? ⟨ob, d.rd, none⟩ = some (.slice (some ⟨rb, 0, none⟩) d.n rc) := fun s => (s.kept.below.cell (p := ⟨ob, d.rd, none⟩) hol1).trans e_o
        have rx3 : ∀ s : KX (w1.heap.size) w1 (w1.heap.size) [] (fun _ => True), s.val.cell? ⟨rb, d.fr q, none⟩ = some (.slice (some ⟨pb, 0, none⟩) (k + m + 1) pc) := fun s => (s.kept.below.cell (p := ⟨rb, d.fr q, none⟩) hrl1).trans e_r
        repeat (go_big_quiet_step (fail))
        refine wpQuiet_nil ?_
        clear rx0 rx1 rx2 rx3
        repeat (go_big_quiet_step (fail))
        refine wpQuiet_nil ?_
        have rx0 : ∀ s : KX (w1.heap.size) w1 (w1.heap.size) [] (fun _ => True), s.val.cell? ⟨P, 0, none⟩ = some (.slice (some ⟨ob, 0, none⟩) d.rs.length so.c) := fun s => (s.kept.below.cell (p := ⟨P, 0, none⟩) hP1).trans c0
        have rx1 : ∀ s : KX (w1.heap.size) w1 (w1.heap.size) [] (fun _ => True), s.val.cell? ⟨P, 3, none⟩ = some (.int .i64 d.rd) := fun s => (s.kept.below.cell (p := ⟨P, 3, none⟩) hP1).trans c3
        have rx2 : ∀ s : KX (w1.heap.size) w1 (w1.heap.size) [] (fun _ => True), s.val.cell? ⟨ob, d.rd, none⟩ = some (.slice (some ⟨rb, 0, none⟩) d.n rc) := fun s => (s.kept.below.cell (p := ⟨ob, d.rd, none⟩) hol1).trans e_o
        have rx3 : ∀ s : KX (w1.heap.size) w1 (w1.heap.size) [] (fun _ => True), s.val.cell? ⟨rb, d.fr q, none⟩ = some (.slice (some ⟨pb, 0, none⟩) (k + m + 1) pc) := fun s => (s.kept.below.cell (p := ⟨rb, d.fr q, none⟩) hrl1).trans e_r
        repeat (go_big_quiet_step (fail))
        refine wpQuiet_nil ?_
        clear rx0 rx1 rx2 rx3
        repeat (go_big_quiet_step (fail))
        refine wpQuiet_nil ?_
        have rx0 : ∀ s : KX (w1.heap.size) w1 (w1.heap.size) [] (fun _ => True), s.val.cell? ⟨P, 0, none⟩ = some (.slice (some ⟨ob, 0, none⟩) d.rs.length so.c) := fun s => (s.kept.below.cell (p := ⟨P, 0, none⟩) hP1).trans c0
        have rx1 : ∀ s : KX (w1.heap.size) w1 (w1.heap.size) [] (fun _ => True), s.val.cell? ⟨P, 3, none⟩ = some (.int .i64 d.rd) := fun s => (s.kept.below.cell (p := ⟨P, 3, none⟩) hP1).trans c3
        have rx2 : ∀ s : KX (w1.heap.size) w1 (w1.heap.size) [] (fun _ => True), s.val.cell? ⟨ob, d.rd, none⟩ = some (.slice (some ⟨rb, 0, none⟩) d.n rc) := fun s => (s.kept.below.cell (p := ⟨ob, d.rd, none⟩) hol1).trans e_o
        have rx3 : ∀ s : KX (w1.heap.size) w1 (w1.heap.size) [] (fun _ => True), s.val.cell? ⟨rb, d.fr q, none⟩ = some (.slice (some ⟨pb, 0, none⟩) (k + m + 1) pc) := fun s => (s.kept.below.cell (p := ⟨rb, d.fr q, none⟩) hrl1).trans e_r
        repeat (go_big_quiet_step (fail))
        refine wpQuiet_nil ?_
        clear rx0 rx1 rx2 rx3
        repeat (go_big_quiet_step (fail))
        refine wpQuiet_nil ?_
        clear _ne
        have KH_w20 := Lib.hid K_w20
        have hw_w20 := K_w20.below
        have hz_w20 := K_w20.size
        clear K_w20
        clear E_w20 F_w20
        have hB20 := below_via hb1 hw_w20
        have HB20 := Lib.hid hB20
        have HD20 := Lib.hid (HD.out.below hB20)
        have c0 := (hw_w20.cell (p := ⟨P, 0, none⟩) hP1).trans c0
        have c3 := (hw_w20.cell (p := ⟨P, 3, none⟩) hP1).trans c3
        have e_o := (hw_w20.cell (p := ⟨ob, d.rd, none⟩) hol1).trans e_o
        have e_r := (hw_w20.cell (p := ⟨rb, d.fr q, none⟩) hrl1).trans e_r
        have hP20 : P < w20.heap.size := Nat.lt_of_lt_of_le hP1 hw_w20.size
        have hol20 : ob < w20.heap.size := Nat.lt_of_lt_of_le hol1 hw_w20.size
        have hrl20 : rb < w20.heap.size := Nat.lt_of_lt_of_le hrl1 hw_w20.size
        have HROW20 := Lib.hid (HROW.out.below hB20)
        have hra : w20.heap.size ≥ w1.heap.size := hw_w20.size
        have HRT20 : Hid (Ty w20 (some rb) 32) := Lib.hid ((HD20.out.rows.row _ _ _ HRV.out HVR.out).ty rfl)
        have ecard : w20.cell? ⟨pb, k, none⟩ = Option.some (.int .i64 card) := by
          have h := HROW20.out
          exact Ow.cell1 ic1 h HCARD.out
        clear hw_w20 KH_w20 hb1 hP1 hol1 hrl1 hml1 hz1 hB20 hmc c2
        go_upto_region 14 with fail
        refine rg22_14 (w0 := w20) (B := 0) (n := w20.heap.size) (L := []) (E := fun W => Onl [pb] w20 W) (F := fun W => Below w20.heap.size w20 W) (by kernel_rfl) (by kernel_rfl) ⟨by go_grown, by go_size, (by simp [go_sem] <;> omega)⟩ (Onl.refl _ _) (fun _ _ h hb => h.grow hb) (Below.refl _ _) (fun _ _ h hb => h.trans (hb.mono h.size)) (fun w25 K_w25 E_w25 F_w25 => ?_)
        have _ne : Nonempty (KX (0) w20 (w20.heap.size) [] (fun W => Onl [pb] w20 W)) := ⟨⟨_, K_w25, E_w25⟩⟩
        repeat (go_big_quiet_step (fail))
        refine wpQuiet_nil ?_
        have rx0 : ∀ s : KX (0) w20 (w20.heap.size) [] (fun W => Onl [pb] w20 W), s.val.cell? ⟨P, 0, none⟩ = some (.slice (some ⟨ob, 0, none⟩) d.rs.length so.c) := fun s => (s.ex.cell hP20 HPP.out).trans c0
        have rx1 : ∀ s : KX (0) w20 (w20.heap.size) [] (fun W => Onl [pb] w20 W), s.val.cell? ⟨P, 3, none⟩ = some (.int .i64 d.rd) := fun s => (s.ex.cell hP20 HPP.out).trans c3
        have rx2 : ∀ s : KX (0) w20 (w20.heap.size) [] (fun W => Onl [pb] w20 W), s.val.cell? ⟨ob, d.rd, none⟩ = some (.slice (some ⟨rb, 0, none⟩) d.n rc) := fun s => (s.ex.cell hol20 HOP.out).trans e_o
        repeat (go_big_quiet_step (fail))
        refine wpQuiet_nil ?_
        clear rx0 rx1 rx2
        repeat (go_big_quiet_step (fail))
        refine wpQuiet_nil ?_
        have rx0 : ∀ s : KX (0) w20 (w20.heap.size) [] (fun W => Onl [pb] w20 W), s.val.cell? ⟨P, 0, none⟩ = some (.slice (some ⟨ob, 0, none⟩) d.rs.length so.c) := fun s => (s.ex.cell hP20 HPP.out).trans c0
        have rx1 : ∀ s : KX (0) w20 (w20.heap.size) [] (fun W => Onl [pb] w20 W), s.val.cell? ⟨P, 3, none⟩ = some (.int .i64 d.rd) := fun s => (s.ex.cell hP20 HPP.out).trans c3
        have rx2 : ∀ s : KX (0) w20 (w20.heap.size) [] (fun W => Onl [pb] w20 W), s.val.cell? ⟨ob, d.rd, none⟩ = some (.slice (some ⟨rb, 0, none⟩) d.n rc) := fun s => (s.ex.cell hol20 HOP.out).trans e_o
        repeat (go_big_quiet_step (fail))
        refine wpQuiet_nil ?_
        clear rx0 rx1 rx2
        have KH_w25 := Lib.hid K_w25
        have hw_w25 := K_w25.below
        have hz_w25 := K_w25.size
        clear K_w25
        have HEO := Lib.hid E_w25
        have HFB := Lib.hid (F_w25)
        clear E_w25 F_w25
        refine ⟨fun K hK0 => ?_, trivial⟩
        have hK := Lib.hid hK0
        clear hK0
        go_wp2_with fail
        with_reducible refine (delete35 pb pc k m l _ (HROW20.out.below HFB.out) HLM.out (by have := HLL.out; omega)).mono ?_
        rintro e w30 ⟨rfl, hdel, hon⟩
        have HDL := Lib.hid hdel
        have HON := Lib.hid (HEO.out.trans hon)
        have hcr : w30.cell? ⟨rb, d.fr q, none⟩ = Option.some (.slice (some ⟨pb, 0, none⟩) (k + m + 1) pc) := (HON.out.cell hrl20 HRP.out).trans e_r
        have hfr : w30.frozen? ⟨rb, d.fr q, none⟩ = false := (HON.out.frozen hrl20 HRP.out).trans (ty_frozen HRT20.out _)
        have KH_w30 := Lib.hid (KH_w25.out.onl hon (Nat.zero_le _) (fun _ _ => Nat.zero_le _) (by simp))
        clear hdel hon
        go_wp2_with fail
        first | (refine ⟨rfl, ⟨⟨_, KH_w30.out, HON.out⟩, rfl⟩, hK.out _ _ ?_⟩; clear hK K) | (refine ⟨⟨⟨_, KH_w30.out, HON.out⟩, rfl⟩, hK.out _ _ ?_⟩; clear hK K)
        repeat (go_big_quiet_step (fail))
        refine wpQuiet_nil ?_
        refine ⟨fun K hK0 => ?_, trivial⟩
        have hK := Lib.hid hK0
        clear hK0
        go_wp2_with fail
        first | (refine ⟨rfl, hK.out _ _ ?_⟩; clear hK K) | (refine hK.out _ _ ?_; clear hK K)
        clear _ne
        go_upto_region 15 with fail
        have hput := HD20.out.putc (S' := S) (d' := ⟨set2 d.rs d.rd (d.fr q) (l.eraseIdx k), d.tk, d.mv, d.rd, d.tn⟩) (s' := ⟨some ⟨pb, 0, none⟩, k + m, pc⟩) HPV.out HRV.out HON.out HTP.out HDL.out (fun b hb => .inl hb) (fun b hb => hb) (fun b hb => HD20.out.ini _ _ _ b HPV.out hb) (fun b hb => .inl hb) HS1.out rfl rfl rfl
        obtain ⟨w31, hw31⟩ : ∃ W, W = w30.setCell ⟨rb, d.fr q, none⟩ (.slice (some ⟨pb, 0, none⟩) (k + m) pc) := ⟨_, rfl⟩
        rw [show (w30.setCell ⟨rb, d.fr q, none⟩ (Sl.v ⟨some ⟨pb, 0, none⟩, k + m, pc⟩)) = w31 from hw31.symm] at hput
        rw [← hw31]
        obtain ⟨vss1, hv1⟩ : ∃ v, set2 vss d.rd (d.fr q) ⟨some ⟨pb, 0, none⟩, k + m, pc⟩ = v := ⟨_, rfl⟩
        rw [hv1] at hput
        have HD31 := Lib.hid hput.1
        have HO31 := Lib.hid ((Onl.of HB20.out : Onl S w w20).trans hput.2)
        clear hput hw31 hv1 HD20 HON HDL HEO HFB hcr hfr c0 c3 c4 c1 e_o e_r ecard HB20 HROW20 HRT20 hP20 hol20 hrl20
        obtain ⟨c0, c1, c2, c3, c4⟩ := HD31.out.cells
        have hP31 := HD31.out.lt
        change w31.cell? ⟨P, 1, none⟩ = Option.some (.slice st.a d.n st.c) at c1
        obtain ⟨tb, ta, tc, htk⟩ := HD31.out.tkc HTKL.out
        rw [htk.ta] at c1
        have e_t := htk.tcell
        have htl := htk.tl
        have HTROW := Lib.hid htk.row
        have hpv := htk.pv
        change at2 vss1 (set2 d.rs d.rd (d.fr q) (l.eraseIdx k)).length q = _ at hpv
        rw [set2_length] at hpv
        have HTPV := Lib.hid hpv
        have HTA := Lib.hid htk.ta
        have HTTY : Hid (Ty w31 (some tb) 32) := Lib.hid (by
          obtain ⟨tvs, _, _, h3⟩ := HD31.out.tval
          exact h3.ty htk.tb)
        have HPT : Hid (P ∉ obl (.slice ta tl.length tc)) := Lib.hid (fun hm => ty_ne HD31.out.tyP (HTROW.out.oblT _ hm) (by decide) rfl)
        have HTBT : Hid (tb ∉ obl (.slice ta tl.length tc)) := Lib.hid (fun hm => ty_ne HTTY.out (HTROW.out.oblT _ hm) (by decide) rfl)
        clear htk c0 c2 c3 c4 hpv
        refine rg22_15 (w0 := w31) (B := 0) (n := w31.heap.size) (L := []) (E := fun W => Onl (obl (.slice ta tl.length tc)) w31 W) (F := fun W => Below w31.heap.size w31 W) (by kernel_rfl) (by kernel_rfl) ⟨by go_grown, by go_size, (by simp [go_sem] <;> omega)⟩ (Onl.refl _ _) (fun _ _ h hb => h.grow hb) (Below.refl _ _) (fun _ _ h hb => h.trans (hb.mono h.size)) (fun w35 K_w35 E_w35 F_w35 => ?_)
        have _ne : Nonempty (KX (0) w31 (w31.heap.size) [] (fun W => Onl (obl (.slice ta tl.length tc)) w31 W)) := ⟨⟨_, K_w35, E_w35⟩⟩
        repeat (go_big_quiet_step (fail))
        refine wpQuiet_nil ?_
        have rx0 : ∀ s : KX (0) w31 (w31.heap.size) [] (fun W => Onl (obl (.slice ta tl.length tc)) w31 W), s.val.cell? ⟨P, 1, none⟩ = some (.slice (some ⟨tb, 0, none⟩) d.n st.c) := fun s => (s.ex.cell hP31 HPT.out).trans c1
        have rx1 : ∀ s : KX (0) w31 (w31.heap.size) [] (fun W => Onl (obl (.slice ta tl.length tc)) w31 W), s.val.cell? ⟨tb, q, none⟩ = some (.slice ta tl.length tc) := fun s => (s.ex.cell htl HTBT.out).trans e_t
        repeat (go_big_quiet_step (fail))
        refine wpQuiet_nil ?_
        clear rx0 rx1
        repeat (go_big_quiet_step (fail))
        refine wpQuiet_nil ?_
        have rx0 : ∀ s : KX (0) w31 (w31.heap.size) [] (fun W => Onl (obl (.slice ta tl.length tc)) w31 W), s.val.cell? ⟨P, 1, none⟩ = some (.slice (some ⟨tb, 0, none⟩) d.n st.c) := fun s => (s.ex.cell hP31 HPT.out).trans c1
        have rx1 : ∀ s : KX (0) w31 (w31.heap.size) [] (fun W => Onl (obl (.slice ta tl.length tc)) w31 W), s.val.cell? ⟨tb, q, none⟩ = some (.slice ta tl.length tc) := fun s => (s.ex.cell htl HTBT.out).trans e_t
        repeat (go_big_quiet_step (fail))
        refine wpQuiet_nil ?_
        clear rx0 rx1
        have KH_w35 := Lib.hid K_w35
        have hw_w35 := K_w35.below
        have hz_w35 := K_w35.size
        clear K_w35
        have HEO := Lib.hid E_w35
        have HFB := Lib.hid (F_w35)
        clear E_w35 F_w35
        refine ⟨fun K hK0 => ?_, trivial⟩
        have hK := Lib.hid hK0
        clear hK0
        go_wp2_with fail
        first | (refine ⟨rfl, ⟨⟨_, KH_w35.out.step (by omega) ((Below.refl _ _).alloc (Nat.le_refl _) _), HEO.out.grow ((Below.refl _ _).alloc (Nat.le_refl _) _)⟩, rfl⟩, hK.out _ _ ?_⟩; clear hK K) | (refine ⟨⟨⟨_, KH_w35.out.step (by omega) ((Below.refl _ _).alloc (Nat.le_refl _) _), HEO.out.grow ((Below.refl _ _).alloc (Nat.le_refl _) _)⟩, rfl⟩, hK.out _ _ ?_⟩; clear hK K)
        refine ⟨fun K hK0 => ?_, trivial⟩
        have hK := Lib.hid hK0
        clear hK0
        have hbal : Below w35.heap.size w35 (w35.alloc (.cells #[.int .i64 card] 3)) := (Below.refl _ _).alloc (Nat.le_refl _) _
        have KHa := Lib.hid (KH_w35.out.step (by omega) hbal)
        have HEA := Lib.hid (HEO.out.grow hbal)
        have hzW := HEO.out.size
        go_wp2_with (at_builtin; refine wpList_append_ow (f := ic) (sz := 1) rfl _ _ 32 rfl 0 3 (.int .i64 0) 8 Try.underlying32 info3 rfl (by decide) _ tl rfl ((HTROW.out.below HFB.out).below hbal) ic_ok _ [card] rfl (Rw.one2 _ _ card _ rfl _ _ (by simp)) ?ca ?cb (Nat.zero_le _) ?_)
        case ca => have q1 := HTLL.out; simp [maxLen]; omega
        case cb => have q1 := HTLL.out; simp; omega
        intro v' w40 hown hgrow hwh
        have hO40 : Onl (obl (.slice ta tl.length tc)) w31 w40 := HEA.out.grown hgrow (fun k hk => .inl (mem_obl.2 hk))
        have HW40 : Hid (∀ b, v'.ownBlock = Option.some b → (Value.slice ta tl.length tc).ownBlock = Option.some b ∨ w31.heap.size ≤ b) := Lib.hid (fun b hb => by
          rcases hwh with h | h
          · exact .inl (h ▸ hb)
          · right
            rw [h] at hb
            have := HEA.out.size
            simp at hb
            rw [← hb]
            simpa using this)
        have hct : w40.cell? ⟨tb, q, none⟩ = Option.some (.slice ta tl.length tc) := (hO40.cell htl HTBT.out).trans e_t
        have hft : w40.frozen? ⟨tb, q, none⟩ = false := (hO40.frozen htl HTBT.out).trans (ty_frozen HTTY.out _)
        have KH40 := Lib.hid (KHa.out.onl (S := (obl (.slice ta tl.length tc))) ((Onl.refl _ _).grown hgrow (fun k hk => .inl (mem_obl.2 hk))) (Nat.zero_le _) (fun _ _ => Nat.zero_le _) (by simp))
        obtain ⟨a', c', hv'⟩ := hown.form
        obtain ⟨n', hn'⟩ : ∃ n, (tl ++ [card]).length = n := ⟨_, rfl⟩
        rw [hn'] at hv'
        subst hv'
        have HOW40 := Lib.hid hown
        have HO40 := Lib.hid hO40
        clear hown hgrow hwh hO40 hbal hn' KHa HEA hzW
        go_wp2_with fail
        first | (refine ⟨rfl, ⟨⟨_, KH40.out, HO40.out⟩, rfl⟩, hK.out _ _ ?_⟩; clear hK K) | (refine ⟨⟨⟨_, KH40.out, HO40.out⟩, rfl⟩, hK.out _ _ ?_⟩; clear hK K)
        repeat (go_big_quiet_step (fail))
        refine wpQuiet_nil ?_
        refine ⟨fun K hK0 => ?_, trivial⟩
        have hK := Lib.hid hK0
        clear hK0
        go_wp2_with fail
        first | (refine ⟨rfl, hK.out _ _ ?_⟩; clear hK K) | (refine hK.out _ _ ?_; clear hK K)
        clear _ne
        go_upto_region 16 with fail
        have hput := HD31.out.putc (i := d.rs.length) (S' := S ++ obl (.slice a' n' c')) (d' := ⟨set2 d.rs d.rd (d.fr q) (l.eraseIdx k), d.tk.set q (tl ++ [card]), d.mv, d.rd, d.tn⟩) (s' := ⟨a', n', c'⟩) HTPV.out (by have h := HRT31.out; rw [HTA.out] at h; exact h) HO40.out (fun b hb => mem_obl.1 hb) HOW40.out HW40.out (fun b hb => List.mem_append_left _ hb) (fun b hb => List.mem_append_right _ (mem_obl.2 hb)) (fun b hb => by
          rcases List.mem_append.1 hb with h | h
          · exact .inl h
          · rcases HW40.out b (mem_obl.1 h) with h2 | h2
            · exact .inl (HD31.out.ini _ _ _ b HTPV.out h2)
            · exact .inr ⟨h2, (HOW40.out.typ b (mem_obl.1 h)).2.1⟩) HS2.out rfl rfl rfl
        obtain ⟨w41, hw41⟩ : ∃ W, W = w40.setCell ⟨tb, q, none⟩ (.slice a' n' c') := ⟨_, rfl⟩
        rw [show (w40.setCell ⟨tb, q, none⟩ (Sl.v ⟨a', n', c'⟩)) = w41 from hw41.symm] at hput
        rw [← hw41]
        obtain ⟨vss2, hv2⟩ : ∃ v, set2 vss1 d.rs.length q ⟨a', n', c'⟩ = v := ⟨_, rfl⟩
        obtain ⟨S2, hS2⟩ : ∃ s, S ++ obl (.slice a' n' c') = s := ⟨_, rfl⟩
        rw [hv2, hS2] at hput
        have HD41 := Lib.hid hput.1
        have HSS : Hid (∀ b ∈ S, b ∈ S2) := Lib.hid (by rw [← hS2]; exact fun b hb => List.mem_append_left _ hb)
        have HO41 := Lib.hid (HO31.out.trans hput.2)
        have HSN : Hid (∀ b ∈ S2, b ∈ S ∨ w.heap.size ≤ b) := Lib.hid (by
          rw [← hS2]
          intro b hb
          rcases List.mem_append.1 hb with h | h
          · exact .inl h
          · rcases HW40.out b (mem_obl.1 h) with h2 | h2
            · exact .inl (HD31.out.ini _ _ _ b HTPV.out h2)
            · exact .inr (Nat.le_trans HO31.out.size h2))
        clear hput hw41 hv2 hS2 hct hft HEO HFB HOW40 HW40 HO40 HD31 HTROW HTPV HTTY HTBT c1 e_t htl hP31
        obtain ⟨c0, c1, c2, c3, c4⟩ := HD41.out.cells
        have hP41 := HD41.out.lt
        change w41.cell? ⟨P, 2, none⟩ = Option.some (.slice sm.a d.mv.length sm.c) at c2
        obtain ⟨mb2, hma2, hml2, hmc2, hmb2, _⟩ := HD41.out.mvc (p := q) HQM.out
        obtain rfl : mb = mb2 := by rw [HMA.out] at hma2; simpa using hma2
        change w41.cell? ⟨mb, q, none⟩ = Option.some (.bool (d.mvd q)) at hmc2
        rw [HMA.out, HMVL.out] at c2
        rw [HMVQ.out] at hmc2
        have hfm : w41.frozen? ⟨mb, q, none⟩ = false := ty_frozen (HD41.out.mov.ty hmb2) _
        have HMB := Lib.hid hmb2
        clear c0 c1 c3 c4 hma2 hmb2
        go_upto_region 17 with fail
        have hput := HD41.out.putm (w2 := w41.setCell ⟨mb, q, none⟩ (.bool true)) (d' := d.put q k) HMB.out ((Onl.refl _ _).setCell (.inl (by simp)) _) (by
          have h := HD41.out.mov
          have h2 := oe_slice h
          rw [h2] at h ⊢
          rw [HMA.out] at h ⊢
          exact Ow.set1 h (fun _ => rfl) rfl q true (.bool true) rfl) HPUT1.out HPUT2.out rfl rfl
        obtain ⟨w42, hw42⟩ : ∃ W, W = w41.setCell ⟨mb, q, none⟩ (.bool true) := ⟨_, rfl⟩
        rw [← hw42] at hput ⊢
        have HD42 := Lib.hid hput.1
        have HO42 := Lib.hid (onl_less HO41.out hput.2 HSN.out)
        clear hput hw42 hmc2 hml2 hfm c2 hP41
        obtain ⟨x, hx⟩ : ∃ x, d.put q k = x := ⟨_, rfl⟩
        have HX := Lib.hid hx
        rw [hx] at HD42
        obtain ⟨c0, c1, c2, c3, c4⟩ := HD42.out.cells
        have hP42 := HD42.out.lt
        have HMX : Hid (x.Mid c) := Lib.hid (by rw [← hx]; exact HMID.out)
        rw [HMX.out.mv] at c2
        have hxn := HXN.out
        rw [hx] at hxn
        rw [hxn, HMA.out] at c2
        clear hx
        have HXN' := Lib.hid hxn
        have HMVR' : Hid (Rw bc 1 w42 (.slice (some ⟨mb, 0, none⟩) d.n sm.c) x.mv) := Lib.hid (by
          have h := HD42.out.mov.rw bc_len
          rw [oe_slice HD42.out.mov, HMA.out, HMX.out.mv, hxn] at h
          exact h)
        clear hxn
        cases hfull : x.full
        · have HCT : Hid ((x.mv.any fun z => !z) = true) := Lib.hid (by rw [any_not]; unfold Dr.full at hfull; simpa using hfull)
          have HFX : Hid (x.fin = x) := Lib.hid (by unfold Dr.fin; rw [hfull]; rfl)
          clear hfull
          go_wp2_with fail
          with_reducible refine (contains36c _ x.mv true _ HMVR'.out HCT.out).mono ?_
          rintro e w43 ⟨rfl, hb43⟩
          go_wp2_with fail
          go_returns
          rw [E0.out, GOT.out, STP.out, HX.out, HFX.out]
          exact ⟨S2, rfl, ⟨so, st, sm, rvs, vss2, HD42.out.below hb43⟩, HSN.out, HSS.out, HO42.out.grow hb43⟩
        · have HCT : Hid ((x.mv.any fun z => !z) = false) := Lib.hid (by rw [any_not]; unfold Dr.full at hfull; simpa using hfull)
          have HFL := Lib.hid hfull
          clear hfull
          go_wp2_with fail
          with_reducible refine (contains36c _ x.mv false _ HMVR'.out HCT.out).mono ?_
          rintro e w43 ⟨rfl, hb43⟩
          have HD43 := Lib.hid (HD42.out.below hb43)
          have HO43 := Lib.hid (HO42.out.grow hb43)
          have c2 := (hb43.cell (p := ⟨P, 2, none⟩) hP42).trans c2
          have hP43 : P < w43.heap.size := Nat.lt_of_lt_of_le hP42 hb43.size
          have HMO := Lib.hid HD43.out.mov
          have HMT := Lib.hid (HD43.out.mov.ty HMB.out)
          have hcl : ∀ ty, (Builtin.clear_ #[37] ty #[.slice (some ⟨mb, 0, none⟩) d.n sm.c]).run Try.prog w43 = .ok (.tuple #[]) (w43.setCells mb 0 (List.replicate d.n (.bool false))) := fun ty => Lib.run_clear_slice w43 37 4 ty (.bool false) Try.underlying37 zero4 rfl rfl mb 0 d.n sm.c (by omega) (fun j hj => by
            have hj2 : j < x.mv.length := by rw [HMX.out.mv, HXN'.out]; exact hj
            obtain ⟨g, hg, _, _, _, _, hc, _⟩ := HMO.out.cell1 bc1 (List.getElem?_eq_getElem hj2)
            rw [HMA.out] at hg
            simp at hg
            subst hg
            rw [Nat.zero_add, hc]
            rfl) (fun j hj => ty_frozen HMT.out _)
          clear hb43 c0 c1 c3 c4 hP42 HD42 HO42
          go_upto_region 19 with fail
          have hput := HD43.out.putm (w2 := w43.setCells mb 0 (List.replicate d.n (.bool false))) (d' := ⟨x.rs, x.tk, List.replicate x.mv.length false, x.rd, x.tn⟩) HMB.out (Onl.setCells _ _ _ (Onl.refl _ _) (.inl (by simp))) (by
            have h := HMO.out
            have h2 := oe_slice h
            rw [h2, HMA.out] at h
            rw [h2, HMA.out]
            have h3 : x.mv.length = d.n := by rw [HMX.out.mv, HXN'.out]
            have h4 := Ow.cleared h
            rw [h3] at h4 ⊢
            exact h4) rfl rfl rfl rfl
          obtain ⟨w44, hw44⟩ : ∃ W, W = w43.setCells mb 0 (List.replicate d.n (.bool false)) := ⟨_, rfl⟩
          rw [← hw44] at hput ⊢
          have HD44 := Lib.hid hput.1
          have HO44 := Lib.hid (onl_less HO43.out hput.2 HSN.out)
          clear hput hw44 hcl HMO HMT HD43 HO43 c2 hP43
          obtain ⟨c0, c1, c2, c3, c4⟩ := HD44.out.cells
          have hP44 := HD44.out.lt
          have f4 : w44.frozen? ⟨P, 4, none⟩ = false := HD44.out.free 4
          change w44.cell? ⟨P, 4, none⟩ = Option.some (.int .i64 x.tn) at c4
          clear c0 c1 c2 c3
          have htn := HMX.out.tn
          have hc15 := HMX.out.c15
          go_upto_region 20 with fail
          have hput := HD44.out.putp (w2 := w44.setCell ⟨P, 4, none⟩ (.int .i64 ((x.tn : Int) + 1))) (d' := ⟨x.rs, x.tk, List.replicate x.mv.length false, x.rd, x.tn + 1⟩) ((Onl.refl _ _).setCell (.inl (by simp)) _) (by
            rw [heap_setCell_same w44 P 4 _ 56 _ HD44.out.hp]
            rfl) rfl rfl rfl
          obtain ⟨w45, hw45⟩ : ∃ W, W = w44.setCell ⟨P, 4, none⟩ (.int .i64 ((x.tn : Int) + 1)) := ⟨_, rfl⟩
          rw [← hw45] at hput ⊢
          have HD45 := Lib.hid hput.1
          have HO45 := Lib.hid (onl_less HO44.out hput.2 HSN.out)
          clear hput hw45 HD44 HO44 c4 hP44 f4
          obtain ⟨c0, c1, c2, c3, c4⟩ := HD45.out.cells
          have hP45 := HD45.out.lt
          change w45.cell? ⟨P, 0, none⟩ = Option.some (.slice so.a x.rs.length so.c) at c0
          change w45.cell? ⟨P, 3, none⟩ = Option.some (.int .i64 x.rd) at c3
          clear c1 c2 c4
          obtain ⟨l0, hl0⟩ : ∃ l0, at2 x.rs x.rd 0 = some l0 := mid_row0 HMX.out
          obtain ⟨ob3, rb3, rc3, pa3, pc3, hk⟩ := HD45.out.pk HMX.out.row hl0
          rw [hk.oa] at c0
          have hol45 := hk.ol
          have e_o := hk.oc
          change w45.cell? ⟨ob3, x.rd, none⟩ = Option.some (.slice (some ⟨rb3, 0, none⟩) x.n rc3) at e_o
          have hrl45 := hk.rl
          have e_r := hk.rcell
          have hl0m := hk.row.rw ic_len |>.max
          unfold maxLen at hl0m
          have HL0 := Lib.hid hl0
          have j1 : (x.rd : Int) < (x.rs.length : Int) := by have := HMX.out.rd; omega
          have j2 : (0 : Int) < (x.n : Int) := by have := HMX.out.n2; omega
          have j3 : (0 : Int) ≤ (x.rd : Int) := by omega
          have j4 : x.rs.length ≤ 4 := HMX.out.r4
          clear hk hl0
          by_cases hz : l0.length = 0
          · have qz : ((l0.length : Int) == 0) = true := by simp [hz]
            have HFX : Hid (x.fin = ⟨x.rs, x.tk, List.replicate x.mv.length false, x.rd + 1, 0⟩) := Lib.hid (by unfold Dr.fin; rw [if_pos HFL.out, HL0.out, if_pos (by simpa using hz)])
            clear hz
            refine rg22_20 (w0 := w45) (B := w45.heap.size) (n := w45.heap.size) (L := []) (E := fun _ => True) (F := fun _ => True) (by kernel_rfl) (by kernel_rfl) ⟨by go_grown, by go_size, (by simp [go_sem] <;> omega)⟩ trivial (fun _ _ _ _ => trivial) trivial (fun _ _ _ _ => trivial) (fun w50 K_w50 E_w50 F_w50 => ?_)
            have _ne : Nonempty (KX (w45.heap.size) w45 (w45.heap.size) [] (fun _ => True)) := ⟨⟨_, K_w50, E_w50⟩⟩
            repeat (go_big_quiet_step (fail))
            refine wpQuiet_nil ?_
            have rx0 : ∀ s : KX (w45.heap.size) w45 (w45.heap.size) [] (fun _ => True), s.val.cell? ⟨P, 0, none⟩ = some (.slice (some ⟨ob3, 0, none⟩) x.rs.length so.c) := fun s => (s.kept.below.cell (p := ⟨P, 0, none⟩) hP45).trans c0
            have rx1 : ∀ s : KX (w45.heap.size) w45 (w45.heap.size) [] (fun _ => True), s.val.cell? ⟨P, 3, none⟩ = some (.int .i64 x.rd) := fun s => (s.kept.below.cell (p := ⟨P, 3, none⟩) hP45).trans c3
            have rx2 : ∀ s : KX (w45.heap.size) w45 (w45.heap.size) [] (fun _ => True), s.val.cell? ⟨ob3, x.rd, none⟩ = some (.slice (some ⟨rb3, 0, none⟩) x.n rc3) := fun s => (s.kept.below.cell (p := ⟨ob3, x.rd, none⟩) hol45).trans e_o
            have rx3 : ∀ s : KX (w45.heap.size) w45 (w45.heap.size) [] (fun _ => True), s.val.cell? ⟨rb3, 0, none⟩ = some (.slice pa3 l0.length pc3) := fun s => (s.kept.below.cell (p := ⟨rb3, 0, none⟩) hrl45).trans e_r
            repeat (go_big_quiet_step (fail))
            refine wpQuiet_nil ?_
            clear rx0 rx1 rx2 rx3
            repeat (go_big_quiet_step (fail))
            refine wpQuiet_nil ?_
            have rx0 : ∀ s : KX (w45.heap.size) w45 (w45.heap.size) [] (fun _ => True), s.val.cell? ⟨P, 0, none⟩ = some (.slice (some ⟨ob3, 0, none⟩) x.rs.length so.c) := fun s => (s.kept.below.cell (p := ⟨P, 0, none⟩) hP45).trans c0
            have rx1 : ∀ s : KX (w45.heap.size) w45 (w45.heap.size) [] (fun _ => True), s.val.cell? ⟨P, 3, none⟩ = some (.int .i64 x.rd) := fun s => (s.kept.below.cell (p := ⟨P, 3, none⟩) hP45).trans c3
            have rx2 : ∀ s : KX (w45.heap.size) w45 (w45.heap.size) [] (fun _ => True), s.val.cell? ⟨ob3, x.rd, none⟩ = some (.slice (some ⟨rb3, 0, none⟩) x.n rc3) := fun s => (s.kept.below.cell (p := ⟨ob3, x.rd, none⟩) hol45).trans e_o
            have rx3 : ∀ s : KX (w45.heap.size) w45 (w45.heap.size) [] (fun _ => True), s.val.cell? ⟨rb3, 0, none⟩ = some (.slice pa3 l0.length pc3) := fun s => (s.kept.below.cell (p := ⟨rb3, 0, none⟩) hrl45).trans e_r
            repeat (go_big_quiet_step (fail))
            refine wpQuiet_nil ?_
            clear rx0 rx1 rx2 rx3
            repeat (go_big_quiet_step (fail))
            refine wpQuiet_nil ?_
            have rx0 : ∀ s : KX (w45.heap.size) w45 (w45.heap.size) [] (fun _ => True), s.val.cell? ⟨P, 0, none⟩ = some (.slice (some ⟨ob3, 0, none⟩) x.rs.length so.c) := fun s => (s.kept.below.cell (p := ⟨P, 0, none⟩) hP45).trans c0
            have rx1 : ∀ s : KX (w45.heap.size) w45 (w45.heap.size) [] (fun _ => True), s.val.cell? ⟨P, 3, none⟩ = some (.int .i64 x.rd) := fun s => (s.kept.below.cell (p := ⟨P, 3, none⟩) hP45).trans c3
            have rx2 : ∀ s : KX (w45.heap.size) w45 (w45.heap.size) [] (fun _ => True), s.val.cell? ⟨ob3, x.rd, none⟩ = some (.slice (some ⟨rb3, 0, none⟩) x.n rc3) := fun s => (s.kept.below.cell (p := ⟨ob3, x.rd, none⟩) hol45).trans e_o
            have rx3 : ∀ s : KX (w45.heap.size) w45 (w45.heap.size) [] (fun _ => True), s.val.cell? ⟨rb3, 0, none⟩ = some (.slice pa3 l0.length pc3) := fun s => (s.kept.below.cell (p := ⟨rb3, 0, none⟩) hrl45).trans e_r
            repeat (go_big_quiet_step (fail))
            refine wpQuiet_nil ?_
            clear rx0 rx1 rx2 rx3
            repeat (go_big_quiet_step (fail))
            refine wpQuiet_nil ?_
            clear _ne
            have KH_w50 := Lib.hid K_w50
            have hw_w50 := K_w50.below
            have hz_w50 := K_w50.size
            clear K_w50
            clear E_w50 F_w50
            have HD50 := Lib.hid (HD45.out.below hw_w50)
            have HO50 := Lib.hid (HO45.out.grow hw_w50)
            have c3 := (hw_w50.cell (p := ⟨P, 3, none⟩) hP45).trans c3
            have c4 : w50.cell? ⟨P, 4, none⟩ = Option.some (.int .i64 ((x.tn + 1 : Nat) : Int)) := HD50.out.cell 4
            have f3 : w50.frozen? ⟨P, 3, none⟩ = false := HD50.out.free 3
            have f4 : w50.frozen? ⟨P, 4, none⟩ = false := HD50.out.free 4
            have hP50 : P < w50.heap.size := HD50.out.lt
            clear hw_w50 KH_w50 HD45 HO45 c0 e_o e_r hol45 hrl45 hP45
            go_upto_region 22 with fail
            have hput := HD50.out.putp (w2 := (w50.setCell ⟨P, 3, none⟩ (.int .i64 ((x.rd : Int) + 1))).setCell ⟨P, 4, none⟩ (.int .i64 0)) (d' := ⟨x.rs, x.tk, List.replicate x.mv.length false, x.rd + 1, 0⟩) (((Onl.refl _ _).setCell (.inl (by simp)) _).setCell (.inl (by simp)) _) (by
              rw [heap_setCell_same _ P 4 _ 56 _ (heap_setCell_same w50 P 3 _ 56 _ HD50.out.hp)]
              rfl) rfl rfl rfl
            obtain ⟨w51, hw51⟩ : ∃ W, W = (w50.setCell ⟨P, 3, none⟩ (.int .i64 ((x.rd : Int) + 1))).setCell ⟨P, 4, none⟩ (.int .i64 0) := ⟨_, rfl⟩
            rw [← hw51] at hput ⊢
            have HD51 := Lib.hid hput.1
            have HO51 := Lib.hid (onl_less HO50.out hput.2 HSN.out)
            clear hput hw51
            go_wp2_with fail
            go_returns
            rw [E0.out, GOT.out, STP.out, HX.out, HFX.out]
            exact ⟨S2, rfl, ⟨so, st, sm, rvs, vss2, HD51.out⟩, HSN.out, HSS.out, HO51.out⟩
          · have qz : ((l0.length : Int) == 0) = false := by simpa using hz
            have HFX : Hid (x.fin = ⟨x.rs, x.tk, List.replicate x.mv.length false, x.rd, x.tn + 1⟩) := Lib.hid (by unfold Dr.fin; rw [if_pos HFL.out, HL0.out, if_neg (by simpa using hz)])
            clear hz
            refine rg22_20 (w0 := w45) (B := w45.heap.size) (n := w45.heap.size) (L := []) (E := fun _ => True) (F := fun _ => True) (by kernel_rfl) (by kernel_rfl) ⟨by go_grown, by go_size, (by simp [go_sem] <;> omega)⟩ trivial (fun _ _ _ _ => trivial) trivial (fun _ _ _ _ => trivial) (fun w50 K_w50 E_w50 F_w50 => ?_)
            have _ne : Nonempty (KX (w45.heap.size) w45 (w45.heap.size) [] (fun _ => True)) := ⟨⟨_, K_w50, E_w50⟩⟩
            repeat (go_big_quiet_step (fail))
            refine wpQuiet_nil ?_
            have rx0 : ∀ s : KX (w45.heap.size) w45 (w45.heap.size) [] (fun _ => True), s.val.cell? ⟨P, 0, none⟩ = some (.slice (some ⟨ob3, 0, none⟩) x.rs.length so.c) := fun s => (s.kept.below.cell (p := ⟨P, 0, none⟩) hP45).trans c0
            have rx1 : ∀ s : KX (w45.heap.size) w45 (w45.heap.size) [] (fun _ => True), s.val.cell? ⟨P, 3, none⟩ = some (.int .i64 x.rd) := fun s => (s.kept.below.cell (p := ⟨P, 3, none⟩) hP45).trans c3
            have rx2 : ∀ s : KX (w45.heap.size) w45 (w45.heap.size) [] (fun _ => True), s.val.cell? ⟨ob3, x.rd, none⟩ = some (.slice (some ⟨rb3, 0, none⟩) x.n rc3) := fun s => (s.kept.below.cell (p := ⟨ob3, x.rd, none⟩) hol45).trans e_o
            have rx3 : ∀ s : KX (w45.heap.size) w45 (w45.heap.size) [] (fun _ => True), s.val.cell? ⟨rb3, 0, none⟩ = some (.slice pa3 l0.length pc3) := fun s => (s.kept.below.cell (p := ⟨rb3, 0, none⟩) hrl45).trans e_r
            repeat (go_big_quiet_step (fail))
            refine wpQuiet_nil ?_
            clear rx0 rx1 rx2 rx3
            repeat (go_big_quiet_step (fail))
            refine wpQuiet_nil ?_
            have rx0 : ∀ s : KX (w45.heap.size) w45 (w45.heap.size) [] (fun _ => True), s.val.cell? ⟨P, 0, none⟩ = some (.slice (some ⟨ob3, 0, none⟩) x.rs.length so.c) := fun s => (s.kept.below.cell (p := ⟨P, 0, none⟩) hP45).trans c0
            have rx1 : ∀ s : KX (w45.heap.size) w45 (w45.heap.size) [] (fun _ => True), s.val.cell? ⟨P, 3, none⟩ = some (.int .i64 x.rd) := fun s => (s.kept.below.cell (p := ⟨P, 3, none⟩) hP45).trans c3
            have rx2 : ∀ s : KX (w45.heap.size) w45 (w45.heap.size) [] (fun _ => True), s.val.cell? ⟨ob3, x.rd, none⟩ = some (.slice (some ⟨rb3, 0, none⟩) x.n rc3) := fun s => (s.kept.below.cell (p := ⟨ob3, x.rd, none⟩) hol45).trans e_o
            have rx3 : ∀ s : KX (w45.heap.size) w45 (w45.heap.size) [] (fun _ => True), s.val.cell? ⟨rb3, 0, none⟩ = some (.slice pa3 l0.length pc3) := fun s => (s.kept.below.cell (p := ⟨rb3, 0, none⟩) hrl45).trans e_r
            repeat (go_big_quiet_step (fail))
            refine wpQuiet_nil ?_
            clear rx0 rx1 rx2 rx3
            repeat (go_big_quiet_step (fail))
            refine wpQuiet_nil ?_
            have rx0 : ∀ s : KX (w45.heap.size) w45 (w45.heap.size) [] (fun _ => True), s.val.cell? ⟨P, 0, none⟩ = some (.slice (some ⟨ob3, 0, none⟩) x.rs.length so.c) := fun s => (s.kept.below.cell (p := ⟨P, 0, none⟩) hP45).trans c0
            have rx1 : ∀ s : KX (w45.heap.size) w45 (w45.heap.size) [] (fun _ => True), s.val.cell? ⟨P, 3, none⟩ = some (.int .i64 x.rd) := fun s => (s.kept.below.cell (p := ⟨P, 3, none⟩) hP45).trans c3
            have rx2 : ∀ s : KX (w45.heap.size) w45 (w45.heap.size) [] (fun _ => True), s.val.cell? ⟨ob3, x.rd, none⟩ = some (.slice (some ⟨rb3, 0, none⟩) x.n rc3) := fun s => (s.kept.below.cell (p := ⟨ob3, x.rd, none⟩) hol45).trans e_o
            have rx3 : ∀ s : KX (w45.heap.size) w45 (w45.heap.size) [] (fun _ => True), s.val.cell? ⟨rb3, 0, none⟩ = some (.slice pa3 l0.length pc3) := fun s => (s.kept.below.cell (p := ⟨rb3, 0, none⟩) hrl45).trans e_r
            repeat (go_big_quiet_step (fail))
            refine wpQuiet_nil ?_
            clear rx0 rx1 rx2 rx3
            repeat (go_big_quiet_step (fail))
            refine wpQuiet_nil ?_
            clear _ne
            have KH_w50 := Lib.hid K_w50
            have hw_w50 := K_w50.below
            have hz_w50 := K_w50.size
            clear K_w50
            clear E_w50 F_w50
            have HD50 := Lib.hid (HD45.out.below hw_w50)
            have HO50 := Lib.hid (HO45.out.grow hw_w50)
            clear hw_w50 KH_w50 HD45 HO45
            go_wp2_with fail
            go_returns
            rw [E0.out, GOT.out, STP.out, HX.out, HFX.out]
            exact ⟨S2, rfl, ⟨so, st, sm, rvs, vss2, HD50.out⟩, HSN.out, HSS.out, HO50.out⟩
    · rw [hm] at hmc
      have E0 : Hid (d.err q i = 8) := Lib.hid (by unfold Dr.err; rw [if_neg h1, ho, if_neg (by decide), Int.toNat_natCast, if_pos hm])
      clear hd iv ho hm
      go_enter Try.func22, Try.ntmps22
      go_wp2_with fail
      with_reducible refine HN.out.mono ?_
      rintro e w ⟨rfl, rfl⟩
      go_wp2_with fail
      with_reducible refine HO.out.mono ?_
      rintro e w1 ⟨rfl, hb1⟩
      have hz1 := hb1.size
      have hmc := (hb1.cell (p := ⟨mb, q, none⟩) hml).trans hmc
      have c2 := (hb1.cell (p := ⟨P, 2, none⟩) hP).trans c2
      have hP1 : P < w1.heap.size := Nat.lt_of_lt_of_le hP hb1.size
      have hml1 : mb < w1.heap.size := Nat.lt_of_lt_of_le hml hb1.size
      go_wp2_with fail
      go_returns
      rw [E0.out, (stp_bad E0.out (by decide)).1, (stp_bad E0.out (by decide)).2]
      exact TakeAt.same HDA.out hb1
  · have HO := Lib.hid (over32c P B c S d true w HDA.out iv ho)
    have E0 : Hid (d.err q i = 16) := Lib.hid (by unfold Dr.err; rw [if_neg h1, if_pos ho])
    clear hd iv ho
    go_enter Try.func22, Try.ntmps22
    go_wp2_with fail
    with_reducible refine HN.out.mono ?_
    rintro e w ⟨rfl, rfl⟩
    go_wp2_with fail
    with_reducible refine HO.out.mono ?_
    rintro e w1 ⟨rfl, hb1⟩
    have hz1 := hb1.size
    go_wp2_with fail
    go_returns
    rw [E0.out, (stp_bad E0.out (by decide)).1, (stp_bad E0.out (by decide)).2]
    exact TakeAt.same HDA.out hb1
end Go.Proofs.Yteocplabibhecaa
