/- The chapter's theorem: the walk. -/
import Derived.Test.YtkkpckkkcclhhaaDoorBTy
import Derived.Test.YtkkpckkkcclhhaaDoorBRf
import Derived.Deep.MidRow
namespace Go.Proofs.YtkkpckkkcclhhaaDoor
open Go.RowKit Plain
set_option linter.unusedVariables false
set_option linter.unusedSimpArgs false

theorem rg7_9 {P : Program} {B n : Nat} {w0 : World} {L : List (Nat × Nat × Value)} {E F : World → Prop} {id : Nat} {Q : Exit → Act → World → Prop} {a : Act} {w : World} {o0 o1 o2 o3 o4 o5 o6 o7 o8 o9 o10 o11 o12 o13 o14 o15 o16 o17 o18 : Oper} (hm : P.follows .mixedOrders = true)
    (hB : (Region.noSelect [o0, o1, o2, o3, o4, o5, o6, o7, o8, o9, o10, o11, o12, o13, o14, o15, o16, o17, o18].toArray && Scr.ok .any [o0, o1, o2, o3, o4, o5, o6, o7, o8, o9, o10, o11, o12, o13, o14, o15, o16, o17, o18].toArray [0, 4, 6, 12, 15] [2, 3, 8, 9, 10, 11, 13, 14, 16, 17, 18] (.read 0 (.alt 1 (.free 2 (.free 3 (.read 4 (.read 6 (.alt 5 (.alt 7 (.free 8 (.free 9 (.free 10 (.free 11 (.free 14 (.read 12 (.free 13 (.read 15 (.free 16 (.free 17 (.free 18 .done))))))))))) .stop) .stop))))) .stop)) true true [o0, o1, o2, o3, o4, o5, o6, o7, o8, o9, o10, o11, o12, o13, o14, o15, o16, o17, o18].toArray.size (Array.replicate [o0, o1, o2, o3, o4, o5, o6, o7, o8, o9, o10, o11, o12, o13, o14, o15, o16, o17, o18].toArray.size false)) = true)
    (k : Kept B w0 n L w) (he : E w) (hE : ∀ W W', E W → Below W.heap.size W W' → E W') (hf : F w) (hF : ∀ W W', F W → Below W.heap.size W W' → F W')
    (h : ∀ wk, Kept B w0 n L wk → E wk → F wk → wpQuiet P [o0, o1, o2, o3, o4, o5, o6, o7, o8, o9, o10, o11, o12, o13, o14, o15, o16, o17, o18].toArray (fun w' => ∃ s : KX B w0 n L E, w' = s.val) (fun a0 => ((∀ K1 : Act → World → Prop, (∀ a1 w1, wpQuiet P [o0, o1, o2, o3, o4, o5, o6, o7, o8, o9, o10, o11, o12, o13, o14, o15, o16, o17, o18].toArray (fun _ => True) (fun a2 => wpQuiet P [o0, o1, o2, o3, o4, o5, o6, o7, o8, o9, o10, o11, o12, o13, o14, o15, o16, o17, o18].toArray (fun w' => ∃ s : KX B w0 n L E, w' = s.val) (fun a3 => ((∀ K4 : Act → World → Prop, (∀ a4 w4, ((∀ K5 : Act → World → Prop, (∀ a5 w5, wpQuiet P [o0, o1, o2, o3, o4, o5, o6, o7, o8, o9, o10, o11, o12, o13, o14, o15, o16, o17, o18].toArray (fun _ => True) (fun a6 => wpQuiet P [o0, o1, o2, o3, o4, o5, o6, o7, o8, o9, o10, o11, o12, o13, o14, o15, o16, o17, o18].toArray (fun w' => ∃ s : KX B w0 n L E, w' = s.val) (fun a7 => wpQuiet P [o0, o1, o2, o3, o4, o5, o6, o7, o8, o9, o10, o11, o12, o13, o14, o15, o16, o17, o18].toArray (fun _ => True) (fun a8 => wpQuiet P [o0, o1, o2, o3, o4, o5, o6, o7, o8, o9, o10, o11, o12, o13, o14, o15, o16, o17, o18].toArray (fun w' => ∃ s : KX B w0 n L E, w' = s.val) (fun a9 => wpQuiet P [o0, o1, o2, o3, o4, o5, o6, o7, o8, o9, o10, o11, o12, o13, o14, o15, o16, o17, o18].toArray (fun _ => True) (fun a10 => Q .normal a10 w5) [o16, o17, o18] a9) [o15] a8) [o13] a7) [o12] a6) [o8, o9, o10, o11, o14] a5 → K5 a5 w5) → wpList P [o0, o1, o2, o3, o4, o5, o6, o7, o8, o9, o10, o11, o12, o13, o14, o15, o16, o17, o18].toArray (fun e a5 w5 => e = .normal ∧ (∃ s : KX B w0 n L E, w5 = s.val) ∧ K5 a5 w5) [o7] a4 w4) ∧ True) → K4 a4 w4) → wpList P [o0, o1, o2, o3, o4, o5, o6, o7, o8, o9, o10, o11, o12, o13, o14, o15, o16, o17, o18].toArray (fun e a4 w4 => e = .normal ∧ (∃ s : KX B w0 n L E, w4 = s.val) ∧ K4 a4 w4) [o5] a3 w1) ∧ True)) [o4, o6] a2) [o2, o3] a1 → K1 a1 w1) → wpList P [o0, o1, o2, o3, o4, o5, o6, o7, o8, o9, o10, o11, o12, o13, o14, o15, o16, o17, o18].toArray (fun e a1 w1 => e = .normal ∧ (∃ s : KX B w0 n L E, w1 = s.val) ∧ K1 a1 w1) [o1] a0 wk) ∧ True)) [o0] a) : (Code.region id [o0, o1, o2, o3, o4, o5, o6, o7, o8, o9, o10, o11, o12, o13, o14, o15, o16, o17, o18].toArray true).wp P Q a w := by
  have e1 : E w.drew := hE _ _ he ((Below.refl _ _).drew)
  have g := h _ k.drew e1 (hF _ _ hf ((Below.refl _ _).drew))
  exact wp_region_scr (U := (fun w' => ∃ s : KX B w0 n L E, w' = s.val)) (ops := [o0, o1, o2, o3, o4, o5, o6, o7, o8, o9, o10, o11, o12, o13, o14, o15, o16, o17, o18].toArray) (.read 0 (.alt 1 (.free 2 (.free 3 (.read 4 (.read 6 (.alt 5 (.alt 7 (.free 8 (.free 9 (.free 10 (.free 11 (.free 14 (.read 12 (.free 13 (.read 15 (.free 16 (.free 17 (.free 18 .done))))))))))) .stop) .stop))))) .stop)) [0, 4, 6, 12, 15] [2, 3, 8, 9, 10, 11, 13, 14, 16, 17, 18] hm hB ⟨⟨_, k.drew, e1⟩, rfl⟩ (Scr.of_read rfl g (fun _ g0 => (Scr.of_alt rfl (g0.1 _ (fun _ _ g => g)) (fun _ _ g1 => Scr.of_free rfl g1 (fun _ g2 => Scr.of_free rfl g2 (fun _ g3 => Scr.of_read rfl g3 (fun _ g4 => Scr.of_read rfl g4 (fun _ g5 => (Scr.of_alt rfl (g5.1 _ (fun _ _ g => g)) (fun _ _ g6 => (Scr.of_alt rfl (g6.1 _ (fun _ _ g => g)) (fun _ _ g7 => Scr.of_free rfl g7 (fun _ g8 => Scr.of_free rfl g8 (fun _ g9 => Scr.of_free rfl g9 (fun _ g10 => Scr.of_free rfl g10 (fun _ g11 => Scr.of_free rfl g11 (fun _ g12 => Scr.of_read rfl g12 (fun _ g13 => Scr.of_free rfl g13 (fun _ g14 => Scr.of_read rfl g14 (fun _ g15 => Scr.of_free rfl g15 (fun _ g16 => Scr.of_free rfl g16 (fun _ g17 => Scr.of_free rfl g17 (fun _ g18 => g18)))))))))))) trivial)) trivial)))))) trivial)))
theorem rg7_20 {P : Program} {B n : Nat} {w0 : World} {L : List (Nat × Nat × Value)} {E F : World → Prop} {id : Nat} {Q : Exit → Act → World → Prop} {a : Act} {w : World} {o0 o1 o2 o3 o4 o5 o6 o7 o8 o9 o10 o11 o12 o13 o14 o15 o16 o17 o18 o19 o20 o21 o22 o23 o24 o25 o26 o27 o28 o29 o30 : Oper} (hm : P.follows .mixedOrders = true)
    (hB : (Region.noSelect (o0 :: o1 :: o2 :: o3 :: o4 :: o5 :: o6 :: o7 :: o8 :: o9 :: o10 :: o11 :: o12 :: o13 :: o14 :: o15 :: o16 :: o17 :: o18 :: o19 :: o20 :: o21 :: o22 :: o23 :: o24 :: o25 :: o26 :: o27 :: o28 :: o29 :: o30 :: []).toArray && Scr.ok .any (o0 :: o1 :: o2 :: o3 :: o4 :: o5 :: o6 :: o7 :: o8 :: o9 :: o10 :: o11 :: o12 :: o13 :: o14 :: o15 :: o16 :: o17 :: o18 :: o19 :: o20 :: o21 :: o22 :: o23 :: o24 :: o25 :: o26 :: o27 :: o28 :: o29 :: o30 :: []).toArray [1, 5, 7, 11, 15, 17, 22, 26, 28] [0, 2, 3, 4, 6, 8, 9, 10, 12, 13, 14, 16, 18, 19, 20, 21, 23, 24, 25, 27, 29, 30] (.free 0 (.free 2 (.free 6 (.read 1 (.free 3 (.free 4 (.read 5 (.read 7 (.free 8 (.free 9 (.free 10 (.free 12 (.free 16 (.read 11 (.free 13 (.free 14 (.read 15 (.read 17 (.free 18 (.free 19 (.free 20 (.free 21 (.free 23 (.free 27 (.read 22 (.free 24 (.free 25 (.read 26 (.read 28 (.free 29 (.free 30 .done))))))))))))))))))))))))))))))) true true (o0 :: o1 :: o2 :: o3 :: o4 :: o5 :: o6 :: o7 :: o8 :: o9 :: o10 :: o11 :: o12 :: o13 :: o14 :: o15 :: o16 :: o17 :: o18 :: o19 :: o20 :: o21 :: o22 :: o23 :: o24 :: o25 :: o26 :: o27 :: o28 :: o29 :: o30 :: []).toArray.size (Array.replicate (o0 :: o1 :: o2 :: o3 :: o4 :: o5 :: o6 :: o7 :: o8 :: o9 :: o10 :: o11 :: o12 :: o13 :: o14 :: o15 :: o16 :: o17 :: o18 :: o19 :: o20 :: o21 :: o22 :: o23 :: o24 :: o25 :: o26 :: o27 :: o28 :: o29 :: o30 :: []).toArray.size false)) = true)
    (k : Kept B w0 n L w) (he : E w) (hE : ∀ W W', E W → Below W.heap.size W W' → E W') (hf : F w) (hF : ∀ W W', F W → Below W.heap.size W W' → F W')
    (h : ∀ wk, Kept B w0 n L wk → E wk → F wk → wpQuiet P (o0 :: o1 :: o2 :: o3 :: o4 :: o5 :: o6 :: o7 :: o8 :: o9 :: o10 :: o11 :: o12 :: o13 :: o14 :: o15 :: o16 :: o17 :: o18 :: o19 :: o20 :: o21 :: o22 :: o23 :: o24 :: o25 :: o26 :: o27 :: o28 :: o29 :: o30 :: []).toArray (fun _ => True) (fun a0 => wpQuiet P (o0 :: o1 :: o2 :: o3 :: o4 :: o5 :: o6 :: o7 :: o8 :: o9 :: o10 :: o11 :: o12 :: o13 :: o14 :: o15 :: o16 :: o17 :: o18 :: o19 :: o20 :: o21 :: o22 :: o23 :: o24 :: o25 :: o26 :: o27 :: o28 :: o29 :: o30 :: []).toArray (fun w' => ∃ s : KX B w0 n L E, w' = s.val) (fun a1 => wpQuiet P (o0 :: o1 :: o2 :: o3 :: o4 :: o5 :: o6 :: o7 :: o8 :: o9 :: o10 :: o11 :: o12 :: o13 :: o14 :: o15 :: o16 :: o17 :: o18 :: o19 :: o20 :: o21 :: o22 :: o23 :: o24 :: o25 :: o26 :: o27 :: o28 :: o29 :: o30 :: []).toArray (fun _ => True) (fun a2 => wpQuiet P (o0 :: o1 :: o2 :: o3 :: o4 :: o5 :: o6 :: o7 :: o8 :: o9 :: o10 :: o11 :: o12 :: o13 :: o14 :: o15 :: o16 :: o17 :: o18 :: o19 :: o20 :: o21 :: o22 :: o23 :: o24 :: o25 :: o26 :: o27 :: o28 :: o29 :: o30 :: []).toArray (fun w' => ∃ s : KX B w0 n L E, w' = s.val) (fun a3 => wpQuiet P (o0 :: o1 :: o2 :: o3 :: o4 :: o5 :: o6 :: o7 :: o8 :: o9 :: o10 :: o11 :: o12 :: o13 :: o14 :: o15 :: o16 :: o17 :: o18 :: o19 :: o20 :: o21 :: o22 :: o23 :: o24 :: o25 :: o26 :: o27 :: o28 :: o29 :: o30 :: []).toArray (fun _ => True) (fun a4 => wpQuiet P (o0 :: o1 :: o2 :: o3 :: o4 :: o5 :: o6 :: o7 :: o8 :: o9 :: o10 :: o11 :: o12 :: o13 :: o14 :: o15 :: o16 :: o17 :: o18 :: o19 :: o20 :: o21 :: o22 :: o23 :: o24 :: o25 :: o26 :: o27 :: o28 :: o29 :: o30 :: []).toArray (fun w' => ∃ s : KX B w0 n L E, w' = s.val) (fun a5 => wpQuiet P (o0 :: o1 :: o2 :: o3 :: o4 :: o5 :: o6 :: o7 :: o8 :: o9 :: o10 :: o11 :: o12 :: o13 :: o14 :: o15 :: o16 :: o17 :: o18 :: o19 :: o20 :: o21 :: o22 :: o23 :: o24 :: o25 :: o26 :: o27 :: o28 :: o29 :: o30 :: []).toArray (fun _ => True) (fun a6 => wpQuiet P (o0 :: o1 :: o2 :: o3 :: o4 :: o5 :: o6 :: o7 :: o8 :: o9 :: o10 :: o11 :: o12 :: o13 :: o14 :: o15 :: o16 :: o17 :: o18 :: o19 :: o20 :: o21 :: o22 :: o23 :: o24 :: o25 :: o26 :: o27 :: o28 :: o29 :: o30 :: []).toArray (fun w' => ∃ s : KX B w0 n L E, w' = s.val) (fun a7 => wpQuiet P (o0 :: o1 :: o2 :: o3 :: o4 :: o5 :: o6 :: o7 :: o8 :: o9 :: o10 :: o11 :: o12 :: o13 :: o14 :: o15 :: o16 :: o17 :: o18 :: o19 :: o20 :: o21 :: o22 :: o23 :: o24 :: o25 :: o26 :: o27 :: o28 :: o29 :: o30 :: []).toArray (fun _ => True) (fun a8 => wpQuiet P (o0 :: o1 :: o2 :: o3 :: o4 :: o5 :: o6 :: o7 :: o8 :: o9 :: o10 :: o11 :: o12 :: o13 :: o14 :: o15 :: o16 :: o17 :: o18 :: o19 :: o20 :: o21 :: o22 :: o23 :: o24 :: o25 :: o26 :: o27 :: o28 :: o29 :: o30 :: []).toArray (fun w' => ∃ s : KX B w0 n L E, w' = s.val) (fun a9 => wpQuiet P (o0 :: o1 :: o2 :: o3 :: o4 :: o5 :: o6 :: o7 :: o8 :: o9 :: o10 :: o11 :: o12 :: o13 :: o14 :: o15 :: o16 :: o17 :: o18 :: o19 :: o20 :: o21 :: o22 :: o23 :: o24 :: o25 :: o26 :: o27 :: o28 :: o29 :: o30 :: []).toArray (fun _ => True) (fun a10 => wpQuiet P (o0 :: o1 :: o2 :: o3 :: o4 :: o5 :: o6 :: o7 :: o8 :: o9 :: o10 :: o11 :: o12 :: o13 :: o14 :: o15 :: o16 :: o17 :: o18 :: o19 :: o20 :: o21 :: o22 :: o23 :: o24 :: o25 :: o26 :: o27 :: o28 :: o29 :: o30 :: []).toArray (fun w' => ∃ s : KX B w0 n L E, w' = s.val) (fun a11 => wpQuiet P (o0 :: o1 :: o2 :: o3 :: o4 :: o5 :: o6 :: o7 :: o8 :: o9 :: o10 :: o11 :: o12 :: o13 :: o14 :: o15 :: o16 :: o17 :: o18 :: o19 :: o20 :: o21 :: o22 :: o23 :: o24 :: o25 :: o26 :: o27 :: o28 :: o29 :: o30 :: []).toArray (fun _ => True) (fun a12 => Q .normal a12 wk) [o29, o30] a11) [o26, o28] a10) [o24, o25] a9) [o22] a8) [o18, o19, o20, o21, o23, o27] a7) [o15, o17] a6) [o13, o14] a5) [o11] a4) [o8, o9, o10, o12, o16] a3) [o5, o7] a2) [o3, o4] a1) [o1] a0) [o0, o2, o6] a) : (Code.region id (o0 :: o1 :: o2 :: o3 :: o4 :: o5 :: o6 :: o7 :: o8 :: o9 :: o10 :: o11 :: o12 :: o13 :: o14 :: o15 :: o16 :: o17 :: o18 :: o19 :: o20 :: o21 :: o22 :: o23 :: o24 :: o25 :: o26 :: o27 :: o28 :: o29 :: o30 :: []).toArray true).wp P Q a w := by
  have e1 : E w.drew := hE _ _ he ((Below.refl _ _).drew)
  have g := h _ k.drew e1 (hF _ _ hf ((Below.refl _ _).drew))
  exact wp_region_scr (U := (fun w' => ∃ s : KX B w0 n L E, w' = s.val)) (ops := (o0 :: o1 :: o2 :: o3 :: o4 :: o5 :: o6 :: o7 :: o8 :: o9 :: o10 :: o11 :: o12 :: o13 :: o14 :: o15 :: o16 :: o17 :: o18 :: o19 :: o20 :: o21 :: o22 :: o23 :: o24 :: o25 :: o26 :: o27 :: o28 :: o29 :: o30 :: []).toArray) (.free 0 (.free 2 (.free 6 (.read 1 (.free 3 (.free 4 (.read 5 (.read 7 (.free 8 (.free 9 (.free 10 (.free 12 (.free 16 (.read 11 (.free 13 (.free 14 (.read 15 (.read 17 (.free 18 (.free 19 (.free 20 (.free 21 (.free 23 (.free 27 (.read 22 (.free 24 (.free 25 (.read 26 (.read 28 (.free 29 (.free 30 .done))))))))))))))))))))))))))))))) [1, 5, 7, 11, 15, 17, 22, 26, 28] [0, 2, 3, 4, 6, 8, 9, 10, 12, 13, 14, 16, 18, 19, 20, 21, 23, 24, 25, 27, 29, 30] hm hB ⟨⟨_, k.drew, e1⟩, rfl⟩ (Scr.of_free rfl g (fun _ g0 => Scr.of_free rfl g0 (fun _ g1 => Scr.of_free rfl g1 (fun _ g2 => Scr.of_read rfl g2 (fun _ g3 => Scr.of_free rfl g3 (fun _ g4 => Scr.of_free rfl g4 (fun _ g5 => Scr.of_read rfl g5 (fun _ g6 => Scr.of_read rfl g6 (fun _ g7 => Scr.of_free rfl g7 (fun _ g8 => Scr.of_free rfl g8 (fun _ g9 => Scr.of_free rfl g9 (fun _ g10 => Scr.of_free rfl g10 (fun _ g11 => Scr.of_free rfl g11 (fun _ g12 => Scr.of_read rfl g12 (fun _ g13 => Scr.of_free rfl g13 (fun _ g14 => Scr.of_free rfl g14 (fun _ g15 => Scr.of_read rfl g15 (fun _ g16 => Scr.of_read rfl g16 (fun _ g17 => Scr.of_free rfl g17 (fun _ g18 => Scr.of_free rfl g18 (fun _ g19 => Scr.of_free rfl g19 (fun _ g20 => Scr.of_free rfl g20 (fun _ g21 => Scr.of_free rfl g21 (fun _ g22 => Scr.of_free rfl g22 (fun _ g23 => Scr.of_read rfl g23 (fun _ g24 => Scr.of_free rfl g24 (fun _ g25 => Scr.of_free rfl g25 (fun _ g26 => Scr.of_read rfl g26 (fun _ g27 => Scr.of_read rfl g27 (fun _ g28 => Scr.of_free rfl g28 (fun _ g29 => Scr.of_free rfl g29 (fun _ g30 => g30))))))))))))))))))))))))))))))))
theorem rg7_22 {P : Program} {B n : Nat} {w0 : World} {L : List (Nat × Nat × Value)} {E F : World → Prop} {id : Nat} {Q : Exit → Act → World → Prop} {a : Act} {w : World} {o0 o1 o2 o3 o4 o5 o6 o7 o8 o9 o10 o11 o12 o13 o14 o15 o16 o17 o18 o19 o20 o21 o22 o23 o24 o25 o26 o27 o28 o29 : Oper} (hm : P.follows .mixedOrders = true)
    (hB : (Region.noSelect [o0, o1, o2, o3, o4, o5, o6, o7, o8, o9, o10, o11, o12, o13, o14, o15, o16, o17, o18, o19, o20, o21, o22, o23, o24, o25, o26, o27, o28, o29].toArray && Scr.ok .any [o0, o1, o2, o3, o4, o5, o6, o7, o8, o9, o10, o11, o12, o13, o14, o15, o16, o17, o18, o19, o20, o21, o22, o23, o24, o25, o26, o27, o28, o29].toArray [1, 5, 7, 12, 15, 16, 21, 25, 27] [0, 2, 3, 4, 6, 9, 10, 11, 13, 14, 17, 18, 19, 20, 22, 23, 24, 26, 28, 29] (.free 0 (.free 2 (.free 6 (.read 1 (.free 3 (.free 4 (.read 5 (.read 7 (.alt 8 (.free 9 (.free 10 (.free 11 (.free 13 (.read 12 (.free 14 (.read 15 (.read 16 (.free 17 (.free 18 (.free 19 (.free 20 (.free 22 (.free 26 (.read 21 (.free 23 (.free 24 (.read 25 (.read 27 (.free 28 (.free 29 .done))))))))))))))))))))) .stop))))))))) true true [o0, o1, o2, o3, o4, o5, o6, o7, o8, o9, o10, o11, o12, o13, o14, o15, o16, o17, o18, o19, o20, o21, o22, o23, o24, o25, o26, o27, o28, o29].toArray.size (Array.replicate [o0, o1, o2, o3, o4, o5, o6, o7, o8, o9, o10, o11, o12, o13, o14, o15, o16, o17, o18, o19, o20, o21, o22, o23, o24, o25, o26, o27, o28, o29].toArray.size false)) = true)
    (k : Kept B w0 n L w) (he : E w) (hE : ∀ W W', E W → Below W.heap.size W W' → E W') (hf : F w) (hF : ∀ W W', F W → Below W.heap.size W W' → F W')
    (h : ∀ wk, Kept B w0 n L wk → E wk → F wk → wpQuiet P [o0, o1, o2, o3, o4, o5, o6, o7, o8, o9, o10, o11, o12, o13, o14, o15, o16, o17, o18, o19, o20, o21, o22, o23, o24, o25, o26, o27, o28, o29].toArray (fun _ => True) (fun a0 => wpQuiet P [o0, o1, o2, o3, o4, o5, o6, o7, o8, o9, o10, o11, o12, o13, o14, o15, o16, o17, o18, o19, o20, o21, o22, o23, o24, o25, o26, o27, o28, o29].toArray (fun w' => ∃ s : KX B w0 n L E, w' = s.val) (fun a1 => wpQuiet P [o0, o1, o2, o3, o4, o5, o6, o7, o8, o9, o10, o11, o12, o13, o14, o15, o16, o17, o18, o19, o20, o21, o22, o23, o24, o25, o26, o27, o28, o29].toArray (fun _ => True) (fun a2 => wpQuiet P [o0, o1, o2, o3, o4, o5, o6, o7, o8, o9, o10, o11, o12, o13, o14, o15, o16, o17, o18, o19, o20, o21, o22, o23, o24, o25, o26, o27, o28, o29].toArray (fun w' => ∃ s : KX B w0 n L E, w' = s.val) (fun a3 => ((∀ K4 : Act → World → Prop, (∀ a4 w4, wpQuiet P [o0, o1, o2, o3, o4, o5, o6, o7, o8, o9, o10, o11, o12, o13, o14, o15, o16, o17, o18, o19, o20, o21, o22, o23, o24, o25, o26, o27, o28, o29].toArray (fun _ => True) (fun a5 => wpQuiet P [o0, o1, o2, o3, o4, o5, o6, o7, o8, o9, o10, o11, o12, o13, o14, o15, o16, o17, o18, o19, o20, o21, o22, o23, o24, o25, o26, o27, o28, o29].toArray (fun w' => ∃ s : KX B w0 n L E, w' = s.val) (fun a6 => wpQuiet P [o0, o1, o2, o3, o4, o5, o6, o7, o8, o9, o10, o11, o12, o13, o14, o15, o16, o17, o18, o19, o20, o21, o22, o23, o24, o25, o26, o27, o28, o29].toArray (fun _ => True) (fun a7 => wpQuiet P [o0, o1, o2, o3, o4, o5, o6, o7, o8, o9, o10, o11, o12, o13, o14, o15, o16, o17, o18, o19, o20, o21, o22, o23, o24, o25, o26, o27, o28, o29].toArray (fun w' => ∃ s : KX B w0 n L E, w' = s.val) (fun a8 => wpQuiet P [o0, o1, o2, o3, o4, o5, o6, o7, o8, o9, o10, o11, o12, o13, o14, o15, o16, o17, o18, o19, o20, o21, o22, o23, o24, o25, o26, o27, o28, o29].toArray (fun _ => True) (fun a9 => wpQuiet P [o0, o1, o2, o3, o4, o5, o6, o7, o8, o9, o10, o11, o12, o13, o14, o15, o16, o17, o18, o19, o20, o21, o22, o23, o24, o25, o26, o27, o28, o29].toArray (fun w' => ∃ s : KX B w0 n L E, w' = s.val) (fun a10 => wpQuiet P [o0, o1, o2, o3, o4, o5, o6, o7, o8, o9, o10, o11, o12, o13, o14, o15, o16, o17, o18, o19, o20, o21, o22, o23, o24, o25, o26, o27, o28, o29].toArray (fun _ => True) (fun a11 => wpQuiet P [o0, o1, o2, o3, o4, o5, o6, o7, o8, o9, o10, o11, o12, o13, o14, o15, o16, o17, o18, o19, o20, o21, o22, o23, o24, o25, o26, o27, o28, o29].toArray (fun w' => ∃ s : KX B w0 n L E, w' = s.val) (fun a12 => wpQuiet P [o0, o1, o2, o3, o4, o5, o6, o7, o8, o9, o10, o11, o12, o13, o14, o15, o16, o17, o18, o19, o20, o21, o22, o23, o24, o25, o26, o27, o28, o29].toArray (fun _ => True) (fun a13 => Q .normal a13 w4) [o28, o29] a12) [o25, o27] a11) [o23, o24] a10) [o21] a9) [o17, o18, o19, o20, o22, o26] a8) [o15, o16] a7) [o14] a6) [o12] a5) [o9, o10, o11, o13] a4 → K4 a4 w4) → wpList P [o0, o1, o2, o3, o4, o5, o6, o7, o8, o9, o10, o11, o12, o13, o14, o15, o16, o17, o18, o19, o20, o21, o22, o23, o24, o25, o26, o27, o28, o29].toArray (fun e a4 w4 => e = .normal ∧ (∃ s : KX B w0 n L E, w4 = s.val) ∧ K4 a4 w4) [o8] a3 wk) ∧ True)) [o5, o7] a2) [o3, o4] a1) [o1] a0) [o0, o2, o6] a) : (Code.region id [o0, o1, o2, o3, o4, o5, o6, o7, o8, o9, o10, o11, o12, o13, o14, o15, o16, o17, o18, o19, o20, o21, o22, o23, o24, o25, o26, o27, o28, o29].toArray true).wp P Q a w := by
  have e1 : E w.drew := hE _ _ he ((Below.refl _ _).drew)
  have g := h _ k.drew e1 (hF _ _ hf ((Below.refl _ _).drew))
  exact wp_region_scr (U := (fun w' => ∃ s : KX B w0 n L E, w' = s.val)) (ops := [o0, o1, o2, o3, o4, o5, o6, o7, o8, o9, o10, o11, o12, o13, o14, o15, o16, o17, o18, o19, o20, o21, o22, o23, o24, o25, o26, o27, o28, o29].toArray) (.free 0 (.free 2 (.free 6 (.read 1 (.free 3 (.free 4 (.read 5 (.read 7 (.alt 8 (.free 9 (.free 10 (.free 11 (.free 13 (.read 12 (.free 14 (.read 15 (.read 16 (.free 17 (.free 18 (.free 19 (.free 20 (.free 22 (.free 26 (.read 21 (.free 23 (.free 24 (.read 25 (.read 27 (.free 28 (.free 29 .done))))))))))))))))))))) .stop))))))))) [1, 5, 7, 12, 15, 16, 21, 25, 27] [0, 2, 3, 4, 6, 9, 10, 11, 13, 14, 17, 18, 19, 20, 22, 23, 24, 26, 28, 29] hm hB ⟨⟨_, k.drew, e1⟩, rfl⟩ (Scr.of_free rfl g (fun _ g0 => Scr.of_free rfl g0 (fun _ g1 => Scr.of_free rfl g1 (fun _ g2 => Scr.of_read rfl g2 (fun _ g3 => Scr.of_free rfl g3 (fun _ g4 => Scr.of_free rfl g4 (fun _ g5 => Scr.of_read rfl g5 (fun _ g6 => Scr.of_read rfl g6 (fun _ g7 => (Scr.of_alt rfl (g7.1 _ (fun _ _ g => g)) (fun _ _ g8 => Scr.of_free rfl g8 (fun _ g9 => Scr.of_free rfl g9 (fun _ g10 => Scr.of_free rfl g10 (fun _ g11 => Scr.of_free rfl g11 (fun _ g12 => Scr.of_read rfl g12 (fun _ g13 => Scr.of_free rfl g13 (fun _ g14 => Scr.of_read rfl g14 (fun _ g15 => Scr.of_read rfl g15 (fun _ g16 => Scr.of_free rfl g16 (fun _ g17 => Scr.of_free rfl g17 (fun _ g18 => Scr.of_free rfl g18 (fun _ g19 => Scr.of_free rfl g19 (fun _ g20 => Scr.of_free rfl g20 (fun _ g21 => Scr.of_free rfl g21 (fun _ g22 => Scr.of_read rfl g22 (fun _ g23 => Scr.of_free rfl g23 (fun _ g24 => Scr.of_free rfl g24 (fun _ g25 => Scr.of_read rfl g25 (fun _ g26 => Scr.of_read rfl g26 (fun _ g27 => Scr.of_free rfl g27 (fun _ g28 => Scr.of_free rfl g28 (fun _ g29 => g29)))))))))))))))))))))) trivial))))))))))
theorem onF_id {l : List Int} {g : Ob → Ob} {o : Ob} (h : o.id ∉ l) : onF l g o = o := by unfold onF; rw [if_neg h]
theorem onF_keep (l : List Int) (o : Ob) : (onF l reO o).id = o.id ∧ (onF l reO o).ta = o.ta ∧ (onF l reO o).co = o.co ∧ (onF l reO o).dm = o.dm := by unfold onF; split <;> exact ⟨rfl, rfl, rfl, rfl⟩
theorem onF_da (l : List Int) (o : Ob) : (onF l unO o).da = o.da := by unfold onF; split <;> rfl
theorem onF_twice (l : List Int) (o : Ob) : onF l reO (onF l reO o) = onF l reO o := by
  unfold onF
  by_cases h : o.id ∈ l
  · rw [if_pos h, if_pos (show (reO o).id ∈ l from h)]; rfl
  · rw [if_neg h, if_neg h]
theorem onF_comm (l m : List Int) (o : Ob) : onF l reO (onF m reO o) = onF m reO (onF l reO o) := by
  unfold onF
  by_cases h : o.id ∈ l <;> by_cases h2 : o.id ∈ m <;> simp [h, h2, reO]
theorem cl_ob (B : Bd) : (clB B).ob = (B.ob.map (onF B.s0.fld reO)).map (onF B.s1.fld reO) := rfl
theorem cl_two (B : Bd) : clB (clB B) = clB B := by
  have e : (clB (clB B)).ob = (clB B).ob := by
    rw [cl_ob, cl_ob]
    show (((B.ob.map (onF B.s0.fld reO)).map (onF B.s1.fld reO)).map (onF B.s0.fld reO)).map (onF B.s1.fld reO) = _
    rw [List.map_map, List.map_map, List.map_map, List.map_map]
    refine List.map_congr_left (fun o _ => ?_)
    show onF B.s1.fld reO (onF B.s0.fld reO (onF B.s1.fld reO (onF B.s0.fld reO o))) = onF B.s1.fld reO (onF B.s0.fld reO o)
    rw [onF_comm B.s0.fld B.s1.fld, onF_twice B.s0.fld, onF_twice B.s1.fld]
  show ({ clB B with ob := (clB (clB B)).ob } : Bd) = clB B
  rw [e]
theorem cl_at {B : Bd} {k : Nat} {x : Ob} (h : B.ob[k]? = some x) : ∃ y, (clB B).ob[k]? = some y ∧ y.ta = x.ta ∧ y.co = x.co ∧ y.dm = x.dm := by
  rw [cl_ob, List.getElem?_map, List.getElem?_map, h]
  have h1 := onF_keep B.s0.fld x
  have h2 := onF_keep B.s1.fld (onF B.s0.fld reO x)
  exact ⟨_, rfl, by rw [h2.2.1, h1.2.1], by rw [h2.2.2.1, h1.2.2.1], by rw [h2.2.2.2, h1.2.2.2]⟩
theorem cl_len (B : Bd) : (clB B).ob.length = B.ob.length := by rw [cl_ob, List.length_map, List.length_map]
theorem be_ob (B : Bd) : (beB B).ob = B.ob.map (onF ((be1 B).seat (nxA B).toNat).fld unO) := rfl
theorem be_len (B : Bd) : (beB B).ob.length = B.ob.length := by rw [be_ob, List.length_map]
theorem be_fld (B : Bd) (p : Nat) : ((beB B).seat p).fld = ((be1 B).seat p).fld := rfl
theorem be_at {B : Bd} {k : Nat} {x : Ob} (h : B.ob[k]? = some x) : ∃ y, (beB B).ob[k]? = some y ∧ y.da = x.da ∧ (x.id ∉ ((beB B).seat (nxA B).toNat).fld → y = x) := by
  rw [be_ob, be_fld, List.getElem?_map, h]
  exact ⟨_, rfl, onF_da _ x, fun hn => onF_id hn⟩
theorem nxA_cases {B : Bd} (h : VB B) : ∃ p : Nat, p < 2 ∧ nxA B = p := by
  have := h.num.1
  by_cases ht : B.tu = 0
  · exact ⟨0, by omega, by unfold nxA; rw [if_pos ht]; rfl⟩
  · exact ⟨(1 - B.ac).toNat, by omega, by unfold nxA; rw [if_neg ht]; omega⟩
/-- an object of a board, in memory -/
theorem obj_at {W : World} {P : Nat} {s : Bs} {B : Bd} {k : Nat} {x : Ob} (hx : Bx W P s B) (hr : BdR W s B) (h : B.ob[k]? = some x) : ∃ b o c, W.cell? ⟨P, 0, none⟩ = some (.slice (some ⟨b, o, none⟩) B.ob.length c) ∧ b < W.heap.size ∧ W.rangeAt b (o + k * 12) (oc x) := by
  have hl : k < B.ob.length := (List.getElem?_eq_some_iff.1 h).1
  obtain ⟨_, a, c, hv, hc⟩ := hr.ob.form
  obtain ⟨b, o, rfl, hb, hc⟩ := hc (by omega)
  refine ⟨b, o, c, by rw [hx.cell 0, ← hv]; rfl, hb, fun j u hu => ?_⟩
  rw [Nat.add_assoc]
  exact hc k x h j u hu
theorem obs_len {W : World} {P : Nat} {s : Bs} {B : Bd} (hx : Bx W P s B) (hr : BdR W s B) : ∃ a c, W.cell? ⟨P, 0, none⟩ = some (.slice a B.ob.length c) := by
  obtain ⟨_, a, c, hv, _⟩ := hr.ob.form
  exact ⟨a, c, by rw [hx.cell 0, ← hv]; rfl⟩
/-- an object in a block of its own -/
def Obx (W : World) (P : Nat) (x : Ob) : Prop := W.heap[P]? = some (.cells (oc x).toArray 57 (0, 0))
theorem Obx.cell {W : World} {P : Nat} {x : Ob} (h : Obx W P x) (j : Nat) (u : Value) (hu : (oc x)[j]? = some u) : W.cell? ⟨P, j, none⟩ = some u := by
  unfold World.cell?
  rw [h]
  simpa using hu
theorem Obx.lt {W : World} {P : Nat} {x : Ob} (h : Obx W P x) : P < W.heap.size := (Array.getElem?_eq_some_iff.1 h).1
theorem wpList_store_ob {ops : Array Oper} {rest : List Oper} {op : Oper} {a : Act} {w : World} {Q : Exit → Act → World → Prop} (hgd : op.guard = none) {P : Nat} {x : Ob} (p q : Operand) (ho : op.op = .store 57 p q) (hx : a.eval p = .pointer (some ⟨P, 0, none⟩)) (hy : a.eval q = .agg (oc x).toArray) {old : Array Value} (hg : w.heap[P]? = some (.cells old 57 (0, 0))) (hsz : old.size = 12)
    (hK : ∀ w', Hid (w' = w.setRow P (oc x).toArray) → wpList Tryd.prog ops Q rest (a.put op.dst undef) w') : wpList Tryd.prog ops Q (op :: rest) a w :=
  wpList_store_row hgd 57 p q ho P (oc x).toArray hx hy 57 old hg (by kernel_rfl) (by rw [hsz]; rfl) (by simp [oc, Value.oneCell']) (hK _ (Lib.hid rfl))
theorem Obx.row {w : World} {P : Nat} {old : Array Value} (hg : w.heap[P]? = some (.cells old 57 (0, 0))) (x : Ob) : Obx (w.setRow P (oc x).toArray) P x := setRow_heap _ P old _ 57 _ hg
theorem th_meas {n k : Nat} (hw : wrap64 ((k : Int) + 1) = (k : Int) + 1) (h : k < n) : n - (intOf (.int .i64 (wrap64 ((k : Int) + 1)))).toNat < n - (intOf (.int .i64 (k : Int))).toNat := by
  rw [hw]
  show n - ((k : Int) + 1).toNat < n - (k : Int).toNat
  omega
theorem put_none (a : Act) (v : Value) : a.put none v = a := rfl
theorem oboxed {W W' : World} {old : Array Value} {x : Ob} (h : W' = (W.alloc (.cells old 57)).setRow W.heap.size (oc x).toArray) : Below W.heap.size W W' ∧ Obx W' W.heap.size x := by
  have b1 : Below W.heap.size W (W.alloc (.cells old 57)) := (Below.refl _ _).alloc (Nat.le_refl _) _
  exact ⟨belowOnl b1 (by rw [h]; exact Onl.setRow (Onl.refl _ _) (.inl (by simp)) _ : Onl [W.heap.size] _ W') (by simp) b1.size, by rw [h]; exact Obx.row (heap_alloc_new _ _) x⟩
set_option maxRecDepth 100000 in
set_option maxHeartbeats 4000000 in
theorem quiet_load_ob {C : World → Prop} {K : Act → Prop} {a a' : Act} {op : Oper} {b o : Nat} {x : Ob} (p : Operand) (ho : op.op = .load 57 p) (hx : a.eval p = .pointer (some ⟨b, o, none⟩)) (h : ∀ w, C w → w.rangeAt b o (oc x)) (ha : a.put op.dst (.agg (oc x).toArray) = a') (hk : K a') : op.quiet Tryd.prog a C K := by
  subst ha
  refine ⟨.agg (oc x).toArray, fun w hw => ?_, hk⟩
  have e := run_loadAt_mid (P := Tryd.prog) w b o 57 (oc x) _ (h w hw) Tryd.underlying57 rfl rfl
  have r : (execOp a.eval op).run Tryd.prog w = .ok (.value (.agg (oc x).toArray)) w := by
    unfold execOp
    rw [ho]
    show (Bind.bind (Instr.loadAt 57 (a.eval p)) (fun v => pure (Next.value v)) : Sem Next).run Tryd.prog w = _
    rw [hx, Sem.run_bind, e]
    rfl
  unfold Oper.quietAt
  rw [r]
  exact ⟨rfl, rfl⟩
set_option maxRecDepth 100000 in
set_option maxHeartbeats 4000000 in
theorem quiet_neq_ob {C : World → Prop} {K : Act → Prop} {a a' : Act} {op : Oper} {x : Ob} {t : TypeId} (p q : Operand) (ho : op.op = .binOp .neq 57 p q t) (hx : a.eval p = .agg (oc x).toArray) (hy : a.eval q = .agg (oc x).toArray) (ha : a.put op.dst (.bool false) = a') (hk : K a') : op.quiet Tryd.prog a C K := by
  subst ha
  refine ⟨.bool false, fun w hw => ?_, hk⟩
  have r : (execOp a.eval op).run Tryd.prog w = .ok (.value (.bool false)) w := by
    unfold execOp
    rw [ho]
    simp only [hx, hy]
    simp [go_sem, oc]
    done
  unfold Oper.quietAt
  rw [r]
  exact ⟨rfl, rfl⟩
/-- the state between the objects -/
structure ThS (w : World) (s : Bs) (B : Bd) (nc : Nat) (sc : Bs) (nn : Nat) (sn : Bs) (wr : World) : Prop where
  below : Below w.heap.size w wr
  wds : Wds wr
  bb : Bx wr w.heap.size s B
  bc : Bx wr nc sc (clB B)
  bn : Bx wr nn sn (beB B)
  rb : BdR wr s B
  rc : BdR wr sc (clB B)
  rn : BdR wr sn (beB B)
theorem ThS.keep {w : World} {s : Bs} {B : Bd} {nc : Nat} {sc : Bs} {nn : Nat} {sn : Bs} {W W' : World} (h : ThS w s B nc sc nn sn W) (hb : Below W.heap.size W W') : ThS w s B nc sc nn sn W' :=
  ⟨below_via h.below hb, h.wds.below hb, h.bb.below hb, h.bc.below hb, h.bn.below hb, h.rb.below hb, h.rc.below hb, h.rn.below hb⟩
def ThL (w : World) (s : Bs) (B : Bd) (nc : Nat) (sc : Bs) (nn : Nat) (sn : Bs) (v : Value) (wr : World) : Prop := ∃ k : Nat, k ≤ B.ob.length ∧ v = .int .i64 k ∧ ThS w s B nc sc nn sn wr
set_option maxRecDepth 100000 in
set_option maxHeartbeats 4000000 in
theorem holds_bad (s : Bs) (B : Bd) (pl : Int) (w : World) (h : BdR w s B) (hi : B.I) (hwd : Wds w) (hv : ¬ VB B) : Calls Tryd.prog 7 #[bv s B, .int .i64 pl] w fun e w' => e = .returned (.bool true) ∧ Below w.heap.size w w' := by
  have HV := Lib.hid hv
  clear hv
  go_enter Tryd.func7, Tryd.ntmps7
  go_upto_region 1 with fail
  change Code.wp Tryd.prog _ _ _ (w.alloc (.cells (bcells s B) 39))
  obtain ⟨w0, hw0⟩ : ∃ W, W = w.alloc (.cells (bcells s B) 39) := ⟨_, rfl⟩
  have hb : Below w.heap.size w w0 := by rw [hw0]; exact (Below.refl _ _).alloc (Nat.le_refl _) _
  have HXb : Hid (Bx w0 w.heap.size s B) := Lib.hid (by rw [hw0]; exact heap_alloc_new _ _)
  have HB := Lib.hid hb
  have HR := Lib.hid h
  have HWD : Hid (Wds w0) := Lib.hid (hwd.below hb)
  rw [← hw0]
  clear hw0 hb h hwd
  go_wp2_with (refine wpList_load_bx _ rfl rfl HXb.out (by kernel_rfl) ?_)
  with_reducible refine (bsmall s B _ (HR.out.below HB.out)).mono ?_
  rintro e w1 ⟨⟨r, rfl, hr⟩, hb⟩
  replace HB := Lib.hid (below_via HB.out hb)
  replace HXb := Lib.hid (HXb.out.below hb)
  replace HWD := Lib.hid (HWD.out.below hb)
  clear hb
  cases r
  · go_wp2_with fail
    with_reducible refine (known _ HWD.out).mono ?_
    rintro e w2 ⟨rfl, hb⟩
    replace HB := Lib.hid (below_via HB.out hb)
    clear hb
    go_wp2_with fail
    go_returns
    exact ⟨rfl, HB.out⟩
  have HK : Hid B.Ok := Lib.hid (Tiny.ok (hr rfl) hi)
  clear hr hi
  have HC0 : Hid (w.heap.size < w1.heap.size) := Lib.hid HXb.out.lt
  go_wp2_with (first | (refine wpList_load_bx _ rfl rfl HXb.out (by kernel_rfl) ?_))
  with_reducible refine (brvalid s (B) _ (HR.out.below HB.out) HK.out.i HK.out.sm).mono ?_
  rintro e w2 ⟨⟨r, rfl, hr⟩, hb⟩
  have HC1_w2 : Hid (w1.heap.size ≤ w2.heap.size) := Lib.hid hb.size
  replace HB := Lib.hid (below_via HB.out hb)
  replace HXb := Lib.hid (HXb.out.below hb)
  replace HWD := Lib.hid (HWD.out.below hb)
  obtain rfl : r = false := by cases r with | false => rfl | true => exact absurd (hr.1 rfl) HV.out
  clear hr hb
  go_wp2_with fail
  with_reducible refine (known _ HWD.out).mono ?_
  rintro e w3 ⟨rfl, hb⟩
  have HC2_w3 : Hid (w2.heap.size ≤ w3.heap.size) := Lib.hid hb.size
  replace HB := Lib.hid (below_via HB.out hb)
  replace HXb := Lib.hid (HXb.out.below hb)
  replace HWD := Lib.hid (HWD.out.below hb)
  clear hb
  go_wp2_with fail
  go_returns
  exact ⟨rfl, HB.out⟩
set_option maxRecDepth 100000 in
set_option maxHeartbeats 4000000 in
theorem holds_n1 (s : Bs) (B : Bd) (pl : Int) (w : World) (h : BdR w s B) (hi : B.I) (hwd : Wds w) (hv : VB B) (h1 : pl < 0) : Calls Tryd.prog 7 #[bv s B, .int .i64 pl] w fun e w' => e = .returned (.bool true) ∧ Below w.heap.size w w' := by
  have HV := Lib.hid hv
  have t0 : decide (pl < 0) = true := by simp; omega
  clear hv h1
  go_enter Tryd.func7, Tryd.ntmps7
  go_upto_region 1 with fail
  change Code.wp Tryd.prog _ _ _ (w.alloc (.cells (bcells s B) 39))
  obtain ⟨w0, hw0⟩ : ∃ W, W = w.alloc (.cells (bcells s B) 39) := ⟨_, rfl⟩
  have hb : Below w.heap.size w w0 := by rw [hw0]; exact (Below.refl _ _).alloc (Nat.le_refl _) _
  have HXb : Hid (Bx w0 w.heap.size s B) := Lib.hid (by rw [hw0]; exact heap_alloc_new _ _)
  have HB := Lib.hid hb
  have HR := Lib.hid h
  have HWD : Hid (Wds w0) := Lib.hid (hwd.below hb)
  rw [← hw0]
  clear hw0 hb h hwd
  go_wp2_with (refine wpList_load_bx _ rfl rfl HXb.out (by kernel_rfl) ?_)
  with_reducible refine (bsmall s B _ (HR.out.below HB.out)).mono ?_
  rintro e w1 ⟨⟨r, rfl, hr⟩, hb⟩
  replace HB := Lib.hid (below_via HB.out hb)
  replace HXb := Lib.hid (HXb.out.below hb)
  replace HWD := Lib.hid (HWD.out.below hb)
  clear hb
  cases r
  · go_wp2_with fail
    with_reducible refine (known _ HWD.out).mono ?_
    rintro e w2 ⟨rfl, hb⟩
    replace HB := Lib.hid (below_via HB.out hb)
    clear hb
    go_wp2_with fail
    go_returns
    exact ⟨rfl, HB.out⟩
  have HK : Hid B.Ok := Lib.hid (Tiny.ok (hr rfl) hi)
  clear hr hi
  have HC0 : Hid (w.heap.size < w1.heap.size) := Lib.hid HXb.out.lt
  go_wp2_with (first | (refine wpList_load_bx _ rfl rfl HXb.out (by kernel_rfl) ?_))
  with_reducible refine (brvalid s (B) _ (HR.out.below HB.out) HK.out.i HK.out.sm).mono ?_
  rintro e w2 ⟨⟨r, rfl, hr⟩, hb⟩
  have HC1_w2 : Hid (w1.heap.size ≤ w2.heap.size) := Lib.hid hb.size
  replace HB := Lib.hid (below_via HB.out hb)
  replace HXb := Lib.hid (HXb.out.below hb)
  replace HWD := Lib.hid (HWD.out.below hb)
  obtain rfl : r = true := hr.2 HV.out
  clear hr hb
  go_wp2_with fail
  with_reducible refine (known _ HWD.out).mono ?_
  rintro e w3 ⟨rfl, hb⟩
  have HC2_w3 : Hid (w2.heap.size ≤ w3.heap.size) := Lib.hid hb.size
  replace HB := Lib.hid (below_via HB.out hb)
  replace HXb := Lib.hid (HXb.out.below hb)
  replace HWD := Lib.hid (HWD.out.below hb)
  clear hb
  go_wp2_with fail
  go_returns
  exact ⟨rfl, HB.out⟩
set_option maxRecDepth 100000 in
set_option maxHeartbeats 4000000 in
theorem holds_n2 (s : Bs) (B : Bd) (pl : Int) (w : World) (h : BdR w s B) (hi : B.I) (hwd : Wds w) (hv : VB B) (h1 : 1 < pl) : Calls Tryd.prog 7 #[bv s B, .int .i64 pl] w fun e w' => e = .returned (.bool true) ∧ Below w.heap.size w w' := by
  have HV := Lib.hid hv
  have t0 : decide (pl < 0) = false := by simp; omega
  have t1 : decide (pl > 1) = true := by simp; omega
  clear hv h1
  go_enter Tryd.func7, Tryd.ntmps7
  go_upto_region 1 with fail
  change Code.wp Tryd.prog _ _ _ (w.alloc (.cells (bcells s B) 39))
  obtain ⟨w0, hw0⟩ : ∃ W, W = w.alloc (.cells (bcells s B) 39) := ⟨_, rfl⟩
  have hb : Below w.heap.size w w0 := by rw [hw0]; exact (Below.refl _ _).alloc (Nat.le_refl _) _
  have HXb : Hid (Bx w0 w.heap.size s B) := Lib.hid (by rw [hw0]; exact heap_alloc_new _ _)
  have HB := Lib.hid hb
  have HR := Lib.hid h
  have HWD : Hid (Wds w0) := Lib.hid (hwd.below hb)
  rw [← hw0]
  clear hw0 hb h hwd
  go_wp2_with (refine wpList_load_bx _ rfl rfl HXb.out (by kernel_rfl) ?_)
  with_reducible refine (bsmall s B _ (HR.out.below HB.out)).mono ?_
  rintro e w1 ⟨⟨r, rfl, hr⟩, hb⟩
  replace HB := Lib.hid (below_via HB.out hb)
  replace HXb := Lib.hid (HXb.out.below hb)
  replace HWD := Lib.hid (HWD.out.below hb)
  clear hb
  cases r
  · go_wp2_with fail
    with_reducible refine (known _ HWD.out).mono ?_
    rintro e w2 ⟨rfl, hb⟩
    replace HB := Lib.hid (below_via HB.out hb)
    clear hb
    go_wp2_with fail
    go_returns
    exact ⟨rfl, HB.out⟩
  have HK : Hid B.Ok := Lib.hid (Tiny.ok (hr rfl) hi)
  clear hr hi
  have HC0 : Hid (w.heap.size < w1.heap.size) := Lib.hid HXb.out.lt
  go_wp2_with (first | (refine wpList_load_bx _ rfl rfl HXb.out (by kernel_rfl) ?_))
  with_reducible refine (brvalid s (B) _ (HR.out.below HB.out) HK.out.i HK.out.sm).mono ?_
  rintro e w2 ⟨⟨r, rfl, hr⟩, hb⟩
  have HC1_w2 : Hid (w1.heap.size ≤ w2.heap.size) := Lib.hid hb.size
  replace HB := Lib.hid (below_via HB.out hb)
  replace HXb := Lib.hid (HXb.out.below hb)
  replace HWD := Lib.hid (HWD.out.below hb)
  obtain rfl : r = true := hr.2 HV.out
  clear hr hb
  go_wp2_with fail
  with_reducible refine (known _ HWD.out).mono ?_
  rintro e w3 ⟨rfl, hb⟩
  have HC2_w3 : Hid (w2.heap.size ≤ w3.heap.size) := Lib.hid hb.size
  replace HB := Lib.hid (below_via HB.out hb)
  replace HXb := Lib.hid (HXb.out.below hb)
  replace HWD := Lib.hid (HWD.out.below hb)
  clear hb
  go_wp2_with fail
  go_returns
  exact ⟨rfl, HB.out⟩
set_option maxRecDepth 100000 in
set_option maxHeartbeats 4000000 in
theorem holds_ok (s : Bs) (B : Bd) (pl : Int) (w : World) (h : BdR w s B) (hi : B.I) (hwd : Wds w) (hv : VB B) (hp : 0 ≤ pl ∧ pl ≤ 1) : Calls Tryd.prog 7 #[bv s B, .int .i64 pl] w fun e w' => e = .returned (.bool true) ∧ Below w.heap.size w w' := by
  have HV := Lib.hid hv
  have HP := Lib.hid hp
  have t0 : decide (pl < 0) = false := by simp; omega
  have t1 : decide (pl > 1) = false := by simp; omega
  clear hv hp
  go_enter Tryd.func7, Tryd.ntmps7
  go_upto_region 1 with fail
  change Code.wp Tryd.prog _ _ _ (w.alloc (.cells (bcells s B) 39))
  obtain ⟨w0, hw0⟩ : ∃ W, W = w.alloc (.cells (bcells s B) 39) := ⟨_, rfl⟩
  have hb : Below w.heap.size w w0 := by rw [hw0]; exact (Below.refl _ _).alloc (Nat.le_refl _) _
  have HXb : Hid (Bx w0 w.heap.size s B) := Lib.hid (by rw [hw0]; exact heap_alloc_new _ _)
  have HB := Lib.hid hb
  have HR := Lib.hid h
  have HWD : Hid (Wds w0) := Lib.hid (hwd.below hb)
  rw [← hw0]
  clear hw0 hb h hwd
  go_wp2_with (refine wpList_load_bx _ rfl rfl HXb.out (by kernel_rfl) ?_)
  with_reducible refine (bsmall s B _ (HR.out.below HB.out)).mono ?_
  rintro e w1 ⟨⟨r, rfl, hr⟩, hb⟩
  replace HB := Lib.hid (below_via HB.out hb)
  replace HXb := Lib.hid (HXb.out.below hb)
  replace HWD := Lib.hid (HWD.out.below hb)
  clear hb
  cases r
  · go_wp2_with fail
    with_reducible refine (known _ HWD.out).mono ?_
    rintro e w2 ⟨rfl, hb⟩
    replace HB := Lib.hid (below_via HB.out hb)
    clear hb
    go_wp2_with fail
    go_returns
    exact ⟨rfl, HB.out⟩
  have HK : Hid B.Ok := Lib.hid (Tiny.ok (hr rfl) hi)
  clear hr hi
  have HC0 : Hid (w.heap.size < w1.heap.size) := Lib.hid HXb.out.lt
  go_wp2_with (first | (refine wpList_load_bx _ rfl rfl HXb.out (by kernel_rfl) ?_))
  with_reducible refine (brvalid s (B) _ (HR.out.below HB.out) HK.out.i HK.out.sm).mono ?_
  rintro e w2 ⟨⟨r, rfl, hr⟩, hb⟩
  have HC1_w2 : Hid (w1.heap.size ≤ w2.heap.size) := Lib.hid hb.size
  replace HB := Lib.hid (below_via HB.out hb)
  replace HXb := Lib.hid (HXb.out.below hb)
  replace HWD := Lib.hid (HWD.out.below hb)
  obtain rfl : r = true := hr.2 HV.out
  clear hr hb
  go_upto_region 3 with fail
  go_wp2_with (first | (refine wpList_load_bx _ rfl rfl HXb.out (by kernel_rfl) ?_))
  with_reducible refine (give_ok s B pl 0 _ (HR.out.below HB.out) HK.out HV.out (by have := HP.out; omega) (by omega)).mono ?_
  rintro e w3 ⟨sx, rfl, ho, hb⟩
  have HC2_w3 : Hid (w2.heap.size ≤ w3.heap.size) := Lib.hid hb.size
  replace HB := Lib.hid (below_via HB.out hb)
  replace HXb := Lib.hid (HXb.out.below hb)
  replace HWD := Lib.hid (HWD.out.below hb)
  have HOx := Lib.hid ho
  clear ho hb
  go_wp2_with (refine wpList_store_bh rfl _ _ rfl rfl rfl (heap_alloc_new _ _) rfl ?_)
  intro w4 hw0
  have hbx := boxed hw0.out
  have hb := hbx.1
  replace HB := Lib.hid (below_via HB.out hb)
  replace HXb := Lib.hid (HXb.out.below hb)
  replace HOx := Lib.hid (HOx.out.below hb)
  replace HWD := Lib.hid (HWD.out.below hb)
  have HXx := Lib.hid hbx.2
  have HC3_w4 : Hid (w3.heap.size < w4.heap.size) := Lib.hid HXx.out.lt
  clear hw0 hbx hb
  have HKx : Hid (giB B pl 0).Ok := Lib.hid (giB_ok HK.out _ _)
  have HVx : Hid (VB (giB B pl 0)) := Lib.hid (VB.gi HV.out (by have := HP.out; omega) (by omega))
  have HQ1 : Hid (0 ≤ (giB B pl 0).ho) := Lib.hid (by have := HP.out; show 0 ≤ pl; omega)
  go_wp2_with (first | (refine wpList_load_bx _ rfl rfl HXx.out (by kernel_rfl) ?_))
  with_reducible refine (pass_one sx (giB B pl 0) _ HOx.out.rd HKx.out HVx.out (Int.not_lt.mpr HQ1.out) rfl).mono ?_
  rintro e w5 ⟨sy, rfl, ho, hb⟩
  have HC4_w5 : Hid (w4.heap.size ≤ w5.heap.size) := Lib.hid hb.size
  replace HB := Lib.hid (below_via HB.out hb)
  replace HXb := Lib.hid (HXb.out.below hb)
  replace HXx := Lib.hid (HXx.out.below hb)
  replace HOx := Lib.hid (HOx.out.below hb)
  replace HWD := Lib.hid (HWD.out.below hb)
  have HOy := Lib.hid ho
  clear ho hb
  go_wp2_with (refine wpList_store_bh rfl _ _ rfl rfl rfl (heap_alloc_new _ _) rfl ?_)
  intro w6 hw0
  have hbx := boxed hw0.out
  have hb := hbx.1
  replace HB := Lib.hid (below_via HB.out hb)
  replace HXb := Lib.hid (HXb.out.below hb)
  replace HXx := Lib.hid (HXx.out.below hb)
  replace HOx := Lib.hid (HOx.out.below hb)
  replace HOy := Lib.hid (HOy.out.below hb)
  replace HWD := Lib.hid (HWD.out.below hb)
  have HXy := Lib.hid hbx.2
  have HC5_w6 : Hid (w5.heap.size < w6.heap.size) := Lib.hid HXy.out.lt
  clear hw0 hbx hb
  have HKy : Hid (giB (giB B pl 0) (1 - (giB B pl 0).ho) ((giB B pl 0).pa + 1)).Ok := Lib.hid (giB_ok HKx.out _ _)
  have HVy : Hid (VB (giB (giB B pl 0) (1 - (giB B pl 0).ho) ((giB B pl 0).pa + 1))) := Lib.hid (VB.gi HVx.out (by have := HP.out; show -1 ≤ 1 - pl ∧ 1 - pl ≤ 1; omega) (by show (0 : Int) ≤ 0 + 1 ∧ (0 : Int) + 1 ≤ 2; omega))
  have HQ2 : Hid (0 ≤ (giB (giB B pl 0) (1 - (giB B pl 0).ho) ((giB B pl 0).pa + 1)).ho) := Lib.hid (by have := HP.out; show 0 ≤ 1 - pl; omega)
  have HQ3 : Hid (1 ≤ (giB (giB B pl 0) (1 - (giB B pl 0).ho) ((giB B pl 0).pa + 1)).pa) := Lib.hid (by show (1 : Int) ≤ 0 + 1; omega)
  go_wp2_with (first | (refine wpList_load_bx _ rfl rfl HXy.out (by kernel_rfl) ?_))
  with_reducible refine (pass_two sy (giB (giB B pl 0) (1 - (giB B pl 0).ho) ((giB B pl 0).pa + 1)) _ HOy.out.rd HKy.out HVy.out (Int.not_lt.mpr HQ2.out) HQ3.out).mono ?_
  rintro e w7 ⟨sz, rfl, ho, hb⟩
  have HC6_w7 : Hid (w6.heap.size ≤ w7.heap.size) := Lib.hid hb.size
  replace HB := Lib.hid (below_via HB.out hb)
  replace HXb := Lib.hid (HXb.out.below hb)
  replace HXx := Lib.hid (HXx.out.below hb)
  replace HXy := Lib.hid (HXy.out.below hb)
  replace HOx := Lib.hid (HOx.out.below hb)
  replace HOy := Lib.hid (HOy.out.below hb)
  replace HWD := Lib.hid (HWD.out.below hb)
  have HOz := Lib.hid ho
  clear ho hb
  go_wp2_with (refine wpList_store_bh rfl _ _ rfl rfl rfl (heap_alloc_new _ _) rfl ?_)
  intro w8 hw0
  have hbx := boxed hw0.out
  have hb := hbx.1
  replace HB := Lib.hid (below_via HB.out hb)
  replace HXb := Lib.hid (HXb.out.below hb)
  replace HXx := Lib.hid (HXx.out.below hb)
  replace HXy := Lib.hid (HXy.out.below hb)
  replace HOx := Lib.hid (HOx.out.below hb)
  replace HOy := Lib.hid (HOy.out.below hb)
  replace HOz := Lib.hid (HOz.out.below hb)
  replace HWD := Lib.hid (HWD.out.below hb)
  have HXz := Lib.hid hbx.2
  have HC7_w8 : Hid (w7.heap.size < w8.heap.size) := Lib.hid HXz.out.lt
  clear hw0 hbx hb
  have HKz : Hid (giB (giB (giB B pl 0) (1 - (giB B pl 0).ho) ((giB B pl 0).pa + 1)) (-1) 0).Ok := Lib.hid (giB_ok HKy.out _ _)
  have HVz : Hid (VB (giB (giB (giB B pl 0) (1 - (giB B pl 0).ho) ((giB B pl 0).pa + 1)) (-1) 0)) := Lib.hid (VB.gi HVy.out (by omega) (by omega))
  go_wp2_with (first | (refine wpList_load_bx _ rfl rfl HXx.out (by kernel_rfl) ?_))
  with_reducible refine (brvalid sx (giB B pl 0) _ HOx.out.rd HKx.out.i HKx.out.sm).mono ?_
  rintro e w9 ⟨⟨r, rfl, hr⟩, hb⟩
  have HC8_w9 : Hid (w8.heap.size ≤ w9.heap.size) := Lib.hid hb.size
  replace HB := Lib.hid (below_via HB.out hb)
  replace HXb := Lib.hid (HXb.out.below hb)
  replace HXx := Lib.hid (HXx.out.below hb)
  replace HXy := Lib.hid (HXy.out.below hb)
  replace HXz := Lib.hid (HXz.out.below hb)
  replace HOx := Lib.hid (HOx.out.below hb)
  replace HOy := Lib.hid (HOy.out.below hb)
  replace HOz := Lib.hid (HOz.out.below hb)
  replace HWD := Lib.hid (HWD.out.below hb)
  obtain rfl : r = true := hr.2 HVx.out
  clear hr hb
  go_wp2_with (first | (refine wpList_load_bx _ rfl rfl HXy.out (by kernel_rfl) ?_))
  with_reducible refine (brvalid sy (giB (giB B pl 0) (1 - (giB B pl 0).ho) ((giB B pl 0).pa + 1)) _ HOy.out.rd HKy.out.i HKy.out.sm).mono ?_
  rintro e w10 ⟨⟨r, rfl, hr⟩, hb⟩
  have HC9_w10 : Hid (w9.heap.size ≤ w10.heap.size) := Lib.hid hb.size
  replace HB := Lib.hid (below_via HB.out hb)
  replace HXb := Lib.hid (HXb.out.below hb)
  replace HXx := Lib.hid (HXx.out.below hb)
  replace HXy := Lib.hid (HXy.out.below hb)
  replace HXz := Lib.hid (HXz.out.below hb)
  replace HOx := Lib.hid (HOx.out.below hb)
  replace HOy := Lib.hid (HOy.out.below hb)
  replace HOz := Lib.hid (HOz.out.below hb)
  replace HWD := Lib.hid (HWD.out.below hb)
  obtain rfl : r = true := hr.2 HVy.out
  clear hr hb
  go_wp2_with (first | (refine wpList_load_bx _ rfl rfl HXz.out (by kernel_rfl) ?_))
  with_reducible refine (brvalid sz (giB (giB (giB B pl 0) (1 - (giB B pl 0).ho) ((giB B pl 0).pa + 1)) (-1) 0) _ HOz.out.rd HKz.out.i HKz.out.sm).mono ?_
  rintro e w11 ⟨⟨r, rfl, hr⟩, hb⟩
  have HC10_w11 : Hid (w10.heap.size ≤ w11.heap.size) := Lib.hid hb.size
  replace HB := Lib.hid (below_via HB.out hb)
  replace HXb := Lib.hid (HXb.out.below hb)
  replace HXx := Lib.hid (HXx.out.below hb)
  replace HXy := Lib.hid (HXy.out.below hb)
  replace HXz := Lib.hid (HXz.out.below hb)
  replace HOx := Lib.hid (HOx.out.below hb)
  replace HOy := Lib.hid (HOy.out.below hb)
  replace HOz := Lib.hid (HOz.out.below hb)
  replace HWD := Lib.hid (HWD.out.below hb)
  obtain rfl : r = true := hr.2 HVz.out
  clear hr hb
  have cx : w11.cell? ⟨w3.heap.size, 36, none⟩ = some (.int .i64 pl) := HXx.out.cell 36
  have cy : w11.cell? ⟨w5.heap.size, 36, none⟩ = some (.int .i64 (1 - pl)) := HXy.out.cell 36
  have cz : w11.cell? ⟨w7.heap.size, 36, none⟩ = some (.int .i64 (-1)) := HXz.out.cell 36
  have hp0 : 0 ≤ pl := HP.out.1
  have hp1 : pl ≤ 1 := HP.out.2
  have hw1 : wrap64 (1 - pl) = 1 - pl := by unfold wrap64; omega
  have qq : ((1 - pl) != (1 - pl)) = false := by simp
  go_upto_region 8 with fail
  clear hp0 hp1 hw1 qq cx cy cz HXx HXy HXz HOx HOy HOz HKx HKy HKz HVx HVy HVz
  go_cut [13] (fun s13 wx => ∃ nc sc, s13 = .pointer (some ⟨nc, 0, none⟩) ∧ Below w.heap.size w wx ∧ Wds wx ∧ Bx wx w.heap.size s B ∧ Bx wx nc sc (clB B) ∧ BdR wx sc (clB B))
  case first =>
    go_wp2_with (first | (refine wpList_load_bx _ rfl rfl HXb.out (by kernel_rfl) ?_))
    with_reducible refine (close_ok s B _ (HR.out.below HB.out) HK.out HV.out).mono ?_
    rintro e w12 ⟨sc, rfl, ho, hb⟩
    have HC0_w12 : Hid (w11.heap.size ≤ w12.heap.size) := Lib.hid hb.size
    replace HB := Lib.hid (below_via HB.out hb)
    replace HXb := Lib.hid (HXb.out.below hb)
    replace HWD := Lib.hid (HWD.out.below hb)
    have HOc := Lib.hid ho
    clear ho hb
    go_wp2_with (refine wpList_store_bh rfl _ _ rfl rfl rfl (heap_alloc_new _ _) rfl ?_)
    intro w13 hw0
    have hbx := boxed hw0.out
    have hb := hbx.1
    replace HB := Lib.hid (below_via HB.out hb)
    replace HXb := Lib.hid (HXb.out.below hb)
    replace HOc := Lib.hid (HOc.out.below hb)
    replace HWD := Lib.hid (HWD.out.below hb)
    have HXc := Lib.hid hbx.2
    have HC1_w13 : Hid (w12.heap.size < w13.heap.size) := Lib.hid HXc.out.lt
    clear hw0 hbx hb
    go_wp2_with fail
    go_meet
    case rel => exact ⟨_, _, rfl, HB.out, HWD.out, HXb.out, HXc.out, HOc.out.rd⟩
  case rest =>
    obtain ⟨wx, rfl⟩ : ∃ W, W = wc := ⟨_, rfl⟩
    obtain ⟨nc, sc, rfl, hb, hd, hx, hc, hr⟩ := hcut
    replace HB := Lib.hid hb
    replace HWD := Lib.hid hd
    replace HXb := Lib.hid hx
    have HXc := Lib.hid hc
    have HRc := Lib.hid hr
    have HBR : Hid (Below wx.heap.size wx wx) := Lib.hid (Below.refl _ _)
    have HKc := Lib.hid (Ok.cl HK.out)
    have HVc := Lib.hid (VB.cl HV.out)
    obtain ⟨ab, cb, eb⟩ := obs_len HXb.out (HR.out.below HB.out)
    obtain ⟨ac, cc, ec⟩ := obs_len HXc.out hr
    rw [cl_len] at ec
    have lb := HXb.out.lt
    have lc := HXc.out.lt
    clear hb hd hx hc hr
    have ql : (B.ob.length != B.ob.length) = false := by simp
    have ql2 : ((B.ob.length : Int) != (B.ob.length : Int)) = false := by simp
    go_upto_region 9 with fail
    refine rg7_9 (w0 := wx) (B := wx.heap.size) (n := wx.heap.size) (L := []) (E := fun _ => True) (F := fun _ => True) (by kernel_rfl) (by kernel_rfl) ⟨by go_grown, by go_size, (by simp [go_sem] <;> omega)⟩ trivial (fun _ _ _ _ => trivial) trivial (fun _ _ _ _ => trivial) (fun w61 K_w61 E_w61 F_w61 => ?_)
    have _ne : Nonempty (KX (wx.heap.size) wx (wx.heap.size) [] (fun _ => True)) := ⟨⟨_, K_w61, E_w61⟩⟩
    have qc : ∀ W', (∃ s' : KX (wx.heap.size) wx (wx.heap.size) [] (fun _ => True), W' = s'.val) → Bx W' (nc) sc (clB B) := by rintro _ ⟨s', rfl⟩; exact HXc.out.below s'.kept.below
    have rb : ∀ s : KX (wx.heap.size) wx (wx.heap.size) [] (fun _ => True), s.val.cell? ⟨w.heap.size, 0, none⟩ = some (.slice ab B.ob.length cb) := fun s => (s.kept.below.cell (p := ⟨w.heap.size, 0, none⟩) lb).trans eb
    have rc : ∀ s : KX (wx.heap.size) wx (wx.heap.size) [] (fun _ => True), s.val.cell? ⟨nc, 0, none⟩ = some (.slice ac B.ob.length cc) := fun s => (s.kept.below.cell (p := ⟨nc, 0, none⟩) lc).trans ec
    repeat (first | (go_big_quiet_want; (first | apply quiet_load_bx _ rfl rfl qc); (focus (simp [go_sem]; rfl)); go_big_quiet_on) | go_big_quiet_step (fail))
    refine wpQuiet_nil ?_
    have KH_w61 := Lib.hid K_w61
    have hw_w61 := K_w61.below
    have hz_w61 := K_w61.size
    clear K_w61
    clear E_w61 F_w61
    refine ⟨fun K hK0 => ?_, trivial⟩
    have hK := Lib.hid hK0
    clear hK0
    have hb := KH_w61.out.below
    replace HB := Lib.hid (below_via HB.out hb)
    replace HBR := Lib.hid (below_via HBR.out hb)
    replace HXb := Lib.hid (HXb.out.below hb)
    replace HXc := Lib.hid (HXc.out.below hb)
    replace HWD := Lib.hid (HWD.out.below hb)
    clear hb
    go_wp2_with fail
    with_reducible refine (brvalid sc (clB B) _ (HRc.out.below HBR.out) HKc.out.i HKc.out.sm).mono ?_
    rintro e w2 ⟨⟨r, rfl, hr⟩, hb⟩
    replace HB := Lib.hid (below_via HB.out hb)
    replace HBR := Lib.hid (below_via HBR.out hb)
    replace HXb := Lib.hid (HXb.out.below hb)
    replace HXc := Lib.hid (HXc.out.below hb)
    replace HWD := Lib.hid (HWD.out.below hb)
    obtain rfl : r = true := hr.2 HVc.out
    clear hr hb
    go_wp2_with fail
    first | (refine ⟨rfl, ⟨⟨_, (⟨HBR.out, HBR.out.size, by simp⟩ : Kept wx.heap.size wx wx.heap.size [] w2), trivial⟩, rfl⟩, hK.out _ _ ?_⟩; clear hK K) | (refine ⟨⟨⟨_, (⟨HBR.out, HBR.out.size, by simp⟩ : Kept wx.heap.size wx wx.heap.size [] w2), trivial⟩, rfl⟩, hK.out _ _ ?_⟩; clear hK K)
    repeat (first | (go_big_quiet_want; (first | apply quiet_load_bx _ rfl rfl qc); (focus (simp [go_sem]; rfl)); go_big_quiet_on) | go_big_quiet_step (fail))
    refine wpQuiet_nil ?_
    repeat (first | (go_big_quiet_want; (first | apply quiet_load_bx _ rfl rfl qc); (focus (simp [go_sem]; rfl)); go_big_quiet_on) | go_big_quiet_step (fail))
    refine wpQuiet_nil ?_
    refine ⟨fun K hK0 => ?_, trivial⟩
    have hK := Lib.hid hK0
    clear hK0
    go_wp2_with fail
    with_reducible refine (close_ok sc (clB B) _ (HRc.out.below HBR.out) HKc.out HVc.out).mono ?_
    rintro e w3 ⟨sd, rfl, ho, hb⟩
    replace HB := Lib.hid (below_via HB.out hb)
    replace HBR := Lib.hid (below_via HBR.out hb)
    replace HXb := Lib.hid (HXb.out.below hb)
    replace HXc := Lib.hid (HXc.out.below hb)
    replace HWD := Lib.hid (HWD.out.below hb)
    rw [cl_two] at ho ⊢
    have HOd := Lib.hid ho
    clear ho hb
    go_wp2_with fail
    first | (refine ⟨rfl, ⟨⟨_, (⟨HBR.out, HBR.out.size, by simp⟩ : Kept wx.heap.size wx wx.heap.size [] w3), trivial⟩, rfl⟩, hK.out _ _ ?_⟩; clear hK K) | (refine ⟨⟨⟨_, (⟨HBR.out, HBR.out.size, by simp⟩ : Kept wx.heap.size wx wx.heap.size [] w3), trivial⟩, rfl⟩, hK.out _ _ ?_⟩; clear hK K)
    refine ⟨fun K hK0 => ?_, trivial⟩
    have hK := Lib.hid hK0
    clear hK0
    go_wp2_with fail
    with_reducible refine (rsame sd sc (clB B) _ HOd.out.rd (HRc.out.below HBR.out)).mono ?_
    rintro e w4 ⟨rfl, hb⟩
    replace HB := Lib.hid (below_via HB.out hb)
    replace HBR := Lib.hid (below_via HBR.out hb)
    replace HXb := Lib.hid (HXb.out.below hb)
    replace HXc := Lib.hid (HXc.out.below hb)
    replace HOd := Lib.hid (HOd.out.below hb)
    replace HWD := Lib.hid (HWD.out.below hb)
    clear hb HOd
    go_wp2_with fail
    first | (refine ⟨rfl, ⟨⟨_, (⟨HBR.out, HBR.out.size, by simp⟩ : Kept wx.heap.size wx wx.heap.size [] w4), trivial⟩, rfl⟩, hK.out _ _ ?_⟩; clear hK K) | (refine ⟨⟨⟨_, (⟨HBR.out, HBR.out.size, by simp⟩ : Kept wx.heap.size wx wx.heap.size [] w4), trivial⟩, rfl⟩, hK.out _ _ ?_⟩; clear hK K)
    repeat (first | (go_big_quiet_want; (first | apply quiet_load_bx _ rfl rfl qc); (focus (simp [go_sem]; rfl)); go_big_quiet_on) | go_big_quiet_step (fail))
    refine wpQuiet_nil ?_
    repeat (first | (go_big_quiet_want; (first | apply quiet_load_bx _ rfl rfl qc); (focus (simp [go_sem]; rfl)); go_big_quiet_on) | go_big_quiet_step (fail))
    refine wpQuiet_nil ?_
    repeat (first | (go_big_quiet_want; (first | apply quiet_load_bx _ rfl rfl qc); (focus (simp [go_sem]; rfl)); go_big_quiet_on) | go_big_quiet_step (fail))
    refine wpQuiet_nil ?_
    repeat (first | (go_big_quiet_want; (first | apply quiet_load_bx _ rfl rfl qc); (focus (simp [go_sem]; rfl)); go_big_quiet_on) | go_big_quiet_step (fail))
    refine wpQuiet_nil ?_
    repeat (first | (go_big_quiet_want; (first | apply quiet_load_bx _ rfl rfl qc); (focus (simp [go_sem]; rfl)); go_big_quiet_on) | go_big_quiet_step (fail))
    refine wpQuiet_nil ?_
    clear rb rc
    clear _ne
    clear eb ec lb lc
    have HNX := Lib.hid (nxA_cases HV.out)
    by_cases ht : B.tu = 1000
    · as_aux_lemma =>
        have HT := Lib.hid ht
        clear ht
        go_wp2_with (first | (refine wpList_load_bx _ rfl rfl HXb.out (by kernel_rfl) ?_))
        with_reducible refine (begin_end s B _ (HR.out.below HB.out) HK.out HV.out HT.out).mono ?_
        rintro e w5 ⟨sn, rfl, ho, hb⟩
        replace HB := Lib.hid (below_via HB.out hb)
        replace HBR := Lib.hid (below_via HBR.out hb)
        replace HXb := Lib.hid (HXb.out.below hb)
        replace HXc := Lib.hid (HXc.out.below hb)
        replace HWD := Lib.hid (HWD.out.below hb)
        have HOn := Lib.hid ho
        clear ho hb
        go_wp2_with (refine wpList_store_bh rfl _ _ rfl rfl rfl (heap_alloc_new _ _) rfl ?_)
        intro w6 hw0
        have hbx := boxed hw0.out
        have hb := hbx.1
        replace HB := Lib.hid (below_via HB.out hb)
        replace HBR := Lib.hid (below_via HBR.out hb)
        replace HXb := Lib.hid (HXb.out.below hb)
        replace HXc := Lib.hid (HXc.out.below hb)
        replace HOn := Lib.hid (HOn.out.below hb)
        replace HWD := Lib.hid (HWD.out.below hb)
        have HXn := Lib.hid hbx.2
        have HC0_w6 : Hid (w5.heap.size < w6.heap.size) := Lib.hid HXn.out.lt
        clear hw0 hbx hb
        have c33 : w6.cell? ⟨w.heap.size, 33, none⟩ = some (.int .i64 B.tu) := HXb.out.cell 33
        have q33 : (B.tu == 1000) = true := by simpa using HT.out
        go_wp2_with fail
        with_reducible refine (known _ HWD.out).mono ?_
        rintro e w7 ⟨rfl, hb⟩
        replace HB := Lib.hid (below_via HB.out hb)
        replace HBR := Lib.hid (below_via HBR.out hb)
        replace HXb := Lib.hid (HXb.out.below hb)
        replace HXc := Lib.hid (HXc.out.below hb)
        replace HXn := Lib.hid (HXn.out.below hb)
        replace HOn := Lib.hid (HOn.out.below hb)
        replace HWD := Lib.hid (HWD.out.below hb)
        clear hb
        go_wp2_with fail
        go_returns
        exact ⟨rfl, HB.out⟩
    · have HT := Lib.hid ht
      clear ht
      go_wp2_with (first | (refine wpList_load_bx _ rfl rfl HXb.out (by kernel_rfl) ?_))
      with_reducible refine (begin_ok s B _ (HR.out.below HB.out) HK.out HV.out HT.out).mono ?_
      rintro e w5 ⟨sn, rfl, ho, hb⟩
      replace HB := Lib.hid (below_via HB.out hb)
      replace HBR := Lib.hid (below_via HBR.out hb)
      replace HXb := Lib.hid (HXb.out.below hb)
      replace HXc := Lib.hid (HXc.out.below hb)
      replace HWD := Lib.hid (HWD.out.below hb)
      have HOn := Lib.hid ho
      clear ho hb
      go_wp2_with (refine wpList_store_bh rfl _ _ rfl rfl rfl (heap_alloc_new _ _) rfl ?_)
      intro w6 hw0
      have hbx := boxed hw0.out
      have hb := hbx.1
      replace HB := Lib.hid (below_via HB.out hb)
      replace HBR := Lib.hid (below_via HBR.out hb)
      replace HXb := Lib.hid (HXb.out.below hb)
      replace HXc := Lib.hid (HXc.out.below hb)
      replace HOn := Lib.hid (HOn.out.below hb)
      replace HWD := Lib.hid (HWD.out.below hb)
      have HXn := Lib.hid hbx.2
      have HC0_w6 : Hid (w5.heap.size < w6.heap.size) := Lib.hid HXn.out.lt
      clear hw0 hbx hb
      have HRn : Hid (BdR w6 sn (beB B)) := Lib.hid HOn.out.rd
      have HKn := Lib.hid (Ok.be HK.out)
      have HVn := Lib.hid (VB.be HV.out HT.out)
      clear HOn
      obtain ⟨nn, hnn⟩ : ∃ n, n = w5.heap.size := ⟨_, rfl⟩
      rw [← hnn] at HXn ⊢
      clear hnn HKc HVc
      go_upto_region 14 with fail
      go_cut [168] (fun s0 wy => s0 = .bool false ∧ ThS w s B nc sc nn sn wy)
      case first =>
        as_aux_lemma =>
          have HBN : Hid (Below w6.heap.size w6 w6) := Lib.hid (Below.refl _ _)
          go_wp2_with (first | (refine wpList_load_bx _ rfl rfl HXn.out (by kernel_rfl) ?_))
          with_reducible refine (brvalid sn (beB B) _ (HRn.out.below HBN.out) HKn.out.i HKn.out.sm).mono ?_
          rintro e w7 ⟨⟨r, rfl, hr⟩, hb⟩
          replace HB := Lib.hid (below_via HB.out hb)
          replace HBR := Lib.hid (below_via HBR.out hb)
          replace HBN := Lib.hid (below_via HBN.out hb)
          replace HXb := Lib.hid (HXb.out.below hb)
          replace HXc := Lib.hid (HXc.out.below hb)
          replace HXn := Lib.hid (HXn.out.below hb)
          replace HWD := Lib.hid (HWD.out.below hb)
          obtain rfl : r = true := hr.2 HVn.out
          clear hr hb
          have HTS : Hid (ThS w s B nc sc nn sn w7) := Lib.hid ⟨HB.out, HWD.out, HXb.out, HXc.out, HXn.out, HR.out.below HB.out, HRc.out.below HBR.out, HRn.out.below HBN.out⟩
          obtain ⟨ab, cb, eb⟩ := obs_len HXb.out HTS.out.rb
          obtain ⟨an, cn, en⟩ := obs_len HXn.out HTS.out.rn
          rw [be_len] at en
          have e35 : w7.cell? ⟨nn, 35, none⟩ = some (.int .i64 1) := HXn.out.cell 35
          have e34 : w7.cell? ⟨nn, 34, none⟩ = some (.int .i64 (nxA B)) := HXn.out.cell 34
          have f34 : w7.cell? ⟨w.heap.size, 34, none⟩ = some (.int .i64 B.ac) := HXb.out.cell 34
          have f33 : w7.cell? ⟨w.heap.size, 33, none⟩ = some (.int .i64 B.tu) := HXb.out.cell 33
          have hq : (nxA B == B.ac) = false ∨ ((nxA B == B.ac) = true ∧ decide (B.tu > 0) = false) := by
            by_cases h0 : B.tu = 0
            · cases hh : (nxA B == B.ac)
              · exact .inl rfl
              · exact .inr ⟨rfl, by simp [h0]⟩
            · exact .inl (by unfold nxA; rw [if_neg h0]; simp; omega)
          rcases hq with hq | ⟨hq, hq2⟩
          · go_wp2_with fail
            go_meet
            case rel => exact ⟨rfl, HTS.out⟩
          · go_wp2_with fail
            go_meet
            case rel => exact ⟨rfl, HTS.out⟩
      case rest =>
        as_aux_lemma =>
          obtain ⟨wy, rfl⟩ : ∃ W, W = wc := ⟨_, rfl⟩
          obtain ⟨rfl, hs⟩ := hcut
          have HLN : Hid (B.ob.length ≤ 500) := Lib.hid HV.out.num.2.2.2.2.2.1
          clear HK HV HT HR HB HWD HXb HXc HRc HBR HXn HRn HKn HVn
          obtain ⟨p, hp2, hnx⟩ := HNX.out
          have i3 : (0 : Int) ≤ (p : Int) := by omega
          have i4 : (p : Int) < 2 := by omega
          have hnp : (nxA B).toNat = p := by rw [hnx]; rfl
          go_wp2_with fail
          go_loopw [15] (fun v wr => ThL w s B nc sc nn sn v wr) (fun v _ => B.ob.length - (intOf v).toNat)
          case atStart => exact ⟨0, by omega, rfl, hs⟩
          case round =>
            clear hs
            obtain ⟨k, hk, rfl, hs⟩ := hrel
            have HS := Lib.hid hs
            by_cases hkl : k < B.ob.length
            · obtain ⟨x, hx⟩ : ∃ x, B.ob[k]? = some x := ⟨_, List.getElem?_eq_getElem hkl⟩
              obtain ⟨y, hy, y1, y2, y3⟩ := cl_at hx
              obtain ⟨z, hz, z1, z2⟩ := be_at hx
              rw [hnp] at z2
              obtain ⟨b1, o1, c1, e1, g1, r1⟩ := obj_at hs.bb hs.rb hx
              have HKL := Lib.hid hkl
              have i1 : (0 : Int) ≤ (k : Int) := by omega
              have i2 : (k : Int) < (B.ob.length : Int) := by omega
              have i5 : decide ((k : Int) < (B.ob.length : Int)) = true := decide_eq_true i2
              have HY := Lib.hid hy
              have HZ := Lib.hid hz
              have HY1 := Lib.hid y1
              have HY2 := Lib.hid y2
              have HY3 := Lib.hid y3
              have HZ1 := Lib.hid z1
              have HZ2 := Lib.hid z2
              have HR1 := Lib.hid r1
              clear hs hx hy hz y1 y2 y3 z1 z2 r1
              go_upto_region 19 with fail
              go_wp2_with (first | (refine wpList_load_mid rfl 57 _ rfl b1 (o1 + k * 12) rfl (oc x) _ HR1.out Tryd.underlying57 rfl rfl ?_) | (refine wpList_store_ob (x := x) rfl _ _ rfl rfl rfl (heap_alloc_new _ _) rfl ?_; intro wv hw0))
              have hbx := oboxed hw0.out
              replace HS := Lib.hid (HS.out.keep hbx.1)
              have HPO := Lib.hid hbx.2
              obtain ⟨po, hpo⟩ : ∃ n, n = wr.heap.size := ⟨_, rfl⟩
              rw [← hpo] at HPO ⊢
              clear hw0 hbx hpo HR1 e1 g1 i5
              obtain ⟨b2, o2, c2, e2, g2, r2⟩ := obj_at HS.out.bc HS.out.rc HY.out
              rw [cl_len] at e2
              have lc := HS.out.bc.lt
              have lp := HPO.out.lt
              have n6 : wv.cell? ⟨po, 6, none⟩ = some (.int .i64 x.co) := HPO.out.cell 6 _ rfl
              have n9 : wv.cell? ⟨po, 9, none⟩ = some (.bool x.ta) := HPO.out.cell 9 _ rfl
              have n11 : wv.cell? ⟨po, 11, none⟩ = some (.bool x.dm) := HPO.out.cell 11 _ rfl
              have m6 : wv.cell? ⟨b2, o2 + k * 12 + 6, none⟩ = some (.int .i64 x.co) := by have h := r2 6 _ rfl; rw [HY2.out] at h; exact h
              have m9 : wv.cell? ⟨b2, o2 + k * 12 + 9, none⟩ = some (.bool x.ta) := by have h := r2 9 _ rfl; rw [HY1.out] at h; exact h
              have m11 : wv.cell? ⟨b2, o2 + k * 12 + 11, none⟩ = some (.bool x.dm) := by have h := r2 11 _ rfl; rw [HY3.out] at h; exact h
              have qa : (x.ta != x.ta) = false := by simp
              have qb : (x.co != x.co) = false := by simp
              have qc : (x.dm != x.dm) = false := by simp
              clear r2 HY HY1 HY2 HY3
              go_upto_region 20 with fail
              rw [put_none]
              refine rg7_20 (w0 := wv) (B := wv.heap.size) (n := wv.heap.size) (L := []) (E := fun _ => True) (F := fun _ => True) (by kernel_rfl) (by kernel_rfl) ⟨by go_grown, by go_size, (by simp [go_sem] <;> omega)⟩ trivial (fun _ _ _ _ => trivial) trivial (fun _ _ _ _ => trivial) (fun w91 K_w91 E_w91 F_w91 => ?_)
              have _ne : Nonempty (KX (wv.heap.size) wv (wv.heap.size) [] (fun _ => True)) := ⟨⟨_, K_w91, E_w91⟩⟩
              repeat (go_big_quiet_step (fail))
              refine wpQuiet_nil ?_
              have ra : ∀ s : KX (wv.heap.size) wv (wv.heap.size) [] (fun _ => True), s.val.cell? ⟨nc, 0, none⟩ = some (.slice (some ⟨b2, o2, none⟩) B.ob.length c2) := fun s => (s.kept.below.cell (p := ⟨nc, 0, none⟩) lc).trans e2
              have rb6 : ∀ s : KX (wv.heap.size) wv (wv.heap.size) [] (fun _ => True), s.val.cell? ⟨b2, o2 + k * 12 + 6, none⟩ = some (.int .i64 x.co) := fun s => (s.kept.below.cell (p := ⟨b2, o2 + k * 12 + 6, none⟩) g2).trans m6
              have rb9 : ∀ s : KX (wv.heap.size) wv (wv.heap.size) [] (fun _ => True), s.val.cell? ⟨b2, o2 + k * 12 + 9, none⟩ = some (.bool x.ta) := fun s => (s.kept.below.cell (p := ⟨b2, o2 + k * 12 + 9, none⟩) g2).trans m9
              have rb11 : ∀ s : KX (wv.heap.size) wv (wv.heap.size) [] (fun _ => True), s.val.cell? ⟨b2, o2 + k * 12 + 11, none⟩ = some (.bool x.dm) := fun s => (s.kept.below.cell (p := ⟨b2, o2 + k * 12 + 11, none⟩) g2).trans m11
              have rc6 : ∀ s : KX (wv.heap.size) wv (wv.heap.size) [] (fun _ => True), s.val.cell? ⟨po, 6, none⟩ = some (.int .i64 x.co) := fun s => (s.kept.below.cell (p := ⟨po, 6, none⟩) lp).trans n6
              have rc9 : ∀ s : KX (wv.heap.size) wv (wv.heap.size) [] (fun _ => True), s.val.cell? ⟨po, 9, none⟩ = some (.bool x.ta) := fun s => (s.kept.below.cell (p := ⟨po, 9, none⟩) lp).trans n9
              have rc11 : ∀ s : KX (wv.heap.size) wv (wv.heap.size) [] (fun _ => True), s.val.cell? ⟨po, 11, none⟩ = some (.bool x.dm) := fun s => (s.kept.below.cell (p := ⟨po, 11, none⟩) lp).trans n11
              repeat (go_big_quiet_step (fail))
              refine wpQuiet_nil ?_
              repeat (go_big_quiet_step (fail))
              refine wpQuiet_nil ?_
              repeat (go_big_quiet_step (fail))
              refine wpQuiet_nil ?_
              repeat (go_big_quiet_step (fail))
              refine wpQuiet_nil ?_
              repeat (go_big_quiet_step (fail))
              refine wpQuiet_nil ?_
              repeat (go_big_quiet_step (fail))
              refine wpQuiet_nil ?_
              repeat (go_big_quiet_step (fail))
              refine wpQuiet_nil ?_
              repeat (go_big_quiet_step (fail))
              refine wpQuiet_nil ?_
              repeat (go_big_quiet_step (fail))
              refine wpQuiet_nil ?_
              repeat (go_big_quiet_step (fail))
              refine wpQuiet_nil ?_
              repeat (go_big_quiet_step (fail))
              refine wpQuiet_nil ?_
              repeat (go_big_quiet_step (fail))
              refine wpQuiet_nil ?_
              clear ra rb6 rb9 rb11 rc6 rc9 rc11
              clear _ne
              have KH_w91 := Lib.hid K_w91
              have hw_w91 := K_w91.below
              have hz_w91 := K_w91.size
              clear K_w91
              clear E_w91 F_w91
              replace HS := Lib.hid (HS.out.keep KH_w91.out.below)
              replace HPO : Hid (Obx w91 po x) := Lib.hid ((KH_w91.out.below.block _ lp).trans HPO.out)
              clear qa qb qc n6 n9 n11 m6 m9 m11 e2 g2 lc lp KH_w91
              obtain ⟨b3, o3, c3, e3, g3, r3⟩ := obj_at HS.out.bn HS.out.rn HZ.out
              rw [be_len] at e3
              have ln := HS.out.bn.lt
              have lp := HPO.out.lt
              have e34 : w91.cell? ⟨nn, 34, none⟩ = some (.int .i64 (p : Nat)) := by rw [← hnx]; exact HS.out.bn.cell 34
              obtain ⟨⟨fa, fn, fc⟩, hf⟩ : ∃ q, sn.zl p 2 = q := ⟨_, rfl⟩
              have ef : w91.cell? ⟨nn, 1 + p * 14 + 7, none⟩ = some (.slice fa fn fc) := by have h := HS.out.bn.seat hp2 7 _ rfl; rw [hf] at h; exact h
              have HFR : Hid (Rw ic 1 w91 (.slice fa fn fc) ((beB B).seat p).fld) := Lib.hid (by have h := HS.out.rn.zone p 2; rw [hf] at h; exact h)
              have z1 := HZ1.out
              have z2 := HZ2.out
              have hz := HZ.out
              clear HZ HZ1 HZ2 hf
              by_cases hin : x.id ∉ ((beB B).seat p).fld
              · as_aux_lemma =>
                  have n0 : w91.cell? ⟨po, 0, none⟩ = some (.int .i64 x.id) := HPO.out.cell 0 _ rfl
                  have n5 : w91.cell? ⟨po, 5, none⟩ = some (.int .i64 x.da) := HPO.out.cell 5 _ rfl
                  have m5 : w91.cell? ⟨b3, o3 + k * 12 + 5, none⟩ = some (.int .i64 x.da) := by have h := r3 5 _ rfl; rw [z1] at h; exact h
                  have qc : (((((beB B).seat p).fld.count x.id : Nat) : Int) == 0) = true := by rw [List.count_eq_zero.2 hin]; rfl
                  have qd : (x.da != x.da) = false := by simp
                  clear hz
                  go_upto_region 22 with fail
                  refine rg7_22 (w0 := w91) (B := w91.heap.size) (n := w91.heap.size) (L := []) (E := fun _ => True) (F := fun _ => True) (by kernel_rfl) (by kernel_rfl) ⟨by go_grown, by go_size, (by simp [go_sem] <;> omega)⟩ trivial (fun _ _ _ _ => trivial) trivial (fun _ _ _ _ => trivial) (fun w191 K_w191 E_w191 F_w191 => ?_)
                  have _ne : Nonempty (KX (w91.heap.size) w91 (w91.heap.size) [] (fun _ => True)) := ⟨⟨_, K_w191, E_w191⟩⟩
                  have q1 : ∀ W', (∃ s' : KX (w91.heap.size) w91 (w91.heap.size) [] (fun _ => True), W' = s'.val) → W'.rangeAt b3 (o3 + k * 12) (oc x) := by rintro _ ⟨s', rfl⟩; exact fun j u hu => (s'.kept.below.cell (p := ⟨b3, _, none⟩) g3).trans (r3 j u (by rw [z2 hin]; exact hu))
                  have q2 : ∀ W', (∃ s' : KX (w91.heap.size) w91 (w91.heap.size) [] (fun _ => True), W' = s'.val) → W'.rangeAt po 0 (oc x) := by rintro _ ⟨s', rfl⟩; exact fun j u hu => (s'.kept.below.cell (p := ⟨po, _, none⟩) lp).trans (by rw [Nat.zero_add]; exact HPO.out.cell j u hu)
                  clear r3 z1 z2 hin
                  repeat (first | (go_big_quiet_want; (first | apply quiet_load_ob _ rfl rfl q1 | apply quiet_load_ob _ rfl rfl q2 | apply quiet_neq_ob _ _ rfl rfl rfl); (focus (simp [go_sem]; rfl)); go_big_quiet_on) | go_big_quiet_step (fail))
                  refine wpQuiet_nil ?_
                  have rn34 : ∀ s : KX (w91.heap.size) w91 (w91.heap.size) [] (fun _ => True), s.val.cell? ⟨nn, 34, none⟩ = some (.int .i64 (p : Nat)) := fun s => (s.kept.below.cell (p := ⟨nn, 34, none⟩) ln).trans e34
                  have rfd : ∀ s : KX (w91.heap.size) w91 (w91.heap.size) [] (fun _ => True), s.val.cell? ⟨nn, 1 + p * 14 + 7, none⟩ = some (.slice fa fn fc) := fun s => (s.kept.below.cell (p := ⟨nn, 1 + p * 14 + 7, none⟩) ln).trans ef
                  have rn0 : ∀ s : KX (w91.heap.size) w91 (w91.heap.size) [] (fun _ => True), s.val.cell? ⟨nn, 0, none⟩ = some (.slice (some ⟨b3, o3, none⟩) B.ob.length c3) := fun s => (s.kept.below.cell (p := ⟨nn, 0, none⟩) ln).trans e3
                  have rc0 : ∀ s : KX (w91.heap.size) w91 (w91.heap.size) [] (fun _ => True), s.val.cell? ⟨po, 0, none⟩ = some (.int .i64 x.id) := fun s => (s.kept.below.cell (p := ⟨po, 0, none⟩) lp).trans n0
                  have rc5 : ∀ s : KX (w91.heap.size) w91 (w91.heap.size) [] (fun _ => True), s.val.cell? ⟨po, 5, none⟩ = some (.int .i64 x.da) := fun s => (s.kept.below.cell (p := ⟨po, 5, none⟩) lp).trans n5
                  have rb5 : ∀ s : KX (w91.heap.size) w91 (w91.heap.size) [] (fun _ => True), s.val.cell? ⟨b3, o3 + k * 12 + 5, none⟩ = some (.int .i64 x.da) := fun s => (s.kept.below.cell (p := ⟨b3, o3 + k * 12 + 5, none⟩) g3).trans m5
                  repeat (first | (go_big_quiet_want; (first | apply quiet_load_ob _ rfl rfl q1 | apply quiet_load_ob _ rfl rfl q2 | apply quiet_neq_ob _ _ rfl rfl rfl); (focus (simp [go_sem]; rfl)); go_big_quiet_on) | go_big_quiet_step (fail))
                  refine wpQuiet_nil ?_
                  repeat (first | (go_big_quiet_want; (first | apply quiet_load_ob _ rfl rfl q1 | apply quiet_load_ob _ rfl rfl q2 | apply quiet_neq_ob _ _ rfl rfl rfl); (focus (simp [go_sem]; rfl)); go_big_quiet_on) | go_big_quiet_step (fail))
                  refine wpQuiet_nil ?_
                  repeat (first | (go_big_quiet_want; (first | apply quiet_load_ob _ rfl rfl q1 | apply quiet_load_ob _ rfl rfl q2 | apply quiet_neq_ob _ _ rfl rfl rfl); (focus (simp [go_sem]; rfl)); go_big_quiet_on) | go_big_quiet_step (fail))
                  refine wpQuiet_nil ?_
                  have KH_w191 := Lib.hid K_w191
                  have hw_w191 := K_w191.below
                  have hz_w191 := K_w191.size
                  clear K_w191
                  clear E_w191 F_w191
                  refine ⟨fun K hK0 => ?_, trivial⟩
                  have hK := Lib.hid hK0
                  clear hK0
                  go_wp2_with fail
                  with_reducible refine (countI _ _ _ _ (HFR.out.below KH_w191.out.below)).mono ?_
                  rintro e w99 ⟨rfl, rfl⟩
                  go_wp2_with fail
                  first | (refine ⟨rfl, ⟨⟨_, KH_w191.out, trivial⟩, rfl⟩, hK.out _ _ ?_⟩; clear hK K) | (refine ⟨⟨⟨_, KH_w191.out, trivial⟩, rfl⟩, hK.out _ _ ?_⟩; clear hK K)
                  repeat (first | (go_big_quiet_want; (first | apply quiet_load_ob _ rfl rfl q1 | apply quiet_load_ob _ rfl rfl q2 | apply quiet_neq_ob _ _ rfl rfl rfl); (focus (simp [go_sem]; rfl)); go_big_quiet_on) | go_big_quiet_step (fail))
                  refine wpQuiet_nil ?_
                  repeat (first | (go_big_quiet_want; (first | apply quiet_load_ob _ rfl rfl q1 | apply quiet_load_ob _ rfl rfl q2 | apply quiet_neq_ob _ _ rfl rfl rfl); (focus (simp [go_sem]; rfl)); go_big_quiet_on) | go_big_quiet_step (fail))
                  refine wpQuiet_nil ?_
                  repeat (first | (go_big_quiet_want; (first | apply quiet_load_ob _ rfl rfl q1 | apply quiet_load_ob _ rfl rfl q2 | apply quiet_neq_ob _ _ rfl rfl rfl); (focus (simp [go_sem]; rfl)); go_big_quiet_on) | go_big_quiet_step (fail))
                  refine wpQuiet_nil ?_
                  repeat (first | (go_big_quiet_want; (first | apply quiet_load_ob _ rfl rfl q1 | apply quiet_load_ob _ rfl rfl q2 | apply quiet_neq_ob _ _ rfl rfl rfl); (focus (simp [go_sem]; rfl)); go_big_quiet_on) | go_big_quiet_step (fail))
                  refine wpQuiet_nil ?_
                  repeat (first | (go_big_quiet_want; (first | apply quiet_load_ob _ rfl rfl q1 | apply quiet_load_ob _ rfl rfl q2 | apply quiet_neq_ob _ _ rfl rfl rfl); (focus (simp [go_sem]; rfl)); go_big_quiet_on) | go_big_quiet_step (fail))
                  refine wpQuiet_nil ?_
                  repeat (first | (go_big_quiet_want; (first | apply quiet_load_ob _ rfl rfl q1 | apply quiet_load_ob _ rfl rfl q2 | apply quiet_neq_ob _ _ rfl rfl rfl); (focus (simp [go_sem]; rfl)); go_big_quiet_on) | go_big_quiet_step (fail))
                  refine wpQuiet_nil ?_
                  repeat (first | (go_big_quiet_want; (first | apply quiet_load_ob _ rfl rfl q1 | apply quiet_load_ob _ rfl rfl q2 | apply quiet_neq_ob _ _ rfl rfl rfl); (focus (simp [go_sem]; rfl)); go_big_quiet_on) | go_big_quiet_step (fail))
                  refine wpQuiet_nil ?_
                  repeat (first | (go_big_quiet_want; (first | apply quiet_load_ob _ rfl rfl q1 | apply quiet_load_ob _ rfl rfl q2 | apply quiet_neq_ob _ _ rfl rfl rfl); (focus (simp [go_sem]; rfl)); go_big_quiet_on) | go_big_quiet_step (fail))
                  refine wpQuiet_nil ?_
                  repeat (first | (go_big_quiet_want; (first | apply quiet_load_ob _ rfl rfl q1 | apply quiet_load_ob _ rfl rfl q2 | apply quiet_neq_ob _ _ rfl rfl rfl); (focus (simp [go_sem]; rfl)); go_big_quiet_on) | go_big_quiet_step (fail))
                  refine wpQuiet_nil ?_
                  clear rn34 rfd rn0 rc0 rc5 rb5
                  clear _ne
                  replace HS := Lib.hid (HS.out.keep KH_w191.out.below)
                  clear e3 e34 ef HFR HPO
                  have hwr : wrap64 ((k : Int) + 1) = (k : Int) + 1 := by have hkl := HKL.out; have hl := HLN.out; unfold wrap64; omega
                  go_wp2_with fail
                  go_roundw
                  case rel => exact ⟨k + 1, HKL.out, by rw [hwr]; rfl, HS.out⟩
                  case measure => exact th_meas hwr HKL.out
              · as_aux_lemma =>
                  replace hin := Classical.not_not.1 hin
                  have n0 : w91.cell? ⟨po, 0, none⟩ = some (.int .i64 x.id) := HPO.out.cell 0 _ rfl
                  have n5 : w91.cell? ⟨po, 5, none⟩ = some (.int .i64 x.da) := HPO.out.cell 5 _ rfl
                  have m5 : w91.cell? ⟨b3, o3 + k * 12 + 5, none⟩ = some (.int .i64 x.da) := by have h := r3 5 _ rfl; rw [z1] at h; exact h
                  have qc : (((((beB B).seat p).fld.count x.id : Nat) : Int) == 0) = false := by have h := List.count_pos_iff.2 hin; simp only [beq_eq_false_iff_ne, ne_eq]; omega
                  have qd : (x.da != x.da) = false := by simp
                  clear hz r3 z1 z2 hin
                  go_upto_region 22 with fail
                  refine rg7_22 (w0 := w91) (B := w91.heap.size) (n := w91.heap.size) (L := []) (E := fun _ => True) (F := fun _ => True) (by kernel_rfl) (by kernel_rfl) ⟨by go_grown, by go_size, (by simp [go_sem] <;> omega)⟩ trivial (fun _ _ _ _ => trivial) trivial (fun _ _ _ _ => trivial) (fun w191 K_w191 E_w191 F_w191 => ?_)
                  have _ne : Nonempty (KX (w91.heap.size) w91 (w91.heap.size) [] (fun _ => True)) := ⟨⟨_, K_w191, E_w191⟩⟩
                  repeat (go_big_quiet_step (fail))
                  refine wpQuiet_nil ?_
                  have rn34 : ∀ s : KX (w91.heap.size) w91 (w91.heap.size) [] (fun _ => True), s.val.cell? ⟨nn, 34, none⟩ = some (.int .i64 (p : Nat)) := fun s => (s.kept.below.cell (p := ⟨nn, 34, none⟩) ln).trans e34
                  have rfd : ∀ s : KX (w91.heap.size) w91 (w91.heap.size) [] (fun _ => True), s.val.cell? ⟨nn, 1 + p * 14 + 7, none⟩ = some (.slice fa fn fc) := fun s => (s.kept.below.cell (p := ⟨nn, 1 + p * 14 + 7, none⟩) ln).trans ef
                  have rn0 : ∀ s : KX (w91.heap.size) w91 (w91.heap.size) [] (fun _ => True), s.val.cell? ⟨nn, 0, none⟩ = some (.slice (some ⟨b3, o3, none⟩) B.ob.length c3) := fun s => (s.kept.below.cell (p := ⟨nn, 0, none⟩) ln).trans e3
                  have rc0 : ∀ s : KX (w91.heap.size) w91 (w91.heap.size) [] (fun _ => True), s.val.cell? ⟨po, 0, none⟩ = some (.int .i64 x.id) := fun s => (s.kept.below.cell (p := ⟨po, 0, none⟩) lp).trans n0
                  have rc5 : ∀ s : KX (w91.heap.size) w91 (w91.heap.size) [] (fun _ => True), s.val.cell? ⟨po, 5, none⟩ = some (.int .i64 x.da) := fun s => (s.kept.below.cell (p := ⟨po, 5, none⟩) lp).trans n5
                  have rb5 : ∀ s : KX (w91.heap.size) w91 (w91.heap.size) [] (fun _ => True), s.val.cell? ⟨b3, o3 + k * 12 + 5, none⟩ = some (.int .i64 x.da) := fun s => (s.kept.below.cell (p := ⟨b3, o3 + k * 12 + 5, none⟩) g3).trans m5
                  repeat (go_big_quiet_step (fail))
                  refine wpQuiet_nil ?_
                  repeat (go_big_quiet_step (fail))
                  refine wpQuiet_nil ?_
                  repeat (go_big_quiet_step (fail))
                  refine wpQuiet_nil ?_
                  have KH_w191 := Lib.hid K_w191
                  have hw_w191 := K_w191.below
                  have hz_w191 := K_w191.size
                  clear K_w191
                  clear E_w191 F_w191
                  refine ⟨fun K hK0 => ?_, trivial⟩
                  have hK := Lib.hid hK0
                  clear hK0
                  go_wp2_with fail
                  with_reducible refine (countI _ _ _ _ (HFR.out.below KH_w191.out.below)).mono ?_
                  rintro e w99 ⟨rfl, rfl⟩
                  go_wp2_with fail
                  first | (refine ⟨rfl, ⟨⟨_, KH_w191.out, trivial⟩, rfl⟩, hK.out _ _ ?_⟩; clear hK K) | (refine ⟨⟨⟨_, KH_w191.out, trivial⟩, rfl⟩, hK.out _ _ ?_⟩; clear hK K)
                  repeat (go_big_quiet_step (fail))
                  refine wpQuiet_nil ?_
                  repeat (go_big_quiet_step (fail))
                  refine wpQuiet_nil ?_
                  repeat (go_big_quiet_step (fail))
                  refine wpQuiet_nil ?_
                  repeat (go_big_quiet_step (fail))
                  refine wpQuiet_nil ?_
                  repeat (go_big_quiet_step (fail))
                  refine wpQuiet_nil ?_
                  repeat (go_big_quiet_step (fail))
                  refine wpQuiet_nil ?_
                  repeat (go_big_quiet_step (fail))
                  refine wpQuiet_nil ?_
                  repeat (go_big_quiet_step (fail))
                  refine wpQuiet_nil ?_
                  repeat (go_big_quiet_step (fail))
                  refine wpQuiet_nil ?_
                  clear rn34 rfd rn0 rc0 rc5 rb5
                  clear _ne
                  replace HS := Lib.hid (HS.out.keep KH_w191.out.below)
                  clear e3 e34 ef HFR HPO
                  have hwr : wrap64 ((k : Int) + 1) = (k : Int) + 1 := by have hkl := HKL.out; have hl := HLN.out; unfold wrap64; omega
                  go_wp2_with fail
                  go_roundw
                  case rel => exact ⟨k + 1, HKL.out, by rw [hwr]; rfl, HS.out⟩
                  case measure => exact th_meas hwr HKL.out
            · obtain ⟨ab, cb, eb⟩ := obs_len hs.bb hs.rb
              have i5 : decide ((k : Int) < (B.ob.length : Int)) = false := decide_eq_false (by omega)
              clear hs
              go_wp2_with fail
              with_reducible refine (known _ HS.out.wds).mono ?_
              rintro e w9 ⟨rfl, hb⟩
              replace HS := Lib.hid (HS.out.keep hb)
              clear hb
              go_wp2_with fail
              go_returns
              exact ⟨rfl, HS.out.below⟩
theorem tholds (s : Bs) (B : Bd) (pl : Int) (w : World) (h : BdR w s B) (hi : B.I) (hwd : Wds w) : Calls Tryd.prog 7 #[bv s B, .int .i64 pl] w fun e w' => e = .returned (.bool true) ∧ Below w.heap.size w w' := by
  by_cases hv : VB B
  · by_cases a1 : pl < 0
    · exact holds_n1 s B pl w h hi hwd hv a1
    by_cases a2 : 1 < pl
    · exact holds_n2 s B pl w h hi hwd hv a2
    exact holds_ok s B pl w h hi hwd hv (by omega)
  · exact holds_bad s B pl w h hi hwd hv
end Go.Proofs.YtkkpckkkcclhhaaDoor
