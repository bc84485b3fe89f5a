/- What is public of a board, by the law. -/
import Derived.Test.YteoeahmnonolmaaSW
import Derived.Test.YteoeahmnonolmaaSLo
import Derived.Deep.DeepCutAuto
import Derived.LoopTactic
import Derived.Deep.MidRow
namespace Go.Proofs.Yteoeahmnonolmaa
open Go.RowKit Plain
set_option linter.unusedVariables false
set_option linter.unusedSimpArgs false

theorem rg25_7 {P : Program} {B n : Nat} {w0 : World} {L : List (Nat × Nat × Value)} {E F : World → Prop} {id : Nat} {Q : Exit → Act → World → Prop} {a : Act} {w : World} {o0 o1 o2 o3 o4 o5 o6 o7 o8 o9 : Oper} (hm : P.follows .mixedOrders = true)
    (hB : (Region.noSelect [o0, o1, o2, o3, o4, o5, o6, o7, o8, o9].toArray && Scr.ok .any [o0, o1, o2, o3, o4, o5, o6, o7, o8, o9].toArray [3] [0, 1, 2, 4, 5, 6, 9] (.free 0 (.free 1 (.free 2 (.free 4 (.free 5 (.free 6 (.read 3 (.alt 7 (.alt 8 (.free 9 .done) .stop) .stop)))))))) true true [o0, o1, o2, o3, o4, o5, o6, o7, o8, o9].toArray.size (Array.replicate [o0, o1, o2, o3, o4, o5, o6, o7, o8, o9].toArray.size false)) = true)
    (k : Kept B w0 n L w) (he : E w) (hE : ∀ W W', E W → Below W.heap.size W W' → E W') (hf : F w) (hF : ∀ W W', F W → Below W.heap.size W W' → F W')
    (h : ∀ wk, Kept B w0 n L wk → E wk → F wk → wpQuiet P [o0, o1, o2, o3, o4, o5, o6, o7, o8, o9].toArray (fun _ => True) (fun a0 => wpQuiet P [o0, o1, o2, o3, o4, o5, o6, o7, o8, o9].toArray (fun w' => ∃ s : KX B w0 n L E, w' = s.val) (fun a1 => ((∀ K2 : Act → World → Prop, (∀ a2 w2, ((∀ K3 : Act → World → Prop, (∀ a3 w3, wpQuiet P [o0, o1, o2, o3, o4, o5, o6, o7, o8, o9].toArray (fun _ => True) (fun a4 => Q .normal a4 w3) [o9] a3 → K3 a3 w3) → wpList P [o0, o1, o2, o3, o4, o5, o6, o7, o8, o9].toArray (fun e a3 w3 => e = .normal ∧ (∃ s : KX B w0 n L E, w3 = s.val) ∧ K3 a3 w3) [o8] a2 w2) ∧ True) → K2 a2 w2) → wpList P [o0, o1, o2, o3, o4, o5, o6, o7, o8, o9].toArray (fun e a2 w2 => e = .normal ∧ (∃ s : KX B w0 n L E, w2 = s.val) ∧ K2 a2 w2) [o7] a1 wk) ∧ True)) [o3] a0) [o0, o1, o2, o4, o5, o6] a) : (Code.region id [o0, o1, o2, o3, o4, o5, o6, o7, o8, o9].toArray true).wp P Q a w := by
  have e1 : E w.drew := hE _ _ he ((Below.refl _ _).drew)
  have g := h _ k.drew e1 (hF _ _ hf ((Below.refl _ _).drew))
  exact wp_region_scr (U := (fun w' => ∃ s : KX B w0 n L E, w' = s.val)) (ops := [o0, o1, o2, o3, o4, o5, o6, o7, o8, o9].toArray) (.free 0 (.free 1 (.free 2 (.free 4 (.free 5 (.free 6 (.read 3 (.alt 7 (.alt 8 (.free 9 .done) .stop) .stop)))))))) [3] [0, 1, 2, 4, 5, 6, 9] hm hB ⟨⟨_, k.drew, e1⟩, rfl⟩ (Scr.of_free rfl g (fun _ g0 => Scr.of_free rfl g0 (fun _ g1 => Scr.of_free rfl g1 (fun _ g2 => Scr.of_free rfl g2 (fun _ g3 => Scr.of_free rfl g3 (fun _ g4 => Scr.of_free rfl g4 (fun _ g5 => Scr.of_read rfl g5 (fun _ g6 => (Scr.of_alt rfl (g6.1 _ (fun _ _ g => g)) (fun _ _ g7 => (Scr.of_alt rfl (g7.1 _ (fun _ _ g => g)) (fun _ _ g8 => Scr.of_free rfl g8 (fun _ g9 => g9)) trivial)) trivial)))))))))
theorem rg25_8 {P : Program} {B n : Nat} {w0 : World} {L : List (Nat × Nat × Value)} {E F : World → Prop} {id : Nat} {Q : Exit → Act → World → Prop} {a : Act} {w : World} {o0 o1 o2 o3 o4 o5 o6 o7 o8 o9 o10 o11 o12 o13 o14 o15 o16 o17 o18 o19 o20 o21 o22 o23 o24 o25 : Oper} (hm : P.follows .mixedOrders = true)
    (hB : (Region.noSelect [o0, o1, o2, o3, o4, o5, o6, o7, o8, o9, o10, o11, o12, o13, o14, o15, o16, o17, o18, o19, o20, o21, o22, o23, o24, o25].toArray && Scr.ok .any [o0, o1, o2, o3, o4, o5, o6, o7, o8, o9, o10, o11, o12, o13, o14, o15, o16, o17, o18, o19, o20, o21, o22, o23, o24, o25].toArray [5, 7, 9, 12] [0, 1, 2, 3, 4, 6, 8, 10, 11, 13, 14, 15, 17, 18, 20, 21, 23, 24] (.free 0 (.free 1 (.free 2 (.free 3 (.free 4 (.free 6 (.free 8 (.free 11 (.read 5 (.free 14 (.free 15 (.read 7 (.read 9 (.free 10 (.read 12 (.free 13 (.alt 16 (.free 17 (.free 18 (.alt 19 (.free 20 (.free 21 (.alt 22 (.free 23 (.free 24 (.alt 25 .done .stop))) .stop))) .stop))) .stop))))))))))))))))) true true [o0, o1, o2, o3, o4, o5, o6, o7, o8, o9, o10, o11, o12, o13, o14, o15, o16, o17, o18, o19, o20, o21, o22, o23, o24, o25].toArray.size (Array.replicate [o0, o1, o2, o3, o4, o5, o6, o7, o8, o9, o10, o11, o12, o13, o14, o15, o16, o17, o18, o19, o20, o21, o22, o23, o24, o25].toArray.size false)) = true)
    (k : Kept B w0 n L w) (he : E w) (hE : ∀ W W', E W → Below W.heap.size W W' → E W') (hf : F w) (hF : ∀ W W', F W → Below W.heap.size W W' → F W')
    (h : ∀ wk, Kept B w0 n L wk → E wk → F wk → wpQuiet P [o0, o1, o2, o3, o4, o5, o6, o7, o8, o9, o10, o11, o12, o13, o14, o15, o16, o17, o18, o19, o20, o21, o22, o23, o24, o25].toArray (fun _ => True) (fun a0 => wpQuiet P [o0, o1, o2, o3, o4, o5, o6, o7, o8, o9, o10, o11, o12, o13, o14, o15, o16, o17, o18, o19, o20, o21, o22, o23, o24, o25].toArray (fun w' => ∃ s : KX B w0 n L E, w' = s.val) (fun a1 => wpQuiet P [o0, o1, o2, o3, o4, o5, o6, o7, o8, o9, o10, o11, o12, o13, o14, o15, o16, o17, o18, o19, o20, o21, o22, o23, o24, o25].toArray (fun _ => True) (fun a2 => wpQuiet P [o0, o1, o2, o3, o4, o5, o6, o7, o8, o9, o10, o11, o12, o13, o14, o15, o16, o17, o18, o19, o20, o21, o22, o23, o24, o25].toArray (fun w' => ∃ s : KX B w0 n L E, w' = s.val) (fun a3 => wpQuiet P [o0, o1, o2, o3, o4, o5, o6, o7, o8, o9, o10, o11, o12, o13, o14, o15, o16, o17, o18, o19, o20, o21, o22, o23, o24, o25].toArray (fun _ => True) (fun a4 => wpQuiet P [o0, o1, o2, o3, o4, o5, o6, o7, o8, o9, o10, o11, o12, o13, o14, o15, o16, o17, o18, o19, o20, o21, o22, o23, o24, o25].toArray (fun w' => ∃ s : KX B w0 n L E, w' = s.val) (fun a5 => wpQuiet P [o0, o1, o2, o3, o4, o5, o6, o7, o8, o9, o10, o11, o12, o13, o14, o15, o16, o17, o18, o19, o20, o21, o22, o23, o24, o25].toArray (fun _ => True) (fun a6 => ((∀ K7 : Act → World → Prop, (∀ a7 w7, wpQuiet P [o0, o1, o2, o3, o4, o5, o6, o7, o8, o9, o10, o11, o12, o13, o14, o15, o16, o17, o18, o19, o20, o21, o22, o23, o24, o25].toArray (fun _ => True) (fun a8 => ((∀ K9 : Act → World → Prop, (∀ a9 w9, wpQuiet P [o0, o1, o2, o3, o4, o5, o6, o7, o8, o9, o10, o11, o12, o13, o14, o15, o16, o17, o18, o19, o20, o21, o22, o23, o24, o25].toArray (fun _ => True) (fun a10 => ((∀ K11 : Act → World → Prop, (∀ a11 w11, wpQuiet P [o0, o1, o2, o3, o4, o5, o6, o7, o8, o9, o10, o11, o12, o13, o14, o15, o16, o17, o18, o19, o20, o21, o22, o23, o24, o25].toArray (fun _ => True) (fun a12 => ((∀ K13 : Act → World → Prop, (∀ a13 w13, Q .normal a13 w13 → K13 a13 w13) → wpList P [o0, o1, o2, o3, o4, o5, o6, o7, o8, o9, o10, o11, o12, o13, o14, o15, o16, o17, o18, o19, o20, o21, o22, o23, o24, o25].toArray (fun e a13 w13 => e = .normal ∧ (∃ s : KX B w0 n L E, w13 = s.val) ∧ K13 a13 w13) [o25] a12 w11) ∧ True)) [o23, o24] a11 → K11 a11 w11) → wpList P [o0, o1, o2, o3, o4, o5, o6, o7, o8, o9, o10, o11, o12, o13, o14, o15, o16, o17, o18, o19, o20, o21, o22, o23, o24, o25].toArray (fun e a11 w11 => e = .normal ∧ (∃ s : KX B w0 n L E, w11 = s.val) ∧ K11 a11 w11) [o22] a10 w9) ∧ True)) [o20, o21] a9 → K9 a9 w9) → wpList P [o0, o1, o2, o3, o4, o5, o6, o7, o8, o9, o10, o11, o12, o13, o14, o15, o16, o17, o18, o19, o20, o21, o22, o23, o24, o25].toArray (fun e a9 w9 => e = .normal ∧ (∃ s : KX B w0 n L E, w9 = s.val) ∧ K9 a9 w9) [o19] a8 w7) ∧ True)) [o17, o18] a7 → K7 a7 w7) → wpList P [o0, o1, o2, o3, o4, o5, o6, o7, o8, o9, o10, o11, o12, o13, o14, o15, o16, o17, o18, o19, o20, o21, o22, o23, o24, o25].toArray (fun e a7 w7 => e = .normal ∧ (∃ s : KX B w0 n L E, w7 = s.val) ∧ K7 a7 w7) [o16] a6 wk) ∧ True)) [o13] a5) [o12] a4) [o10] a3) [o7, o9] a2) [o14, o15] a1) [o5] a0) [o0, o1, o2, o3, o4, o6, o8, o11] a) : (Code.region id [o0, o1, o2, o3, o4, o5, o6, o7, o8, o9, o10, o11, o12, o13, o14, o15, o16, o17, o18, o19, o20, o21, o22, o23, o24, o25].toArray true).wp P Q a w := by
  have e1 : E w.drew := hE _ _ he ((Below.refl _ _).drew)
  have g := h _ k.drew e1 (hF _ _ hf ((Below.refl _ _).drew))
  exact wp_region_scr (U := (fun w' => ∃ s : KX B w0 n L E, w' = s.val)) (ops := [o0, o1, o2, o3, o4, o5, o6, o7, o8, o9, o10, o11, o12, o13, o14, o15, o16, o17, o18, o19, o20, o21, o22, o23, o24, o25].toArray) (.free 0 (.free 1 (.free 2 (.free 3 (.free 4 (.free 6 (.free 8 (.free 11 (.read 5 (.free 14 (.free 15 (.read 7 (.read 9 (.free 10 (.read 12 (.free 13 (.alt 16 (.free 17 (.free 18 (.alt 19 (.free 20 (.free 21 (.alt 22 (.free 23 (.free 24 (.alt 25 .done .stop))) .stop))) .stop))) .stop))))))))))))))))) [5, 7, 9, 12] [0, 1, 2, 3, 4, 6, 8, 10, 11, 13, 14, 15, 17, 18, 20, 21, 23, 24] hm hB ⟨⟨_, k.drew, e1⟩, rfl⟩ (Scr.of_free rfl g (fun _ g0 => Scr.of_free rfl g0 (fun _ g1 => Scr.of_free rfl g1 (fun _ g2 => Scr.of_free rfl g2 (fun _ g3 => Scr.of_free rfl g3 (fun _ g4 => Scr.of_free rfl g4 (fun _ g5 => Scr.of_free rfl g5 (fun _ g6 => Scr.of_free rfl g6 (fun _ g7 => Scr.of_read rfl g7 (fun _ g8 => Scr.of_free rfl g8 (fun _ g9 => Scr.of_free rfl g9 (fun _ g10 => Scr.of_read rfl g10 (fun _ g11 => Scr.of_read rfl g11 (fun _ g12 => Scr.of_free rfl g12 (fun _ g13 => Scr.of_read rfl g13 (fun _ g14 => Scr.of_free rfl g14 (fun _ g15 => (Scr.of_alt rfl (g15.1 _ (fun _ _ g => g)) (fun _ _ g16 => Scr.of_free rfl g16 (fun _ g17 => Scr.of_free rfl g17 (fun _ g18 => (Scr.of_alt rfl (g18.1 _ (fun _ _ g => g)) (fun _ _ g19 => Scr.of_free rfl g19 (fun _ g20 => Scr.of_free rfl g20 (fun _ g21 => (Scr.of_alt rfl (g21.1 _ (fun _ _ g => g)) (fun _ _ g22 => Scr.of_free rfl g22 (fun _ g23 => Scr.of_free rfl g23 (fun _ g24 => (Scr.of_alt rfl (g24.1 _ (fun _ _ g => g)) (fun _ _ g25 => g25) trivial)))) trivial)))) trivial)))) trivial))))))))))))))))))
theorem rg25_9 {P : Program} {B n : Nat} {w0 : World} {L : List (Nat × Nat × Value)} {E F : World → Prop} {id : Nat} {Q : Exit → Act → World → Prop} {a : Act} {w : World} {o0 o1 o2 o3 o4 o5 o6 o7 o8 o9 o10 o11 o12 o13 o14 o15 : Oper} (hm : P.follows .mixedOrders = true)
    (hB : (Region.noSelect [o0, o1, o2, o3, o4, o5, o6, o7, o8, o9, o10, o11, o12, o13, o14, o15].toArray && Scr.ok .any [o0, o1, o2, o3, o4, o5, o6, o7, o8, o9, o10, o11, o12, o13, o14, o15].toArray [2, 4, 6, 8] [0, 1, 3, 7, 10, 11, 13, 14] (.free 0 (.free 1 (.free 3 (.free 7 (.read 2 (.read 4 (.read 6 (.read 8 (.alt 5 (.alt 9 (.free 10 (.free 11 (.alt 12 (.free 13 (.free 14 (.alt 15 .done .stop))) .stop))) .stop) .stop))))))))) true true [o0, o1, o2, o3, o4, o5, o6, o7, o8, o9, o10, o11, o12, o13, o14, o15].toArray.size (Array.replicate [o0, o1, o2, o3, o4, o5, o6, o7, o8, o9, o10, o11, o12, o13, o14, o15].toArray.size false)) = true)
    (k : Kept B w0 n L w) (he : E w) (hE : ∀ W W', E W → Below W.heap.size W W' → E W') (hf : F w) (hF : ∀ W W', F W → Below W.heap.size W W' → F W')
    (h : ∀ wk, Kept B w0 n L wk → E wk → F wk → wpQuiet P [o0, o1, o2, o3, o4, o5, o6, o7, o8, o9, o10, o11, o12, o13, o14, o15].toArray (fun _ => True) (fun a0 => wpQuiet P [o0, o1, o2, o3, o4, o5, o6, o7, o8, o9, o10, o11, o12, o13, o14, o15].toArray (fun w' => ∃ s : KX B w0 n L E, w' = s.val) (fun a1 => ((∀ K2 : Act → World → Prop, (∀ a2 w2, ((∀ K3 : Act → World → Prop, (∀ a3 w3, wpQuiet P [o0, o1, o2, o3, o4, o5, o6, o7, o8, o9, o10, o11, o12, o13, o14, o15].toArray (fun _ => True) (fun a4 => ((∀ K5 : Act → World → Prop, (∀ a5 w5, wpQuiet P [o0, o1, o2, o3, o4, o5, o6, o7, o8, o9, o10, o11, o12, o13, o14, o15].toArray (fun _ => True) (fun a6 => ((∀ K7 : Act → World → Prop, (∀ a7 w7, Q .normal a7 w7 → K7 a7 w7) → wpList P [o0, o1, o2, o3, o4, o5, o6, o7, o8, o9, o10, o11, o12, o13, o14, o15].toArray (fun e a7 w7 => e = .normal ∧ (∃ s : KX B w0 n L E, w7 = s.val) ∧ K7 a7 w7) [o15] a6 w5) ∧ True)) [o13, o14] a5 → K5 a5 w5) → wpList P [o0, o1, o2, o3, o4, o5, o6, o7, o8, o9, o10, o11, o12, o13, o14, o15].toArray (fun e a5 w5 => e = .normal ∧ (∃ s : KX B w0 n L E, w5 = s.val) ∧ K5 a5 w5) [o12] a4 w3) ∧ True)) [o10, o11] a3 → K3 a3 w3) → wpList P [o0, o1, o2, o3, o4, o5, o6, o7, o8, o9, o10, o11, o12, o13, o14, o15].toArray (fun e a3 w3 => e = .normal ∧ (∃ s : KX B w0 n L E, w3 = s.val) ∧ K3 a3 w3) [o9] a2 w2) ∧ True) → K2 a2 w2) → wpList P [o0, o1, o2, o3, o4, o5, o6, o7, o8, o9, o10, o11, o12, o13, o14, o15].toArray (fun e a2 w2 => e = .normal ∧ (∃ s : KX B w0 n L E, w2 = s.val) ∧ K2 a2 w2) [o5] a1 wk) ∧ True)) [o2, o4, o6, o8] a0) [o0, o1, o3, o7] a) : (Code.region id [o0, o1, o2, o3, o4, o5, o6, o7, o8, o9, o10, o11, o12, o13, o14, o15].toArray true).wp P Q a w := by
  have e1 : E w.drew := hE _ _ he ((Below.refl _ _).drew)
  have g := h _ k.drew e1 (hF _ _ hf ((Below.refl _ _).drew))
  exact wp_region_scr (U := (fun w' => ∃ s : KX B w0 n L E, w' = s.val)) (ops := [o0, o1, o2, o3, o4, o5, o6, o7, o8, o9, o10, o11, o12, o13, o14, o15].toArray) (.free 0 (.free 1 (.free 3 (.free 7 (.read 2 (.read 4 (.read 6 (.read 8 (.alt 5 (.alt 9 (.free 10 (.free 11 (.alt 12 (.free 13 (.free 14 (.alt 15 .done .stop))) .stop))) .stop) .stop))))))))) [2, 4, 6, 8] [0, 1, 3, 7, 10, 11, 13, 14] hm hB ⟨⟨_, k.drew, e1⟩, rfl⟩ (Scr.of_free rfl g (fun _ g0 => Scr.of_free rfl g0 (fun _ g1 => Scr.of_free rfl g1 (fun _ g2 => Scr.of_free rfl g2 (fun _ g3 => Scr.of_read rfl g3 (fun _ g4 => Scr.of_read rfl g4 (fun _ g5 => Scr.of_read rfl g5 (fun _ g6 => Scr.of_read rfl g6 (fun _ g7 => (Scr.of_alt rfl (g7.1 _ (fun _ _ g => g)) (fun _ _ g8 => (Scr.of_alt rfl (g8.1 _ (fun _ _ g => g)) (fun _ _ g9 => Scr.of_free rfl g9 (fun _ g10 => Scr.of_free rfl g10 (fun _ g11 => (Scr.of_alt rfl (g11.1 _ (fun _ _ g => g)) (fun _ _ g12 => Scr.of_free rfl g12 (fun _ g13 => Scr.of_free rfl g13 (fun _ g14 => (Scr.of_alt rfl (g14.1 _ (fun _ _ g => g)) (fun _ _ g15 => g15) trivial)))) trivial)))) trivial)) trivial))))))))))
theorem rg25_10 {P : Program} {B n : Nat} {w0 : World} {L : List (Nat × Nat × Value)} {E F : World → Prop} {id : Nat} {Q : Exit → Act → World → Prop} {a : Act} {w : World} {o0 o1 o2 o3 o4 o5 o6 o7 o8 o9 o10 o11 o12 o13 o14 o15 o16 o17 o18 o19 o20 o21 o22 o23 o24 o25 o26 o27 o28 o29 : Oper} (hm : P.follows .mixedOrders = true)
    (hB : (Region.noSelect [o0, o1, o2, o3, o4, o5, o6, o7, o8, o9, o10, o11, o12, o13, o14, o15, o16, o17, o18, o19, o20, o21, o22, o23, o24, o25, o26, o27, o28, o29].toArray && Scr.ok .any [o0, o1, o2, o3, o4, o5, o6, o7, o8, o9, o10, o11, o12, o13, o14, o15, o16, o17, o18, o19, o20, o21, o22, o23, o24, o25, o26, o27, o28, o29].toArray [6, 8, 10, 12, 14] [0, 1, 2, 3, 4, 5, 7, 9, 11, 13, 15, 16, 18, 19, 21, 22, 24, 25, 27, 28] (.free 0 (.free 1 (.free 2 (.free 3 (.free 4 (.free 5 (.free 7 (.free 9 (.free 11 (.free 13 (.read 6 (.free 15 (.free 16 (.read 8 (.read 10 (.read 12 (.read 14 (.alt 17 (.free 18 (.free 19 (.alt 20 (.free 21 (.free 22 (.alt 23 (.free 24 (.free 25 (.alt 26 (.free 27 (.free 28 (.alt 29 .done .stop))) .stop))) .stop))) .stop))) .stop)))))))))))))))))) true true [o0, o1, o2, o3, o4, o5, o6, o7, o8, o9, o10, o11, o12, o13, o14, o15, o16, o17, o18, o19, o20, o21, o22, o23, o24, o25, o26, o27, o28, o29].toArray.size (Array.replicate [o0, o1, o2, o3, o4, o5, o6, o7, o8, o9, o10, o11, o12, o13, o14, o15, o16, o17, o18, o19, o20, o21, o22, o23, o24, o25, o26, o27, o28, o29].toArray.size false)) = true)
    (k : Kept B w0 n L w) (he : E w) (hE : ∀ W W', E W → Below W.heap.size W W' → E W') (hf : F w) (hF : ∀ W W', F W → Below W.heap.size W W' → F W')
    (h : ∀ wk, Kept B w0 n L wk → E wk → F wk → wpQuiet P [o0, o1, o2, o3, o4, o5, o6, o7, o8, o9, o10, o11, o12, o13, o14, o15, o16, o17, o18, o19, o20, o21, o22, o23, o24, o25, o26, o27, o28, o29].toArray (fun _ => True) (fun a0 => wpQuiet P [o0, o1, o2, o3, o4, o5, o6, o7, o8, o9, o10, o11, o12, o13, o14, o15, o16, o17, o18, o19, o20, o21, o22, o23, o24, o25, o26, o27, o28, o29].toArray (fun w' => ∃ s : KX B w0 n L E, w' = s.val) (fun a1 => wpQuiet P [o0, o1, o2, o3, o4, o5, o6, o7, o8, o9, o10, o11, o12, o13, o14, o15, o16, o17, o18, o19, o20, o21, o22, o23, o24, o25, o26, o27, o28, o29].toArray (fun _ => True) (fun a2 => wpQuiet P [o0, o1, o2, o3, o4, o5, o6, o7, o8, o9, o10, o11, o12, o13, o14, o15, o16, o17, o18, o19, o20, o21, o22, o23, o24, o25, o26, o27, o28, o29].toArray (fun w' => ∃ s : KX B w0 n L E, w' = s.val) (fun a3 => ((∀ K4 : Act → World → Prop, (∀ a4 w4, wpQuiet P [o0, o1, o2, o3, o4, o5, o6, o7, o8, o9, o10, o11, o12, o13, o14, o15, o16, o17, o18, o19, o20, o21, o22, o23, o24, o25, o26, o27, o28, o29].toArray (fun _ => True) (fun a5 => ((∀ K6 : Act → World → Prop, (∀ a6 w6, wpQuiet P [o0, o1, o2, o3, o4, o5, o6, o7, o8, o9, o10, o11, o12, o13, o14, o15, o16, o17, o18, o19, o20, o21, o22, o23, o24, o25, o26, o27, o28, o29].toArray (fun _ => True) (fun a7 => ((∀ K8 : Act → World → Prop, (∀ a8 w8, wpQuiet P [o0, o1, o2, o3, o4, o5, o6, o7, o8, o9, o10, o11, o12, o13, o14, o15, o16, o17, o18, o19, o20, o21, o22, o23, o24, o25, o26, o27, o28, o29].toArray (fun _ => True) (fun a9 => ((∀ K10 : Act → World → Prop, (∀ a10 w10, wpQuiet P [o0, o1, o2, o3, o4, o5, o6, o7, o8, o9, o10, o11, o12, o13, o14, o15, o16, o17, o18, o19, o20, o21, o22, o23, o24, o25, o26, o27, o28, o29].toArray (fun _ => True) (fun a11 => ((∀ K12 : Act → World → Prop, (∀ a12 w12, Q .normal a12 w12 → K12 a12 w12) → wpList P [o0, o1, o2, o3, o4, o5, o6, o7, o8, o9, o10, o11, o12, o13, o14, o15, o16, o17, o18, o19, o20, o21, o22, o23, o24, o25, o26, o27, o28, o29].toArray (fun e a12 w12 => e = .normal ∧ (∃ s : KX B w0 n L E, w12 = s.val) ∧ K12 a12 w12) [o29] a11 w10) ∧ True)) [o27, o28] a10 → K10 a10 w10) → wpList P [o0, o1, o2, o3, o4, o5, o6, o7, o8, o9, o10, o11, o12, o13, o14, o15, o16, o17, o18, o19, o20, o21, o22, o23, o24, o25, o26, o27, o28, o29].toArray (fun e a10 w10 => e = .normal ∧ (∃ s : KX B w0 n L E, w10 = s.val) ∧ K10 a10 w10) [o26] a9 w8) ∧ True)) [o24, o25] a8 → K8 a8 w8) → wpList P [o0, o1, o2, o3, o4, o5, o6, o7, o8, o9, o10, o11, o12, o13, o14, o15, o16, o17, o18, o19, o20, o21, o22, o23, o24, o25, o26, o27, o28, o29].toArray (fun e a8 w8 => e = .normal ∧ (∃ s : KX B w0 n L E, w8 = s.val) ∧ K8 a8 w8) [o23] a7 w6) ∧ True)) [o21, o22] a6 → K6 a6 w6) → wpList P [o0, o1, o2, o3, o4, o5, o6, o7, o8, o9, o10, o11, o12, o13, o14, o15, o16, o17, o18, o19, o20, o21, o22, o23, o24, o25, o26, o27, o28, o29].toArray (fun e a6 w6 => e = .normal ∧ (∃ s : KX B w0 n L E, w6 = s.val) ∧ K6 a6 w6) [o20] a5 w4) ∧ True)) [o18, o19] a4 → K4 a4 w4) → wpList P [o0, o1, o2, o3, o4, o5, o6, o7, o8, o9, o10, o11, o12, o13, o14, o15, o16, o17, o18, o19, o20, o21, o22, o23, o24, o25, o26, o27, o28, o29].toArray (fun e a4 w4 => e = .normal ∧ (∃ s : KX B w0 n L E, w4 = s.val) ∧ K4 a4 w4) [o17] a3 wk) ∧ True)) [o8, o10, o12, o14] a2) [o15, o16] a1) [o6] a0) [o0, o1, o2, o3, o4, o5, o7, o9, o11, o13] a) : (Code.region id [o0, o1, o2, o3, o4, o5, o6, o7, o8, o9, o10, o11, o12, o13, o14, o15, o16, o17, o18, o19, o20, o21, o22, o23, o24, o25, o26, o27, o28, o29].toArray true).wp P Q a w := by
  have e1 : E w.drew := hE _ _ he ((Below.refl _ _).drew)
  have g := h _ k.drew e1 (hF _ _ hf ((Below.refl _ _).drew))
  exact wp_region_scr (U := (fun w' => ∃ s : KX B w0 n L E, w' = s.val)) (ops := [o0, o1, o2, o3, o4, o5, o6, o7, o8, o9, o10, o11, o12, o13, o14, o15, o16, o17, o18, o19, o20, o21, o22, o23, o24, o25, o26, o27, o28, o29].toArray) (.free 0 (.free 1 (.free 2 (.free 3 (.free 4 (.free 5 (.free 7 (.free 9 (.free 11 (.free 13 (.read 6 (.free 15 (.free 16 (.read 8 (.read 10 (.read 12 (.read 14 (.alt 17 (.free 18 (.free 19 (.alt 20 (.free 21 (.free 22 (.alt 23 (.free 24 (.free 25 (.alt 26 (.free 27 (.free 28 (.alt 29 .done .stop))) .stop))) .stop))) .stop))) .stop)))))))))))))))))) [6, 8, 10, 12, 14] [0, 1, 2, 3, 4, 5, 7, 9, 11, 13, 15, 16, 18, 19, 21, 22, 24, 25, 27, 28] hm hB ⟨⟨_, k.drew, e1⟩, rfl⟩ (Scr.of_free rfl g (fun _ g0 => Scr.of_free rfl g0 (fun _ g1 => Scr.of_free rfl g1 (fun _ g2 => Scr.of_free rfl g2 (fun _ g3 => Scr.of_free rfl g3 (fun _ g4 => Scr.of_free rfl g4 (fun _ g5 => Scr.of_free rfl g5 (fun _ g6 => Scr.of_free rfl g6 (fun _ g7 => Scr.of_free rfl g7 (fun _ g8 => Scr.of_free rfl g8 (fun _ g9 => Scr.of_read rfl g9 (fun _ g10 => Scr.of_free rfl g10 (fun _ g11 => Scr.of_free rfl g11 (fun _ g12 => Scr.of_read rfl g12 (fun _ g13 => Scr.of_read rfl g13 (fun _ g14 => Scr.of_read rfl g14 (fun _ g15 => Scr.of_read rfl g15 (fun _ g16 => (Scr.of_alt rfl (g16.1 _ (fun _ _ g => g)) (fun _ _ g17 => Scr.of_free rfl g17 (fun _ g18 => Scr.of_free rfl g18 (fun _ g19 => (Scr.of_alt rfl (g19.1 _ (fun _ _ g => g)) (fun _ _ g20 => Scr.of_free rfl g20 (fun _ g21 => Scr.of_free rfl g21 (fun _ g22 => (Scr.of_alt rfl (g22.1 _ (fun _ _ g => g)) (fun _ _ g23 => Scr.of_free rfl g23 (fun _ g24 => Scr.of_free rfl g24 (fun _ g25 => (Scr.of_alt rfl (g25.1 _ (fun _ _ g => g)) (fun _ _ g26 => Scr.of_free rfl g26 (fun _ g27 => Scr.of_free rfl g27 (fun _ g28 => (Scr.of_alt rfl (g28.1 _ (fun _ _ g => g)) (fun _ _ g29 => g29) trivial)))) trivial)))) trivial)))) trivial)))) trivial)))))))))))))))))))
theorem rg25_11 {P : Program} {B n : Nat} {w0 : World} {L : List (Nat × Nat × Value)} {E F : World → Prop} {id : Nat} {Q : Exit → Act → World → Prop} {a : Act} {w : World} {o0 o1 o2 o3 o4 o5 o6 o7 o8 o9 o10 o11 o12 o13 o14 o15 : Oper} (hm : P.follows .mixedOrders = true)
    (hB : (Region.noSelect [o0, o1, o2, o3, o4, o5, o6, o7, o8, o9, o10, o11, o12, o13, o14, o15].toArray && Scr.ok .any [o0, o1, o2, o3, o4, o5, o6, o7, o8, o9, o10, o11, o12, o13, o14, o15].toArray [1, 3, 5, 7] [0, 2, 4, 6, 8, 10, 12, 14] (.free 0 (.free 2 (.free 4 (.free 6 (.read 1 (.free 8 (.read 3 (.read 5 (.read 7 (.alt 9 (.free 10 (.alt 11 (.free 12 (.alt 13 (.free 14 (.alt 15 .done .stop)) .stop)) .stop)) .stop)))))))))) true true [o0, o1, o2, o3, o4, o5, o6, o7, o8, o9, o10, o11, o12, o13, o14, o15].toArray.size (Array.replicate [o0, o1, o2, o3, o4, o5, o6, o7, o8, o9, o10, o11, o12, o13, o14, o15].toArray.size false)) = true)
    (k : Kept B w0 n L w) (he : E w) (hE : ∀ W W', E W → Below W.heap.size W W' → E W') (hf : F w) (hF : ∀ W W', F W → Below W.heap.size W W' → F W')
    (h : ∀ wk, Kept B w0 n L wk → E wk → F wk → wpQuiet P [o0, o1, o2, o3, o4, o5, o6, o7, o8, o9, o10, o11, o12, o13, o14, o15].toArray (fun _ => True) (fun a0 => wpQuiet P [o0, o1, o2, o3, o4, o5, o6, o7, o8, o9, o10, o11, o12, o13, o14, o15].toArray (fun w' => ∃ s : KX B w0 n L E, w' = s.val) (fun a1 => wpQuiet P [o0, o1, o2, o3, o4, o5, o6, o7, o8, o9, o10, o11, o12, o13, o14, o15].toArray (fun _ => True) (fun a2 => wpQuiet P [o0, o1, o2, o3, o4, o5, o6, o7, o8, o9, o10, o11, o12, o13, o14, o15].toArray (fun w' => ∃ s : KX B w0 n L E, w' = s.val) (fun a3 => ((∀ K4 : Act → World → Prop, (∀ a4 w4, wpQuiet P [o0, o1, o2, o3, o4, o5, o6, o7, o8, o9, o10, o11, o12, o13, o14, o15].toArray (fun _ => True) (fun a5 => ((∀ K6 : Act → World → Prop, (∀ a6 w6, wpQuiet P [o0, o1, o2, o3, o4, o5, o6, o7, o8, o9, o10, o11, o12, o13, o14, o15].toArray (fun _ => True) (fun a7 => ((∀ K8 : Act → World → Prop, (∀ a8 w8, wpQuiet P [o0, o1, o2, o3, o4, o5, o6, o7, o8, o9, o10, o11, o12, o13, o14, o15].toArray (fun _ => True) (fun a9 => ((∀ K10 : Act → World → Prop, (∀ a10 w10, Q .normal a10 w10 → K10 a10 w10) → wpList P [o0, o1, o2, o3, o4, o5, o6, o7, o8, o9, o10, o11, o12, o13, o14, o15].toArray (fun e a10 w10 => e = .normal ∧ (∃ s : KX B w0 n L E, w10 = s.val) ∧ K10 a10 w10) [o15] a9 w8) ∧ True)) [o14] a8 → K8 a8 w8) → wpList P [o0, o1, o2, o3, o4, o5, o6, o7, o8, o9, o10, o11, o12, o13, o14, o15].toArray (fun e a8 w8 => e = .normal ∧ (∃ s : KX B w0 n L E, w8 = s.val) ∧ K8 a8 w8) [o13] a7 w6) ∧ True)) [o12] a6 → K6 a6 w6) → wpList P [o0, o1, o2, o3, o4, o5, o6, o7, o8, o9, o10, o11, o12, o13, o14, o15].toArray (fun e a6 w6 => e = .normal ∧ (∃ s : KX B w0 n L E, w6 = s.val) ∧ K6 a6 w6) [o11] a5 w4) ∧ True)) [o10] a4 → K4 a4 w4) → wpList P [o0, o1, o2, o3, o4, o5, o6, o7, o8, o9, o10, o11, o12, o13, o14, o15].toArray (fun e a4 w4 => e = .normal ∧ (∃ s : KX B w0 n L E, w4 = s.val) ∧ K4 a4 w4) [o9] a3 wk) ∧ True)) [o3, o5, o7] a2) [o8] a1) [o1] a0) [o0, o2, o4, o6] a) : (Code.region id [o0, o1, o2, o3, o4, o5, o6, o7, o8, o9, o10, o11, o12, o13, o14, o15].toArray true).wp P Q a w := by
  have e1 : E w.drew := hE _ _ he ((Below.refl _ _).drew)
  have g := h _ k.drew e1 (hF _ _ hf ((Below.refl _ _).drew))
  exact wp_region_scr (U := (fun w' => ∃ s : KX B w0 n L E, w' = s.val)) (ops := [o0, o1, o2, o3, o4, o5, o6, o7, o8, o9, o10, o11, o12, o13, o14, o15].toArray) (.free 0 (.free 2 (.free 4 (.free 6 (.read 1 (.free 8 (.read 3 (.read 5 (.read 7 (.alt 9 (.free 10 (.alt 11 (.free 12 (.alt 13 (.free 14 (.alt 15 .done .stop)) .stop)) .stop)) .stop)))))))))) [1, 3, 5, 7] [0, 2, 4, 6, 8, 10, 12, 14] hm hB ⟨⟨_, k.drew, e1⟩, rfl⟩ (Scr.of_free rfl g (fun _ g0 => Scr.of_free rfl g0 (fun _ g1 => Scr.of_free rfl g1 (fun _ g2 => Scr.of_free rfl g2 (fun _ g3 => Scr.of_read rfl g3 (fun _ g4 => Scr.of_free rfl g4 (fun _ g5 => Scr.of_read rfl g5 (fun _ g6 => Scr.of_read rfl g6 (fun _ g7 => Scr.of_read rfl g7 (fun _ g8 => (Scr.of_alt rfl (g8.1 _ (fun _ _ g => g)) (fun _ _ g9 => Scr.of_free rfl g9 (fun _ g10 => (Scr.of_alt rfl (g10.1 _ (fun _ _ g => g)) (fun _ _ g11 => Scr.of_free rfl g11 (fun _ g12 => (Scr.of_alt rfl (g12.1 _ (fun _ _ g => g)) (fun _ _ g13 => Scr.of_free rfl g13 (fun _ g14 => (Scr.of_alt rfl (g14.1 _ (fun _ _ g => g)) (fun _ _ g15 => g15) trivial))) trivial))) trivial))) trivial)))))))))))
theorem rg25_12 {P : Program} {B n : Nat} {w0 : World} {L : List (Nat × Nat × Value)} {E F : World → Prop} {id : Nat} {Q : Exit → Act → World → Prop} {a : Act} {w : World} {o0 o1 o2 o3 o4 o5 o6 o7 o8 o9 o10 o11 o12 o13 o14 o15 o16 o17 o18 o19 : Oper} (hm : P.follows .mixedOrders = true)
    (hB : (Region.noSelect [o0, o1, o2, o3, o4, o5, o6, o7, o8, o9, o10, o11, o12, o13, o14, o15, o16, o17, o18, o19].toArray && Scr.ok .any [o0, o1, o2, o3, o4, o5, o6, o7, o8, o9, o10, o11, o12, o13, o14, o15, o16, o17, o18, o19].toArray [1, 3, 5, 7, 9] [0, 2, 4, 6, 8, 10, 12, 14, 16, 18] (.free 0 (.free 2 (.free 4 (.free 6 (.free 8 (.read 1 (.free 10 (.read 3 (.read 5 (.read 7 (.read 9 (.alt 11 (.free 12 (.alt 13 (.free 14 (.alt 15 (.free 16 (.alt 17 (.free 18 (.alt 19 .done .stop)) .stop)) .stop)) .stop)) .stop)))))))))))) true true [o0, o1, o2, o3, o4, o5, o6, o7, o8, o9, o10, o11, o12, o13, o14, o15, o16, o17, o18, o19].toArray.size (Array.replicate [o0, o1, o2, o3, o4, o5, o6, o7, o8, o9, o10, o11, o12, o13, o14, o15, o16, o17, o18, o19].toArray.size false)) = true)
    (k : Kept B w0 n L w) (he : E w) (hE : ∀ W W', E W → Below W.heap.size W W' → E W') (hf : F w) (hF : ∀ W W', F W → Below W.heap.size W W' → F W')
    (h : ∀ wk, Kept B w0 n L wk → E wk → F wk → wpQuiet P [o0, o1, o2, o3, o4, o5, o6, o7, o8, o9, o10, o11, o12, o13, o14, o15, o16, o17, o18, o19].toArray (fun _ => True) (fun a0 => wpQuiet P [o0, o1, o2, o3, o4, o5, o6, o7, o8, o9, o10, o11, o12, o13, o14, o15, o16, o17, o18, o19].toArray (fun w' => ∃ s : KX B w0 n L E, w' = s.val) (fun a1 => wpQuiet P [o0, o1, o2, o3, o4, o5, o6, o7, o8, o9, o10, o11, o12, o13, o14, o15, o16, o17, o18, o19].toArray (fun _ => True) (fun a2 => wpQuiet P [o0, o1, o2, o3, o4, o5, o6, o7, o8, o9, o10, o11, o12, o13, o14, o15, o16, o17, o18, o19].toArray (fun w' => ∃ s : KX B w0 n L E, w' = s.val) (fun a3 => ((∀ K4 : Act → World → Prop, (∀ a4 w4, wpQuiet P [o0, o1, o2, o3, o4, o5, o6, o7, o8, o9, o10, o11, o12, o13, o14, o15, o16, o17, o18, o19].toArray (fun _ => True) (fun a5 => ((∀ K6 : Act → World → Prop, (∀ a6 w6, wpQuiet P [o0, o1, o2, o3, o4, o5, o6, o7, o8, o9, o10, o11, o12, o13, o14, o15, o16, o17, o18, o19].toArray (fun _ => True) (fun a7 => ((∀ K8 : Act → World → Prop, (∀ a8 w8, wpQuiet P [o0, o1, o2, o3, o4, o5, o6, o7, o8, o9, o10, o11, o12, o13, o14, o15, o16, o17, o18, o19].toArray (fun _ => True) (fun a9 => ((∀ K10 : Act → World → Prop, (∀ a10 w10, wpQuiet P [o0, o1, o2, o3, o4, o5, o6, o7, o8, o9, o10, o11, o12, o13, o14, o15, o16, o17, o18, o19].toArray (fun _ => True) (fun a11 => ((∀ K12 : Act → World → Prop, (∀ a12 w12, Q .normal a12 w12 → K12 a12 w12) → wpList P [o0, o1, o2, o3, o4, o5, o6, o7, o8, o9, o10, o11, o12, o13, o14, o15, o16, o17, o18, o19].toArray (fun e a12 w12 => e = .normal ∧ (∃ s : KX B w0 n L E, w12 = s.val) ∧ K12 a12 w12) [o19] a11 w10) ∧ True)) [o18] a10 → K10 a10 w10) → wpList P [o0, o1, o2, o3, o4, o5, o6, o7, o8, o9, o10, o11, o12, o13, o14, o15, o16, o17, o18, o19].toArray (fun e a10 w10 => e = .normal ∧ (∃ s : KX B w0 n L E, w10 = s.val) ∧ K10 a10 w10) [o17] a9 w8) ∧ True)) [o16] a8 → K8 a8 w8) → wpList P [o0, o1, o2, o3, o4, o5, o6, o7, o8, o9, o10, o11, o12, o13, o14, o15, o16, o17, o18, o19].toArray (fun e a8 w8 => e = .normal ∧ (∃ s : KX B w0 n L E, w8 = s.val) ∧ K8 a8 w8) [o15] a7 w6) ∧ True)) [o14] a6 → K6 a6 w6) → wpList P [o0, o1, o2, o3, o4, o5, o6, o7, o8, o9, o10, o11, o12, o13, o14, o15, o16, o17, o18, o19].toArray (fun e a6 w6 => e = .normal ∧ (∃ s : KX B w0 n L E, w6 = s.val) ∧ K6 a6 w6) [o13] a5 w4) ∧ True)) [o12] a4 → K4 a4 w4) → wpList P [o0, o1, o2, o3, o4, o5, o6, o7, o8, o9, o10, o11, o12, o13, o14, o15, o16, o17, o18, o19].toArray (fun e a4 w4 => e = .normal ∧ (∃ s : KX B w0 n L E, w4 = s.val) ∧ K4 a4 w4) [o11] a3 wk) ∧ True)) [o3, o5, o7, o9] a2) [o10] a1) [o1] a0) [o0, o2, o4, o6, o8] a) : (Code.region id [o0, o1, o2, o3, o4, o5, o6, o7, o8, o9, o10, o11, o12, o13, o14, o15, o16, o17, o18, o19].toArray true).wp P Q a w := by
  have e1 : E w.drew := hE _ _ he ((Below.refl _ _).drew)
  have g := h _ k.drew e1 (hF _ _ hf ((Below.refl _ _).drew))
  exact wp_region_scr (U := (fun w' => ∃ s : KX B w0 n L E, w' = s.val)) (ops := [o0, o1, o2, o3, o4, o5, o6, o7, o8, o9, o10, o11, o12, o13, o14, o15, o16, o17, o18, o19].toArray) (.free 0 (.free 2 (.free 4 (.free 6 (.free 8 (.read 1 (.free 10 (.read 3 (.read 5 (.read 7 (.read 9 (.alt 11 (.free 12 (.alt 13 (.free 14 (.alt 15 (.free 16 (.alt 17 (.free 18 (.alt 19 .done .stop)) .stop)) .stop)) .stop)) .stop)))))))))))) [1, 3, 5, 7, 9] [0, 2, 4, 6, 8, 10, 12, 14, 16, 18] hm hB ⟨⟨_, k.drew, e1⟩, rfl⟩ (Scr.of_free rfl g (fun _ g0 => Scr.of_free rfl g0 (fun _ g1 => Scr.of_free rfl g1 (fun _ g2 => Scr.of_free rfl g2 (fun _ g3 => Scr.of_free rfl g3 (fun _ g4 => Scr.of_read rfl g4 (fun _ g5 => Scr.of_free rfl g5 (fun _ g6 => Scr.of_read rfl g6 (fun _ g7 => Scr.of_read rfl g7 (fun _ g8 => Scr.of_read rfl g8 (fun _ g9 => Scr.of_read rfl g9 (fun _ g10 => (Scr.of_alt rfl (g10.1 _ (fun _ _ g => g)) (fun _ _ g11 => Scr.of_free rfl g11 (fun _ g12 => (Scr.of_alt rfl (g12.1 _ (fun _ _ g => g)) (fun _ _ g13 => Scr.of_free rfl g13 (fun _ g14 => (Scr.of_alt rfl (g14.1 _ (fun _ _ g => g)) (fun _ _ g15 => Scr.of_free rfl g15 (fun _ g16 => (Scr.of_alt rfl (g16.1 _ (fun _ _ g => g)) (fun _ _ g17 => Scr.of_free rfl g17 (fun _ g18 => (Scr.of_alt rfl (g18.1 _ (fun _ _ g => g)) (fun _ _ g19 => g19) trivial))) trivial))) trivial))) trivial))) trivial)))))))))))))
/-- a block of what is public, while it is written -/
def QS (W : World) (Q : Nat) (cs : Array Value) : Prop := W.heap[Q]? = some (.cells cs 49 (0, 0)) ∧ cs.size = 37
theorem QS.lt {W : World} {Q : Nat} {cs : Array Value} (h : QS W Q cs) : Q < W.heap.size := (Array.getElem?_eq_some_iff.1 h.1).1
theorem QS.cell {W : World} {Q : Nat} {cs : Array Value} (h : QS W Q cs) {i : Nat} (hi : i < 37) : ∃ u, W.cell? ⟨Q, i, none⟩ = some u := by
  rw [cell_of_row W Q i _ 49 (0, 0) h.1]
  exact ⟨_, Array.getElem?_eq_getElem (by rw [h.2]; exact hi)⟩
theorem QS.free {W : World} {Q : Nat} {cs : Array Value} (h : QS W Q cs) (i : Nat) : W.frozen? ⟨Q, i, none⟩ = false := by
  unfold World.frozen?
  rw [h.1]
  simp
theorem QS.put {W : World} {Q : Nat} {cs : Array Value} (h : QS W Q cs) (i : Nat) (v : Value) : QS (W.setCell ⟨Q, i, none⟩ v) Q (cs.setIfInBounds i v) := ⟨heap_setCell_same W Q i _ _ v h.1, by simp [h.2]⟩
theorem putAll_size : ∀ (vs : List Value) (cs : Array Value) (o : Nat), (putAll cs o vs).size = cs.size
  | [], _, _ => rfl
  | v :: r, cs, o => by rw [putAll, putAll_size r]; simp
theorem QS.puts {W : World} {Q : Nat} {cs : Array Value} (h : QS W Q cs) (o : Nat) (vs : List Value) : QS (W.setCells Q o vs) Q (putAll cs o vs) := ⟨row_setCells 49 Q vs o W cs h.1, by rw [putAll_size, h.2]⟩
theorem QS.below {W W' : World} {Q : Nat} {cs : Array Value} (h : QS W Q cs) (hb : Below W.heap.size W W') : QS W' Q cs := ⟨(hb.block Q h.lt).trans h.1, h.2⟩
def Plain.puM (B : Bd) (p : Nat) : Pu := if p = 0 then zeroPu else if p = 1 then { zeroPu with s0 := vsB B.ob B.s0 } else { zeroPu with s0 := vsB B.ob B.s0, s1 := vsB B.ob B.s1 }
/-- the rows of objects of the seats that are done -/
def DnM (w : World) (B : Bd) (sp : Ps) (n : Nat) (wr : World) : Prop := ∀ q, q < n → Ox oc 12 79 w.heap.size wr.heap.size wr (sp.fs q).v (obF B.ob (B.seat q).fld) ∧ Ox oc 12 79 w.heap.size wr.heap.size wr (sp.gs q).v (obF B.ob (B.seat q).grv)
theorem DnM.below {w W W' : World} {B : Bd} {sp : Ps} {n : Nat} (h : DnM w B sp n W) (hb : Below W.heap.size W W') : DnM w B sp n W' := fun q hq => ⟨((h q hq).1.below hb).mono (Nat.le_refl _) hb.size, ((h q hq).2.below hb).mono (Nat.le_refl _) hb.size⟩
theorem DnM.onlT {w W W' : World} {B : Bd} {sp : Ps} {n g : Nat} {cs : Array Value} (h : DnM w B sp n W) (ho : Onl [g] W W') (hg : W.heap[g]? = some (.cells cs 49 (0, 0))) : DnM w B sp n W' := fun q hq => ⟨((h q hq).1.onlT ho hg (by decide)).mono (Nat.le_refl _) ho.size, ((h q hq).2.onlT ho hg (by decide)).mono (Nat.le_refl _) ho.size⟩
theorem DnM.next {w W : World} {B : Bd} {sp : Ps} {n : Nat} (h : DnM w B sp n W) (hn : n < 2) {f g : Sl} {S : Se} (hS : B.seat n = S) (hf : Ox oc 12 79 w.heap.size W.heap.size W f.v (obF B.ob S.fld)) (hg : Ox oc 12 79 w.heap.size W.heap.size W g.v (obF B.ob S.grv)) : DnM w B (sp.setS n f g) (n + 1) W := fun q hq => by
  have e := setS_fs sp f g (p := n) (q := q) hn (by omega)
  rw [e.1, e.2]
  by_cases h1 : q = n
  · subst h1
    rw [if_pos rfl, if_pos rfl, hS]
    exact ⟨hf, hg⟩
  · rw [if_neg h1, if_neg h1]
    exact h q (by omega)
def LpL (w : World) (s : Bs) (B : Bd) (Q : Nat) (i : Value) (wr : World) : Prop := ∃ p : Nat, p ≤ 2 ∧ i = .int .i64 p ∧ Below w.heap.size w wr ∧ Bx wr w.heap.size s B ∧ Px wr (w.heap.size + 1) nilPs zeroPu ∧ ∃ sp, QS wr Q (pcells sp (puM B p)) ∧ DnM w B sp p wr ∧ sp.st = nilSl ∧ sp.qu = nilSl ∧ sp.at' = nilSl ∧ sp.bl = nilSl
def PqA (w : World) (P : Pu) (b : Bool) (e : Ending) (w' : World) : Prop := ∃ s', e = .returned (.tuple #[pv s' P, .bool b]) ∧ PuR w' s' P ∧ Below w.heap.size w w'
set_option maxRecDepth 100000 in
set_option maxHeartbeats 4000000 in
theorem chain1 (sp : Ps) (B : Bd) {p : Nat} (hp : p < 2) {S : Se} (hS : B.seat p = S) (f g : Sl) {fx gx : Option Addr} {fy gy : Nat} (hf : f = ⟨fx, (obF B.ob S.fld).length, fy⟩) (hg : g = ⟨gx, (obF B.ob S.grv).length, gy⟩) : ((((((((((putAll ((pcells sp (puM B p)).setIfInBounds (p * 14) (.int .i64 S.li)) (p * 14 + 1) [.int .i64 S.p0, .int .i64 S.p1, .int .i64 S.p2, .int .i64 S.p3]).setIfInBounds (p * 14 + 5) (.int .i64 (S.lib.length : Nat))).setIfInBounds (p * 14 + 6) (.int .i64 (S.hand.length : Nat))).setIfInBounds (p * 14 + 7) (.slice fx (obF B.ob S.fld).length fy)).setIfInBounds (p * 14 + 8) (.slice gx (obF B.ob S.grv).length gy)).setIfInBounds (p * 14 + 9) (.bool S.em)).setIfInBounds (p * 14 + 10) (.bool S.py)).setIfInBounds (p * 14 + 11) (.bool S.kp)).setIfInBounds (p * 14 + 12) (.int .i64 S.mu)).setIfInBounds (p * 14 + 13) (.int .i64 S.ac)) = pcells (sp.setS p f g) (puM B (p + 1)) := by
  subst hS hf hg
  have h2 : p = 0 ∨ p = 1 := by omega
  rcases h2 with rfl | rfl
  · have e : ((((((((((putAll ((pcells sp (puM B 0)).setIfInBounds (0 * 14) (.int .i64 (B.seat 0).li)) (0 * 14 + 1) [.int .i64 (B.seat 0).p0, .int .i64 (B.seat 0).p1, .int .i64 (B.seat 0).p2, .int .i64 (B.seat 0).p3]).setIfInBounds (0 * 14 + 5) (.int .i64 ((B.seat 0).lib.length : Nat))).setIfInBounds (0 * 14 + 6) (.int .i64 ((B.seat 0).hand.length : Nat))).setIfInBounds (0 * 14 + 7) (.slice fx (obF B.ob (B.seat 0).fld).length fy)).setIfInBounds (0 * 14 + 8) (.slice gx (obF B.ob (B.seat 0).grv).length gy)).setIfInBounds (0 * 14 + 9) (.bool (B.seat 0).em)).setIfInBounds (0 * 14 + 10) (.bool (B.seat 0).py)).setIfInBounds (0 * 14 + 11) (.bool (B.seat 0).kp)).setIfInBounds (0 * 14 + 12) (.int .i64 (B.seat 0).mu)).setIfInBounds (0 * 14 + 13) (.int .i64 (B.seat 0).ac)) = pcells (sp.setS 0 ⟨fx, (obF B.ob (B.seat 0).fld).length, fy⟩ ⟨gx, (obF B.ob (B.seat 0).grv).length, gy⟩) (puM B (0 + 1)) := by kernel_rfl
    exact e
  · have e : ((((((((((putAll ((pcells sp (puM B 1)).setIfInBounds (1 * 14) (.int .i64 (B.seat 1).li)) (1 * 14 + 1) [.int .i64 (B.seat 1).p0, .int .i64 (B.seat 1).p1, .int .i64 (B.seat 1).p2, .int .i64 (B.seat 1).p3]).setIfInBounds (1 * 14 + 5) (.int .i64 ((B.seat 1).lib.length : Nat))).setIfInBounds (1 * 14 + 6) (.int .i64 ((B.seat 1).hand.length : Nat))).setIfInBounds (1 * 14 + 7) (.slice fx (obF B.ob (B.seat 1).fld).length fy)).setIfInBounds (1 * 14 + 8) (.slice gx (obF B.ob (B.seat 1).grv).length gy)).setIfInBounds (1 * 14 + 9) (.bool (B.seat 1).em)).setIfInBounds (1 * 14 + 10) (.bool (B.seat 1).py)).setIfInBounds (1 * 14 + 11) (.bool (B.seat 1).kp)).setIfInBounds (1 * 14 + 12) (.int .i64 (B.seat 1).mu)).setIfInBounds (1 * 14 + 13) (.int .i64 (B.seat 1).ac)) = pcells (sp.setS 1 ⟨fx, (obF B.ob (B.seat 1).fld).length, fy⟩ ⟨gx, (obF B.ob (B.seat 1).grv).length, gy⟩) (puM B (1 + 1)) := by kernel_rfl
    exact e
set_option maxRecDepth 100000 in
theorem chain2 (sp : Ps) (B : Bd) (sta qua ata bla : Option Addr) (stc quc atc blc : Nat) : ((((((((((pcells sp (puM B 2)).setIfInBounds (28) (.slice sta B.st.length stc)).setIfInBounds (29) (.slice qua B.qu.length quc)).setIfInBounds (30) (.slice ata B.att.length atc)).setIfInBounds (31) (.slice bla B.bl.length blc)).setIfInBounds (32) (.int .i64 B.tu)).setIfInBounds (33) (.int .i64 B.ac)).setIfInBounds (34) (.int .i64 B.ph)).setIfInBounds (35) (.int .i64 B.ho)).setIfInBounds (36) (.int .i64 B.pa)) = pcells { sp with st := ⟨sta, B.st.length, stc⟩, qu := ⟨qua, B.qu.length, quc⟩, at' := ⟨ata, B.att.length, atc⟩, bl := ⟨bla, B.bl.length, blc⟩ } (puB B) := by kernel_rfl
set_option maxRecDepth 100000 in
set_option maxHeartbeats 4000000 in
theorem lpublic_bad (s : Bs) (B : Bd) (w : World) (h : BdR w s B) (hi : B.I) (hsm : B.Sm) (hv : ¬ VB B) : Calls Try.prog 25 #[bv s B] w (PqA w zeroPu false) := by
  have HR := Lib.hid h
  have HI := Lib.hid hi
  have HSM := Lib.hid hsm
  have HV := Lib.hid hv
  clear h hi hsm hv
  go_enter Try.func25, Try.ntmps25
  go_upto_region 1 with fail
  change Code.wp Try.prog _ _ _ ((w.alloc (.cells (bcells s B) 34)).alloc (.cells (pcells nilPs zeroPu) 49))
  obtain ⟨wz, hwz⟩ : ∃ W, W = (w.alloc (.cells (bcells s B) 34)).alloc (.cells (pcells nilPs zeroPu) 49) := ⟨_, rfl⟩
  have b1 : Below w.heap.size w (w.alloc (.cells (bcells s B) 34)) := (Below.refl _ _).alloc (Nat.le_refl _) _
  have b2 : Below (w.alloc (.cells (bcells s B) 34)).heap.size (w.alloc (.cells (bcells s B) 34)) wz := by rw [hwz]; exact (Below.refl _ _).alloc (Nat.le_refl _) _
  have HX : Hid (Bx wz w.heap.size s B) := Lib.hid (Bx.below (w := w.alloc (.cells (bcells s B) 34)) (heap_alloc_new _ _) b2)
  have HZ : Hid (Px wz (w.heap.size + 1) nilPs zeroPu) := Lib.hid (by rw [hwz, show w.heap.size + 1 = (w.alloc (.cells (bcells s B) 34)).heap.size by simp]; exact heap_alloc_new _ _)
  have HB : Hid (Below w.heap.size w wz) := Lib.hid (below_via b1 b2)
  rw [← hwz]
  clear hwz b1 b2
  go_wp2_with (refine wpList_load_bx _ rfl rfl HX.out (by kernel_rfl) ?_)
  with_reducible refine (bvalid s B _ (HR.out.below HB.out) HI.out HSM.out).mono ?_
  rintro e w1 ⟨⟨r, rfl, hr⟩, hb⟩
  obtain rfl : r = false := by cases r with | false => rfl | true => exact absurd (hr.1 rfl) HV.out
  replace HZ := Lib.hid (HZ.out.below hb)
  replace HB := Lib.hid (below_via HB.out hb)
  clear hr hb HX
  go_wp2_with (refine wpList_store_ph (s := nilPs) (P := zeroPu) rfl _ _ rfl rfl rfl HZ.out rfl ?_; intro w9 hw9)
  have hg9 : Px w9 (w.heap.size + 1) nilPs zeroPu := by rw [hw9.out]; exact Px.row HZ.out _ _
  have ho9 : Onl [w.heap.size + 1] w1 w9 := by rw [hw9.out]; exact Onl.setRow (Onl.refl _ _) (.inl (by simp)) _
  have hb9 : Below w.heap.size w w9 := belowOnl HB.out ho9 (by simp) HB.out.size
  have HG9 := Lib.hid hg9
  have HPOST : Hid (PqA w zeroPu false (.returned (.tuple #[pv nilPs zeroPu, .bool false])) w9) := Lib.hid ⟨_, rfl, (PuO.zero 0 0 _).rd, hb9⟩
  clear hw9 hg9 ho9 hb9
  go_wp2_with fail
  exact bodyPost_ret (v := .tuple #[pv nilPs zeroPu, .bool false]) (results_p1 Try.results25 _ _ HG9.out rfl rfl) rfl HPOST.out
set_option maxRecDepth 100000 in
set_option maxHeartbeats 20000000 in
theorem lpublic_ok (s : Bs) (B : Bd) (w : World) (h : BdR w s B) (hi : B.I) (hsm : B.Sm) (hv : VB B) : Calls Try.prog 25 #[bv s B] w (PqA w (puB B) true) := by
  have HR := Lib.hid h
  have HI := Lib.hid hi
  have HSM := Lib.hid hsm
  have HV := Lib.hid hv
  clear h hi hsm hv
  go_enter Try.func25, Try.ntmps25
  go_upto_region 1 with fail
  change Code.wp Try.prog _ _ _ ((w.alloc (.cells (bcells s B) 34)).alloc (.cells (pcells nilPs zeroPu) 49))
  obtain ⟨wz, hwz⟩ : ∃ W, W = (w.alloc (.cells (bcells s B) 34)).alloc (.cells (pcells nilPs zeroPu) 49) := ⟨_, rfl⟩
  have b1 : Below w.heap.size w (w.alloc (.cells (bcells s B) 34)) := (Below.refl _ _).alloc (Nat.le_refl _) _
  have b2 : Below (w.alloc (.cells (bcells s B) 34)).heap.size (w.alloc (.cells (bcells s B) 34)) wz := by rw [hwz]; exact (Below.refl _ _).alloc (Nat.le_refl _) _
  have HX : Hid (Bx wz w.heap.size s B) := Lib.hid (Bx.below (w := w.alloc (.cells (bcells s B) 34)) (heap_alloc_new _ _) b2)
  have HZ : Hid (Px wz (w.heap.size + 1) nilPs zeroPu) := Lib.hid (by rw [hwz, show w.heap.size + 1 = (w.alloc (.cells (bcells s B) 34)).heap.size by simp]; exact heap_alloc_new _ _)
  have HB : Hid (Below w.heap.size w wz) := Lib.hid (below_via b1 b2)
  rw [← hwz]
  clear hwz b1 b2
  go_wp2_with (refine wpList_load_bx _ rfl rfl HX.out (by kernel_rfl) ?_)
  with_reducible refine (bvalid s B _ (HR.out.below HB.out) HI.out HSM.out).mono ?_
  rintro e w1 ⟨⟨r, rfl, hr⟩, hb⟩
  obtain rfl : r = true := hr.2 HV.out
  replace HX := Lib.hid (HX.out.below hb)
  replace HZ := Lib.hid (HZ.out.below hb)
  replace HB := Lib.hid (below_via HB.out hb)
  clear hr hb
  have HLO : Hid (B.ob.length ≤ 1000) := Lib.hid HSM.out.ob
  have HND : Hid ((B.ob.map Ob.id).Nodup) := Lib.hid (ids_nodup (fun i o h => (HV.out.plc.ob i o h).2.1))
  go_upto_region 4 with fail
  change Code.wp Try.prog _ _ _ (w1.alloc (.cells (pcells nilPs zeroPu) 49))
  obtain ⟨w2, hw2⟩ : ∃ W, W = w1.alloc (.cells (pcells nilPs zeroPu) 49) := ⟨_, rfl⟩
  have hb2 : Below w1.heap.size w1 w2 := by rw [hw2]; exact (Below.refl _ _).alloc (Nat.le_refl _) _
  have hqs : QS w2 w1.heap.size (pcells nilPs (puM B 0)) := ⟨by rw [hw2]; exact heap_alloc_new _ _, rfl⟩
  have hqn : w.heap.size + 1 < w1.heap.size := HZ.out.lt
  rw [← hw2]
  obtain ⟨Q, hQ⟩ : ∃ q, q = w1.heap.size := ⟨_, rfl⟩
  rw [← hQ] at hqs hqn ⊢
  have HQS := Lib.hid hqs
  have HQN := Lib.hid hqn
  replace HX := Lib.hid (HX.out.below hb2)
  replace HZ := Lib.hid (HZ.out.below hb2)
  replace HB := Lib.hid (below_via HB.out hb2)
  clear hw2 hb2 hqs hqn hQ
  go_wp2_with fail
  go_loopw [5] (fun i wr => LpL w s B Q i wr) (fun i _ => 2 - (intOf i).toNat)
  case atStart => exact ⟨0, by omega, rfl, HB.out, HX.out, HZ.out, nilPs, HQS.out, fun q h => by omega, rfl, rfl, rfl, rfl⟩
  case round =>
    clear HX HZ HB HQS
    obtain ⟨p, hp, rfl, hb, hx, hz, sp, hq, hdn, hs1, hs2, hs3, hs4⟩ := hrel
    have HB := Lib.hid hb
    have HX := Lib.hid hx
    have HZ := Lib.hid hz
    have HQS := Lib.hid hq
    have HDN := Lib.hid hdn
    have HNL : Hid (sp.st = nilSl ∧ sp.qu = nilSl ∧ sp.at' = nilSl ∧ sp.bl = nilSl) := Lib.hid ⟨hs1, hs2, hs3, hs4⟩
    clear hb hx hz hq hdn hs1 hs2 hs3 hs4
    by_cases hp2 : p < 2
    · obtain ⟨S, hS⟩ : ∃ S, B.seat p = S := ⟨_, rfl⟩
      obtain ⟨⟨la, ln, lc⟩, e0⟩ : ∃ q, s.zl p 0 = q := ⟨_, rfl⟩
      obtain ⟨⟨ha, hn, hc⟩, e1⟩ : ∃ q, s.zl p 1 = q := ⟨_, rfl⟩
      obtain ⟨⟨fa, fn, fc⟩, e2⟩ : ∃ q, s.zl p 2 = q := ⟨_, rfl⟩
      obtain ⟨⟨ga, gn, gc⟩, e3⟩ : ∃ q, s.zl p 3 = q := ⟨_, rfl⟩
      have z0 := HR.out.zone p 0
      have z1 := HR.out.zone p 1
      have z2 := HR.out.zone p 2
      have z3 := HR.out.zone p 3
      rw [e0, hS] at z0
      rw [e1, hS] at z1
      rw [e2, hS] at z2
      rw [e3, hS] at z3
      have y0 : ln = S.lib.length := rw_len z0
      have y1 : hn = S.hand.length := rw_len z1
      have y2 : fn = S.fld.length := rw_len z2
      have y3 : gn = S.grv.length := rw_len z3
      subst y0 y1 y2 y3
      have HFS : Hid (Rw ic 1 w (.slice fa S.fld.length fc) S.fld ∧ Rw ic 1 w (.slice ga S.grv.length gc) S.grv) := Lib.hid ⟨z2, z3⟩
      have HLS : Hid (S.fld.length ≤ 1000 ∧ S.grv.length ≤ 1000) := Lib.hid (by
        have h2 := HSM.out.zs p 2
        have h3 := HSM.out.zs p 3
        rw [hS] at h2 h3
        exact ⟨h2, h3⟩)
      have rs := HX.out.seat hp2
      rw [e0, e1, e2, e3, hS] at rs
      have d0 : wr.cell? ⟨w.heap.size, 1 + p * 14, none⟩ = some (.int .i64 S.li) := rs 0 _ rfl
      have d1 : wr.cell? ⟨w.heap.size, 1 + p * 14 + 1, none⟩ = some (.int .i64 S.p0) := rs 1 _ rfl
      have d2 : wr.cell? ⟨w.heap.size, 1 + p * 14 + 2, none⟩ = some (.int .i64 S.p1) := rs 2 _ rfl
      have d3 : wr.cell? ⟨w.heap.size, 1 + p * 14 + 3, none⟩ = some (.int .i64 S.p2) := rs 3 _ rfl
      have d4 : wr.cell? ⟨w.heap.size, 1 + p * 14 + 4, none⟩ = some (.int .i64 S.p3) := rs 4 _ rfl
      have d5 : wr.cell? ⟨w.heap.size, 1 + p * 14 + 5, none⟩ = some (.slice la S.lib.length lc) := rs 5 _ rfl
      have d6 : wr.cell? ⟨w.heap.size, 1 + p * 14 + 6, none⟩ = some (.slice ha S.hand.length hc) := rs 6 _ rfl
      have d7 : wr.cell? ⟨w.heap.size, 1 + p * 14 + 7, none⟩ = some (.slice fa S.fld.length fc) := rs 7 _ rfl
      have d8 : wr.cell? ⟨w.heap.size, 1 + p * 14 + 8, none⟩ = some (.slice ga S.grv.length gc) := rs 8 _ rfl
      have d9 : wr.cell? ⟨w.heap.size, 1 + p * 14 + 9, none⟩ = some (.bool S.em) := rs 9 _ rfl
      have d10 : wr.cell? ⟨w.heap.size, 1 + p * 14 + 10, none⟩ = some (.bool S.py) := rs 10 _ rfl
      have d11 : wr.cell? ⟨w.heap.size, 1 + p * 14 + 11, none⟩ = some (.bool S.kp) := rs 11 _ rfl
      have d12 : wr.cell? ⟨w.heap.size, 1 + p * 14 + 12, none⟩ = some (.int .i64 S.mu) := rs 12 _ rfl
      have d13 : wr.cell? ⟨w.heap.size, 1 + p * 14 + 13, none⟩ = some (.int .i64 S.ac) := rs 13 _ rfl
      have g1 := HX.out.lt
      have i1 : (0 : Int) ≤ (p : Int) := by omega
      have i2 : (p : Int) < 2 := by omega
      have HSS := Lib.hid hS
      clear z0 z1 z2 z3 rs e0 e1 e2 e3 hS
      go_upto_region 7 with fail
      go_cut [6, 7] (fun s6 s7 wx => ∃ X, s6 = .pointer (some ⟨X, 0, none⟩) ∧ s7 = .pointer (some ⟨Q, p * 14, none⟩) ∧ Ro wx X #[.int .i64 S.li, .int .i64 S.p0, .int .i64 S.p1, .int .i64 S.p2, .int .i64 S.p3, .slice la S.lib.length lc, .slice ha S.hand.length hc, .slice fa S.fld.length fc, .slice ga S.grv.length gc, .bool S.em, .bool S.py, .bool S.kp, .int .i64 S.mu, .int .i64 S.ac] 28 ∧ wr.heap.size ≤ X ∧ Below wr.heap.size wr wx)
      case first =>
        refine rg25_7 (w0 := wr) (B := wr.heap.size) (n := wr.heap.size) (L := []) (E := fun _ => True) (F := fun _ => True) (by kernel_rfl) (by kernel_rfl) ⟨by go_grown, by go_size, (by simp [go_sem] <;> omega)⟩ trivial (fun _ _ _ _ => trivial) trivial (fun _ _ _ _ => trivial) (fun w41 K_w41 E_w41 F_w41 => ?_)
        have _ne : Nonempty (KX (wr.heap.size) wr (wr.heap.size) [] (fun _ => True)) := ⟨⟨_, K_w41, E_w41⟩⟩
        repeat (go_big_quiet_step (fail))
        refine wpQuiet_nil ?_
        have rs0 : ∀ s : KX (wr.heap.size) wr (wr.heap.size) [] (fun _ => True), s.val.cell? ⟨w.heap.size, 1 + p * 14, none⟩ = some (.int .i64 S.li) := fun s => (s.kept.below.cell (p := ⟨w.heap.size, 1 + p * 14, none⟩) g1).trans d0
        have rs1 : ∀ s : KX (wr.heap.size) wr (wr.heap.size) [] (fun _ => True), s.val.cell? ⟨w.heap.size, 1 + p * 14 + 1, none⟩ = some (.int .i64 S.p0) := fun s => (s.kept.below.cell (p := ⟨w.heap.size, 1 + p * 14 + 1, none⟩) g1).trans d1
        have rs2 : ∀ s : KX (wr.heap.size) wr (wr.heap.size) [] (fun _ => True), s.val.cell? ⟨w.heap.size, 1 + p * 14 + 2, none⟩ = some (.int .i64 S.p1) := fun s => (s.kept.below.cell (p := ⟨w.heap.size, 1 + p * 14 + 2, none⟩) g1).trans d2
        have rs3 : ∀ s : KX (wr.heap.size) wr (wr.heap.size) [] (fun _ => True), s.val.cell? ⟨w.heap.size, 1 + p * 14 + 3, none⟩ = some (.int .i64 S.p2) := fun s => (s.kept.below.cell (p := ⟨w.heap.size, 1 + p * 14 + 3, none⟩) g1).trans d3
        have rs4 : ∀ s : KX (wr.heap.size) wr (wr.heap.size) [] (fun _ => True), s.val.cell? ⟨w.heap.size, 1 + p * 14 + 4, none⟩ = some (.int .i64 S.p3) := fun s => (s.kept.below.cell (p := ⟨w.heap.size, 1 + p * 14 + 4, none⟩) g1).trans d4
        have rs5 : ∀ s : KX (wr.heap.size) wr (wr.heap.size) [] (fun _ => True), s.val.cell? ⟨w.heap.size, 1 + p * 14 + 5, none⟩ = some (.slice la S.lib.length lc) := fun s => (s.kept.below.cell (p := ⟨w.heap.size, 1 + p * 14 + 5, none⟩) g1).trans d5
        have rs6 : ∀ s : KX (wr.heap.size) wr (wr.heap.size) [] (fun _ => True), s.val.cell? ⟨w.heap.size, 1 + p * 14 + 6, none⟩ = some (.slice ha S.hand.length hc) := fun s => (s.kept.below.cell (p := ⟨w.heap.size, 1 + p * 14 + 6, none⟩) g1).trans d6
        have rs7 : ∀ s : KX (wr.heap.size) wr (wr.heap.size) [] (fun _ => True), s.val.cell? ⟨w.heap.size, 1 + p * 14 + 7, none⟩ = some (.slice fa S.fld.length fc) := fun s => (s.kept.below.cell (p := ⟨w.heap.size, 1 + p * 14 + 7, none⟩) g1).trans d7
        have rs8 : ∀ s : KX (wr.heap.size) wr (wr.heap.size) [] (fun _ => True), s.val.cell? ⟨w.heap.size, 1 + p * 14 + 8, none⟩ = some (.slice ga S.grv.length gc) := fun s => (s.kept.below.cell (p := ⟨w.heap.size, 1 + p * 14 + 8, none⟩) g1).trans d8
        have rs9 : ∀ s : KX (wr.heap.size) wr (wr.heap.size) [] (fun _ => True), s.val.cell? ⟨w.heap.size, 1 + p * 14 + 9, none⟩ = some (.bool S.em) := fun s => (s.kept.below.cell (p := ⟨w.heap.size, 1 + p * 14 + 9, none⟩) g1).trans d9
        have rs10 : ∀ s : KX (wr.heap.size) wr (wr.heap.size) [] (fun _ => True), s.val.cell? ⟨w.heap.size, 1 + p * 14 + 10, none⟩ = some (.bool S.py) := fun s => (s.kept.below.cell (p := ⟨w.heap.size, 1 + p * 14 + 10, none⟩) g1).trans d10
        have rs11 : ∀ s : KX (wr.heap.size) wr (wr.heap.size) [] (fun _ => True), s.val.cell? ⟨w.heap.size, 1 + p * 14 + 11, none⟩ = some (.bool S.kp) := fun s => (s.kept.below.cell (p := ⟨w.heap.size, 1 + p * 14 + 11, none⟩) g1).trans d11
        have rs12 : ∀ s : KX (wr.heap.size) wr (wr.heap.size) [] (fun _ => True), s.val.cell? ⟨w.heap.size, 1 + p * 14 + 12, none⟩ = some (.int .i64 S.mu) := fun s => (s.kept.below.cell (p := ⟨w.heap.size, 1 + p * 14 + 12, none⟩) g1).trans d12
        have rs13 : ∀ s : KX (wr.heap.size) wr (wr.heap.size) [] (fun _ => True), s.val.cell? ⟨w.heap.size, 1 + p * 14 + 13, none⟩ = some (.int .i64 S.ac) := fun s => (s.kept.below.cell (p := ⟨w.heap.size, 1 + p * 14 + 13, none⟩) g1).trans d13
        repeat (go_big_quiet_step (fail))
        refine wpQuiet_nil ?_
        clear rs0 rs1 rs2 rs3 rs4 rs5 rs6 rs7 rs8 rs9 rs10 rs11 rs12 rs13
        have KH_w41 := Lib.hid K_w41
        have hw_w41 := K_w41.below
        have hz_w41 := K_w41.size
        clear K_w41
        clear E_w41 F_w41
        refine ⟨fun K hK0 => ?_, trivial⟩
        have hK := Lib.hid hK0
        clear hK0
        have HW := Lib.hid hw_w41
        clear hw_w41 hz_w41 KH_w41
        go_wp2_with fail
        first | (refine ⟨rfl, ⟨⟨_, ⟨HW.out.alloc HW.out.size _, Nat.le_trans HW.out.size (by simp), by simp⟩, trivial⟩, rfl⟩, hK.out _ _ ?_⟩; clear hK K) | (refine ⟨⟨⟨_, ⟨HW.out.alloc HW.out.size _, Nat.le_trans HW.out.size (by simp), by simp⟩, trivial⟩, rfl⟩, hK.out _ _ ?_⟩; clear hK K)
        refine ⟨fun K hK0 => ?_, trivial⟩
        have hK := Lib.hid hK0
        clear hK0
        obtain ⟨w42, hw42⟩ : ∃ X, X = w41.alloc (.cells #[.int .i64 0, .int .i64 0, .int .i64 0, .int .i64 0, .int .i64 0, .slice none 0 0, .slice none 0 0, .slice none 0 0, .slice none 0 0, .bool false, .bool false, .bool false, .int .i64 0, .int .i64 0] 28) := ⟨_, rfl⟩
        rw [← hw42]
        have hb : Below w41.heap.size w41 w42 := by rw [hw42]; exact (Below.refl _ _).alloc (Nat.le_refl _) _
        have X0 : Ro w42 w41.heap.size #[.int .i64 0, .int .i64 0, .int .i64 0, .int .i64 0, .int .i64 0, .slice none 0 0, .slice none 0 0, .slice none 0 0, .slice none 0 0, .bool false, .bool false, .bool false, .int .i64 0, .int .i64 0] 28 := by rw [hw42]; exact Ro.new _ _ _
        obtain ⟨bX, hbX⟩ : ∃ n, n = w41.heap.size := ⟨_, rfl⟩
        rw [← hbX] at X0 ⊢
        have HGX : Hid (wr.heap.size ≤ bX) := Lib.hid (by rw [hbX]; exact HW.out.size)
        replace HW := Lib.hid (HW.out.trans (hb.mono HW.out.size))
        have X := Lib.hid X0
        clear hw42 hb X0 hbX
        go_wp2_with (refine wpList_store_ro 28 rfl _ _ rfl rfl rfl X.out rfl rfl (by simp [Value.oneCell']) ?_)
        obtain ⟨w43, hw43⟩ : ∃ X, X = w42.setRow bX #[.int .i64 S.li, .int .i64 S.p0, .int .i64 S.p1, .int .i64 S.p2, .int .i64 S.p3, .slice la S.lib.length lc, .slice ha S.hand.length hc, .slice fa S.fld.length fc, .slice ga S.grv.length gc, .bool S.em, .bool S.py, .bool S.kp, .int .i64 S.mu, .int .i64 S.ac] := ⟨_, rfl⟩
        rw [← hw43]
        have ho : Onl [bX] w42 w43 := by rw [hw43]; exact Onl.setRow (Onl.refl _ _) (.inl (by simp)) _
        replace X : Hid (Ro w43 bX #[.int .i64 S.li, .int .i64 S.p0, .int .i64 S.p1, .int .i64 S.p2, .int .i64 S.p3, .slice la S.lib.length lc, .slice ha S.hand.length hc, .slice fa S.fld.length fc, .slice ga S.grv.length gc, .bool S.em, .bool S.py, .bool S.kp, .int .i64 S.mu, .int .i64 S.ac] 28) := Lib.hid (by rw [hw43]; exact setRow_heap _ _ _ _ _ _ X.out)
        replace HW := Lib.hid (belowOnl HW.out ho (by simpa using HGX.out) HW.out.size)
        clear ho hw43
        go_wp2_with fail
        first | (refine ⟨rfl, ⟨⟨_, ⟨HW.out, HW.out.size, by simp⟩, trivial⟩, rfl⟩, hK.out _ _ ?_⟩; clear hK K) | (refine ⟨⟨⟨_, ⟨HW.out, HW.out.size, by simp⟩, trivial⟩, rfl⟩, hK.out _ _ ?_⟩; clear hK K)
        repeat (go_big_quiet_step (fail))
        refine wpQuiet_nil ?_
        clear _ne
        go_wp2_with fail
        go_meet
        case rel => exact ⟨bX, rfl, rfl, X.out, HGX.out, HW.out⟩
      case rest =>
        obtain ⟨bX, rfl, rfl, hX, hXn, hW⟩ := hcut
        have HXQ : Hid (bX ≠ Q) := Lib.hid (by have := HQS.out.lt; omega)
        replace HB := Lib.hid (below_via HB.out hW)
        replace HX := Lib.hid (HX.out.below hW)
        replace HZ := Lib.hid (HZ.out.below hW)
        replace HQS := Lib.hid (HQS.out.below hW)
        replace HDN := Lib.hid (DnM.below HDN.out hW)
        have HRX := Lib.hid hX
        clear d0 d1 d2 d3 d4 d5 d6 d7 d8 d9 d10 d11 d12 d13 g1 hX hXn hW
        have KH0 := Lib.hid (⟨HB.out, HB.out.size, by simp⟩ : Kept w.heap.size w (w.heap.size) [] wc)
        go_upto_region 8 with fail
        refine rg25_8 (w0 := w) (B := w.heap.size) (n := w.heap.size) (L := []) (E := fun W => Ro W bX #[.int .i64 S.li, .int .i64 S.p0, .int .i64 S.p1, .int .i64 S.p2, .int .i64 S.p3, .slice la S.lib.length lc, .slice ha S.hand.length hc, .slice fa S.fld.length fc, .slice ga S.grv.length gc, .bool S.em, .bool S.py, .bool S.kp, .int .i64 S.mu, .int .i64 S.ac] 28) (F := fun W => Below wc.heap.size wc W) (by kernel_rfl) (by kernel_rfl) (KH0.out.step (by omega) (by go_grown)) HRX.out (fun _ _ h hb => h.below hb) (Below.refl _ _) (fun _ _ h hb => below_via h hb) (fun w61 K_w61 E_w61 F_w61 => ?_)
        have _ne : Nonempty (KX (w.heap.size) w (w.heap.size) [] (fun W => Ro W bX #[.int .i64 S.li, .int .i64 S.p0, .int .i64 S.p1, .int .i64 S.p2, .int .i64 S.p3, .slice la S.lib.length lc, .slice ha S.hand.length hc, .slice fa S.fld.length fc, .slice ga S.grv.length gc, .bool S.em, .bool S.py, .bool S.kp, .int .i64 S.mu, .int .i64 S.ac] 28)) := ⟨⟨_, K_w61, E_w61⟩⟩
        repeat (go_big_quiet_step (fail))
        refine wpQuiet_nil ?_
        have rx0 : ∀ s : KX (w.heap.size) w (w.heap.size) [] (fun W => Ro W bX #[.int .i64 S.li, .int .i64 S.p0, .int .i64 S.p1, .int .i64 S.p2, .int .i64 S.p3, .slice la S.lib.length lc, .slice ha S.hand.length hc, .slice fa S.fld.length fc, .slice ga S.grv.length gc, .bool S.em, .bool S.py, .bool S.kp, .int .i64 S.mu, .int .i64 S.ac] 28), s.val.cell? ⟨bX, 0, none⟩ = some (.int .i64 S.li) := fun s => s.ex.cell 0
        have rx1 : ∀ s : KX (w.heap.size) w (w.heap.size) [] (fun W => Ro W bX #[.int .i64 S.li, .int .i64 S.p0, .int .i64 S.p1, .int .i64 S.p2, .int .i64 S.p3, .slice la S.lib.length lc, .slice ha S.hand.length hc, .slice fa S.fld.length fc, .slice ga S.grv.length gc, .bool S.em, .bool S.py, .bool S.kp, .int .i64 S.mu, .int .i64 S.ac] 28), s.val.cell? ⟨bX, 1, none⟩ = some (.int .i64 S.p0) := fun s => s.ex.cell 1
        have rx2 : ∀ s : KX (w.heap.size) w (w.heap.size) [] (fun W => Ro W bX #[.int .i64 S.li, .int .i64 S.p0, .int .i64 S.p1, .int .i64 S.p2, .int .i64 S.p3, .slice la S.lib.length lc, .slice ha S.hand.length hc, .slice fa S.fld.length fc, .slice ga S.grv.length gc, .bool S.em, .bool S.py, .bool S.kp, .int .i64 S.mu, .int .i64 S.ac] 28), s.val.cell? ⟨bX, 2, none⟩ = some (.int .i64 S.p1) := fun s => s.ex.cell 2
        have rx3 : ∀ s : KX (w.heap.size) w (w.heap.size) [] (fun W => Ro W bX #[.int .i64 S.li, .int .i64 S.p0, .int .i64 S.p1, .int .i64 S.p2, .int .i64 S.p3, .slice la S.lib.length lc, .slice ha S.hand.length hc, .slice fa S.fld.length fc, .slice ga S.grv.length gc, .bool S.em, .bool S.py, .bool S.kp, .int .i64 S.mu, .int .i64 S.ac] 28), s.val.cell? ⟨bX, 3, none⟩ = some (.int .i64 S.p2) := fun s => s.ex.cell 3
        have rx4 : ∀ s : KX (w.heap.size) w (w.heap.size) [] (fun W => Ro W bX #[.int .i64 S.li, .int .i64 S.p0, .int .i64 S.p1, .int .i64 S.p2, .int .i64 S.p3, .slice la S.lib.length lc, .slice ha S.hand.length hc, .slice fa S.fld.length fc, .slice ga S.grv.length gc, .bool S.em, .bool S.py, .bool S.kp, .int .i64 S.mu, .int .i64 S.ac] 28), s.val.cell? ⟨bX, 4, none⟩ = some (.int .i64 S.p3) := fun s => s.ex.cell 4
        have rx5 : ∀ s : KX (w.heap.size) w (w.heap.size) [] (fun W => Ro W bX #[.int .i64 S.li, .int .i64 S.p0, .int .i64 S.p1, .int .i64 S.p2, .int .i64 S.p3, .slice la S.lib.length lc, .slice ha S.hand.length hc, .slice fa S.fld.length fc, .slice ga S.grv.length gc, .bool S.em, .bool S.py, .bool S.kp, .int .i64 S.mu, .int .i64 S.ac] 28), s.val.cell? ⟨bX, 5, none⟩ = some (.slice la S.lib.length lc) := fun s => s.ex.cell 5
        have rx6 : ∀ s : KX (w.heap.size) w (w.heap.size) [] (fun W => Ro W bX #[.int .i64 S.li, .int .i64 S.p0, .int .i64 S.p1, .int .i64 S.p2, .int .i64 S.p3, .slice la S.lib.length lc, .slice ha S.hand.length hc, .slice fa S.fld.length fc, .slice ga S.grv.length gc, .bool S.em, .bool S.py, .bool S.kp, .int .i64 S.mu, .int .i64 S.ac] 28), s.val.cell? ⟨bX, 6, none⟩ = some (.slice ha S.hand.length hc) := fun s => s.ex.cell 6
        repeat (go_big_quiet_step (fail))
        refine wpQuiet_nil ?_
        repeat (go_big_quiet_step (fail))
        refine wpQuiet_nil ?_
        repeat (go_big_quiet_step (fail))
        refine wpQuiet_nil ?_
        repeat (go_big_quiet_step (fail))
        refine wpQuiet_nil ?_
        repeat (go_big_quiet_step (fail))
        refine wpQuiet_nil ?_
        repeat (go_big_quiet_step (fail))
        refine wpQuiet_nil ?_
        have KH_w61 := Lib.hid K_w61
        have hw_w61 := K_w61.below
        have hz_w61 := K_w61.size
        clear K_w61
        have HE1 := Lib.hid E_w61
        have HG1 := Lib.hid (F_w61)
        clear E_w61 F_w61
        refine ⟨fun K hK0 => ?_, trivial⟩
        have hK := Lib.hid hK0
        clear hK0
        have hb : Below wc.heap.size wc w61 := HG1.out
        replace HB := Lib.hid (below_via HB.out hb)
        replace HX := Lib.hid (HX.out.below hb)
        replace HZ := Lib.hid (HZ.out.below hb)
        replace HQS := Lib.hid (HQS.out.below hb)
        replace HDN := Lib.hid (DnM.below HDN.out hb)
        replace HRX := Lib.hid (HRX.out.below hb)
        clear hb HE1 HG1
        obtain ⟨u0, cc⟩ := HQS.out.cell (i := p * 14) (by omega)
        have fc := HQS.out.free (p * 14)
        go_wp2_with fail
        clear cc fc
        obtain ⟨v1, hV⟩ : ∃ X, X = w61.setCell ⟨Q, p * 14, none⟩ (.int .i64 S.li) := ⟨_, rfl⟩
        rw [← hV]
        obtain ⟨c2, ec2⟩ : ∃ c, c = (pcells sp (puM B p)).setIfInBounds (p * 14) (.int .i64 S.li) := ⟨_, rfl⟩
        have ho : Onl [Q] w61 v1 := by rw [hV]; exact Onl.setCell (Onl.refl _ _) (.inl (by simp)) _
        replace HB := Lib.hid (belowOnl HB.out ho (by have := HQN.out; simp; omega) HB.out.size)
        replace HX := Lib.hid (HX.out.onl ho (by have := HQN.out; simp; omega))
        replace HZ := Lib.hid (HZ.out.onl ho (by have := HQN.out; simp; omega))
        replace HDN := Lib.hid (DnM.onlT HDN.out ho HQS.out.1)
        replace HRX := Lib.hid (HRX.out.onl ho (by have := HXQ.out; simpa using this))
        replace HQS : Hid (QS v1 Q c2) := Lib.hid (by rw [hV, ec2]; exact HQS.out.put (p * 14) (.int .i64 S.li))
        have Ec2 := Lib.hid ec2
        clear hV ho ec2
        skip
        first | (refine ⟨rfl, ⟨⟨_, (⟨HB.out, HB.out.size, by simp⟩ : Kept w.heap.size w (w.heap.size) [] v1), HRX.out⟩, rfl⟩, hK.out _ _ ?_⟩; clear hK K) | (refine ⟨⟨⟨_, (⟨HB.out, HB.out.size, by simp⟩ : Kept w.heap.size w (w.heap.size) [] v1), HRX.out⟩, rfl⟩, hK.out _ _ ?_⟩; clear hK K)
        repeat (go_big_quiet_step (fail))
        refine wpQuiet_nil ?_
        refine ⟨fun K hK0 => ?_, trivial⟩
        have hK := Lib.hid hK0
        clear hK0
        have HTH : Hid (v1.there Q (p * 14 + 1) 4) := Lib.hid (fun j hj => ⟨by
          obtain ⟨u1, h1⟩ := HQS.out.cell (i := p * 14 + 1 + j) (by omega)
          rw [h1]
          rfl, HQS.out.free _⟩)
        go_wp2_with (refine wpList_store_mid rfl 25 _ _ rfl Q (p * 14 + 1) #[.int .i64 S.p0, .int .i64 S.p1, .int .i64 S.p2, .int .i64 S.p3] rfl rfl HTH.out (by kernel_rfl) (by simp [Value.oneCell']) ?_)
        obtain ⟨v3, hV⟩ : ∃ X, X = v1.setCells Q (p * 14 + 1) [.int .i64 S.p0, .int .i64 S.p1, .int .i64 S.p2, .int .i64 S.p3] := ⟨_, rfl⟩
        first | change K _ (v1.setCells Q (p * 14 + 1) [.int .i64 S.p0, .int .i64 S.p1, .int .i64 S.p2, .int .i64 S.p3]) | change wpList _ _ _ _ _ (v1.setCells Q (p * 14 + 1) [.int .i64 S.p0, .int .i64 S.p1, .int .i64 S.p2, .int .i64 S.p3]) | skip
        rw [← hV]
        obtain ⟨c4, ec4⟩ : ∃ c, c = putAll c2 (p * 14 + 1) [.int .i64 S.p0, .int .i64 S.p1, .int .i64 S.p2, .int .i64 S.p3] := ⟨_, rfl⟩
        have ho : Onl [Q] v1 v3 := by rw [hV]; exact Onl.setCells _ _ _ (Onl.refl _ _) (.inl (by simp))
        replace HB := Lib.hid (belowOnl HB.out ho (by have := HQN.out; simp; omega) HB.out.size)
        replace HX := Lib.hid (HX.out.onl ho (by have := HQN.out; simp; omega))
        replace HZ := Lib.hid (HZ.out.onl ho (by have := HQN.out; simp; omega))
        replace HDN := Lib.hid (DnM.onlT HDN.out ho HQS.out.1)
        replace HRX := Lib.hid (HRX.out.onl ho (by have := HXQ.out; simpa using this))
        replace HQS : Hid (QS v3 Q c4) := Lib.hid (by rw [hV, ec4]; exact HQS.out.puts (p * 14 + 1) [.int .i64 S.p0, .int .i64 S.p1, .int .i64 S.p2, .int .i64 S.p3])
        have Ec4 := Lib.hid ec4
        clear hV ho ec4
        clear HTH
        go_wp2_with fail
        first | (refine ⟨rfl, ⟨⟨_, (⟨HB.out, HB.out.size, by simp⟩ : Kept w.heap.size w (w.heap.size) [] v3), HRX.out⟩, rfl⟩, hK.out _ _ ?_⟩; clear hK K) | (refine ⟨⟨⟨_, (⟨HB.out, HB.out.size, by simp⟩ : Kept w.heap.size w (w.heap.size) [] v3), HRX.out⟩, rfl⟩, hK.out _ _ ?_⟩; clear hK K)
        repeat (go_big_quiet_step (fail))
        refine wpQuiet_nil ?_
        refine ⟨fun K hK0 => ?_, trivial⟩
        have hK := Lib.hid hK0
        clear hK0
        obtain ⟨u0, cc⟩ := HQS.out.cell (i := p * 14 + 5) (by omega)
        have fc := HQS.out.free (p * 14 + 5)
        go_wp2_with fail
        clear cc fc
        obtain ⟨v5, hV⟩ : ∃ X, X = v3.setCell ⟨Q, p * 14 + 5, none⟩ (.int .i64 (S.lib.length : Nat)) := ⟨_, rfl⟩
        rw [← hV]
        obtain ⟨c6, ec6⟩ : ∃ c, c = c4.setIfInBounds (p * 14 + 5) (.int .i64 (S.lib.length : Nat)) := ⟨_, rfl⟩
        have ho : Onl [Q] v3 v5 := by rw [hV]; exact Onl.setCell (Onl.refl _ _) (.inl (by simp)) _
        replace HB := Lib.hid (belowOnl HB.out ho (by have := HQN.out; simp; omega) HB.out.size)
        replace HX := Lib.hid (HX.out.onl ho (by have := HQN.out; simp; omega))
        replace HZ := Lib.hid (HZ.out.onl ho (by have := HQN.out; simp; omega))
        replace HDN := Lib.hid (DnM.onlT HDN.out ho HQS.out.1)
        replace HRX := Lib.hid (HRX.out.onl ho (by have := HXQ.out; simpa using this))
        replace HQS : Hid (QS v5 Q c6) := Lib.hid (by rw [hV, ec6]; exact HQS.out.put (p * 14 + 5) (.int .i64 (S.lib.length : Nat)))
        have Ec6 := Lib.hid ec6
        clear hV ho ec6
        skip
        first | (refine ⟨rfl, ⟨⟨_, (⟨HB.out, HB.out.size, by simp⟩ : Kept w.heap.size w (w.heap.size) [] v5), HRX.out⟩, rfl⟩, hK.out _ _ ?_⟩; clear hK K) | (refine ⟨⟨⟨_, (⟨HB.out, HB.out.size, by simp⟩ : Kept w.heap.size w (w.heap.size) [] v5), HRX.out⟩, rfl⟩, hK.out _ _ ?_⟩; clear hK K)
        repeat (go_big_quiet_step (fail))
        refine wpQuiet_nil ?_
        refine ⟨fun K hK0 => ?_, trivial⟩
        have hK := Lib.hid hK0
        clear hK0
        obtain ⟨u0, cc⟩ := HQS.out.cell (i := p * 14 + 6) (by omega)
        have fc := HQS.out.free (p * 14 + 6)
        go_wp2_with fail
        clear cc fc
        obtain ⟨v7, hV⟩ : ∃ X, X = v5.setCell ⟨Q, p * 14 + 6, none⟩ (.int .i64 (S.hand.length : Nat)) := ⟨_, rfl⟩
        rw [← hV]
        obtain ⟨c8, ec8⟩ : ∃ c, c = c6.setIfInBounds (p * 14 + 6) (.int .i64 (S.hand.length : Nat)) := ⟨_, rfl⟩
        have ho : Onl [Q] v5 v7 := by rw [hV]; exact Onl.setCell (Onl.refl _ _) (.inl (by simp)) _
        replace HB := Lib.hid (belowOnl HB.out ho (by have := HQN.out; simp; omega) HB.out.size)
        replace HX := Lib.hid (HX.out.onl ho (by have := HQN.out; simp; omega))
        replace HZ := Lib.hid (HZ.out.onl ho (by have := HQN.out; simp; omega))
        replace HDN := Lib.hid (DnM.onlT HDN.out ho HQS.out.1)
        replace HRX := Lib.hid (HRX.out.onl ho (by have := HXQ.out; simpa using this))
        replace HQS : Hid (QS v7 Q c8) := Lib.hid (by rw [hV, ec8]; exact HQS.out.put (p * 14 + 6) (.int .i64 (S.hand.length : Nat)))
        have Ec8 := Lib.hid ec8
        clear hV ho ec8
        skip
        first | (refine ⟨rfl, ⟨⟨_, (⟨HB.out, HB.out.size, by simp⟩ : Kept w.heap.size w (w.heap.size) [] v7), HRX.out⟩, rfl⟩, hK.out _ _ ?_⟩; clear hK K) | (refine ⟨⟨⟨_, (⟨HB.out, HB.out.size, by simp⟩ : Kept w.heap.size w (w.heap.size) [] v7), HRX.out⟩, rfl⟩, hK.out _ _ ?_⟩; clear hK K)
        clear rx0 rx1 rx2 rx3 rx4 rx5 rx6
        clear _ne
        clear KH0
        go_upto_region 9 with fail
        have KH0 := Lib.hid (⟨HB.out, HB.out.size, by simp⟩ : Kept w.heap.size w (w.heap.size) [] v7)
        refine rg25_9 (w0 := w) (B := w.heap.size) (n := w.heap.size) (L := []) (E := fun W => Bx W w.heap.size s B ∧ Ro W bX #[.int .i64 S.li, .int .i64 S.p0, .int .i64 S.p1, .int .i64 S.p2, .int .i64 S.p3, .slice la S.lib.length lc, .slice ha S.hand.length hc, .slice fa S.fld.length fc, .slice ga S.grv.length gc, .bool S.em, .bool S.py, .bool S.kp, .int .i64 S.mu, .int .i64 S.ac] 28) (F := fun W => Below v7.heap.size v7 W) (by kernel_rfl) (by kernel_rfl) (KH0.out.step (by omega) (by go_grown)) ⟨HX.out, HRX.out⟩ (fun _ _ h hb => ⟨h.1.below hb, h.2.below hb⟩) (Below.refl _ _) (fun _ _ h hb => below_via h hb) (fun w81 K_w81 E_w81 F_w81 => ?_)
        have _ne : Nonempty (KX (w.heap.size) w (w.heap.size) [] (fun W => Bx W w.heap.size s B ∧ Ro W bX #[.int .i64 S.li, .int .i64 S.p0, .int .i64 S.p1, .int .i64 S.p2, .int .i64 S.p3, .slice la S.lib.length lc, .slice ha S.hand.length hc, .slice fa S.fld.length fc, .slice ga S.grv.length gc, .bool S.em, .bool S.py, .bool S.kp, .int .i64 S.mu, .int .i64 S.ac] 28)) := ⟨⟨_, K_w81, E_w81⟩⟩
        have qb : ∀ W', (∃ s' : KX (w.heap.size) w (w.heap.size) [] (fun W => Bx W w.heap.size s B ∧ Ro W bX #[.int .i64 S.li, .int .i64 S.p0, .int .i64 S.p1, .int .i64 S.p2, .int .i64 S.p3, .slice la S.lib.length lc, .slice ha S.hand.length hc, .slice fa S.fld.length fc, .slice ga S.grv.length gc, .bool S.em, .bool S.py, .bool S.kp, .int .i64 S.mu, .int .i64 S.ac] 28), W' = s'.val) → Bx W' w.heap.size s B := by rintro _ ⟨s', rfl⟩; exact s'.ex.1
        repeat (first | (go_big_quiet_want; apply quiet_load_bx _ rfl rfl qb; (focus (simp [go_sem]; rfl)); go_big_quiet_on) | go_big_quiet_step (fail))
        refine wpQuiet_nil ?_
        have rx7 : ∀ s : KX (w.heap.size) w (w.heap.size) [] (fun W => Bx W w.heap.size s B ∧ Ro W bX #[.int .i64 S.li, .int .i64 S.p0, .int .i64 S.p1, .int .i64 S.p2, .int .i64 S.p3, .slice la S.lib.length lc, .slice ha S.hand.length hc, .slice fa S.fld.length fc, .slice ga S.grv.length gc, .bool S.em, .bool S.py, .bool S.kp, .int .i64 S.mu, .int .i64 S.ac] 28), s.val.cell? ⟨bX, 7, none⟩ = some (.slice fa S.fld.length fc) := fun s => s.ex.2.cell 7
        have rx8 : ∀ s : KX (w.heap.size) w (w.heap.size) [] (fun W => Bx W w.heap.size s B ∧ Ro W bX #[.int .i64 S.li, .int .i64 S.p0, .int .i64 S.p1, .int .i64 S.p2, .int .i64 S.p3, .slice la S.lib.length lc, .slice ha S.hand.length hc, .slice fa S.fld.length fc, .slice ga S.grv.length gc, .bool S.em, .bool S.py, .bool S.kp, .int .i64 S.mu, .int .i64 S.ac] 28), s.val.cell? ⟨bX, 8, none⟩ = some (.slice ga S.grv.length gc) := fun s => s.ex.2.cell 8
        repeat (first | (go_big_quiet_want; apply quiet_load_bx _ rfl rfl qb; (focus (simp [go_sem]; rfl)); go_big_quiet_on) | go_big_quiet_step (fail))
        refine wpQuiet_nil ?_
        have KH_w81 := Lib.hid K_w81
        have hw_w81 := K_w81.below
        have hz_w81 := K_w81.size
        clear K_w81
        have HE1 := Lib.hid E_w81
        have HG1 := Lib.hid (F_w81)
        clear E_w81 F_w81
        refine ⟨fun K hK0 => ?_, trivial⟩
        have hK := Lib.hid hK0
        clear hK0
        have hb : Below v7.heap.size v7 w81 := HG1.out
        replace HB := Lib.hid (below_via HB.out hb)
        replace HX := Lib.hid (HX.out.below hb)
        replace HZ := Lib.hid (HZ.out.below hb)
        replace HQS := Lib.hid (HQS.out.below hb)
        replace HDN := Lib.hid (DnM.below HDN.out hb)
        replace HRX := Lib.hid (HRX.out.below hb)
        clear hb HE1 HG1
        go_wp2_with fail
        with_reducible refine (lobjects s B (.slice fa S.fld.length fc) S.fld w81 (HR.out.below HB.out) (HFS.out.1.below HB.out) HLS.out.1 HLO.out HND.out).mono ?_
        rintro e v9 ⟨fx, fy, rfl, ho, hb⟩
        have HOf : Hid (Ox oc 12 79 w.heap.size v9.heap.size v9 (.slice fx (obF B.ob S.fld).length fy) (obF B.ob S.fld)) := Lib.hid (ho.mono HB.out.size (Nat.le_refl _))
        replace HB := Lib.hid (below_via HB.out hb)
        replace HX := Lib.hid (HX.out.below hb)
        replace HZ := Lib.hid (HZ.out.below hb)
        replace HQS := Lib.hid (HQS.out.below hb)
        replace HDN := Lib.hid (DnM.below HDN.out hb)
        replace HRX := Lib.hid (HRX.out.below hb)
        clear ho hb
        go_wp2_with fail
        first | (refine ⟨rfl, ⟨⟨_, (⟨HB.out, HB.out.size, by simp⟩ : Kept w.heap.size w (w.heap.size) [] v9), ⟨HX.out, HRX.out⟩⟩, rfl⟩, hK.out _ _ ?_⟩; clear hK K) | (refine ⟨⟨⟨_, (⟨HB.out, HB.out.size, by simp⟩ : Kept w.heap.size w (w.heap.size) [] v9), ⟨HX.out, HRX.out⟩⟩, rfl⟩, hK.out _ _ ?_⟩; clear hK K)
        refine ⟨fun K hK0 => ?_, trivial⟩
        have hK := Lib.hid hK0
        clear hK0
        go_wp2_with fail
        with_reducible refine (lobjects s B (.slice ga S.grv.length gc) S.grv v9 (HR.out.below HB.out) (HFS.out.2.below HB.out) HLS.out.2 HLO.out HND.out).mono ?_
        rintro e v10 ⟨gx, gy, rfl, ho, hb⟩
        have HOg : Hid (Ox oc 12 79 w.heap.size v10.heap.size v10 (.slice gx (obF B.ob S.grv).length gy) (obF B.ob S.grv)) := Lib.hid (ho.mono HB.out.size (Nat.le_refl _))
        replace HB := Lib.hid (below_via HB.out hb)
        replace HX := Lib.hid (HX.out.below hb)
        replace HZ := Lib.hid (HZ.out.below hb)
        replace HQS := Lib.hid (HQS.out.below hb)
        replace HDN := Lib.hid (DnM.below HDN.out hb)
        replace HRX := Lib.hid (HRX.out.below hb)
        replace HOf := Lib.hid ((HOf.out.below hb).mono (lo' := w.heap.size) (hi' := v10.heap.size) (Nat.le_refl _) hb.size)
        clear ho hb
        go_wp2_with fail
        first | (refine ⟨rfl, ⟨⟨_, (⟨HB.out, HB.out.size, by simp⟩ : Kept w.heap.size w (w.heap.size) [] v10), ⟨HX.out, HRX.out⟩⟩, rfl⟩, hK.out _ _ ?_⟩; clear hK K) | (refine ⟨⟨⟨_, (⟨HB.out, HB.out.size, by simp⟩ : Kept w.heap.size w (w.heap.size) [] v10), ⟨HX.out, HRX.out⟩⟩, rfl⟩, hK.out _ _ ?_⟩; clear hK K)
        repeat (first | (go_big_quiet_want; apply quiet_load_bx _ rfl rfl qb; (focus (simp [go_sem]; rfl)); go_big_quiet_on) | go_big_quiet_step (fail))
        refine wpQuiet_nil ?_
        refine ⟨fun K hK0 => ?_, trivial⟩
        have hK := Lib.hid hK0
        clear hK0
        obtain ⟨u0, cc⟩ := HQS.out.cell (i := p * 14 + 7) (by omega)
        have fc := HQS.out.free (p * 14 + 7)
        go_wp2_with fail
        clear cc fc
        obtain ⟨v11, hV⟩ : ∃ X, X = v10.setCell ⟨Q, p * 14 + 7, none⟩ (.slice fx (obF B.ob S.fld).length fy) := ⟨_, rfl⟩
        rw [← hV]
        obtain ⟨c12, ec12⟩ : ∃ c, c = c8.setIfInBounds (p * 14 + 7) (.slice fx (obF B.ob S.fld).length fy) := ⟨_, rfl⟩
        have ho : Onl [Q] v10 v11 := by rw [hV]; exact Onl.setCell (Onl.refl _ _) (.inl (by simp)) _
        replace HB := Lib.hid (belowOnl HB.out ho (by have := HQN.out; simp; omega) HB.out.size)
        replace HX := Lib.hid (HX.out.onl ho (by have := HQN.out; simp; omega))
        replace HZ := Lib.hid (HZ.out.onl ho (by have := HQN.out; simp; omega))
        replace HDN := Lib.hid (DnM.onlT HDN.out ho HQS.out.1)
        replace HRX := Lib.hid (HRX.out.onl ho (by have := HXQ.out; simpa using this))
        replace HOf := Lib.hid ((HOf.out.onlT ho HQS.out.1 (by decide)).mono (lo' := w.heap.size) (hi' := v11.heap.size) (Nat.le_refl _) ho.size)
        replace HOg := Lib.hid ((HOg.out.onlT ho HQS.out.1 (by decide)).mono (lo' := w.heap.size) (hi' := v11.heap.size) (Nat.le_refl _) ho.size)
        replace HQS : Hid (QS v11 Q c12) := Lib.hid (by rw [hV, ec12]; exact HQS.out.put (p * 14 + 7) (.slice fx (obF B.ob S.fld).length fy))
        have Ec12 := Lib.hid ec12
        clear hV ho ec12
        skip
        first | (refine ⟨rfl, ⟨⟨_, (⟨HB.out, HB.out.size, by simp⟩ : Kept w.heap.size w (w.heap.size) [] v11), ⟨HX.out, HRX.out⟩⟩, rfl⟩, hK.out _ _ ?_⟩; clear hK K) | (refine ⟨⟨⟨_, (⟨HB.out, HB.out.size, by simp⟩ : Kept w.heap.size w (w.heap.size) [] v11), ⟨HX.out, HRX.out⟩⟩, rfl⟩, hK.out _ _ ?_⟩; clear hK K)
        repeat (first | (go_big_quiet_want; apply quiet_load_bx _ rfl rfl qb; (focus (simp [go_sem]; rfl)); go_big_quiet_on) | go_big_quiet_step (fail))
        refine wpQuiet_nil ?_
        refine ⟨fun K hK0 => ?_, trivial⟩
        have hK := Lib.hid hK0
        clear hK0
        obtain ⟨u0, cc⟩ := HQS.out.cell (i := p * 14 + 8) (by omega)
        have fc := HQS.out.free (p * 14 + 8)
        go_wp2_with fail
        clear cc fc
        obtain ⟨v13, hV⟩ : ∃ X, X = v11.setCell ⟨Q, p * 14 + 8, none⟩ (.slice gx (obF B.ob S.grv).length gy) := ⟨_, rfl⟩
        rw [← hV]
        obtain ⟨c14, ec14⟩ : ∃ c, c = c12.setIfInBounds (p * 14 + 8) (.slice gx (obF B.ob S.grv).length gy) := ⟨_, rfl⟩
        have ho : Onl [Q] v11 v13 := by rw [hV]; exact Onl.setCell (Onl.refl _ _) (.inl (by simp)) _
        replace HB := Lib.hid (belowOnl HB.out ho (by have := HQN.out; simp; omega) HB.out.size)
        replace HX := Lib.hid (HX.out.onl ho (by have := HQN.out; simp; omega))
        replace HZ := Lib.hid (HZ.out.onl ho (by have := HQN.out; simp; omega))
        replace HDN := Lib.hid (DnM.onlT HDN.out ho HQS.out.1)
        replace HRX := Lib.hid (HRX.out.onl ho (by have := HXQ.out; simpa using this))
        replace HOf := Lib.hid ((HOf.out.onlT ho HQS.out.1 (by decide)).mono (lo' := w.heap.size) (hi' := v13.heap.size) (Nat.le_refl _) ho.size)
        replace HOg := Lib.hid ((HOg.out.onlT ho HQS.out.1 (by decide)).mono (lo' := w.heap.size) (hi' := v13.heap.size) (Nat.le_refl _) ho.size)
        replace HQS : Hid (QS v13 Q c14) := Lib.hid (by rw [hV, ec14]; exact HQS.out.put (p * 14 + 8) (.slice gx (obF B.ob S.grv).length gy))
        have Ec14 := Lib.hid ec14
        clear hV ho ec14
        skip
        first | (refine ⟨rfl, ⟨⟨_, (⟨HB.out, HB.out.size, by simp⟩ : Kept w.heap.size w (w.heap.size) [] v13), ⟨HX.out, HRX.out⟩⟩, rfl⟩, hK.out _ _ ?_⟩; clear hK K) | (refine ⟨⟨⟨_, (⟨HB.out, HB.out.size, by simp⟩ : Kept w.heap.size w (w.heap.size) [] v13), ⟨HX.out, HRX.out⟩⟩, rfl⟩, hK.out _ _ ?_⟩; clear hK K)
        clear rx7 rx8
        clear _ne
        clear KH0
        go_upto_region 10 with fail
        have KH0 := Lib.hid (⟨HB.out, HB.out.size, by simp⟩ : Kept w.heap.size w (w.heap.size) [] v13)
        refine rg25_10 (w0 := w) (B := w.heap.size) (n := w.heap.size) (L := []) (E := fun W => Ro W bX #[.int .i64 S.li, .int .i64 S.p0, .int .i64 S.p1, .int .i64 S.p2, .int .i64 S.p3, .slice la S.lib.length lc, .slice ha S.hand.length hc, .slice fa S.fld.length fc, .slice ga S.grv.length gc, .bool S.em, .bool S.py, .bool S.kp, .int .i64 S.mu, .int .i64 S.ac] 28) (F := fun W => Below v13.heap.size v13 W) (by kernel_rfl) (by kernel_rfl) (KH0.out.step (by omega) (by go_grown)) HRX.out (fun _ _ h hb => h.below hb) (Below.refl _ _) (fun _ _ h hb => below_via h hb) (fun w101 K_w101 E_w101 F_w101 => ?_)
        have _ne : Nonempty (KX (w.heap.size) w (w.heap.size) [] (fun W => Ro W bX #[.int .i64 S.li, .int .i64 S.p0, .int .i64 S.p1, .int .i64 S.p2, .int .i64 S.p3, .slice la S.lib.length lc, .slice ha S.hand.length hc, .slice fa S.fld.length fc, .slice ga S.grv.length gc, .bool S.em, .bool S.py, .bool S.kp, .int .i64 S.mu, .int .i64 S.ac] 28)) := ⟨⟨_, K_w101, E_w101⟩⟩
        repeat (go_big_quiet_step (fail))
        refine wpQuiet_nil ?_
        have rx9 : ∀ s : KX (w.heap.size) w (w.heap.size) [] (fun W => Ro W bX #[.int .i64 S.li, .int .i64 S.p0, .int .i64 S.p1, .int .i64 S.p2, .int .i64 S.p3, .slice la S.lib.length lc, .slice ha S.hand.length hc, .slice fa S.fld.length fc, .slice ga S.grv.length gc, .bool S.em, .bool S.py, .bool S.kp, .int .i64 S.mu, .int .i64 S.ac] 28), s.val.cell? ⟨bX, 9, none⟩ = some (.bool S.em) := fun s => s.ex.cell 9
        have rx10 : ∀ s : KX (w.heap.size) w (w.heap.size) [] (fun W => Ro W bX #[.int .i64 S.li, .int .i64 S.p0, .int .i64 S.p1, .int .i64 S.p2, .int .i64 S.p3, .slice la S.lib.length lc, .slice ha S.hand.length hc, .slice fa S.fld.length fc, .slice ga S.grv.length gc, .bool S.em, .bool S.py, .bool S.kp, .int .i64 S.mu, .int .i64 S.ac] 28), s.val.cell? ⟨bX, 10, none⟩ = some (.bool S.py) := fun s => s.ex.cell 10
        have rx11 : ∀ s : KX (w.heap.size) w (w.heap.size) [] (fun W => Ro W bX #[.int .i64 S.li, .int .i64 S.p0, .int .i64 S.p1, .int .i64 S.p2, .int .i64 S.p3, .slice la S.lib.length lc, .slice ha S.hand.length hc, .slice fa S.fld.length fc, .slice ga S.grv.length gc, .bool S.em, .bool S.py, .bool S.kp, .int .i64 S.mu, .int .i64 S.ac] 28), s.val.cell? ⟨bX, 11, none⟩ = some (.bool S.kp) := fun s => s.ex.cell 11
        have rx12 : ∀ s : KX (w.heap.size) w (w.heap.size) [] (fun W => Ro W bX #[.int .i64 S.li, .int .i64 S.p0, .int .i64 S.p1, .int .i64 S.p2, .int .i64 S.p3, .slice la S.lib.length lc, .slice ha S.hand.length hc, .slice fa S.fld.length fc, .slice ga S.grv.length gc, .bool S.em, .bool S.py, .bool S.kp, .int .i64 S.mu, .int .i64 S.ac] 28), s.val.cell? ⟨bX, 12, none⟩ = some (.int .i64 S.mu) := fun s => s.ex.cell 12
        have rx13 : ∀ s : KX (w.heap.size) w (w.heap.size) [] (fun W => Ro W bX #[.int .i64 S.li, .int .i64 S.p0, .int .i64 S.p1, .int .i64 S.p2, .int .i64 S.p3, .slice la S.lib.length lc, .slice ha S.hand.length hc, .slice fa S.fld.length fc, .slice ga S.grv.length gc, .bool S.em, .bool S.py, .bool S.kp, .int .i64 S.mu, .int .i64 S.ac] 28), s.val.cell? ⟨bX, 13, none⟩ = some (.int .i64 S.ac) := fun s => s.ex.cell 13
        repeat (go_big_quiet_step (fail))
        refine wpQuiet_nil ?_
        repeat (go_big_quiet_step (fail))
        refine wpQuiet_nil ?_
        repeat (go_big_quiet_step (fail))
        refine wpQuiet_nil ?_
        have KH_w101 := Lib.hid K_w101
        have hw_w101 := K_w101.below
        have hz_w101 := K_w101.size
        clear K_w101
        have HE1 := Lib.hid E_w101
        have HG1 := Lib.hid (F_w101)
        clear E_w101 F_w101
        refine ⟨fun K hK0 => ?_, trivial⟩
        have hK := Lib.hid hK0
        clear hK0
        have hb : Below v13.heap.size v13 w101 := HG1.out
        replace HB := Lib.hid (below_via HB.out hb)
        replace HX := Lib.hid (HX.out.below hb)
        replace HZ := Lib.hid (HZ.out.below hb)
        replace HQS := Lib.hid (HQS.out.below hb)
        replace HDN := Lib.hid (DnM.below HDN.out hb)
        replace HRX := Lib.hid (HRX.out.below hb)
        replace HOf := Lib.hid ((HOf.out.below hb).mono (lo' := w.heap.size) (hi' := w101.heap.size) (Nat.le_refl _) hb.size)
        replace HOg := Lib.hid ((HOg.out.below hb).mono (lo' := w.heap.size) (hi' := w101.heap.size) (Nat.le_refl _) hb.size)
        clear hb HE1 HG1
        obtain ⟨u0, cc⟩ := HQS.out.cell (i := p * 14 + 9) (by omega)
        have fc := HQS.out.free (p * 14 + 9)
        go_wp2_with fail
        clear cc fc
        obtain ⟨v15, hV⟩ : ∃ X, X = w101.setCell ⟨Q, p * 14 + 9, none⟩ (.bool S.em) := ⟨_, rfl⟩
        rw [← hV]
        obtain ⟨c16, ec16⟩ : ∃ c, c = c14.setIfInBounds (p * 14 + 9) (.bool S.em) := ⟨_, rfl⟩
        have ho : Onl [Q] w101 v15 := by rw [hV]; exact Onl.setCell (Onl.refl _ _) (.inl (by simp)) _
        replace HB := Lib.hid (belowOnl HB.out ho (by have := HQN.out; simp; omega) HB.out.size)
        replace HX := Lib.hid (HX.out.onl ho (by have := HQN.out; simp; omega))
        replace HZ := Lib.hid (HZ.out.onl ho (by have := HQN.out; simp; omega))
        replace HDN := Lib.hid (DnM.onlT HDN.out ho HQS.out.1)
        replace HRX := Lib.hid (HRX.out.onl ho (by have := HXQ.out; simpa using this))
        replace HOf := Lib.hid ((HOf.out.onlT ho HQS.out.1 (by decide)).mono (lo' := w.heap.size) (hi' := v15.heap.size) (Nat.le_refl _) ho.size)
        replace HOg := Lib.hid ((HOg.out.onlT ho HQS.out.1 (by decide)).mono (lo' := w.heap.size) (hi' := v15.heap.size) (Nat.le_refl _) ho.size)
        replace HQS : Hid (QS v15 Q c16) := Lib.hid (by rw [hV, ec16]; exact HQS.out.put (p * 14 + 9) (.bool S.em))
        have Ec16 := Lib.hid ec16
        clear hV ho ec16
        skip
        first | (refine ⟨rfl, ⟨⟨_, (⟨HB.out, HB.out.size, by simp⟩ : Kept w.heap.size w (w.heap.size) [] v15), HRX.out⟩, rfl⟩, hK.out _ _ ?_⟩; clear hK K) | (refine ⟨⟨⟨_, (⟨HB.out, HB.out.size, by simp⟩ : Kept w.heap.size w (w.heap.size) [] v15), HRX.out⟩, rfl⟩, hK.out _ _ ?_⟩; clear hK K)
        repeat (go_big_quiet_step (fail))
        refine wpQuiet_nil ?_
        refine ⟨fun K hK0 => ?_, trivial⟩
        have hK := Lib.hid hK0
        clear hK0
        obtain ⟨u0, cc⟩ := HQS.out.cell (i := p * 14 + 10) (by omega)
        have fc := HQS.out.free (p * 14 + 10)
        go_wp2_with fail
        clear cc fc
        obtain ⟨v17, hV⟩ : ∃ X, X = v15.setCell ⟨Q, p * 14 + 10, none⟩ (.bool S.py) := ⟨_, rfl⟩
        rw [← hV]
        obtain ⟨c18, ec18⟩ : ∃ c, c = c16.setIfInBounds (p * 14 + 10) (.bool S.py) := ⟨_, rfl⟩
        have ho : Onl [Q] v15 v17 := by rw [hV]; exact Onl.setCell (Onl.refl _ _) (.inl (by simp)) _
        replace HB := Lib.hid (belowOnl HB.out ho (by have := HQN.out; simp; omega) HB.out.size)
        replace HX := Lib.hid (HX.out.onl ho (by have := HQN.out; simp; omega))
        replace HZ := Lib.hid (HZ.out.onl ho (by have := HQN.out; simp; omega))
        replace HDN := Lib.hid (DnM.onlT HDN.out ho HQS.out.1)
        replace HRX := Lib.hid (HRX.out.onl ho (by have := HXQ.out; simpa using this))
        replace HOf := Lib.hid ((HOf.out.onlT ho HQS.out.1 (by decide)).mono (lo' := w.heap.size) (hi' := v17.heap.size) (Nat.le_refl _) ho.size)
        replace HOg := Lib.hid ((HOg.out.onlT ho HQS.out.1 (by decide)).mono (lo' := w.heap.size) (hi' := v17.heap.size) (Nat.le_refl _) ho.size)
        replace HQS : Hid (QS v17 Q c18) := Lib.hid (by rw [hV, ec18]; exact HQS.out.put (p * 14 + 10) (.bool S.py))
        have Ec18 := Lib.hid ec18
        clear hV ho ec18
        skip
        first | (refine ⟨rfl, ⟨⟨_, (⟨HB.out, HB.out.size, by simp⟩ : Kept w.heap.size w (w.heap.size) [] v17), HRX.out⟩, rfl⟩, hK.out _ _ ?_⟩; clear hK K) | (refine ⟨⟨⟨_, (⟨HB.out, HB.out.size, by simp⟩ : Kept w.heap.size w (w.heap.size) [] v17), HRX.out⟩, rfl⟩, hK.out _ _ ?_⟩; clear hK K)
        repeat (go_big_quiet_step (fail))
        refine wpQuiet_nil ?_
        refine ⟨fun K hK0 => ?_, trivial⟩
        have hK := Lib.hid hK0
        clear hK0
        obtain ⟨u0, cc⟩ := HQS.out.cell (i := p * 14 + 11) (by omega)
        have fc := HQS.out.free (p * 14 + 11)
        go_wp2_with fail
        clear cc fc
        obtain ⟨v19, hV⟩ : ∃ X, X = v17.setCell ⟨Q, p * 14 + 11, none⟩ (.bool S.kp) := ⟨_, rfl⟩
        rw [← hV]
        obtain ⟨c20, ec20⟩ : ∃ c, c = c18.setIfInBounds (p * 14 + 11) (.bool S.kp) := ⟨_, rfl⟩
        have ho : Onl [Q] v17 v19 := by rw [hV]; exact Onl.setCell (Onl.refl _ _) (.inl (by simp)) _
        replace HB := Lib.hid (belowOnl HB.out ho (by have := HQN.out; simp; omega) HB.out.size)
        replace HX := Lib.hid (HX.out.onl ho (by have := HQN.out; simp; omega))
        replace HZ := Lib.hid (HZ.out.onl ho (by have := HQN.out; simp; omega))
        replace HDN := Lib.hid (DnM.onlT HDN.out ho HQS.out.1)
        replace HRX := Lib.hid (HRX.out.onl ho (by have := HXQ.out; simpa using this))
        replace HOf := Lib.hid ((HOf.out.onlT ho HQS.out.1 (by decide)).mono (lo' := w.heap.size) (hi' := v19.heap.size) (Nat.le_refl _) ho.size)
        replace HOg := Lib.hid ((HOg.out.onlT ho HQS.out.1 (by decide)).mono (lo' := w.heap.size) (hi' := v19.heap.size) (Nat.le_refl _) ho.size)
        replace HQS : Hid (QS v19 Q c20) := Lib.hid (by rw [hV, ec20]; exact HQS.out.put (p * 14 + 11) (.bool S.kp))
        have Ec20 := Lib.hid ec20
        clear hV ho ec20
        skip
        first | (refine ⟨rfl, ⟨⟨_, (⟨HB.out, HB.out.size, by simp⟩ : Kept w.heap.size w (w.heap.size) [] v19), HRX.out⟩, rfl⟩, hK.out _ _ ?_⟩; clear hK K) | (refine ⟨⟨⟨_, (⟨HB.out, HB.out.size, by simp⟩ : Kept w.heap.size w (w.heap.size) [] v19), HRX.out⟩, rfl⟩, hK.out _ _ ?_⟩; clear hK K)
        repeat (go_big_quiet_step (fail))
        refine wpQuiet_nil ?_
        refine ⟨fun K hK0 => ?_, trivial⟩
        have hK := Lib.hid hK0
        clear hK0
        obtain ⟨u0, cc⟩ := HQS.out.cell (i := p * 14 + 12) (by omega)
        have fc := HQS.out.free (p * 14 + 12)
        go_wp2_with fail
        clear cc fc
        obtain ⟨v21, hV⟩ : ∃ X, X = v19.setCell ⟨Q, p * 14 + 12, none⟩ (.int .i64 S.mu) := ⟨_, rfl⟩
        rw [← hV]
        obtain ⟨c22, ec22⟩ : ∃ c, c = c20.setIfInBounds (p * 14 + 12) (.int .i64 S.mu) := ⟨_, rfl⟩
        have ho : Onl [Q] v19 v21 := by rw [hV]; exact Onl.setCell (Onl.refl _ _) (.inl (by simp)) _
        replace HB := Lib.hid (belowOnl HB.out ho (by have := HQN.out; simp; omega) HB.out.size)
        replace HX := Lib.hid (HX.out.onl ho (by have := HQN.out; simp; omega))
        replace HZ := Lib.hid (HZ.out.onl ho (by have := HQN.out; simp; omega))
        replace HDN := Lib.hid (DnM.onlT HDN.out ho HQS.out.1)
        replace HRX := Lib.hid (HRX.out.onl ho (by have := HXQ.out; simpa using this))
        replace HOf := Lib.hid ((HOf.out.onlT ho HQS.out.1 (by decide)).mono (lo' := w.heap.size) (hi' := v21.heap.size) (Nat.le_refl _) ho.size)
        replace HOg := Lib.hid ((HOg.out.onlT ho HQS.out.1 (by decide)).mono (lo' := w.heap.size) (hi' := v21.heap.size) (Nat.le_refl _) ho.size)
        replace HQS : Hid (QS v21 Q c22) := Lib.hid (by rw [hV, ec22]; exact HQS.out.put (p * 14 + 12) (.int .i64 S.mu))
        have Ec22 := Lib.hid ec22
        clear hV ho ec22
        skip
        first | (refine ⟨rfl, ⟨⟨_, (⟨HB.out, HB.out.size, by simp⟩ : Kept w.heap.size w (w.heap.size) [] v21), HRX.out⟩, rfl⟩, hK.out _ _ ?_⟩; clear hK K) | (refine ⟨⟨⟨_, (⟨HB.out, HB.out.size, by simp⟩ : Kept w.heap.size w (w.heap.size) [] v21), HRX.out⟩, rfl⟩, hK.out _ _ ?_⟩; clear hK K)
        repeat (go_big_quiet_step (fail))
        refine wpQuiet_nil ?_
        refine ⟨fun K hK0 => ?_, trivial⟩
        have hK := Lib.hid hK0
        clear hK0
        obtain ⟨u0, cc⟩ := HQS.out.cell (i := p * 14 + 13) (by omega)
        have fc := HQS.out.free (p * 14 + 13)
        go_wp2_with fail
        clear cc fc
        obtain ⟨v23, hV⟩ : ∃ X, X = v21.setCell ⟨Q, p * 14 + 13, none⟩ (.int .i64 S.ac) := ⟨_, rfl⟩
        rw [← hV]
        obtain ⟨c24, ec24⟩ : ∃ c, c = c22.setIfInBounds (p * 14 + 13) (.int .i64 S.ac) := ⟨_, rfl⟩
        have ho : Onl [Q] v21 v23 := by rw [hV]; exact Onl.setCell (Onl.refl _ _) (.inl (by simp)) _
        replace HB := Lib.hid (belowOnl HB.out ho (by have := HQN.out; simp; omega) HB.out.size)
        replace HX := Lib.hid (HX.out.onl ho (by have := HQN.out; simp; omega))
        replace HZ := Lib.hid (HZ.out.onl ho (by have := HQN.out; simp; omega))
        replace HDN := Lib.hid (DnM.onlT HDN.out ho HQS.out.1)
        replace HRX := Lib.hid (HRX.out.onl ho (by have := HXQ.out; simpa using this))
        replace HOf := Lib.hid ((HOf.out.onlT ho HQS.out.1 (by decide)).mono (lo' := w.heap.size) (hi' := v23.heap.size) (Nat.le_refl _) ho.size)
        replace HOg := Lib.hid ((HOg.out.onlT ho HQS.out.1 (by decide)).mono (lo' := w.heap.size) (hi' := v23.heap.size) (Nat.le_refl _) ho.size)
        replace HQS : Hid (QS v23 Q c24) := Lib.hid (by rw [hV, ec24]; exact HQS.out.put (p * 14 + 13) (.int .i64 S.ac))
        have Ec24 := Lib.hid ec24
        clear hV ho ec24
        skip
        first | (refine ⟨rfl, ⟨⟨_, (⟨HB.out, HB.out.size, by simp⟩ : Kept w.heap.size w (w.heap.size) [] v23), HRX.out⟩, rfl⟩, hK.out _ _ ?_⟩; clear hK K) | (refine ⟨⟨⟨_, (⟨HB.out, HB.out.size, by simp⟩ : Kept w.heap.size w (w.heap.size) [] v23), HRX.out⟩, rfl⟩, hK.out _ _ ?_⟩; clear hK K)
        clear rx9 rx10 rx11 rx12 rx13
        clear _ne
        clear KH0
        go_wp2_with fail
        go_roundw
        case rel =>
          have hr := setS_rest sp ⟨fx, (obF B.ob S.fld).length, fy⟩ ⟨gx, (obF B.ob S.grv).length, gy⟩ p
          refine ⟨p + 1, by omega, by go_num, HB.out, HX.out, HZ.out, sp.setS p ⟨fx, (obF B.ob S.fld).length, fy⟩ ⟨gx, (obF B.ob S.grv).length, gy⟩, ?_, DnM.next HDN.out hp2 HSS.out HOf.out HOg.out, hr.1.trans HNL.out.1, hr.2.1.trans HNL.out.2.1, hr.2.2.1.trans HNL.out.2.2.1, hr.2.2.2.trans HNL.out.2.2.2⟩
          have hq := HQS.out
          rw [Ec24.out, Ec22.out, Ec20.out, Ec18.out, Ec16.out, Ec14.out, Ec12.out, Ec8.out, Ec6.out, Ec4.out, Ec2.out] at hq
          rw [chain1 sp B hp2 HSS.out ⟨fx, (obF B.ob S.fld).length, fy⟩ ⟨gx, (obF B.ob S.grv).length, gy⟩ rfl rfl] at hq
          exact hq
        case measure => simp [intOf]; omega
    · obtain rfl : p = 2 := by omega
      rw [show ((2 : Nat) : Int) = 2 from rfl]
      have hr := HR.out
      obtain ⟨⟨sta, stn, stc⟩, est⟩ : ∃ q, s.st = q := ⟨_, rfl⟩
      obtain ⟨⟨qua, qun, quc⟩, equ⟩ : ∃ q, s.qu = q := ⟨_, rfl⟩
      obtain ⟨⟨ata, atn, atc⟩, eat⟩ : ∃ q, s.at' = q := ⟨_, rfl⟩
      obtain ⟨⟨bla, bln, blc⟩, ebl⟩ : ∃ q, s.bl = q := ⟨_, rfl⟩
      have r1 := hr.st
      have r2 := hr.qu
      have r3 := hr.att
      have r4 := hr.bl
      rw [est] at r1
      rw [equ] at r2
      rw [eat] at r3
      rw [ebl] at r4
      have y0 : stn = B.st.length := itr_len r1
      have y1 : qun = B.qu.length := itr_len r2
      have y2 : atn = B.att.length := rw_len r3
      have y3 : bln = B.bl.length := rw_len r4
      subst y0 y1 y2 y3
      have HLI : Hid (ItR w (.slice sta B.st.length stc) B.st ∧ ItR w (.slice qua B.qu.length quc) B.qu ∧ Rw ic 1 w (.slice ata B.att.length atc) B.att ∧ Rw kc 2 w (.slice bla B.bl.length blc) B.bl) := Lib.hid ⟨r1, r2, r3, r4⟩
      have HV29 : Hid ((bcells s B)[29]? = some (.slice sta B.st.length stc)) := Lib.hid (by show some s.st.v = _; rw [est]; rfl)
      have HV30 : Hid ((bcells s B)[30]? = some (.slice qua B.qu.length quc)) := Lib.hid (by show some s.qu.v = _; rw [equ]; rfl)
      have HV31 : Hid ((bcells s B)[31]? = some (.slice ata B.att.length atc)) := Lib.hid (by show some s.at'.v = _; rw [eat]; rfl)
      have HV32 : Hid ((bcells s B)[32]? = some (.slice bla B.bl.length blc)) := Lib.hid (by show some s.bl.v = _; rw [ebl]; rfl)
      clear r1 r2 r3 r4 hr est equ eat ebl hp hp2
      have KH0 := Lib.hid (⟨HB.out, HB.out.size, by simp⟩ : Kept w.heap.size w (w.heap.size) [] wr)
      go_upto_region 11 with fail
      refine rg25_11 (w0 := w) (B := w.heap.size) (n := w.heap.size) (L := []) (E := fun W => Bx W w.heap.size s B) (F := fun W => Below wr.heap.size wr W) (by kernel_rfl) (by kernel_rfl) (KH0.out.step (by omega) (by go_grown)) HX.out (fun _ _ h hb => h.below hb) (Below.refl _ _) (fun _ _ h hb => below_via h hb) (fun w121 K_w121 E_w121 F_w121 => ?_)
      have _ne : Nonempty (KX (w.heap.size) w (w.heap.size) [] (fun W => Bx W w.heap.size s B)) := ⟨⟨_, K_w121, E_w121⟩⟩
      repeat (go_big_quiet_step (fail))
      refine wpQuiet_nil ?_
      have rb29 : ∀ s : KX (w.heap.size) w (w.heap.size) [] (fun W => Bx W w.heap.size s B), s.val.cell? ⟨w.heap.size, 29, none⟩ = some (.slice sta B.st.length stc) := fun s => (s.ex.cell 29).trans HV29.out
      have rb30 : ∀ s : KX (w.heap.size) w (w.heap.size) [] (fun W => Bx W w.heap.size s B), s.val.cell? ⟨w.heap.size, 30, none⟩ = some (.slice qua B.qu.length quc) := fun s => (s.ex.cell 30).trans HV30.out
      have rb31 : ∀ s : KX (w.heap.size) w (w.heap.size) [] (fun W => Bx W w.heap.size s B), s.val.cell? ⟨w.heap.size, 31, none⟩ = some (.slice ata B.att.length atc) := fun s => (s.ex.cell 31).trans HV31.out
      have rb32 : ∀ s : KX (w.heap.size) w (w.heap.size) [] (fun W => Bx W w.heap.size s B), s.val.cell? ⟨w.heap.size, 32, none⟩ = some (.slice bla B.bl.length blc) := fun s => (s.ex.cell 32).trans HV32.out
      repeat (go_big_quiet_step (fail))
      refine wpQuiet_nil ?_
      repeat (go_big_quiet_step (fail))
      refine wpQuiet_nil ?_
      repeat (go_big_quiet_step (fail))
      refine wpQuiet_nil ?_
      have KH_w121 := Lib.hid K_w121
      have hw_w121 := K_w121.below
      have hz_w121 := K_w121.size
      clear K_w121
      have HE1 := Lib.hid E_w121
      have HG1 := Lib.hid (F_w121)
      clear E_w121 F_w121
      refine ⟨fun K hK0 => ?_, trivial⟩
      have hK := Lib.hid hK0
      clear hK0
      have hb : Below wr.heap.size wr w121 := HG1.out
      replace HB := Lib.hid (below_via HB.out hb)
      replace HX := Lib.hid (HX.out.below hb)
      replace HZ := Lib.hid (HZ.out.below hb)
      replace HQS := Lib.hid (HQS.out.below hb)
      replace HDN := Lib.hid (DnM.below HDN.out hb)
      clear hb HE1 HG1
      obtain ⟨u0, cc⟩ := HQS.out.cell (i := 28) (by omega)
      have fc := HQS.out.free (28)
      go_wp2_with fail
      clear cc fc
      obtain ⟨v25, hV⟩ : ∃ X, X = w121.setCell ⟨Q, 28, none⟩ (.slice sta B.st.length stc) := ⟨_, rfl⟩
      rw [← hV]
      obtain ⟨c26, ec26⟩ : ∃ c, c = (pcells sp (puM B 2)).setIfInBounds (28) (.slice sta B.st.length stc) := ⟨_, rfl⟩
      have ho : Onl [Q] w121 v25 := by rw [hV]; exact Onl.setCell (Onl.refl _ _) (.inl (by simp)) _
      replace HB := Lib.hid (belowOnl HB.out ho (by have := HQN.out; simp; omega) HB.out.size)
      replace HX := Lib.hid (HX.out.onl ho (by have := HQN.out; simp; omega))
      replace HZ := Lib.hid (HZ.out.onl ho (by have := HQN.out; simp; omega))
      replace HDN := Lib.hid (DnM.onlT HDN.out ho HQS.out.1)
      replace HQS : Hid (QS v25 Q c26) := Lib.hid (by rw [hV, ec26]; exact HQS.out.put (28) (.slice sta B.st.length stc))
      have Ec26 := Lib.hid ec26
      clear hV ho ec26
      skip
      first | (refine ⟨rfl, ⟨⟨_, (⟨HB.out, HB.out.size, by simp⟩ : Kept w.heap.size w (w.heap.size) [] v25), HX.out⟩, rfl⟩, hK.out _ _ ?_⟩; clear hK K) | (refine ⟨⟨⟨_, (⟨HB.out, HB.out.size, by simp⟩ : Kept w.heap.size w (w.heap.size) [] v25), HX.out⟩, rfl⟩, hK.out _ _ ?_⟩; clear hK K)
      repeat (go_big_quiet_step (fail))
      refine wpQuiet_nil ?_
      refine ⟨fun K hK0 => ?_, trivial⟩
      have hK := Lib.hid hK0
      clear hK0
      obtain ⟨u0, cc⟩ := HQS.out.cell (i := 29) (by omega)
      have fc := HQS.out.free (29)
      go_wp2_with fail
      clear cc fc
      obtain ⟨v27, hV⟩ : ∃ X, X = v25.setCell ⟨Q, 29, none⟩ (.slice qua B.qu.length quc) := ⟨_, rfl⟩
      rw [← hV]
      obtain ⟨c28, ec28⟩ : ∃ c, c = c26.setIfInBounds (29) (.slice qua B.qu.length quc) := ⟨_, rfl⟩
      have ho : Onl [Q] v25 v27 := by rw [hV]; exact Onl.setCell (Onl.refl _ _) (.inl (by simp)) _
      replace HB := Lib.hid (belowOnl HB.out ho (by have := HQN.out; simp; omega) HB.out.size)
      replace HX := Lib.hid (HX.out.onl ho (by have := HQN.out; simp; omega))
      replace HZ := Lib.hid (HZ.out.onl ho (by have := HQN.out; simp; omega))
      replace HDN := Lib.hid (DnM.onlT HDN.out ho HQS.out.1)
      replace HQS : Hid (QS v27 Q c28) := Lib.hid (by rw [hV, ec28]; exact HQS.out.put (29) (.slice qua B.qu.length quc))
      have Ec28 := Lib.hid ec28
      clear hV ho ec28
      skip
      first | (refine ⟨rfl, ⟨⟨_, (⟨HB.out, HB.out.size, by simp⟩ : Kept w.heap.size w (w.heap.size) [] v27), HX.out⟩, rfl⟩, hK.out _ _ ?_⟩; clear hK K) | (refine ⟨⟨⟨_, (⟨HB.out, HB.out.size, by simp⟩ : Kept w.heap.size w (w.heap.size) [] v27), HX.out⟩, rfl⟩, hK.out _ _ ?_⟩; clear hK K)
      repeat (go_big_quiet_step (fail))
      refine wpQuiet_nil ?_
      refine ⟨fun K hK0 => ?_, trivial⟩
      have hK := Lib.hid hK0
      clear hK0
      obtain ⟨u0, cc⟩ := HQS.out.cell (i := 30) (by omega)
      have fc := HQS.out.free (30)
      go_wp2_with fail
      clear cc fc
      obtain ⟨v29, hV⟩ : ∃ X, X = v27.setCell ⟨Q, 30, none⟩ (.slice ata B.att.length atc) := ⟨_, rfl⟩
      rw [← hV]
      obtain ⟨c30, ec30⟩ : ∃ c, c = c28.setIfInBounds (30) (.slice ata B.att.length atc) := ⟨_, rfl⟩
      have ho : Onl [Q] v27 v29 := by rw [hV]; exact Onl.setCell (Onl.refl _ _) (.inl (by simp)) _
      replace HB := Lib.hid (belowOnl HB.out ho (by have := HQN.out; simp; omega) HB.out.size)
      replace HX := Lib.hid (HX.out.onl ho (by have := HQN.out; simp; omega))
      replace HZ := Lib.hid (HZ.out.onl ho (by have := HQN.out; simp; omega))
      replace HDN := Lib.hid (DnM.onlT HDN.out ho HQS.out.1)
      replace HQS : Hid (QS v29 Q c30) := Lib.hid (by rw [hV, ec30]; exact HQS.out.put (30) (.slice ata B.att.length atc))
      have Ec30 := Lib.hid ec30
      clear hV ho ec30
      skip
      first | (refine ⟨rfl, ⟨⟨_, (⟨HB.out, HB.out.size, by simp⟩ : Kept w.heap.size w (w.heap.size) [] v29), HX.out⟩, rfl⟩, hK.out _ _ ?_⟩; clear hK K) | (refine ⟨⟨⟨_, (⟨HB.out, HB.out.size, by simp⟩ : Kept w.heap.size w (w.heap.size) [] v29), HX.out⟩, rfl⟩, hK.out _ _ ?_⟩; clear hK K)
      repeat (go_big_quiet_step (fail))
      refine wpQuiet_nil ?_
      refine ⟨fun K hK0 => ?_, trivial⟩
      have hK := Lib.hid hK0
      clear hK0
      obtain ⟨u0, cc⟩ := HQS.out.cell (i := 31) (by omega)
      have fc := HQS.out.free (31)
      go_wp2_with fail
      clear cc fc
      obtain ⟨v31, hV⟩ : ∃ X, X = v29.setCell ⟨Q, 31, none⟩ (.slice bla B.bl.length blc) := ⟨_, rfl⟩
      rw [← hV]
      obtain ⟨c32, ec32⟩ : ∃ c, c = c30.setIfInBounds (31) (.slice bla B.bl.length blc) := ⟨_, rfl⟩
      have ho : Onl [Q] v29 v31 := by rw [hV]; exact Onl.setCell (Onl.refl _ _) (.inl (by simp)) _
      replace HB := Lib.hid (belowOnl HB.out ho (by have := HQN.out; simp; omega) HB.out.size)
      replace HX := Lib.hid (HX.out.onl ho (by have := HQN.out; simp; omega))
      replace HZ := Lib.hid (HZ.out.onl ho (by have := HQN.out; simp; omega))
      replace HDN := Lib.hid (DnM.onlT HDN.out ho HQS.out.1)
      replace HQS : Hid (QS v31 Q c32) := Lib.hid (by rw [hV, ec32]; exact HQS.out.put (31) (.slice bla B.bl.length blc))
      have Ec32 := Lib.hid ec32
      clear hV ho ec32
      skip
      first | (refine ⟨rfl, ⟨⟨_, (⟨HB.out, HB.out.size, by simp⟩ : Kept w.heap.size w (w.heap.size) [] v31), HX.out⟩, rfl⟩, hK.out _ _ ?_⟩; clear hK K) | (refine ⟨⟨⟨_, (⟨HB.out, HB.out.size, by simp⟩ : Kept w.heap.size w (w.heap.size) [] v31), HX.out⟩, rfl⟩, hK.out _ _ ?_⟩; clear hK K)
      clear rb29 rb30 rb31 rb32
      clear _ne
      clear KH0
      go_upto_region 12 with fail
      have KH0 := Lib.hid (⟨HB.out, HB.out.size, by simp⟩ : Kept w.heap.size w (w.heap.size) [] v31)
      refine rg25_12 (w0 := w) (B := w.heap.size) (n := w.heap.size) (L := []) (E := fun W => Bx W w.heap.size s B) (F := fun W => Below v31.heap.size v31 W) (by kernel_rfl) (by kernel_rfl) (KH0.out.step (by omega) (by go_grown)) HX.out (fun _ _ h hb => h.below hb) (Below.refl _ _) (fun _ _ h hb => below_via h hb) (fun w141 K_w141 E_w141 F_w141 => ?_)
      have _ne : Nonempty (KX (w.heap.size) w (w.heap.size) [] (fun W => Bx W w.heap.size s B)) := ⟨⟨_, K_w141, E_w141⟩⟩
      repeat (go_big_quiet_step (fail))
      refine wpQuiet_nil ?_
      have rb33 : ∀ s : KX (w.heap.size) w (w.heap.size) [] (fun W => Bx W w.heap.size s B), s.val.cell? ⟨w.heap.size, 33, none⟩ = some (.int .i64 B.tu) := fun s => s.ex.cell 33
      have rb34 : ∀ s : KX (w.heap.size) w (w.heap.size) [] (fun W => Bx W w.heap.size s B), s.val.cell? ⟨w.heap.size, 34, none⟩ = some (.int .i64 B.ac) := fun s => s.ex.cell 34
      have rb35 : ∀ s : KX (w.heap.size) w (w.heap.size) [] (fun W => Bx W w.heap.size s B), s.val.cell? ⟨w.heap.size, 35, none⟩ = some (.int .i64 B.ph) := fun s => s.ex.cell 35
      have rb36 : ∀ s : KX (w.heap.size) w (w.heap.size) [] (fun W => Bx W w.heap.size s B), s.val.cell? ⟨w.heap.size, 36, none⟩ = some (.int .i64 B.ho) := fun s => s.ex.cell 36
      have rb37 : ∀ s : KX (w.heap.size) w (w.heap.size) [] (fun W => Bx W w.heap.size s B), s.val.cell? ⟨w.heap.size, 37, none⟩ = some (.int .i64 B.pa) := fun s => s.ex.cell 37
      repeat (go_big_quiet_step (fail))
      refine wpQuiet_nil ?_
      repeat (go_big_quiet_step (fail))
      refine wpQuiet_nil ?_
      repeat (go_big_quiet_step (fail))
      refine wpQuiet_nil ?_
      have KH_w141 := Lib.hid K_w141
      have hw_w141 := K_w141.below
      have hz_w141 := K_w141.size
      clear K_w141
      have HE1 := Lib.hid E_w141
      have HG1 := Lib.hid (F_w141)
      clear E_w141 F_w141
      refine ⟨fun K hK0 => ?_, trivial⟩
      have hK := Lib.hid hK0
      clear hK0
      have hb : Below v31.heap.size v31 w141 := HG1.out
      replace HB := Lib.hid (below_via HB.out hb)
      replace HX := Lib.hid (HX.out.below hb)
      replace HZ := Lib.hid (HZ.out.below hb)
      replace HQS := Lib.hid (HQS.out.below hb)
      replace HDN := Lib.hid (DnM.below HDN.out hb)
      clear hb HE1 HG1
      obtain ⟨u0, cc⟩ := HQS.out.cell (i := 32) (by omega)
      have fc := HQS.out.free (32)
      go_wp2_with fail
      clear cc fc
      obtain ⟨v33, hV⟩ : ∃ X, X = w141.setCell ⟨Q, 32, none⟩ (.int .i64 B.tu) := ⟨_, rfl⟩
      rw [← hV]
      obtain ⟨c34, ec34⟩ : ∃ c, c = c32.setIfInBounds (32) (.int .i64 B.tu) := ⟨_, rfl⟩
      have ho : Onl [Q] w141 v33 := by rw [hV]; exact Onl.setCell (Onl.refl _ _) (.inl (by simp)) _
      replace HB := Lib.hid (belowOnl HB.out ho (by have := HQN.out; simp; omega) HB.out.size)
      replace HX := Lib.hid (HX.out.onl ho (by have := HQN.out; simp; omega))
      replace HZ := Lib.hid (HZ.out.onl ho (by have := HQN.out; simp; omega))
      replace HDN := Lib.hid (DnM.onlT HDN.out ho HQS.out.1)
      replace HQS : Hid (QS v33 Q c34) := Lib.hid (by rw [hV, ec34]; exact HQS.out.put (32) (.int .i64 B.tu))
      have Ec34 := Lib.hid ec34
      clear hV ho ec34
      skip
      first | (refine ⟨rfl, ⟨⟨_, (⟨HB.out, HB.out.size, by simp⟩ : Kept w.heap.size w (w.heap.size) [] v33), HX.out⟩, rfl⟩, hK.out _ _ ?_⟩; clear hK K) | (refine ⟨⟨⟨_, (⟨HB.out, HB.out.size, by simp⟩ : Kept w.heap.size w (w.heap.size) [] v33), HX.out⟩, rfl⟩, hK.out _ _ ?_⟩; clear hK K)
      repeat (go_big_quiet_step (fail))
      refine wpQuiet_nil ?_
      refine ⟨fun K hK0 => ?_, trivial⟩
      have hK := Lib.hid hK0
      clear hK0
      obtain ⟨u0, cc⟩ := HQS.out.cell (i := 33) (by omega)
      have fc := HQS.out.free (33)
      go_wp2_with fail
      clear cc fc
      obtain ⟨v35, hV⟩ : ∃ X, X = v33.setCell ⟨Q, 33, none⟩ (.int .i64 B.ac) := ⟨_, rfl⟩
      rw [← hV]
      obtain ⟨c36, ec36⟩ : ∃ c, c = c34.setIfInBounds (33) (.int .i64 B.ac) := ⟨_, rfl⟩
      have ho : Onl [Q] v33 v35 := by rw [hV]; exact Onl.setCell (Onl.refl _ _) (.inl (by simp)) _
      replace HB := Lib.hid (belowOnl HB.out ho (by have := HQN.out; simp; omega) HB.out.size)
      replace HX := Lib.hid (HX.out.onl ho (by have := HQN.out; simp; omega))
      replace HZ := Lib.hid (HZ.out.onl ho (by have := HQN.out; simp; omega))
      replace HDN := Lib.hid (DnM.onlT HDN.out ho HQS.out.1)
      replace HQS : Hid (QS v35 Q c36) := Lib.hid (by rw [hV, ec36]; exact HQS.out.put (33) (.int .i64 B.ac))
      have Ec36 := Lib.hid ec36
      clear hV ho ec36
      skip
      first | (refine ⟨rfl, ⟨⟨_, (⟨HB.out, HB.out.size, by simp⟩ : Kept w.heap.size w (w.heap.size) [] v35), HX.out⟩, rfl⟩, hK.out _ _ ?_⟩; clear hK K) | (refine ⟨⟨⟨_, (⟨HB.out, HB.out.size, by simp⟩ : Kept w.heap.size w (w.heap.size) [] v35), HX.out⟩, rfl⟩, hK.out _ _ ?_⟩; clear hK K)
      repeat (go_big_quiet_step (fail))
      refine wpQuiet_nil ?_
      refine ⟨fun K hK0 => ?_, trivial⟩
      have hK := Lib.hid hK0
      clear hK0
      obtain ⟨u0, cc⟩ := HQS.out.cell (i := 34) (by omega)
      have fc := HQS.out.free (34)
      go_wp2_with fail
      clear cc fc
      obtain ⟨v37, hV⟩ : ∃ X, X = v35.setCell ⟨Q, 34, none⟩ (.int .i64 B.ph) := ⟨_, rfl⟩
      rw [← hV]
      obtain ⟨c38, ec38⟩ : ∃ c, c = c36.setIfInBounds (34) (.int .i64 B.ph) := ⟨_, rfl⟩
      have ho : Onl [Q] v35 v37 := by rw [hV]; exact Onl.setCell (Onl.refl _ _) (.inl (by simp)) _
      replace HB := Lib.hid (belowOnl HB.out ho (by have := HQN.out; simp; omega) HB.out.size)
      replace HX := Lib.hid (HX.out.onl ho (by have := HQN.out; simp; omega))
      replace HZ := Lib.hid (HZ.out.onl ho (by have := HQN.out; simp; omega))
      replace HDN := Lib.hid (DnM.onlT HDN.out ho HQS.out.1)
      replace HQS : Hid (QS v37 Q c38) := Lib.hid (by rw [hV, ec38]; exact HQS.out.put (34) (.int .i64 B.ph))
      have Ec38 := Lib.hid ec38
      clear hV ho ec38
      skip
      first | (refine ⟨rfl, ⟨⟨_, (⟨HB.out, HB.out.size, by simp⟩ : Kept w.heap.size w (w.heap.size) [] v37), HX.out⟩, rfl⟩, hK.out _ _ ?_⟩; clear hK K) | (refine ⟨⟨⟨_, (⟨HB.out, HB.out.size, by simp⟩ : Kept w.heap.size w (w.heap.size) [] v37), HX.out⟩, rfl⟩, hK.out _ _ ?_⟩; clear hK K)
      repeat (go_big_quiet_step (fail))
      refine wpQuiet_nil ?_
      refine ⟨fun K hK0 => ?_, trivial⟩
      have hK := Lib.hid hK0
      clear hK0
      obtain ⟨u0, cc⟩ := HQS.out.cell (i := 35) (by omega)
      have fc := HQS.out.free (35)
      go_wp2_with fail
      clear cc fc
      obtain ⟨v39, hV⟩ : ∃ X, X = v37.setCell ⟨Q, 35, none⟩ (.int .i64 B.ho) := ⟨_, rfl⟩
      rw [← hV]
      obtain ⟨c40, ec40⟩ : ∃ c, c = c38.setIfInBounds (35) (.int .i64 B.ho) := ⟨_, rfl⟩
      have ho : Onl [Q] v37 v39 := by rw [hV]; exact Onl.setCell (Onl.refl _ _) (.inl (by simp)) _
      replace HB := Lib.hid (belowOnl HB.out ho (by have := HQN.out; simp; omega) HB.out.size)
      replace HX := Lib.hid (HX.out.onl ho (by have := HQN.out; simp; omega))
      replace HZ := Lib.hid (HZ.out.onl ho (by have := HQN.out; simp; omega))
      replace HDN := Lib.hid (DnM.onlT HDN.out ho HQS.out.1)
      replace HQS : Hid (QS v39 Q c40) := Lib.hid (by rw [hV, ec40]; exact HQS.out.put (35) (.int .i64 B.ho))
      have Ec40 := Lib.hid ec40
      clear hV ho ec40
      skip
      first | (refine ⟨rfl, ⟨⟨_, (⟨HB.out, HB.out.size, by simp⟩ : Kept w.heap.size w (w.heap.size) [] v39), HX.out⟩, rfl⟩, hK.out _ _ ?_⟩; clear hK K) | (refine ⟨⟨⟨_, (⟨HB.out, HB.out.size, by simp⟩ : Kept w.heap.size w (w.heap.size) [] v39), HX.out⟩, rfl⟩, hK.out _ _ ?_⟩; clear hK K)
      repeat (go_big_quiet_step (fail))
      refine wpQuiet_nil ?_
      refine ⟨fun K hK0 => ?_, trivial⟩
      have hK := Lib.hid hK0
      clear hK0
      obtain ⟨u0, cc⟩ := HQS.out.cell (i := 36) (by omega)
      have fc := HQS.out.free (36)
      go_wp2_with fail
      clear cc fc
      obtain ⟨v41, hV⟩ : ∃ X, X = v39.setCell ⟨Q, 36, none⟩ (.int .i64 B.pa) := ⟨_, rfl⟩
      rw [← hV]
      obtain ⟨c42, ec42⟩ : ∃ c, c = c40.setIfInBounds (36) (.int .i64 B.pa) := ⟨_, rfl⟩
      have ho : Onl [Q] v39 v41 := by rw [hV]; exact Onl.setCell (Onl.refl _ _) (.inl (by simp)) _
      replace HB := Lib.hid (belowOnl HB.out ho (by have := HQN.out; simp; omega) HB.out.size)
      replace HX := Lib.hid (HX.out.onl ho (by have := HQN.out; simp; omega))
      replace HZ := Lib.hid (HZ.out.onl ho (by have := HQN.out; simp; omega))
      replace HDN := Lib.hid (DnM.onlT HDN.out ho HQS.out.1)
      replace HQS : Hid (QS v41 Q c42) := Lib.hid (by rw [hV, ec42]; exact HQS.out.put (36) (.int .i64 B.pa))
      have Ec42 := Lib.hid ec42
      clear hV ho ec42
      skip
      first | (refine ⟨rfl, ⟨⟨_, (⟨HB.out, HB.out.size, by simp⟩ : Kept w.heap.size w (w.heap.size) [] v41), HX.out⟩, rfl⟩, hK.out _ _ ?_⟩; clear hK K) | (refine ⟨⟨⟨_, (⟨HB.out, HB.out.size, by simp⟩ : Kept w.heap.size w (w.heap.size) [] v41), HX.out⟩, rfl⟩, hK.out _ _ ?_⟩; clear hK K)
      clear rb33 rb34 rb35 rb36 rb37
      clear _ne
      clear KH0
      obtain ⟨sx, hsx⟩ : ∃ q : Ps, q = { sp with st := ⟨sta, B.st.length, stc⟩, qu := ⟨qua, B.qu.length, quc⟩, at' := ⟨ata, B.att.length, atc⟩, bl := ⟨bla, B.bl.length, blc⟩ } := ⟨_, rfl⟩
      have HPQ : Hid (Px v41 Q sx (puB B)) := Lib.hid (by
        have hq := HQS.out.1
        rw [Ec42.out, Ec40.out, Ec38.out, Ec36.out, Ec34.out, Ec32.out, Ec30.out, Ec28.out, Ec26.out] at hq
        rw [chain2 sp B sta qua ata bla stc quc atc blc] at hq
        rw [hsx]
        exact hq)
      have HPR : Hid (∀ W, Below w.heap.size w W → DnM w B sp 2 W → PuR W sx (puB B)) := Lib.hid (fun W hb hd => by
        rw [hsx]
        exact ⟨(hd 0 (by omega)).1.rw oc_len, (hd 0 (by omega)).2.rw oc_len, (hd 1 (by omega)).1.rw oc_len, (hd 1 (by omega)).2.rw oc_len, HLI.out.1.below hb, HLI.out.2.1.below hb, HLI.out.2.2.1.below hb, HLI.out.2.2.2.below hb⟩)
      clear hsx
      go_wp2_with (first | (refine wpList_load_px _ rfl rfl HPQ.out (by kernel_rfl) ?_) | (refine wpList_store_ph (s := sx) (P := puB B) rfl _ _ rfl rfl rfl HZ.out rfl ?_; intro w9 hw9))
      have hg9 : Px w9 (w.heap.size + 1) sx (puB B) := by rw [hw9.out]; exact Px.row HZ.out _ _
      have ho9 : Onl [w.heap.size + 1] v41 w9 := by rw [hw9.out]; exact Onl.setRow (Onl.refl _ _) (.inl (by simp)) _
      have hb9 : Below w.heap.size w w9 := belowOnl HB.out ho9 (by simp) HB.out.size
      have HG9 := Lib.hid hg9
      have HPOST : Hid (PqA w (puB B) true (.returned (.tuple #[pv sx (puB B), .bool true])) w9) := Lib.hid ⟨_, rfl, HPR.out w9 hb9 (DnM.onlT HDN.out ho9 HZ.out), hb9⟩
      clear hw9 hg9 ho9 hb9
      go_wp2_with fail
      exact bodyPost_ret (v := .tuple #[pv sx (puB B), .bool true]) (results_p1 Try.results25 _ _ HG9.out rfl rfl) rfl HPOST.out
end Go.Proofs.Yteoeahmnonolmaa
