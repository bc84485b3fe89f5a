/- The model's take. -/
import Derived.Test.YteocplabibhecaaTm
import Derived.Test.YteocplabibhecaaCy
import Derived.Test.YteocplabibhecaaTa
import Derived.Deep.OwnRows
import Derived.Deep.DeepCutAuto
namespace Go.Proofs.Yteocplabibhecaa
open Go.RowKit Plain
set_option linter.unusedVariables false
set_option linter.unusedSimpArgs false

theorem rg16_10 {P : Program} {B n : Nat} {w0 : World} {L : List (Nat × Nat × Value)} {E F : World → Prop} {id : Nat} {Q : Exit → Act → World → Prop} {a : Act} {w : World} {o0 o1 o2 o3 o4 o5 o6 o7 o8 o9 o10 o11 o12 o13 o14 o15 : Oper} (hm : P.follows .mixedOrders = true)
    (hB : (Region.noSelect [o0, o1, o2, o3, o4, o5, o6, o7, o8, o9, o10, o11, o12, o13, o14, o15].toArray && Scr.ok .any [o0, o1, o2, o3, o4, o5, o6, o7, o8, o9, o10, o11, o12, o13, o14, o15].toArray [3, 8, 11] [0, 1, 2, 4, 5, 6, 7, 9, 10, 12, 14] (.free 0 (.free 1 (.free 2 (.free 4 (.free 5 (.free 6 (.free 7 (.free 9 (.free 12 (.read 3 (.read 8 (.free 10 (.read 11 (.alt 13 (.free 14 (.altc 15 .done .stop)) .stop)))))))))))))) true true [o0, o1, o2, o3, o4, o5, o6, o7, o8, o9, o10, o11, o12, o13, o14, o15].toArray.size (Array.replicate [o0, o1, o2, o3, o4, o5, o6, o7, o8, o9, o10, o11, o12, o13, o14, o15].toArray.size false)) = true)
    (k : Kept B w0 n L w) (he : E w) (hE : ∀ W W', E W → Below W.heap.size W W' → E W') (hf : F w) (hF : ∀ W W', F W → Below W.heap.size W W' → F W')
    (h : ∀ wk, Kept B w0 n L wk → E wk → F wk → wpQuiet P [o0, o1, o2, o3, o4, o5, o6, o7, o8, o9, o10, o11, o12, o13, o14, o15].toArray (fun _ => True) (fun a0 => wpQuiet P [o0, o1, o2, o3, o4, o5, o6, o7, o8, o9, o10, o11, o12, o13, o14, o15].toArray (fun w' => ∃ s : KX B w0 n L E, w' = s.val) (fun a1 => wpQuiet P [o0, o1, o2, o3, o4, o5, o6, o7, o8, o9, o10, o11, o12, o13, o14, o15].toArray (fun _ => True) (fun a2 => wpQuiet P [o0, o1, o2, o3, o4, o5, o6, o7, o8, o9, o10, o11, o12, o13, o14, o15].toArray (fun w' => ∃ s : KX B w0 n L E, w' = s.val) (fun a3 => ((∀ K4 : Act → World → Prop, (∀ a4 w4, wpQuiet P [o0, o1, o2, o3, o4, o5, o6, o7, o8, o9, o10, o11, o12, o13, o14, o15].toArray (fun _ => True) (fun a5 => ((∀ K6 : Act → World → Prop, (∀ a6 w6, Q .normal a6 w6 → K6 a6 w6) → wpList P [o0, o1, o2, o3, o4, o5, o6, o7, o8, o9, o10, o11, o12, o13, o14, o15].toArray (fun e a6 w6 => e = .normal ∧ K6 a6 w6) [o15] a5 w4) ∧ True)) [o14] a4 → K4 a4 w4) → wpList P [o0, o1, o2, o3, o4, o5, o6, o7, o8, o9, o10, o11, o12, o13, o14, o15].toArray (fun e a4 w4 => e = .normal ∧ (∃ s : KX B w0 n L E, w4 = s.val) ∧ K4 a4 w4) [o13] a3 wk) ∧ True)) [o11] a2) [o10] a1) [o3, o8] a0) [o0, o1, o2, o4, o5, o6, o7, o9, o12] a) : (Code.region id [o0, o1, o2, o3, o4, o5, o6, o7, o8, o9, o10, o11, o12, o13, o14, o15].toArray true).wp P Q a w := by
  have e1 : E w.drew := hE _ _ he ((Below.refl _ _).drew)
  have g := h _ k.drew e1 (hF _ _ hf ((Below.refl _ _).drew))
  exact wp_region_scr (U := (fun w' => ∃ s : KX B w0 n L E, w' = s.val)) (ops := [o0, o1, o2, o3, o4, o5, o6, o7, o8, o9, o10, o11, o12, o13, o14, o15].toArray) (.free 0 (.free 1 (.free 2 (.free 4 (.free 5 (.free 6 (.free 7 (.free 9 (.free 12 (.read 3 (.read 8 (.free 10 (.read 11 (.alt 13 (.free 14 (.altc 15 .done .stop)) .stop)))))))))))))) [3, 8, 11] [0, 1, 2, 4, 5, 6, 7, 9, 10, 12, 14] hm hB ⟨⟨_, k.drew, e1⟩, rfl⟩ (Scr.of_free rfl g (fun _ g0 => Scr.of_free rfl g0 (fun _ g1 => Scr.of_free rfl g1 (fun _ g2 => Scr.of_free rfl g2 (fun _ g3 => Scr.of_free rfl g3 (fun _ g4 => Scr.of_free rfl g4 (fun _ g5 => Scr.of_free rfl g5 (fun _ g6 => Scr.of_free rfl g6 (fun _ g7 => Scr.of_free rfl g7 (fun _ g8 => Scr.of_read rfl g8 (fun _ g9 => Scr.of_read rfl g9 (fun _ g10 => Scr.of_free rfl g10 (fun _ g11 => Scr.of_read rfl g11 (fun _ g12 => (Scr.of_alt rfl (g12.1 _ (fun _ _ g => g)) (fun _ _ g13 => Scr.of_free rfl g13 (fun _ g14 => (Scr.of_altc rfl (g14.1 _ (fun _ _ g => g)) (fun _ _ g15 => g15) trivial))) trivial)))))))))))))))
theorem rg16_11 {P : Program} {B n : Nat} {w0 : World} {L : List (Nat × Nat × Value)} {E F : World → Prop} {id : Nat} {Q : Exit → Act → World → Prop} {a : Act} {w : World} {o0 o1 o2 o3 o4 o5 o6 o7 o8 o9 o10 o11 o12 o13 o14 o15 o16 o17 : Oper} (hm : P.follows .mixedOrders = true)
    (hB : (Region.noSelect [o0, o1, o2, o3, o4, o5, o6, o7, o8, o9, o10, o11, o12, o13, o14, o15, o16, o17].toArray && Scr.ok .any [o0, o1, o2, o3, o4, o5, o6, o7, o8, o9, o10, o11, o12, o13, o14, o15, o16, o17].toArray [3, 8, 11] [0, 1, 2, 4, 5, 6, 7, 9, 10, 13, 16] (.free 0 (.free 1 (.free 2 (.free 4 (.free 5 (.free 6 (.free 7 (.free 9 (.free 13 (.read 3 (.read 8 (.free 10 (.read 11 (.alt 12 (.alt 14 (.alt 15 (.free 16 (.altc 17 .done .stop)) .stop) .stop) (.alt 14 (.alt 12 (.alt 15 (.free 16 (.altc 17 .done .stop)) .stop) .stop) .stop))))))))))))))) true true [o0, o1, o2, o3, o4, o5, o6, o7, o8, o9, o10, o11, o12, o13, o14, o15, o16, o17].toArray.size (Array.replicate [o0, o1, o2, o3, o4, o5, o6, o7, o8, o9, o10, o11, o12, o13, o14, o15, o16, o17].toArray.size false)) = true)
    (k : Kept B w0 n L w) (he : E w) (hE : ∀ W W', E W → Below W.heap.size W W' → E W') (hf : F w) (hF : ∀ W W', F W → Below W.heap.size W W' → F W')
    (h : ∀ wk, Kept B w0 n L wk → E wk → F wk → wpQuiet P [o0, o1, o2, o3, o4, o5, o6, o7, o8, o9, o10, o11, o12, o13, o14, o15, o16, o17].toArray (fun _ => True) (fun a0 => wpQuiet P [o0, o1, o2, o3, o4, o5, o6, o7, o8, o9, o10, o11, o12, o13, o14, o15, o16, o17].toArray (fun w' => ∃ s : KX B w0 n L E, w' = s.val) (fun a1 => wpQuiet P [o0, o1, o2, o3, o4, o5, o6, o7, o8, o9, o10, o11, o12, o13, o14, o15, o16, o17].toArray (fun _ => True) (fun a2 => wpQuiet P [o0, o1, o2, o3, o4, o5, o6, o7, o8, o9, o10, o11, o12, o13, o14, o15, o16, o17].toArray (fun w' => ∃ s : KX B w0 n L E, w' = s.val) (fun a3 => ((∀ K4 : Act → World → Prop, (∀ a4 w4, ((∀ K5 : Act → World → Prop, (∀ a5 w5, ((∀ K6 : Act → World → Prop, (∀ a6 w6, wpQuiet P [o0, o1, o2, o3, o4, o5, o6, o7, o8, o9, o10, o11, o12, o13, o14, o15, o16, o17].toArray (fun _ => True) (fun a7 => ((∀ K8 : Act → World → Prop, (∀ a8 w8, Q .normal a8 w8 → K8 a8 w8) → wpList P [o0, o1, o2, o3, o4, o5, o6, o7, o8, o9, o10, o11, o12, o13, o14, o15, o16, o17].toArray (fun e a8 w8 => e = .normal ∧ K8 a8 w8) [o17] a7 w6) ∧ True)) [o16] a6 → K6 a6 w6) → wpList P [o0, o1, o2, o3, o4, o5, o6, o7, o8, o9, o10, o11, o12, o13, o14, o15, o16, o17].toArray (fun e a6 w6 => e = .normal ∧ (∃ s : KX B w0 n L E, w6 = s.val) ∧ K6 a6 w6) [o15] a5 w5) ∧ True) → K5 a5 w5) → wpList P [o0, o1, o2, o3, o4, o5, o6, o7, o8, o9, o10, o11, o12, o13, o14, o15, o16, o17].toArray (fun e a5 w5 => e = .normal ∧ (∃ s : KX B w0 n L E, w5 = s.val) ∧ K5 a5 w5) [o14] a4 w4) ∧ True) → K4 a4 w4) → wpList P [o0, o1, o2, o3, o4, o5, o6, o7, o8, o9, o10, o11, o12, o13, o14, o15, o16, o17].toArray (fun e a4 w4 => e = .normal ∧ (∃ s : KX B w0 n L E, w4 = s.val) ∧ K4 a4 w4) [o12] a3 wk) ∧ (∀ K4 : Act → World → Prop, (∀ a4 w4, ((∀ K5 : Act → World → Prop, (∀ a5 w5, ((∀ K6 : Act → World → Prop, (∀ a6 w6, wpQuiet P [o0, o1, o2, o3, o4, o5, o6, o7, o8, o9, o10, o11, o12, o13, o14, o15, o16, o17].toArray (fun _ => True) (fun a7 => ((∀ K8 : Act → World → Prop, (∀ a8 w8, Q .normal a8 w8 → K8 a8 w8) → wpList P [o0, o1, o2, o3, o4, o5, o6, o7, o8, o9, o10, o11, o12, o13, o14, o15, o16, o17].toArray (fun e a8 w8 => e = .normal ∧ K8 a8 w8) [o17] a7 w6) ∧ True)) [o16] a6 → K6 a6 w6) → wpList P [o0, o1, o2, o3, o4, o5, o6, o7, o8, o9, o10, o11, o12, o13, o14, o15, o16, o17].toArray (fun e a6 w6 => e = .normal ∧ (∃ s : KX B w0 n L E, w6 = s.val) ∧ K6 a6 w6) [o15] a5 w5) ∧ True) → K5 a5 w5) → wpList P [o0, o1, o2, o3, o4, o5, o6, o7, o8, o9, o10, o11, o12, o13, o14, o15, o16, o17].toArray (fun e a5 w5 => e = .normal ∧ (∃ s : KX B w0 n L E, w5 = s.val) ∧ K5 a5 w5) [o12] a4 w4) ∧ True) → K4 a4 w4) → wpList P [o0, o1, o2, o3, o4, o5, o6, o7, o8, o9, o10, o11, o12, o13, o14, o15, o16, o17].toArray (fun e a4 w4 => e = .normal ∧ (∃ s : KX B w0 n L E, w4 = s.val) ∧ K4 a4 w4) [o14] a3 wk) ∧ True)) [o11] a2) [o10] a1) [o3, o8] a0) [o0, o1, o2, o4, o5, o6, o7, o9, o13] a) : (Code.region id [o0, o1, o2, o3, o4, o5, o6, o7, o8, o9, o10, o11, o12, o13, o14, o15, o16, o17].toArray true).wp P Q a w := by
  have e1 : E w.drew := hE _ _ he ((Below.refl _ _).drew)
  have g := h _ k.drew e1 (hF _ _ hf ((Below.refl _ _).drew))
  exact wp_region_scr (U := (fun w' => ∃ s : KX B w0 n L E, w' = s.val)) (ops := [o0, o1, o2, o3, o4, o5, o6, o7, o8, o9, o10, o11, o12, o13, o14, o15, o16, o17].toArray) (.free 0 (.free 1 (.free 2 (.free 4 (.free 5 (.free 6 (.free 7 (.free 9 (.free 13 (.read 3 (.read 8 (.free 10 (.read 11 (.alt 12 (.alt 14 (.alt 15 (.free 16 (.altc 17 .done .stop)) .stop) .stop) (.alt 14 (.alt 12 (.alt 15 (.free 16 (.altc 17 .done .stop)) .stop) .stop) .stop))))))))))))))) [3, 8, 11] [0, 1, 2, 4, 5, 6, 7, 9, 10, 13, 16] hm hB ⟨⟨_, k.drew, e1⟩, rfl⟩ (Scr.of_free rfl g (fun _ g0 => Scr.of_free rfl g0 (fun _ g1 => Scr.of_free rfl g1 (fun _ g2 => Scr.of_free rfl g2 (fun _ g3 => Scr.of_free rfl g3 (fun _ g4 => Scr.of_free rfl g4 (fun _ g5 => Scr.of_free rfl g5 (fun _ g6 => Scr.of_free rfl g6 (fun _ g7 => Scr.of_free rfl g7 (fun _ g8 => Scr.of_read rfl g8 (fun _ g9 => Scr.of_read rfl g9 (fun _ g10 => Scr.of_free rfl g10 (fun _ g11 => Scr.of_read rfl g11 (fun _ g12 => (Scr.of_alt rfl (g12.1 _ (fun _ _ g => g)) (fun _ _ g13 => (Scr.of_alt rfl (g13.1 _ (fun _ _ g => g)) (fun _ _ g14 => (Scr.of_alt rfl (g14.1 _ (fun _ _ g => g)) (fun _ _ g15 => Scr.of_free rfl g15 (fun _ g16 => (Scr.of_altc rfl (g16.1 _ (fun _ _ g => g)) (fun _ _ g17 => g17) trivial))) trivial)) trivial)) (Scr.of_alt rfl (g12.2.1 _ (fun _ _ g => g)) (fun _ _ g13 => (Scr.of_alt rfl (g13.1 _ (fun _ _ g => g)) (fun _ _ g14 => (Scr.of_alt rfl (g14.1 _ (fun _ _ g => g)) (fun _ _ g15 => Scr.of_free rfl g15 (fun _ g16 => (Scr.of_altc rfl (g16.1 _ (fun _ _ g => g)) (fun _ _ g17 => g17) trivial))) trivial)) trivial)) trivial))))))))))))))))
theorem rg16_24 {P : Program} {B n : Nat} {w0 : World} {L : List (Nat × Nat × Value)} {E F : World → Prop} {id : Nat} {Q : Exit → Act → World → Prop} {a : Act} {w : World} {o0 o1 o2 o3 o4 o5 o6 o7 o8 o9 o10 o11 o12 o13 : Oper} (hm : P.follows .mixedOrders = true)
    (hB : (Region.noSelect [o0, o1, o2, o3, o4, o5, o6, o7, o8, o9, o10, o11, o12, o13].toArray && Scr.ok .any [o0, o1, o2, o3, o4, o5, o6, o7, o8, o9, o10, o11, o12, o13].toArray [8, 11] [0, 1, 2, 3, 4, 5, 6, 7, 9, 10, 12] (.free 0 (.free 1 (.free 2 (.free 3 (.free 4 (.free 5 (.free 6 (.free 7 (.free 9 (.read 8 (.free 10 (.read 11 (.free 12 (.altc 13 .done .stop)))))))))))))) true true [o0, o1, o2, o3, o4, o5, o6, o7, o8, o9, o10, o11, o12, o13].toArray.size (Array.replicate [o0, o1, o2, o3, o4, o5, o6, o7, o8, o9, o10, o11, o12, o13].toArray.size false)) = true)
    (k : Kept B w0 n L w) (he : E w) (hE : ∀ W W', E W → Below W.heap.size W W' → E W') (hf : F w) (hF : ∀ W W', F W → Below W.heap.size W W' → F W')
    (h : ∀ wk, Kept B w0 n L wk → E wk → F wk → wpQuiet P [o0, o1, o2, o3, o4, o5, o6, o7, o8, o9, o10, o11, o12, o13].toArray (fun _ => True) (fun a0 => wpQuiet P [o0, o1, o2, o3, o4, o5, o6, o7, o8, o9, o10, o11, o12, o13].toArray (fun w' => ∃ s : KX B w0 n L E, w' = s.val) (fun a1 => wpQuiet P [o0, o1, o2, o3, o4, o5, o6, o7, o8, o9, o10, o11, o12, o13].toArray (fun _ => True) (fun a2 => wpQuiet P [o0, o1, o2, o3, o4, o5, o6, o7, o8, o9, o10, o11, o12, o13].toArray (fun w' => ∃ s : KX B w0 n L E, w' = s.val) (fun a3 => wpQuiet P [o0, o1, o2, o3, o4, o5, o6, o7, o8, o9, o10, o11, o12, o13].toArray (fun _ => True) (fun a4 => ((∀ K5 : Act → World → Prop, (∀ a5 w5, Q .normal a5 w5 → K5 a5 w5) → wpList P [o0, o1, o2, o3, o4, o5, o6, o7, o8, o9, o10, o11, o12, o13].toArray (fun e a5 w5 => e = .normal ∧ K5 a5 w5) [o13] a4 wk) ∧ True)) [o12] a3) [o11] a2) [o10] a1) [o8] a0) [o0, o1, o2, o3, o4, o5, o6, o7, o9] a) : (Code.region id [o0, o1, o2, o3, o4, o5, o6, o7, o8, o9, o10, o11, o12, o13].toArray true).wp P Q a w := by
  have e1 : E w.drew := hE _ _ he ((Below.refl _ _).drew)
  have g := h _ k.drew e1 (hF _ _ hf ((Below.refl _ _).drew))
  exact wp_region_scr (U := (fun w' => ∃ s : KX B w0 n L E, w' = s.val)) (ops := [o0, o1, o2, o3, o4, o5, o6, o7, o8, o9, o10, o11, o12, o13].toArray) (.free 0 (.free 1 (.free 2 (.free 3 (.free 4 (.free 5 (.free 6 (.free 7 (.free 9 (.read 8 (.free 10 (.read 11 (.free 12 (.altc 13 .done .stop)))))))))))))) [8, 11] [0, 1, 2, 3, 4, 5, 6, 7, 9, 10, 12] hm hB ⟨⟨_, k.drew, e1⟩, rfl⟩ (Scr.of_free rfl g (fun _ g0 => Scr.of_free rfl g0 (fun _ g1 => Scr.of_free rfl g1 (fun _ g2 => Scr.of_free rfl g2 (fun _ g3 => Scr.of_free rfl g3 (fun _ g4 => Scr.of_free rfl g4 (fun _ g5 => Scr.of_free rfl g5 (fun _ g6 => Scr.of_free rfl g6 (fun _ g7 => Scr.of_free rfl g7 (fun _ g8 => Scr.of_read rfl g8 (fun _ g9 => Scr.of_free rfl g9 (fun _ g10 => Scr.of_read rfl g10 (fun _ g11 => Scr.of_free rfl g11 (fun _ g12 => (Scr.of_altc rfl (g12.1 _ (fun _ _ g => g)) (fun _ _ g13 => g13) trivial)))))))))))))))
theorem rg16_25 {P : Program} {B n : Nat} {w0 : World} {L : List (Nat × Nat × Value)} {E F : World → Prop} {id : Nat} {Q : Exit → Act → World → Prop} {a : Act} {w : World} {o0 o1 o2 o3 o4 o5 o6 o7 o8 o9 o10 o11 o12 o13 o14 o15 : Oper} (hm : P.follows .mixedOrders = true)
    (hB : (Region.noSelect [o0, o1, o2, o3, o4, o5, o6, o7, o8, o9, o10, o11, o12, o13, o14, o15].toArray && Scr.ok .any [o0, o1, o2, o3, o4, o5, o6, o7, o8, o9, o10, o11, o12, o13, o14, o15].toArray [10, 13] [0, 1, 2, 3, 4, 5, 6, 7, 8, 9, 11, 12, 14] (.free 0 (.free 1 (.free 2 (.free 3 (.free 4 (.free 5 (.free 6 (.free 7 (.free 8 (.free 9 (.free 11 (.read 10 (.free 12 (.read 13 (.free 14 (.altc 15 .done .stop)))))))))))))))) true true [o0, o1, o2, o3, o4, o5, o6, o7, o8, o9, o10, o11, o12, o13, o14, o15].toArray.size (Array.replicate [o0, o1, o2, o3, o4, o5, o6, o7, o8, o9, o10, o11, o12, o13, o14, o15].toArray.size false)) = true)
    (k : Kept B w0 n L w) (he : E w) (hE : ∀ W W', E W → Below W.heap.size W W' → E W') (hf : F w) (hF : ∀ W W', F W → Below W.heap.size W W' → F W')
    (h : ∀ wk, Kept B w0 n L wk → E wk → F wk → wpQuiet P [o0, o1, o2, o3, o4, o5, o6, o7, o8, o9, o10, o11, o12, o13, o14, o15].toArray (fun _ => True) (fun a0 => wpQuiet P [o0, o1, o2, o3, o4, o5, o6, o7, o8, o9, o10, o11, o12, o13, o14, o15].toArray (fun w' => ∃ s : KX B w0 n L E, w' = s.val) (fun a1 => wpQuiet P [o0, o1, o2, o3, o4, o5, o6, o7, o8, o9, o10, o11, o12, o13, o14, o15].toArray (fun _ => True) (fun a2 => wpQuiet P [o0, o1, o2, o3, o4, o5, o6, o7, o8, o9, o10, o11, o12, o13, o14, o15].toArray (fun w' => ∃ s : KX B w0 n L E, w' = s.val) (fun a3 => wpQuiet P [o0, o1, o2, o3, o4, o5, o6, o7, o8, o9, o10, o11, o12, o13, o14, o15].toArray (fun _ => True) (fun a4 => ((∀ K5 : Act → World → Prop, (∀ a5 w5, Q .normal a5 w5 → K5 a5 w5) → wpList P [o0, o1, o2, o3, o4, o5, o6, o7, o8, o9, o10, o11, o12, o13, o14, o15].toArray (fun e a5 w5 => e = .normal ∧ K5 a5 w5) [o15] a4 wk) ∧ True)) [o14] a3) [o13] a2) [o12] a1) [o10] a0) [o0, o1, o2, o3, o4, o5, o6, o7, o8, o9, o11] a) : (Code.region id [o0, o1, o2, o3, o4, o5, o6, o7, o8, o9, o10, o11, o12, o13, o14, o15].toArray true).wp P Q a w := by
  have e1 : E w.drew := hE _ _ he ((Below.refl _ _).drew)
  have g := h _ k.drew e1 (hF _ _ hf ((Below.refl _ _).drew))
  exact wp_region_scr (U := (fun w' => ∃ s : KX B w0 n L E, w' = s.val)) (ops := [o0, o1, o2, o3, o4, o5, o6, o7, o8, o9, o10, o11, o12, o13, o14, o15].toArray) (.free 0 (.free 1 (.free 2 (.free 3 (.free 4 (.free 5 (.free 6 (.free 7 (.free 8 (.free 9 (.free 11 (.read 10 (.free 12 (.read 13 (.free 14 (.altc 15 .done .stop)))))))))))))))) [10, 13] [0, 1, 2, 3, 4, 5, 6, 7, 8, 9, 11, 12, 14] hm hB ⟨⟨_, k.drew, e1⟩, rfl⟩ (Scr.of_free rfl g (fun _ g0 => Scr.of_free rfl g0 (fun _ g1 => Scr.of_free rfl g1 (fun _ g2 => Scr.of_free rfl g2 (fun _ g3 => Scr.of_free rfl g3 (fun _ g4 => Scr.of_free rfl g4 (fun _ g5 => Scr.of_free rfl g5 (fun _ g6 => Scr.of_free rfl g6 (fun _ g7 => Scr.of_free rfl g7 (fun _ g8 => Scr.of_free rfl g8 (fun _ g9 => Scr.of_free rfl g9 (fun _ g10 => Scr.of_read rfl g10 (fun _ g11 => Scr.of_free rfl g11 (fun _ g12 => Scr.of_read rfl g12 (fun _ g13 => Scr.of_free rfl g13 (fun _ g14 => (Scr.of_altc rfl (g14.1 _ (fun _ _ g => g)) (fun _ _ g15 => g15) trivial)))))))))))))))))
theorem rg16_26 {P : Program} {B n : Nat} {w0 : World} {L : List (Nat × Nat × Value)} {E F : World → Prop} {id : Nat} {Q : Exit → Act → World → Prop} {a : Act} {w : World} {o0 o1 o2 o3 o4 o5 o6 o7 o8 o9 o10 o11 o12 o13 o14 o15 o16 o17 o18 o19 : Oper} (hm : P.follows .mixedOrders = true)
    (hB : (Region.noSelect [o0, o1, o2, o3, o4, o5, o6, o7, o8, o9, o10, o11, o12, o13, o14, o15, o16, o17, o18, o19].toArray && Scr.ok .any [o0, o1, o2, o3, o4, o5, o6, o7, o8, o9, o10, o11, o12, o13, o14, o15, o16, o17, o18, o19].toArray [9] [0, 1, 2, 3, 4, 6, 7, 8, 10, 11, 12, 14, 15, 17, 18] (.free 0 (.free 1 (.free 2 (.free 3 (.free 4 (.free 6 (.free 7 (.free 8 (.read 9 (.free 10 (.free 11 (.free 12 (.alt 5 (.altc 13 (.free 14 (.free 15 (.altc 16 (.free 17 (.free 18 (.altc 19 .done .stop))) .stop))) .stop) (.altc 13 (.alt 5 (.free 14 (.free 15 (.altc 16 (.free 17 (.free 18 (.altc 19 .done .stop))) .stop))) .stop) .stop)))))))))))))) true true [o0, o1, o2, o3, o4, o5, o6, o7, o8, o9, o10, o11, o12, o13, o14, o15, o16, o17, o18, o19].toArray.size (Array.replicate [o0, o1, o2, o3, o4, o5, o6, o7, o8, o9, o10, o11, o12, o13, o14, o15, o16, o17, o18, o19].toArray.size false)) = true)
    (k : Kept B w0 n L w) (he : E w) (hE : ∀ W W', E W → Below W.heap.size W W' → E W') (hf : F w) (hF : ∀ W W', F W → Below W.heap.size W W' → F W')
    (h : ∀ wk, Kept B w0 n L wk → E wk → F wk → wpQuiet P [o0, o1, o2, o3, o4, o5, o6, o7, o8, o9, o10, o11, o12, o13, o14, o15, o16, o17, o18, o19].toArray (fun _ => True) (fun a0 => wpQuiet P [o0, o1, o2, o3, o4, o5, o6, o7, o8, o9, o10, o11, o12, o13, o14, o15, o16, o17, o18, o19].toArray (fun w' => ∃ s : KX B w0 n L E, w' = s.val) (fun a1 => wpQuiet P [o0, o1, o2, o3, o4, o5, o6, o7, o8, o9, o10, o11, o12, o13, o14, o15, o16, o17, o18, o19].toArray (fun _ => True) (fun a2 => ((∀ K3 : Act → World → Prop, (∀ a3 w3, ((∀ K4 : Act → World → Prop, (∀ a4 w4, wpQuiet P [o0, o1, o2, o3, o4, o5, o6, o7, o8, o9, o10, o11, o12, o13, o14, o15, o16, o17, o18, o19].toArray (fun _ => True) (fun a5 => ((∀ K6 : Act → World → Prop, (∀ a6 w6, wpQuiet P [o0, o1, o2, o3, o4, o5, o6, o7, o8, o9, o10, o11, o12, o13, o14, o15, o16, o17, o18, o19].toArray (fun _ => True) (fun a7 => ((∀ K8 : Act → World → Prop, (∀ a8 w8, Q .normal a8 w8 → K8 a8 w8) → wpList P [o0, o1, o2, o3, o4, o5, o6, o7, o8, o9, o10, o11, o12, o13, o14, o15, o16, o17, o18, o19].toArray (fun e a8 w8 => e = .normal ∧ K8 a8 w8) [o19] a7 w6) ∧ True)) [o17, o18] a6 → K6 a6 w6) → wpList P [o0, o1, o2, o3, o4, o5, o6, o7, o8, o9, o10, o11, o12, o13, o14, o15, o16, o17, o18, o19].toArray (fun e a6 w6 => e = .normal ∧ K6 a6 w6) [o16] a5 w4) ∧ True)) [o14, o15] a4 → K4 a4 w4) → wpList P [o0, o1, o2, o3, o4, o5, o6, o7, o8, o9, o10, o11, o12, o13, o14, o15, o16, o17, o18, o19].toArray (fun e a4 w4 => e = .normal ∧ K4 a4 w4) [o13] a3 w3) ∧ True) → K3 a3 w3) → wpList P [o0, o1, o2, o3, o4, o5, o6, o7, o8, o9, o10, o11, o12, o13, o14, o15, o16, o17, o18, o19].toArray (fun e a3 w3 => e = .normal ∧ (∃ s : KX B w0 n L E, w3 = s.val) ∧ K3 a3 w3) [o5] a2 wk) ∧ (∀ K3 : Act → World → Prop, (∀ a3 w3, ((∀ K4 : Act → World → Prop, (∀ a4 w4, wpQuiet P [o0, o1, o2, o3, o4, o5, o6, o7, o8, o9, o10, o11, o12, o13, o14, o15, o16, o17, o18, o19].toArray (fun _ => True) (fun a5 => ((∀ K6 : Act → World → Prop, (∀ a6 w6, wpQuiet P [o0, o1, o2, o3, o4, o5, o6, o7, o8, o9, o10, o11, o12, o13, o14, o15, o16, o17, o18, o19].toArray (fun _ => True) (fun a7 => ((∀ K8 : Act → World → Prop, (∀ a8 w8, Q .normal a8 w8 → K8 a8 w8) → wpList P [o0, o1, o2, o3, o4, o5, o6, o7, o8, o9, o10, o11, o12, o13, o14, o15, o16, o17, o18, o19].toArray (fun e a8 w8 => e = .normal ∧ K8 a8 w8) [o19] a7 w6) ∧ True)) [o17, o18] a6 → K6 a6 w6) → wpList P [o0, o1, o2, o3, o4, o5, o6, o7, o8, o9, o10, o11, o12, o13, o14, o15, o16, o17, o18, o19].toArray (fun e a6 w6 => e = .normal ∧ K6 a6 w6) [o16] a5 w4) ∧ True)) [o14, o15] a4 → K4 a4 w4) → wpList P [o0, o1, o2, o3, o4, o5, o6, o7, o8, o9, o10, o11, o12, o13, o14, o15, o16, o17, o18, o19].toArray (fun e a4 w4 => e = .normal ∧ (∃ s : KX B w0 n L E, w4 = s.val) ∧ K4 a4 w4) [o5] a3 w3) ∧ True) → K3 a3 w3) → wpList P [o0, o1, o2, o3, o4, o5, o6, o7, o8, o9, o10, o11, o12, o13, o14, o15, o16, o17, o18, o19].toArray (fun e a3 w3 => e = .normal ∧ K3 a3 w3) [o13] a2 wk) ∧ True)) [o10, o11, o12] a1) [o9] a0) [o0, o1, o2, o3, o4, o6, o7, o8] a) : (Code.region id [o0, o1, o2, o3, o4, o5, o6, o7, o8, o9, o10, o11, o12, o13, o14, o15, o16, o17, o18, o19].toArray true).wp P Q a w := by
  have e1 : E w.drew := hE _ _ he ((Below.refl _ _).drew)
  have g := h _ k.drew e1 (hF _ _ hf ((Below.refl _ _).drew))
  exact wp_region_scr (U := (fun w' => ∃ s : KX B w0 n L E, w' = s.val)) (ops := [o0, o1, o2, o3, o4, o5, o6, o7, o8, o9, o10, o11, o12, o13, o14, o15, o16, o17, o18, o19].toArray) (.free 0 (.free 1 (.free 2 (.free 3 (.free 4 (.free 6 (.free 7 (.free 8 (.read 9 (.free 10 (.free 11 (.free 12 (.alt 5 (.altc 13 (.free 14 (.free 15 (.altc 16 (.free 17 (.free 18 (.altc 19 .done .stop))) .stop))) .stop) (.altc 13 (.alt 5 (.free 14 (.free 15 (.altc 16 (.free 17 (.free 18 (.altc 19 .done .stop))) .stop))) .stop) .stop)))))))))))))) [9] [0, 1, 2, 3, 4, 6, 7, 8, 10, 11, 12, 14, 15, 17, 18] hm hB ⟨⟨_, k.drew, e1⟩, rfl⟩ (Scr.of_free rfl g (fun _ g0 => Scr.of_free rfl g0 (fun _ g1 => Scr.of_free rfl g1 (fun _ g2 => Scr.of_free rfl g2 (fun _ g3 => Scr.of_free rfl g3 (fun _ g4 => Scr.of_free rfl g4 (fun _ g5 => Scr.of_free rfl g5 (fun _ g6 => Scr.of_free rfl g6 (fun _ g7 => Scr.of_read rfl g7 (fun _ g8 => Scr.of_free rfl g8 (fun _ g9 => Scr.of_free rfl g9 (fun _ g10 => Scr.of_free rfl g10 (fun _ g11 => (Scr.of_alt rfl (g11.1 _ (fun _ _ g => g)) (fun _ _ g12 => (Scr.of_altc rfl (g12.1 _ (fun _ _ g => g)) (fun _ _ g13 => Scr.of_free rfl g13 (fun _ g14 => Scr.of_free rfl g14 (fun _ g15 => (Scr.of_altc rfl (g15.1 _ (fun _ _ g => g)) (fun _ _ g16 => Scr.of_free rfl g16 (fun _ g17 => Scr.of_free rfl g17 (fun _ g18 => (Scr.of_altc rfl (g18.1 _ (fun _ _ g => g)) (fun _ _ g19 => g19) trivial)))) trivial)))) trivial)) (Scr.of_altc rfl (g11.2.1 _ (fun _ _ g => g)) (fun _ _ g12 => (Scr.of_alt rfl (g12.1 _ (fun _ _ g => g)) (fun _ _ g13 => Scr.of_free rfl g13 (fun _ g14 => Scr.of_free rfl g14 (fun _ g15 => (Scr.of_altc rfl (g15.1 _ (fun _ _ g => g)) (fun _ _ g16 => Scr.of_free rfl g16 (fun _ g17 => Scr.of_free rfl g17 (fun _ g18 => (Scr.of_altc rfl (g18.1 _ (fun _ _ g => g)) (fun _ _ g19 => g19) trivial)))) trivial)))) trivial)) trivial)))))))))))))))
theorem rg16_31 {P : Program} {B n : Nat} {w0 : World} {L : List (Nat × Nat × Value)} {E F : World → Prop} {id : Nat} {Q : Exit → Act → World → Prop} {a : Act} {w : World} {o0 o1 o2 o3 o4 o5 o6 o7 o8 o9 o10 o11 o12 o13 o14 o15 o16 o17 o18 : Oper} (hm : P.follows .mixedOrders = true)
    (hB : (Region.noSelect [o0, o1, o2, o3, o4, o5, o6, o7, o8, o9, o10, o11, o12, o13, o14, o15, o16, o17, o18].toArray && Scr.ok .any [o0, o1, o2, o3, o4, o5, o6, o7, o8, o9, o10, o11, o12, o13, o14, o15, o16, o17, o18].toArray [5, 7, 11] [0, 1, 2, 3, 4, 6, 8, 9, 10, 12, 13, 14, 16, 17] (.free 0 (.free 1 (.free 2 (.free 3 (.free 4 (.free 8 (.free 9 (.free 10 (.read 5 (.free 6 (.read 7 (.read 11 (.free 12 (.free 13 (.free 14 (.altc 15 (.free 16 (.free 17 (.altc 18 .done .stop))) .stop)))))))))))))))) true true [o0, o1, o2, o3, o4, o5, o6, o7, o8, o9, o10, o11, o12, o13, o14, o15, o16, o17, o18].toArray.size (Array.replicate [o0, o1, o2, o3, o4, o5, o6, o7, o8, o9, o10, o11, o12, o13, o14, o15, o16, o17, o18].toArray.size false)) = true)
    (k : Kept B w0 n L w) (he : E w) (hE : ∀ W W', E W → Below W.heap.size W W' → E W') (hf : F w) (hF : ∀ W W', F W → Below W.heap.size W W' → F W')
    (h : ∀ wk, Kept B w0 n L wk → E wk → F wk → wpQuiet P [o0, o1, o2, o3, o4, o5, o6, o7, o8, o9, o10, o11, o12, o13, o14, o15, o16, o17, o18].toArray (fun _ => True) (fun a0 => wpQuiet P [o0, o1, o2, o3, o4, o5, o6, o7, o8, o9, o10, o11, o12, o13, o14, o15, o16, o17, o18].toArray (fun w' => ∃ s : KX B w0 n L E, w' = s.val) (fun a1 => wpQuiet P [o0, o1, o2, o3, o4, o5, o6, o7, o8, o9, o10, o11, o12, o13, o14, o15, o16, o17, o18].toArray (fun _ => True) (fun a2 => wpQuiet P [o0, o1, o2, o3, o4, o5, o6, o7, o8, o9, o10, o11, o12, o13, o14, o15, o16, o17, o18].toArray (fun w' => ∃ s : KX B w0 n L E, w' = s.val) (fun a3 => wpQuiet P [o0, o1, o2, o3, o4, o5, o6, o7, o8, o9, o10, o11, o12, o13, o14, o15, o16, o17, o18].toArray (fun _ => True) (fun a4 => ((∀ K5 : Act → World → Prop, (∀ a5 w5, wpQuiet P [o0, o1, o2, o3, o4, o5, o6, o7, o8, o9, o10, o11, o12, o13, o14, o15, o16, o17, o18].toArray (fun _ => True) (fun a6 => ((∀ K7 : Act → World → Prop, (∀ a7 w7, Q .normal a7 w7 → K7 a7 w7) → wpList P [o0, o1, o2, o3, o4, o5, o6, o7, o8, o9, o10, o11, o12, o13, o14, o15, o16, o17, o18].toArray (fun e a7 w7 => e = .normal ∧ K7 a7 w7) [o18] a6 w5) ∧ True)) [o16, o17] a5 → K5 a5 w5) → wpList P [o0, o1, o2, o3, o4, o5, o6, o7, o8, o9, o10, o11, o12, o13, o14, o15, o16, o17, o18].toArray (fun e a5 w5 => e = .normal ∧ K5 a5 w5) [o15] a4 wk) ∧ True)) [o12, o13, o14] a3) [o7, o11] a2) [o6] a1) [o5] a0) [o0, o1, o2, o3, o4, o8, o9, o10] a) : (Code.region id [o0, o1, o2, o3, o4, o5, o6, o7, o8, o9, o10, o11, o12, o13, o14, o15, o16, o17, o18].toArray true).wp P Q a w := by
  have e1 : E w.drew := hE _ _ he ((Below.refl _ _).drew)
  have g := h _ k.drew e1 (hF _ _ hf ((Below.refl _ _).drew))
  exact wp_region_scr (U := (fun w' => ∃ s : KX B w0 n L E, w' = s.val)) (ops := [o0, o1, o2, o3, o4, o5, o6, o7, o8, o9, o10, o11, o12, o13, o14, o15, o16, o17, o18].toArray) (.free 0 (.free 1 (.free 2 (.free 3 (.free 4 (.free 8 (.free 9 (.free 10 (.read 5 (.free 6 (.read 7 (.read 11 (.free 12 (.free 13 (.free 14 (.altc 15 (.free 16 (.free 17 (.altc 18 .done .stop))) .stop)))))))))))))))) [5, 7, 11] [0, 1, 2, 3, 4, 6, 8, 9, 10, 12, 13, 14, 16, 17] hm hB ⟨⟨_, k.drew, e1⟩, rfl⟩ (Scr.of_free rfl g (fun _ g0 => Scr.of_free rfl g0 (fun _ g1 => Scr.of_free rfl g1 (fun _ g2 => Scr.of_free rfl g2 (fun _ g3 => Scr.of_free rfl g3 (fun _ g4 => Scr.of_free rfl g4 (fun _ g5 => Scr.of_free rfl g5 (fun _ g6 => Scr.of_free rfl g6 (fun _ g7 => Scr.of_read rfl g7 (fun _ g8 => Scr.of_free rfl g8 (fun _ g9 => Scr.of_read rfl g9 (fun _ g10 => Scr.of_read rfl g10 (fun _ g11 => Scr.of_free rfl g11 (fun _ g12 => Scr.of_free rfl g12 (fun _ g13 => Scr.of_free rfl g13 (fun _ g14 => (Scr.of_altc rfl (g14.1 _ (fun _ _ g => g)) (fun _ _ g15 => Scr.of_free rfl g15 (fun _ g16 => Scr.of_free rfl g16 (fun _ g17 => (Scr.of_altc rfl (g17.1 _ (fun _ _ g => g)) (fun _ _ g18 => g18) trivial)))) trivial)))))))))))))))))
theorem kx26e {w6 : World} {M : Nat} {sl st sm : Sl} {a b : Int} {W W' : World} (h : Onl [M] w6 W ∧ ∃ v0, W.heap[M]? = some (.cells #[v0, sl.v, st.v, sm.v, .int .i64 a, .int .i64 b, .bool false] 39 (0, 0))) (hb : Below W.heap.size W W') : Onl [M] w6 W' ∧ ∃ v0, W'.heap[M]? = some (.cells #[v0, sl.v, st.v, sm.v, .int .i64 a, .int .i64 b, .bool false] 39 (0, 0)) := by
  obtain ⟨h1, v0, h2⟩ := h
  exact ⟨h1.grow hb, v0, (hb.block M (Array.getElem?_eq_some_iff.1 h2).1).trans h2⟩
theorem kx26 {w6 : World} {M : Nat} {sl st sm : Sl} {a b : Int} {W : World} (h : Onl [M] w6 W ∧ ∃ v0, W.heap[M]? = some (.cells #[v0, sl.v, st.v, sm.v, .int .i64 a, .int .i64 b, .bool false] 39 (0, 0))) : W.cell? ⟨M, 5, none⟩ = some (.int .i64 b) := by
  obtain ⟨h1, v0, h2⟩ := h
  exact cell_of_row W M 5 _ 39 (0, 0) h2
def TurnM (w6 : World) (B : Nat) (S2 : List Nat) (M : Nat) (x' : Dr) (nf sl st : Sl) (lvs : List Sl) (vs3 : List (List Sl)) (wx : World) : Prop := ∃ S3 sm', MoM wx B S3 M x' nf sl st sm' (nf :: lvs) vs3 ∧ (∀ b ∈ S3, b ∈ S2 ∨ w6.heap.size ≤ b) ∧ (∀ b ∈ S2, b ∈ S3) ∧ Onl S2 w6 wx
def NxRel (w6 : World) (n : Nat) (fvs : List Sl) (rd : Nat) (s : Value) (wr : World) : Prop := ∃ (i : Nat) (nv : List Sl), i ≤ n ∧ nv.length = n ∧ s = .int .i64 i ∧ Ow vc 1 32 wr w6.heap.size (.slice (some ⟨w6.heap.size, 0, none⟩) n n) nv ∧ (∀ i' s', i' < i → fvs[i']? = some s' → nv[to' n rd i']? = some s') ∧ Below w6.heap.size w6 wr
def ScRel (w5 : World) (x : Dr) (s : Value) (wr : World) : Prop := ∃ i : Nat, i ≤ x.n ∧ s = .int .i64 i ∧ (∀ j, j < i → x.mvd j = true) ∧ Below w5.heap.size w5 wr
/-- a call that changes a model -/
def MoTk (w : World) (B : Nat) (S : List Nat) (M : Nat) (d' : Dr) (card er : Int) (e : Ending) (w' : World) : Prop := ∃ S', e = .returned (.tuple #[.int .i64 card, .int .i64 er]) ∧ MoAt w' B S' M d' ∧ (∀ b ∈ S', b ∈ S ∨ w.heap.size ≤ b) ∧ (∀ b ∈ S, b ∈ S') ∧ Onl S w w'
theorem MoTk.same {w w' : World} {B : Nat} {S : List Nat} {M : Nat} {d : Dr} {er : Int} (h : MoAt w B S M d) (hb : Below w.heap.size w w') : MoTk w B S M d 0 er (.returned (.tuple #[.int .i64 0, .int .i64 er])) w' := ⟨S, rfl, h.below hb, fun b hb => .inl hb, fun b hb => hb, .of hb⟩
def MidM (w3 : World) (B : Nat) (S1 : List Nat) (M : Nat) (d : Dr) (sf sl st sm : Sl) (fl : List Sl) (wx : World) : Prop := ∃ S2 vss2, MoM wx B S2 M d sf sl st sm fl vss2 ∧ (∀ b ∈ S2, b ∈ S1 ∨ w3.heap.size ≤ b) ∧ (∀ b ∈ S1, b ∈ S2) ∧ Onl S1 w3 wx
set_option maxRecDepth 100000 in
set_option maxHeartbeats 8000000 in
theorem mtake16 (M B c : Nat) (S : List Nat) (d : Dr) (p i : Int) (w : World) (h : MoAt w B S M d) (iv : d.Inv c) : Calls Try.prog 16 #[.pointer (some ⟨M, 0, none⟩), .int .i64 p, .int .i64 i] w (MoTk w B S M (d.stp p i) (d.got p i) (d.err p i)) := by
  have hn8 := iv.n8
  have hn2 := iv.n2
  have HMA := Lib.hid h
  obtain ⟨sf, sl, st, sm, fl, vss, hm⟩ := h
  have HMM := Lib.hid hm
  have hM := hm.lt
  obtain ⟨tvs, _, htl, hto⟩ := hm.tval
  have m2 : w.cell? ⟨M, 2, none⟩ = some (.slice st.a d.n st.c) := by rw [hm.cell 2, ← htl, ← oe_slice hto]; rfl
  have m3 : w.cell? ⟨M, 3, none⟩ = some (.slice sm.a d.n sm.c) := by rw [hm.cell 3, ← iv.mv, ← oe_slice hm.mov]; rfl
  have m6 : w.cell? ⟨M, 6, none⟩ = some (.bool d.over) := hm.cell 6
  clear hto htl
  by_cases h1 : p < 0 ∨ (d.n : Int) ≤ p
  · have E0 : Hid (d.err p i = 2) := Lib.hid (by unfold Dr.err; rw [if_pos h1])
    clear hm iv
    rcases h1 with h1 | h1
    · go_enter Try.func16, Try.ntmps16
      go_wp2_with fail
      go_returns
      rw [E0.out, (stp_bad E0.out (by decide)).1, (stp_bad E0.out (by decide)).2]
      exact MoTk.same HMA.out (Below.refl _ _)
    · have h2 : ¬ p < 0 := by omega
      go_enter Try.func16, Try.ntmps16
      go_wp2_with fail
      go_returns
      rw [E0.out, (stp_bad E0.out (by decide)).1, (stp_bad E0.out (by decide)).2]
      exact MoTk.same HMA.out (Below.refl _ _)
  obtain ⟨q, rfl⟩ : ∃ q : Nat, p = q := ⟨p.toNat, by omega⟩
  have hq : q < d.n := by omega
  have i1 : (0 : Int) ≤ (q : Int) := by omega
  have i2 : (q : Int) < (d.n : Int) := by omega
  cases ho : d.over
  · rw [ho] at m6
    have hne : d.rd ≠ d.rs.length := fun e => by rw [(over_iff d).2 e] at ho; cases ho
    have hrd := iv.rd
    obtain ⟨b, hbk⟩ : ∃ b, d.mv[q]? = some b := ⟨_, List.getElem?_eq_getElem (show q < d.mv.length by rw [iv.mv]; exact hq)⟩
    obtain ⟨mg, hma, _, _, hml, hmb, hmc, _⟩ := hm.mov.cell1 bc1 hbk
    have hmvd : d.mvd q = b := getD_lt hbk
    rw [hma] at m3
    cases hm' : d.mvd q
    · rw [← hmvd, hm'] at hmc
      obtain ⟨l, hl⟩ : ∃ l, d.pk q = l := ⟨_, rfl⟩
      obtain ⟨s, hs, hsr⟩ := hm.mat.get (i := 1) (k := q) (l := l) (at2_of (r := d.fronts) (by unfold Dr.live; rw [ho]; rfl) (by rw [fronts_at hq, hl]))
      obtain ⟨fvs, hv0, hvl, hvo⟩ := hm.fval ho
      obtain ⟨r, hr, hrk⟩ := at2_row hs
      obtain rfl : fvs = r := by rw [hv0] at hr; simpa using hr
      obtain ⟨fg, hfa, hfn, hfg, hfb, e_f⟩ := row_cell hvo hvl hrk
      have hts := sl_len hsr
      rw [hts] at e_f
      have m0 : w.cell? ⟨M, 0, none⟩ = some (.slice (some ⟨fg, 0, none⟩) d.n sf.c) := by rw [hm.cell 0, ← hfa, ← hfn]; rfl
      have hnow := iv.now q hq (by omega)
      rw [hl] at hnow
      have hll : l.length ≤ 15 := by have := iv.c15; omega
      by_cases hi : i < 0 ∨ (l.length : Int) ≤ i
      · have E0 : Hid (d.err q i = 3) := Lib.hid (by unfold Dr.err; rw [if_neg h1, ho, if_neg (by decide), Int.toNat_natCast, hm', if_neg (by decide), hl, if_pos hi])
        clear hm iv hbk hma hmb hmvd hm' hl hs hsr hv0 hvl hvo hr hrk hfa hfn hfb hts hnow hll
        rcases hi with hi | hi
        · go_enter Try.func16, Try.ntmps16
          go_wp2_with fail
          go_returns
          rw [E0.out, (stp_bad E0.out (by decide)).1, (stp_bad E0.out (by decide)).2]
          exact MoTk.same HMA.out (Below.refl _ _)
        · have hi0 : ¬ i < 0 := by omega
          go_enter Try.func16, Try.ntmps16
          go_wp2_with fail
          go_returns
          rw [E0.out, (stp_bad E0.out (by decide)).1, (stp_bad E0.out (by decide)).2]
          exact MoTk.same HMA.out (Below.refl _ _)
      · obtain ⟨k, rfl⟩ : ∃ k : Nat, i = k := ⟨i.toNat, by omega⟩
        have E0 : Hid (d.err q k = 0) := Lib.hid (by unfold Dr.err; rw [if_neg h1, ho, if_neg (by decide), Int.toNat_natCast, hm', if_neg (by decide), hl, if_neg hi])
        have hkl : k < l.length := by omega
        have STP : Hid (d.stp q k = (d.put q k).fin) := Lib.hid (by unfold Dr.stp Dr.take; rw [if_pos E0.out, Int.toNat_natCast, Int.toNat_natCast])
        obtain ⟨card, hcd⟩ : ∃ x, l[k]? = some x := ⟨_, List.getElem?_eq_getElem hkl⟩
        have GOT : Hid (d.got q k = card) := Lib.hid (by unfold Dr.got Dr.card; rw [if_pos E0.out, Int.toNat_natCast, Int.toNat_natCast, hl, getD_lt hcd])
        obtain ⟨pb, hpa, _, _, hpl, _, e_p, hpo⟩ := hsr.cell1 ic1 hcd
        have HPW : Hid (Ow ic 1 3 w 0 (.slice (some ⟨pb, 0, none⟩) l.length s.c) l) := Lib.hid (by rw [oe_slice hsr, hpa] at hpo; exact hpo)
        rw [hpa] at e_f
        obtain ⟨fc, hfc⟩ : ∃ x, s.c = x := ⟨_, rfl⟩
        rw [hfc] at e_f HPW
        have HFT : Hid (Ty w (some fg) 32) := Lib.hid (hvo.ty hfb)
        have HKL := Lib.hid hkl
        have HLL := Lib.hid hll
        have HQ := Lib.hid hq
        have HFPV := Lib.hid hs
        have HFRV : Hid ((st :: fl)[1]? = some ⟨some ⟨fg, 0, none⟩, d.n, sf.c⟩) := Lib.hid (by
          obtain ⟨lvs, hf, _⟩ := hm.fln ho
          rw [hf, ← hfa, ← hfn]
          rfl)
        have hlt : d.rd < d.rs.length := by omega
        have HL1 : Hid (d.tk :: Dr.live ⟨set2 d.rs d.rd (d.fr q) (l.eraseIdx k), d.tk, d.mv, d.rd, d.tn⟩ = set2 (d.tk :: d.live) 1 q (l.eraseIdx k)) := Lib.hid (by
          rw [put_live iv hlt hq _ _ _ rfl]
          rfl)
        have HO1 : Hid (Dr.over ⟨set2 d.rs d.rd (d.fr q) (l.eraseIdx k), d.tk, d.mv, d.rd, d.tn⟩ = d.over) := Lib.hid (by
          show (d.rd == (set2 d.rs d.rd (d.fr q) (l.eraseIdx k)).length) = (d.rd == d.rs.length)
          rw [set2_length])
        obtain ⟨tl, htl0⟩ : ∃ t, d.tk[q]? = some t := ⟨_, List.getElem?_eq_getElem (show q < d.tk.length from hq)⟩
        have HTKL := Lib.hid htl0
        have HTLL : Hid (tl.length ≤ 100) := Lib.hid (tk_len iv htl0)
        have HL2 : Hid ((d.tk.set q (tl ++ [card])) :: Dr.live ⟨set2 d.rs d.rd (d.fr q) (l.eraseIdx k), d.tk.set q (tl ++ [card]), d.mv, d.rd, d.tn⟩ = set2 (d.tk :: Dr.live ⟨set2 d.rs d.rd (d.fr q) (l.eraseIdx k), d.tk, d.mv, d.rd, d.tn⟩) 0 q (tl ++ [card])) := Lib.hid (by
          rw [put_live iv hlt hq _ _ _ rfl, put_live iv hlt hq _ _ _ (by simp [Dr.n])]
          rfl)
        have HO2' : Hid (Dr.over ⟨set2 d.rs d.rd (d.fr q) (l.eraseIdx k), d.tk.set q (tl ++ [card]), d.mv, d.rd, d.tn⟩ = Dr.over ⟨set2 d.rs d.rd (d.fr q) (l.eraseIdx k), d.tk, d.mv, d.rd, d.tn⟩) := Lib.hid rfl
        have HMQ : Hid (((⟨set2 d.rs d.rd (d.fr q) (l.eraseIdx k), d.tk.set q (tl ++ [card]), d.mv, d.rd, d.tn⟩ : Dr).mv)[q]? = some false) := Lib.hid (by show d.mv[q]? = _; rw [hbk, ← hmvd, hm'])
        have HMVL : Hid (d.mv.length = d.n) := Lib.hid iv.mv
        have HPUT : Hid (d.put q k = ⟨set2 d.rs d.rd (d.fr q) (l.eraseIdx k), d.tk.set q (tl ++ [card]), d.mv.set q true, d.rd, d.tn⟩) := Lib.hid (by unfold Dr.put Dr.card; rw [hl, getD_lt htl0, getD_lt hcd])
        have HMID : Hid ((d.put q k).Mid c) := Lib.hid (put_mid iv hq hne hm' (by rw [hl]; exact hkl))
        have HIV := Lib.hid iv
        have HHL := Lib.hid hl
        have HCD := Lib.hid hcd
        have HHM := Lib.hid hm'
        have HNE := Lib.hid hne
        have HMG := Lib.hid hma
        have l1 : (0 : Int) ≤ (k : Int) := by omega
        have l2 : (k : Int) < (l.length : Int) := by omega
        clear hm iv hbk hma hmb hmvd hm' hl hs hsr hv0 hvl hvo hr hrk hfa hfn hfb hts hnow hll hcd hpo hpa hfc hlt htl0 ho h1 hi hkl hq hne
        go_enter Try.func16, Try.ntmps16
        go_wp2_with fail
        refine rg16_10 (w0 := w) (B := w.heap.size) (n := w.heap.size) (L := []) (E := fun _ => True) (F := fun _ => True) (by kernel_rfl) (by kernel_rfl) ⟨by go_grown, by go_size, (by simp [go_sem] <;> omega)⟩ trivial (fun _ _ _ _ => trivial) trivial (fun _ _ _ _ => trivial) (fun w20 K_w20 E_w20 F_w20 => ?_)
        have _ne : Nonempty (KX (w.heap.size) w (w.heap.size) [] (fun _ => True)) := ⟨⟨_, K_w20, E_w20⟩⟩
        repeat (go_big_quiet_step (fail))
        refine wpQuiet_nil ?_
        have rx0 : ∀ s : KX (w.heap.size) w (w.heap.size) [] (fun _ => True), s.val.cell? ⟨M, 0, none⟩ = some (.slice (some ⟨fg, 0, none⟩) d.n sf.c) := fun s => (s.kept.below.cell (p := ⟨M, 0, none⟩) hM).trans m0
        have rx1 : ∀ s : KX (w.heap.size) w (w.heap.size) [] (fun _ => True), s.val.cell? ⟨fg, q, none⟩ = some (.slice (some ⟨pb, 0, none⟩) l.length fc) := fun s => (s.kept.below.cell (p := ⟨fg, q, none⟩) hfg).trans e_f
        repeat (go_big_quiet_step (fail))
        refine wpQuiet_nil ?_
        clear rx0 rx1
        repeat (go_big_quiet_step (fail))
        refine wpQuiet_nil ?_
        have rx0 : ∀ s : KX (w.heap.size) w (w.heap.size) [] (fun _ => True), s.val.cell? ⟨M, 0, none⟩ = some (.slice (some ⟨fg, 0, none⟩) d.n sf.c) := fun s => (s.kept.below.cell (p := ⟨M, 0, none⟩) hM).trans m0
        have rx1 : ∀ s : KX (w.heap.size) w (w.heap.size) [] (fun _ => True), s.val.cell? ⟨fg, q, none⟩ = some (.slice (some ⟨pb, 0, none⟩) l.length fc) := fun s => (s.kept.below.cell (p := ⟨fg, q, none⟩) hfg).trans e_f
        repeat (go_big_quiet_step (fail))
        refine wpQuiet_nil ?_
        clear rx0 rx1
        have KH_w20 := Lib.hid K_w20
        have hw_w20 := K_w20.below
        have hz_w20 := K_w20.size
        clear K_w20
        clear E_w20 F_w20
        refine ⟨fun K hK0 => ?_, trivial⟩
        have hK := Lib.hid hK0
        clear hK0
        go_wp2_with fail
        with_reducible refine (without30 _ l k _ (HPW.out.below hw_w20) HKL.out (by have := HLL.out; omega)).mono ?_
        rintro e w21 ⟨v, rfl, hv, hbn⟩
        obtain ⟨av, cv, hve⟩ := hv.form
        obtain ⟨nv, hnv⟩ : ∃ n, (l.eraseIdx k).length = n := ⟨_, rfl⟩
        rw [hnv] at hve
        subst hve
        have HV := Lib.hid hv
        have HVN : Hid (∀ b, (Value.slice av nv cv).ownBlock = Option.some b → w.heap.size ≤ b) := Lib.hid (fun b hb => by have := (hv.typ b hb).1; have := hw_w20.size; omega)
        have HBN := Lib.hid (below_via hw_w20 hbn)
        have hcf : w21.cell? ⟨fg, q, none⟩ = Option.some (.slice (some ⟨pb, 0, none⟩) l.length fc) := (HBN.out.cell (p := ⟨fg, q, none⟩) hfg).trans e_f
        have hff : w21.frozen? ⟨fg, q, none⟩ = false := ((Onl.of HBN.out : Onl [] w w21).frozen hfg (by simp)).trans (ty_frozen HFT.out _)
        have K_w21 := KH_w20.out.step (by omega) hbn
        have KH_w21 := Lib.hid K_w21
        clear K_w21 hv hbn hnv
        go_wp2_with fail
        first | (refine ⟨rfl, ⟨⟨_, KH_w21.out, trivial⟩, rfl⟩, hK.out _ _ ?_⟩; clear hK K) | (refine ⟨⟨⟨_, KH_w21.out, trivial⟩, rfl⟩, hK.out _ _ ?_⟩; clear hK K)
        repeat (go_big_quiet_step (fail))
        refine wpQuiet_nil ?_
        refine ⟨fun K hK0 => ?_, trivial⟩
        have hK := Lib.hid hK0
        clear hK0
        go_wp2_with fail
        first | (refine ⟨rfl, hK.out _ _ ?_⟩; clear hK K) | (refine hK.out _ _ ?_; clear hK K)
        clear _ne
        go_upto_region 11 with fail
        have hput := HMM.out.putc (i := 1) (S' := S ++ obl (.slice av nv cv)) (d' := ⟨set2 d.rs d.rd (d.fr q) (l.eraseIdx k), d.tk, d.mv, d.rd, d.tn⟩) (s' := ⟨av, nv, cv⟩) HFPV.out HFRV.out HBN.out (Oe.of_ow HV.out) (fun b hb => List.mem_append_left _ hb) (fun b hb => List.mem_append_right _ (mem_obl.2 hb)) (fun b hb => by
          rcases List.mem_append.1 hb with h | h
          · exact .inl h
          · exact .inr ⟨HVN.out b (mem_obl.1 h), (HV.out.typ b (mem_obl.1 h)).2.1⟩) HL1.out rfl rfl rfl HO1.out
        obtain ⟨w3, hw3⟩ : ∃ W, W = w21.setCell ⟨fg, q, none⟩ (.slice av nv cv) := ⟨_, rfl⟩
        rw [show (w21.setCell ⟨fg, q, none⟩ (Sl.v ⟨av, nv, cv⟩)) = w3 from hw3.symm] at hput
        rw [← hw3]
        obtain ⟨vss1, hv1⟩ : ∃ v, set2 vss 1 q ⟨av, nv, cv⟩ = v := ⟨_, rfl⟩
        obtain ⟨S1, hS1⟩ : ∃ s, S ++ obl (.slice av nv cv) = s := ⟨_, rfl⟩
        rw [hv1, hS1] at hput
        have HM3 := Lib.hid hput.1
        have HO3 := Lib.hid hput.2
        have HSS1 : Hid (∀ b ∈ S, b ∈ S1) := Lib.hid (by rw [← hS1]; exact fun b hb => List.mem_append_left _ hb)
        have HSN1 : Hid (∀ b ∈ S1, b ∈ S ∨ w.heap.size ≤ b) := Lib.hid (by
          rw [← hS1]
          intro b hb
          rcases List.mem_append.1 hb with h | h
          · exact .inl h
          · exact .inr (HVN.out b (mem_obl.1 h)))
        clear hput hw3 hv1 hS1 hcf hff HV HVN HBN m0 e_f KH_w20 hw_w20
        obtain ⟨tvs, t0, t1, t2⟩ := HM3.out.tval
        change tvs.length = d.n at t1
        obtain ⟨t, ht⟩ : ∃ t, tvs[q]? = some t := ⟨_, List.getElem?_eq_getElem (show q < tvs.length by rw [t1]; exact HQ.out)⟩
        obtain ⟨tg, ha, hn, htg, htb, e_t⟩ := row_cell t2 t1 ht
        have HTI := Lib.hid (HM3.out.mat.row 0 q t tl (at2_of t0 ht) (at2_of rfl HTKL.out))
        have htn := sl_len HTI.out
        rw [htn] at e_t
        have HTW := Lib.hid (sl_rw HTI.out)
        have HTT := Lib.hid (t2.ty htb)
        have HTP := Lib.hid (at2_of t0 ht)
        have m2 : w3.cell? ⟨M, 2, none⟩ = Option.some (.slice (some ⟨tg, 0, none⟩) d.n st.c) := by rw [HM3.out.cell 2, ← ha, ← hn]; rfl
        have HTA : Hid (st = ⟨some ⟨tg, 0, none⟩, d.n, st.c⟩) := Lib.hid (by rw [← ha, ← hn])
        have hM3 := HM3.out.lt
        clear t0 t1 t2 ht ha hn htb htn
        go_cut [] (fun wx => MidM w3 B S1 M ⟨set2 d.rs d.rd (d.fr q) (l.eraseIdx k), d.tk.set q (tl ++ [card]), d.mv, d.rd, d.tn⟩ sf sl st sm fl wx)
        case first =>
          refine rg16_11 (w0 := w3) (B := w3.heap.size) (n := w3.heap.size) (L := []) (E := fun _ => True) (F := fun _ => True) (by kernel_rfl) (by kernel_rfl) ⟨by go_grown, by go_size, (by simp [go_sem] <;> omega)⟩ trivial (fun _ _ _ _ => trivial) trivial (fun _ _ _ _ => trivial) (fun w31 K_w31 E_w31 F_w31 => ?_)
          have _ne : Nonempty (KX (w3.heap.size) w3 (w3.heap.size) [] (fun _ => True)) := ⟨⟨_, K_w31, E_w31⟩⟩
          repeat (go_big_quiet_step (fail))
          refine wpQuiet_nil ?_
          have rx0 : ∀ s : KX (w3.heap.size) w3 (w3.heap.size) [] (fun _ => True), s.val.cell? ⟨M, 2, none⟩ = some (.slice (some ⟨tg, 0, none⟩) d.n st.c) := fun s => (s.kept.below.cell (p := ⟨M, 2, none⟩) hM3).trans m2
          have rx1 : ∀ s : KX (w3.heap.size) w3 (w3.heap.size) [] (fun _ => True), s.val.cell? ⟨tg, q, none⟩ = some (.slice t.a tl.length t.c) := fun s => (s.kept.below.cell (p := ⟨tg, q, none⟩) htg).trans e_t
          repeat (go_big_quiet_step (fail))
          refine wpQuiet_nil ?_
          clear rx0 rx1
          repeat (go_big_quiet_step (fail))
          refine wpQuiet_nil ?_
          have rx0 : ∀ s : KX (w3.heap.size) w3 (w3.heap.size) [] (fun _ => True), s.val.cell? ⟨M, 2, none⟩ = some (.slice (some ⟨tg, 0, none⟩) d.n st.c) := fun s => (s.kept.below.cell (p := ⟨M, 2, none⟩) hM3).trans m2
          have rx1 : ∀ s : KX (w3.heap.size) w3 (w3.heap.size) [] (fun _ => True), s.val.cell? ⟨tg, q, none⟩ = some (.slice t.a tl.length t.c) := fun s => (s.kept.below.cell (p := ⟨tg, q, none⟩) htg).trans e_t
          repeat (go_big_quiet_step (fail))
          refine wpQuiet_nil ?_
          clear rx0 rx1
          have KH_w31 := Lib.hid K_w31
          have hw_w31 := K_w31.below
          have hz_w31 := K_w31.size
          clear K_w31
          clear E_w31 F_w31
          refine ⟨fun K hK0 => ?_, fun K hK0 => ?_, trivial⟩
          · skip
            have hK := Lib.hid hK0
            clear hK0
            go_wp2_with (at_builtin; refine wpList_append_ow (f := ic) (sz := 1) rfl _ _ 32 rfl w3.heap.size 3 (.int .i64 0) 8 Try.underlying32 info3 rfl (by decide) _ [] rfl (Ow.nil _ _ _) ic_ok _ tl rfl (HTW.out.below hw_w31) ?ca ?cb (by have := hz_w31; first | exact this | (simp; omega)) ?_)
            case ca => have q1 := HTLL.out; simp [maxLen]; omega
            case cb => have q1 := HTLL.out; simp; omega
            intro v1 w32 hown hgrow _
            have hown : Ow ic 1 3 w32 w3.heap.size v1 tl := hown
            have hbn := (Below.refl _ _).grown hgrow (Nat.le_refl _) (by simp [Value.ownBlock])
            have HA1 := Lib.hid hown
            obtain ⟨a1, c1, rfl⟩ := hown.form
            have K_w32 := KH_w31.out.step (by omega) hbn
            have KH_w32 := Lib.hid K_w32
            have hz_w32 := K_w32.size
            have hw_w32 := K_w32.below
            clear K_w32 hown hgrow hbn
            go_wp2_with fail
            first | (refine ⟨rfl, ⟨⟨_, KH_w32.out, trivial⟩, rfl⟩, hK.out _ _ ?_⟩; clear hK K) | (refine ⟨⟨⟨_, KH_w32.out, trivial⟩, rfl⟩, hK.out _ _ ?_⟩; clear hK K)
            refine ⟨fun K hK0 => ?_, trivial⟩
            have hK := Lib.hid hK0
            clear hK0
            go_wp2_with fail
            first | (refine ⟨rfl, ⟨⟨_, KH_w32.out.step (by omega) ((Below.refl _ _).alloc (Nat.le_refl _) _), trivial⟩, rfl⟩, hK.out _ _ ?_⟩; clear hK K) | (refine ⟨⟨⟨_, KH_w32.out.step (by omega) ((Below.refl _ _).alloc (Nat.le_refl _) _), trivial⟩, rfl⟩, hK.out _ _ ?_⟩; clear hK K)
            refine ⟨fun K hK0 => ?_, trivial⟩
            have hK := Lib.hid hK0
            clear hK0
            go_wp2_with (at_builtin; refine wpList_append_ow (f := ic) (sz := 1) rfl _ _ 32 rfl w3.heap.size 3 (.int .i64 0) 8 Try.underlying32 info3 rfl (by decide) _ tl rfl (HA1.out.below ((Below.refl _ _).alloc (Nat.le_refl _) _)) ic_ok _ [card] rfl (Rw.one2 _ _ card _ rfl _ _ (by simp)) ?cc ?cd (by have := hz_w32; first | exact this | (simp; omega)) ?_)
            case cc => have q1 := HTLL.out; simp [maxLen]; omega
            case cd => have q1 := HTLL.out; simp; omega
            intro v2 w40 hown hgrow _
            have hb0 : Below w3.heap.size w3 (w32.alloc (.cells #[.int .i64 card] 3)) := hw_w32.alloc hw_w32.size _
            have HB40 : Hid (Below w3.heap.size w3 w40) := Lib.hid (hb0.grown hgrow hb0.size (fun q hq => (HA1.out.typ q hq).1))
            have KH40 := Lib.hid (KH_w32.out.step (by omega) ((Below.refl _ _).alloc (Nat.le_refl _) _) |>.onl (S := obl (.slice a1 tl.length c1)) ((Onl.refl _ _).grown hgrow (fun k hk => .inl (mem_obl.2 hk))) (by omega) (fun b hb => (HA1.out.typ b (mem_obl.1 hb)).1) (by simp))
            obtain ⟨a2, c2, hv2⟩ := hown.form
            obtain ⟨n2, hn2⟩ : ∃ n, (tl ++ [card]).length = n := ⟨_, rfl⟩
            rw [hn2] at hv2
            subst hv2
            have HV2 := Lib.hid hown
            have hct : w40.cell? ⟨tg, q, none⟩ = Option.some (.slice t.a tl.length t.c) := (HB40.out.cell (p := ⟨tg, q, none⟩) htg).trans e_t
            have hft : w40.frozen? ⟨tg, q, none⟩ = false := ((Onl.of HB40.out : Onl [] w3 w40).frozen htg (by simp)).trans (ty_frozen HTT.out _)
            clear hown hgrow hb0 hn2
            go_wp2_with fail
            first | (refine ⟨rfl, ⟨⟨_, KH40.out, trivial⟩, rfl⟩, hK.out _ _ ?_⟩; clear hK K) | (refine ⟨⟨⟨_, KH40.out, trivial⟩, rfl⟩, hK.out _ _ ?_⟩; clear hK K)
            repeat (go_big_quiet_step (fail))
            refine wpQuiet_nil ?_
            refine ⟨fun K hK0 => ?_, trivial⟩
            have hK := Lib.hid hK0
            clear hK0
            go_wp2_with fail
            first | (refine ⟨rfl, hK.out _ _ ?_⟩; clear hK K) | (refine hK.out _ _ ?_; clear hK K)
            clear _ne
            have hput := HM3.out.putc (w2 := w40) (i := 0) (k := q) (g := tg) (n := d.n) (rc := st.c) (S' := S1 ++ obl (.slice a2 n2 c2)) (d' := ⟨set2 d.rs d.rd (d.fr q) (l.eraseIdx k), d.tk.set q (tl ++ [card]), d.mv, d.rd, d.tn⟩) (s' := ⟨a2, n2, c2⟩) HTP.out (by rw [← HTA.out]; rfl) HB40.out (Oe.of_ow HV2.out) (fun b hb => List.mem_append_left _ hb) (fun b hb => List.mem_append_right _ (mem_obl.2 hb)) (fun b hb => by
              rcases List.mem_append.1 hb with h | h
              · exact .inl h
              · exact .inr ⟨(HV2.out.typ b (mem_obl.1 h)).1, (HV2.out.typ b (mem_obl.1 h)).2.1⟩) HL2.out rfl rfl rfl HO2'.out
            have HFINAL : Hid (MidM w3 B S1 M ⟨set2 d.rs d.rd (d.fr q) (l.eraseIdx k), d.tk.set q (tl ++ [card]), d.mv, d.rd, d.tn⟩ sf sl st sm fl (w40.setCell ⟨tg, q, none⟩ (.slice a2 n2 c2))) := Lib.hid ⟨_, _, hput.1, fun b hb => by
              rcases List.mem_append.1 hb with h | h
              · exact .inl h
              · exact .inr (HV2.out.typ b (mem_obl.1 h)).1, fun b hb => List.mem_append_left _ hb, hput.2⟩
            clear hput
            go_wp2_with fail
            go_meet
            case rel => exact HFINAL.out
          · skip
            have hK := Lib.hid hK0
            clear hK0
            go_wp2_with fail
            first | (refine ⟨rfl, ⟨⟨_, KH_w31.out.step (by omega) ((Below.refl _ _).alloc (Nat.le_refl _) _), trivial⟩, rfl⟩, hK.out _ _ ?_⟩; clear hK K) | (refine ⟨⟨⟨_, KH_w31.out.step (by omega) ((Below.refl _ _).alloc (Nat.le_refl _) _), trivial⟩, rfl⟩, hK.out _ _ ?_⟩; clear hK K)
            refine ⟨fun K hK0 => ?_, trivial⟩
            have hK := Lib.hid hK0
            clear hK0
            go_wp2_with (at_builtin; refine wpList_append_ow (f := ic) (sz := 1) rfl _ _ 32 rfl w3.heap.size 3 (.int .i64 0) 8 Try.underlying32 info3 rfl (by decide) _ [] rfl (Ow.nil _ _ _) ic_ok _ tl rfl (HTW.out.below (hw_w31.alloc hw_w31.size _)) ?ca ?cb (by have := hz_w31; first | exact this | (simp; omega)) ?_)
            case ca => have q1 := HTLL.out; simp [maxLen]; omega
            case cb => have q1 := HTLL.out; simp; omega
            intro v1 w32 hown hgrow _
            have hown : Ow ic 1 3 w32 w3.heap.size v1 tl := hown
            have hbg := (Below.refl _ _).grown hgrow (Nat.le_refl _) (by simp [Value.ownBlock])
            have HSLC : Hid (Rw ic 1 w32 (.slice (some ⟨w31.heap.size, 0, none⟩) 1 1) [card]) := Lib.hid ((Rw.one2 w31 3 card #[.int .i64 card] rfl 1 _ rfl).below hbg)
            have hbn : Below w31.heap.size w31 w32 := below_via ((Below.refl _ _).alloc (Nat.le_refl _) _) hbg
            have HA1 := Lib.hid hown
            obtain ⟨a1, c1, rfl⟩ := hown.form
            have K_w32 := KH_w31.out.step (by omega) hbn
            have KH_w32 := Lib.hid K_w32
            have hz_w32 := K_w32.size
            have hw_w32 := K_w32.below
            clear K_w32 hown hgrow hbg hbn
            go_wp2_with fail
            first | (refine ⟨rfl, ⟨⟨_, KH_w32.out, trivial⟩, rfl⟩, hK.out _ _ ?_⟩; clear hK K) | (refine ⟨⟨⟨_, KH_w32.out, trivial⟩, rfl⟩, hK.out _ _ ?_⟩; clear hK K)
            refine ⟨fun K hK0 => ?_, trivial⟩
            have hK := Lib.hid hK0
            clear hK0
            go_wp2_with (at_builtin; refine wpList_append_ow (f := ic) (sz := 1) rfl _ _ 32 rfl w3.heap.size 3 (.int .i64 0) 8 Try.underlying32 info3 rfl (by decide) _ tl rfl (HA1.out.below (Below.refl _ _)) ic_ok _ [card] rfl HSLC.out ?cc ?cd (by have := hz_w32; first | exact this | (simp; omega)) ?_)
            case cc => have q1 := HTLL.out; simp [maxLen]; omega
            case cd => have q1 := HTLL.out; simp; omega
            intro v2 w40 hown hgrow _
            have hb0 : Below w3.heap.size w3 w32 := hw_w32
            have HB40 : Hid (Below w3.heap.size w3 w40) := Lib.hid (hb0.grown hgrow hb0.size (fun q hq => (HA1.out.typ q hq).1))
            have KH40 := Lib.hid (KH_w32.out.step (by omega) (Below.refl _ _) |>.onl (S := obl (.slice a1 tl.length c1)) ((Onl.refl _ _).grown hgrow (fun k hk => .inl (mem_obl.2 hk))) (by omega) (fun b hb => (HA1.out.typ b (mem_obl.1 hb)).1) (by simp))
            obtain ⟨a2, c2, hv2⟩ := hown.form
            obtain ⟨n2, hn2⟩ : ∃ n, (tl ++ [card]).length = n := ⟨_, rfl⟩
            rw [hn2] at hv2
            subst hv2
            have HV2 := Lib.hid hown
            have hct : w40.cell? ⟨tg, q, none⟩ = Option.some (.slice t.a tl.length t.c) := (HB40.out.cell (p := ⟨tg, q, none⟩) htg).trans e_t
            have hft : w40.frozen? ⟨tg, q, none⟩ = false := ((Onl.of HB40.out : Onl [] w3 w40).frozen htg (by simp)).trans (ty_frozen HTT.out _)
            clear hown hgrow hb0 hn2
            go_wp2_with fail
            first | (refine ⟨rfl, ⟨⟨_, KH40.out, trivial⟩, rfl⟩, hK.out _ _ ?_⟩; clear hK K) | (refine ⟨⟨⟨_, KH40.out, trivial⟩, rfl⟩, hK.out _ _ ?_⟩; clear hK K)
            repeat (go_big_quiet_step (fail))
            refine wpQuiet_nil ?_
            refine ⟨fun K hK0 => ?_, trivial⟩
            have hK := Lib.hid hK0
            clear hK0
            go_wp2_with fail
            first | (refine ⟨rfl, hK.out _ _ ?_⟩; clear hK K) | (refine hK.out _ _ ?_; clear hK K)
            clear _ne
            have hput := HM3.out.putc (w2 := w40) (i := 0) (k := q) (g := tg) (n := d.n) (rc := st.c) (S' := S1 ++ obl (.slice a2 n2 c2)) (d' := ⟨set2 d.rs d.rd (d.fr q) (l.eraseIdx k), d.tk.set q (tl ++ [card]), d.mv, d.rd, d.tn⟩) (s' := ⟨a2, n2, c2⟩) HTP.out (by rw [← HTA.out]; rfl) HB40.out (Oe.of_ow HV2.out) (fun b hb => List.mem_append_left _ hb) (fun b hb => List.mem_append_right _ (mem_obl.2 hb)) (fun b hb => by
              rcases List.mem_append.1 hb with h | h
              · exact .inl h
              · exact .inr ⟨(HV2.out.typ b (mem_obl.1 h)).1, (HV2.out.typ b (mem_obl.1 h)).2.1⟩) HL2.out rfl rfl rfl HO2'.out
            have HFINAL : Hid (MidM w3 B S1 M ⟨set2 d.rs d.rd (d.fr q) (l.eraseIdx k), d.tk.set q (tl ++ [card]), d.mv, d.rd, d.tn⟩ sf sl st sm fl (w40.setCell ⟨tg, q, none⟩ (.slice a2 n2 c2))) := Lib.hid ⟨_, _, hput.1, fun b hb => by
              rcases List.mem_append.1 hb with h | h
              · exact .inl h
              · exact .inr (HV2.out.typ b (mem_obl.1 h)).1, fun b hb => List.mem_append_left _ hb, hput.2⟩
            clear hput
            go_wp2_with fail
            go_meet
            case rel => exact HFINAL.out
        case rest =>
          obtain ⟨S2, vss2, hm4, hsn2, hss2, ho4⟩ := hcut
          obtain ⟨w4, rfl⟩ : ∃ W, W = wc := ⟨_, rfl⟩
          have HM4 := Lib.hid hm4
          have HSN2 : Hid (∀ b ∈ S2, b ∈ S ∨ w.heap.size ≤ b) := Lib.hid (fun b hb => by
            rcases hsn2 b hb with h | h
            · exact HSN1.out b h
            · exact .inr (Nat.le_trans HO3.out.size h))
          have HSS2 : Hid (∀ b ∈ S, b ∈ S2) := Lib.hid (fun b hb => hss2 b (HSS1.out b hb))
          have HO4 : Hid (Onl S w w4) := Lib.hid (onl_less HO3.out ho4 HSN1.out)
          clear hm4 hsn2 hss2 ho4 HM3 HO3 HSN1 HSS1 HTI HTW HTT HTP HTA m2 e_t htg hM3 HPW HFT HFPV HFRV HL1 HO1 HL2 HO2' HTKL HTLL
          obtain ⟨mg, hma, _, _, hml, hmb, hmc, _⟩ := HM4.out.mov.cell1 bc1 (i := q) (x := false) HMQ.out
          have m3 : w4.cell? ⟨M, 3, none⟩ = Option.some (.slice (some ⟨mg, 0, none⟩) d.n sm.c) := by rw [HM4.out.cell 3, ← HMVL.out, ← hma]; exact congrArg some (oe_slice HM4.out.mov)
          have hfm : w4.frozen? ⟨mg, q, none⟩ = false := ty_frozen (HM4.out.mov.ty hmb) _
          have HMB := Lib.hid hmb
          have HMA2 := Lib.hid hma
          have hM4 := HM4.out.lt
          clear hma hmb
          go_upto_region 13 with fail
          have hput := HM4.out.putm (w2 := w4.setCell ⟨mg, q, none⟩ (.bool true)) (d' := ⟨set2 d.rs d.rd (d.fr q) (l.eraseIdx k), d.tk.set q (tl ++ [card]), d.mv.set q true, d.rd, d.tn⟩) HMB.out ((Onl.refl _ _).setCell (.inl (by simp)) _) (by
            have h := HM4.out.mov
            have h2 := oe_slice h
            rw [h2] at h ⊢
            rw [HMA2.out] at h ⊢
            exact Ow.set1 h (fun _ => rfl) rfl q true (.bool true) rfl) rfl rfl rfl rfl rfl
          obtain ⟨w5, hw5⟩ : ∃ W, W = w4.setCell ⟨mg, q, none⟩ (.bool true) := ⟨_, rfl⟩
          rw [← hw5] at hput ⊢
          rw [← HPUT.out] at hput
          obtain ⟨x, hx⟩ : ∃ x, d.put q k = x := ⟨_, rfl⟩
          rw [hx] at hput
          have HX := Lib.hid hx
          have HM5 := Lib.hid hput.1
          have HO5 := Lib.hid (onl_less HO4.out hput.2 HSN2.out)
          have HMX : Hid (x.Mid c) := Lib.hid (by rw [← hx]; exact HMID.out)
          have HXN : Hid (x.n = d.n) := Lib.hid (by rw [← hx]; simp [Dr.put, Dr.n])
          clear hput hw5 hx hmc hml hfm m3 hM4 HM4 HO4 HMB
          have HMVX : Hid (x.mv.length = d.n) := Lib.hid (by rw [HMX.out.mv, HXN.out])
          have m3 : w5.cell? ⟨M, 3, none⟩ = Option.some (.slice (some ⟨mg, 0, none⟩) d.n sm.c) := by rw [HM5.out.cell 3, ← HMVX.out, ← HMA2.out]; exact congrArg some (oe_slice HM5.out.mov)
          have hM5 := HM5.out.lt
          have M3 := Lib.hid m3
          go_wp2_with fail
          go_loopw [10] (fun s wr => ScRel w5 x s wr) (fun s _ => d.n - (intOf s).toNat)
          case atStart => exact ⟨0, Nat.zero_le _, rfl, fun j hj => absurd hj (Nat.not_lt_zero _), Below.refl _ _⟩
          case round =>
            clear m3
            obtain ⟨i, hi, rfl, hal, hb⟩ := hrel
            rw [HXN.out] at hi
            have HAL := Lib.hid hal
            have HBS := Lib.hid hb
            have m3 := (hb.cell (p := ⟨M, 3, none⟩) hM5).trans M3.out
            have hMs := Nat.lt_of_lt_of_le hM5 hb.size
            clear hal
            by_cases hin : i < d.n
            · obtain ⟨b, hbk⟩ : ∃ b, x.mv[i]? = some b := ⟨_, List.getElem?_eq_getElem (show i < x.mv.length by rw [HMVX.out]; exact hin)⟩
              obtain ⟨mg', hma', _, _, hml, _, hmc, _⟩ := HM5.out.mov.cell1 bc1 hbk
              obtain rfl : mg = mg' := by rw [HMA2.out] at hma'; simpa using hma'
              have hmcr := (hb.cell (p := ⟨mg, i, none⟩) hml).trans hmc
              have i3 : (0 : Int) ≤ (i : Int) := by omega
              have i4 : (i : Int) < (d.n : Int) := by omega
              have HBK := Lib.hid hbk
              clear hbk hma' hmc hb
              cases b
              · have HFL : Hid (x.fin = x) := Lib.hid (by
                  unfold Dr.fin
                  rw [if_neg]
                  intro hf
                  have h := (full_iff HMX.out).1 hf i (by rw [HXN.out]; exact hin)
                  unfold Dr.mvd at h
                  rw [getD_lt HBK.out] at h
                  cases h)
                go_wp2_with fail
                go_returns
                rw [E0.out, GOT.out, STP.out, HX.out, HFL.out]
                exact ⟨S2, rfl, ⟨sf, sl, st, sm, fl, vss2, HM5.out.below HBS.out⟩, HSN2.out, HSS2.out, HO5.out.grow HBS.out⟩
              · go_wp2_with fail
                go_roundw
                case rel => exact ⟨i + 1, by rw [HXN.out]; omega, by go_num, fun j hj => by
                  rcases Nat.lt_or_ge j i with h | h
                  · exact HAL.out j h
                  · obtain rfl : j = i := by omega
                    exact getD_lt HBK.out, HBS.out⟩
                case measure => simp [intOf]; omega
            · obtain rfl : d.n = i := by omega
              have HFULL : Hid (x.full = true) := Lib.hid ((full_iff HMX.out).2 (fun p hp => HAL.out p (by rw [HXN.out] at hp; exact hp)))
              clear hb m3 hMs hin hi
              obtain ⟨w6, rfl⟩ : ∃ W, W = wr := ⟨_, rfl⟩
              have HM6 := Lib.hid (HM5.out.below HBS.out)
              have HO6 := Lib.hid (HO5.out.grow HBS.out)
              clear HAL HBS HM5 HO5 M3 hM5
              have hov : x.over = false := by
                have := HMX.out.rd
                unfold Dr.over
                simp
                omega
              obtain ⟨fvs, hv1, hvl, hvo⟩ := HM6.out.fval hov
              rw [HXN.out] at hvl
              obtain ⟨lvs, hfl, hsl⟩ := HM6.out.fln hov
              subst hfl
              obtain ⟨s0, hs0⟩ : ∃ s, fvs[0]? = some s := ⟨_, List.getElem?_eq_getElem (show 0 < fvs.length by omega)⟩
              obtain ⟨fg2, hfa, hfn, hfgl, hfb, _⟩ := row_cell hvo hvl hs0
              have M0 : Hid (w6.cell? ⟨M, 0, none⟩ = Option.some (.slice (some ⟨fg2, 0, none⟩) d.n sf.c)) := Lib.hid (by rw [HM6.out.cell 0, ← hfa, ← hfn]; rfl)
              have M4 : Hid (w6.cell? ⟨M, 4, none⟩ = Option.some (.int .i64 x.rd)) := Lib.hid (HM6.out.cell 4)
              have HFV := Lib.hid hv1
              have HFL := Lib.hid hvl
              have HSL := Lib.hid hsl
              have HOV := Lib.hid hov
              have HFC : Hid (∀ i s, fvs[i]? = some s → w6.cell? ⟨fg2, i, none⟩ = Option.some (.slice s.a s.n s.c)) := Lib.hid (fun i s h => by
                obtain ⟨g, ha, _, _, _, hc⟩ := row_cell hvo hvl h
                obtain rfl : fg2 = g := by rw [hfa] at ha; simpa using ha
                exact hc)
              have hM6 := HM6.out.lt
              have HZ := Lib.hid (made_ow (f := vc) (d := Sl.nil) (z := .slice none 0 0) (fun _ => rfl) rfl w6 32 d.n (by omega))
              have hmk := fun w => run_make_row' (P := Try.prog) 30 32 (.slice none 0 0) 24 Try.underlying30 (by kernel_rfl) rfl .i64 .i64 d.n (by omega) (by omega) w
              clear hov hv1 hvl hvo hsl hs0 hfa hfn hfb
              go_wp2_with fail
              go_loopw [12] (fun s wr => NxRel w6 d.n fvs x.rd s wr) (fun s _ => d.n - (intOf s).toNat)
              case atStart => exact ⟨0, List.replicate d.n Sl.nil, Nat.zero_le _, List.length_replicate, rfl, HZ.out, fun i' s' h => absurd h (Nat.not_lt_zero _), (Below.refl _ _).alloc (Nat.le_refl _) _⟩
              case round =>
                clear hmk HZ
                obtain ⟨i, nv, hi, hnvl, rfl, hnv, hnx, hb⟩ := hrel
                have HNVO := Lib.hid hnv
                have HNVL := Lib.hid hnvl
                have HNX := Lib.hid hnx
                have HBR := Lib.hid hb
                have hgr : w6.heap.size < wr.heap.size := (hnv.typ _ rfl).2.1
                have hMr := Nat.lt_of_lt_of_le hM6 hb.size
                have HGT2 : Hid (Ty wr (some w6.heap.size) 32) := Lib.hid (fun b hb => by cases hb; exact (HNVO.out.typ _ rfl).2.2)
                clear hnv hnx
                by_cases hin : i < d.n
                · obtain ⟨sv, hsv⟩ : ∃ s, fvs[i]? = some s := ⟨_, List.getElem?_eq_getElem (show i < fvs.length by rw [HFL.out]; exact hin)⟩
                  obtain ⟨t, ht⟩ : ∃ t, to' d.n x.rd i = t := ⟨_, rfl⟩
                  have htn : t < d.n := by rw [← ht]; exact to_lt hn2
                  obtain ⟨ov, hov⟩ : ∃ s, nv[t]? = some s := ⟨_, List.getElem?_eq_getElem (show t < nv.length by rw [hnvl]; exact htn)⟩
                  have e_t : wr.cell? ⟨w6.heap.size, t, none⟩ = Option.some (.slice ov.a ov.n ov.c) := HNVO.out.cell1 vc1 hov
                  have e_fr := (hb.cell (p := ⟨fg2, i, none⟩) hfgl).trans (HFC.out i sv hsv)
                  have hfr := Nat.lt_of_lt_of_le hfgl hb.size
                  have m0r := (hb.cell (p := ⟨M, 0, none⟩) hM6).trans M0.out
                  have m4r := (hb.cell (p := ⟨M, 4, none⟩) hM6).trans M4.out
                  have HNXT : Hid (∀ i' s', i' < i + 1 → fvs[i']? = some s' → (nv.set t sv)[to' d.n x.rd i']? = some s') := Lib.hid (fun i' s' h1 h2 => by
                    rcases Nat.lt_or_ge i' i with h | h
                    · rw [List.getElem?_set_ne (by intro e; rw [← ht] at e; have := to_inj hn2 hn8 hin (by omega) e; omega)]
                      exact HNX.out i' s' h h2
                    · obtain rfl : i' = i := by omega
                      rw [hsv] at h2
                      cases h2
                      rw [ht, List.getElem?_set_self (by rw [hnvl]; exact htn)])
                  have i3 : (0 : Int) ≤ (i : Int) := by omega
                  have i4 : (i : Int) < (d.n : Int) := by omega
                  have i5 : (0 : Int) ≤ (t : Int) := by omega
                  have i6 : (t : Int) < (d.n : Int) := by omega
                  by_cases hpar : x.rd % 2 = 0
                  · have e1 : (x.rd : Int).tmod 2 = 0 := by rw [Int.tmod_eq_emod_of_nonneg (by omega)]; omega
                    have e2 : ((i : Int) + 1).tmod (d.n : Int) = (t : Int) := by
                      unfold to' at ht
                      rw [if_pos hpar] at ht
                      rw [show (i : Int) + 1 = ((i + 1 : Nat) : Int) by omega, ← ht]
                      exact (Int.tmod_eq_emod_of_nonneg (by omega)).trans (Int.natCast_emod _ _).symm
                    clear hsv hov hnvl ht hpar hb
                    go_wp2_with fail
                    refine rg16_24 (w0 := wr) (B := wr.heap.size) (n := wr.heap.size) (L := []) (E := fun _ => True) (F := fun _ => True) (by kernel_rfl) (by kernel_rfl) ⟨by go_grown, by go_size, (by simp [go_sem] <;> omega)⟩ trivial (fun _ _ _ _ => trivial) trivial (fun _ _ _ _ => trivial) (fun w61 K_w61 E_w61 F_w61 => ?_)
                    have _ne : Nonempty (KX (wr.heap.size) wr (wr.heap.size) [] (fun _ => True)) := ⟨⟨_, K_w61, E_w61⟩⟩
                    repeat (go_big_quiet_step (fail))
                    refine wpQuiet_nil ?_
                    have rx0 : ∀ s : KX (wr.heap.size) wr (wr.heap.size) [] (fun _ => True), s.val.cell? ⟨M, 0, none⟩ = some (.slice (some ⟨fg2, 0, none⟩) d.n sf.c) := fun s => (s.kept.below.cell (p := ⟨M, 0, none⟩) hMr).trans m0r
                    have rx1 : ∀ s : KX (wr.heap.size) wr (wr.heap.size) [] (fun _ => True), s.val.cell? ⟨fg2, i, none⟩ = some (.slice sv.a sv.n sv.c) := fun s => (s.kept.below.cell (p := ⟨fg2, i, none⟩) hfr).trans e_fr
                    repeat (go_big_quiet_step (fail))
                    refine wpQuiet_nil ?_
                    clear rx0 rx1
                    repeat (go_big_quiet_step (fail))
                    refine wpQuiet_nil ?_
                    have rx0 : ∀ s : KX (wr.heap.size) wr (wr.heap.size) [] (fun _ => True), s.val.cell? ⟨M, 0, none⟩ = some (.slice (some ⟨fg2, 0, none⟩) d.n sf.c) := fun s => (s.kept.below.cell (p := ⟨M, 0, none⟩) hMr).trans m0r
                    have rx1 : ∀ s : KX (wr.heap.size) wr (wr.heap.size) [] (fun _ => True), s.val.cell? ⟨fg2, i, none⟩ = some (.slice sv.a sv.n sv.c) := fun s => (s.kept.below.cell (p := ⟨fg2, i, none⟩) hfr).trans e_fr
                    repeat (go_big_quiet_step (fail))
                    refine wpQuiet_nil ?_
                    clear rx0 rx1
                    repeat (go_big_quiet_step (fail))
                    refine wpQuiet_nil ?_
                    have KH_w61 := Lib.hid K_w61
                    have hw_w61 := K_w61.below
                    have hz_w61 := K_w61.size
                    clear K_w61
                    clear E_w61 F_w61
                    refine ⟨fun K hK0 => ?_, trivial⟩
                    have hK := Lib.hid hK0
                    clear hK0
                    have hct : w61.cell? ⟨w6.heap.size, t, none⟩ = Option.some (.slice ov.a ov.n ov.c) := (hw_w61.cell (p := ⟨w6.heap.size, t, none⟩) hgr).trans e_t
                    have hft : w61.frozen? ⟨w6.heap.size, t, none⟩ = false := ty_frozen (Ty.onl (S := []) HGT2.out (.of hw_w61) (by simp) hgr) _
                    have HNV : Hid (Ow vc 1 32 (w61.setCell ⟨w6.heap.size, t, none⟩ (.slice sv.a sv.n sv.c)) w6.heap.size (.slice (some ⟨w6.heap.size, 0, none⟩) d.n d.n) (nv.set t sv)) := Lib.hid ((HNVO.out.below hw_w61).set1 (fun _ => rfl) HNVL.out.symm t sv _ rfl)
                    have HBN : Hid (Below w6.heap.size w6 (w61.setCell ⟨w6.heap.size, t, none⟩ (.slice sv.a sv.n sv.c))) := Lib.hid ((below_via HBR.out hw_w61).setCell (Nat.le_refl _) _)
                    go_wp2_with fail
                    first | (refine ⟨rfl, hK.out _ _ ?_⟩; clear hK K) | (refine hK.out _ _ ?_; clear hK K)
                    clear _ne
                    go_wp2_with fail
                    go_roundw
                    case rel => exact ⟨i + 1, nv.set t sv, by omega, by rw [List.length_set]; exact HNVL.out, by go_num, HNV.out, fun i' s' hi' hs' => HNXT.out i' s' hi' hs', HBN.out⟩
                    case measure => simp [intOf]; omega
                  · have e1 : (x.rd : Int).tmod 2 = 1 := by rw [Int.tmod_eq_emod_of_nonneg (by omega)]; omega
                    have e2 : ((i : Int) + (d.n : Int) - 1).tmod (d.n : Int) = (t : Int) := by
                      unfold to' at ht
                      rw [if_neg hpar] at ht
                      rw [show (i : Int) + (d.n : Int) - 1 = ((i + d.n - 1 : Nat) : Int) by omega, ← ht]
                      exact (Int.tmod_eq_emod_of_nonneg (by omega)).trans (Int.natCast_emod _ _).symm
                    clear hsv hov hnvl ht hpar hb
                    go_wp2_with fail
                    refine rg16_25 (w0 := wr) (B := wr.heap.size) (n := wr.heap.size) (L := []) (E := fun _ => True) (F := fun _ => True) (by kernel_rfl) (by kernel_rfl) ⟨by go_grown, by go_size, (by simp [go_sem] <;> omega)⟩ trivial (fun _ _ _ _ => trivial) trivial (fun _ _ _ _ => trivial) (fun w61 K_w61 E_w61 F_w61 => ?_)
                    have _ne : Nonempty (KX (wr.heap.size) wr (wr.heap.size) [] (fun _ => True)) := ⟨⟨_, K_w61, E_w61⟩⟩
                    repeat (go_big_quiet_step (fail))
                    refine wpQuiet_nil ?_
                    have rx0 : ∀ s : KX (wr.heap.size) wr (wr.heap.size) [] (fun _ => True), s.val.cell? ⟨M, 0, none⟩ = some (.slice (some ⟨fg2, 0, none⟩) d.n sf.c) := fun s => (s.kept.below.cell (p := ⟨M, 0, none⟩) hMr).trans m0r
                    have rx1 : ∀ s : KX (wr.heap.size) wr (wr.heap.size) [] (fun _ => True), s.val.cell? ⟨fg2, i, none⟩ = some (.slice sv.a sv.n sv.c) := fun s => (s.kept.below.cell (p := ⟨fg2, i, none⟩) hfr).trans e_fr
                    repeat (go_big_quiet_step (fail))
                    refine wpQuiet_nil ?_
                    clear rx0 rx1
                    repeat (go_big_quiet_step (fail))
                    refine wpQuiet_nil ?_
                    have rx0 : ∀ s : KX (wr.heap.size) wr (wr.heap.size) [] (fun _ => True), s.val.cell? ⟨M, 0, none⟩ = some (.slice (some ⟨fg2, 0, none⟩) d.n sf.c) := fun s => (s.kept.below.cell (p := ⟨M, 0, none⟩) hMr).trans m0r
                    have rx1 : ∀ s : KX (wr.heap.size) wr (wr.heap.size) [] (fun _ => True), s.val.cell? ⟨fg2, i, none⟩ = some (.slice sv.a sv.n sv.c) := fun s => (s.kept.below.cell (p := ⟨fg2, i, none⟩) hfr).trans e_fr
                    repeat (go_big_quiet_step (fail))
                    refine wpQuiet_nil ?_
                    clear rx0 rx1
                    repeat (go_big_quiet_step (fail))
                    refine wpQuiet_nil ?_
                    have KH_w61 := Lib.hid K_w61
                    have hw_w61 := K_w61.below
                    have hz_w61 := K_w61.size
                    clear K_w61
                    clear E_w61 F_w61
                    refine ⟨fun K hK0 => ?_, trivial⟩
                    have hK := Lib.hid hK0
                    clear hK0
                    have hct : w61.cell? ⟨w6.heap.size, t, none⟩ = Option.some (.slice ov.a ov.n ov.c) := (hw_w61.cell (p := ⟨w6.heap.size, t, none⟩) hgr).trans e_t
                    have hft : w61.frozen? ⟨w6.heap.size, t, none⟩ = false := ty_frozen (Ty.onl (S := []) HGT2.out (.of hw_w61) (by simp) hgr) _
                    have HNV : Hid (Ow vc 1 32 (w61.setCell ⟨w6.heap.size, t, none⟩ (.slice sv.a sv.n sv.c)) w6.heap.size (.slice (some ⟨w6.heap.size, 0, none⟩) d.n d.n) (nv.set t sv)) := Lib.hid ((HNVO.out.below hw_w61).set1 (fun _ => rfl) HNVL.out.symm t sv _ rfl)
                    have HBN : Hid (Below w6.heap.size w6 (w61.setCell ⟨w6.heap.size, t, none⟩ (.slice sv.a sv.n sv.c))) := Lib.hid ((below_via HBR.out hw_w61).setCell (Nat.le_refl _) _)
                    go_wp2_with fail
                    first | (refine ⟨rfl, hK.out _ _ ?_⟩; clear hK K) | (refine hK.out _ _ ?_; clear hK K)
                    clear _ne
                    go_wp2_with fail
                    go_roundw
                    case rel => exact ⟨i + 1, nv.set t sv, by omega, by rw [List.length_set]; exact HNVL.out, by go_num, HNV.out, fun i' s' hi' hs' => HNXT.out i' s' hi' hs', HBN.out⟩
                    case measure => simp [intOf]; omega
                · obtain rfl : d.n = i := by omega
                  clear hi hin hMr hgr
                  obtain ⟨w7, rfl⟩ : ∃ W, W = wr := ⟨_, rfl⟩
                  have HB7 := Lib.hid hb
                  have HNVL7 := Lib.hid hnvl
                  have HNX7 : Hid (∀ i' s', i' < d.n → fvs[i']? = some s' → nv[to' d.n x.rd i']? = some s') := HNX
                  have HNF7 : Hid (Oe vc 32 w7 (.slice (some ⟨w6.heap.size, 0, none⟩) d.n d.n) nv) := Lib.hid (Oe.of_ow HNVO.out)
                  have HP7 : Hid (w7.heap[M]? = Option.some (.cells #[sf.v, sl.v, st.v, sm.v, .int .i64 x.rd, .int .i64 x.tn, .bool false] 39 (0, 0))) := Lib.hid (by rw [hb.block M hM6, HM6.out.hp, HOV.out])
                  have HSZ7 : Hid (w7.heap.size ≤ w7.heap.size) := Lib.hid (Nat.le_refl _)
                  have hmk5 := fun w => run_make_row' (P := Try.prog) 37 4 (.bool false) 1 Try.underlying37 (by kernel_rfl) rfl .i64 .i64 d.n (by omega) (by omega) w
                  have htnx := HMX.out.tn
                  have hc15 := HMX.out.c15
                  clear hb hnvl HNVO HNVL HNX HBR HGT2
                  go_upto_region 26 with fail
                  go_cut [] (fun wx => TurnM w6 B S2 M ⟨x.rs, x.tk, List.replicate x.mv.length false, x.rd, x.tn + 1⟩ ⟨some ⟨w6.heap.size, 0, none⟩, d.n, d.n⟩ sl st lvs (vss2.set 1 nv) wx)
                  case first =>
                    refine rg16_26 (w0 := w7) (B := 0) (n := w7.heap.size) (L := []) (E := fun W => Onl [M] w6 W ∧ ∃ v0, W.heap[M]? = Option.some (.cells #[v0, sl.v, st.v, sm.v, .int .i64 x.rd, .int .i64 x.tn, .bool false] 39 (0, 0))) (F := fun W => Below w7.heap.size w7 W) (by kernel_rfl) (by kernel_rfl) ⟨by go_grown, by go_size, (by simp [go_sem] <;> omega)⟩ ⟨.of HB7.out, _, HP7.out⟩ (fun _ _ h hb => kx26e h hb) (Below.refl _ _) (fun _ _ h hb => h.trans (hb.mono h.size)) (fun w71 K_w71 E_w71 F_w71 => ?_)
                    have _ne : Nonempty (KX (0) w7 (w7.heap.size) [] (fun W => Onl [M] w6 W ∧ ∃ v0, W.heap[M]? = Option.some (.cells #[v0, sl.v, st.v, sm.v, .int .i64 x.rd, .int .i64 x.tn, .bool false] 39 (0, 0)))) := ⟨⟨_, K_w71, E_w71⟩⟩
                    repeat (go_big_quiet_step (fail))
                    refine wpQuiet_nil ?_
                    have rx0 : ∀ s : KX (0) w7 (w7.heap.size) [] (fun W => Onl [M] w6 W ∧ ∃ v0, W.heap[M]? = Option.some (.cells #[v0, sl.v, st.v, sm.v, .int .i64 x.rd, .int .i64 x.tn, .bool false] 39 (0, 0))), s.val.cell? ⟨M, 5, none⟩ = some (.int .i64 x.tn) := fun s => (kx26 s.ex)
                    repeat (go_big_quiet_step (fail))
                    refine wpQuiet_nil ?_
                    clear rx0
                    repeat (go_big_quiet_step (fail))
                    refine wpQuiet_nil ?_
                    have KH_w71 := Lib.hid K_w71
                    have hw_w71 := K_w71.below
                    have hz_w71 := K_w71.size
                    clear K_w71
                    have HEO := Lib.hid E_w71
                    have HFB := Lib.hid (F_w71)
                    clear E_w71 F_w71
                    refine ⟨fun K hK0 => ?_, fun K hK0 => ?_, trivial⟩
                    · skip
                      have hK := Lib.hid hK0
                      clear hK0
                      have HP_w71 : Hid (w71.heap[M]? = Option.some (.cells #[sf.v, sl.v, st.v, sm.v, .int .i64 x.rd, .int .i64 x.tn, .bool false] 39 (0, 0))) := Lib.hid ((HFB.out.block M (Array.getElem?_eq_some_iff.1 HP7.out).1).trans HP7.out)
                      have HON_w71 := Lib.hid HEO.out.1
                      have HNF_w71 := Lib.hid (HNF7.out.below HFB.out)
                      go_wp2_with fail
                      obtain ⟨w72, hW⟩ : ∃ W, W = w71.alloc (.cells (madeCells #[.bool false] d.n) 4) := ⟨_, rfl⟩
                      have hbn : Below w71.heap.size w71 w72 := by rw [hW]; exact (Below.refl _ _).alloc (Nat.le_refl _) _
                      have hnew := made_ow (f := bc) (d := false) (z := .bool false) (fun _ => rfl) rfl w71 4 d.n (by omega)
                      rw [← hW] at hnew ⊢
                      obtain ⟨gm, hg⟩ : ∃ g, g = w71.heap.size := ⟨_, rfl⟩
                      rw [← hg] at hnew ⊢
                      have HGM : Hid (w6.heap.size ≤ gm) := Lib.hid (by rw [hg]; exact HON_w71.out.size)
                      have HON_w72 := Lib.hid (HON_w71.out.grow hbn)
                      have HP_w72 : Hid (w72.heap[M]? = Option.some (.cells #[sf.v, sl.v, st.v, sm.v, .int .i64 x.rd, .int .i64 x.tn, .bool false] 39 (0, 0))) := Lib.hid ((hbn.block M (Array.getElem?_eq_some_iff.1 HP_w71.out).1).trans HP_w71.out)
                      have HNF_w72 := Lib.hid (HNF_w71.out.below hbn)
                      have HMW_w72 : Hid (Oe bc 4 w72 (.slice (some ⟨gm, 0, none⟩) d.n d.n) (List.replicate d.n false)) := Lib.hid (Oe.of_ow hnew)
                      have KH_w72 := Lib.hid (KH_w71.out.step (by have := HSZ7.out; have := HON_w71.out.size; omega) hbn)
                      clear hnew hg hW hbn
                      first | (refine ⟨rfl, ⟨⟨_, KH_w72.out, HON_w72.out, _, HP_w72.out⟩, rfl⟩, hK.out _ _ ?_⟩; clear hK K) | (refine ⟨⟨⟨_, KH_w72.out, HON_w72.out, _, HP_w72.out⟩, rfl⟩, hK.out _ _ ?_⟩; clear hK K)
                      refine ⟨fun K hK0 => ?_, trivial⟩
                      have hK := Lib.hid hK0
                      clear hK0
                      have hc0 : w72.cell? ⟨M, 0, none⟩ = Option.some (.slice sf.a sf.n sf.c) := cell_of_row w72 M 0 _ 39 (0, 0) HP_w72.out
                      have hf0 : w72.frozen? ⟨M, 0, none⟩ = false := frozen_of_row w72 M 0 _ 39 HP_w72.out
                      have hl0 : M < w72.heap.size := (Array.getElem?_eq_some_iff.1 HP_w72.out).1
                      go_wp2_with fail
                      obtain ⟨w73, hW⟩ : ∃ W, W = w72.setCell ⟨M, 0, none⟩ (.slice (some ⟨w6.heap.size, 0, none⟩) d.n d.n) := ⟨_, rfl⟩
                      have hoM : Onl [M] w72 w73 := by rw [hW]; exact (Onl.refl _ _).setCell (.inl (by simp)) _
                      have tyM : Ty w72 (some M) 39 := fun b hb => by cases hb; exact ⟨_, HP_w72.out⟩
                      have HP_w73 : Hid (w73.heap[M]? = Option.some (.cells #[.slice (some ⟨w6.heap.size, 0, none⟩) d.n d.n, sl.v, st.v, sm.v, .int .i64 x.rd, .int .i64 x.tn, .bool false] 39 (0, 0))) := Lib.hid (by rw [hW, heap_setCell_same w72 M 0 _ 39 _ HP_w72.out]; rfl)
                      rw [← hW]
                      have HON_w73 := Lib.hid (HON_w72.out.trans hoM)
                      have HNF_w73 := Lib.hid (HNF_w72.out.onlT hoM tyM (by decide))
                      have HMW_w73 := Lib.hid (HMW_w72.out.onlT hoM tyM (by decide))
                      have KH_w73 := Lib.hid (KH_w72.out.onl hoM (Nat.zero_le _) (fun _ _ => Nat.zero_le _) (by simp))
                      clear hW hoM tyM hc0 hf0 hl0
                      first | (refine ⟨rfl, hK.out _ _ ?_⟩; clear hK K) | (refine hK.out _ _ ?_; clear hK K)
                      repeat (go_big_quiet_step (fail))
                      refine wpQuiet_nil ?_
                      refine ⟨fun K hK0 => ?_, trivial⟩
                      have hK := Lib.hid hK0
                      clear hK0
                      have hc3 : w73.cell? ⟨M, 3, none⟩ = Option.some (.slice sm.a sm.n sm.c) := cell_of_row w73 M 3 _ 39 (0, 0) HP_w73.out
                      have hf3 : w73.frozen? ⟨M, 3, none⟩ = false := frozen_of_row w73 M 3 _ 39 HP_w73.out
                      have hl3 : M < w73.heap.size := (Array.getElem?_eq_some_iff.1 HP_w73.out).1
                      go_wp2_with fail
                      obtain ⟨w74, hW⟩ : ∃ W, W = w73.setCell ⟨M, 3, none⟩ (.slice (some ⟨gm, 0, none⟩) d.n d.n) := ⟨_, rfl⟩
                      have hoM : Onl [M] w73 w74 := by rw [hW]; exact (Onl.refl _ _).setCell (.inl (by simp)) _
                      have tyM : Ty w73 (some M) 39 := fun b hb => by cases hb; exact ⟨_, HP_w73.out⟩
                      have HP_w74 : Hid (w74.heap[M]? = Option.some (.cells #[.slice (some ⟨w6.heap.size, 0, none⟩) d.n d.n, sl.v, st.v, .slice (some ⟨gm, 0, none⟩) d.n d.n, .int .i64 x.rd, .int .i64 x.tn, .bool false] 39 (0, 0))) := Lib.hid (by rw [hW, heap_setCell_same w73 M 3 _ 39 _ HP_w73.out]; rfl)
                      rw [← hW]
                      have HON_w74 := Lib.hid (HON_w73.out.trans hoM)
                      have HNF_w74 := Lib.hid (HNF_w73.out.onlT hoM tyM (by decide))
                      have HMW_w74 := Lib.hid (HMW_w73.out.onlT hoM tyM (by decide))
                      have KH_w74 := Lib.hid (KH_w73.out.onl hoM (Nat.zero_le _) (fun _ _ => Nat.zero_le _) (by simp))
                      clear hW hoM tyM hc3 hf3 hl3
                      first | (refine ⟨rfl, hK.out _ _ ?_⟩; clear hK K) | (refine hK.out _ _ ?_; clear hK K)
                      repeat (go_big_quiet_step (fail))
                      refine wpQuiet_nil ?_
                      refine ⟨fun K hK0 => ?_, trivial⟩
                      have hK := Lib.hid hK0
                      clear hK0
                      have hc5 : w74.cell? ⟨M, 5, none⟩ = Option.some (.int .i64 x.tn) := cell_of_row w74 M 5 _ 39 (0, 0) HP_w74.out
                      have hf5 : w74.frozen? ⟨M, 5, none⟩ = false := frozen_of_row w74 M 5 _ 39 HP_w74.out
                      have hl5 : M < w74.heap.size := (Array.getElem?_eq_some_iff.1 HP_w74.out).1
                      go_wp2_with fail
                      obtain ⟨w75, hW⟩ : ∃ W, W = w74.setCell ⟨M, 5, none⟩ (.int .i64 ((x.tn : Int) + 1)) := ⟨_, rfl⟩
                      have hoM : Onl [M] w74 w75 := by rw [hW]; exact (Onl.refl _ _).setCell (.inl (by simp)) _
                      have tyM : Ty w74 (some M) 39 := fun b hb => by cases hb; exact ⟨_, HP_w74.out⟩
                      have HP_w75 : Hid (w75.heap[M]? = Option.some (.cells #[.slice (some ⟨w6.heap.size, 0, none⟩) d.n d.n, sl.v, st.v, .slice (some ⟨gm, 0, none⟩) d.n d.n, .int .i64 x.rd, .int .i64 ((x.tn + 1 : Nat) : Int), .bool false] 39 (0, 0))) := Lib.hid (by rw [hW, heap_setCell_same w74 M 5 _ 39 _ HP_w74.out]; rfl)
                      rw [← hW]
                      have HON_w75 := Lib.hid (HON_w74.out.trans hoM)
                      have HNF_w75 := Lib.hid (HNF_w74.out.onlT hoM tyM (by decide))
                      have HMW_w75 := Lib.hid (HMW_w74.out.onlT hoM tyM (by decide))
                      have KH_w75 := Lib.hid (KH_w74.out.onl hoM (Nat.zero_le _) (fun _ _ => Nat.zero_le _) (by simp))
                      clear hW hoM tyM hc5 hf5 hl5
                      first | (refine ⟨rfl, hK.out _ _ ?_⟩; clear hK K) | (refine hK.out _ _ ?_; clear hK K)
                      clear _ne
                      go_wp2_with fail
                      go_meet
                      case rel => exact ⟨_, _, HM6.out.turn (S' := S2 ++ [w6.heap.size, gm]) (nf := ⟨some ⟨w6.heap.size, 0, none⟩, d.n, d.n⟩) (sm' := ⟨some ⟨gm, 0, none⟩, d.n, d.n⟩) HMX.out HSL.out HON_w75.out HFV.out HNF_w75.out (by rw [HXN.out]; exact HNVL7.out) (fun i s hi hs => by rw [HXN.out] at hi ⊢; exact HNX7.out i s hi hs) (fun b hb => by have := blk_own hb; simp [Sl.v, Value.ownBlock] at this; omega) (by rw [HMVX.out]; exact HMW_w75.out) HP_w75.out (fun b hb => List.mem_append_left _ hb) (fun b hb => by have := blk_own hb; simp [Sl.v, Value.ownBlock] at this; rw [← this]; simp) (fun b hb => by have := blk_own hb; simp [Sl.v, Value.ownBlock] at this; rw [← this]; simp) (fun b hb => by
                        rcases List.mem_append.1 hb with h | h
                        · exact .inl h
                        · right
                          simp at h
                          rcases h with rfl | rfl
                          · exact ⟨Nat.le_refl _, HNF_w75.out.lt rfl⟩
                          · exact ⟨HGM.out, HMW_w75.out.lt rfl⟩), fun b hb => by
                        rcases List.mem_append.1 hb with h | h
                        · exact .inl h
                        · right
                          simp at h
                          rcases h with rfl | rfl
                          · exact Nat.le_refl _
                          · exact HGM.out, fun b hb => List.mem_append_left _ hb, HON_w75.out.less (fun b hb => .inl (by simp at hb; rw [hb]; exact HM6.out.inM))⟩
                    · skip
                      have hK := Lib.hid hK0
                      clear hK0
                      have HP_w71 : Hid (w71.heap[M]? = Option.some (.cells #[sf.v, sl.v, st.v, sm.v, .int .i64 x.rd, .int .i64 x.tn, .bool false] 39 (0, 0))) := Lib.hid ((HFB.out.block M (Array.getElem?_eq_some_iff.1 HP7.out).1).trans HP7.out)
                      have HON_w71 := Lib.hid HEO.out.1
                      have HNF_w71 := Lib.hid (HNF7.out.below HFB.out)
                      have hc0 : w71.cell? ⟨M, 0, none⟩ = Option.some (.slice sf.a sf.n sf.c) := cell_of_row w71 M 0 _ 39 (0, 0) HP_w71.out
                      have hf0 : w71.frozen? ⟨M, 0, none⟩ = false := frozen_of_row w71 M 0 _ 39 HP_w71.out
                      have hl0 : M < w71.heap.size := (Array.getElem?_eq_some_iff.1 HP_w71.out).1
                      go_wp2_with fail
                      obtain ⟨w72, hW⟩ : ∃ W, W = w71.setCell ⟨M, 0, none⟩ (.slice (some ⟨w6.heap.size, 0, none⟩) d.n d.n) := ⟨_, rfl⟩
                      have hoM : Onl [M] w71 w72 := by rw [hW]; exact (Onl.refl _ _).setCell (.inl (by simp)) _
                      have tyM : Ty w71 (some M) 39 := fun b hb => by cases hb; exact ⟨_, HP_w71.out⟩
                      have HP_w72 : Hid (w72.heap[M]? = Option.some (.cells #[.slice (some ⟨w6.heap.size, 0, none⟩) d.n d.n, sl.v, st.v, sm.v, .int .i64 x.rd, .int .i64 x.tn, .bool false] 39 (0, 0))) := Lib.hid (by rw [hW, heap_setCell_same w71 M 0 _ 39 _ HP_w71.out]; rfl)
                      rw [← hW]
                      have HON_w72 := Lib.hid (HON_w71.out.trans hoM)
                      have HNF_w72 := Lib.hid (HNF_w71.out.onlT hoM tyM (by decide))
                      skip
                      have KH_w72 := Lib.hid (KH_w71.out.onl hoM (Nat.zero_le _) (fun _ _ => Nat.zero_le _) (by simp))
                      clear hW hoM tyM hc0 hf0 hl0
                      first | (refine ⟨rfl, hK.out _ _ ?_⟩; clear hK K) | (refine hK.out _ _ ?_; clear hK K)
                      refine ⟨fun K hK0 => ?_, trivial⟩
                      have hK := Lib.hid hK0
                      clear hK0
                      go_wp2_with fail
                      obtain ⟨w73, hW⟩ : ∃ W, W = w72.alloc (.cells (madeCells #[.bool false] d.n) 4) := ⟨_, rfl⟩
                      have hbn : Below w72.heap.size w72 w73 := by rw [hW]; exact (Below.refl _ _).alloc (Nat.le_refl _) _
                      have hnew := made_ow (f := bc) (d := false) (z := .bool false) (fun _ => rfl) rfl w72 4 d.n (by omega)
                      rw [← hW] at hnew ⊢
                      obtain ⟨gm, hg⟩ : ∃ g, g = w72.heap.size := ⟨_, rfl⟩
                      rw [← hg] at hnew ⊢
                      have HGM : Hid (w6.heap.size ≤ gm) := Lib.hid (by rw [hg]; exact HON_w72.out.size)
                      have HON_w73 := Lib.hid (HON_w72.out.grow hbn)
                      have HP_w73 : Hid (w73.heap[M]? = Option.some (.cells #[.slice (some ⟨w6.heap.size, 0, none⟩) d.n d.n, sl.v, st.v, sm.v, .int .i64 x.rd, .int .i64 x.tn, .bool false] 39 (0, 0))) := Lib.hid ((hbn.block M (Array.getElem?_eq_some_iff.1 HP_w72.out).1).trans HP_w72.out)
                      have HNF_w73 := Lib.hid (HNF_w72.out.below hbn)
                      have HMW_w73 : Hid (Oe bc 4 w73 (.slice (some ⟨gm, 0, none⟩) d.n d.n) (List.replicate d.n false)) := Lib.hid (Oe.of_ow hnew)
                      have KH_w73 := Lib.hid (KH_w72.out.step (by have := HSZ7.out; have := HON_w72.out.size; omega) hbn)
                      clear hnew hg hW hbn
                      first | (refine ⟨rfl, ⟨⟨_, KH_w73.out, HON_w73.out, _, HP_w73.out⟩, rfl⟩, hK.out _ _ ?_⟩; clear hK K) | (refine ⟨⟨⟨_, KH_w73.out, HON_w73.out, _, HP_w73.out⟩, rfl⟩, hK.out _ _ ?_⟩; clear hK K)
                      repeat (go_big_quiet_step (fail))
                      refine wpQuiet_nil ?_
                      refine ⟨fun K hK0 => ?_, trivial⟩
                      have hK := Lib.hid hK0
                      clear hK0
                      have hc3 : w73.cell? ⟨M, 3, none⟩ = Option.some (.slice sm.a sm.n sm.c) := cell_of_row w73 M 3 _ 39 (0, 0) HP_w73.out
                      have hf3 : w73.frozen? ⟨M, 3, none⟩ = false := frozen_of_row w73 M 3 _ 39 HP_w73.out
                      have hl3 : M < w73.heap.size := (Array.getElem?_eq_some_iff.1 HP_w73.out).1
                      go_wp2_with fail
                      obtain ⟨w74, hW⟩ : ∃ W, W = w73.setCell ⟨M, 3, none⟩ (.slice (some ⟨gm, 0, none⟩) d.n d.n) := ⟨_, rfl⟩
                      have hoM : Onl [M] w73 w74 := by rw [hW]; exact (Onl.refl _ _).setCell (.inl (by simp)) _
                      have tyM : Ty w73 (some M) 39 := fun b hb => by cases hb; exact ⟨_, HP_w73.out⟩
                      have HP_w74 : Hid (w74.heap[M]? = Option.some (.cells #[.slice (some ⟨w6.heap.size, 0, none⟩) d.n d.n, sl.v, st.v, .slice (some ⟨gm, 0, none⟩) d.n d.n, .int .i64 x.rd, .int .i64 x.tn, .bool false] 39 (0, 0))) := Lib.hid (by rw [hW, heap_setCell_same w73 M 3 _ 39 _ HP_w73.out]; rfl)
                      rw [← hW]
                      have HON_w74 := Lib.hid (HON_w73.out.trans hoM)
                      have HNF_w74 := Lib.hid (HNF_w73.out.onlT hoM tyM (by decide))
                      have HMW_w74 := Lib.hid (HMW_w73.out.onlT hoM tyM (by decide))
                      have KH_w74 := Lib.hid (KH_w73.out.onl hoM (Nat.zero_le _) (fun _ _ => Nat.zero_le _) (by simp))
                      clear hW hoM tyM hc3 hf3 hl3
                      first | (refine ⟨rfl, hK.out _ _ ?_⟩; clear hK K) | (refine hK.out _ _ ?_; clear hK K)
                      repeat (go_big_quiet_step (fail))
                      refine wpQuiet_nil ?_
                      refine ⟨fun K hK0 => ?_, trivial⟩
                      have hK := Lib.hid hK0
                      clear hK0
                      have hc5 : w74.cell? ⟨M, 5, none⟩ = Option.some (.int .i64 x.tn) := cell_of_row w74 M 5 _ 39 (0, 0) HP_w74.out
                      have hf5 : w74.frozen? ⟨M, 5, none⟩ = false := frozen_of_row w74 M 5 _ 39 HP_w74.out
                      have hl5 : M < w74.heap.size := (Array.getElem?_eq_some_iff.1 HP_w74.out).1
                      go_wp2_with fail
                      obtain ⟨w75, hW⟩ : ∃ W, W = w74.setCell ⟨M, 5, none⟩ (.int .i64 ((x.tn : Int) + 1)) := ⟨_, rfl⟩
                      have hoM : Onl [M] w74 w75 := by rw [hW]; exact (Onl.refl _ _).setCell (.inl (by simp)) _
                      have tyM : Ty w74 (some M) 39 := fun b hb => by cases hb; exact ⟨_, HP_w74.out⟩
                      have HP_w75 : Hid (w75.heap[M]? = Option.some (.cells #[.slice (some ⟨w6.heap.size, 0, none⟩) d.n d.n, sl.v, st.v, .slice (some ⟨gm, 0, none⟩) d.n d.n, .int .i64 x.rd, .int .i64 ((x.tn + 1 : Nat) : Int), .bool false] 39 (0, 0))) := Lib.hid (by rw [hW, heap_setCell_same w74 M 5 _ 39 _ HP_w74.out]; rfl)
                      rw [← hW]
                      have HON_w75 := Lib.hid (HON_w74.out.trans hoM)
                      have HNF_w75 := Lib.hid (HNF_w74.out.onlT hoM tyM (by decide))
                      have HMW_w75 := Lib.hid (HMW_w74.out.onlT hoM tyM (by decide))
                      have KH_w75 := Lib.hid (KH_w74.out.onl hoM (Nat.zero_le _) (fun _ _ => Nat.zero_le _) (by simp))
                      clear hW hoM tyM hc5 hf5 hl5
                      first | (refine ⟨rfl, hK.out _ _ ?_⟩; clear hK K) | (refine hK.out _ _ ?_; clear hK K)
                      clear _ne
                      go_wp2_with fail
                      go_meet
                      case rel => exact ⟨_, _, HM6.out.turn (S' := S2 ++ [w6.heap.size, gm]) (nf := ⟨some ⟨w6.heap.size, 0, none⟩, d.n, d.n⟩) (sm' := ⟨some ⟨gm, 0, none⟩, d.n, d.n⟩) HMX.out HSL.out HON_w75.out HFV.out HNF_w75.out (by rw [HXN.out]; exact HNVL7.out) (fun i s hi hs => by rw [HXN.out] at hi ⊢; exact HNX7.out i s hi hs) (fun b hb => by have := blk_own hb; simp [Sl.v, Value.ownBlock] at this; omega) (by rw [HMVX.out]; exact HMW_w75.out) HP_w75.out (fun b hb => List.mem_append_left _ hb) (fun b hb => by have := blk_own hb; simp [Sl.v, Value.ownBlock] at this; rw [← this]; simp) (fun b hb => by have := blk_own hb; simp [Sl.v, Value.ownBlock] at this; rw [← this]; simp) (fun b hb => by
                        rcases List.mem_append.1 hb with h | h
                        · exact .inl h
                        · right
                          simp at h
                          rcases h with rfl | rfl
                          · exact ⟨Nat.le_refl _, HNF_w75.out.lt rfl⟩
                          · exact ⟨HGM.out, HMW_w75.out.lt rfl⟩), fun b hb => by
                        rcases List.mem_append.1 hb with h | h
                        · exact .inl h
                        · right
                          simp at h
                          rcases h with rfl | rfl
                          · exact Nat.le_refl _
                          · exact HGM.out, fun b hb => List.mem_append_left _ hb, HON_w75.out.less (fun b hb => .inl (by simp at hb; rw [hb]; exact HM6.out.inM))⟩
                  case rest =>
                    obtain ⟨S3, sm', hm8, hsn8, hss8, ho8⟩ := hcut
                    obtain ⟨w8, rfl⟩ : ∃ W, W = wc := ⟨_, rfl⟩
                    have HM8 := Lib.hid hm8
                    have HSN8 : Hid (∀ b ∈ S3, b ∈ S ∨ w.heap.size ≤ b) := Lib.hid (fun b hb => by
                      rcases hsn8 b hb with h | h
                      · exact HSN2.out b h
                      · exact .inr (Nat.le_trans HO6.out.size h))
                    have HSS8 : Hid (∀ b ∈ S, b ∈ S3) := Lib.hid (fun b hb => hss8 b (HSS2.out b hb))
                    have HO8 : Hid (Onl S w w8) := Lib.hid (onl_less HO6.out ho8 HSN2.out)
                    clear hm8 hsn8 hss8 ho8 hmk5 HNF7 HP7 HB7 HSZ7
                    have hov1 : Dr.over ⟨x.rs, x.tk, List.replicate x.mv.length false, x.rd, x.tn + 1⟩ = false := by
                      have := HMX.out.rd
                      show (x.rd == x.rs.length) = false
                      simp
                      omega
                    obtain ⟨nvx, hv1, hvl, hvo⟩ := HM8.out.fval hov1
                    obtain rfl : nv = nvx := by
                      have h1 : 1 < vss2.length := (List.getElem?_eq_some_iff.1 HFV.out).1
                      rw [List.getElem?_set_self h1] at hv1
                      simpa using hv1
                    obtain ⟨z0, hz0⟩ : ∃ s, nv[0]? = some s := ⟨_, List.getElem?_eq_getElem (show 0 < nv.length by rw [HNVL7.out]; omega)⟩
                    obtain ⟨gz, hga, _, hgl, _, e_z⟩ := row_cell hvo hvl hz0
                    obtain rfl : w6.heap.size = gz := by simpa using hga
                    have hx0 : 0 < Dr.n ⟨x.rs, x.tk, List.replicate x.mv.length false, x.rd, x.tn + 1⟩ := by show 0 < x.n; rw [HXN.out]; omega
                    have hzr := HM8.out.mat.row 1 0 z0 (Dr.pk ⟨x.rs, x.tk, List.replicate x.mv.length false, x.rd, x.tn + 1⟩ 0) (at2_of hv1 hz0) (at2_of (r := Dr.fronts ⟨x.rs, x.tk, List.replicate x.mv.length false, x.rd, x.tn + 1⟩) (by unfold Dr.live; rw [hov1]; rfl) (fronts_at hx0))
                    have hzn := sl_len hzr
                    obtain ⟨l00, hl00⟩ := mid_row0 HMX.out
                    have hlen : (Dr.pk ⟨x.rs, x.tk, List.replicate x.mv.length false, x.rd, x.tn + 1⟩ 0).length = l00.length := by
                      have h1 := full_len HMX.out HFULL.out hl00
                      obtain ⟨j, hj, he⟩ := to_surj (rd := x.rd) HMX.out.n2 HMX.out.n8 (show 0 < x.n by rw [HXN.out]; omega)
                      have h2 := next_pk HMX.out.n2 HMX.out.n8 (List.replicate x.mv.length false) hj
                      rw [he] at h2
                      rw [h2]
                      have hfl : x.fr j < (x.rs[x.rd]'HMX.out.rd).length := by rw [HMX.out.row _ (List.getElem_mem _)]; exact front_lt HMX.out.n2
                      have h3 := at2_of (List.getElem?_eq_getElem HMX.out.rd) (List.getElem?_eq_getElem hfl)
                      have h4 := full_len HMX.out HFULL.out h3
                      unfold Dr.pk
                      rw [h3]
                      simp only [Option.getD_some]
                      omega
                    rw [hzn, hlen] at e_z
                    have HL00 := Lib.hid hl00
                    have hM8 := HM8.out.lt
                    have hl15 : l00.length ≤ 15 := by have := full_len HMX.out HFULL.out hl00; have := HMX.out.c15; omega
                    clear hv1 hvl hvo hz0 hga hzr hzn hlen hl00
                    by_cases hz : l00.length = 0
                    · have qz : ((l00.length : Int) == 0) = true := by simp [hz]
                      have HFX : Hid (x.fin = ⟨x.rs, x.tk, List.replicate x.mv.length false, x.rd + 1, 0⟩) := Lib.hid (by unfold Dr.fin; rw [if_pos HFULL.out, HL00.out, if_pos (by simpa using hz)])
                      have m4 : w8.cell? ⟨M, 4, none⟩ = Option.some (.int .i64 x.rd) := HM8.out.cell 4
                      have m5 : w8.cell? ⟨M, 5, none⟩ = Option.some (.int .i64 ((x.tn + 1 : Nat) : Int)) := HM8.out.cell 5
                      have m6 : w8.cell? ⟨M, 6, none⟩ = Option.some (.bool false) := by rw [← hov1]; exact HM8.out.cell 6
                      have f4 : w8.frozen? ⟨M, 4, none⟩ = false := HM8.out.free 4
                      have f5 : w8.frozen? ⟨M, 5, none⟩ = false := HM8.out.free 5
                      have f6 : w8.frozen? ⟨M, 6, none⟩ = false := HM8.out.free 6
                      have hr4 := HMX.out.r4
                      have hrd8 := HMX.out.rd
                      have hll : lvs.length + (x.rd + 1) = x.rs.length := by
                        have h1 := HM8.out.rows.len
                        have h2 := HM8.out.mat.len
                        have h3 : Dr.live ⟨x.rs, x.tk, List.replicate x.mv.length false, x.rd, x.tn + 1⟩ = Dr.fronts ⟨x.rs, x.tk, List.replicate x.mv.length false, x.rd, x.tn + 1⟩ :: x.rs.drop (x.rd + 1) := by unfold Dr.live; rw [hov1]; rfl
                        rw [h3] at h2
                        simp at h1 h2
                        omega
                      obtain ⟨lvs', hfl8, hsl8⟩ := HM8.out.fln hov1
                      obtain rfl : lvs = lvs' := by simpa using hfl8
                      have m1 : w8.cell? ⟨M, 1, none⟩ = Option.some (.slice sl.a lvs.length sl.c) := by rw [HM8.out.cell 1, ← rw_slice hsl8]; rfl
                      have HSL8 := Lib.hid hsl8
                      have HHP : Hid (w8.heap[M]? = Option.some (.cells #[.slice (some ⟨w6.heap.size, 0, none⟩) d.n d.n, sl.v, st.v, sm'.v, .int .i64 x.rd, .int .i64 ((x.tn + 1 : Nat) : Int), .bool false] 39 (0, 0))) := Lib.hid (by have h := HM8.out.hp; rw [hov1] at h; exact h)
                      clear hov1 hz hfl8 hsl8
                      by_cases hlast : x.rd + 1 = x.rs.length
                      · have hl0 : lvs.length = 0 := by omega
                        have ql : ((lvs.length : Int) == 0) = true := by simp [hl0]
                        go_wp2_with fail
                        go_returns
                        rw [E0.out, GOT.out, STP.out, HX.out, HFX.out]
                        have hoz : Onl [M] w8 (((w8.setCell ⟨M, 4, none⟩ (.int .i64 ((x.rd : Int) + 1))).setCell ⟨M, 5, none⟩ (.int .i64 0)).setCell ⟨M, 6, none⟩ (.bool true)) := (((Onl.refl _ _).setCell (.inl (by simp)) _).setCell (.inl (by simp)) _).setCell (.inl (by simp)) _
                        obtain ⟨tv, hml⟩ := HM8.out.last (x := x) (c := c) hlast hoz (by
                          rw [heap_setCell_same _ M 6 _ 39 _ (heap_setCell_same _ M 5 _ 39 _ (heap_setCell_same w8 M 4 _ 39 _ HHP.out))]
                          rfl)
                        exact ⟨S3, rfl, ⟨_, _, _, _, _, _, hml⟩, HSN8.out, HSS8.out, onl_less HO8.out (hoz.less (fun b hb => .inl (by simp at hb; rw [hb]; exact HM8.out.inM))) HSN8.out⟩
                      · obtain ⟨l0, lt, rfl⟩ : ∃ l0 lt, lvs = l0 :: lt := by
                          cases lvs with
                          | nil => exfalso; simp at hll; omega
                          | cons a l => exact ⟨a, l, rfl⟩
                        rw [List.length_cons] at m1
                        have ql : (((lt.length + 1 : Nat) : Int) == 0) = false := beq_false_of_ne (by omega)
                        have ql' : ((lt.length : Int) + 1 == 0) = false := beq_false_of_ne (by omega)
                        obtain ⟨_, la, lcp, hve, hlc⟩ := HSL8.out.at1 vc1
                        have hsa : sl.a = la := by have h := hve; unfold Sl.v at h; simp only [Value.slice.injEq] at h; exact h.1
                        have hsn : sl.n = lt.length + 1 := by have h := hve; unfold Sl.v at h; simp only [Value.slice.injEq] at h; rw [h.2.1]; rfl
                        obtain ⟨lb, lo, hlb, hlbl, hlcc⟩ := hlc (by simp)
                        have e_l := hlcc 0 l0 rfl
                        rw [Nat.add_zero] at e_l
                        rw [hsa, hlb] at m1
                        have HCAP := HM8.out.lcap (by show (x.rd == x.rs.length) = false; simp; omega)
                        rw [hsn] at HCAP
                        obtain ⟨hc1', hc2'⟩ := HCAP
                        have HSLV : Hid (sl.v = .slice (some ⟨lb, lo, none⟩) (lt.length + 1) sl.c) := Lib.hid (by unfold Sl.v; rw [hsa, hlb, hsn])
                        obtain ⟨o', hA, hA2⟩ : ∃ o' : Nat, (if sl.c = 1 then (some (⟨lb, lo, none⟩ : Addr)) else some ⟨lb, lo + 1, none⟩) = some ⟨lb, o', none⟩ ∧ (1 < lt.length + 1 → o' = lo + 1 * 1) := by
                          by_cases h : sl.c = 1
                          · exact ⟨lo, by rw [if_pos h], fun h2 => by omega⟩
                          · exact ⟨lo + 1, by rw [if_neg h], fun _ => rfl⟩
                        have HSLT : Hid (Rw vc 1 w8 (.slice (some ⟨lb, o', none⟩) lt.length (sl.c - 1)) lt) := Lib.hid (by
                          have h := HSL8.out
                          rw [HSLV.out] at h
                          exact h.drop (k := 1) (by omega) (sl.c - 1) o' hA2)
                        clear hve hlc hlcc hsa hsn hlb hA2
                        go_upto_region 31 with fail
                        obtain ⟨w9, hw9⟩ : ∃ W, W = ((w8.setCell ⟨M, 4, none⟩ (.int .i64 ((x.rd : Int) + 1))).setCell ⟨M, 5, none⟩ (.int .i64 0)).setCell ⟨M, 6, none⟩ (.bool false) := ⟨_, rfl⟩
                        have HP9 : Hid (w9.heap[M]? = Option.some (.cells #[.slice (some ⟨w6.heap.size, 0, none⟩) d.n d.n, sl.v, st.v, sm'.v, .int .i64 ((x.rd : Int) + 1), .int .i64 0, .bool false] 39 (0, 0))) := Lib.hid (by
                          rw [hw9, heap_setCell_same _ M 6 _ 39 _ (heap_setCell_same _ M 5 _ 39 _ (heap_setCell_same w8 M 4 _ 39 _ HHP.out))]
                          rfl)
                        have HO9 : Hid (Onl [M] w8 w9) := Lib.hid (by rw [hw9]; exact (((Onl.refl _ _).setCell (.inl (by simp)) _).setCell (.inl (by simp)) _).setCell (.inl (by simp)) _)
                        rw [← hw9]
                        have hM9 : M < w9.heap.size := Nat.lt_of_lt_of_le hM8 HO9.out.size
                        have m1n : w9.cell? ⟨M, 1, none⟩ = Option.some (.slice (some ⟨lb, lo, none⟩) (lt.length + 1) sl.c) := by rw [cell_of_row w9 M 1 _ 39 (0, 0) HP9.out, ← HSLV.out]; rfl
                        have hlbM : lb ∉ [M] := by simpa using ty_ne (HM8.out.lty lb (by rw [HSLV.out]; rfl)).1 HM8.out.tyM (by decide)
                        have e_l := (HO9.out.cell hlbl hlbM).trans e_l
                        have hlb9 := Nat.lt_of_lt_of_le hlbl HO9.out.size
                        clear hw9 m1 m4 m5 m6 f4 f5 f6
                        go_wp2_with fail
                        refine rg16_31 (w0 := w9) (B := w9.heap.size) (n := w9.heap.size) (L := []) (E := fun _ => True) (F := fun _ => True) (by kernel_rfl) (by kernel_rfl) ⟨by go_grown, by go_size, (by simp [go_sem] <;> omega)⟩ trivial (fun _ _ _ _ => trivial) trivial (fun _ _ _ _ => trivial) (fun w91 K_w91 E_w91 F_w91 => ?_)
                        have _ne : Nonempty (KX (w9.heap.size) w9 (w9.heap.size) [] (fun _ => True)) := ⟨⟨_, K_w91, E_w91⟩⟩
                        repeat (go_big_quiet_step (fail))
                        refine wpQuiet_nil ?_
                        have rx0 : ∀ s : KX (w9.heap.size) w9 (w9.heap.size) [] (fun _ => True), s.val.cell? ⟨M, 1, none⟩ = some (.slice (some ⟨lb, lo, none⟩) (lt.length + 1) sl.c) := fun s => (s.kept.below.cell (p := ⟨M, 1, none⟩) hM9).trans m1n
                        have rx1 : ∀ s : KX (w9.heap.size) w9 (w9.heap.size) [] (fun _ => True), s.val.cell? ⟨lb, lo, none⟩ = some (.slice l0.a l0.n l0.c) := fun s => (s.kept.below.cell (p := ⟨lb, lo, none⟩) hlb9).trans e_l
                        repeat (go_big_quiet_step (fail))
                        refine wpQuiet_nil ?_
                        clear rx0 rx1
                        repeat (go_big_quiet_step (fail))
                        refine wpQuiet_nil ?_
                        have rx0 : ∀ s : KX (w9.heap.size) w9 (w9.heap.size) [] (fun _ => True), s.val.cell? ⟨M, 1, none⟩ = some (.slice (some ⟨lb, lo, none⟩) (lt.length + 1) sl.c) := fun s => (s.kept.below.cell (p := ⟨M, 1, none⟩) hM9).trans m1n
                        have rx1 : ∀ s : KX (w9.heap.size) w9 (w9.heap.size) [] (fun _ => True), s.val.cell? ⟨lb, lo, none⟩ = some (.slice l0.a l0.n l0.c) := fun s => (s.kept.below.cell (p := ⟨lb, lo, none⟩) hlb9).trans e_l
                        repeat (go_big_quiet_step (fail))
                        refine wpQuiet_nil ?_
                        clear rx0 rx1
                        repeat (go_big_quiet_step (fail))
                        refine wpQuiet_nil ?_
                        have KH_w91 := Lib.hid K_w91
                        have hw_w91 := K_w91.below
                        have hz_w91 := K_w91.size
                        clear K_w91
                        clear E_w91 F_w91
                        refine ⟨fun K hK0 => ?_, trivial⟩
                        have hK := Lib.hid hK0
                        clear hK0
                        have HPz : Hid (w91.heap[M]? = Option.some (.cells #[.slice (some ⟨w6.heap.size, 0, none⟩) d.n d.n, sl.v, st.v, sm'.v, .int .i64 ((x.rd : Int) + 1), .int .i64 0, .bool false] 39 (0, 0))) := Lib.hid ((hw_w91.block M hM9).trans HP9.out)
                        have hc0 : w91.cell? ⟨M, 0, none⟩ = Option.some (.slice (some ⟨w6.heap.size, 0, none⟩) d.n d.n) := cell_of_row w91 M 0 _ 39 (0, 0) HPz.out
                        have hf0 : w91.frozen? ⟨M, 0, none⟩ = false := frozen_of_row w91 M 0 _ 39 HPz.out
                        have hc1 : w91.cell? ⟨M, 1, none⟩ = Option.some (.slice (some ⟨lb, lo, none⟩) (lt.length + 1) sl.c) := by rw [cell_of_row w91 M 1 _ 39 (0, 0) HPz.out, ← HSLV.out]; rfl
                        have hf1 : w91.frozen? ⟨M, 1, none⟩ = false := frozen_of_row w91 M 1 _ 39 HPz.out
                        have hlz : M < w91.heap.size := Nat.lt_of_lt_of_le hM9 hw_w91.size
                        go_wp2_with fail
                        first | (refine ⟨rfl, hK.out _ _ ?_⟩; clear hK K) | (refine hK.out _ _ ?_; clear hK K)
                        repeat (go_big_quiet_step (fail))
                        refine wpQuiet_nil ?_
                        refine ⟨fun K hK0 => ?_, trivial⟩
                        have hK := Lib.hid hK0
                        clear hK0
                        go_wp2_with fail
                        first | (refine ⟨rfl, hK.out _ _ ?_⟩; clear hK K) | (refine hK.out _ _ ?_; clear hK K)
                        clear _ne
                        go_upto_region 32 with fail
                        obtain ⟨wz, hwz⟩ : ∃ W, W = (w91.setCell ⟨M, 0, none⟩ (.slice l0.a l0.n l0.c)).setCell ⟨M, 1, none⟩ (.slice (some ⟨lb, o', none⟩) lt.length (sl.c - 1)) := ⟨_, rfl⟩
                        have hoz : Onl [M] w8 wz := by rw [hwz]; exact ((HO9.out.grow hw_w91).setCell (.inl (by simp)) _).setCell (.inl (by simp)) _
                        obtain ⟨v2, hmr⟩ := HM8.out.round (x := x) (sl' := ⟨some ⟨lb, o', none⟩, lt.length, sl.c - 1⟩) HMX.out (by omega) hoz HSLT.out (by show lt.length ≤ sl.c - 1 ∧ sl.c - 1 ≤ _; omega) (fun b hb => by rw [HSLV.out]; exact hb) (by
                          rw [hwz, heap_setCell_same _ M 1 _ 39 _ (heap_setCell_same _ M 0 _ 39 _ HPz.out)]
                          rfl)
                        rw [← hwz]
                        have HMR := Lib.hid hmr
                        have HOZ := Lib.hid (onl_less HO8.out (hoz.less (S' := S3) (fun b hb => .inl (by simp at hb; rw [hb]; exact HM8.out.inM))) HSN8.out)
                        clear hmr hoz hwz
                        go_wp2_with fail
                        go_returns
                        rw [E0.out, GOT.out, STP.out, HX.out, HFX.out]
                        exact ⟨S3, rfl, ⟨_, _, _, _, _, _, HMR.out⟩, HSN8.out, HSS8.out, HOZ.out⟩
                    · have qz : ((l00.length : Int) == 0) = false := by simpa using hz
                      have HFX : Hid (x.fin = ⟨x.rs, x.tk, List.replicate x.mv.length false, x.rd, x.tn + 1⟩) := Lib.hid (by unfold Dr.fin; rw [if_pos HFULL.out, HL00.out, if_neg (by simpa using hz)])
                      clear hz
                      go_wp2_with fail
                      go_returns
                      rw [E0.out, GOT.out, STP.out, HX.out, HFX.out]
                      exact ⟨S3, rfl, ⟨_, _, _, _, _, _, HM8.out⟩, HSN8.out, HSS8.out, HO8.out⟩
    · have E0 : Hid (d.err q i = 8) := Lib.hid (by unfold Dr.err; rw [if_neg h1, ho, if_neg (by decide), Int.toNat_natCast, if_pos hm'])
      rw [← hmvd, hm'] at hmc
      clear hm iv ho hm' hbk hma hmb hmvd
      go_enter Try.func16, Try.ntmps16
      go_wp2_with fail
      go_returns
      rw [E0.out, (stp_bad E0.out (by decide)).1, (stp_bad E0.out (by decide)).2]
      exact MoTk.same HMA.out (Below.refl _ _)
  · rw [ho] at m6
    have E0 : Hid (d.err q i = 16) := Lib.hid (by unfold Dr.err; rw [if_neg h1, if_pos ho])
    clear hm iv ho
    go_enter Try.func16, Try.ntmps16
    go_wp2_with fail
    go_returns
    rw [E0.out, (stp_bad E0.out (by decide)).1, (stp_bad E0.out (by decide)).2]
    exact MoTk.same HMA.out (Below.refl _ _)
end Go.Proofs.Yteocplabibhecaa
