/- What is public of a board, by spectate. -/
import Derived.Test.YteoeahmnonolmaaSM
import Derived.Test.YteoeahmnonolmaaSI
import Derived.Test.YteoeahmnonolmaaSO
import Derived.Test.YteoeahmnonolmaaBVd
import Derived.Deep.DeepCutAuto
import Derived.LoopTactic
import Derived.Deep.MidRow
namespace Go.Proofs.Yteoeahmnonolmaa
open Go.RowKit Plain
set_option linter.unusedVariables false
set_option linter.unusedSimpArgs false

theorem rg23_3 {P : Program} {B n : Nat} {w0 : World} {L : List (Nat × Nat × Value)} {E F : World → Prop} {id : Nat} {Q : Exit → Act → World → Prop} {a : Act} {w : World} {o0 o1 o2 o3 o4 o5 o6 o7 o8 o9 o10 o11 o12 o13 o14 o15 o16 o17 o18 o19 o20 o21 o22 o23 o24 : Oper} (hm : P.follows .mixedOrders = true)
    (hB : (Region.noSelect [o0, o1, o2, o3, o4, o5, o6, o7, o8, o9, o10, o11, o12, o13, o14, o15, o16, o17, o18, o19, o20, o21, o22, o23, o24].toArray && Scr.ok .any [o0, o1, o2, o3, o4, o5, o6, o7, o8, o9, o10, o11, o12, o13, o14, o15, o16, o17, o18, o19, o20, o21, o22, o23, o24].toArray [1, 4, 7, 10, 13, 15, 17, 19, 21] [0, 3, 6, 9, 12, 14, 16, 18, 20, 22] (.free 0 (.free 3 (.free 6 (.free 9 (.free 12 (.free 14 (.free 16 (.free 18 (.free 20 (.read 1 (.read 4 (.read 7 (.read 10 (.read 13 (.read 15 (.read 17 (.read 19 (.read 21 (.alt 2 (.alt 5 (.alt 8 (.alt 11 (.free 22 (.alt 23 (.alt 24 .done .stop) .stop)) (.alt 23 (.alt 11 (.free 22 (.alt 24 .done .stop)) .stop) .stop)) (.alt 23 (.alt 8 (.alt 11 (.free 22 (.alt 24 .done .stop)) .stop) .stop) .stop)) (.alt 23 (.alt 5 (.alt 8 (.alt 11 (.free 22 (.alt 24 .done .stop)) .stop) .stop) .stop) .stop)) (.alt 23 (.alt 2 (.alt 5 (.alt 8 (.alt 11 (.free 22 (.alt 24 .done .stop)) .stop) .stop) .stop) .stop) .stop)))))))))))))))))))) true true [o0, o1, o2, o3, o4, o5, o6, o7, o8, o9, o10, o11, o12, o13, o14, o15, o16, o17, o18, o19, o20, o21, o22, o23, o24].toArray.size (Array.replicate [o0, o1, o2, o3, o4, o5, o6, o7, o8, o9, o10, o11, o12, o13, o14, o15, o16, o17, o18, o19, o20, o21, o22, o23, o24].toArray.size false)) = true)
    (k : Kept B w0 n L w) (he : E w) (hE : ∀ W W', E W → Below W.heap.size W W' → E W') (hf : F w) (hF : ∀ W W', F W → Below W.heap.size W W' → F W')
    (h : ∀ wk, Kept B w0 n L wk → E wk → F wk → wpQuiet P [o0, o1, o2, o3, o4, o5, o6, o7, o8, o9, o10, o11, o12, o13, o14, o15, o16, o17, o18, o19, o20, o21, o22, o23, o24].toArray (fun _ => True) (fun a0 => wpQuiet P [o0, o1, o2, o3, o4, o5, o6, o7, o8, o9, o10, o11, o12, o13, o14, o15, o16, o17, o18, o19, o20, o21, o22, o23, o24].toArray (fun w' => ∃ s : KX B w0 n L E, w' = s.val) (fun a1 => ((∀ K2 : Act → World → Prop, (∀ a2 w2, ((∀ K3 : Act → World → Prop, (∀ a3 w3, ((∀ K4 : Act → World → Prop, (∀ a4 w4, ((∀ K5 : Act → World → Prop, (∀ a5 w5, wpQuiet P [o0, o1, o2, o3, o4, o5, o6, o7, o8, o9, o10, o11, o12, o13, o14, o15, o16, o17, o18, o19, o20, o21, o22, o23, o24].toArray (fun _ => True) (fun a6 => ((∀ K7 : Act → World → Prop, (∀ a7 w7, ((∀ K8 : Act → World → Prop, (∀ a8 w8, Q .normal a8 w8 → K8 a8 w8) → wpList P [o0, o1, o2, o3, o4, o5, o6, o7, o8, o9, o10, o11, o12, o13, o14, o15, o16, o17, o18, o19, o20, o21, o22, o23, o24].toArray (fun e a8 w8 => e = .normal ∧ (∃ s : KX B w0 n L E, w8 = s.val) ∧ K8 a8 w8) [o24] a7 w7) ∧ True) → K7 a7 w7) → wpList P [o0, o1, o2, o3, o4, o5, o6, o7, o8, o9, o10, o11, o12, o13, o14, o15, o16, o17, o18, o19, o20, o21, o22, o23, o24].toArray (fun e a7 w7 => e = .normal ∧ (∃ s : KX B w0 n L E, w7 = s.val) ∧ K7 a7 w7) [o23] a6 w5) ∧ True)) [o22] a5 → K5 a5 w5) → wpList P [o0, o1, o2, o3, o4, o5, o6, o7, o8, o9, o10, o11, o12, o13, o14, o15, o16, o17, o18, o19, o20, o21, o22, o23, o24].toArray (fun e a5 w5 => e = .normal ∧ (∃ s : KX B w0 n L E, w5 = s.val) ∧ K5 a5 w5) [o11] a4 w4) ∧ (∀ K5 : Act → World → Prop, (∀ a5 w5, ((∀ K6 : Act → World → Prop, (∀ a6 w6, wpQuiet P [o0, o1, o2, o3, o4, o5, o6, o7, o8, o9, o10, o11, o12, o13, o14, o15, o16, o17, o18, o19, o20, o21, o22, o23, o24].toArray (fun _ => True) (fun a7 => ((∀ K8 : Act → World → Prop, (∀ a8 w8, Q .normal a8 w8 → K8 a8 w8) → wpList P [o0, o1, o2, o3, o4, o5, o6, o7, o8, o9, o10, o11, o12, o13, o14, o15, o16, o17, o18, o19, o20, o21, o22, o23, o24].toArray (fun e a8 w8 => e = .normal ∧ (∃ s : KX B w0 n L E, w8 = s.val) ∧ K8 a8 w8) [o24] a7 w6) ∧ True)) [o22] a6 → K6 a6 w6) → wpList P [o0, o1, o2, o3, o4, o5, o6, o7, o8, o9, o10, o11, o12, o13, o14, o15, o16, o17, o18, o19, o20, o21, o22, o23, o24].toArray (fun e a6 w6 => e = .normal ∧ (∃ s : KX B w0 n L E, w6 = s.val) ∧ K6 a6 w6) [o11] a5 w5) ∧ True) → K5 a5 w5) → wpList P [o0, o1, o2, o3, o4, o5, o6, o7, o8, o9, o10, o11, o12, o13, o14, o15, o16, o17, o18, o19, o20, o21, o22, o23, o24].toArray (fun e a5 w5 => e = .normal ∧ (∃ s : KX B w0 n L E, w5 = s.val) ∧ K5 a5 w5) [o23] a4 w4) ∧ True) → K4 a4 w4) → wpList P [o0, o1, o2, o3, o4, o5, o6, o7, o8, o9, o10, o11, o12, o13, o14, o15, o16, o17, o18, o19, o20, o21, o22, o23, o24].toArray (fun e a4 w4 => e = .normal ∧ (∃ s : KX B w0 n L E, w4 = s.val) ∧ K4 a4 w4) [o8] a3 w3) ∧ (∀ K4 : Act → World → Prop, (∀ a4 w4, ((∀ K5 : Act → World → Prop, (∀ a5 w5, ((∀ K6 : Act → World → Prop, (∀ a6 w6, wpQuiet P [o0, o1, o2, o3, o4, o5, o6, o7, o8, o9, o10, o11, o12, o13, o14, o15, o16, o17, o18, o19, o20, o21, o22, o23, o24].toArray (fun _ => True) (fun a7 => ((∀ K8 : Act → World → Prop, (∀ a8 w8, Q .normal a8 w8 → K8 a8 w8) → wpList P [o0, o1, o2, o3, o4, o5, o6, o7, o8, o9, o10, o11, o12, o13, o14, o15, o16, o17, o18, o19, o20, o21, o22, o23, o24].toArray (fun e a8 w8 => e = .normal ∧ (∃ s : KX B w0 n L E, w8 = s.val) ∧ K8 a8 w8) [o24] a7 w6) ∧ True)) [o22] a6 → K6 a6 w6) → wpList P [o0, o1, o2, o3, o4, o5, o6, o7, o8, o9, o10, o11, o12, o13, o14, o15, o16, o17, o18, o19, o20, o21, o22, o23, o24].toArray (fun e a6 w6 => e = .normal ∧ (∃ s : KX B w0 n L E, w6 = s.val) ∧ K6 a6 w6) [o11] a5 w5) ∧ True) → K5 a5 w5) → wpList P [o0, o1, o2, o3, o4, o5, o6, o7, o8, o9, o10, o11, o12, o13, o14, o15, o16, o17, o18, o19, o20, o21, o22, o23, o24].toArray (fun e a5 w5 => e = .normal ∧ (∃ s : KX B w0 n L E, w5 = s.val) ∧ K5 a5 w5) [o8] a4 w4) ∧ True) → K4 a4 w4) → wpList P [o0, o1, o2, o3, o4, o5, o6, o7, o8, o9, o10, o11, o12, o13, o14, o15, o16, o17, o18, o19, o20, o21, o22, o23, o24].toArray (fun e a4 w4 => e = .normal ∧ (∃ s : KX B w0 n L E, w4 = s.val) ∧ K4 a4 w4) [o23] a3 w3) ∧ True) → K3 a3 w3) → wpList P [o0, o1, o2, o3, o4, o5, o6, o7, o8, o9, o10, o11, o12, o13, o14, o15, o16, o17, o18, o19, o20, o21, o22, o23, o24].toArray (fun e a3 w3 => e = .normal ∧ (∃ s : KX B w0 n L E, w3 = s.val) ∧ K3 a3 w3) [o5] a2 w2) ∧ (∀ K3 : Act → World → Prop, (∀ a3 w3, ((∀ K4 : Act → World → Prop, (∀ a4 w4, ((∀ K5 : Act → World → Prop, (∀ a5 w5, ((∀ K6 : Act → World → Prop, (∀ a6 w6, wpQuiet P [o0, o1, o2, o3, o4, o5, o6, o7, o8, o9, o10, o11, o12, o13, o14, o15, o16, o17, o18, o19, o20, o21, o22, o23, o24].toArray (fun _ => True) (fun a7 => ((∀ K8 : Act → World → Prop, (∀ a8 w8, Q .normal a8 w8 → K8 a8 w8) → wpList P [o0, o1, o2, o3, o4, o5, o6, o7, o8, o9, o10, o11, o12, o13, o14, o15, o16, o17, o18, o19, o20, o21, o22, o23, o24].toArray (fun e a8 w8 => e = .normal ∧ (∃ s : KX B w0 n L E, w8 = s.val) ∧ K8 a8 w8) [o24] a7 w6) ∧ True)) [o22] a6 → K6 a6 w6) → wpList P [o0, o1, o2, o3, o4, o5, o6, o7, o8, o9, o10, o11, o12, o13, o14, o15, o16, o17, o18, o19, o20, o21, o22, o23, o24].toArray (fun e a6 w6 => e = .normal ∧ (∃ s : KX B w0 n L E, w6 = s.val) ∧ K6 a6 w6) [o11] a5 w5) ∧ True) → K5 a5 w5) → wpList P [o0, o1, o2, o3, o4, o5, o6, o7, o8, o9, o10, o11, o12, o13, o14, o15, o16, o17, o18, o19, o20, o21, o22, o23, o24].toArray (fun e a5 w5 => e = .normal ∧ (∃ s : KX B w0 n L E, w5 = s.val) ∧ K5 a5 w5) [o8] a4 w4) ∧ True) → K4 a4 w4) → wpList P [o0, o1, o2, o3, o4, o5, o6, o7, o8, o9, o10, o11, o12, o13, o14, o15, o16, o17, o18, o19, o20, o21, o22, o23, o24].toArray (fun e a4 w4 => e = .normal ∧ (∃ s : KX B w0 n L E, w4 = s.val) ∧ K4 a4 w4) [o5] a3 w3) ∧ True) → K3 a3 w3) → wpList P [o0, o1, o2, o3, o4, o5, o6, o7, o8, o9, o10, o11, o12, o13, o14, o15, o16, o17, o18, o19, o20, o21, o22, o23, o24].toArray (fun e a3 w3 => e = .normal ∧ (∃ s : KX B w0 n L E, w3 = s.val) ∧ K3 a3 w3) [o23] a2 w2) ∧ True) → K2 a2 w2) → wpList P [o0, o1, o2, o3, o4, o5, o6, o7, o8, o9, o10, o11, o12, o13, o14, o15, o16, o17, o18, o19, o20, o21, o22, o23, o24].toArray (fun e a2 w2 => e = .normal ∧ (∃ s : KX B w0 n L E, w2 = s.val) ∧ K2 a2 w2) [o2] a1 wk) ∧ (∀ K2 : Act → World → Prop, (∀ a2 w2, ((∀ K3 : Act → World → Prop, (∀ a3 w3, ((∀ K4 : Act → World → Prop, (∀ a4 w4, ((∀ K5 : Act → World → Prop, (∀ a5 w5, ((∀ K6 : Act → World → Prop, (∀ a6 w6, wpQuiet P [o0, o1, o2, o3, o4, o5, o6, o7, o8, o9, o10, o11, o12, o13, o14, o15, o16, o17, o18, o19, o20, o21, o22, o23, o24].toArray (fun _ => True) (fun a7 => ((∀ K8 : Act → World → Prop, (∀ a8 w8, Q .normal a8 w8 → K8 a8 w8) → wpList P [o0, o1, o2, o3, o4, o5, o6, o7, o8, o9, o10, o11, o12, o13, o14, o15, o16, o17, o18, o19, o20, o21, o22, o23, o24].toArray (fun e a8 w8 => e = .normal ∧ (∃ s : KX B w0 n L E, w8 = s.val) ∧ K8 a8 w8) [o24] a7 w6) ∧ True)) [o22] a6 → K6 a6 w6) → wpList P [o0, o1, o2, o3, o4, o5, o6, o7, o8, o9, o10, o11, o12, o13, o14, o15, o16, o17, o18, o19, o20, o21, o22, o23, o24].toArray (fun e a6 w6 => e = .normal ∧ (∃ s : KX B w0 n L E, w6 = s.val) ∧ K6 a6 w6) [o11] a5 w5) ∧ True) → K5 a5 w5) → wpList P [o0, o1, o2, o3, o4, o5, o6, o7, o8, o9, o10, o11, o12, o13, o14, o15, o16, o17, o18, o19, o20, o21, o22, o23, o24].toArray (fun e a5 w5 => e = .normal ∧ (∃ s : KX B w0 n L E, w5 = s.val) ∧ K5 a5 w5) [o8] a4 w4) ∧ True) → K4 a4 w4) → wpList P [o0, o1, o2, o3, o4, o5, o6, o7, o8, o9, o10, o11, o12, o13, o14, o15, o16, o17, o18, o19, o20, o21, o22, o23, o24].toArray (fun e a4 w4 => e = .normal ∧ (∃ s : KX B w0 n L E, w4 = s.val) ∧ K4 a4 w4) [o5] a3 w3) ∧ True) → K3 a3 w3) → wpList P [o0, o1, o2, o3, o4, o5, o6, o7, o8, o9, o10, o11, o12, o13, o14, o15, o16, o17, o18, o19, o20, o21, o22, o23, o24].toArray (fun e a3 w3 => e = .normal ∧ (∃ s : KX B w0 n L E, w3 = s.val) ∧ K3 a3 w3) [o2] a2 w2) ∧ True) → K2 a2 w2) → wpList P [o0, o1, o2, o3, o4, o5, o6, o7, o8, o9, o10, o11, o12, o13, o14, o15, o16, o17, o18, o19, o20, o21, o22, o23, o24].toArray (fun e a2 w2 => e = .normal ∧ (∃ s : KX B w0 n L E, w2 = s.val) ∧ K2 a2 w2) [o23] a1 wk) ∧ True)) [o1, o4, o7, o10, o13, o15, o17, o19, o21] a0) [o0, o3, o6, o9, o12, o14, o16, o18, o20] a) : (Code.region id [o0, o1, o2, o3, o4, o5, o6, o7, o8, o9, o10, o11, o12, o13, o14, o15, o16, o17, o18, o19, o20, o21, o22, o23, o24].toArray true).wp P Q a w := by
  have e1 : E w.drew := hE _ _ he ((Below.refl _ _).drew)
  have g := h _ k.drew e1 (hF _ _ hf ((Below.refl _ _).drew))
  exact wp_region_scr (U := (fun w' => ∃ s : KX B w0 n L E, w' = s.val)) (ops := [o0, o1, o2, o3, o4, o5, o6, o7, o8, o9, o10, o11, o12, o13, o14, o15, o16, o17, o18, o19, o20, o21, o22, o23, o24].toArray) (.free 0 (.free 3 (.free 6 (.free 9 (.free 12 (.free 14 (.free 16 (.free 18 (.free 20 (.read 1 (.read 4 (.read 7 (.read 10 (.read 13 (.read 15 (.read 17 (.read 19 (.read 21 (.alt 2 (.alt 5 (.alt 8 (.alt 11 (.free 22 (.alt 23 (.alt 24 .done .stop) .stop)) (.alt 23 (.alt 11 (.free 22 (.alt 24 .done .stop)) .stop) .stop)) (.alt 23 (.alt 8 (.alt 11 (.free 22 (.alt 24 .done .stop)) .stop) .stop) .stop)) (.alt 23 (.alt 5 (.alt 8 (.alt 11 (.free 22 (.alt 24 .done .stop)) .stop) .stop) .stop) .stop)) (.alt 23 (.alt 2 (.alt 5 (.alt 8 (.alt 11 (.free 22 (.alt 24 .done .stop)) .stop) .stop) .stop) .stop) .stop)))))))))))))))))))) [1, 4, 7, 10, 13, 15, 17, 19, 21] [0, 3, 6, 9, 12, 14, 16, 18, 20, 22] hm hB ⟨⟨_, k.drew, e1⟩, rfl⟩ (Scr.of_free rfl g (fun _ g0 => Scr.of_free rfl g0 (fun _ g1 => Scr.of_free rfl g1 (fun _ g2 => Scr.of_free rfl g2 (fun _ g3 => Scr.of_free rfl g3 (fun _ g4 => Scr.of_free rfl g4 (fun _ g5 => Scr.of_free rfl g5 (fun _ g6 => Scr.of_free rfl g6 (fun _ g7 => Scr.of_free rfl g7 (fun _ g8 => Scr.of_read rfl g8 (fun _ g9 => Scr.of_read rfl g9 (fun _ g10 => Scr.of_read rfl g10 (fun _ g11 => Scr.of_read rfl g11 (fun _ g12 => Scr.of_read rfl g12 (fun _ g13 => Scr.of_read rfl g13 (fun _ g14 => Scr.of_read rfl g14 (fun _ g15 => Scr.of_read rfl g15 (fun _ g16 => Scr.of_read rfl g16 (fun _ g17 => (Scr.of_alt rfl (g17.1 _ (fun _ _ g => g)) (fun _ _ g18 => (Scr.of_alt rfl (g18.1 _ (fun _ _ g => g)) (fun _ _ g19 => (Scr.of_alt rfl (g19.1 _ (fun _ _ g => g)) (fun _ _ g20 => (Scr.of_alt rfl (g20.1 _ (fun _ _ g => g)) (fun _ _ g21 => Scr.of_free rfl g21 (fun _ g22 => (Scr.of_alt rfl (g22.1 _ (fun _ _ g => g)) (fun _ _ g23 => (Scr.of_alt rfl (g23.1 _ (fun _ _ g => g)) (fun _ _ g24 => g24) trivial)) trivial))) (Scr.of_alt rfl (g20.2.1 _ (fun _ _ g => g)) (fun _ _ g21 => (Scr.of_alt rfl (g21.1 _ (fun _ _ g => g)) (fun _ _ g22 => Scr.of_free rfl g22 (fun _ g23 => (Scr.of_alt rfl (g23.1 _ (fun _ _ g => g)) (fun _ _ g24 => g24) trivial))) trivial)) trivial))) (Scr.of_alt rfl (g19.2.1 _ (fun _ _ g => g)) (fun _ _ g20 => (Scr.of_alt rfl (g20.1 _ (fun _ _ g => g)) (fun _ _ g21 => (Scr.of_alt rfl (g21.1 _ (fun _ _ g => g)) (fun _ _ g22 => Scr.of_free rfl g22 (fun _ g23 => (Scr.of_alt rfl (g23.1 _ (fun _ _ g => g)) (fun _ _ g24 => g24) trivial))) trivial)) trivial)) trivial))) (Scr.of_alt rfl (g18.2.1 _ (fun _ _ g => g)) (fun _ _ g19 => (Scr.of_alt rfl (g19.1 _ (fun _ _ g => g)) (fun _ _ g20 => (Scr.of_alt rfl (g20.1 _ (fun _ _ g => g)) (fun _ _ g21 => (Scr.of_alt rfl (g21.1 _ (fun _ _ g => g)) (fun _ _ g22 => Scr.of_free rfl g22 (fun _ g23 => (Scr.of_alt rfl (g23.1 _ (fun _ _ g => g)) (fun _ _ g24 => g24) trivial))) trivial)) trivial)) trivial)) trivial))) (Scr.of_alt rfl (g17.2.1 _ (fun _ _ g => g)) (fun _ _ g18 => (Scr.of_alt rfl (g18.1 _ (fun _ _ g => g)) (fun _ _ g19 => (Scr.of_alt rfl (g19.1 _ (fun _ _ g => g)) (fun _ _ g20 => (Scr.of_alt rfl (g20.1 _ (fun _ _ g => g)) (fun _ _ g21 => (Scr.of_alt rfl (g21.1 _ (fun _ _ g => g)) (fun _ _ g22 => Scr.of_free rfl g22 (fun _ g23 => (Scr.of_alt rfl (g23.1 _ (fun _ _ g => g)) (fun _ _ g24 => g24) trivial))) trivial)) trivial)) trivial)) trivial)) trivial)))))))))))))))))))))
theorem rg23_7 {P : Program} {B n : Nat} {w0 : World} {L : List (Nat × Nat × Value)} {E F : World → Prop} {id : Nat} {Q : Exit → Act → World → Prop} {a : Act} {w : World} {o0 o1 o2 o3 o4 o5 o6 o7 o8 o9 o10 o11 o12 o13 o14 o15 o16 o17 o18 o19 o20 o21 o22 o23 o24 o25 o26 o27 o28 o29 o30 o31 o32 : Oper} (hm : P.follows .mixedOrders = true)
    (hB : (Region.noSelect (o0 :: o1 :: o2 :: o3 :: o4 :: o5 :: o6 :: o7 :: o8 :: o9 :: o10 :: o11 :: o12 :: o13 :: o14 :: o15 :: o16 :: o17 :: o18 :: o19 :: o20 :: o21 :: o22 :: o23 :: o24 :: o25 :: o26 :: o27 :: o28 :: o29 :: o30 :: o31 :: o32 :: []).toArray && Scr.ok .any (o0 :: o1 :: o2 :: o3 :: o4 :: o5 :: o6 :: o7 :: o8 :: o9 :: o10 :: o11 :: o12 :: o13 :: o14 :: o15 :: o16 :: o17 :: o18 :: o19 :: o20 :: o21 :: o22 :: o23 :: o24 :: o25 :: o26 :: o27 :: o28 :: o29 :: o30 :: o31 :: o32 :: []).toArray [2, 4, 6, 9, 11, 13, 15, 17, 20, 22, 24, 26, 28] [0, 1, 3, 5, 7, 8, 10, 12, 16, 19, 21, 23, 25, 27, 29, 30, 31] (.free 0 (.free 1 (.free 3 (.free 5 (.free 8 (.free 12 (.free 16 (.free 19 (.free 21 (.free 23 (.free 25 (.free 27 (.free 30 (.read 2 (.read 4 (.read 6 (.free 7 (.read 9 (.free 10 (.read 11 (.read 13 (.read 15 (.read 17 (.read 20 (.read 22 (.read 24 (.read 26 (.read 28 (.alt 14 (.alt 18 (.free 29 (.free 31 (.altc 32 .done .stop))) .stop) .stop))))))))))))))))))))))))))))) true true (o0 :: o1 :: o2 :: o3 :: o4 :: o5 :: o6 :: o7 :: o8 :: o9 :: o10 :: o11 :: o12 :: o13 :: o14 :: o15 :: o16 :: o17 :: o18 :: o19 :: o20 :: o21 :: o22 :: o23 :: o24 :: o25 :: o26 :: o27 :: o28 :: o29 :: o30 :: o31 :: o32 :: []).toArray.size (Array.replicate (o0 :: o1 :: o2 :: o3 :: o4 :: o5 :: o6 :: o7 :: o8 :: o9 :: o10 :: o11 :: o12 :: o13 :: o14 :: o15 :: o16 :: o17 :: o18 :: o19 :: o20 :: o21 :: o22 :: o23 :: o24 :: o25 :: o26 :: o27 :: o28 :: o29 :: o30 :: o31 :: o32 :: []).toArray.size false)) = true)
    (k : Kept B w0 n L w) (he : E w) (hE : ∀ W W', E W → Below W.heap.size W W' → E W') (hf : F w) (hF : ∀ W W', F W → Below W.heap.size W W' → F W')
    (h : ∀ wk, Kept B w0 n L wk → E wk → F wk → wpQuiet P (o0 :: o1 :: o2 :: o3 :: o4 :: o5 :: o6 :: o7 :: o8 :: o9 :: o10 :: o11 :: o12 :: o13 :: o14 :: o15 :: o16 :: o17 :: o18 :: o19 :: o20 :: o21 :: o22 :: o23 :: o24 :: o25 :: o26 :: o27 :: o28 :: o29 :: o30 :: o31 :: o32 :: []).toArray (fun _ => True) (fun a0 => wpQuiet P (o0 :: o1 :: o2 :: o3 :: o4 :: o5 :: o6 :: o7 :: o8 :: o9 :: o10 :: o11 :: o12 :: o13 :: o14 :: o15 :: o16 :: o17 :: o18 :: o19 :: o20 :: o21 :: o22 :: o23 :: o24 :: o25 :: o26 :: o27 :: o28 :: o29 :: o30 :: o31 :: o32 :: []).toArray (fun w' => ∃ s : KX B w0 n L E, w' = s.val) (fun a1 => wpQuiet P (o0 :: o1 :: o2 :: o3 :: o4 :: o5 :: o6 :: o7 :: o8 :: o9 :: o10 :: o11 :: o12 :: o13 :: o14 :: o15 :: o16 :: o17 :: o18 :: o19 :: o20 :: o21 :: o22 :: o23 :: o24 :: o25 :: o26 :: o27 :: o28 :: o29 :: o30 :: o31 :: o32 :: []).toArray (fun _ => True) (fun a2 => wpQuiet P (o0 :: o1 :: o2 :: o3 :: o4 :: o5 :: o6 :: o7 :: o8 :: o9 :: o10 :: o11 :: o12 :: o13 :: o14 :: o15 :: o16 :: o17 :: o18 :: o19 :: o20 :: o21 :: o22 :: o23 :: o24 :: o25 :: o26 :: o27 :: o28 :: o29 :: o30 :: o31 :: o32 :: []).toArray (fun w' => ∃ s : KX B w0 n L E, w' = s.val) (fun a3 => wpQuiet P (o0 :: o1 :: o2 :: o3 :: o4 :: o5 :: o6 :: o7 :: o8 :: o9 :: o10 :: o11 :: o12 :: o13 :: o14 :: o15 :: o16 :: o17 :: o18 :: o19 :: o20 :: o21 :: o22 :: o23 :: o24 :: o25 :: o26 :: o27 :: o28 :: o29 :: o30 :: o31 :: o32 :: []).toArray (fun _ => True) (fun a4 => wpQuiet P (o0 :: o1 :: o2 :: o3 :: o4 :: o5 :: o6 :: o7 :: o8 :: o9 :: o10 :: o11 :: o12 :: o13 :: o14 :: o15 :: o16 :: o17 :: o18 :: o19 :: o20 :: o21 :: o22 :: o23 :: o24 :: o25 :: o26 :: o27 :: o28 :: o29 :: o30 :: o31 :: o32 :: []).toArray (fun w' => ∃ s : KX B w0 n L E, w' = s.val) (fun a5 => ((∀ K6 : Act → World → Prop, (∀ a6 w6, ((∀ K7 : Act → World → Prop, (∀ a7 w7, wpQuiet P (o0 :: o1 :: o2 :: o3 :: o4 :: o5 :: o6 :: o7 :: o8 :: o9 :: o10 :: o11 :: o12 :: o13 :: o14 :: o15 :: o16 :: o17 :: o18 :: o19 :: o20 :: o21 :: o22 :: o23 :: o24 :: o25 :: o26 :: o27 :: o28 :: o29 :: o30 :: o31 :: o32 :: []).toArray (fun _ => True) (fun a8 => ((∀ K9 : Act → World → Prop, (∀ a9 w9, Q .normal a9 w9 → K9 a9 w9) → wpList P (o0 :: o1 :: o2 :: o3 :: o4 :: o5 :: o6 :: o7 :: o8 :: o9 :: o10 :: o11 :: o12 :: o13 :: o14 :: o15 :: o16 :: o17 :: o18 :: o19 :: o20 :: o21 :: o22 :: o23 :: o24 :: o25 :: o26 :: o27 :: o28 :: o29 :: o30 :: o31 :: o32 :: []).toArray (fun e a9 w9 => e = .normal ∧ K9 a9 w9) [o32] a8 w7) ∧ True)) [o29, o31] a7 → K7 a7 w7) → wpList P (o0 :: o1 :: o2 :: o3 :: o4 :: o5 :: o6 :: o7 :: o8 :: o9 :: o10 :: o11 :: o12 :: o13 :: o14 :: o15 :: o16 :: o17 :: o18 :: o19 :: o20 :: o21 :: o22 :: o23 :: o24 :: o25 :: o26 :: o27 :: o28 :: o29 :: o30 :: o31 :: o32 :: []).toArray (fun e a7 w7 => e = .normal ∧ (∃ s : KX B w0 n L E, w7 = s.val) ∧ K7 a7 w7) [o18] a6 w6) ∧ True) → K6 a6 w6) → wpList P (o0 :: o1 :: o2 :: o3 :: o4 :: o5 :: o6 :: o7 :: o8 :: o9 :: o10 :: o11 :: o12 :: o13 :: o14 :: o15 :: o16 :: o17 :: o18 :: o19 :: o20 :: o21 :: o22 :: o23 :: o24 :: o25 :: o26 :: o27 :: o28 :: o29 :: o30 :: o31 :: o32 :: []).toArray (fun e a6 w6 => e = .normal ∧ (∃ s : KX B w0 n L E, w6 = s.val) ∧ K6 a6 w6) [o14] a5 wk) ∧ True)) [o11, o13, o15, o17, o20, o22, o24, o26, o28] a4) [o10] a3) [o9] a2) [o7] a1) [o2, o4, o6] a0) [o0, o1, o3, o5, o8, o12, o16, o19, o21, o23, o25, o27, o30] a) : (Code.region id (o0 :: o1 :: o2 :: o3 :: o4 :: o5 :: o6 :: o7 :: o8 :: o9 :: o10 :: o11 :: o12 :: o13 :: o14 :: o15 :: o16 :: o17 :: o18 :: o19 :: o20 :: o21 :: o22 :: o23 :: o24 :: o25 :: o26 :: o27 :: o28 :: o29 :: o30 :: o31 :: o32 :: []).toArray true).wp P Q a w := by
  have e1 : E w.drew := hE _ _ he ((Below.refl _ _).drew)
  have g := h _ k.drew e1 (hF _ _ hf ((Below.refl _ _).drew))
  exact wp_region_scr (U := (fun w' => ∃ s : KX B w0 n L E, w' = s.val)) (ops := (o0 :: o1 :: o2 :: o3 :: o4 :: o5 :: o6 :: o7 :: o8 :: o9 :: o10 :: o11 :: o12 :: o13 :: o14 :: o15 :: o16 :: o17 :: o18 :: o19 :: o20 :: o21 :: o22 :: o23 :: o24 :: o25 :: o26 :: o27 :: o28 :: o29 :: o30 :: o31 :: o32 :: []).toArray) (.free 0 (.free 1 (.free 3 (.free 5 (.free 8 (.free 12 (.free 16 (.free 19 (.free 21 (.free 23 (.free 25 (.free 27 (.free 30 (.read 2 (.read 4 (.read 6 (.free 7 (.read 9 (.free 10 (.read 11 (.read 13 (.read 15 (.read 17 (.read 20 (.read 22 (.read 24 (.read 26 (.read 28 (.alt 14 (.alt 18 (.free 29 (.free 31 (.altc 32 .done .stop))) .stop) .stop))))))))))))))))))))))))))))) [2, 4, 6, 9, 11, 13, 15, 17, 20, 22, 24, 26, 28] [0, 1, 3, 5, 7, 8, 10, 12, 16, 19, 21, 23, 25, 27, 29, 30, 31] hm hB ⟨⟨_, k.drew, e1⟩, rfl⟩ (Scr.of_free rfl g (fun _ g0 => Scr.of_free rfl g0 (fun _ g1 => Scr.of_free rfl g1 (fun _ g2 => Scr.of_free rfl g2 (fun _ g3 => Scr.of_free rfl g3 (fun _ g4 => Scr.of_free rfl g4 (fun _ g5 => Scr.of_free rfl g5 (fun _ g6 => Scr.of_free rfl g6 (fun _ g7 => Scr.of_free rfl g7 (fun _ g8 => Scr.of_free rfl g8 (fun _ g9 => Scr.of_free rfl g9 (fun _ g10 => Scr.of_free rfl g10 (fun _ g11 => Scr.of_free rfl g11 (fun _ g12 => Scr.of_read rfl g12 (fun _ g13 => Scr.of_read rfl g13 (fun _ g14 => Scr.of_read rfl g14 (fun _ g15 => Scr.of_free rfl g15 (fun _ g16 => Scr.of_read rfl g16 (fun _ g17 => Scr.of_free rfl g17 (fun _ g18 => Scr.of_read rfl g18 (fun _ g19 => Scr.of_read rfl g19 (fun _ g20 => Scr.of_read rfl g20 (fun _ g21 => Scr.of_read rfl g21 (fun _ g22 => Scr.of_read rfl g22 (fun _ g23 => Scr.of_read rfl g23 (fun _ g24 => Scr.of_read rfl g24 (fun _ g25 => Scr.of_read rfl g25 (fun _ g26 => Scr.of_read rfl g26 (fun _ g27 => (Scr.of_alt rfl (g27.1 _ (fun _ _ g => g)) (fun _ _ g28 => (Scr.of_alt rfl (g28.1 _ (fun _ _ g => g)) (fun _ _ g29 => Scr.of_free rfl g29 (fun _ g30 => Scr.of_free rfl g30 (fun _ g31 => (Scr.of_altc rfl (g31.1 _ (fun _ _ g => g)) (fun _ _ g32 => g32) trivial)))) trivial)) trivial))))))))))))))))))))))))))))))
def Plain.pu0 (B : Bd) : Pu := ⟨zeroVs, zeroVs, B.st, B.qu, B.att, B.bl, B.tu, B.ac, B.ph, B.ho, B.pa⟩
theorem Ox.onlT {α : Type} {f : α → List Value} {sz : Nat} {e e' : TypeId} {lo hi : Nat} {w w' : World} {v : Value} {l : List α} {g : Nat} {cur : Array Value} (h : Ox f sz e lo hi w v l) (ho : Onl [g] w w') (hg : w.heap[g]? = some (.cells cur e' (0, 0))) (hne : e' ≠ e) : Ox f sz e lo hi w' v l :=
  h.keep (fun k a b hb => ho.block k (h.blk hb).2.2 (fun hm => by
    simp at hm
    subst hm
    obtain ⟨_, _, c, hc⟩ := h.1.typ _ hb
    rw [hg] at hc
    simp at hc
    exact hne hc.2))
theorem PuO.onlT {lo hi : Nat} {w w' : World} {s : Ps} {P : Pu} {g : Nat} {cur : Array Value} {e : TypeId} (h : PuO lo hi w s P) (ho : Onl [g] w w') (hg : w.heap[g]? = some (.cells cur e (0, 0))) (hne : e ≠ 79 ∧ e ≠ 3 ∧ e ≠ 107 ∧ e ≠ 100 ∧ e ≠ 105) : PuO lo hi w' s P :=
  ⟨h.f0.onlT ho hg hne.1, h.g0.onlT ho hg hne.1, h.f1.onlT ho hg hne.1, h.g1.onlT ho hg hne.1, h.st.onlT ho hg hne.2.2.2.1 hne.2.2.2.2, h.qu.onlT ho hg hne.2.2.2.1 hne.2.2.2.2, h.att.onlT ho hg hne.2.1, h.bl.onlT ho hg hne.2.2.1⟩
def Plain.puN (B : Bd) (p : Nat) : Pu := if p = 0 then pu0 B else if p = 1 then { pu0 B with s0 := vsB B.ob B.s0 } else puB B
def SfL (w : World) (s : Bs) (B : Bd) (Q p : Nat) (wr : World) : Prop := Below w.heap.size w wr ∧ Bx wr w.heap.size s B ∧ Px wr (w.heap.size + 1) nilPs zeroPu ∧ ∃ sp, Px wr Q sp (puN B p) ∧ PuO w.heap.size wr.heap.size wr sp (puN B p)
/-- the whole board is read, in a region that draws its order -/
theorem quiet_load_bx {C : World → Prop} {K : Act → Prop} {a a' : Act} {op : Oper} {P : Nat} {s : Bs} {B : Bd} (x : Operand) (ho : op.op = .load 34 x) (hx : a.eval x = .pointer (some ⟨P, 0, none⟩)) (h : ∀ w, C w → Bx w P s B) (ha : a.put op.dst (bv s B) = a') (hk : K a') : op.quiet Try.prog a C K := by
  subst ha
  refine ⟨bv s B, fun w hw => ?_, hk⟩
  have e := (h w hw).load
  have r : (execOp a.eval op).run Try.prog w = .ok (.value (bv s B)) w := by
    unfold execOp
    rw [ho]
    show (Bind.bind (Instr.loadAt 34 (a.eval x)) (fun v => pure (Next.value v)) : Sem Next).run Try.prog w = _
    rw [hx, Sem.run_bind, e]
    rfl
  unfold Oper.quietAt
  rw [r]
  exact ⟨rfl, rfl⟩
theorem SfL.keep {w : World} {s : Bs} {B : Bd} {Q p : Nat} {W W' : World} (h : SfL w s B Q p W) (hb : Below W.heap.size W W') : SfL w s B Q p W' := by
  obtain ⟨h1, h2, h3, sp, h4, h5⟩ := h
  exact ⟨below_via h1 hb, h2.below hb, h3.below hb, sp, h4.below hb, (h5.below hb).mono (Nat.le_refl _) hb.size⟩
def putAll (cs : Array Value) : Nat → List Value → Array Value
  | _, [] => cs
  | o, v :: r => putAll (cs.setIfInBounds o v) (o + 1) r
theorem row_setCells (T : TypeId) (b : Nat) : ∀ (vs : List Value) (o : Nat) (w : World) (cs : Array Value), w.heap[b]? = some (.cells cs T (0, 0)) → (w.setCells b o vs).heap[b]? = some (.cells (putAll cs o vs) T (0, 0))
  | [], _, _, _, h => h
  | v :: r, o, w, cs, h => row_setCells T b r (o + 1) _ _ (heap_setCell_same w b o _ _ v h)
def Ps.setS (s : Ps) (p : Nat) (f g : Sl) : Ps := if p = 0 then { s with f0 := f, g0 := g } else { s with f1 := f, g1 := g }
theorem Px.seat {W : World} {Q : Nat} {sp : Ps} {B : Bd} {p : Nat} (h : Px W Q sp (puN B p)) (hp : p < 2) (f g : Sl) {S : Se} (hS : B.seat p = S) : Px (W.setCells Q (p * 14) [.int .i64 S.li, .int .i64 S.p0, .int .i64 S.p1, .int .i64 S.p2, .int .i64 S.p3, .int .i64 (S.lib.length : Nat), .int .i64 (S.hand.length : Nat), f.v, g.v, .bool S.em, .bool S.py, .bool S.kp, .int .i64 S.mu, .int .i64 S.ac]) Q (sp.setS p f g) (puN B (p + 1)) := by
  subst hS
  have : p = 0 ∨ p = 1 := by omega
  rcases this with rfl | rfl
  · have := row_setCells 49 Q [.int .i64 (B.seat 0).li, .int .i64 (B.seat 0).p0, .int .i64 (B.seat 0).p1, .int .i64 (B.seat 0).p2, .int .i64 (B.seat 0).p3, .int .i64 ((B.seat 0).lib.length : Nat), .int .i64 ((B.seat 0).hand.length : Nat), f.v, g.v, .bool (B.seat 0).em, .bool (B.seat 0).py, .bool (B.seat 0).kp, .int .i64 (B.seat 0).mu, .int .i64 (B.seat 0).ac] (0 * 14) W _ h
    have e : putAll (pcells sp (puN B 0)) (0 * 14) [.int .i64 (B.seat 0).li, .int .i64 (B.seat 0).p0, .int .i64 (B.seat 0).p1, .int .i64 (B.seat 0).p2, .int .i64 (B.seat 0).p3, .int .i64 ((B.seat 0).lib.length : Nat), .int .i64 ((B.seat 0).hand.length : Nat), f.v, g.v, .bool (B.seat 0).em, .bool (B.seat 0).py, .bool (B.seat 0).kp, .int .i64 (B.seat 0).mu, .int .i64 (B.seat 0).ac] = pcells (sp.setS 0 f g) (puN B (0 + 1)) := by kernel_rfl
    rw [e] at this
    exact this
  · have := row_setCells 49 Q [.int .i64 (B.seat 1).li, .int .i64 (B.seat 1).p0, .int .i64 (B.seat 1).p1, .int .i64 (B.seat 1).p2, .int .i64 (B.seat 1).p3, .int .i64 ((B.seat 1).lib.length : Nat), .int .i64 ((B.seat 1).hand.length : Nat), f.v, g.v, .bool (B.seat 1).em, .bool (B.seat 1).py, .bool (B.seat 1).kp, .int .i64 (B.seat 1).mu, .int .i64 (B.seat 1).ac] (1 * 14) W _ h
    have e : putAll (pcells sp (puN B 1)) (1 * 14) [.int .i64 (B.seat 1).li, .int .i64 (B.seat 1).p0, .int .i64 (B.seat 1).p1, .int .i64 (B.seat 1).p2, .int .i64 (B.seat 1).p3, .int .i64 ((B.seat 1).lib.length : Nat), .int .i64 ((B.seat 1).hand.length : Nat), f.v, g.v, .bool (B.seat 1).em, .bool (B.seat 1).py, .bool (B.seat 1).kp, .int .i64 (B.seat 1).mu, .int .i64 (B.seat 1).ac] = pcells (sp.setS 1 f g) (puN B (1 + 1)) := by kernel_rfl
    rw [e] at this
    exact this
theorem puO_seat {lo hi : Nat} {w : World} {sp : Ps} {B : Bd} {p : Nat} {f g : Sl} {S : Se} (h : PuO lo hi w sp (puN B p)) (hp : p < 2) (hS : B.seat p = S) (hf : Ox oc 12 79 lo hi w f.v (obF B.ob S.fld)) (hg : Ox oc 12 79 lo hi w g.v (obF B.ob S.grv)) : PuO lo hi w (sp.setS p f g) (puN B (p + 1)) := by
  subst hS
  have : p = 0 ∨ p = 1 := by omega
  rcases this with rfl | rfl
  · exact ⟨hf, hg, h.f1, h.g1, h.st, h.qu, h.att, h.bl⟩
  · exact ⟨h.f0, h.g0, hf, hg, h.st, h.qu, h.att, h.bl⟩
theorem tgs_len {B : Bd} (h : VB B) : (∀ x ∈ B.st, x.tg.length ≤ 1000) ∧ ∀ x ∈ B.qu, x.tg.length ≤ 1000 := by
  have key : ∀ (l : List It) (q : Bool), l.all (fun x => itB x q) = true → ∀ x ∈ l, x.tg.length ≤ 1000 := fun l q h x hx => by
    have := List.all_eq_true.1 h x hx
    simp only [itB, itN, Bool.and_eq_true, decide_eq_true_eq] at this
    omega
  exact ⟨key _ _ h.its.1, key _ _ h.its.2⟩
set_option maxRecDepth 100000 in
set_option maxHeartbeats 4000000 in
theorem sof_ok (s : Bs) (B : Bd) (w : World) (h : BdR w s B) (hi : B.I) (hsm : B.Sm) (hv : VB B) : Calls Try.prog 23 #[bv s B] w (PrA w (puB B) (.int .i64 0)) := by
  have HR := Lib.hid h
  have HI := Lib.hid hi
  have HSM := Lib.hid hsm
  have HV := Lib.hid hv
  clear h hi hsm hv
  go_enter Try.func23, Try.ntmps23
  go_upto_region 1 with fail
  change Code.wp Try.prog _ _ _ ((w.alloc (.cells (bcells s B) 34)).alloc (.cells (pcells nilPs zeroPu) 49))
  obtain ⟨wz, hwz⟩ : ∃ W, W = (w.alloc (.cells (bcells s B) 34)).alloc (.cells (pcells nilPs zeroPu) 49) := ⟨_, rfl⟩
  have b1 : Below w.heap.size w (w.alloc (.cells (bcells s B) 34)) := (Below.refl _ _).alloc (Nat.le_refl _) _
  have b2 : Below (w.alloc (.cells (bcells s B) 34)).heap.size (w.alloc (.cells (bcells s B) 34)) wz := by rw [hwz]; exact (Below.refl _ _).alloc (Nat.le_refl _) _
  have HX : Hid (Bx wz w.heap.size s B) := Lib.hid (Bx.below (w := w.alloc (.cells (bcells s B) 34)) (heap_alloc_new _ _) b2)
  have HZ : Hid (Px wz (w.heap.size + 1) nilPs zeroPu) := Lib.hid (by rw [hwz, show w.heap.size + 1 = (w.alloc (.cells (bcells s B) 34)).heap.size by simp]; exact heap_alloc_new _ _)
  have HB : Hid (Below w.heap.size w wz) := Lib.hid (below_via b1 b2)
  rw [← hwz]
  clear hwz b1 b2
  go_wp2_with (refine wpList_load_bx _ rfl rfl HX.out (by kernel_rfl) ?_)
  with_reducible refine (bvalid s B _ (HR.out.below HB.out) HI.out HSM.out).mono ?_
  rintro e w1 ⟨⟨r, rfl, hr⟩, hb⟩
  obtain rfl : r = true := hr.2 HV.out
  replace HX := Lib.hid (HX.out.below hb)
  replace HZ := Lib.hid (HZ.out.below hb)
  replace HB := Lib.hid (below_via HB.out hb)
  clear hr hb
  have hr := HR.out.below HB.out
  obtain ⟨⟨sta, stn, stc⟩, est⟩ : ∃ q, s.st = q := ⟨_, rfl⟩
  obtain ⟨⟨qua, qun, quc⟩, equ⟩ : ∃ q, s.qu = q := ⟨_, rfl⟩
  obtain ⟨⟨ata, atn, atc⟩, eat⟩ : ∃ q, s.at' = q := ⟨_, rfl⟩
  obtain ⟨⟨bla, bln, blc⟩, ebl⟩ : ∃ q, s.bl = q := ⟨_, rfl⟩
  have HST : Hid (ItR w1 (.slice sta stn stc) B.st) := Lib.hid (by have h := hr.st; rw [est] at h; exact h)
  have HQU : Hid (ItR w1 (.slice qua qun quc) B.qu) := Lib.hid (by have h := hr.qu; rw [equ] at h; exact h)
  have HAT : Hid (Rw ic 1 w1 (.slice ata atn atc) B.att) := Lib.hid (by have h := hr.att; rw [eat] at h; exact h)
  have HBL : Hid (Rw kc 2 w1 (.slice bla bln blc) B.bl) := Lib.hid (by have h := hr.bl; rw [ebl] at h; exact h)
  have e29 : w1.cell? ⟨w.heap.size, 29, none⟩ = some (.slice sta stn stc) := by have h := HX.out.cell 29; rw [h]; show some s.st.v = _; rw [est]; rfl
  have e30 : w1.cell? ⟨w.heap.size, 30, none⟩ = some (.slice qua qun quc) := by have h := HX.out.cell 30; rw [h]; show some s.qu.v = _; rw [equ]; rfl
  have e31 : w1.cell? ⟨w.heap.size, 31, none⟩ = some (.slice ata atn atc) := by have h := HX.out.cell 31; rw [h]; show some s.at'.v = _; rw [eat]; rfl
  have e32 : w1.cell? ⟨w.heap.size, 32, none⟩ = some (.slice bla bln blc) := by have h := HX.out.cell 32; rw [h]; show some s.bl.v = _; rw [ebl]; rfl
  have e33 : w1.cell? ⟨w.heap.size, 33, none⟩ = some (.int .i64 B.tu) := HX.out.cell 33
  have e34 : w1.cell? ⟨w.heap.size, 34, none⟩ = some (.int .i64 B.ac) := HX.out.cell 34
  have e35 : w1.cell? ⟨w.heap.size, 35, none⟩ = some (.int .i64 B.ph) := HX.out.cell 35
  have e36 : w1.cell? ⟨w.heap.size, 36, none⟩ = some (.int .i64 B.ho) := HX.out.cell 36
  have e37 : w1.cell? ⟨w.heap.size, 37, none⟩ = some (.int .i64 B.pa) := HX.out.cell 37
  have HLS : Hid (B.st.length ≤ 1000 ∧ B.qu.length ≤ 1000 ∧ B.att.length ≤ 1000 ∧ B.bl.length ≤ 1000) := Lib.hid ⟨HSM.out.st, HSM.out.qu, HSM.out.att, HSM.out.bl⟩
  have HTL : Hid ((∀ x ∈ B.st, x.tg.length ≤ 1000) ∧ ∀ x ∈ B.qu, x.tg.length ≤ 1000) := Lib.hid (tgs_len HV.out)
  have lp := HX.out.lt
  have HZ0 := Lib.hid HZ.out.lt
  clear hr est equ eat ebl
  go_upto_region 3 with fail
  go_cut [4] (fun s4 wx => ∃ Q sp, s4 = .pointer (some ⟨Q, 0, none⟩) ∧ Below w1.heap.size w1 wx ∧ w1.heap.size ≤ Q ∧ Px wx Q sp (pu0 B) ∧ PuO w1.heap.size wx.heap.size wx sp (pu0 B))
  case first =>
    refine rg23_3 (w0 := w1) (B := w1.heap.size) (n := w1.heap.size) (L := []) (E := fun _ => True) (F := fun _ => True) (by kernel_rfl) (by kernel_rfl) ⟨by go_grown, by go_size, (by simp [go_sem] <;> omega)⟩ trivial (fun _ _ _ _ => trivial) trivial (fun _ _ _ _ => trivial) (fun w31 K_w31 E_w31 F_w31 => ?_)
    have _ne : Nonempty (KX (w1.heap.size) w1 (w1.heap.size) [] (fun _ => True)) := ⟨⟨_, K_w31, E_w31⟩⟩
    repeat (go_big_quiet_step (fail))
    refine wpQuiet_nil ?_
    have r29 : ∀ s : KX (w1.heap.size) w1 (w1.heap.size) [] (fun _ => True), s.val.cell? ⟨w.heap.size, 29, none⟩ = some (.slice sta stn stc) := fun s => (s.kept.below.cell (p := ⟨w.heap.size, 29, none⟩) lp).trans e29
    have r30 : ∀ s : KX (w1.heap.size) w1 (w1.heap.size) [] (fun _ => True), s.val.cell? ⟨w.heap.size, 30, none⟩ = some (.slice qua qun quc) := fun s => (s.kept.below.cell (p := ⟨w.heap.size, 30, none⟩) lp).trans e30
    have r31 : ∀ s : KX (w1.heap.size) w1 (w1.heap.size) [] (fun _ => True), s.val.cell? ⟨w.heap.size, 31, none⟩ = some (.slice ata atn atc) := fun s => (s.kept.below.cell (p := ⟨w.heap.size, 31, none⟩) lp).trans e31
    have r32 : ∀ s : KX (w1.heap.size) w1 (w1.heap.size) [] (fun _ => True), s.val.cell? ⟨w.heap.size, 32, none⟩ = some (.slice bla bln blc) := fun s => (s.kept.below.cell (p := ⟨w.heap.size, 32, none⟩) lp).trans e32
    have r33 : ∀ s : KX (w1.heap.size) w1 (w1.heap.size) [] (fun _ => True), s.val.cell? ⟨w.heap.size, 33, none⟩ = some (.int .i64 B.tu) := fun s => (s.kept.below.cell (p := ⟨w.heap.size, 33, none⟩) lp).trans e33
    have r34 : ∀ s : KX (w1.heap.size) w1 (w1.heap.size) [] (fun _ => True), s.val.cell? ⟨w.heap.size, 34, none⟩ = some (.int .i64 B.ac) := fun s => (s.kept.below.cell (p := ⟨w.heap.size, 34, none⟩) lp).trans e34
    have r35 : ∀ s : KX (w1.heap.size) w1 (w1.heap.size) [] (fun _ => True), s.val.cell? ⟨w.heap.size, 35, none⟩ = some (.int .i64 B.ph) := fun s => (s.kept.below.cell (p := ⟨w.heap.size, 35, none⟩) lp).trans e35
    have r36 : ∀ s : KX (w1.heap.size) w1 (w1.heap.size) [] (fun _ => True), s.val.cell? ⟨w.heap.size, 36, none⟩ = some (.int .i64 B.ho) := fun s => (s.kept.below.cell (p := ⟨w.heap.size, 36, none⟩) lp).trans e36
    have r37 : ∀ s : KX (w1.heap.size) w1 (w1.heap.size) [] (fun _ => True), s.val.cell? ⟨w.heap.size, 37, none⟩ = some (.int .i64 B.pa) := fun s => (s.kept.below.cell (p := ⟨w.heap.size, 37, none⟩) lp).trans e37
    repeat (go_big_quiet_step (fail))
    refine wpQuiet_nil ?_
    clear r29 r30 r31 r32 r33 r34 r35 r36 r37
    have KH_w31 := Lib.hid K_w31
    have hw_w31 := K_w31.below
    have hz_w31 := K_w31.size
    clear K_w31
    clear E_w31 F_w31
    refine ⟨fun K hK0 => ?_, fun K hK0 => ?_, trivial⟩
    · skip
      have hK := Lib.hid hK0
      clear hK0
      have HBR : Hid (Below w1.heap.size w1 w31) := Lib.hid KH_w31.out.below
      go_wp2_with fail
      with_reducible refine (sitems _ B.st w31 (HST.out.below HBR.out) HLS.out.1 HTL.out.1).mono ?_
      rintro e v0 ⟨sta2, stc2, rfl, ho, hb⟩
      have HOst := Lib.hid (ho.mono (lo' := w1.heap.size) (hi' := v0.heap.size) HBR.out.size (Nat.le_refl _))
      replace HBR := Lib.hid (below_via HBR.out hb)
      clear ho hb
      go_wp2_with fail
      first | (refine ⟨rfl, ⟨⟨_, (⟨HBR.out, HBR.out.size, by simp⟩ : Kept w1.heap.size w1 w1.heap.size [] v0), trivial⟩, rfl⟩, hK.out _ _ ?_⟩; clear hK K) | (refine ⟨⟨⟨_, (⟨HBR.out, HBR.out.size, by simp⟩ : Kept w1.heap.size w1 w1.heap.size [] v0), trivial⟩, rfl⟩, hK.out _ _ ?_⟩; clear hK K)
      refine ⟨fun K hK0 => ?_, fun K hK0 => ?_, trivial⟩
      · skip
        have hK := Lib.hid hK0
        clear hK0
        go_wp2_with fail
        with_reducible refine (sitems _ B.qu v0 (HQU.out.below HBR.out) HLS.out.2.1 HTL.out.2).mono ?_
        rintro e v1 ⟨qua2, quc2, rfl, ho, hb⟩
        have HOqu := Lib.hid (ho.mono (lo' := w1.heap.size) (hi' := v1.heap.size) HBR.out.size (Nat.le_refl _))
        replace HOst := Lib.hid ((HOst.out.below hb).mono (lo' := w1.heap.size) (hi' := v1.heap.size) (Nat.le_refl _) hb.size)
        replace HBR := Lib.hid (below_via HBR.out hb)
        clear ho hb
        go_wp2_with fail
        first | (refine ⟨rfl, ⟨⟨_, (⟨HBR.out, HBR.out.size, by simp⟩ : Kept w1.heap.size w1 w1.heap.size [] v1), trivial⟩, rfl⟩, hK.out _ _ ?_⟩; clear hK K) | (refine ⟨⟨⟨_, (⟨HBR.out, HBR.out.size, by simp⟩ : Kept w1.heap.size w1 w1.heap.size [] v1), trivial⟩, rfl⟩, hK.out _ _ ?_⟩; clear hK K)
        refine ⟨fun K hK0 => ?_, fun K hK0 => ?_, trivial⟩
        · skip
          have hK := Lib.hid hK0
          clear hK0
          go_wp2_with fail
          with_reducible refine (cloneI _ v1 (HAT.out.below HBR.out) HLS.out.2.2.1).mono ?_
          rintro e v2 ⟨ata2, atc2, rfl, ho, hb⟩
          have HOat := Lib.hid (ho.mono (lo' := w1.heap.size) (hi' := v2.heap.size) HBR.out.size (Nat.le_refl _))
          replace HOst := Lib.hid ((HOst.out.below hb).mono (lo' := w1.heap.size) (hi' := v2.heap.size) (Nat.le_refl _) hb.size)
          replace HOqu := Lib.hid ((HOqu.out.below hb).mono (lo' := w1.heap.size) (hi' := v2.heap.size) (Nat.le_refl _) hb.size)
          replace HBR := Lib.hid (below_via HBR.out hb)
          clear ho hb
          go_wp2_with fail
          first | (refine ⟨rfl, ⟨⟨_, (⟨HBR.out, HBR.out.size, by simp⟩ : Kept w1.heap.size w1 w1.heap.size [] v2), trivial⟩, rfl⟩, hK.out _ _ ?_⟩; clear hK K) | (refine ⟨⟨⟨_, (⟨HBR.out, HBR.out.size, by simp⟩ : Kept w1.heap.size w1 w1.heap.size [] v2), trivial⟩, rfl⟩, hK.out _ _ ?_⟩; clear hK K)
          refine ⟨fun K hK0 => ?_, fun K hK0 => ?_, trivial⟩
          · skip
            have hK := Lib.hid hK0
            clear hK0
            go_wp2_with fail
            with_reducible refine (cloneK _ v2 (HBL.out.below HBR.out) HLS.out.2.2.2).mono ?_
            rintro e v3 ⟨bla2, blc2, rfl, ho, hb⟩
            have HObl := Lib.hid (ho.mono (lo' := w1.heap.size) (hi' := v3.heap.size) HBR.out.size (Nat.le_refl _))
            replace HOst := Lib.hid ((HOst.out.below hb).mono (lo' := w1.heap.size) (hi' := v3.heap.size) (Nat.le_refl _) hb.size)
            replace HOqu := Lib.hid ((HOqu.out.below hb).mono (lo' := w1.heap.size) (hi' := v3.heap.size) (Nat.le_refl _) hb.size)
            replace HOat := Lib.hid ((HOat.out.below hb).mono (lo' := w1.heap.size) (hi' := v3.heap.size) (Nat.le_refl _) hb.size)
            replace HBR := Lib.hid (below_via HBR.out hb)
            clear ho hb
            go_wp2_with fail
            first | (refine ⟨rfl, ⟨⟨_, (⟨HBR.out, HBR.out.size, by simp⟩ : Kept w1.heap.size w1 w1.heap.size [] v3), trivial⟩, rfl⟩, hK.out _ _ ?_⟩; clear hK K) | (refine ⟨⟨⟨_, (⟨HBR.out, HBR.out.size, by simp⟩ : Kept w1.heap.size w1 w1.heap.size [] v3), trivial⟩, rfl⟩, hK.out _ _ ?_⟩; clear hK K)
            repeat (go_big_quiet_step (fail))
            refine wpQuiet_nil ?_
            refine ⟨fun K hK0 => ?_, trivial⟩
            have hK := Lib.hid hK0
            clear hK0
            go_wp2_with fail
            obtain ⟨v4, hV⟩ : ∃ X, X = v3.alloc (.cells #[.int .i64 0, .int .i64 0, .int .i64 0, .int .i64 0, .int .i64 0, .int .i64 0, .int .i64 0, .slice none 0 0, .slice none 0 0, .bool false, .bool false, .bool false, .int .i64 0, .int .i64 0, .int .i64 0, .int .i64 0, .int .i64 0, .int .i64 0, .int .i64 0, .int .i64 0, .int .i64 0, .slice none 0 0, .slice none 0 0, .bool false, .bool false, .bool false, .int .i64 0, .int .i64 0, .slice none 0 0, .slice none 0 0, .slice none 0 0, .slice none 0 0, .int .i64 0, .int .i64 0, .int .i64 0, .int .i64 0, .int .i64 0] 49) := ⟨_, rfl⟩
            rw [← hV]
            have hb : Below v3.heap.size v3 v4 := by rw [hV]; exact (Below.refl _ _).alloc (Nat.le_refl _) _
            have hpx : Px v4 v3.heap.size nilPs zeroPu := by rw [hV]; exact heap_alloc_new _ _
            obtain ⟨Q, hQ⟩ : ∃ n, n = v3.heap.size := ⟨_, rfl⟩
            have HQ : Hid (w1.heap.size ≤ Q) := Lib.hid (by rw [hQ]; exact HBR.out.size)
            rw [← hQ] at hpx ⊢
            have HPX := Lib.hid hpx
            replace HOst := Lib.hid ((HOst.out.below hb).mono (lo' := w1.heap.size) (hi' := v4.heap.size) (Nat.le_refl _) hb.size)
            replace HOqu := Lib.hid ((HOqu.out.below hb).mono (lo' := w1.heap.size) (hi' := v4.heap.size) (Nat.le_refl _) hb.size)
            replace HOat := Lib.hid ((HOat.out.below hb).mono (lo' := w1.heap.size) (hi' := v4.heap.size) (Nat.le_refl _) hb.size)
            replace HObl := Lib.hid ((HObl.out.below hb).mono (lo' := w1.heap.size) (hi' := v4.heap.size) (Nat.le_refl _) hb.size)
            replace HBR := Lib.hid (below_via HBR.out hb)
            clear hV hb hpx hQ
            first | (refine ⟨rfl, ⟨⟨_, (⟨HBR.out, HBR.out.size, by simp⟩ : Kept w1.heap.size w1 w1.heap.size [] v4), trivial⟩, rfl⟩, hK.out _ _ ?_⟩; clear hK K) | (refine ⟨⟨⟨_, (⟨HBR.out, HBR.out.size, by simp⟩ : Kept w1.heap.size w1 w1.heap.size [] v4), trivial⟩, rfl⟩, hK.out _ _ ?_⟩; clear hK K)
            refine ⟨fun K hK0 => ?_, trivial⟩
            have hK := Lib.hid hK0
            clear hK0
            go_wp2_with (refine wpList_store_ph (s := ⟨nilSl, nilSl, nilSl, nilSl, ⟨sta2, B.st.length, stc2⟩, ⟨qua2, B.qu.length, quc2⟩, ⟨ata2, B.att.length, atc2⟩, ⟨bla2, B.bl.length, blc2⟩⟩) (P := pu0 B) rfl _ _ rfl rfl rfl HPX.out rfl ?_)
            intro v5 hw0
            have ho : Onl [Q] v4 v5 := by rw [hw0.out]; exact Onl.setRow (Onl.refl _ _) (.inl (by simp)) _
            have HPY : Hid (Px v5 Q ⟨nilSl, nilSl, nilSl, nilSl, ⟨sta2, B.st.length, stc2⟩, ⟨qua2, B.qu.length, quc2⟩, ⟨ata2, B.att.length, atc2⟩, ⟨bla2, B.bl.length, blc2⟩⟩ (pu0 B)) := Lib.hid (by rw [hw0.out]; exact Px.row HPX.out _ _)
            have HOY : Hid (PuO w1.heap.size v5.heap.size v5 ⟨nilSl, nilSl, nilSl, nilSl, ⟨sta2, B.st.length, stc2⟩, ⟨qua2, B.qu.length, quc2⟩, ⟨ata2, B.att.length, atc2⟩, ⟨bla2, B.bl.length, blc2⟩⟩ (pu0 B)) := Lib.hid ⟨Ox.nil _ _ _ _, Ox.nil _ _ _ _, Ox.nil _ _ _ _, Ox.nil _ _ _ _, (HOst.out.onlT ho HPX.out (by decide) (by decide)).mono (Nat.le_refl _) ho.size, (HOqu.out.onlT ho HPX.out (by decide) (by decide)).mono (Nat.le_refl _) ho.size, (HOat.out.onlT ho HPX.out (by decide)).mono (Nat.le_refl _) ho.size, (HObl.out.onlT ho HPX.out (by decide)).mono (Nat.le_refl _) ho.size⟩
            have HBY : Hid (Below w1.heap.size w1 v5) := Lib.hid (belowOnl HBR.out ho (by have := HQ.out; simpa using this) HBR.out.size)
            clear hw0 ho
            go_wp2_with fail
            first | (refine ⟨rfl, ⟨⟨_, (⟨HBY.out, HBY.out.size, by simp⟩ : Kept w1.heap.size w1 w1.heap.size [] v5), trivial⟩, rfl⟩, hK.out _ _ ?_⟩; clear hK K) | (refine ⟨⟨⟨_, (⟨HBY.out, HBY.out.size, by simp⟩ : Kept w1.heap.size w1 w1.heap.size [] v5), trivial⟩, rfl⟩, hK.out _ _ ?_⟩; clear hK K)
            clear _ne
            go_wp2_with fail
            go_meet
            case rel => exact ⟨Q, _, rfl, HBY.out, HQ.out, HPY.out, HOY.out⟩
          · skip
            have hK := Lib.hid hK0
            clear hK0
            go_wp2_with fail
            obtain ⟨v6, hV⟩ : ∃ X, X = v2.alloc (.cells #[.int .i64 0, .int .i64 0, .int .i64 0, .int .i64 0, .int .i64 0, .int .i64 0, .int .i64 0, .slice none 0 0, .slice none 0 0, .bool false, .bool false, .bool false, .int .i64 0, .int .i64 0, .int .i64 0, .int .i64 0, .int .i64 0, .int .i64 0, .int .i64 0, .int .i64 0, .int .i64 0, .slice none 0 0, .slice none 0 0, .bool false, .bool false, .bool false, .int .i64 0, .int .i64 0, .slice none 0 0, .slice none 0 0, .slice none 0 0, .slice none 0 0, .int .i64 0, .int .i64 0, .int .i64 0, .int .i64 0, .int .i64 0] 49) := ⟨_, rfl⟩
            rw [← hV]
            have hb : Below v2.heap.size v2 v6 := by rw [hV]; exact (Below.refl _ _).alloc (Nat.le_refl _) _
            have hpx : Px v6 v2.heap.size nilPs zeroPu := by rw [hV]; exact heap_alloc_new _ _
            obtain ⟨Q, hQ⟩ : ∃ n, n = v2.heap.size := ⟨_, rfl⟩
            have HQ : Hid (w1.heap.size ≤ Q) := Lib.hid (by rw [hQ]; exact HBR.out.size)
            rw [← hQ] at hpx ⊢
            have HPX := Lib.hid hpx
            replace HOst := Lib.hid ((HOst.out.below hb).mono (lo' := w1.heap.size) (hi' := v6.heap.size) (Nat.le_refl _) hb.size)
            replace HOqu := Lib.hid ((HOqu.out.below hb).mono (lo' := w1.heap.size) (hi' := v6.heap.size) (Nat.le_refl _) hb.size)
            replace HOat := Lib.hid ((HOat.out.below hb).mono (lo' := w1.heap.size) (hi' := v6.heap.size) (Nat.le_refl _) hb.size)
            replace HBR := Lib.hid (below_via HBR.out hb)
            clear hV hb hpx hQ
            first | (refine ⟨rfl, ⟨⟨_, (⟨HBR.out, HBR.out.size, by simp⟩ : Kept w1.heap.size w1 w1.heap.size [] v6), trivial⟩, rfl⟩, hK.out _ _ ?_⟩; clear hK K) | (refine ⟨⟨⟨_, (⟨HBR.out, HBR.out.size, by simp⟩ : Kept w1.heap.size w1 w1.heap.size [] v6), trivial⟩, rfl⟩, hK.out _ _ ?_⟩; clear hK K)
            refine ⟨fun K hK0 => ?_, trivial⟩
            have hK := Lib.hid hK0
            clear hK0
            go_wp2_with fail
            with_reducible refine (cloneK _ v6 (HBL.out.below HBR.out) HLS.out.2.2.2).mono ?_
            rintro e v7 ⟨bla2, blc2, rfl, ho, hb⟩
            have HObl := Lib.hid (ho.mono (lo' := w1.heap.size) (hi' := v7.heap.size) HBR.out.size (Nat.le_refl _))
            replace HOst := Lib.hid ((HOst.out.below hb).mono (lo' := w1.heap.size) (hi' := v7.heap.size) (Nat.le_refl _) hb.size)
            replace HOqu := Lib.hid ((HOqu.out.below hb).mono (lo' := w1.heap.size) (hi' := v7.heap.size) (Nat.le_refl _) hb.size)
            replace HOat := Lib.hid ((HOat.out.below hb).mono (lo' := w1.heap.size) (hi' := v7.heap.size) (Nat.le_refl _) hb.size)
            replace HPX := Lib.hid (HPX.out.below hb)
            replace HBR := Lib.hid (below_via HBR.out hb)
            clear ho hb
            go_wp2_with fail
            first | (refine ⟨rfl, ⟨⟨_, (⟨HBR.out, HBR.out.size, by simp⟩ : Kept w1.heap.size w1 w1.heap.size [] v7), trivial⟩, rfl⟩, hK.out _ _ ?_⟩; clear hK K) | (refine ⟨⟨⟨_, (⟨HBR.out, HBR.out.size, by simp⟩ : Kept w1.heap.size w1 w1.heap.size [] v7), trivial⟩, rfl⟩, hK.out _ _ ?_⟩; clear hK K)
            repeat (go_big_quiet_step (fail))
            refine wpQuiet_nil ?_
            refine ⟨fun K hK0 => ?_, trivial⟩
            have hK := Lib.hid hK0
            clear hK0
            go_wp2_with (refine wpList_store_ph (s := ⟨nilSl, nilSl, nilSl, nilSl, ⟨sta2, B.st.length, stc2⟩, ⟨qua2, B.qu.length, quc2⟩, ⟨ata2, B.att.length, atc2⟩, ⟨bla2, B.bl.length, blc2⟩⟩) (P := pu0 B) rfl _ _ rfl rfl rfl HPX.out rfl ?_)
            intro v8 hw0
            have ho : Onl [Q] v7 v8 := by rw [hw0.out]; exact Onl.setRow (Onl.refl _ _) (.inl (by simp)) _
            have HPY : Hid (Px v8 Q ⟨nilSl, nilSl, nilSl, nilSl, ⟨sta2, B.st.length, stc2⟩, ⟨qua2, B.qu.length, quc2⟩, ⟨ata2, B.att.length, atc2⟩, ⟨bla2, B.bl.length, blc2⟩⟩ (pu0 B)) := Lib.hid (by rw [hw0.out]; exact Px.row HPX.out _ _)
            have HOY : Hid (PuO w1.heap.size v8.heap.size v8 ⟨nilSl, nilSl, nilSl, nilSl, ⟨sta2, B.st.length, stc2⟩, ⟨qua2, B.qu.length, quc2⟩, ⟨ata2, B.att.length, atc2⟩, ⟨bla2, B.bl.length, blc2⟩⟩ (pu0 B)) := Lib.hid ⟨Ox.nil _ _ _ _, Ox.nil _ _ _ _, Ox.nil _ _ _ _, Ox.nil _ _ _ _, (HOst.out.onlT ho HPX.out (by decide) (by decide)).mono (Nat.le_refl _) ho.size, (HOqu.out.onlT ho HPX.out (by decide) (by decide)).mono (Nat.le_refl _) ho.size, (HOat.out.onlT ho HPX.out (by decide)).mono (Nat.le_refl _) ho.size, (HObl.out.onlT ho HPX.out (by decide)).mono (Nat.le_refl _) ho.size⟩
            have HBY : Hid (Below w1.heap.size w1 v8) := Lib.hid (belowOnl HBR.out ho (by have := HQ.out; simpa using this) HBR.out.size)
            clear hw0 ho
            go_wp2_with fail
            first | (refine ⟨rfl, ⟨⟨_, (⟨HBY.out, HBY.out.size, by simp⟩ : Kept w1.heap.size w1 w1.heap.size [] v8), trivial⟩, rfl⟩, hK.out _ _ ?_⟩; clear hK K) | (refine ⟨⟨⟨_, (⟨HBY.out, HBY.out.size, by simp⟩ : Kept w1.heap.size w1 w1.heap.size [] v8), trivial⟩, rfl⟩, hK.out _ _ ?_⟩; clear hK K)
            clear _ne
            go_wp2_with fail
            go_meet
            case rel => exact ⟨Q, _, rfl, HBY.out, HQ.out, HPY.out, HOY.out⟩
        · skip
          have hK := Lib.hid hK0
          clear hK0
          go_wp2_with fail
          obtain ⟨v9, hV⟩ : ∃ X, X = v1.alloc (.cells #[.int .i64 0, .int .i64 0, .int .i64 0, .int .i64 0, .int .i64 0, .int .i64 0, .int .i64 0, .slice none 0 0, .slice none 0 0, .bool false, .bool false, .bool false, .int .i64 0, .int .i64 0, .int .i64 0, .int .i64 0, .int .i64 0, .int .i64 0, .int .i64 0, .int .i64 0, .int .i64 0, .slice none 0 0, .slice none 0 0, .bool false, .bool false, .bool false, .int .i64 0, .int .i64 0, .slice none 0 0, .slice none 0 0, .slice none 0 0, .slice none 0 0, .int .i64 0, .int .i64 0, .int .i64 0, .int .i64 0, .int .i64 0] 49) := ⟨_, rfl⟩
          rw [← hV]
          have hb : Below v1.heap.size v1 v9 := by rw [hV]; exact (Below.refl _ _).alloc (Nat.le_refl _) _
          have hpx : Px v9 v1.heap.size nilPs zeroPu := by rw [hV]; exact heap_alloc_new _ _
          obtain ⟨Q, hQ⟩ : ∃ n, n = v1.heap.size := ⟨_, rfl⟩
          have HQ : Hid (w1.heap.size ≤ Q) := Lib.hid (by rw [hQ]; exact HBR.out.size)
          rw [← hQ] at hpx ⊢
          have HPX := Lib.hid hpx
          replace HOst := Lib.hid ((HOst.out.below hb).mono (lo' := w1.heap.size) (hi' := v9.heap.size) (Nat.le_refl _) hb.size)
          replace HOqu := Lib.hid ((HOqu.out.below hb).mono (lo' := w1.heap.size) (hi' := v9.heap.size) (Nat.le_refl _) hb.size)
          replace HBR := Lib.hid (below_via HBR.out hb)
          clear hV hb hpx hQ
          first | (refine ⟨rfl, ⟨⟨_, (⟨HBR.out, HBR.out.size, by simp⟩ : Kept w1.heap.size w1 w1.heap.size [] v9), trivial⟩, rfl⟩, hK.out _ _ ?_⟩; clear hK K) | (refine ⟨⟨⟨_, (⟨HBR.out, HBR.out.size, by simp⟩ : Kept w1.heap.size w1 w1.heap.size [] v9), trivial⟩, rfl⟩, hK.out _ _ ?_⟩; clear hK K)
          refine ⟨fun K hK0 => ?_, trivial⟩
          have hK := Lib.hid hK0
          clear hK0
          go_wp2_with fail
          with_reducible refine (cloneI _ v9 (HAT.out.below HBR.out) HLS.out.2.2.1).mono ?_
          rintro e v10 ⟨ata2, atc2, rfl, ho, hb⟩
          have HOat := Lib.hid (ho.mono (lo' := w1.heap.size) (hi' := v10.heap.size) HBR.out.size (Nat.le_refl _))
          replace HOst := Lib.hid ((HOst.out.below hb).mono (lo' := w1.heap.size) (hi' := v10.heap.size) (Nat.le_refl _) hb.size)
          replace HOqu := Lib.hid ((HOqu.out.below hb).mono (lo' := w1.heap.size) (hi' := v10.heap.size) (Nat.le_refl _) hb.size)
          replace HPX := Lib.hid (HPX.out.below hb)
          replace HBR := Lib.hid (below_via HBR.out hb)
          clear ho hb
          go_wp2_with fail
          first | (refine ⟨rfl, ⟨⟨_, (⟨HBR.out, HBR.out.size, by simp⟩ : Kept w1.heap.size w1 w1.heap.size [] v10), trivial⟩, rfl⟩, hK.out _ _ ?_⟩; clear hK K) | (refine ⟨⟨⟨_, (⟨HBR.out, HBR.out.size, by simp⟩ : Kept w1.heap.size w1 w1.heap.size [] v10), trivial⟩, rfl⟩, hK.out _ _ ?_⟩; clear hK K)
          refine ⟨fun K hK0 => ?_, trivial⟩
          have hK := Lib.hid hK0
          clear hK0
          go_wp2_with fail
          with_reducible refine (cloneK _ v10 (HBL.out.below HBR.out) HLS.out.2.2.2).mono ?_
          rintro e v11 ⟨bla2, blc2, rfl, ho, hb⟩
          have HObl := Lib.hid (ho.mono (lo' := w1.heap.size) (hi' := v11.heap.size) HBR.out.size (Nat.le_refl _))
          replace HOst := Lib.hid ((HOst.out.below hb).mono (lo' := w1.heap.size) (hi' := v11.heap.size) (Nat.le_refl _) hb.size)
          replace HOqu := Lib.hid ((HOqu.out.below hb).mono (lo' := w1.heap.size) (hi' := v11.heap.size) (Nat.le_refl _) hb.size)
          replace HOat := Lib.hid ((HOat.out.below hb).mono (lo' := w1.heap.size) (hi' := v11.heap.size) (Nat.le_refl _) hb.size)
          replace HPX := Lib.hid (HPX.out.below hb)
          replace HBR := Lib.hid (below_via HBR.out hb)
          clear ho hb
          go_wp2_with fail
          first | (refine ⟨rfl, ⟨⟨_, (⟨HBR.out, HBR.out.size, by simp⟩ : Kept w1.heap.size w1 w1.heap.size [] v11), trivial⟩, rfl⟩, hK.out _ _ ?_⟩; clear hK K) | (refine ⟨⟨⟨_, (⟨HBR.out, HBR.out.size, by simp⟩ : Kept w1.heap.size w1 w1.heap.size [] v11), trivial⟩, rfl⟩, hK.out _ _ ?_⟩; clear hK K)
          repeat (go_big_quiet_step (fail))
          refine wpQuiet_nil ?_
          refine ⟨fun K hK0 => ?_, trivial⟩
          have hK := Lib.hid hK0
          clear hK0
          go_wp2_with (refine wpList_store_ph (s := ⟨nilSl, nilSl, nilSl, nilSl, ⟨sta2, B.st.length, stc2⟩, ⟨qua2, B.qu.length, quc2⟩, ⟨ata2, B.att.length, atc2⟩, ⟨bla2, B.bl.length, blc2⟩⟩) (P := pu0 B) rfl _ _ rfl rfl rfl HPX.out rfl ?_)
          intro v12 hw0
          have ho : Onl [Q] v11 v12 := by rw [hw0.out]; exact Onl.setRow (Onl.refl _ _) (.inl (by simp)) _
          have HPY : Hid (Px v12 Q ⟨nilSl, nilSl, nilSl, nilSl, ⟨sta2, B.st.length, stc2⟩, ⟨qua2, B.qu.length, quc2⟩, ⟨ata2, B.att.length, atc2⟩, ⟨bla2, B.bl.length, blc2⟩⟩ (pu0 B)) := Lib.hid (by rw [hw0.out]; exact Px.row HPX.out _ _)
          have HOY : Hid (PuO w1.heap.size v12.heap.size v12 ⟨nilSl, nilSl, nilSl, nilSl, ⟨sta2, B.st.length, stc2⟩, ⟨qua2, B.qu.length, quc2⟩, ⟨ata2, B.att.length, atc2⟩, ⟨bla2, B.bl.length, blc2⟩⟩ (pu0 B)) := Lib.hid ⟨Ox.nil _ _ _ _, Ox.nil _ _ _ _, Ox.nil _ _ _ _, Ox.nil _ _ _ _, (HOst.out.onlT ho HPX.out (by decide) (by decide)).mono (Nat.le_refl _) ho.size, (HOqu.out.onlT ho HPX.out (by decide) (by decide)).mono (Nat.le_refl _) ho.size, (HOat.out.onlT ho HPX.out (by decide)).mono (Nat.le_refl _) ho.size, (HObl.out.onlT ho HPX.out (by decide)).mono (Nat.le_refl _) ho.size⟩
          have HBY : Hid (Below w1.heap.size w1 v12) := Lib.hid (belowOnl HBR.out ho (by have := HQ.out; simpa using this) HBR.out.size)
          clear hw0 ho
          go_wp2_with fail
          first | (refine ⟨rfl, ⟨⟨_, (⟨HBY.out, HBY.out.size, by simp⟩ : Kept w1.heap.size w1 w1.heap.size [] v12), trivial⟩, rfl⟩, hK.out _ _ ?_⟩; clear hK K) | (refine ⟨⟨⟨_, (⟨HBY.out, HBY.out.size, by simp⟩ : Kept w1.heap.size w1 w1.heap.size [] v12), trivial⟩, rfl⟩, hK.out _ _ ?_⟩; clear hK K)
          clear _ne
          go_wp2_with fail
          go_meet
          case rel => exact ⟨Q, _, rfl, HBY.out, HQ.out, HPY.out, HOY.out⟩
      · skip
        have hK := Lib.hid hK0
        clear hK0
        go_wp2_with fail
        obtain ⟨v13, hV⟩ : ∃ X, X = v0.alloc (.cells #[.int .i64 0, .int .i64 0, .int .i64 0, .int .i64 0, .int .i64 0, .int .i64 0, .int .i64 0, .slice none 0 0, .slice none 0 0, .bool false, .bool false, .bool false, .int .i64 0, .int .i64 0, .int .i64 0, .int .i64 0, .int .i64 0, .int .i64 0, .int .i64 0, .int .i64 0, .int .i64 0, .slice none 0 0, .slice none 0 0, .bool false, .bool false, .bool false, .int .i64 0, .int .i64 0, .slice none 0 0, .slice none 0 0, .slice none 0 0, .slice none 0 0, .int .i64 0, .int .i64 0, .int .i64 0, .int .i64 0, .int .i64 0] 49) := ⟨_, rfl⟩
        rw [← hV]
        have hb : Below v0.heap.size v0 v13 := by rw [hV]; exact (Below.refl _ _).alloc (Nat.le_refl _) _
        have hpx : Px v13 v0.heap.size nilPs zeroPu := by rw [hV]; exact heap_alloc_new _ _
        obtain ⟨Q, hQ⟩ : ∃ n, n = v0.heap.size := ⟨_, rfl⟩
        have HQ : Hid (w1.heap.size ≤ Q) := Lib.hid (by rw [hQ]; exact HBR.out.size)
        rw [← hQ] at hpx ⊢
        have HPX := Lib.hid hpx
        replace HOst := Lib.hid ((HOst.out.below hb).mono (lo' := w1.heap.size) (hi' := v13.heap.size) (Nat.le_refl _) hb.size)
        replace HBR := Lib.hid (below_via HBR.out hb)
        clear hV hb hpx hQ
        first | (refine ⟨rfl, ⟨⟨_, (⟨HBR.out, HBR.out.size, by simp⟩ : Kept w1.heap.size w1 w1.heap.size [] v13), trivial⟩, rfl⟩, hK.out _ _ ?_⟩; clear hK K) | (refine ⟨⟨⟨_, (⟨HBR.out, HBR.out.size, by simp⟩ : Kept w1.heap.size w1 w1.heap.size [] v13), trivial⟩, rfl⟩, hK.out _ _ ?_⟩; clear hK K)
        refine ⟨fun K hK0 => ?_, trivial⟩
        have hK := Lib.hid hK0
        clear hK0
        go_wp2_with fail
        with_reducible refine (sitems _ B.qu v13 (HQU.out.below HBR.out) HLS.out.2.1 HTL.out.2).mono ?_
        rintro e v14 ⟨qua2, quc2, rfl, ho, hb⟩
        have HOqu := Lib.hid (ho.mono (lo' := w1.heap.size) (hi' := v14.heap.size) HBR.out.size (Nat.le_refl _))
        replace HOst := Lib.hid ((HOst.out.below hb).mono (lo' := w1.heap.size) (hi' := v14.heap.size) (Nat.le_refl _) hb.size)
        replace HPX := Lib.hid (HPX.out.below hb)
        replace HBR := Lib.hid (below_via HBR.out hb)
        clear ho hb
        go_wp2_with fail
        first | (refine ⟨rfl, ⟨⟨_, (⟨HBR.out, HBR.out.size, by simp⟩ : Kept w1.heap.size w1 w1.heap.size [] v14), trivial⟩, rfl⟩, hK.out _ _ ?_⟩; clear hK K) | (refine ⟨⟨⟨_, (⟨HBR.out, HBR.out.size, by simp⟩ : Kept w1.heap.size w1 w1.heap.size [] v14), trivial⟩, rfl⟩, hK.out _ _ ?_⟩; clear hK K)
        refine ⟨fun K hK0 => ?_, trivial⟩
        have hK := Lib.hid hK0
        clear hK0
        go_wp2_with fail
        with_reducible refine (cloneI _ v14 (HAT.out.below HBR.out) HLS.out.2.2.1).mono ?_
        rintro e v15 ⟨ata2, atc2, rfl, ho, hb⟩
        have HOat := Lib.hid (ho.mono (lo' := w1.heap.size) (hi' := v15.heap.size) HBR.out.size (Nat.le_refl _))
        replace HOst := Lib.hid ((HOst.out.below hb).mono (lo' := w1.heap.size) (hi' := v15.heap.size) (Nat.le_refl _) hb.size)
        replace HOqu := Lib.hid ((HOqu.out.below hb).mono (lo' := w1.heap.size) (hi' := v15.heap.size) (Nat.le_refl _) hb.size)
        replace HPX := Lib.hid (HPX.out.below hb)
        replace HBR := Lib.hid (below_via HBR.out hb)
        clear ho hb
        go_wp2_with fail
        first | (refine ⟨rfl, ⟨⟨_, (⟨HBR.out, HBR.out.size, by simp⟩ : Kept w1.heap.size w1 w1.heap.size [] v15), trivial⟩, rfl⟩, hK.out _ _ ?_⟩; clear hK K) | (refine ⟨⟨⟨_, (⟨HBR.out, HBR.out.size, by simp⟩ : Kept w1.heap.size w1 w1.heap.size [] v15), trivial⟩, rfl⟩, hK.out _ _ ?_⟩; clear hK K)
        refine ⟨fun K hK0 => ?_, trivial⟩
        have hK := Lib.hid hK0
        clear hK0
        go_wp2_with fail
        with_reducible refine (cloneK _ v15 (HBL.out.below HBR.out) HLS.out.2.2.2).mono ?_
        rintro e v16 ⟨bla2, blc2, rfl, ho, hb⟩
        have HObl := Lib.hid (ho.mono (lo' := w1.heap.size) (hi' := v16.heap.size) HBR.out.size (Nat.le_refl _))
        replace HOst := Lib.hid ((HOst.out.below hb).mono (lo' := w1.heap.size) (hi' := v16.heap.size) (Nat.le_refl _) hb.size)
        replace HOqu := Lib.hid ((HOqu.out.below hb).mono (lo' := w1.heap.size) (hi' := v16.heap.size) (Nat.le_refl _) hb.size)
        replace HOat := Lib.hid ((HOat.out.below hb).mono (lo' := w1.heap.size) (hi' := v16.heap.size) (Nat.le_refl _) hb.size)
        replace HPX := Lib.hid (HPX.out.below hb)
        replace HBR := Lib.hid (below_via HBR.out hb)
        clear ho hb
        go_wp2_with fail
        first | (refine ⟨rfl, ⟨⟨_, (⟨HBR.out, HBR.out.size, by simp⟩ : Kept w1.heap.size w1 w1.heap.size [] v16), trivial⟩, rfl⟩, hK.out _ _ ?_⟩; clear hK K) | (refine ⟨⟨⟨_, (⟨HBR.out, HBR.out.size, by simp⟩ : Kept w1.heap.size w1 w1.heap.size [] v16), trivial⟩, rfl⟩, hK.out _ _ ?_⟩; clear hK K)
        repeat (go_big_quiet_step (fail))
        refine wpQuiet_nil ?_
        refine ⟨fun K hK0 => ?_, trivial⟩
        have hK := Lib.hid hK0
        clear hK0
        go_wp2_with (refine wpList_store_ph (s := ⟨nilSl, nilSl, nilSl, nilSl, ⟨sta2, B.st.length, stc2⟩, ⟨qua2, B.qu.length, quc2⟩, ⟨ata2, B.att.length, atc2⟩, ⟨bla2, B.bl.length, blc2⟩⟩) (P := pu0 B) rfl _ _ rfl rfl rfl HPX.out rfl ?_)
        intro v17 hw0
        have ho : Onl [Q] v16 v17 := by rw [hw0.out]; exact Onl.setRow (Onl.refl _ _) (.inl (by simp)) _
        have HPY : Hid (Px v17 Q ⟨nilSl, nilSl, nilSl, nilSl, ⟨sta2, B.st.length, stc2⟩, ⟨qua2, B.qu.length, quc2⟩, ⟨ata2, B.att.length, atc2⟩, ⟨bla2, B.bl.length, blc2⟩⟩ (pu0 B)) := Lib.hid (by rw [hw0.out]; exact Px.row HPX.out _ _)
        have HOY : Hid (PuO w1.heap.size v17.heap.size v17 ⟨nilSl, nilSl, nilSl, nilSl, ⟨sta2, B.st.length, stc2⟩, ⟨qua2, B.qu.length, quc2⟩, ⟨ata2, B.att.length, atc2⟩, ⟨bla2, B.bl.length, blc2⟩⟩ (pu0 B)) := Lib.hid ⟨Ox.nil _ _ _ _, Ox.nil _ _ _ _, Ox.nil _ _ _ _, Ox.nil _ _ _ _, (HOst.out.onlT ho HPX.out (by decide) (by decide)).mono (Nat.le_refl _) ho.size, (HOqu.out.onlT ho HPX.out (by decide) (by decide)).mono (Nat.le_refl _) ho.size, (HOat.out.onlT ho HPX.out (by decide)).mono (Nat.le_refl _) ho.size, (HObl.out.onlT ho HPX.out (by decide)).mono (Nat.le_refl _) ho.size⟩
        have HBY : Hid (Below w1.heap.size w1 v17) := Lib.hid (belowOnl HBR.out ho (by have := HQ.out; simpa using this) HBR.out.size)
        clear hw0 ho
        go_wp2_with fail
        first | (refine ⟨rfl, ⟨⟨_, (⟨HBY.out, HBY.out.size, by simp⟩ : Kept w1.heap.size w1 w1.heap.size [] v17), trivial⟩, rfl⟩, hK.out _ _ ?_⟩; clear hK K) | (refine ⟨⟨⟨_, (⟨HBY.out, HBY.out.size, by simp⟩ : Kept w1.heap.size w1 w1.heap.size [] v17), trivial⟩, rfl⟩, hK.out _ _ ?_⟩; clear hK K)
        clear _ne
        go_wp2_with fail
        go_meet
        case rel => exact ⟨Q, _, rfl, HBY.out, HQ.out, HPY.out, HOY.out⟩
    · skip
      have hK := Lib.hid hK0
      clear hK0
      have HBR : Hid (Below w1.heap.size w1 w31) := Lib.hid KH_w31.out.below
      go_wp2_with fail
      obtain ⟨v18, hV⟩ : ∃ X, X = w31.alloc (.cells #[.int .i64 0, .int .i64 0, .int .i64 0, .int .i64 0, .int .i64 0, .int .i64 0, .int .i64 0, .slice none 0 0, .slice none 0 0, .bool false, .bool false, .bool false, .int .i64 0, .int .i64 0, .int .i64 0, .int .i64 0, .int .i64 0, .int .i64 0, .int .i64 0, .int .i64 0, .int .i64 0, .slice none 0 0, .slice none 0 0, .bool false, .bool false, .bool false, .int .i64 0, .int .i64 0, .slice none 0 0, .slice none 0 0, .slice none 0 0, .slice none 0 0, .int .i64 0, .int .i64 0, .int .i64 0, .int .i64 0, .int .i64 0] 49) := ⟨_, rfl⟩
      rw [← hV]
      have hb : Below w31.heap.size w31 v18 := by rw [hV]; exact (Below.refl _ _).alloc (Nat.le_refl _) _
      have hpx : Px v18 w31.heap.size nilPs zeroPu := by rw [hV]; exact heap_alloc_new _ _
      obtain ⟨Q, hQ⟩ : ∃ n, n = w31.heap.size := ⟨_, rfl⟩
      have HQ : Hid (w1.heap.size ≤ Q) := Lib.hid (by rw [hQ]; exact HBR.out.size)
      rw [← hQ] at hpx ⊢
      have HPX := Lib.hid hpx
      replace HBR := Lib.hid (below_via HBR.out hb)
      clear hV hb hpx hQ
      first | (refine ⟨rfl, ⟨⟨_, (⟨HBR.out, HBR.out.size, by simp⟩ : Kept w1.heap.size w1 w1.heap.size [] v18), trivial⟩, rfl⟩, hK.out _ _ ?_⟩; clear hK K) | (refine ⟨⟨⟨_, (⟨HBR.out, HBR.out.size, by simp⟩ : Kept w1.heap.size w1 w1.heap.size [] v18), trivial⟩, rfl⟩, hK.out _ _ ?_⟩; clear hK K)
      refine ⟨fun K hK0 => ?_, trivial⟩
      have hK := Lib.hid hK0
      clear hK0
      go_wp2_with fail
      with_reducible refine (sitems _ B.st v18 (HST.out.below HBR.out) HLS.out.1 HTL.out.1).mono ?_
      rintro e v19 ⟨sta2, stc2, rfl, ho, hb⟩
      have HOst := Lib.hid (ho.mono (lo' := w1.heap.size) (hi' := v19.heap.size) HBR.out.size (Nat.le_refl _))
      replace HPX := Lib.hid (HPX.out.below hb)
      replace HBR := Lib.hid (below_via HBR.out hb)
      clear ho hb
      go_wp2_with fail
      first | (refine ⟨rfl, ⟨⟨_, (⟨HBR.out, HBR.out.size, by simp⟩ : Kept w1.heap.size w1 w1.heap.size [] v19), trivial⟩, rfl⟩, hK.out _ _ ?_⟩; clear hK K) | (refine ⟨⟨⟨_, (⟨HBR.out, HBR.out.size, by simp⟩ : Kept w1.heap.size w1 w1.heap.size [] v19), trivial⟩, rfl⟩, hK.out _ _ ?_⟩; clear hK K)
      refine ⟨fun K hK0 => ?_, trivial⟩
      have hK := Lib.hid hK0
      clear hK0
      go_wp2_with fail
      with_reducible refine (sitems _ B.qu v19 (HQU.out.below HBR.out) HLS.out.2.1 HTL.out.2).mono ?_
      rintro e v20 ⟨qua2, quc2, rfl, ho, hb⟩
      have HOqu := Lib.hid (ho.mono (lo' := w1.heap.size) (hi' := v20.heap.size) HBR.out.size (Nat.le_refl _))
      replace HOst := Lib.hid ((HOst.out.below hb).mono (lo' := w1.heap.size) (hi' := v20.heap.size) (Nat.le_refl _) hb.size)
      replace HPX := Lib.hid (HPX.out.below hb)
      replace HBR := Lib.hid (below_via HBR.out hb)
      clear ho hb
      go_wp2_with fail
      first | (refine ⟨rfl, ⟨⟨_, (⟨HBR.out, HBR.out.size, by simp⟩ : Kept w1.heap.size w1 w1.heap.size [] v20), trivial⟩, rfl⟩, hK.out _ _ ?_⟩; clear hK K) | (refine ⟨⟨⟨_, (⟨HBR.out, HBR.out.size, by simp⟩ : Kept w1.heap.size w1 w1.heap.size [] v20), trivial⟩, rfl⟩, hK.out _ _ ?_⟩; clear hK K)
      refine ⟨fun K hK0 => ?_, trivial⟩
      have hK := Lib.hid hK0
      clear hK0
      go_wp2_with fail
      with_reducible refine (cloneI _ v20 (HAT.out.below HBR.out) HLS.out.2.2.1).mono ?_
      rintro e v21 ⟨ata2, atc2, rfl, ho, hb⟩
      have HOat := Lib.hid (ho.mono (lo' := w1.heap.size) (hi' := v21.heap.size) HBR.out.size (Nat.le_refl _))
      replace HOst := Lib.hid ((HOst.out.below hb).mono (lo' := w1.heap.size) (hi' := v21.heap.size) (Nat.le_refl _) hb.size)
      replace HOqu := Lib.hid ((HOqu.out.below hb).mono (lo' := w1.heap.size) (hi' := v21.heap.size) (Nat.le_refl _) hb.size)
      replace HPX := Lib.hid (HPX.out.below hb)
      replace HBR := Lib.hid (below_via HBR.out hb)
      clear ho hb
      go_wp2_with fail
      first | (refine ⟨rfl, ⟨⟨_, (⟨HBR.out, HBR.out.size, by simp⟩ : Kept w1.heap.size w1 w1.heap.size [] v21), trivial⟩, rfl⟩, hK.out _ _ ?_⟩; clear hK K) | (refine ⟨⟨⟨_, (⟨HBR.out, HBR.out.size, by simp⟩ : Kept w1.heap.size w1 w1.heap.size [] v21), trivial⟩, rfl⟩, hK.out _ _ ?_⟩; clear hK K)
      refine ⟨fun K hK0 => ?_, trivial⟩
      have hK := Lib.hid hK0
      clear hK0
      go_wp2_with fail
      with_reducible refine (cloneK _ v21 (HBL.out.below HBR.out) HLS.out.2.2.2).mono ?_
      rintro e v22 ⟨bla2, blc2, rfl, ho, hb⟩
      have HObl := Lib.hid (ho.mono (lo' := w1.heap.size) (hi' := v22.heap.size) HBR.out.size (Nat.le_refl _))
      replace HOst := Lib.hid ((HOst.out.below hb).mono (lo' := w1.heap.size) (hi' := v22.heap.size) (Nat.le_refl _) hb.size)
      replace HOqu := Lib.hid ((HOqu.out.below hb).mono (lo' := w1.heap.size) (hi' := v22.heap.size) (Nat.le_refl _) hb.size)
      replace HOat := Lib.hid ((HOat.out.below hb).mono (lo' := w1.heap.size) (hi' := v22.heap.size) (Nat.le_refl _) hb.size)
      replace HPX := Lib.hid (HPX.out.below hb)
      replace HBR := Lib.hid (below_via HBR.out hb)
      clear ho hb
      go_wp2_with fail
      first | (refine ⟨rfl, ⟨⟨_, (⟨HBR.out, HBR.out.size, by simp⟩ : Kept w1.heap.size w1 w1.heap.size [] v22), trivial⟩, rfl⟩, hK.out _ _ ?_⟩; clear hK K) | (refine ⟨⟨⟨_, (⟨HBR.out, HBR.out.size, by simp⟩ : Kept w1.heap.size w1 w1.heap.size [] v22), trivial⟩, rfl⟩, hK.out _ _ ?_⟩; clear hK K)
      repeat (go_big_quiet_step (fail))
      refine wpQuiet_nil ?_
      refine ⟨fun K hK0 => ?_, trivial⟩
      have hK := Lib.hid hK0
      clear hK0
      go_wp2_with (refine wpList_store_ph (s := ⟨nilSl, nilSl, nilSl, nilSl, ⟨sta2, B.st.length, stc2⟩, ⟨qua2, B.qu.length, quc2⟩, ⟨ata2, B.att.length, atc2⟩, ⟨bla2, B.bl.length, blc2⟩⟩) (P := pu0 B) rfl _ _ rfl rfl rfl HPX.out rfl ?_)
      intro v23 hw0
      have ho : Onl [Q] v22 v23 := by rw [hw0.out]; exact Onl.setRow (Onl.refl _ _) (.inl (by simp)) _
      have HPY : Hid (Px v23 Q ⟨nilSl, nilSl, nilSl, nilSl, ⟨sta2, B.st.length, stc2⟩, ⟨qua2, B.qu.length, quc2⟩, ⟨ata2, B.att.length, atc2⟩, ⟨bla2, B.bl.length, blc2⟩⟩ (pu0 B)) := Lib.hid (by rw [hw0.out]; exact Px.row HPX.out _ _)
      have HOY : Hid (PuO w1.heap.size v23.heap.size v23 ⟨nilSl, nilSl, nilSl, nilSl, ⟨sta2, B.st.length, stc2⟩, ⟨qua2, B.qu.length, quc2⟩, ⟨ata2, B.att.length, atc2⟩, ⟨bla2, B.bl.length, blc2⟩⟩ (pu0 B)) := Lib.hid ⟨Ox.nil _ _ _ _, Ox.nil _ _ _ _, Ox.nil _ _ _ _, Ox.nil _ _ _ _, (HOst.out.onlT ho HPX.out (by decide) (by decide)).mono (Nat.le_refl _) ho.size, (HOqu.out.onlT ho HPX.out (by decide) (by decide)).mono (Nat.le_refl _) ho.size, (HOat.out.onlT ho HPX.out (by decide)).mono (Nat.le_refl _) ho.size, (HObl.out.onlT ho HPX.out (by decide)).mono (Nat.le_refl _) ho.size⟩
      have HBY : Hid (Below w1.heap.size w1 v23) := Lib.hid (belowOnl HBR.out ho (by have := HQ.out; simpa using this) HBR.out.size)
      clear hw0 ho
      go_wp2_with fail
      first | (refine ⟨rfl, ⟨⟨_, (⟨HBY.out, HBY.out.size, by simp⟩ : Kept w1.heap.size w1 w1.heap.size [] v23), trivial⟩, rfl⟩, hK.out _ _ ?_⟩; clear hK K) | (refine ⟨⟨⟨_, (⟨HBY.out, HBY.out.size, by simp⟩ : Kept w1.heap.size w1 w1.heap.size [] v23), trivial⟩, rfl⟩, hK.out _ _ ?_⟩; clear hK K)
      clear _ne
      go_wp2_with fail
      go_meet
      case rel => exact ⟨Q, _, rfl, HBY.out, HQ.out, HPY.out, HOY.out⟩
  case rest =>
    obtain ⟨w2, rfl⟩ : ∃ W, W = wc := ⟨_, rfl⟩
    obtain ⟨Q, sp, rfl, hb, hq, hp, ho⟩ := hcut
    replace HX := Lib.hid (HX.out.below hb)
    replace HZ := Lib.hid (HZ.out.below hb)
    have HQ : Hid (w.heap.size + 1 < Q) := Lib.hid (by have := HZ0.out; omega)
    have HBS := Lib.hid HB.out.size
    replace HB := Lib.hid (below_via HB.out hb)
    have HS : Hid (SfL w s B Q 0 w2) := Lib.hid ⟨HB.out, HX.out, HZ.out, sp, hp, ho.mono HBS.out (Nat.le_refl _)⟩
    clear hb hq hp ho
    go_wp2_with (refine wpList_load_mid rfl 29 _ rfl w.heap.size 1 rfl (seatsL s B) _ HX.out.seats Try.underlying29 rfl rfl ?_)
    clear HX HZ HB
    go_loopw [36] (fun i wr => ∃ p : Nat, p ≤ 2 ∧ i = .int .i64 p ∧ SfL w s B Q p wr) (fun i _ => 2 - (intOf i).toNat)
    case atStart => exact ⟨0, by omega, rfl, HS.out⟩
    case round =>
      clear HS
      obtain ⟨p, hp, rfl, hs⟩ := hrel
      have HS := Lib.hid hs
      clear hs
      by_cases hp2 : p < 2
      · obtain ⟨S, hS⟩ : ∃ S, B.seat p = S := ⟨_, rfl⟩
        obtain ⟨⟨la, ln, lc⟩, e0⟩ : ∃ q, s.zl p 0 = q := ⟨_, rfl⟩
        obtain ⟨⟨ha, hn, hc⟩, e1⟩ : ∃ q, s.zl p 1 = q := ⟨_, rfl⟩
        obtain ⟨⟨fa, fn, fc⟩, e2⟩ : ∃ q, s.zl p 2 = q := ⟨_, rfl⟩
        obtain ⟨⟨ga, gn, gc⟩, e3⟩ : ∃ q, s.zl p 3 = q := ⟨_, rfl⟩
        have hix := idx2 s B hp2 hS e0 e1 e2 e3
        have i1 : (0 : Int) ≤ (p : Int) := by omega
        have i2 : (p : Int) < 2 := by omega
        have HFS : Hid (Rw ic 1 w (.slice fa fn fc) S.fld ∧ Rw ic 1 w (.slice ga gn gc) S.grv) := Lib.hid (by
          have h2 := HR.out.zone p 2
          have h3 := HR.out.zone p 3
          rw [e2, hS] at h2
          rw [e3, hS] at h3
          exact ⟨h2, h3⟩)
        have HLS2 : Hid (S.fld.length ≤ 1000 ∧ S.grv.length ≤ 1000) := Lib.hid (by
          have h2 := HSM.out.zs p 2
          have h3 := HSM.out.zs p 3
          rw [hS] at h2 h3
          exact ⟨h2, h3⟩)
        obtain ⟨hln, hhn⟩ : ln = S.lib.length ∧ hn = S.hand.length := by
          have h0 := HR.out.zone p 0
          have h1 := HR.out.zone p 1
          rw [e0, hS] at h0
          rw [e1, hS] at h1
          obtain ⟨_, _, _, h0, _⟩ := h0.form
          obtain ⟨_, _, _, h1, _⟩ := h1.form
          simp only [Sl.v, Value.slice.injEq] at h0 h1
          exact ⟨h0.2.1, h1.2.1⟩
        subst hln hhn
        have HSS := Lib.hid hS
        clear e0 e1 e2 e3 hS
        go_upto_region 7 with fail
        clear hix
        obtain ⟨wq, hwq⟩ : ∃ W, W = wr.alloc (.cells #[.int .i64 S.li, .int .i64 S.p0, .int .i64 S.p1, .int .i64 S.p2, .int .i64 S.p3, .slice la S.lib.length lc, .slice ha S.hand.length hc, .slice fa fn fc, .slice ga gn gc, .bool S.em, .bool S.py, .bool S.kp, .int .i64 S.mu, .int .i64 S.ac] 28) := ⟨_, rfl⟩
        rw [← hwq]
        have hqb : Below wr.heap.size wr wq := by rw [hwq]; exact (Below.refl _ _).alloc (Nat.le_refl _) _
        have hqc : ∀ j, wq.cell? ⟨wr.heap.size, j, none⟩ = (#[.int .i64 S.li, .int .i64 S.p0, .int .i64 S.p1, .int .i64 S.p2, .int .i64 S.p3, .slice la S.lib.length lc, .slice ha S.hand.length hc, .slice fa fn fc, .slice ga gn gc, .bool S.em, .bool S.py, .bool S.kp, .int .i64 S.mu, .int .i64 S.ac] : Array Value)[j]? := fun j => by rw [hwq]; exact cell_of_row _ _ j _ 28 (0, 0) (heap_alloc_new _ _)
        have hn0q : wr.heap.size < wq.heap.size := by rw [hwq]; simp
        clear hwq
        obtain ⟨n0, hn0⟩ : ∃ n, n = wr.heap.size := ⟨_, rfl⟩
        replace HS := Lib.hid (HS.out.keep hqb)
        rw [← hn0] at hqc hn0q ⊢
        have HX := Lib.hid HS.out.2.1
        have HB := Lib.hid HS.out.1
        obtain ⟨sp, hpq, hpo⟩ := HS.out.2.2.2
        have HPQ := Lib.hid hpq
        have HPO := Lib.hid hpo
        clear hpq hpo
        have q0 : wq.cell? ⟨n0, 0, none⟩ = some (.int .i64 S.li) := hqc 0
        have q1 : wq.cell? ⟨n0, 1, none⟩ = some (.int .i64 S.p0) := hqc 1
        have q2 : wq.cell? ⟨n0, 2, none⟩ = some (.int .i64 S.p1) := hqc 2
        have q3 : wq.cell? ⟨n0, 3, none⟩ = some (.int .i64 S.p2) := hqc 3
        have q4 : wq.cell? ⟨n0, 4, none⟩ = some (.int .i64 S.p3) := hqc 4
        have q5 : wq.cell? ⟨n0, 5, none⟩ = some (.slice la S.lib.length lc) := hqc 5
        have q6 : wq.cell? ⟨n0, 6, none⟩ = some (.slice ha S.hand.length hc) := hqc 6
        have q7 : wq.cell? ⟨n0, 7, none⟩ = some (.slice fa fn fc) := hqc 7
        have q8 : wq.cell? ⟨n0, 8, none⟩ = some (.slice ga gn gc) := hqc 8
        have q9 : wq.cell? ⟨n0, 9, none⟩ = some (.bool S.em) := hqc 9
        have q10 : wq.cell? ⟨n0, 10, none⟩ = some (.bool S.py) := hqc 10
        have q11 : wq.cell? ⟨n0, 11, none⟩ = some (.bool S.kp) := hqc 11
        have q12 : wq.cell? ⟨n0, 12, none⟩ = some (.int .i64 S.mu) := hqc 12
        have q13 : wq.cell? ⟨n0, 13, none⟩ = some (.int .i64 S.ac) := hqc 13
        clear hqb hqc hn0
        refine rg23_7 (w0 := wq) (B := wq.heap.size) (n := wq.heap.size) (L := []) (E := fun _ => True) (F := fun _ => True) (by kernel_rfl) (by kernel_rfl) ⟨by go_grown, by go_size, (by simp [go_sem] <;> omega)⟩ trivial (fun _ _ _ _ => trivial) trivial (fun _ _ _ _ => trivial) (fun w61 K_w61 E_w61 F_w61 => ?_)
        have _ne : Nonempty (KX (wq.heap.size) wq (wq.heap.size) [] (fun _ => True)) := ⟨⟨_, K_w61, E_w61⟩⟩
        have qb : ∀ W', (∃ s' : KX (wq.heap.size) wq (wq.heap.size) [] (fun _ => True), W' = s'.val) → Bx W' w.heap.size s B := by rintro _ ⟨s', rfl⟩; exact HX.out.below s'.kept.below
        repeat (first | (go_big_quiet_want; apply quiet_load_bx _ rfl rfl qb; (focus (simp [go_sem]; rfl)); go_big_quiet_on) | go_big_quiet_step (fail))
        refine wpQuiet_nil ?_
        have r0 : ∀ s : KX (wq.heap.size) wq (wq.heap.size) [] (fun _ => True), s.val.cell? ⟨n0, 0, none⟩ = some (.int .i64 S.li) := fun s => (s.kept.below.cell (p := ⟨n0, 0, none⟩) hn0q).trans q0
        have r1 : ∀ s : KX (wq.heap.size) wq (wq.heap.size) [] (fun _ => True), s.val.cell? ⟨n0, 1, none⟩ = some (.int .i64 S.p0) := fun s => (s.kept.below.cell (p := ⟨n0, 1, none⟩) hn0q).trans q1
        have r2 : ∀ s : KX (wq.heap.size) wq (wq.heap.size) [] (fun _ => True), s.val.cell? ⟨n0, 2, none⟩ = some (.int .i64 S.p1) := fun s => (s.kept.below.cell (p := ⟨n0, 2, none⟩) hn0q).trans q2
        have r3 : ∀ s : KX (wq.heap.size) wq (wq.heap.size) [] (fun _ => True), s.val.cell? ⟨n0, 3, none⟩ = some (.int .i64 S.p2) := fun s => (s.kept.below.cell (p := ⟨n0, 3, none⟩) hn0q).trans q3
        have r4 : ∀ s : KX (wq.heap.size) wq (wq.heap.size) [] (fun _ => True), s.val.cell? ⟨n0, 4, none⟩ = some (.int .i64 S.p3) := fun s => (s.kept.below.cell (p := ⟨n0, 4, none⟩) hn0q).trans q4
        have r5 : ∀ s : KX (wq.heap.size) wq (wq.heap.size) [] (fun _ => True), s.val.cell? ⟨n0, 5, none⟩ = some (.slice la S.lib.length lc) := fun s => (s.kept.below.cell (p := ⟨n0, 5, none⟩) hn0q).trans q5
        have r6 : ∀ s : KX (wq.heap.size) wq (wq.heap.size) [] (fun _ => True), s.val.cell? ⟨n0, 6, none⟩ = some (.slice ha S.hand.length hc) := fun s => (s.kept.below.cell (p := ⟨n0, 6, none⟩) hn0q).trans q6
        have r7 : ∀ s : KX (wq.heap.size) wq (wq.heap.size) [] (fun _ => True), s.val.cell? ⟨n0, 7, none⟩ = some (.slice fa fn fc) := fun s => (s.kept.below.cell (p := ⟨n0, 7, none⟩) hn0q).trans q7
        have r8 : ∀ s : KX (wq.heap.size) wq (wq.heap.size) [] (fun _ => True), s.val.cell? ⟨n0, 8, none⟩ = some (.slice ga gn gc) := fun s => (s.kept.below.cell (p := ⟨n0, 8, none⟩) hn0q).trans q8
        have r9 : ∀ s : KX (wq.heap.size) wq (wq.heap.size) [] (fun _ => True), s.val.cell? ⟨n0, 9, none⟩ = some (.bool S.em) := fun s => (s.kept.below.cell (p := ⟨n0, 9, none⟩) hn0q).trans q9
        have r10 : ∀ s : KX (wq.heap.size) wq (wq.heap.size) [] (fun _ => True), s.val.cell? ⟨n0, 10, none⟩ = some (.bool S.py) := fun s => (s.kept.below.cell (p := ⟨n0, 10, none⟩) hn0q).trans q10
        have r11 : ∀ s : KX (wq.heap.size) wq (wq.heap.size) [] (fun _ => True), s.val.cell? ⟨n0, 11, none⟩ = some (.bool S.kp) := fun s => (s.kept.below.cell (p := ⟨n0, 11, none⟩) hn0q).trans q11
        have r12 : ∀ s : KX (wq.heap.size) wq (wq.heap.size) [] (fun _ => True), s.val.cell? ⟨n0, 12, none⟩ = some (.int .i64 S.mu) := fun s => (s.kept.below.cell (p := ⟨n0, 12, none⟩) hn0q).trans q12
        have r13 : ∀ s : KX (wq.heap.size) wq (wq.heap.size) [] (fun _ => True), s.val.cell? ⟨n0, 13, none⟩ = some (.int .i64 S.ac) := fun s => (s.kept.below.cell (p := ⟨n0, 13, none⟩) hn0q).trans q13
        repeat (first | (go_big_quiet_want; apply quiet_load_bx _ rfl rfl qb; (focus (simp [go_sem]; rfl)); go_big_quiet_on) | go_big_quiet_step (fail))
        refine wpQuiet_nil ?_
        repeat (first | (go_big_quiet_want; apply quiet_load_bx _ rfl rfl qb; (focus (simp [go_sem]; rfl)); go_big_quiet_on) | go_big_quiet_step (fail))
        refine wpQuiet_nil ?_
        repeat (first | (go_big_quiet_want; apply quiet_load_bx _ rfl rfl qb; (focus (simp [go_sem]; rfl)); go_big_quiet_on) | go_big_quiet_step (fail))
        refine wpQuiet_nil ?_
        repeat (first | (go_big_quiet_want; apply quiet_load_bx _ rfl rfl qb; (focus (simp [go_sem]; rfl)); go_big_quiet_on) | go_big_quiet_step (fail))
        refine wpQuiet_nil ?_
        repeat (first | (go_big_quiet_want; apply quiet_load_bx _ rfl rfl qb; (focus (simp [go_sem]; rfl)); go_big_quiet_on) | go_big_quiet_step (fail))
        refine wpQuiet_nil ?_
        have KH_w61 := Lib.hid K_w61
        have hw_w61 := K_w61.below
        have hz_w61 := K_w61.size
        clear K_w61
        clear E_w61 F_w61
        refine ⟨fun K hK0 => ?_, trivial⟩
        have hK := Lib.hid hK0
        clear hK0
        have HBR : Hid (Below wq.heap.size wq w61) := Lib.hid KH_w61.out.below
        go_wp2_with fail
        with_reducible refine (objects s B (.slice fa fn fc) S.fld _ ((HR.out.below HB.out).below HBR.out) ((HFS.out.1.below HB.out).below HBR.out) HLS2.out.1).mono ?_
        rintro e yu ⟨ux, uy, rfl, ho, hb⟩
        have HOu : Hid (Ox oc 12 79 wq.heap.size yu.heap.size yu (.slice ux (obF B.ob S.fld).length uy) (obF B.ob S.fld)) := Lib.hid (ho.mono HBR.out.size (Nat.le_refl _))
        replace HBR := Lib.hid (below_via HBR.out hb)
        clear ho hb
        go_wp2_with fail
        first | (refine ⟨rfl, ⟨⟨_, (⟨HBR.out, HBR.out.size, by simp⟩ : Kept wq.heap.size wq wq.heap.size [] yu), trivial⟩, rfl⟩, hK.out _ _ ?_⟩; clear hK K) | (refine ⟨⟨⟨_, (⟨HBR.out, HBR.out.size, by simp⟩ : Kept wq.heap.size wq wq.heap.size [] yu), trivial⟩, rfl⟩, hK.out _ _ ?_⟩; clear hK K)
        refine ⟨fun K hK0 => ?_, trivial⟩
        have hK := Lib.hid hK0
        clear hK0
        go_wp2_with fail
        with_reducible refine (objects s B (.slice ga gn gc) S.grv _ ((HR.out.below HB.out).below HBR.out) ((HFS.out.2.below HB.out).below HBR.out) HLS2.out.2).mono ?_
        rintro e yz ⟨zx, zy, rfl, ho, hb⟩
        have HOz : Hid (Ox oc 12 79 wq.heap.size yz.heap.size yz (.slice zx (obF B.ob S.grv).length zy) (obF B.ob S.grv)) := Lib.hid (ho.mono HBR.out.size (Nat.le_refl _))
        replace HOu := Lib.hid ((HOu.out.below hb).mono (lo' := wq.heap.size) (hi' := yz.heap.size) (Nat.le_refl _) hb.size)
        replace HBR := Lib.hid (below_via HBR.out hb)
        clear ho hb
        go_wp2_with fail
        first | (refine ⟨rfl, ⟨⟨_, (⟨HBR.out, HBR.out.size, by simp⟩ : Kept wq.heap.size wq wq.heap.size [] yz), trivial⟩, rfl⟩, hK.out _ _ ?_⟩; clear hK K) | (refine ⟨⟨⟨_, (⟨HBR.out, HBR.out.size, by simp⟩ : Kept wq.heap.size wq wq.heap.size [] yz), trivial⟩, rfl⟩, hK.out _ _ ?_⟩; clear hK K)
        repeat (first | (go_big_quiet_want; apply quiet_load_bx _ rfl rfl qb; (focus (simp [go_sem]; rfl)); go_big_quiet_on) | go_big_quiet_step (fail))
        refine wpQuiet_nil ?_
        refine ⟨fun K hK0 => ?_, trivial⟩
        have hK := Lib.hid hK0
        clear hK0
        have HTH : Hid (yz.there Q (p * 14) 14) := Lib.hid (fun j hj => ⟨by
          rw [(HPQ.out.below HBR.out).cell]
          have hs : p * 14 + j < (pcells sp (puN B p)).size := by show p * 14 + j < 37; omega
          rw [Array.getElem?_eq_getElem hs]
          rfl, (HPQ.out.below HBR.out).free _⟩)
        go_wp2_with (refine wpList_store_mid rfl 46 _ _ rfl Q (p * 14) #[.int .i64 S.li, .int .i64 S.p0, .int .i64 S.p1, .int .i64 S.p2, .int .i64 S.p3, .int .i64 (S.lib.length : Nat), .int .i64 (S.hand.length : Nat), .slice ux (obF B.ob S.fld).length uy, .slice zx (obF B.ob S.grv).length zy, .bool S.em, .bool S.py, .bool S.kp, .int .i64 S.mu, .int .i64 S.ac] rfl rfl HTH.out (by kernel_rfl) (by simp [Value.oneCell']) ?_)
        obtain ⟨yv, hyv⟩ : ∃ W, W = yz.setCells Q (p * 14) [.int .i64 S.li, .int .i64 S.p0, .int .i64 S.p1, .int .i64 S.p2, .int .i64 S.p3, .int .i64 (S.lib.length : Nat), .int .i64 (S.hand.length : Nat), .slice ux (obF B.ob S.fld).length uy, .slice zx (obF B.ob S.grv).length zy, .bool S.em, .bool S.py, .bool S.kp, .int .i64 S.mu, .int .i64 S.ac] := ⟨_, rfl⟩
        change K _ (yz.setCells Q (p * 14) [.int .i64 S.li, .int .i64 S.p0, .int .i64 S.p1, .int .i64 S.p2, .int .i64 S.p3, .int .i64 (S.lib.length : Nat), .int .i64 (S.hand.length : Nat), .slice ux (obF B.ob S.fld).length uy, .slice zx (obF B.ob S.grv).length zy, .bool S.em, .bool S.py, .bool S.kp, .int .i64 S.mu, .int .i64 S.ac])
        rw [← hyv]
        have ho : Onl [Q] yz yv := by rw [hyv]; exact Onl.setCells _ _ _ (Onl.refl _ _) (.inl (by simp))
        have HY : Hid (SfL w s B Q (p + 1) yv) := Lib.hid (by
          have hq := HQ.out
          have hpq := HPQ.out.below HBR.out
          have hs := HS.out.keep HBR.out
          refine ⟨belowOnl hs.1 ho (by simp; omega) hs.1.size, hs.2.1.onl ho (by simp; omega), hs.2.2.1.onl ho (by simp; omega), sp.setS p ⟨ux, (obF B.ob S.fld).length, uy⟩ ⟨zx, (obF B.ob S.grv).length, zy⟩, ?_, ?_⟩
          · rw [hyv]; exact hpq.seat hp2 ⟨ux, (obF B.ob S.fld).length, uy⟩ ⟨zx, (obF B.ob S.grv).length, zy⟩ HSS.out
          · refine puO_seat (f := ⟨ux, (obF B.ob S.fld).length, uy⟩) (g := ⟨zx, (obF B.ob S.grv).length, zy⟩) (PuO.onlT ((HPO.out.below HBR.out).mono (Nat.le_refl _) (Nat.le_trans HBR.out.size ho.size)) ho hpq (by decide)) hp2 HSS.out ?_ ?_
            · exact ((HOu.out.mono (by have := HB.out.size; omega) (Nat.le_refl _)).onlT ho hpq (by decide)).mono (Nat.le_refl _) ho.size
            · exact ((HOz.out.mono (by have := HB.out.size; omega) (Nat.le_refl _)).onlT ho hpq (by decide)).mono (Nat.le_refl _) ho.size)
        have HKV : Hid (Below wq.heap.size wq yv ∨ True) := Lib.hid (.inr trivial)
        clear hyv HTH ho
        first | (refine ⟨rfl, hK.out _ _ ?_⟩; clear hK K) | (refine hK.out _ _ ?_; clear hK K)
        clear r0 r1 r2 r3 r4 r5 r6 r7 r8 r9 r10 r11 r12 r13
        clear _ne
        go_wp2_with fail
        go_roundw
        case rel => exact ⟨p + 1, by omega, by go_num, HY.out⟩
        case measure => simp [intOf]; omega
      · have hpe : p = 2 := by omega
        subst hpe
        rw [show ((2 : Nat) : Int) = 2 from rfl]
        obtain ⟨hb, hx, hz, sp, hq, ho⟩ := HS.out
        have HQQ : Hid (Px wr Q sp (puB B)) := Lib.hid hq
        have HZ := Lib.hid hz
        have HB := Lib.hid hb
        have HO := Lib.hid ho
        clear hb hx hz hq ho
        go_wp2_with (first | (refine wpList_load_px _ rfl rfl HQQ.out (by kernel_rfl) ?_) | (refine wpList_store_ph (s := sp) (P := puB B) rfl _ _ rfl rfl rfl HZ.out rfl ?_; intro w9 hw9))
        have hg9 : Px w9 (w.heap.size + 1) sp (puB B) := by rw [hw9.out]; exact Px.row HZ.out _ _
        have ho9 : Onl [w.heap.size + 1] wr w9 := by rw [hw9.out]; exact Onl.setRow (Onl.refl _ _) (.inl (by simp)) _
        have hb9 : Below w.heap.size w w9 := belowOnl HB.out ho9 (by simp) HB.out.size
        have HG9 := Lib.hid hg9
        have hoo : PuO w.heap.size w9.heap.size w9 sp (puB B) := (PuO.onlT HO.out ho9 HZ.out (by decide)).mono (Nat.le_refl _) ho9.size
        have HPOST : Hid (PrA w (puB B) (.int .i64 0) (.returned (.tuple #[pv sp (puB B), .int .i64 0])) w9) := Lib.hid ⟨_, rfl, hoo, hb9⟩
        clear hw9 hg9 ho9 hb9 hoo
        go_wp2_with fail
        exact bodyPost_ret (v := .tuple #[pv sp (puB B), .int .i64 0]) (results_p1 Try.results23 _ _ HG9.out rfl rfl) rfl HPOST.out
set_option maxRecDepth 100000 in
set_option maxHeartbeats 4000000 in
theorem sof_bad (s : Bs) (B : Bd) (w : World) (h : BdR w s B) (hi : B.I) (hsm : B.Sm) (hv : ¬ VB B) : Calls Try.prog 23 #[bv s B] w (PrA w zeroPu (.int .i64 2)) := by
  have HR := Lib.hid h
  have HI := Lib.hid hi
  have HSM := Lib.hid hsm
  have HV := Lib.hid hv
  clear h hi hsm hv
  go_enter Try.func23, Try.ntmps23
  go_upto_region 1 with fail
  change Code.wp Try.prog _ _ _ ((w.alloc (.cells (bcells s B) 34)).alloc (.cells (pcells nilPs zeroPu) 49))
  obtain ⟨wz, hwz⟩ : ∃ W, W = (w.alloc (.cells (bcells s B) 34)).alloc (.cells (pcells nilPs zeroPu) 49) := ⟨_, rfl⟩
  have b1 : Below w.heap.size w (w.alloc (.cells (bcells s B) 34)) := (Below.refl _ _).alloc (Nat.le_refl _) _
  have b2 : Below (w.alloc (.cells (bcells s B) 34)).heap.size (w.alloc (.cells (bcells s B) 34)) wz := by rw [hwz]; exact (Below.refl _ _).alloc (Nat.le_refl _) _
  have HX : Hid (Bx wz w.heap.size s B) := Lib.hid (Bx.below (w := w.alloc (.cells (bcells s B) 34)) (heap_alloc_new _ _) b2)
  have HZ : Hid (Px wz (w.heap.size + 1) nilPs zeroPu) := Lib.hid (by rw [hwz, show w.heap.size + 1 = (w.alloc (.cells (bcells s B) 34)).heap.size by simp]; exact heap_alloc_new _ _)
  have HB : Hid (Below w.heap.size w wz) := Lib.hid (below_via b1 b2)
  rw [← hwz]
  clear hwz b1 b2
  go_wp2_with (refine wpList_load_bx _ rfl rfl HX.out (by kernel_rfl) ?_)
  with_reducible refine (bvalid s B _ (HR.out.below HB.out) HI.out HSM.out).mono ?_
  rintro e w1 ⟨⟨r, rfl, hr⟩, hb⟩
  obtain rfl : r = false := by cases r with | false => rfl | true => exact absurd (hr.1 rfl) HV.out
  replace HZ := Lib.hid (HZ.out.below hb)
  replace HB := Lib.hid (below_via HB.out hb)
  clear hr hb HX
  go_wp2_with (refine wpList_store_ph (s := nilPs) (P := zeroPu) rfl _ _ rfl rfl rfl HZ.out rfl ?_; intro w9 hw9)
  have hg9 : Px w9 (w.heap.size + 1) nilPs zeroPu := by rw [hw9.out]; exact Px.row HZ.out _ _
  have ho9 : Onl [w.heap.size + 1] w1 w9 := by rw [hw9.out]; exact Onl.setRow (Onl.refl _ _) (.inl (by simp)) _
  have hb9 : Below w.heap.size w w9 := belowOnl HB.out ho9 (by simp) HB.out.size
  have HG9 := Lib.hid hg9
  have HPOST : Hid (PrA w zeroPu (.int .i64 2) (.returned (.tuple #[pv nilPs zeroPu, .int .i64 2])) w9) := Lib.hid ⟨_, rfl, PuO.zero _ _ _, hb9⟩
  clear hw9 hg9 ho9 hb9
  go_wp2_with fail
  exact bodyPost_ret (v := .tuple #[pv nilPs zeroPu, .int .i64 2]) (results_p1 Try.results23 _ _ HG9.out rfl rfl) rfl HPOST.out
end Go.Proofs.Yteoeahmnonolmaa
