/- A book looks like the reference's. -/
import Derived.Test.YtobkgdhniibopaaMid
import Derived.Test.YtobkgdhniibopaaRef2
import Derived.Test.YtobkgdhniibopaaReg
namespace Go.Proofs.Ytobkgdhniibopaa
open Go.RowKit Plain
set_option linter.unusedVariables false
set_option linter.unusedSimpArgs false

theorem rg12_5 {P : Program} {B n : Nat} {w0 : World} {L : List (Nat × Nat × Value)} {E F : World → Prop} {id : Nat} {Q : Exit → Act → World → Prop} {a : Act} {w : World} {o0 o1 o2 o3 o4 o5 o6 o7 o8 o9 o10 o11 o12 o13 o14 o15 o16 o17 o18 o19 o20 o21 o22 o23 o24 o25 o26 o27 o28 o29 o30 : Oper} (hm : P.follows .mixedOrders = true)
    (hB : (Region.noSelect [o0, o1, o2, o3, o4, o5, o6, o7, o8, o9, o10, o11, o12, o13, o14, o15, o16, o17, o18, o19, o20, o21, o22, o23, o24, o25, o26, o27, o28, o29, o30].toArray && Scr.ok .any [o0, o1, o2, o3, o4, o5, o6, o7, o8, o9, o10, o11, o12, o13, o14, o15, o16, o17, o18, o19, o20, o21, o22, o23, o24, o25, o26, o27, o28, o29, o30].toArray [4, 11, 19, 26] [0, 1, 3, 5, 6, 7, 8, 10, 12, 13, 14, 15, 16, 18, 20, 21, 22, 23, 24, 27, 29, 30] (.free 0 (.free 1 (.free 3 (.read 4 (.alt 2 (.free 5 (.free 6 (.free 7 (.free 8 (.free 10 (.read 11 (.alt 9 (.free 12 (.free 13 (.free 14 (.free 15 (.free 16 (.free 18 (.read 19 (.alt 17 (.free 20 (.free 21 (.free 22 (.free 23 (.free 24 (.free 27 (.read 26 (.alt 25 (.altc 28 (.free 29 (.free 30 .done)) .stop) .stop)))))))) .stop)))))))) .stop))))))) .stop))))) true true [o0, o1, o2, o3, o4, o5, o6, o7, o8, o9, o10, o11, o12, o13, o14, o15, o16, o17, o18, o19, o20, o21, o22, o23, o24, o25, o26, o27, o28, o29, o30].toArray.size (Array.replicate [o0, o1, o2, o3, o4, o5, o6, o7, o8, o9, o10, o11, o12, o13, o14, o15, o16, o17, o18, o19, o20, o21, o22, o23, o24, o25, o26, o27, o28, o29, o30].toArray.size false)) = true)
    (k : Kept B w0 n L w) (he : E w) (hE : ∀ W W', E W → Below W.heap.size W W' → E W') (hf : F w) (hF : ∀ W W', F W → Below W.heap.size W W' → F W')
    (h : ∀ wk, Kept B w0 n L wk → E wk → F wk → wpQuiet P [o0, o1, o2, o3, o4, o5, o6, o7, o8, o9, o10, o11, o12, o13, o14, o15, o16, o17, o18, o19, o20, o21, o22, o23, o24, o25, o26, o27, o28, o29, o30].toArray (fun _ => True) (fun a0 => wpQuiet P [o0, o1, o2, o3, o4, o5, o6, o7, o8, o9, o10, o11, o12, o13, o14, o15, o16, o17, o18, o19, o20, o21, o22, o23, o24, o25, o26, o27, o28, o29, o30].toArray (fun w' => ∃ s : KX B w0 n L E, w' = s.val) (fun a1 => ((∀ K2 : Act → World → Prop, (∀ a2 w2, wpQuiet P [o0, o1, o2, o3, o4, o5, o6, o7, o8, o9, o10, o11, o12, o13, o14, o15, o16, o17, o18, o19, o20, o21, o22, o23, o24, o25, o26, o27, o28, o29, o30].toArray (fun _ => True) (fun a3 => wpQuiet P [o0, o1, o2, o3, o4, o5, o6, o7, o8, o9, o10, o11, o12, o13, o14, o15, o16, o17, o18, o19, o20, o21, o22, o23, o24, o25, o26, o27, o28, o29, o30].toArray (fun w' => ∃ s : KX B w0 n L E, w' = s.val) (fun a4 => ((∀ K5 : Act → World → Prop, (∀ a5 w5, wpQuiet P [o0, o1, o2, o3, o4, o5, o6, o7, o8, o9, o10, o11, o12, o13, o14, o15, o16, o17, o18, o19, o20, o21, o22, o23, o24, o25, o26, o27, o28, o29, o30].toArray (fun _ => True) (fun a6 => wpQuiet P [o0, o1, o2, o3, o4, o5, o6, o7, o8, o9, o10, o11, o12, o13, o14, o15, o16, o17, o18, o19, o20, o21, o22, o23, o24, o25, o26, o27, o28, o29, o30].toArray (fun w' => ∃ s : KX B w0 n L E, w' = s.val) (fun a7 => ((∀ K8 : Act → World → Prop, (∀ a8 w8, wpQuiet P [o0, o1, o2, o3, o4, o5, o6, o7, o8, o9, o10, o11, o12, o13, o14, o15, o16, o17, o18, o19, o20, o21, o22, o23, o24, o25, o26, o27, o28, o29, o30].toArray (fun _ => True) (fun a9 => wpQuiet P [o0, o1, o2, o3, o4, o5, o6, o7, o8, o9, o10, o11, o12, o13, o14, o15, o16, o17, o18, o19, o20, o21, o22, o23, o24, o25, o26, o27, o28, o29, o30].toArray (fun w' => ∃ s : KX B w0 n L E, w' = s.val) (fun a10 => ((∀ K11 : Act → World → Prop, (∀ a11 w11, ((∀ K12 : Act → World → Prop, (∀ a12 w12, wpQuiet P [o0, o1, o2, o3, o4, o5, o6, o7, o8, o9, o10, o11, o12, o13, o14, o15, o16, o17, o18, o19, o20, o21, o22, o23, o24, o25, o26, o27, o28, o29, o30].toArray (fun _ => True) (fun a13 => Q .normal a13 w12) [o29, o30] a12 → K12 a12 w12) → wpList P [o0, o1, o2, o3, o4, o5, o6, o7, o8, o9, o10, o11, o12, o13, o14, o15, o16, o17, o18, o19, o20, o21, o22, o23, o24, o25, o26, o27, o28, o29, o30].toArray (fun e a12 w12 => e = .normal ∧ K12 a12 w12) [o28] a11 w11) ∧ True) → K11 a11 w11) → wpList P [o0, o1, o2, o3, o4, o5, o6, o7, o8, o9, o10, o11, o12, o13, o14, o15, o16, o17, o18, o19, o20, o21, o22, o23, o24, o25, o26, o27, o28, o29, o30].toArray (fun e a11 w11 => e = .normal ∧ (∃ s : KX B w0 n L E, w11 = s.val) ∧ K11 a11 w11) [o25] a10 w8) ∧ True)) [o26] a9) [o20, o21, o22, o23, o24, o27] a8 → K8 a8 w8) → wpList P [o0, o1, o2, o3, o4, o5, o6, o7, o8, o9, o10, o11, o12, o13, o14, o15, o16, o17, o18, o19, o20, o21, o22, o23, o24, o25, o26, o27, o28, o29, o30].toArray (fun e a8 w8 => e = .normal ∧ (∃ s : KX B w0 n L E, w8 = s.val) ∧ K8 a8 w8) [o17] a7 w5) ∧ True)) [o19] a6) [o12, o13, o14, o15, o16, o18] a5 → K5 a5 w5) → wpList P [o0, o1, o2, o3, o4, o5, o6, o7, o8, o9, o10, o11, o12, o13, o14, o15, o16, o17, o18, o19, o20, o21, o22, o23, o24, o25, o26, o27, o28, o29, o30].toArray (fun e a5 w5 => e = .normal ∧ (∃ s : KX B w0 n L E, w5 = s.val) ∧ K5 a5 w5) [o9] a4 w2) ∧ True)) [o11] a3) [o5, o6, o7, o8, o10] a2 → K2 a2 w2) → wpList P [o0, o1, o2, o3, o4, o5, o6, o7, o8, o9, o10, o11, o12, o13, o14, o15, o16, o17, o18, o19, o20, o21, o22, o23, o24, o25, o26, o27, o28, o29, o30].toArray (fun e a2 w2 => e = .normal ∧ (∃ s : KX B w0 n L E, w2 = s.val) ∧ K2 a2 w2) [o2] a1 wk) ∧ True)) [o4] a0) [o0, o1, o3] a) : (Code.region id [o0, o1, o2, o3, o4, o5, o6, o7, o8, o9, o10, o11, o12, o13, o14, o15, o16, o17, o18, o19, o20, o21, o22, o23, o24, o25, o26, o27, o28, o29, o30].toArray true).wp P Q a w := by
  have e1 : E w.drew := hE _ _ he ((Below.refl _ _).drew)
  have g := h _ k.drew e1 (hF _ _ hf ((Below.refl _ _).drew))
  exact wp_region_scr (U := (fun w' => ∃ s : KX B w0 n L E, w' = s.val)) (ops := [o0, o1, o2, o3, o4, o5, o6, o7, o8, o9, o10, o11, o12, o13, o14, o15, o16, o17, o18, o19, o20, o21, o22, o23, o24, o25, o26, o27, o28, o29, o30].toArray) (.free 0 (.free 1 (.free 3 (.read 4 (.alt 2 (.free 5 (.free 6 (.free 7 (.free 8 (.free 10 (.read 11 (.alt 9 (.free 12 (.free 13 (.free 14 (.free 15 (.free 16 (.free 18 (.read 19 (.alt 17 (.free 20 (.free 21 (.free 22 (.free 23 (.free 24 (.free 27 (.read 26 (.alt 25 (.altc 28 (.free 29 (.free 30 .done)) .stop) .stop)))))))) .stop)))))))) .stop))))))) .stop))))) [4, 11, 19, 26] [0, 1, 3, 5, 6, 7, 8, 10, 12, 13, 14, 15, 16, 18, 20, 21, 22, 23, 24, 27, 29, 30] hm hB ⟨⟨_, k.drew, e1⟩, rfl⟩ (Scr.of_free rfl g (fun _ g0 => Scr.of_free rfl g0 (fun _ g1 => Scr.of_free rfl g1 (fun _ g2 => Scr.of_read rfl g2 (fun _ g3 => (Scr.of_alt rfl (g3.1 _ (fun _ _ g => g)) (fun _ _ g4 => Scr.of_free rfl g4 (fun _ g5 => Scr.of_free rfl g5 (fun _ g6 => Scr.of_free rfl g6 (fun _ g7 => Scr.of_free rfl g7 (fun _ g8 => Scr.of_free rfl g8 (fun _ g9 => Scr.of_read rfl g9 (fun _ g10 => (Scr.of_alt rfl (g10.1 _ (fun _ _ g => g)) (fun _ _ g11 => Scr.of_free rfl g11 (fun _ g12 => Scr.of_free rfl g12 (fun _ g13 => Scr.of_free rfl g13 (fun _ g14 => Scr.of_free rfl g14 (fun _ g15 => Scr.of_free rfl g15 (fun _ g16 => Scr.of_free rfl g16 (fun _ g17 => Scr.of_read rfl g17 (fun _ g18 => (Scr.of_alt rfl (g18.1 _ (fun _ _ g => g)) (fun _ _ g19 => Scr.of_free rfl g19 (fun _ g20 => Scr.of_free rfl g20 (fun _ g21 => Scr.of_free rfl g21 (fun _ g22 => Scr.of_free rfl g22 (fun _ g23 => Scr.of_free rfl g23 (fun _ g24 => Scr.of_free rfl g24 (fun _ g25 => Scr.of_read rfl g25 (fun _ g26 => (Scr.of_alt rfl (g26.1 _ (fun _ _ g => g)) (fun _ _ g27 => (Scr.of_altc rfl (g27.1 _ (fun _ _ g => g)) (fun _ _ g28 => Scr.of_free rfl g28 (fun _ g29 => Scr.of_free rfl g29 (fun _ g30 => g30))) trivial)) trivial))))))))) trivial))))))))) trivial)))))))) trivial))))))

theorem rg12_7 {P : Program} {B n : Nat} {w0 : World} {L : List (Nat × Nat × Value)} {E F : World → Prop} {id : Nat} {Q : Exit → Act → World → Prop} {a : Act} {w : World} {o0 o1 o2 o3 o4 o5 o6 o7 : Oper} (hm : P.follows .mixedOrders = true)
    (hB : (Region.noSelect [o0, o1, o2, o3, o4, o5, o6, o7].toArray && Scr.ok .any [o0, o1, o2, o3, o4, o5, o6, o7].toArray [1, 3] [0, 6, 7] (.free 0 (.free 7 (.read 1 (.read 3 (.alt 2 (.altc 4 (.altc 5 (.free 6 .done) .stop) .stop) .stop))))) true true [o0, o1, o2, o3, o4, o5, o6, o7].toArray.size (Array.replicate [o0, o1, o2, o3, o4, o5, o6, o7].toArray.size false)) = true)
    (k : Kept B w0 n L w) (he : E w) (hE : ∀ W W', E W → Below W.heap.size W W' → E W') (hf : F w) (hF : ∀ W W', F W → Below W.heap.size W W' → F W')
    (h : ∀ wk, Kept B w0 n L wk → E wk → F wk → wpQuiet P [o0, o1, o2, o3, o4, o5, o6, o7].toArray (fun _ => True) (fun a0 => wpQuiet P [o0, o1, o2, o3, o4, o5, o6, o7].toArray (fun w' => ∃ s : KX B w0 n L E, w' = s.val) (fun a1 => ((∀ K2 : Act → World → Prop, (∀ a2 w2, ((∀ K3 : Act → World → Prop, (∀ a3 w3, ((∀ K4 : Act → World → Prop, (∀ a4 w4, wpQuiet P [o0, o1, o2, o3, o4, o5, o6, o7].toArray (fun _ => True) (fun a5 => Q .normal a5 w4) [o6] a4 → K4 a4 w4) → wpList P [o0, o1, o2, o3, o4, o5, o6, o7].toArray (fun e a4 w4 => e = .normal ∧ K4 a4 w4) [o5] a3 w3) ∧ True) → K3 a3 w3) → wpList P [o0, o1, o2, o3, o4, o5, o6, o7].toArray (fun e a3 w3 => e = .normal ∧ K3 a3 w3) [o4] a2 w2) ∧ True) → K2 a2 w2) → wpList P [o0, o1, o2, o3, o4, o5, o6, o7].toArray (fun e a2 w2 => e = .normal ∧ (∃ s : KX B w0 n L E, w2 = s.val) ∧ K2 a2 w2) [o2] a1 wk) ∧ True)) [o1, o3] a0) [o0, o7] a) : (Code.region id [o0, o1, o2, o3, o4, o5, o6, o7].toArray true).wp P Q a w := by
  have e1 : E w.drew := hE _ _ he ((Below.refl _ _).drew)
  have g := h _ k.drew e1 (hF _ _ hf ((Below.refl _ _).drew))
  exact wp_region_scr (U := (fun w' => ∃ s : KX B w0 n L E, w' = s.val)) (ops := [o0, o1, o2, o3, o4, o5, o6, o7].toArray) (.free 0 (.free 7 (.read 1 (.read 3 (.alt 2 (.altc 4 (.altc 5 (.free 6 .done) .stop) .stop) .stop))))) [1, 3] [0, 6, 7] hm hB ⟨⟨_, k.drew, e1⟩, rfl⟩ (Scr.of_free rfl g (fun _ g0 => Scr.of_free rfl g0 (fun _ g1 => Scr.of_read rfl g1 (fun _ g2 => Scr.of_read rfl g2 (fun _ g3 => (Scr.of_alt rfl (g3.1 _ (fun _ _ g => g)) (fun _ _ g4 => (Scr.of_altc rfl (g4.1 _ (fun _ _ g => g)) (fun _ _ g5 => (Scr.of_altc rfl (g5.1 _ (fun _ _ g => g)) (fun _ _ g6 => Scr.of_free rfl g6 (fun _ g7 => g7)) trivial)) trivial)) trivial))))))

theorem rg12_10 {P : Program} {B n : Nat} {w0 : World} {L : List (Nat × Nat × Value)} {E F : World → Prop} {id : Nat} {Q : Exit → Act → World → Prop} {a : Act} {w : World} {o0 o1 o2 o3 o4 o5 o6 : Oper} (hm : P.follows .mixedOrders = true)
    (hB : (Region.noSelect [o0, o1, o2, o3, o4, o5, o6].toArray && Scr.ok .any [o0, o1, o2, o3, o4, o5, o6].toArray [3] [0, 1, 4, 6] (.free 0 (.free 1 (.free 4 (.read 3 (.alt 2 (.altc 5 (.free 6 .done) .stop) .stop))))) true true [o0, o1, o2, o3, o4, o5, o6].toArray.size (Array.replicate [o0, o1, o2, o3, o4, o5, o6].toArray.size false)) = true)
    (k : Kept B w0 n L w) (he : E w) (hE : ∀ W W', E W → Below W.heap.size W W' → E W') (hf : F w) (hF : ∀ W W', F W → Below W.heap.size W W' → F W')
    (h : ∀ wk, Kept B w0 n L wk → E wk → F wk → wpQuiet P [o0, o1, o2, o3, o4, o5, o6].toArray (fun _ => True) (fun a0 => wpQuiet P [o0, o1, o2, o3, o4, o5, o6].toArray (fun w' => ∃ s : KX B w0 n L E, w' = s.val) (fun a1 => ((∀ K2 : Act → World → Prop, (∀ a2 w2, ((∀ K3 : Act → World → Prop, (∀ a3 w3, wpQuiet P [o0, o1, o2, o3, o4, o5, o6].toArray (fun _ => True) (fun a4 => Q .normal a4 w3) [o6] a3 → K3 a3 w3) → wpList P [o0, o1, o2, o3, o4, o5, o6].toArray (fun e a3 w3 => e = .normal ∧ K3 a3 w3) [o5] a2 w2) ∧ True) → K2 a2 w2) → wpList P [o0, o1, o2, o3, o4, o5, o6].toArray (fun e a2 w2 => e = .normal ∧ (∃ s : KX B w0 n L E, w2 = s.val) ∧ K2 a2 w2) [o2] a1 wk) ∧ True)) [o3] a0) [o0, o1, o4] a) : (Code.region id [o0, o1, o2, o3, o4, o5, o6].toArray true).wp P Q a w := by
  have e1 : E w.drew := hE _ _ he ((Below.refl _ _).drew)
  have g := h _ k.drew e1 (hF _ _ hf ((Below.refl _ _).drew))
  exact wp_region_scr (U := (fun w' => ∃ s : KX B w0 n L E, w' = s.val)) (ops := [o0, o1, o2, o3, o4, o5, o6].toArray) (.free 0 (.free 1 (.free 4 (.read 3 (.alt 2 (.altc 5 (.free 6 .done) .stop) .stop))))) [3] [0, 1, 4, 6] hm hB ⟨⟨_, k.drew, e1⟩, rfl⟩ (Scr.of_free rfl g (fun _ g0 => Scr.of_free rfl g0 (fun _ g1 => Scr.of_free rfl g1 (fun _ g2 => Scr.of_read rfl g2 (fun _ g3 => (Scr.of_alt rfl (g3.1 _ (fun _ _ g => g)) (fun _ _ g4 => (Scr.of_altc rfl (g4.1 _ (fun _ _ g => g)) (fun _ _ g5 => Scr.of_free rfl g5 (fun _ g6 => g6)) trivial)) trivial))))))

set_option maxRecDepth 100000 in
set_option maxHeartbeats 8000000 in
theorem looks12 (P : Nat) (b : Bk) (t : Int) (w : World) (hb : BookAt w P b) (ok : b.Ok) :
    Calls Try.prog 12 #[.pointer (some ⟨P, 0, none⟩), .agg #[.int .i64 b.n, .int .u64 b.g, .int .i64 b.s0, .bool b.a0, .bool b.h0, .int .u64 b.t0, .int .i64 b.s1, .bool b.a1, .bool b.h1, .int .u64 b.t1], .int .u64 t] w fun e w' => e = .returned (.bool true) ∧ Below w.heap.size w w' := by
  have h1 := ok.n1
  have ht0 := ok.t0
  have ht1 := ok.t1
  have hg : U b.g := by have := ok.g1; have := ok.g2; unfold U; omega
  have HB := Lib.hid hb
  have hlt := hb.lt
  clear hb
  go_enter Try.func12, Try.ntmps12
  go_wp2_with fail
  refine wp_loop_rounds 3 ?_
  rw [rounds_succ]
  go_wp2_with fail
  refine rg12_5 (w0 := w) (B := w.heap.size) (n := w.heap.size + 2) (L := [(w.heap.size, 0, .int .i64 b.n), (w.heap.size, 1, .int .u64 b.g), (w.heap.size, 2, .int .i64 b.s0), (w.heap.size, 3, .bool b.a0), (w.heap.size, 4, .bool b.h0), (w.heap.size, 5, .int .u64 b.t0), (w.heap.size, 6, .int .i64 b.s1), (w.heap.size, 7, .bool b.a1), (w.heap.size, 8, .bool b.h1), (w.heap.size, 9, .int .u64 b.t1), (w.heap.size + 1, 0, .int .i64 b.s0), (w.heap.size + 1, 1, .bool b.a0), (w.heap.size + 1, 2, .bool b.h0), (w.heap.size + 1, 3, .int .u64 b.t0)]) (E := fun W => BookAt W P b) (F := fun _ => True) (by kernel_rfl) (by kernel_rfl) ⟨by go_grown, by go_size, (by simp [go_sem] <;> omega)⟩ (HB.out.below (by go_grown)) (fun _ _ h hb => h.below hb) trivial (fun _ _ _ _ => trivial) (fun w1 K_w1 E_w1 F_w1 => ?_)
  have _ne : Nonempty (KX (w.heap.size) w (w.heap.size + 2) [(w.heap.size, 0, .int .i64 b.n), (w.heap.size, 1, .int .u64 b.g), (w.heap.size, 2, .int .i64 b.s0), (w.heap.size, 3, .bool b.a0), (w.heap.size, 4, .bool b.h0), (w.heap.size, 5, .int .u64 b.t0), (w.heap.size, 6, .int .i64 b.s1), (w.heap.size, 7, .bool b.a1), (w.heap.size, 8, .bool b.h1), (w.heap.size, 9, .int .u64 b.t1), (w.heap.size + 1, 0, .int .i64 b.s0), (w.heap.size + 1, 1, .bool b.a0), (w.heap.size + 1, 2, .bool b.h0), (w.heap.size + 1, 3, .int .u64 b.t0)] (fun W => BookAt W P b)) := ⟨⟨_, K_w1, E_w1⟩⟩
  repeat (go_big_quiet_step (fail))
  refine wpQuiet_nil ?_
  have rR0 : ∀ s : KX (w.heap.size) w (w.heap.size + 2) [(w.heap.size, 0, .int .i64 b.n), (w.heap.size, 1, .int .u64 b.g), (w.heap.size, 2, .int .i64 b.s0), (w.heap.size, 3, .bool b.a0), (w.heap.size, 4, .bool b.h0), (w.heap.size, 5, .int .u64 b.t0), (w.heap.size, 6, .int .i64 b.s1), (w.heap.size, 7, .bool b.a1), (w.heap.size, 8, .bool b.h1), (w.heap.size, 9, .int .u64 b.t1), (w.heap.size + 1, 0, .int .i64 b.s0), (w.heap.size + 1, 1, .bool b.a0), (w.heap.size + 1, 2, .bool b.h0), (w.heap.size + 1, 3, .int .u64 b.t0)] (fun W => BookAt W P b), s.val.cell? ⟨w.heap.size, 0, none⟩ = some (.int .i64 b.n) := fun s => s.kept.at (by simp)
  have rR1 : ∀ s : KX (w.heap.size) w (w.heap.size + 2) [(w.heap.size, 0, .int .i64 b.n), (w.heap.size, 1, .int .u64 b.g), (w.heap.size, 2, .int .i64 b.s0), (w.heap.size, 3, .bool b.a0), (w.heap.size, 4, .bool b.h0), (w.heap.size, 5, .int .u64 b.t0), (w.heap.size, 6, .int .i64 b.s1), (w.heap.size, 7, .bool b.a1), (w.heap.size, 8, .bool b.h1), (w.heap.size, 9, .int .u64 b.t1), (w.heap.size + 1, 0, .int .i64 b.s0), (w.heap.size + 1, 1, .bool b.a0), (w.heap.size + 1, 2, .bool b.h0), (w.heap.size + 1, 3, .int .u64 b.t0)] (fun W => BookAt W P b), s.val.cell? ⟨w.heap.size, 1, none⟩ = some (.int .u64 b.g) := fun s => s.kept.at (by simp)
  have rR2 : ∀ s : KX (w.heap.size) w (w.heap.size + 2) [(w.heap.size, 0, .int .i64 b.n), (w.heap.size, 1, .int .u64 b.g), (w.heap.size, 2, .int .i64 b.s0), (w.heap.size, 3, .bool b.a0), (w.heap.size, 4, .bool b.h0), (w.heap.size, 5, .int .u64 b.t0), (w.heap.size, 6, .int .i64 b.s1), (w.heap.size, 7, .bool b.a1), (w.heap.size, 8, .bool b.h1), (w.heap.size, 9, .int .u64 b.t1), (w.heap.size + 1, 0, .int .i64 b.s0), (w.heap.size + 1, 1, .bool b.a0), (w.heap.size + 1, 2, .bool b.h0), (w.heap.size + 1, 3, .int .u64 b.t0)] (fun W => BookAt W P b), s.val.cell? ⟨w.heap.size, 2, none⟩ = some (.int .i64 b.s0) := fun s => s.kept.at (by simp)
  have rR3 : ∀ s : KX (w.heap.size) w (w.heap.size + 2) [(w.heap.size, 0, .int .i64 b.n), (w.heap.size, 1, .int .u64 b.g), (w.heap.size, 2, .int .i64 b.s0), (w.heap.size, 3, .bool b.a0), (w.heap.size, 4, .bool b.h0), (w.heap.size, 5, .int .u64 b.t0), (w.heap.size, 6, .int .i64 b.s1), (w.heap.size, 7, .bool b.a1), (w.heap.size, 8, .bool b.h1), (w.heap.size, 9, .int .u64 b.t1), (w.heap.size + 1, 0, .int .i64 b.s0), (w.heap.size + 1, 1, .bool b.a0), (w.heap.size + 1, 2, .bool b.h0), (w.heap.size + 1, 3, .int .u64 b.t0)] (fun W => BookAt W P b), s.val.cell? ⟨w.heap.size, 3, none⟩ = some (.bool b.a0) := fun s => s.kept.at (by simp)
  have rR4 : ∀ s : KX (w.heap.size) w (w.heap.size + 2) [(w.heap.size, 0, .int .i64 b.n), (w.heap.size, 1, .int .u64 b.g), (w.heap.size, 2, .int .i64 b.s0), (w.heap.size, 3, .bool b.a0), (w.heap.size, 4, .bool b.h0), (w.heap.size, 5, .int .u64 b.t0), (w.heap.size, 6, .int .i64 b.s1), (w.heap.size, 7, .bool b.a1), (w.heap.size, 8, .bool b.h1), (w.heap.size, 9, .int .u64 b.t1), (w.heap.size + 1, 0, .int .i64 b.s0), (w.heap.size + 1, 1, .bool b.a0), (w.heap.size + 1, 2, .bool b.h0), (w.heap.size + 1, 3, .int .u64 b.t0)] (fun W => BookAt W P b), s.val.cell? ⟨w.heap.size, 4, none⟩ = some (.bool b.h0) := fun s => s.kept.at (by simp)
  have rR5 : ∀ s : KX (w.heap.size) w (w.heap.size + 2) [(w.heap.size, 0, .int .i64 b.n), (w.heap.size, 1, .int .u64 b.g), (w.heap.size, 2, .int .i64 b.s0), (w.heap.size, 3, .bool b.a0), (w.heap.size, 4, .bool b.h0), (w.heap.size, 5, .int .u64 b.t0), (w.heap.size, 6, .int .i64 b.s1), (w.heap.size, 7, .bool b.a1), (w.heap.size, 8, .bool b.h1), (w.heap.size, 9, .int .u64 b.t1), (w.heap.size + 1, 0, .int .i64 b.s0), (w.heap.size + 1, 1, .bool b.a0), (w.heap.size + 1, 2, .bool b.h0), (w.heap.size + 1, 3, .int .u64 b.t0)] (fun W => BookAt W P b), s.val.cell? ⟨w.heap.size, 5, none⟩ = some (.int .u64 b.t0) := fun s => s.kept.at (by simp)
  have rR6 : ∀ s : KX (w.heap.size) w (w.heap.size + 2) [(w.heap.size, 0, .int .i64 b.n), (w.heap.size, 1, .int .u64 b.g), (w.heap.size, 2, .int .i64 b.s0), (w.heap.size, 3, .bool b.a0), (w.heap.size, 4, .bool b.h0), (w.heap.size, 5, .int .u64 b.t0), (w.heap.size, 6, .int .i64 b.s1), (w.heap.size, 7, .bool b.a1), (w.heap.size, 8, .bool b.h1), (w.heap.size, 9, .int .u64 b.t1), (w.heap.size + 1, 0, .int .i64 b.s0), (w.heap.size + 1, 1, .bool b.a0), (w.heap.size + 1, 2, .bool b.h0), (w.heap.size + 1, 3, .int .u64 b.t0)] (fun W => BookAt W P b), s.val.cell? ⟨w.heap.size, 6, none⟩ = some (.int .i64 b.s1) := fun s => s.kept.at (by simp)
  have rR7 : ∀ s : KX (w.heap.size) w (w.heap.size + 2) [(w.heap.size, 0, .int .i64 b.n), (w.heap.size, 1, .int .u64 b.g), (w.heap.size, 2, .int .i64 b.s0), (w.heap.size, 3, .bool b.a0), (w.heap.size, 4, .bool b.h0), (w.heap.size, 5, .int .u64 b.t0), (w.heap.size, 6, .int .i64 b.s1), (w.heap.size, 7, .bool b.a1), (w.heap.size, 8, .bool b.h1), (w.heap.size, 9, .int .u64 b.t1), (w.heap.size + 1, 0, .int .i64 b.s0), (w.heap.size + 1, 1, .bool b.a0), (w.heap.size + 1, 2, .bool b.h0), (w.heap.size + 1, 3, .int .u64 b.t0)] (fun W => BookAt W P b), s.val.cell? ⟨w.heap.size, 7, none⟩ = some (.bool b.a1) := fun s => s.kept.at (by simp)
  have rR8 : ∀ s : KX (w.heap.size) w (w.heap.size + 2) [(w.heap.size, 0, .int .i64 b.n), (w.heap.size, 1, .int .u64 b.g), (w.heap.size, 2, .int .i64 b.s0), (w.heap.size, 3, .bool b.a0), (w.heap.size, 4, .bool b.h0), (w.heap.size, 5, .int .u64 b.t0), (w.heap.size, 6, .int .i64 b.s1), (w.heap.size, 7, .bool b.a1), (w.heap.size, 8, .bool b.h1), (w.heap.size, 9, .int .u64 b.t1), (w.heap.size + 1, 0, .int .i64 b.s0), (w.heap.size + 1, 1, .bool b.a0), (w.heap.size + 1, 2, .bool b.h0), (w.heap.size + 1, 3, .int .u64 b.t0)] (fun W => BookAt W P b), s.val.cell? ⟨w.heap.size, 8, none⟩ = some (.bool b.h1) := fun s => s.kept.at (by simp)
  have rR9 : ∀ s : KX (w.heap.size) w (w.heap.size + 2) [(w.heap.size, 0, .int .i64 b.n), (w.heap.size, 1, .int .u64 b.g), (w.heap.size, 2, .int .i64 b.s0), (w.heap.size, 3, .bool b.a0), (w.heap.size, 4, .bool b.h0), (w.heap.size, 5, .int .u64 b.t0), (w.heap.size, 6, .int .i64 b.s1), (w.heap.size, 7, .bool b.a1), (w.heap.size, 8, .bool b.h1), (w.heap.size, 9, .int .u64 b.t1), (w.heap.size + 1, 0, .int .i64 b.s0), (w.heap.size + 1, 1, .bool b.a0), (w.heap.size + 1, 2, .bool b.h0), (w.heap.size + 1, 3, .int .u64 b.t0)] (fun W => BookAt W P b), s.val.cell? ⟨w.heap.size, 9, none⟩ = some (.int .u64 b.t1) := fun s => s.kept.at (by simp)
  have rX0 : ∀ s : KX (w.heap.size) w (w.heap.size + 2) [(w.heap.size, 0, .int .i64 b.n), (w.heap.size, 1, .int .u64 b.g), (w.heap.size, 2, .int .i64 b.s0), (w.heap.size, 3, .bool b.a0), (w.heap.size, 4, .bool b.h0), (w.heap.size, 5, .int .u64 b.t0), (w.heap.size, 6, .int .i64 b.s1), (w.heap.size, 7, .bool b.a1), (w.heap.size, 8, .bool b.h1), (w.heap.size, 9, .int .u64 b.t1), (w.heap.size + 1, 0, .int .i64 b.s0), (w.heap.size + 1, 1, .bool b.a0), (w.heap.size + 1, 2, .bool b.h0), (w.heap.size + 1, 3, .int .u64 b.t0)] (fun W => BookAt W P b), s.val.cell? ⟨w.heap.size + 1, 0, none⟩ = some (.int .i64 b.s0) := fun s => s.kept.at (by simp)
  have rX1 : ∀ s : KX (w.heap.size) w (w.heap.size + 2) [(w.heap.size, 0, .int .i64 b.n), (w.heap.size, 1, .int .u64 b.g), (w.heap.size, 2, .int .i64 b.s0), (w.heap.size, 3, .bool b.a0), (w.heap.size, 4, .bool b.h0), (w.heap.size, 5, .int .u64 b.t0), (w.heap.size, 6, .int .i64 b.s1), (w.heap.size, 7, .bool b.a1), (w.heap.size, 8, .bool b.h1), (w.heap.size, 9, .int .u64 b.t1), (w.heap.size + 1, 0, .int .i64 b.s0), (w.heap.size + 1, 1, .bool b.a0), (w.heap.size + 1, 2, .bool b.h0), (w.heap.size + 1, 3, .int .u64 b.t0)] (fun W => BookAt W P b), s.val.cell? ⟨w.heap.size + 1, 1, none⟩ = some (.bool b.a0) := fun s => s.kept.at (by simp)
  have rX2 : ∀ s : KX (w.heap.size) w (w.heap.size + 2) [(w.heap.size, 0, .int .i64 b.n), (w.heap.size, 1, .int .u64 b.g), (w.heap.size, 2, .int .i64 b.s0), (w.heap.size, 3, .bool b.a0), (w.heap.size, 4, .bool b.h0), (w.heap.size, 5, .int .u64 b.t0), (w.heap.size, 6, .int .i64 b.s1), (w.heap.size, 7, .bool b.a1), (w.heap.size, 8, .bool b.h1), (w.heap.size, 9, .int .u64 b.t1), (w.heap.size + 1, 0, .int .i64 b.s0), (w.heap.size + 1, 1, .bool b.a0), (w.heap.size + 1, 2, .bool b.h0), (w.heap.size + 1, 3, .int .u64 b.t0)] (fun W => BookAt W P b), s.val.cell? ⟨w.heap.size + 1, 2, none⟩ = some (.bool b.h0) := fun s => s.kept.at (by simp)
  have rX3 : ∀ s : KX (w.heap.size) w (w.heap.size + 2) [(w.heap.size, 0, .int .i64 b.n), (w.heap.size, 1, .int .u64 b.g), (w.heap.size, 2, .int .i64 b.s0), (w.heap.size, 3, .bool b.a0), (w.heap.size, 4, .bool b.h0), (w.heap.size, 5, .int .u64 b.t0), (w.heap.size, 6, .int .i64 b.s1), (w.heap.size, 7, .bool b.a1), (w.heap.size, 8, .bool b.h1), (w.heap.size, 9, .int .u64 b.t1), (w.heap.size + 1, 0, .int .i64 b.s0), (w.heap.size + 1, 1, .bool b.a0), (w.heap.size + 1, 2, .bool b.h0), (w.heap.size + 1, 3, .int .u64 b.t0)] (fun W => BookAt W P b), s.val.cell? ⟨w.heap.size + 1, 3, none⟩ = some (.int .u64 b.t0) := fun s => s.kept.at (by simp)
  repeat (go_big_quiet_step (fail))
  refine wpQuiet_nil ?_
  clear rR0 rR1 rR2 rR3 rR4 rR5 rR6 rR7 rR8 rR9 rX0 rX1 rX2 rX3
  have KH_w1 := Lib.hid K_w1
  have hw_w1 := K_w1.below
  have hz_w1 := K_w1.size
  have lR_w1 : w.heap.size < w1.heap.size := by omega
  have lX_w1 : w.heap.size + 1 < w1.heap.size := by omega
  clear K_w1
  have HB := Lib.hid E_w1
  clear E_w1 F_w1
  refine ⟨fun K hK0 => ?_, trivial⟩
  have hK := Lib.hid hK0
  clear hK0
  go_wp2_with fail
  with_reducible refine (auto20_0 P b _ HB.out h1).mono ?_
  rintro e w2 ⟨rfl, hb_w2⟩
  have K_w2 : Kept w.heap.size w (w.heap.size + 2) [(w.heap.size, 0, .int .i64 b.n), (w.heap.size, 1, .int .u64 b.g), (w.heap.size, 2, .int .i64 b.s0), (w.heap.size, 3, .bool b.a0), (w.heap.size, 4, .bool b.h0), (w.heap.size, 5, .int .u64 b.t0), (w.heap.size, 6, .int .i64 b.s1), (w.heap.size, 7, .bool b.a1), (w.heap.size, 8, .bool b.h1), (w.heap.size, 9, .int .u64 b.t1), (w.heap.size + 1, 0, .int .i64 b.s0), (w.heap.size + 1, 1, .bool b.a0), (w.heap.size + 1, 2, .bool b.h0), (w.heap.size + 1, 3, .int .u64 b.t0)] w2 := (KH_w1.out.step (by omega) (by go_grown)).step (by omega) hb_w2
  replace HB := Lib.hid (HB.out.below hb_w2)
  clear hb_w2
  have KH_w2 := Lib.hid K_w2
  have hw_w2 := K_w2.below
  have hz_w2 := K_w2.size
  have lR_w2 : w.heap.size < w2.heap.size := by omega
  have lX_w2 : w.heap.size + 1 < w2.heap.size := by omega
  clear lR_w1 lX_w1
  clear K_w2
  go_wp2_with fail
  first | (refine ⟨rfl, ⟨⟨_, KH_w2.out, HB.out⟩, rfl⟩, hK.out _ _ ?_⟩; clear hK K) | (refine ⟨⟨⟨_, KH_w2.out, HB.out⟩, rfl⟩, hK.out _ _ ?_⟩; clear hK K)
  repeat (go_big_quiet_step (fail))
  refine wpQuiet_nil ?_
  have rR0 : ∀ s : KX (w.heap.size) w (w.heap.size + 2) [(w.heap.size, 0, .int .i64 b.n), (w.heap.size, 1, .int .u64 b.g), (w.heap.size, 2, .int .i64 b.s0), (w.heap.size, 3, .bool b.a0), (w.heap.size, 4, .bool b.h0), (w.heap.size, 5, .int .u64 b.t0), (w.heap.size, 6, .int .i64 b.s1), (w.heap.size, 7, .bool b.a1), (w.heap.size, 8, .bool b.h1), (w.heap.size, 9, .int .u64 b.t1), (w.heap.size + 1, 0, .int .i64 b.s0), (w.heap.size + 1, 1, .bool b.a0), (w.heap.size + 1, 2, .bool b.h0), (w.heap.size + 1, 3, .int .u64 b.t0)] (fun W => BookAt W P b), s.val.cell? ⟨w.heap.size, 0, none⟩ = some (.int .i64 b.n) := fun s => s.kept.at (by simp)
  have rR1 : ∀ s : KX (w.heap.size) w (w.heap.size + 2) [(w.heap.size, 0, .int .i64 b.n), (w.heap.size, 1, .int .u64 b.g), (w.heap.size, 2, .int .i64 b.s0), (w.heap.size, 3, .bool b.a0), (w.heap.size, 4, .bool b.h0), (w.heap.size, 5, .int .u64 b.t0), (w.heap.size, 6, .int .i64 b.s1), (w.heap.size, 7, .bool b.a1), (w.heap.size, 8, .bool b.h1), (w.heap.size, 9, .int .u64 b.t1), (w.heap.size + 1, 0, .int .i64 b.s0), (w.heap.size + 1, 1, .bool b.a0), (w.heap.size + 1, 2, .bool b.h0), (w.heap.size + 1, 3, .int .u64 b.t0)] (fun W => BookAt W P b), s.val.cell? ⟨w.heap.size, 1, none⟩ = some (.int .u64 b.g) := fun s => s.kept.at (by simp)
  have rR2 : ∀ s : KX (w.heap.size) w (w.heap.size + 2) [(w.heap.size, 0, .int .i64 b.n), (w.heap.size, 1, .int .u64 b.g), (w.heap.size, 2, .int .i64 b.s0), (w.heap.size, 3, .bool b.a0), (w.heap.size, 4, .bool b.h0), (w.heap.size, 5, .int .u64 b.t0), (w.heap.size, 6, .int .i64 b.s1), (w.heap.size, 7, .bool b.a1), (w.heap.size, 8, .bool b.h1), (w.heap.size, 9, .int .u64 b.t1), (w.heap.size + 1, 0, .int .i64 b.s0), (w.heap.size + 1, 1, .bool b.a0), (w.heap.size + 1, 2, .bool b.h0), (w.heap.size + 1, 3, .int .u64 b.t0)] (fun W => BookAt W P b), s.val.cell? ⟨w.heap.size, 2, none⟩ = some (.int .i64 b.s0) := fun s => s.kept.at (by simp)
  have rR3 : ∀ s : KX (w.heap.size) w (w.heap.size + 2) [(w.heap.size, 0, .int .i64 b.n), (w.heap.size, 1, .int .u64 b.g), (w.heap.size, 2, .int .i64 b.s0), (w.heap.size, 3, .bool b.a0), (w.heap.size, 4, .bool b.h0), (w.heap.size, 5, .int .u64 b.t0), (w.heap.size, 6, .int .i64 b.s1), (w.heap.size, 7, .bool b.a1), (w.heap.size, 8, .bool b.h1), (w.heap.size, 9, .int .u64 b.t1), (w.heap.size + 1, 0, .int .i64 b.s0), (w.heap.size + 1, 1, .bool b.a0), (w.heap.size + 1, 2, .bool b.h0), (w.heap.size + 1, 3, .int .u64 b.t0)] (fun W => BookAt W P b), s.val.cell? ⟨w.heap.size, 3, none⟩ = some (.bool b.a0) := fun s => s.kept.at (by simp)
  have rR4 : ∀ s : KX (w.heap.size) w (w.heap.size + 2) [(w.heap.size, 0, .int .i64 b.n), (w.heap.size, 1, .int .u64 b.g), (w.heap.size, 2, .int .i64 b.s0), (w.heap.size, 3, .bool b.a0), (w.heap.size, 4, .bool b.h0), (w.heap.size, 5, .int .u64 b.t0), (w.heap.size, 6, .int .i64 b.s1), (w.heap.size, 7, .bool b.a1), (w.heap.size, 8, .bool b.h1), (w.heap.size, 9, .int .u64 b.t1), (w.heap.size + 1, 0, .int .i64 b.s0), (w.heap.size + 1, 1, .bool b.a0), (w.heap.size + 1, 2, .bool b.h0), (w.heap.size + 1, 3, .int .u64 b.t0)] (fun W => BookAt W P b), s.val.cell? ⟨w.heap.size, 4, none⟩ = some (.bool b.h0) := fun s => s.kept.at (by simp)
  have rR5 : ∀ s : KX (w.heap.size) w (w.heap.size + 2) [(w.heap.size, 0, .int .i64 b.n), (w.heap.size, 1, .int .u64 b.g), (w.heap.size, 2, .int .i64 b.s0), (w.heap.size, 3, .bool b.a0), (w.heap.size, 4, .bool b.h0), (w.heap.size, 5, .int .u64 b.t0), (w.heap.size, 6, .int .i64 b.s1), (w.heap.size, 7, .bool b.a1), (w.heap.size, 8, .bool b.h1), (w.heap.size, 9, .int .u64 b.t1), (w.heap.size + 1, 0, .int .i64 b.s0), (w.heap.size + 1, 1, .bool b.a0), (w.heap.size + 1, 2, .bool b.h0), (w.heap.size + 1, 3, .int .u64 b.t0)] (fun W => BookAt W P b), s.val.cell? ⟨w.heap.size, 5, none⟩ = some (.int .u64 b.t0) := fun s => s.kept.at (by simp)
  have rR6 : ∀ s : KX (w.heap.size) w (w.heap.size + 2) [(w.heap.size, 0, .int .i64 b.n), (w.heap.size, 1, .int .u64 b.g), (w.heap.size, 2, .int .i64 b.s0), (w.heap.size, 3, .bool b.a0), (w.heap.size, 4, .bool b.h0), (w.heap.size, 5, .int .u64 b.t0), (w.heap.size, 6, .int .i64 b.s1), (w.heap.size, 7, .bool b.a1), (w.heap.size, 8, .bool b.h1), (w.heap.size, 9, .int .u64 b.t1), (w.heap.size + 1, 0, .int .i64 b.s0), (w.heap.size + 1, 1, .bool b.a0), (w.heap.size + 1, 2, .bool b.h0), (w.heap.size + 1, 3, .int .u64 b.t0)] (fun W => BookAt W P b), s.val.cell? ⟨w.heap.size, 6, none⟩ = some (.int .i64 b.s1) := fun s => s.kept.at (by simp)
  have rR7 : ∀ s : KX (w.heap.size) w (w.heap.size + 2) [(w.heap.size, 0, .int .i64 b.n), (w.heap.size, 1, .int .u64 b.g), (w.heap.size, 2, .int .i64 b.s0), (w.heap.size, 3, .bool b.a0), (w.heap.size, 4, .bool b.h0), (w.heap.size, 5, .int .u64 b.t0), (w.heap.size, 6, .int .i64 b.s1), (w.heap.size, 7, .bool b.a1), (w.heap.size, 8, .bool b.h1), (w.heap.size, 9, .int .u64 b.t1), (w.heap.size + 1, 0, .int .i64 b.s0), (w.heap.size + 1, 1, .bool b.a0), (w.heap.size + 1, 2, .bool b.h0), (w.heap.size + 1, 3, .int .u64 b.t0)] (fun W => BookAt W P b), s.val.cell? ⟨w.heap.size, 7, none⟩ = some (.bool b.a1) := fun s => s.kept.at (by simp)
  have rR8 : ∀ s : KX (w.heap.size) w (w.heap.size + 2) [(w.heap.size, 0, .int .i64 b.n), (w.heap.size, 1, .int .u64 b.g), (w.heap.size, 2, .int .i64 b.s0), (w.heap.size, 3, .bool b.a0), (w.heap.size, 4, .bool b.h0), (w.heap.size, 5, .int .u64 b.t0), (w.heap.size, 6, .int .i64 b.s1), (w.heap.size, 7, .bool b.a1), (w.heap.size, 8, .bool b.h1), (w.heap.size, 9, .int .u64 b.t1), (w.heap.size + 1, 0, .int .i64 b.s0), (w.heap.size + 1, 1, .bool b.a0), (w.heap.size + 1, 2, .bool b.h0), (w.heap.size + 1, 3, .int .u64 b.t0)] (fun W => BookAt W P b), s.val.cell? ⟨w.heap.size, 8, none⟩ = some (.bool b.h1) := fun s => s.kept.at (by simp)
  have rR9 : ∀ s : KX (w.heap.size) w (w.heap.size + 2) [(w.heap.size, 0, .int .i64 b.n), (w.heap.size, 1, .int .u64 b.g), (w.heap.size, 2, .int .i64 b.s0), (w.heap.size, 3, .bool b.a0), (w.heap.size, 4, .bool b.h0), (w.heap.size, 5, .int .u64 b.t0), (w.heap.size, 6, .int .i64 b.s1), (w.heap.size, 7, .bool b.a1), (w.heap.size, 8, .bool b.h1), (w.heap.size, 9, .int .u64 b.t1), (w.heap.size + 1, 0, .int .i64 b.s0), (w.heap.size + 1, 1, .bool b.a0), (w.heap.size + 1, 2, .bool b.h0), (w.heap.size + 1, 3, .int .u64 b.t0)] (fun W => BookAt W P b), s.val.cell? ⟨w.heap.size, 9, none⟩ = some (.int .u64 b.t1) := fun s => s.kept.at (by simp)
  have rX0 : ∀ s : KX (w.heap.size) w (w.heap.size + 2) [(w.heap.size, 0, .int .i64 b.n), (w.heap.size, 1, .int .u64 b.g), (w.heap.size, 2, .int .i64 b.s0), (w.heap.size, 3, .bool b.a0), (w.heap.size, 4, .bool b.h0), (w.heap.size, 5, .int .u64 b.t0), (w.heap.size, 6, .int .i64 b.s1), (w.heap.size, 7, .bool b.a1), (w.heap.size, 8, .bool b.h1), (w.heap.size, 9, .int .u64 b.t1), (w.heap.size + 1, 0, .int .i64 b.s0), (w.heap.size + 1, 1, .bool b.a0), (w.heap.size + 1, 2, .bool b.h0), (w.heap.size + 1, 3, .int .u64 b.t0)] (fun W => BookAt W P b), s.val.cell? ⟨w.heap.size + 1, 0, none⟩ = some (.int .i64 b.s0) := fun s => s.kept.at (by simp)
  have rX1 : ∀ s : KX (w.heap.size) w (w.heap.size + 2) [(w.heap.size, 0, .int .i64 b.n), (w.heap.size, 1, .int .u64 b.g), (w.heap.size, 2, .int .i64 b.s0), (w.heap.size, 3, .bool b.a0), (w.heap.size, 4, .bool b.h0), (w.heap.size, 5, .int .u64 b.t0), (w.heap.size, 6, .int .i64 b.s1), (w.heap.size, 7, .bool b.a1), (w.heap.size, 8, .bool b.h1), (w.heap.size, 9, .int .u64 b.t1), (w.heap.size + 1, 0, .int .i64 b.s0), (w.heap.size + 1, 1, .bool b.a0), (w.heap.size + 1, 2, .bool b.h0), (w.heap.size + 1, 3, .int .u64 b.t0)] (fun W => BookAt W P b), s.val.cell? ⟨w.heap.size + 1, 1, none⟩ = some (.bool b.a0) := fun s => s.kept.at (by simp)
  have rX2 : ∀ s : KX (w.heap.size) w (w.heap.size + 2) [(w.heap.size, 0, .int .i64 b.n), (w.heap.size, 1, .int .u64 b.g), (w.heap.size, 2, .int .i64 b.s0), (w.heap.size, 3, .bool b.a0), (w.heap.size, 4, .bool b.h0), (w.heap.size, 5, .int .u64 b.t0), (w.heap.size, 6, .int .i64 b.s1), (w.heap.size, 7, .bool b.a1), (w.heap.size, 8, .bool b.h1), (w.heap.size, 9, .int .u64 b.t1), (w.heap.size + 1, 0, .int .i64 b.s0), (w.heap.size + 1, 1, .bool b.a0), (w.heap.size + 1, 2, .bool b.h0), (w.heap.size + 1, 3, .int .u64 b.t0)] (fun W => BookAt W P b), s.val.cell? ⟨w.heap.size + 1, 2, none⟩ = some (.bool b.h0) := fun s => s.kept.at (by simp)
  have rX3 : ∀ s : KX (w.heap.size) w (w.heap.size + 2) [(w.heap.size, 0, .int .i64 b.n), (w.heap.size, 1, .int .u64 b.g), (w.heap.size, 2, .int .i64 b.s0), (w.heap.size, 3, .bool b.a0), (w.heap.size, 4, .bool b.h0), (w.heap.size, 5, .int .u64 b.t0), (w.heap.size, 6, .int .i64 b.s1), (w.heap.size, 7, .bool b.a1), (w.heap.size, 8, .bool b.h1), (w.heap.size, 9, .int .u64 b.t1), (w.heap.size + 1, 0, .int .i64 b.s0), (w.heap.size + 1, 1, .bool b.a0), (w.heap.size + 1, 2, .bool b.h0), (w.heap.size + 1, 3, .int .u64 b.t0)] (fun W => BookAt W P b), s.val.cell? ⟨w.heap.size + 1, 3, none⟩ = some (.int .u64 b.t0) := fun s => s.kept.at (by simp)
  repeat (go_big_quiet_step (fail))
  refine wpQuiet_nil ?_
  clear rR0 rR1 rR2 rR3 rR4 rR5 rR6 rR7 rR8 rR9 rX0 rX1 rX2 rX3
  refine ⟨fun K hK0 => ?_, trivial⟩
  have hK := Lib.hid hK0
  clear hK0
  go_wp2_with fail
  with_reducible refine (strikes21_0 P b _ HB.out h1).mono ?_
  rintro e w3 ⟨rfl, hb_w3⟩
  have K_w3 : Kept w.heap.size w (w.heap.size + 2) [(w.heap.size, 0, .int .i64 b.n), (w.heap.size, 1, .int .u64 b.g), (w.heap.size, 2, .int .i64 b.s0), (w.heap.size, 3, .bool b.a0), (w.heap.size, 4, .bool b.h0), (w.heap.size, 5, .int .u64 b.t0), (w.heap.size, 6, .int .i64 b.s1), (w.heap.size, 7, .bool b.a1), (w.heap.size, 8, .bool b.h1), (w.heap.size, 9, .int .u64 b.t1), (w.heap.size + 1, 0, .int .i64 b.s0), (w.heap.size + 1, 1, .bool b.a0), (w.heap.size + 1, 2, .bool b.h0), (w.heap.size + 1, 3, .int .u64 b.t0)] w3 := (KH_w2.out.step (by omega) (by go_grown)).step (by omega) hb_w3
  replace HB := Lib.hid (HB.out.below hb_w3)
  clear hb_w3
  have KH_w3 := Lib.hid K_w3
  have hw_w3 := K_w3.below
  have hz_w3 := K_w3.size
  have lR_w3 : w.heap.size < w3.heap.size := by omega
  have lX_w3 : w.heap.size + 1 < w3.heap.size := by omega
  clear lR_w2 lX_w2
  clear K_w3
  go_wp2_with fail
  first | (refine ⟨rfl, ⟨⟨_, KH_w3.out, HB.out⟩, rfl⟩, hK.out _ _ ?_⟩; clear hK K) | (refine ⟨⟨⟨_, KH_w3.out, HB.out⟩, rfl⟩, hK.out _ _ ?_⟩; clear hK K)
  repeat (go_big_quiet_step (fail))
  refine wpQuiet_nil ?_
  have rR0 : ∀ s : KX (w.heap.size) w (w.heap.size + 2) [(w.heap.size, 0, .int .i64 b.n), (w.heap.size, 1, .int .u64 b.g), (w.heap.size, 2, .int .i64 b.s0), (w.heap.size, 3, .bool b.a0), (w.heap.size, 4, .bool b.h0), (w.heap.size, 5, .int .u64 b.t0), (w.heap.size, 6, .int .i64 b.s1), (w.heap.size, 7, .bool b.a1), (w.heap.size, 8, .bool b.h1), (w.heap.size, 9, .int .u64 b.t1), (w.heap.size + 1, 0, .int .i64 b.s0), (w.heap.size + 1, 1, .bool b.a0), (w.heap.size + 1, 2, .bool b.h0), (w.heap.size + 1, 3, .int .u64 b.t0)] (fun W => BookAt W P b), s.val.cell? ⟨w.heap.size, 0, none⟩ = some (.int .i64 b.n) := fun s => s.kept.at (by simp)
  have rR1 : ∀ s : KX (w.heap.size) w (w.heap.size + 2) [(w.heap.size, 0, .int .i64 b.n), (w.heap.size, 1, .int .u64 b.g), (w.heap.size, 2, .int .i64 b.s0), (w.heap.size, 3, .bool b.a0), (w.heap.size, 4, .bool b.h0), (w.heap.size, 5, .int .u64 b.t0), (w.heap.size, 6, .int .i64 b.s1), (w.heap.size, 7, .bool b.a1), (w.heap.size, 8, .bool b.h1), (w.heap.size, 9, .int .u64 b.t1), (w.heap.size + 1, 0, .int .i64 b.s0), (w.heap.size + 1, 1, .bool b.a0), (w.heap.size + 1, 2, .bool b.h0), (w.heap.size + 1, 3, .int .u64 b.t0)] (fun W => BookAt W P b), s.val.cell? ⟨w.heap.size, 1, none⟩ = some (.int .u64 b.g) := fun s => s.kept.at (by simp)
  have rR2 : ∀ s : KX (w.heap.size) w (w.heap.size + 2) [(w.heap.size, 0, .int .i64 b.n), (w.heap.size, 1, .int .u64 b.g), (w.heap.size, 2, .int .i64 b.s0), (w.heap.size, 3, .bool b.a0), (w.heap.size, 4, .bool b.h0), (w.heap.size, 5, .int .u64 b.t0), (w.heap.size, 6, .int .i64 b.s1), (w.heap.size, 7, .bool b.a1), (w.heap.size, 8, .bool b.h1), (w.heap.size, 9, .int .u64 b.t1), (w.heap.size + 1, 0, .int .i64 b.s0), (w.heap.size + 1, 1, .bool b.a0), (w.heap.size + 1, 2, .bool b.h0), (w.heap.size + 1, 3, .int .u64 b.t0)] (fun W => BookAt W P b), s.val.cell? ⟨w.heap.size, 2, none⟩ = some (.int .i64 b.s0) := fun s => s.kept.at (by simp)
  have rR3 : ∀ s : KX (w.heap.size) w (w.heap.size + 2) [(w.heap.size, 0, .int .i64 b.n), (w.heap.size, 1, .int .u64 b.g), (w.heap.size, 2, .int .i64 b.s0), (w.heap.size, 3, .bool b.a0), (w.heap.size, 4, .bool b.h0), (w.heap.size, 5, .int .u64 b.t0), (w.heap.size, 6, .int .i64 b.s1), (w.heap.size, 7, .bool b.a1), (w.heap.size, 8, .bool b.h1), (w.heap.size, 9, .int .u64 b.t1), (w.heap.size + 1, 0, .int .i64 b.s0), (w.heap.size + 1, 1, .bool b.a0), (w.heap.size + 1, 2, .bool b.h0), (w.heap.size + 1, 3, .int .u64 b.t0)] (fun W => BookAt W P b), s.val.cell? ⟨w.heap.size, 3, none⟩ = some (.bool b.a0) := fun s => s.kept.at (by simp)
  have rR4 : ∀ s : KX (w.heap.size) w (w.heap.size + 2) [(w.heap.size, 0, .int .i64 b.n), (w.heap.size, 1, .int .u64 b.g), (w.heap.size, 2, .int .i64 b.s0), (w.heap.size, 3, .bool b.a0), (w.heap.size, 4, .bool b.h0), (w.heap.size, 5, .int .u64 b.t0), (w.heap.size, 6, .int .i64 b.s1), (w.heap.size, 7, .bool b.a1), (w.heap.size, 8, .bool b.h1), (w.heap.size, 9, .int .u64 b.t1), (w.heap.size + 1, 0, .int .i64 b.s0), (w.heap.size + 1, 1, .bool b.a0), (w.heap.size + 1, 2, .bool b.h0), (w.heap.size + 1, 3, .int .u64 b.t0)] (fun W => BookAt W P b), s.val.cell? ⟨w.heap.size, 4, none⟩ = some (.bool b.h0) := fun s => s.kept.at (by simp)
  have rR5 : ∀ s : KX (w.heap.size) w (w.heap.size + 2) [(w.heap.size, 0, .int .i64 b.n), (w.heap.size, 1, .int .u64 b.g), (w.heap.size, 2, .int .i64 b.s0), (w.heap.size, 3, .bool b.a0), (w.heap.size, 4, .bool b.h0), (w.heap.size, 5, .int .u64 b.t0), (w.heap.size, 6, .int .i64 b.s1), (w.heap.size, 7, .bool b.a1), (w.heap.size, 8, .bool b.h1), (w.heap.size, 9, .int .u64 b.t1), (w.heap.size + 1, 0, .int .i64 b.s0), (w.heap.size + 1, 1, .bool b.a0), (w.heap.size + 1, 2, .bool b.h0), (w.heap.size + 1, 3, .int .u64 b.t0)] (fun W => BookAt W P b), s.val.cell? ⟨w.heap.size, 5, none⟩ = some (.int .u64 b.t0) := fun s => s.kept.at (by simp)
  have rR6 : ∀ s : KX (w.heap.size) w (w.heap.size + 2) [(w.heap.size, 0, .int .i64 b.n), (w.heap.size, 1, .int .u64 b.g), (w.heap.size, 2, .int .i64 b.s0), (w.heap.size, 3, .bool b.a0), (w.heap.size, 4, .bool b.h0), (w.heap.size, 5, .int .u64 b.t0), (w.heap.size, 6, .int .i64 b.s1), (w.heap.size, 7, .bool b.a1), (w.heap.size, 8, .bool b.h1), (w.heap.size, 9, .int .u64 b.t1), (w.heap.size + 1, 0, .int .i64 b.s0), (w.heap.size + 1, 1, .bool b.a0), (w.heap.size + 1, 2, .bool b.h0), (w.heap.size + 1, 3, .int .u64 b.t0)] (fun W => BookAt W P b), s.val.cell? ⟨w.heap.size, 6, none⟩ = some (.int .i64 b.s1) := fun s => s.kept.at (by simp)
  have rR7 : ∀ s : KX (w.heap.size) w (w.heap.size + 2) [(w.heap.size, 0, .int .i64 b.n), (w.heap.size, 1, .int .u64 b.g), (w.heap.size, 2, .int .i64 b.s0), (w.heap.size, 3, .bool b.a0), (w.heap.size, 4, .bool b.h0), (w.heap.size, 5, .int .u64 b.t0), (w.heap.size, 6, .int .i64 b.s1), (w.heap.size, 7, .bool b.a1), (w.heap.size, 8, .bool b.h1), (w.heap.size, 9, .int .u64 b.t1), (w.heap.size + 1, 0, .int .i64 b.s0), (w.heap.size + 1, 1, .bool b.a0), (w.heap.size + 1, 2, .bool b.h0), (w.heap.size + 1, 3, .int .u64 b.t0)] (fun W => BookAt W P b), s.val.cell? ⟨w.heap.size, 7, none⟩ = some (.bool b.a1) := fun s => s.kept.at (by simp)
  have rR8 : ∀ s : KX (w.heap.size) w (w.heap.size + 2) [(w.heap.size, 0, .int .i64 b.n), (w.heap.size, 1, .int .u64 b.g), (w.heap.size, 2, .int .i64 b.s0), (w.heap.size, 3, .bool b.a0), (w.heap.size, 4, .bool b.h0), (w.heap.size, 5, .int .u64 b.t0), (w.heap.size, 6, .int .i64 b.s1), (w.heap.size, 7, .bool b.a1), (w.heap.size, 8, .bool b.h1), (w.heap.size, 9, .int .u64 b.t1), (w.heap.size + 1, 0, .int .i64 b.s0), (w.heap.size + 1, 1, .bool b.a0), (w.heap.size + 1, 2, .bool b.h0), (w.heap.size + 1, 3, .int .u64 b.t0)] (fun W => BookAt W P b), s.val.cell? ⟨w.heap.size, 8, none⟩ = some (.bool b.h1) := fun s => s.kept.at (by simp)
  have rR9 : ∀ s : KX (w.heap.size) w (w.heap.size + 2) [(w.heap.size, 0, .int .i64 b.n), (w.heap.size, 1, .int .u64 b.g), (w.heap.size, 2, .int .i64 b.s0), (w.heap.size, 3, .bool b.a0), (w.heap.size, 4, .bool b.h0), (w.heap.size, 5, .int .u64 b.t0), (w.heap.size, 6, .int .i64 b.s1), (w.heap.size, 7, .bool b.a1), (w.heap.size, 8, .bool b.h1), (w.heap.size, 9, .int .u64 b.t1), (w.heap.size + 1, 0, .int .i64 b.s0), (w.heap.size + 1, 1, .bool b.a0), (w.heap.size + 1, 2, .bool b.h0), (w.heap.size + 1, 3, .int .u64 b.t0)] (fun W => BookAt W P b), s.val.cell? ⟨w.heap.size, 9, none⟩ = some (.int .u64 b.t1) := fun s => s.kept.at (by simp)
  have rX0 : ∀ s : KX (w.heap.size) w (w.heap.size + 2) [(w.heap.size, 0, .int .i64 b.n), (w.heap.size, 1, .int .u64 b.g), (w.heap.size, 2, .int .i64 b.s0), (w.heap.size, 3, .bool b.a0), (w.heap.size, 4, .bool b.h0), (w.heap.size, 5, .int .u64 b.t0), (w.heap.size, 6, .int .i64 b.s1), (w.heap.size, 7, .bool b.a1), (w.heap.size, 8, .bool b.h1), (w.heap.size, 9, .int .u64 b.t1), (w.heap.size + 1, 0, .int .i64 b.s0), (w.heap.size + 1, 1, .bool b.a0), (w.heap.size + 1, 2, .bool b.h0), (w.heap.size + 1, 3, .int .u64 b.t0)] (fun W => BookAt W P b), s.val.cell? ⟨w.heap.size + 1, 0, none⟩ = some (.int .i64 b.s0) := fun s => s.kept.at (by simp)
  have rX1 : ∀ s : KX (w.heap.size) w (w.heap.size + 2) [(w.heap.size, 0, .int .i64 b.n), (w.heap.size, 1, .int .u64 b.g), (w.heap.size, 2, .int .i64 b.s0), (w.heap.size, 3, .bool b.a0), (w.heap.size, 4, .bool b.h0), (w.heap.size, 5, .int .u64 b.t0), (w.heap.size, 6, .int .i64 b.s1), (w.heap.size, 7, .bool b.a1), (w.heap.size, 8, .bool b.h1), (w.heap.size, 9, .int .u64 b.t1), (w.heap.size + 1, 0, .int .i64 b.s0), (w.heap.size + 1, 1, .bool b.a0), (w.heap.size + 1, 2, .bool b.h0), (w.heap.size + 1, 3, .int .u64 b.t0)] (fun W => BookAt W P b), s.val.cell? ⟨w.heap.size + 1, 1, none⟩ = some (.bool b.a0) := fun s => s.kept.at (by simp)
  have rX2 : ∀ s : KX (w.heap.size) w (w.heap.size + 2) [(w.heap.size, 0, .int .i64 b.n), (w.heap.size, 1, .int .u64 b.g), (w.heap.size, 2, .int .i64 b.s0), (w.heap.size, 3, .bool b.a0), (w.heap.size, 4, .bool b.h0), (w.heap.size, 5, .int .u64 b.t0), (w.heap.size, 6, .int .i64 b.s1), (w.heap.size, 7, .bool b.a1), (w.heap.size, 8, .bool b.h1), (w.heap.size, 9, .int .u64 b.t1), (w.heap.size + 1, 0, .int .i64 b.s0), (w.heap.size + 1, 1, .bool b.a0), (w.heap.size + 1, 2, .bool b.h0), (w.heap.size + 1, 3, .int .u64 b.t0)] (fun W => BookAt W P b), s.val.cell? ⟨w.heap.size + 1, 2, none⟩ = some (.bool b.h0) := fun s => s.kept.at (by simp)
  have rX3 : ∀ s : KX (w.heap.size) w (w.heap.size + 2) [(w.heap.size, 0, .int .i64 b.n), (w.heap.size, 1, .int .u64 b.g), (w.heap.size, 2, .int .i64 b.s0), (w.heap.size, 3, .bool b.a0), (w.heap.size, 4, .bool b.h0), (w.heap.size, 5, .int .u64 b.t0), (w.heap.size, 6, .int .i64 b.s1), (w.heap.size, 7, .bool b.a1), (w.heap.size, 8, .bool b.h1), (w.heap.size, 9, .int .u64 b.t1), (w.heap.size + 1, 0, .int .i64 b.s0), (w.heap.size + 1, 1, .bool b.a0), (w.heap.size + 1, 2, .bool b.h0), (w.heap.size + 1, 3, .int .u64 b.t0)] (fun W => BookAt W P b), s.val.cell? ⟨w.heap.size + 1, 3, none⟩ = some (.int .u64 b.t0) := fun s => s.kept.at (by simp)
  repeat (go_big_quiet_step (fail))
  refine wpQuiet_nil ?_
  clear rR0 rR1 rR2 rR3 rR4 rR5 rR6 rR7 rR8 rR9 rX0 rX1 rX2 rX3
  refine ⟨fun K hK0 => ?_, trivial⟩
  have hK := Lib.hid hK0
  clear hK0
  go_wp2_with fail
  with_reducible refine (here18_0 P b _ HB.out h1).mono ?_
  rintro e w4 ⟨rfl, hb_w4⟩
  have K_w4 : Kept w.heap.size w (w.heap.size + 2) [(w.heap.size, 0, .int .i64 b.n), (w.heap.size, 1, .int .u64 b.g), (w.heap.size, 2, .int .i64 b.s0), (w.heap.size, 3, .bool b.a0), (w.heap.size, 4, .bool b.h0), (w.heap.size, 5, .int .u64 b.t0), (w.heap.size, 6, .int .i64 b.s1), (w.heap.size, 7, .bool b.a1), (w.heap.size, 8, .bool b.h1), (w.heap.size, 9, .int .u64 b.t1), (w.heap.size + 1, 0, .int .i64 b.s0), (w.heap.size + 1, 1, .bool b.a0), (w.heap.size + 1, 2, .bool b.h0), (w.heap.size + 1, 3, .int .u64 b.t0)] w4 := (KH_w3.out.step (by omega) (by go_grown)).step (by omega) hb_w4
  replace HB := Lib.hid (HB.out.below hb_w4)
  clear hb_w4
  have KH_w4 := Lib.hid K_w4
  have hw_w4 := K_w4.below
  have hz_w4 := K_w4.size
  have lR_w4 : w.heap.size < w4.heap.size := by omega
  have lX_w4 : w.heap.size + 1 < w4.heap.size := by omega
  clear lR_w3 lX_w3
  clear K_w4
  go_wp2_with fail
  first | (refine ⟨rfl, ⟨⟨_, KH_w4.out, HB.out⟩, rfl⟩, hK.out _ _ ?_⟩; clear hK K) | (refine ⟨⟨⟨_, KH_w4.out, HB.out⟩, rfl⟩, hK.out _ _ ?_⟩; clear hK K)
  repeat (go_big_quiet_step (fail))
  refine wpQuiet_nil ?_
  have rR0 : ∀ s : KX (w.heap.size) w (w.heap.size + 2) [(w.heap.size, 0, .int .i64 b.n), (w.heap.size, 1, .int .u64 b.g), (w.heap.size, 2, .int .i64 b.s0), (w.heap.size, 3, .bool b.a0), (w.heap.size, 4, .bool b.h0), (w.heap.size, 5, .int .u64 b.t0), (w.heap.size, 6, .int .i64 b.s1), (w.heap.size, 7, .bool b.a1), (w.heap.size, 8, .bool b.h1), (w.heap.size, 9, .int .u64 b.t1), (w.heap.size + 1, 0, .int .i64 b.s0), (w.heap.size + 1, 1, .bool b.a0), (w.heap.size + 1, 2, .bool b.h0), (w.heap.size + 1, 3, .int .u64 b.t0)] (fun W => BookAt W P b), s.val.cell? ⟨w.heap.size, 0, none⟩ = some (.int .i64 b.n) := fun s => s.kept.at (by simp)
  have rR1 : ∀ s : KX (w.heap.size) w (w.heap.size + 2) [(w.heap.size, 0, .int .i64 b.n), (w.heap.size, 1, .int .u64 b.g), (w.heap.size, 2, .int .i64 b.s0), (w.heap.size, 3, .bool b.a0), (w.heap.size, 4, .bool b.h0), (w.heap.size, 5, .int .u64 b.t0), (w.heap.size, 6, .int .i64 b.s1), (w.heap.size, 7, .bool b.a1), (w.heap.size, 8, .bool b.h1), (w.heap.size, 9, .int .u64 b.t1), (w.heap.size + 1, 0, .int .i64 b.s0), (w.heap.size + 1, 1, .bool b.a0), (w.heap.size + 1, 2, .bool b.h0), (w.heap.size + 1, 3, .int .u64 b.t0)] (fun W => BookAt W P b), s.val.cell? ⟨w.heap.size, 1, none⟩ = some (.int .u64 b.g) := fun s => s.kept.at (by simp)
  have rR2 : ∀ s : KX (w.heap.size) w (w.heap.size + 2) [(w.heap.size, 0, .int .i64 b.n), (w.heap.size, 1, .int .u64 b.g), (w.heap.size, 2, .int .i64 b.s0), (w.heap.size, 3, .bool b.a0), (w.heap.size, 4, .bool b.h0), (w.heap.size, 5, .int .u64 b.t0), (w.heap.size, 6, .int .i64 b.s1), (w.heap.size, 7, .bool b.a1), (w.heap.size, 8, .bool b.h1), (w.heap.size, 9, .int .u64 b.t1), (w.heap.size + 1, 0, .int .i64 b.s0), (w.heap.size + 1, 1, .bool b.a0), (w.heap.size + 1, 2, .bool b.h0), (w.heap.size + 1, 3, .int .u64 b.t0)] (fun W => BookAt W P b), s.val.cell? ⟨w.heap.size, 2, none⟩ = some (.int .i64 b.s0) := fun s => s.kept.at (by simp)
  have rR3 : ∀ s : KX (w.heap.size) w (w.heap.size + 2) [(w.heap.size, 0, .int .i64 b.n), (w.heap.size, 1, .int .u64 b.g), (w.heap.size, 2, .int .i64 b.s0), (w.heap.size, 3, .bool b.a0), (w.heap.size, 4, .bool b.h0), (w.heap.size, 5, .int .u64 b.t0), (w.heap.size, 6, .int .i64 b.s1), (w.heap.size, 7, .bool b.a1), (w.heap.size, 8, .bool b.h1), (w.heap.size, 9, .int .u64 b.t1), (w.heap.size + 1, 0, .int .i64 b.s0), (w.heap.size + 1, 1, .bool b.a0), (w.heap.size + 1, 2, .bool b.h0), (w.heap.size + 1, 3, .int .u64 b.t0)] (fun W => BookAt W P b), s.val.cell? ⟨w.heap.size, 3, none⟩ = some (.bool b.a0) := fun s => s.kept.at (by simp)
  have rR4 : ∀ s : KX (w.heap.size) w (w.heap.size + 2) [(w.heap.size, 0, .int .i64 b.n), (w.heap.size, 1, .int .u64 b.g), (w.heap.size, 2, .int .i64 b.s0), (w.heap.size, 3, .bool b.a0), (w.heap.size, 4, .bool b.h0), (w.heap.size, 5, .int .u64 b.t0), (w.heap.size, 6, .int .i64 b.s1), (w.heap.size, 7, .bool b.a1), (w.heap.size, 8, .bool b.h1), (w.heap.size, 9, .int .u64 b.t1), (w.heap.size + 1, 0, .int .i64 b.s0), (w.heap.size + 1, 1, .bool b.a0), (w.heap.size + 1, 2, .bool b.h0), (w.heap.size + 1, 3, .int .u64 b.t0)] (fun W => BookAt W P b), s.val.cell? ⟨w.heap.size, 4, none⟩ = some (.bool b.h0) := fun s => s.kept.at (by simp)
  have rR5 : ∀ s : KX (w.heap.size) w (w.heap.size + 2) [(w.heap.size, 0, .int .i64 b.n), (w.heap.size, 1, .int .u64 b.g), (w.heap.size, 2, .int .i64 b.s0), (w.heap.size, 3, .bool b.a0), (w.heap.size, 4, .bool b.h0), (w.heap.size, 5, .int .u64 b.t0), (w.heap.size, 6, .int .i64 b.s1), (w.heap.size, 7, .bool b.a1), (w.heap.size, 8, .bool b.h1), (w.heap.size, 9, .int .u64 b.t1), (w.heap.size + 1, 0, .int .i64 b.s0), (w.heap.size + 1, 1, .bool b.a0), (w.heap.size + 1, 2, .bool b.h0), (w.heap.size + 1, 3, .int .u64 b.t0)] (fun W => BookAt W P b), s.val.cell? ⟨w.heap.size, 5, none⟩ = some (.int .u64 b.t0) := fun s => s.kept.at (by simp)
  have rR6 : ∀ s : KX (w.heap.size) w (w.heap.size + 2) [(w.heap.size, 0, .int .i64 b.n), (w.heap.size, 1, .int .u64 b.g), (w.heap.size, 2, .int .i64 b.s0), (w.heap.size, 3, .bool b.a0), (w.heap.size, 4, .bool b.h0), (w.heap.size, 5, .int .u64 b.t0), (w.heap.size, 6, .int .i64 b.s1), (w.heap.size, 7, .bool b.a1), (w.heap.size, 8, .bool b.h1), (w.heap.size, 9, .int .u64 b.t1), (w.heap.size + 1, 0, .int .i64 b.s0), (w.heap.size + 1, 1, .bool b.a0), (w.heap.size + 1, 2, .bool b.h0), (w.heap.size + 1, 3, .int .u64 b.t0)] (fun W => BookAt W P b), s.val.cell? ⟨w.heap.size, 6, none⟩ = some (.int .i64 b.s1) := fun s => s.kept.at (by simp)
  have rR7 : ∀ s : KX (w.heap.size) w (w.heap.size + 2) [(w.heap.size, 0, .int .i64 b.n), (w.heap.size, 1, .int .u64 b.g), (w.heap.size, 2, .int .i64 b.s0), (w.heap.size, 3, .bool b.a0), (w.heap.size, 4, .bool b.h0), (w.heap.size, 5, .int .u64 b.t0), (w.heap.size, 6, .int .i64 b.s1), (w.heap.size, 7, .bool b.a1), (w.heap.size, 8, .bool b.h1), (w.heap.size, 9, .int .u64 b.t1), (w.heap.size + 1, 0, .int .i64 b.s0), (w.heap.size + 1, 1, .bool b.a0), (w.heap.size + 1, 2, .bool b.h0), (w.heap.size + 1, 3, .int .u64 b.t0)] (fun W => BookAt W P b), s.val.cell? ⟨w.heap.size, 7, none⟩ = some (.bool b.a1) := fun s => s.kept.at (by simp)
  have rR8 : ∀ s : KX (w.heap.size) w (w.heap.size + 2) [(w.heap.size, 0, .int .i64 b.n), (w.heap.size, 1, .int .u64 b.g), (w.heap.size, 2, .int .i64 b.s0), (w.heap.size, 3, .bool b.a0), (w.heap.size, 4, .bool b.h0), (w.heap.size, 5, .int .u64 b.t0), (w.heap.size, 6, .int .i64 b.s1), (w.heap.size, 7, .bool b.a1), (w.heap.size, 8, .bool b.h1), (w.heap.size, 9, .int .u64 b.t1), (w.heap.size + 1, 0, .int .i64 b.s0), (w.heap.size + 1, 1, .bool b.a0), (w.heap.size + 1, 2, .bool b.h0), (w.heap.size + 1, 3, .int .u64 b.t0)] (fun W => BookAt W P b), s.val.cell? ⟨w.heap.size, 8, none⟩ = some (.bool b.h1) := fun s => s.kept.at (by simp)
  have rR9 : ∀ s : KX (w.heap.size) w (w.heap.size + 2) [(w.heap.size, 0, .int .i64 b.n), (w.heap.size, 1, .int .u64 b.g), (w.heap.size, 2, .int .i64 b.s0), (w.heap.size, 3, .bool b.a0), (w.heap.size, 4, .bool b.h0), (w.heap.size, 5, .int .u64 b.t0), (w.heap.size, 6, .int .i64 b.s1), (w.heap.size, 7, .bool b.a1), (w.heap.size, 8, .bool b.h1), (w.heap.size, 9, .int .u64 b.t1), (w.heap.size + 1, 0, .int .i64 b.s0), (w.heap.size + 1, 1, .bool b.a0), (w.heap.size + 1, 2, .bool b.h0), (w.heap.size + 1, 3, .int .u64 b.t0)] (fun W => BookAt W P b), s.val.cell? ⟨w.heap.size, 9, none⟩ = some (.int .u64 b.t1) := fun s => s.kept.at (by simp)
  have rX0 : ∀ s : KX (w.heap.size) w (w.heap.size + 2) [(w.heap.size, 0, .int .i64 b.n), (w.heap.size, 1, .int .u64 b.g), (w.heap.size, 2, .int .i64 b.s0), (w.heap.size, 3, .bool b.a0), (w.heap.size, 4, .bool b.h0), (w.heap.size, 5, .int .u64 b.t0), (w.heap.size, 6, .int .i64 b.s1), (w.heap.size, 7, .bool b.a1), (w.heap.size, 8, .bool b.h1), (w.heap.size, 9, .int .u64 b.t1), (w.heap.size + 1, 0, .int .i64 b.s0), (w.heap.size + 1, 1, .bool b.a0), (w.heap.size + 1, 2, .bool b.h0), (w.heap.size + 1, 3, .int .u64 b.t0)] (fun W => BookAt W P b), s.val.cell? ⟨w.heap.size + 1, 0, none⟩ = some (.int .i64 b.s0) := fun s => s.kept.at (by simp)
  have rX1 : ∀ s : KX (w.heap.size) w (w.heap.size + 2) [(w.heap.size, 0, .int .i64 b.n), (w.heap.size, 1, .int .u64 b.g), (w.heap.size, 2, .int .i64 b.s0), (w.heap.size, 3, .bool b.a0), (w.heap.size, 4, .bool b.h0), (w.heap.size, 5, .int .u64 b.t0), (w.heap.size, 6, .int .i64 b.s1), (w.heap.size, 7, .bool b.a1), (w.heap.size, 8, .bool b.h1), (w.heap.size, 9, .int .u64 b.t1), (w.heap.size + 1, 0, .int .i64 b.s0), (w.heap.size + 1, 1, .bool b.a0), (w.heap.size + 1, 2, .bool b.h0), (w.heap.size + 1, 3, .int .u64 b.t0)] (fun W => BookAt W P b), s.val.cell? ⟨w.heap.size + 1, 1, none⟩ = some (.bool b.a0) := fun s => s.kept.at (by simp)
  have rX2 : ∀ s : KX (w.heap.size) w (w.heap.size + 2) [(w.heap.size, 0, .int .i64 b.n), (w.heap.size, 1, .int .u64 b.g), (w.heap.size, 2, .int .i64 b.s0), (w.heap.size, 3, .bool b.a0), (w.heap.size, 4, .bool b.h0), (w.heap.size, 5, .int .u64 b.t0), (w.heap.size, 6, .int .i64 b.s1), (w.heap.size, 7, .bool b.a1), (w.heap.size, 8, .bool b.h1), (w.heap.size, 9, .int .u64 b.t1), (w.heap.size + 1, 0, .int .i64 b.s0), (w.heap.size + 1, 1, .bool b.a0), (w.heap.size + 1, 2, .bool b.h0), (w.heap.size + 1, 3, .int .u64 b.t0)] (fun W => BookAt W P b), s.val.cell? ⟨w.heap.size + 1, 2, none⟩ = some (.bool b.h0) := fun s => s.kept.at (by simp)
  have rX3 : ∀ s : KX (w.heap.size) w (w.heap.size + 2) [(w.heap.size, 0, .int .i64 b.n), (w.heap.size, 1, .int .u64 b.g), (w.heap.size, 2, .int .i64 b.s0), (w.heap.size, 3, .bool b.a0), (w.heap.size, 4, .bool b.h0), (w.heap.size, 5, .int .u64 b.t0), (w.heap.size, 6, .int .i64 b.s1), (w.heap.size, 7, .bool b.a1), (w.heap.size, 8, .bool b.h1), (w.heap.size, 9, .int .u64 b.t1), (w.heap.size + 1, 0, .int .i64 b.s0), (w.heap.size + 1, 1, .bool b.a0), (w.heap.size + 1, 2, .bool b.h0), (w.heap.size + 1, 3, .int .u64 b.t0)] (fun W => BookAt W P b), s.val.cell? ⟨w.heap.size + 1, 3, none⟩ = some (.int .u64 b.t0) := fun s => s.kept.at (by simp)
  repeat (go_big_quiet_step (fail))
  refine wpQuiet_nil ?_
  clear rR0 rR1 rR2 rR3 rR4 rR5 rR6 rR7 rR8 rR9 rX0 rX1 rX2 rX3
  refine ⟨fun K hK0 => ?_, trivial⟩
  have hK := Lib.hid hK0
  clear hK0
  go_wp2_with fail
  with_reducible refine (due19_0 P b _ HB.out h1 ht0 hg).mono ?_
  rintro e w5 ⟨rfl, hb_w5⟩
  have K_w5 : Kept w.heap.size w (w.heap.size + 2) [(w.heap.size, 0, .int .i64 b.n), (w.heap.size, 1, .int .u64 b.g), (w.heap.size, 2, .int .i64 b.s0), (w.heap.size, 3, .bool b.a0), (w.heap.size, 4, .bool b.h0), (w.heap.size, 5, .int .u64 b.t0), (w.heap.size, 6, .int .i64 b.s1), (w.heap.size, 7, .bool b.a1), (w.heap.size, 8, .bool b.h1), (w.heap.size, 9, .int .u64 b.t1), (w.heap.size + 1, 0, .int .i64 b.s0), (w.heap.size + 1, 1, .bool b.a0), (w.heap.size + 1, 2, .bool b.h0), (w.heap.size + 1, 3, .int .u64 b.t0)] w5 := (KH_w4.out.step (by omega) (by go_grown)).step (by omega) hb_w5
  replace HB := Lib.hid (HB.out.below hb_w5)
  clear hb_w5
  have KH_w5 := Lib.hid K_w5
  have hw_w5 := K_w5.below
  have hz_w5 := K_w5.size
  have lR_w5 : w.heap.size < w5.heap.size := by omega
  have lX_w5 : w.heap.size + 1 < w5.heap.size := by omega
  clear lR_w4 lX_w4
  clear K_w5
  go_wp2_with fail
  first | (refine ⟨rfl, ⟨⟨_, KH_w5.out, HB.out⟩, rfl⟩, hK.out _ _ ?_⟩; clear hK K) | (refine ⟨⟨⟨_, KH_w5.out, HB.out⟩, rfl⟩, hK.out _ _ ?_⟩; clear hK K)
  refine ⟨fun K hK0 => ?_, trivial⟩
  have hK := Lib.hid hK0
  clear hK0
  go_wp2_with fail
  with_reducible refine (due27_0 b _ ht0 hg).mono ?_
  rintro e w6 ⟨rfl, hb_w6⟩
  have K_w6 : Kept w.heap.size w (w.heap.size + 2) [(w.heap.size, 0, .int .i64 b.n), (w.heap.size, 1, .int .u64 b.g), (w.heap.size, 2, .int .i64 b.s0), (w.heap.size, 3, .bool b.a0), (w.heap.size, 4, .bool b.h0), (w.heap.size, 5, .int .u64 b.t0), (w.heap.size, 6, .int .i64 b.s1), (w.heap.size, 7, .bool b.a1), (w.heap.size, 8, .bool b.h1), (w.heap.size, 9, .int .u64 b.t1), (w.heap.size + 1, 0, .int .i64 b.s0), (w.heap.size + 1, 1, .bool b.a0), (w.heap.size + 1, 2, .bool b.h0), (w.heap.size + 1, 3, .int .u64 b.t0)] w6 := (KH_w5.out.step (by omega) (by go_grown)).step (by omega) hb_w6
  replace HB := Lib.hid (HB.out.below hb_w6)
  clear hb_w6
  have KH_w6 := Lib.hid K_w6
  have hw_w6 := K_w6.below
  have hz_w6 := K_w6.size
  have lR_w6 : w.heap.size < w6.heap.size := by omega
  have lX_w6 : w.heap.size + 1 < w6.heap.size := by omega
  clear lR_w5 lX_w5
  clear K_w6
  go_wp2_with fail
  first | (refine ⟨rfl, hK.out _ _ ?_⟩; clear hK K) | (refine hK.out _ _ ?_; clear hK K)
  repeat (go_big_quiet_step (fail))
  refine wpQuiet_nil ?_
  clear _ne
  have cR0_w6 := KH_w6.out.at (b := w.heap.size) (o := 0) (v := .int .i64 b.n) (by simp)
  have fR0_w6 := KH_w6.out.free (b := w.heap.size) (o := 0) (v := .int .i64 b.n) (by simp)
  have cR1_w6 := KH_w6.out.at (b := w.heap.size) (o := 1) (v := .int .u64 b.g) (by simp)
  have fR1_w6 := KH_w6.out.free (b := w.heap.size) (o := 1) (v := .int .u64 b.g) (by simp)
  have cR2_w6 := KH_w6.out.at (b := w.heap.size) (o := 2) (v := .int .i64 b.s0) (by simp)
  have fR2_w6 := KH_w6.out.free (b := w.heap.size) (o := 2) (v := .int .i64 b.s0) (by simp)
  have cR3_w6 := KH_w6.out.at (b := w.heap.size) (o := 3) (v := .bool b.a0) (by simp)
  have fR3_w6 := KH_w6.out.free (b := w.heap.size) (o := 3) (v := .bool b.a0) (by simp)
  have cR4_w6 := KH_w6.out.at (b := w.heap.size) (o := 4) (v := .bool b.h0) (by simp)
  have fR4_w6 := KH_w6.out.free (b := w.heap.size) (o := 4) (v := .bool b.h0) (by simp)
  have cR5_w6 := KH_w6.out.at (b := w.heap.size) (o := 5) (v := .int .u64 b.t0) (by simp)
  have fR5_w6 := KH_w6.out.free (b := w.heap.size) (o := 5) (v := .int .u64 b.t0) (by simp)
  have cR6_w6 := KH_w6.out.at (b := w.heap.size) (o := 6) (v := .int .i64 b.s1) (by simp)
  have fR6_w6 := KH_w6.out.free (b := w.heap.size) (o := 6) (v := .int .i64 b.s1) (by simp)
  have cR7_w6 := KH_w6.out.at (b := w.heap.size) (o := 7) (v := .bool b.a1) (by simp)
  have fR7_w6 := KH_w6.out.free (b := w.heap.size) (o := 7) (v := .bool b.a1) (by simp)
  have cR8_w6 := KH_w6.out.at (b := w.heap.size) (o := 8) (v := .bool b.h1) (by simp)
  have fR8_w6 := KH_w6.out.free (b := w.heap.size) (o := 8) (v := .bool b.h1) (by simp)
  have cR9_w6 := KH_w6.out.at (b := w.heap.size) (o := 9) (v := .int .u64 b.t1) (by simp)
  have fR9_w6 := KH_w6.out.free (b := w.heap.size) (o := 9) (v := .int .u64 b.t1) (by simp)
  go_wp2_with fail
  rw [rounds_succ]
  go_wp2_with fail
  refine rg12_5 (w0 := w) (B := w.heap.size) (n := w6.heap.size + 1) (L := [(w.heap.size, 0, .int .i64 b.n), (w.heap.size, 1, .int .u64 b.g), (w.heap.size, 2, .int .i64 b.s0), (w.heap.size, 3, .bool b.a0), (w.heap.size, 4, .bool b.h0), (w.heap.size, 5, .int .u64 b.t0), (w.heap.size, 6, .int .i64 b.s1), (w.heap.size, 7, .bool b.a1), (w.heap.size, 8, .bool b.h1), (w.heap.size, 9, .int .u64 b.t1), (w6.heap.size, 0, .int .i64 b.s1), (w6.heap.size, 1, .bool b.a1), (w6.heap.size, 2, .bool b.h1), (w6.heap.size, 3, .int .u64 b.t1)]) (E := fun W => BookAt W P b) (F := fun _ => True) (by kernel_rfl) (by kernel_rfl) ⟨by go_grown, by go_size, (by simp [go_sem, lR_w6, lX_w6, cR0_w6, fR0_w6, cR1_w6, fR1_w6, cR2_w6, fR2_w6, cR3_w6, fR3_w6, cR4_w6, fR4_w6, cR5_w6, fR5_w6, cR6_w6, fR6_w6, cR7_w6, fR7_w6, cR8_w6, fR8_w6, cR9_w6, fR9_w6] <;> omega)⟩ (HB.out.below (by go_grown)) (fun _ _ h hb => h.below hb) trivial (fun _ _ _ _ => trivial) (fun w7 K_w7 E_w7 F_w7 => ?_)
  have _ne : Nonempty (KX (w.heap.size) w (w6.heap.size + 1) [(w.heap.size, 0, .int .i64 b.n), (w.heap.size, 1, .int .u64 b.g), (w.heap.size, 2, .int .i64 b.s0), (w.heap.size, 3, .bool b.a0), (w.heap.size, 4, .bool b.h0), (w.heap.size, 5, .int .u64 b.t0), (w.heap.size, 6, .int .i64 b.s1), (w.heap.size, 7, .bool b.a1), (w.heap.size, 8, .bool b.h1), (w.heap.size, 9, .int .u64 b.t1), (w6.heap.size, 0, .int .i64 b.s1), (w6.heap.size, 1, .bool b.a1), (w6.heap.size, 2, .bool b.h1), (w6.heap.size, 3, .int .u64 b.t1)] (fun W => BookAt W P b)) := ⟨⟨_, K_w7, E_w7⟩⟩
  repeat (go_big_quiet_step (fail))
  refine wpQuiet_nil ?_
  have rR0 : ∀ s : KX (w.heap.size) w (w6.heap.size + 1) [(w.heap.size, 0, .int .i64 b.n), (w.heap.size, 1, .int .u64 b.g), (w.heap.size, 2, .int .i64 b.s0), (w.heap.size, 3, .bool b.a0), (w.heap.size, 4, .bool b.h0), (w.heap.size, 5, .int .u64 b.t0), (w.heap.size, 6, .int .i64 b.s1), (w.heap.size, 7, .bool b.a1), (w.heap.size, 8, .bool b.h1), (w.heap.size, 9, .int .u64 b.t1), (w6.heap.size, 0, .int .i64 b.s1), (w6.heap.size, 1, .bool b.a1), (w6.heap.size, 2, .bool b.h1), (w6.heap.size, 3, .int .u64 b.t1)] (fun W => BookAt W P b), s.val.cell? ⟨w.heap.size, 0, none⟩ = some (.int .i64 b.n) := fun s => s.kept.at (by simp)
  have rR1 : ∀ s : KX (w.heap.size) w (w6.heap.size + 1) [(w.heap.size, 0, .int .i64 b.n), (w.heap.size, 1, .int .u64 b.g), (w.heap.size, 2, .int .i64 b.s0), (w.heap.size, 3, .bool b.a0), (w.heap.size, 4, .bool b.h0), (w.heap.size, 5, .int .u64 b.t0), (w.heap.size, 6, .int .i64 b.s1), (w.heap.size, 7, .bool b.a1), (w.heap.size, 8, .bool b.h1), (w.heap.size, 9, .int .u64 b.t1), (w6.heap.size, 0, .int .i64 b.s1), (w6.heap.size, 1, .bool b.a1), (w6.heap.size, 2, .bool b.h1), (w6.heap.size, 3, .int .u64 b.t1)] (fun W => BookAt W P b), s.val.cell? ⟨w.heap.size, 1, none⟩ = some (.int .u64 b.g) := fun s => s.kept.at (by simp)
  have rR2 : ∀ s : KX (w.heap.size) w (w6.heap.size + 1) [(w.heap.size, 0, .int .i64 b.n), (w.heap.size, 1, .int .u64 b.g), (w.heap.size, 2, .int .i64 b.s0), (w.heap.size, 3, .bool b.a0), (w.heap.size, 4, .bool b.h0), (w.heap.size, 5, .int .u64 b.t0), (w.heap.size, 6, .int .i64 b.s1), (w.heap.size, 7, .bool b.a1), (w.heap.size, 8, .bool b.h1), (w.heap.size, 9, .int .u64 b.t1), (w6.heap.size, 0, .int .i64 b.s1), (w6.heap.size, 1, .bool b.a1), (w6.heap.size, 2, .bool b.h1), (w6.heap.size, 3, .int .u64 b.t1)] (fun W => BookAt W P b), s.val.cell? ⟨w.heap.size, 2, none⟩ = some (.int .i64 b.s0) := fun s => s.kept.at (by simp)
  have rR3 : ∀ s : KX (w.heap.size) w (w6.heap.size + 1) [(w.heap.size, 0, .int .i64 b.n), (w.heap.size, 1, .int .u64 b.g), (w.heap.size, 2, .int .i64 b.s0), (w.heap.size, 3, .bool b.a0), (w.heap.size, 4, .bool b.h0), (w.heap.size, 5, .int .u64 b.t0), (w.heap.size, 6, .int .i64 b.s1), (w.heap.size, 7, .bool b.a1), (w.heap.size, 8, .bool b.h1), (w.heap.size, 9, .int .u64 b.t1), (w6.heap.size, 0, .int .i64 b.s1), (w6.heap.size, 1, .bool b.a1), (w6.heap.size, 2, .bool b.h1), (w6.heap.size, 3, .int .u64 b.t1)] (fun W => BookAt W P b), s.val.cell? ⟨w.heap.size, 3, none⟩ = some (.bool b.a0) := fun s => s.kept.at (by simp)
  have rR4 : ∀ s : KX (w.heap.size) w (w6.heap.size + 1) [(w.heap.size, 0, .int .i64 b.n), (w.heap.size, 1, .int .u64 b.g), (w.heap.size, 2, .int .i64 b.s0), (w.heap.size, 3, .bool b.a0), (w.heap.size, 4, .bool b.h0), (w.heap.size, 5, .int .u64 b.t0), (w.heap.size, 6, .int .i64 b.s1), (w.heap.size, 7, .bool b.a1), (w.heap.size, 8, .bool b.h1), (w.heap.size, 9, .int .u64 b.t1), (w6.heap.size, 0, .int .i64 b.s1), (w6.heap.size, 1, .bool b.a1), (w6.heap.size, 2, .bool b.h1), (w6.heap.size, 3, .int .u64 b.t1)] (fun W => BookAt W P b), s.val.cell? ⟨w.heap.size, 4, none⟩ = some (.bool b.h0) := fun s => s.kept.at (by simp)
  have rR5 : ∀ s : KX (w.heap.size) w (w6.heap.size + 1) [(w.heap.size, 0, .int .i64 b.n), (w.heap.size, 1, .int .u64 b.g), (w.heap.size, 2, .int .i64 b.s0), (w.heap.size, 3, .bool b.a0), (w.heap.size, 4, .bool b.h0), (w.heap.size, 5, .int .u64 b.t0), (w.heap.size, 6, .int .i64 b.s1), (w.heap.size, 7, .bool b.a1), (w.heap.size, 8, .bool b.h1), (w.heap.size, 9, .int .u64 b.t1), (w6.heap.size, 0, .int .i64 b.s1), (w6.heap.size, 1, .bool b.a1), (w6.heap.size, 2, .bool b.h1), (w6.heap.size, 3, .int .u64 b.t1)] (fun W => BookAt W P b), s.val.cell? ⟨w.heap.size, 5, none⟩ = some (.int .u64 b.t0) := fun s => s.kept.at (by simp)
  have rR6 : ∀ s : KX (w.heap.size) w (w6.heap.size + 1) [(w.heap.size, 0, .int .i64 b.n), (w.heap.size, 1, .int .u64 b.g), (w.heap.size, 2, .int .i64 b.s0), (w.heap.size, 3, .bool b.a0), (w.heap.size, 4, .bool b.h0), (w.heap.size, 5, .int .u64 b.t0), (w.heap.size, 6, .int .i64 b.s1), (w.heap.size, 7, .bool b.a1), (w.heap.size, 8, .bool b.h1), (w.heap.size, 9, .int .u64 b.t1), (w6.heap.size, 0, .int .i64 b.s1), (w6.heap.size, 1, .bool b.a1), (w6.heap.size, 2, .bool b.h1), (w6.heap.size, 3, .int .u64 b.t1)] (fun W => BookAt W P b), s.val.cell? ⟨w.heap.size, 6, none⟩ = some (.int .i64 b.s1) := fun s => s.kept.at (by simp)
  have rR7 : ∀ s : KX (w.heap.size) w (w6.heap.size + 1) [(w.heap.size, 0, .int .i64 b.n), (w.heap.size, 1, .int .u64 b.g), (w.heap.size, 2, .int .i64 b.s0), (w.heap.size, 3, .bool b.a0), (w.heap.size, 4, .bool b.h0), (w.heap.size, 5, .int .u64 b.t0), (w.heap.size, 6, .int .i64 b.s1), (w.heap.size, 7, .bool b.a1), (w.heap.size, 8, .bool b.h1), (w.heap.size, 9, .int .u64 b.t1), (w6.heap.size, 0, .int .i64 b.s1), (w6.heap.size, 1, .bool b.a1), (w6.heap.size, 2, .bool b.h1), (w6.heap.size, 3, .int .u64 b.t1)] (fun W => BookAt W P b), s.val.cell? ⟨w.heap.size, 7, none⟩ = some (.bool b.a1) := fun s => s.kept.at (by simp)
  have rR8 : ∀ s : KX (w.heap.size) w (w6.heap.size + 1) [(w.heap.size, 0, .int .i64 b.n), (w.heap.size, 1, .int .u64 b.g), (w.heap.size, 2, .int .i64 b.s0), (w.heap.size, 3, .bool b.a0), (w.heap.size, 4, .bool b.h0), (w.heap.size, 5, .int .u64 b.t0), (w.heap.size, 6, .int .i64 b.s1), (w.heap.size, 7, .bool b.a1), (w.heap.size, 8, .bool b.h1), (w.heap.size, 9, .int .u64 b.t1), (w6.heap.size, 0, .int .i64 b.s1), (w6.heap.size, 1, .bool b.a1), (w6.heap.size, 2, .bool b.h1), (w6.heap.size, 3, .int .u64 b.t1)] (fun W => BookAt W P b), s.val.cell? ⟨w.heap.size, 8, none⟩ = some (.bool b.h1) := fun s => s.kept.at (by simp)
  have rR9 : ∀ s : KX (w.heap.size) w (w6.heap.size + 1) [(w.heap.size, 0, .int .i64 b.n), (w.heap.size, 1, .int .u64 b.g), (w.heap.size, 2, .int .i64 b.s0), (w.heap.size, 3, .bool b.a0), (w.heap.size, 4, .bool b.h0), (w.heap.size, 5, .int .u64 b.t0), (w.heap.size, 6, .int .i64 b.s1), (w.heap.size, 7, .bool b.a1), (w.heap.size, 8, .bool b.h1), (w.heap.size, 9, .int .u64 b.t1), (w6.heap.size, 0, .int .i64 b.s1), (w6.heap.size, 1, .bool b.a1), (w6.heap.size, 2, .bool b.h1), (w6.heap.size, 3, .int .u64 b.t1)] (fun W => BookAt W P b), s.val.cell? ⟨w.heap.size, 9, none⟩ = some (.int .u64 b.t1) := fun s => s.kept.at (by simp)
  have rX0 : ∀ s : KX (w.heap.size) w (w6.heap.size + 1) [(w.heap.size, 0, .int .i64 b.n), (w.heap.size, 1, .int .u64 b.g), (w.heap.size, 2, .int .i64 b.s0), (w.heap.size, 3, .bool b.a0), (w.heap.size, 4, .bool b.h0), (w.heap.size, 5, .int .u64 b.t0), (w.heap.size, 6, .int .i64 b.s1), (w.heap.size, 7, .bool b.a1), (w.heap.size, 8, .bool b.h1), (w.heap.size, 9, .int .u64 b.t1), (w6.heap.size, 0, .int .i64 b.s1), (w6.heap.size, 1, .bool b.a1), (w6.heap.size, 2, .bool b.h1), (w6.heap.size, 3, .int .u64 b.t1)] (fun W => BookAt W P b), s.val.cell? ⟨w6.heap.size, 0, none⟩ = some (.int .i64 b.s1) := fun s => s.kept.at (by simp)
  have rX1 : ∀ s : KX (w.heap.size) w (w6.heap.size + 1) [(w.heap.size, 0, .int .i64 b.n), (w.heap.size, 1, .int .u64 b.g), (w.heap.size, 2, .int .i64 b.s0), (w.heap.size, 3, .bool b.a0), (w.heap.size, 4, .bool b.h0), (w.heap.size, 5, .int .u64 b.t0), (w.heap.size, 6, .int .i64 b.s1), (w.heap.size, 7, .bool b.a1), (w.heap.size, 8, .bool b.h1), (w.heap.size, 9, .int .u64 b.t1), (w6.heap.size, 0, .int .i64 b.s1), (w6.heap.size, 1, .bool b.a1), (w6.heap.size, 2, .bool b.h1), (w6.heap.size, 3, .int .u64 b.t1)] (fun W => BookAt W P b), s.val.cell? ⟨w6.heap.size, 1, none⟩ = some (.bool b.a1) := fun s => s.kept.at (by simp)
  have rX2 : ∀ s : KX (w.heap.size) w (w6.heap.size + 1) [(w.heap.size, 0, .int .i64 b.n), (w.heap.size, 1, .int .u64 b.g), (w.heap.size, 2, .int .i64 b.s0), (w.heap.size, 3, .bool b.a0), (w.heap.size, 4, .bool b.h0), (w.heap.size, 5, .int .u64 b.t0), (w.heap.size, 6, .int .i64 b.s1), (w.heap.size, 7, .bool b.a1), (w.heap.size, 8, .bool b.h1), (w.heap.size, 9, .int .u64 b.t1), (w6.heap.size, 0, .int .i64 b.s1), (w6.heap.size, 1, .bool b.a1), (w6.heap.size, 2, .bool b.h1), (w6.heap.size, 3, .int .u64 b.t1)] (fun W => BookAt W P b), s.val.cell? ⟨w6.heap.size, 2, none⟩ = some (.bool b.h1) := fun s => s.kept.at (by simp)
  have rX3 : ∀ s : KX (w.heap.size) w (w6.heap.size + 1) [(w.heap.size, 0, .int .i64 b.n), (w.heap.size, 1, .int .u64 b.g), (w.heap.size, 2, .int .i64 b.s0), (w.heap.size, 3, .bool b.a0), (w.heap.size, 4, .bool b.h0), (w.heap.size, 5, .int .u64 b.t0), (w.heap.size, 6, .int .i64 b.s1), (w.heap.size, 7, .bool b.a1), (w.heap.size, 8, .bool b.h1), (w.heap.size, 9, .int .u64 b.t1), (w6.heap.size, 0, .int .i64 b.s1), (w6.heap.size, 1, .bool b.a1), (w6.heap.size, 2, .bool b.h1), (w6.heap.size, 3, .int .u64 b.t1)] (fun W => BookAt W P b), s.val.cell? ⟨w6.heap.size, 3, none⟩ = some (.int .u64 b.t1) := fun s => s.kept.at (by simp)
  repeat (go_big_quiet_step (fail))
  refine wpQuiet_nil ?_
  clear rR0 rR1 rR2 rR3 rR4 rR5 rR6 rR7 rR8 rR9 rX0 rX1 rX2 rX3
  have KH_w7 := Lib.hid K_w7
  have hw_w7 := K_w7.below
  have hz_w7 := K_w7.size
  have lR_w7 : w.heap.size < w7.heap.size := by omega
  have lX_w7 : w6.heap.size < w7.heap.size := by omega
  clear lR_w6 lX_w6 cR0_w6 fR0_w6 cR1_w6 fR1_w6 cR2_w6 fR2_w6 cR3_w6 fR3_w6 cR4_w6 fR4_w6 cR5_w6 fR5_w6 cR6_w6 fR6_w6 cR7_w6 fR7_w6 cR8_w6 fR8_w6 cR9_w6 fR9_w6
  clear K_w7
  have HB := Lib.hid E_w7
  clear E_w7 F_w7
  refine ⟨fun K hK0 => ?_, trivial⟩
  have hK := Lib.hid hK0
  clear hK0
  go_wp2_with fail
  with_reducible refine (auto20_1 P b _ HB.out h1).mono ?_
  rintro e w8 ⟨rfl, hb_w8⟩
  have K_w8 : Kept w.heap.size w (w6.heap.size + 1) [(w.heap.size, 0, .int .i64 b.n), (w.heap.size, 1, .int .u64 b.g), (w.heap.size, 2, .int .i64 b.s0), (w.heap.size, 3, .bool b.a0), (w.heap.size, 4, .bool b.h0), (w.heap.size, 5, .int .u64 b.t0), (w.heap.size, 6, .int .i64 b.s1), (w.heap.size, 7, .bool b.a1), (w.heap.size, 8, .bool b.h1), (w.heap.size, 9, .int .u64 b.t1), (w6.heap.size, 0, .int .i64 b.s1), (w6.heap.size, 1, .bool b.a1), (w6.heap.size, 2, .bool b.h1), (w6.heap.size, 3, .int .u64 b.t1)] w8 := (KH_w7.out.step (by omega) (by go_grown)).step (by omega) hb_w8
  replace HB := Lib.hid (HB.out.below hb_w8)
  clear hb_w8
  have KH_w8 := Lib.hid K_w8
  have hw_w8 := K_w8.below
  have hz_w8 := K_w8.size
  have lR_w8 : w.heap.size < w8.heap.size := by omega
  have lX_w8 : w6.heap.size < w8.heap.size := by omega
  clear lR_w7 lX_w7
  clear K_w8
  go_wp2_with fail
  first | (refine ⟨rfl, ⟨⟨_, KH_w8.out, HB.out⟩, rfl⟩, hK.out _ _ ?_⟩; clear hK K) | (refine ⟨⟨⟨_, KH_w8.out, HB.out⟩, rfl⟩, hK.out _ _ ?_⟩; clear hK K)
  repeat (go_big_quiet_step (fail))
  refine wpQuiet_nil ?_
  have rR0 : ∀ s : KX (w.heap.size) w (w6.heap.size + 1) [(w.heap.size, 0, .int .i64 b.n), (w.heap.size, 1, .int .u64 b.g), (w.heap.size, 2, .int .i64 b.s0), (w.heap.size, 3, .bool b.a0), (w.heap.size, 4, .bool b.h0), (w.heap.size, 5, .int .u64 b.t0), (w.heap.size, 6, .int .i64 b.s1), (w.heap.size, 7, .bool b.a1), (w.heap.size, 8, .bool b.h1), (w.heap.size, 9, .int .u64 b.t1), (w6.heap.size, 0, .int .i64 b.s1), (w6.heap.size, 1, .bool b.a1), (w6.heap.size, 2, .bool b.h1), (w6.heap.size, 3, .int .u64 b.t1)] (fun W => BookAt W P b), s.val.cell? ⟨w.heap.size, 0, none⟩ = some (.int .i64 b.n) := fun s => s.kept.at (by simp)
  have rR1 : ∀ s : KX (w.heap.size) w (w6.heap.size + 1) [(w.heap.size, 0, .int .i64 b.n), (w.heap.size, 1, .int .u64 b.g), (w.heap.size, 2, .int .i64 b.s0), (w.heap.size, 3, .bool b.a0), (w.heap.size, 4, .bool b.h0), (w.heap.size, 5, .int .u64 b.t0), (w.heap.size, 6, .int .i64 b.s1), (w.heap.size, 7, .bool b.a1), (w.heap.size, 8, .bool b.h1), (w.heap.size, 9, .int .u64 b.t1), (w6.heap.size, 0, .int .i64 b.s1), (w6.heap.size, 1, .bool b.a1), (w6.heap.size, 2, .bool b.h1), (w6.heap.size, 3, .int .u64 b.t1)] (fun W => BookAt W P b), s.val.cell? ⟨w.heap.size, 1, none⟩ = some (.int .u64 b.g) := fun s => s.kept.at (by simp)
  have rR2 : ∀ s : KX (w.heap.size) w (w6.heap.size + 1) [(w.heap.size, 0, .int .i64 b.n), (w.heap.size, 1, .int .u64 b.g), (w.heap.size, 2, .int .i64 b.s0), (w.heap.size, 3, .bool b.a0), (w.heap.size, 4, .bool b.h0), (w.heap.size, 5, .int .u64 b.t0), (w.heap.size, 6, .int .i64 b.s1), (w.heap.size, 7, .bool b.a1), (w.heap.size, 8, .bool b.h1), (w.heap.size, 9, .int .u64 b.t1), (w6.heap.size, 0, .int .i64 b.s1), (w6.heap.size, 1, .bool b.a1), (w6.heap.size, 2, .bool b.h1), (w6.heap.size, 3, .int .u64 b.t1)] (fun W => BookAt W P b), s.val.cell? ⟨w.heap.size, 2, none⟩ = some (.int .i64 b.s0) := fun s => s.kept.at (by simp)
  have rR3 : ∀ s : KX (w.heap.size) w (w6.heap.size + 1) [(w.heap.size, 0, .int .i64 b.n), (w.heap.size, 1, .int .u64 b.g), (w.heap.size, 2, .int .i64 b.s0), (w.heap.size, 3, .bool b.a0), (w.heap.size, 4, .bool b.h0), (w.heap.size, 5, .int .u64 b.t0), (w.heap.size, 6, .int .i64 b.s1), (w.heap.size, 7, .bool b.a1), (w.heap.size, 8, .bool b.h1), (w.heap.size, 9, .int .u64 b.t1), (w6.heap.size, 0, .int .i64 b.s1), (w6.heap.size, 1, .bool b.a1), (w6.heap.size, 2, .bool b.h1), (w6.heap.size, 3, .int .u64 b.t1)] (fun W => BookAt W P b), s.val.cell? ⟨w.heap.size, 3, none⟩ = some (.bool b.a0) := fun s => s.kept.at (by simp)
  have rR4 : ∀ s : KX (w.heap.size) w (w6.heap.size + 1) [(w.heap.size, 0, .int .i64 b.n), (w.heap.size, 1, .int .u64 b.g), (w.heap.size, 2, .int .i64 b.s0), (w.heap.size, 3, .bool b.a0), (w.heap.size, 4, .bool b.h0), (w.heap.size, 5, .int .u64 b.t0), (w.heap.size, 6, .int .i64 b.s1), (w.heap.size, 7, .bool b.a1), (w.heap.size, 8, .bool b.h1), (w.heap.size, 9, .int .u64 b.t1), (w6.heap.size, 0, .int .i64 b.s1), (w6.heap.size, 1, .bool b.a1), (w6.heap.size, 2, .bool b.h1), (w6.heap.size, 3, .int .u64 b.t1)] (fun W => BookAt W P b), s.val.cell? ⟨w.heap.size, 4, none⟩ = some (.bool b.h0) := fun s => s.kept.at (by simp)
  have rR5 : ∀ s : KX (w.heap.size) w (w6.heap.size + 1) [(w.heap.size, 0, .int .i64 b.n), (w.heap.size, 1, .int .u64 b.g), (w.heap.size, 2, .int .i64 b.s0), (w.heap.size, 3, .bool b.a0), (w.heap.size, 4, .bool b.h0), (w.heap.size, 5, .int .u64 b.t0), (w.heap.size, 6, .int .i64 b.s1), (w.heap.size, 7, .bool b.a1), (w.heap.size, 8, .bool b.h1), (w.heap.size, 9, .int .u64 b.t1), (w6.heap.size, 0, .int .i64 b.s1), (w6.heap.size, 1, .bool b.a1), (w6.heap.size, 2, .bool b.h1), (w6.heap.size, 3, .int .u64 b.t1)] (fun W => BookAt W P b), s.val.cell? ⟨w.heap.size, 5, none⟩ = some (.int .u64 b.t0) := fun s => s.kept.at (by simp)
  have rR6 : ∀ s : KX (w.heap.size) w (w6.heap.size + 1) [(w.heap.size, 0, .int .i64 b.n), (w.heap.size, 1, .int .u64 b.g), (w.heap.size, 2, .int .i64 b.s0), (w.heap.size, 3, .bool b.a0), (w.heap.size, 4, .bool b.h0), (w.heap.size, 5, .int .u64 b.t0), (w.heap.size, 6, .int .i64 b.s1), (w.heap.size, 7, .bool b.a1), (w.heap.size, 8, .bool b.h1), (w.heap.size, 9, .int .u64 b.t1), (w6.heap.size, 0, .int .i64 b.s1), (w6.heap.size, 1, .bool b.a1), (w6.heap.size, 2, .bool b.h1), (w6.heap.size, 3, .int .u64 b.t1)] (fun W => BookAt W P b), s.val.cell? ⟨w.heap.size, 6, none⟩ = some (.int .i64 b.s1) := fun s => s.kept.at (by simp)
  have rR7 : ∀ s : KX (w.heap.size) w (w6.heap.size + 1) [(w.heap.size, 0, .int .i64 b.n), (w.heap.size, 1, .int .u64 b.g), (w.heap.size, 2, .int .i64 b.s0), (w.heap.size, 3, .bool b.a0), (w.heap.size, 4, .bool b.h0), (w.heap.size, 5, .int .u64 b.t0), (w.heap.size, 6, .int .i64 b.s1), (w.heap.size, 7, .bool b.a1), (w.heap.size, 8, .bool b.h1), (w.heap.size, 9, .int .u64 b.t1), (w6.heap.size, 0, .int .i64 b.s1), (w6.heap.size, 1, .bool b.a1), (w6.heap.size, 2, .bool b.h1), (w6.heap.size, 3, .int .u64 b.t1)] (fun W => BookAt W P b), s.val.cell? ⟨w.heap.size, 7, none⟩ = some (.bool b.a1) := fun s => s.kept.at (by simp)
  have rR8 : ∀ s : KX (w.heap.size) w (w6.heap.size + 1) [(w.heap.size, 0, .int .i64 b.n), (w.heap.size, 1, .int .u64 b.g), (w.heap.size, 2, .int .i64 b.s0), (w.heap.size, 3, .bool b.a0), (w.heap.size, 4, .bool b.h0), (w.heap.size, 5, .int .u64 b.t0), (w.heap.size, 6, .int .i64 b.s1), (w.heap.size, 7, .bool b.a1), (w.heap.size, 8, .bool b.h1), (w.heap.size, 9, .int .u64 b.t1), (w6.heap.size, 0, .int .i64 b.s1), (w6.heap.size, 1, .bool b.a1), (w6.heap.size, 2, .bool b.h1), (w6.heap.size, 3, .int .u64 b.t1)] (fun W => BookAt W P b), s.val.cell? ⟨w.heap.size, 8, none⟩ = some (.bool b.h1) := fun s => s.kept.at (by simp)
  have rR9 : ∀ s : KX (w.heap.size) w (w6.heap.size + 1) [(w.heap.size, 0, .int .i64 b.n), (w.heap.size, 1, .int .u64 b.g), (w.heap.size, 2, .int .i64 b.s0), (w.heap.size, 3, .bool b.a0), (w.heap.size, 4, .bool b.h0), (w.heap.size, 5, .int .u64 b.t0), (w.heap.size, 6, .int .i64 b.s1), (w.heap.size, 7, .bool b.a1), (w.heap.size, 8, .bool b.h1), (w.heap.size, 9, .int .u64 b.t1), (w6.heap.size, 0, .int .i64 b.s1), (w6.heap.size, 1, .bool b.a1), (w6.heap.size, 2, .bool b.h1), (w6.heap.size, 3, .int .u64 b.t1)] (fun W => BookAt W P b), s.val.cell? ⟨w.heap.size, 9, none⟩ = some (.int .u64 b.t1) := fun s => s.kept.at (by simp)
  have rX0 : ∀ s : KX (w.heap.size) w (w6.heap.size + 1) [(w.heap.size, 0, .int .i64 b.n), (w.heap.size, 1, .int .u64 b.g), (w.heap.size, 2, .int .i64 b.s0), (w.heap.size, 3, .bool b.a0), (w.heap.size, 4, .bool b.h0), (w.heap.size, 5, .int .u64 b.t0), (w.heap.size, 6, .int .i64 b.s1), (w.heap.size, 7, .bool b.a1), (w.heap.size, 8, .bool b.h1), (w.heap.size, 9, .int .u64 b.t1), (w6.heap.size, 0, .int .i64 b.s1), (w6.heap.size, 1, .bool b.a1), (w6.heap.size, 2, .bool b.h1), (w6.heap.size, 3, .int .u64 b.t1)] (fun W => BookAt W P b), s.val.cell? ⟨w6.heap.size, 0, none⟩ = some (.int .i64 b.s1) := fun s => s.kept.at (by simp)
  have rX1 : ∀ s : KX (w.heap.size) w (w6.heap.size + 1) [(w.heap.size, 0, .int .i64 b.n), (w.heap.size, 1, .int .u64 b.g), (w.heap.size, 2, .int .i64 b.s0), (w.heap.size, 3, .bool b.a0), (w.heap.size, 4, .bool b.h0), (w.heap.size, 5, .int .u64 b.t0), (w.heap.size, 6, .int .i64 b.s1), (w.heap.size, 7, .bool b.a1), (w.heap.size, 8, .bool b.h1), (w.heap.size, 9, .int .u64 b.t1), (w6.heap.size, 0, .int .i64 b.s1), (w6.heap.size, 1, .bool b.a1), (w6.heap.size, 2, .bool b.h1), (w6.heap.size, 3, .int .u64 b.t1)] (fun W => BookAt W P b), s.val.cell? ⟨w6.heap.size, 1, none⟩ = some (.bool b.a1) := fun s => s.kept.at (by simp)
  have rX2 : ∀ s : KX (w.heap.size) w (w6.heap.size + 1) [(w.heap.size, 0, .int .i64 b.n), (w.heap.size, 1, .int .u64 b.g), (w.heap.size, 2, .int .i64 b.s0), (w.heap.size, 3, .bool b.a0), (w.heap.size, 4, .bool b.h0), (w.heap.size, 5, .int .u64 b.t0), (w.heap.size, 6, .int .i64 b.s1), (w.heap.size, 7, .bool b.a1), (w.heap.size, 8, .bool b.h1), (w.heap.size, 9, .int .u64 b.t1), (w6.heap.size, 0, .int .i64 b.s1), (w6.heap.size, 1, .bool b.a1), (w6.heap.size, 2, .bool b.h1), (w6.heap.size, 3, .int .u64 b.t1)] (fun W => BookAt W P b), s.val.cell? ⟨w6.heap.size, 2, none⟩ = some (.bool b.h1) := fun s => s.kept.at (by simp)
  have rX3 : ∀ s : KX (w.heap.size) w (w6.heap.size + 1) [(w.heap.size, 0, .int .i64 b.n), (w.heap.size, 1, .int .u64 b.g), (w.heap.size, 2, .int .i64 b.s0), (w.heap.size, 3, .bool b.a0), (w.heap.size, 4, .bool b.h0), (w.heap.size, 5, .int .u64 b.t0), (w.heap.size, 6, .int .i64 b.s1), (w.heap.size, 7, .bool b.a1), (w.heap.size, 8, .bool b.h1), (w.heap.size, 9, .int .u64 b.t1), (w6.heap.size, 0, .int .i64 b.s1), (w6.heap.size, 1, .bool b.a1), (w6.heap.size, 2, .bool b.h1), (w6.heap.size, 3, .int .u64 b.t1)] (fun W => BookAt W P b), s.val.cell? ⟨w6.heap.size, 3, none⟩ = some (.int .u64 b.t1) := fun s => s.kept.at (by simp)
  repeat (go_big_quiet_step (fail))
  refine wpQuiet_nil ?_
  clear rR0 rR1 rR2 rR3 rR4 rR5 rR6 rR7 rR8 rR9 rX0 rX1 rX2 rX3
  refine ⟨fun K hK0 => ?_, trivial⟩
  have hK := Lib.hid hK0
  clear hK0
  go_wp2_with fail
  with_reducible refine (strikes21_1 P b _ HB.out h1).mono ?_
  rintro e w9 ⟨rfl, hb_w9⟩
  have K_w9 : Kept w.heap.size w (w6.heap.size + 1) [(w.heap.size, 0, .int .i64 b.n), (w.heap.size, 1, .int .u64 b.g), (w.heap.size, 2, .int .i64 b.s0), (w.heap.size, 3, .bool b.a0), (w.heap.size, 4, .bool b.h0), (w.heap.size, 5, .int .u64 b.t0), (w.heap.size, 6, .int .i64 b.s1), (w.heap.size, 7, .bool b.a1), (w.heap.size, 8, .bool b.h1), (w.heap.size, 9, .int .u64 b.t1), (w6.heap.size, 0, .int .i64 b.s1), (w6.heap.size, 1, .bool b.a1), (w6.heap.size, 2, .bool b.h1), (w6.heap.size, 3, .int .u64 b.t1)] w9 := (KH_w8.out.step (by omega) (by go_grown)).step (by omega) hb_w9
  replace HB := Lib.hid (HB.out.below hb_w9)
  clear hb_w9
  have KH_w9 := Lib.hid K_w9
  have hw_w9 := K_w9.below
  have hz_w9 := K_w9.size
  have lR_w9 : w.heap.size < w9.heap.size := by omega
  have lX_w9 : w6.heap.size < w9.heap.size := by omega
  clear lR_w8 lX_w8
  clear K_w9
  go_wp2_with fail
  first | (refine ⟨rfl, ⟨⟨_, KH_w9.out, HB.out⟩, rfl⟩, hK.out _ _ ?_⟩; clear hK K) | (refine ⟨⟨⟨_, KH_w9.out, HB.out⟩, rfl⟩, hK.out _ _ ?_⟩; clear hK K)
  repeat (go_big_quiet_step (fail))
  refine wpQuiet_nil ?_
  have rR0 : ∀ s : KX (w.heap.size) w (w6.heap.size + 1) [(w.heap.size, 0, .int .i64 b.n), (w.heap.size, 1, .int .u64 b.g), (w.heap.size, 2, .int .i64 b.s0), (w.heap.size, 3, .bool b.a0), (w.heap.size, 4, .bool b.h0), (w.heap.size, 5, .int .u64 b.t0), (w.heap.size, 6, .int .i64 b.s1), (w.heap.size, 7, .bool b.a1), (w.heap.size, 8, .bool b.h1), (w.heap.size, 9, .int .u64 b.t1), (w6.heap.size, 0, .int .i64 b.s1), (w6.heap.size, 1, .bool b.a1), (w6.heap.size, 2, .bool b.h1), (w6.heap.size, 3, .int .u64 b.t1)] (fun W => BookAt W P b), s.val.cell? ⟨w.heap.size, 0, none⟩ = some (.int .i64 b.n) := fun s => s.kept.at (by simp)
  have rR1 : ∀ s : KX (w.heap.size) w (w6.heap.size + 1) [(w.heap.size, 0, .int .i64 b.n), (w.heap.size, 1, .int .u64 b.g), (w.heap.size, 2, .int .i64 b.s0), (w.heap.size, 3, .bool b.a0), (w.heap.size, 4, .bool b.h0), (w.heap.size, 5, .int .u64 b.t0), (w.heap.size, 6, .int .i64 b.s1), (w.heap.size, 7, .bool b.a1), (w.heap.size, 8, .bool b.h1), (w.heap.size, 9, .int .u64 b.t1), (w6.heap.size, 0, .int .i64 b.s1), (w6.heap.size, 1, .bool b.a1), (w6.heap.size, 2, .bool b.h1), (w6.heap.size, 3, .int .u64 b.t1)] (fun W => BookAt W P b), s.val.cell? ⟨w.heap.size, 1, none⟩ = some (.int .u64 b.g) := fun s => s.kept.at (by simp)
  have rR2 : ∀ s : KX (w.heap.size) w (w6.heap.size + 1) [(w.heap.size, 0, .int .i64 b.n), (w.heap.size, 1, .int .u64 b.g), (w.heap.size, 2, .int .i64 b.s0), (w.heap.size, 3, .bool b.a0), (w.heap.size, 4, .bool b.h0), (w.heap.size, 5, .int .u64 b.t0), (w.heap.size, 6, .int .i64 b.s1), (w.heap.size, 7, .bool b.a1), (w.heap.size, 8, .bool b.h1), (w.heap.size, 9, .int .u64 b.t1), (w6.heap.size, 0, .int .i64 b.s1), (w6.heap.size, 1, .bool b.a1), (w6.heap.size, 2, .bool b.h1), (w6.heap.size, 3, .int .u64 b.t1)] (fun W => BookAt W P b), s.val.cell? ⟨w.heap.size, 2, none⟩ = some (.int .i64 b.s0) := fun s => s.kept.at (by simp)
  have rR3 : ∀ s : KX (w.heap.size) w (w6.heap.size + 1) [(w.heap.size, 0, .int .i64 b.n), (w.heap.size, 1, .int .u64 b.g), (w.heap.size, 2, .int .i64 b.s0), (w.heap.size, 3, .bool b.a0), (w.heap.size, 4, .bool b.h0), (w.heap.size, 5, .int .u64 b.t0), (w.heap.size, 6, .int .i64 b.s1), (w.heap.size, 7, .bool b.a1), (w.heap.size, 8, .bool b.h1), (w.heap.size, 9, .int .u64 b.t1), (w6.heap.size, 0, .int .i64 b.s1), (w6.heap.size, 1, .bool b.a1), (w6.heap.size, 2, .bool b.h1), (w6.heap.size, 3, .int .u64 b.t1)] (fun W => BookAt W P b), s.val.cell? ⟨w.heap.size, 3, none⟩ = some (.bool b.a0) := fun s => s.kept.at (by simp)
  have rR4 : ∀ s : KX (w.heap.size) w (w6.heap.size + 1) [(w.heap.size, 0, .int .i64 b.n), (w.heap.size, 1, .int .u64 b.g), (w.heap.size, 2, .int .i64 b.s0), (w.heap.size, 3, .bool b.a0), (w.heap.size, 4, .bool b.h0), (w.heap.size, 5, .int .u64 b.t0), (w.heap.size, 6, .int .i64 b.s1), (w.heap.size, 7, .bool b.a1), (w.heap.size, 8, .bool b.h1), (w.heap.size, 9, .int .u64 b.t1), (w6.heap.size, 0, .int .i64 b.s1), (w6.heap.size, 1, .bool b.a1), (w6.heap.size, 2, .bool b.h1), (w6.heap.size, 3, .int .u64 b.t1)] (fun W => BookAt W P b), s.val.cell? ⟨w.heap.size, 4, none⟩ = some (.bool b.h0) := fun s => s.kept.at (by simp)
  have rR5 : ∀ s : KX (w.heap.size) w (w6.heap.size + 1) [(w.heap.size, 0, .int .i64 b.n), (w.heap.size, 1, .int .u64 b.g), (w.heap.size, 2, .int .i64 b.s0), (w.heap.size, 3, .bool b.a0), (w.heap.size, 4, .bool b.h0), (w.heap.size, 5, .int .u64 b.t0), (w.heap.size, 6, .int .i64 b.s1), (w.heap.size, 7, .bool b.a1), (w.heap.size, 8, .bool b.h1), (w.heap.size, 9, .int .u64 b.t1), (w6.heap.size, 0, .int .i64 b.s1), (w6.heap.size, 1, .bool b.a1), (w6.heap.size, 2, .bool b.h1), (w6.heap.size, 3, .int .u64 b.t1)] (fun W => BookAt W P b), s.val.cell? ⟨w.heap.size, 5, none⟩ = some (.int .u64 b.t0) := fun s => s.kept.at (by simp)
  have rR6 : ∀ s : KX (w.heap.size) w (w6.heap.size + 1) [(w.heap.size, 0, .int .i64 b.n), (w.heap.size, 1, .int .u64 b.g), (w.heap.size, 2, .int .i64 b.s0), (w.heap.size, 3, .bool b.a0), (w.heap.size, 4, .bool b.h0), (w.heap.size, 5, .int .u64 b.t0), (w.heap.size, 6, .int .i64 b.s1), (w.heap.size, 7, .bool b.a1), (w.heap.size, 8, .bool b.h1), (w.heap.size, 9, .int .u64 b.t1), (w6.heap.size, 0, .int .i64 b.s1), (w6.heap.size, 1, .bool b.a1), (w6.heap.size, 2, .bool b.h1), (w6.heap.size, 3, .int .u64 b.t1)] (fun W => BookAt W P b), s.val.cell? ⟨w.heap.size, 6, none⟩ = some (.int .i64 b.s1) := fun s => s.kept.at (by simp)
  have rR7 : ∀ s : KX (w.heap.size) w (w6.heap.size + 1) [(w.heap.size, 0, .int .i64 b.n), (w.heap.size, 1, .int .u64 b.g), (w.heap.size, 2, .int .i64 b.s0), (w.heap.size, 3, .bool b.a0), (w.heap.size, 4, .bool b.h0), (w.heap.size, 5, .int .u64 b.t0), (w.heap.size, 6, .int .i64 b.s1), (w.heap.size, 7, .bool b.a1), (w.heap.size, 8, .bool b.h1), (w.heap.size, 9, .int .u64 b.t1), (w6.heap.size, 0, .int .i64 b.s1), (w6.heap.size, 1, .bool b.a1), (w6.heap.size, 2, .bool b.h1), (w6.heap.size, 3, .int .u64 b.t1)] (fun W => BookAt W P b), s.val.cell? ⟨w.heap.size, 7, none⟩ = some (.bool b.a1) := fun s => s.kept.at (by simp)
  have rR8 : ∀ s : KX (w.heap.size) w (w6.heap.size + 1) [(w.heap.size, 0, .int .i64 b.n), (w.heap.size, 1, .int .u64 b.g), (w.heap.size, 2, .int .i64 b.s0), (w.heap.size, 3, .bool b.a0), (w.heap.size, 4, .bool b.h0), (w.heap.size, 5, .int .u64 b.t0), (w.heap.size, 6, .int .i64 b.s1), (w.heap.size, 7, .bool b.a1), (w.heap.size, 8, .bool b.h1), (w.heap.size, 9, .int .u64 b.t1), (w6.heap.size, 0, .int .i64 b.s1), (w6.heap.size, 1, .bool b.a1), (w6.heap.size, 2, .bool b.h1), (w6.heap.size, 3, .int .u64 b.t1)] (fun W => BookAt W P b), s.val.cell? ⟨w.heap.size, 8, none⟩ = some (.bool b.h1) := fun s => s.kept.at (by simp)
  have rR9 : ∀ s : KX (w.heap.size) w (w6.heap.size + 1) [(w.heap.size, 0, .int .i64 b.n), (w.heap.size, 1, .int .u64 b.g), (w.heap.size, 2, .int .i64 b.s0), (w.heap.size, 3, .bool b.a0), (w.heap.size, 4, .bool b.h0), (w.heap.size, 5, .int .u64 b.t0), (w.heap.size, 6, .int .i64 b.s1), (w.heap.size, 7, .bool b.a1), (w.heap.size, 8, .bool b.h1), (w.heap.size, 9, .int .u64 b.t1), (w6.heap.size, 0, .int .i64 b.s1), (w6.heap.size, 1, .bool b.a1), (w6.heap.size, 2, .bool b.h1), (w6.heap.size, 3, .int .u64 b.t1)] (fun W => BookAt W P b), s.val.cell? ⟨w.heap.size, 9, none⟩ = some (.int .u64 b.t1) := fun s => s.kept.at (by simp)
  have rX0 : ∀ s : KX (w.heap.size) w (w6.heap.size + 1) [(w.heap.size, 0, .int .i64 b.n), (w.heap.size, 1, .int .u64 b.g), (w.heap.size, 2, .int .i64 b.s0), (w.heap.size, 3, .bool b.a0), (w.heap.size, 4, .bool b.h0), (w.heap.size, 5, .int .u64 b.t0), (w.heap.size, 6, .int .i64 b.s1), (w.heap.size, 7, .bool b.a1), (w.heap.size, 8, .bool b.h1), (w.heap.size, 9, .int .u64 b.t1), (w6.heap.size, 0, .int .i64 b.s1), (w6.heap.size, 1, .bool b.a1), (w6.heap.size, 2, .bool b.h1), (w6.heap.size, 3, .int .u64 b.t1)] (fun W => BookAt W P b), s.val.cell? ⟨w6.heap.size, 0, none⟩ = some (.int .i64 b.s1) := fun s => s.kept.at (by simp)
  have rX1 : ∀ s : KX (w.heap.size) w (w6.heap.size + 1) [(w.heap.size, 0, .int .i64 b.n), (w.heap.size, 1, .int .u64 b.g), (w.heap.size, 2, .int .i64 b.s0), (w.heap.size, 3, .bool b.a0), (w.heap.size, 4, .bool b.h0), (w.heap.size, 5, .int .u64 b.t0), (w.heap.size, 6, .int .i64 b.s1), (w.heap.size, 7, .bool b.a1), (w.heap.size, 8, .bool b.h1), (w.heap.size, 9, .int .u64 b.t1), (w6.heap.size, 0, .int .i64 b.s1), (w6.heap.size, 1, .bool b.a1), (w6.heap.size, 2, .bool b.h1), (w6.heap.size, 3, .int .u64 b.t1)] (fun W => BookAt W P b), s.val.cell? ⟨w6.heap.size, 1, none⟩ = some (.bool b.a1) := fun s => s.kept.at (by simp)
  have rX2 : ∀ s : KX (w.heap.size) w (w6.heap.size + 1) [(w.heap.size, 0, .int .i64 b.n), (w.heap.size, 1, .int .u64 b.g), (w.heap.size, 2, .int .i64 b.s0), (w.heap.size, 3, .bool b.a0), (w.heap.size, 4, .bool b.h0), (w.heap.size, 5, .int .u64 b.t0), (w.heap.size, 6, .int .i64 b.s1), (w.heap.size, 7, .bool b.a1), (w.heap.size, 8, .bool b.h1), (w.heap.size, 9, .int .u64 b.t1), (w6.heap.size, 0, .int .i64 b.s1), (w6.heap.size, 1, .bool b.a1), (w6.heap.size, 2, .bool b.h1), (w6.heap.size, 3, .int .u64 b.t1)] (fun W => BookAt W P b), s.val.cell? ⟨w6.heap.size, 2, none⟩ = some (.bool b.h1) := fun s => s.kept.at (by simp)
  have rX3 : ∀ s : KX (w.heap.size) w (w6.heap.size + 1) [(w.heap.size, 0, .int .i64 b.n), (w.heap.size, 1, .int .u64 b.g), (w.heap.size, 2, .int .i64 b.s0), (w.heap.size, 3, .bool b.a0), (w.heap.size, 4, .bool b.h0), (w.heap.size, 5, .int .u64 b.t0), (w.heap.size, 6, .int .i64 b.s1), (w.heap.size, 7, .bool b.a1), (w.heap.size, 8, .bool b.h1), (w.heap.size, 9, .int .u64 b.t1), (w6.heap.size, 0, .int .i64 b.s1), (w6.heap.size, 1, .bool b.a1), (w6.heap.size, 2, .bool b.h1), (w6.heap.size, 3, .int .u64 b.t1)] (fun W => BookAt W P b), s.val.cell? ⟨w6.heap.size, 3, none⟩ = some (.int .u64 b.t1) := fun s => s.kept.at (by simp)
  repeat (go_big_quiet_step (fail))
  refine wpQuiet_nil ?_
  clear rR0 rR1 rR2 rR3 rR4 rR5 rR6 rR7 rR8 rR9 rX0 rX1 rX2 rX3
  refine ⟨fun K hK0 => ?_, trivial⟩
  have hK := Lib.hid hK0
  clear hK0
  go_wp2_with fail
  with_reducible refine (here18_1 P b _ HB.out h1).mono ?_
  rintro e w10 ⟨rfl, hb_w10⟩
  have K_w10 : Kept w.heap.size w (w6.heap.size + 1) [(w.heap.size, 0, .int .i64 b.n), (w.heap.size, 1, .int .u64 b.g), (w.heap.size, 2, .int .i64 b.s0), (w.heap.size, 3, .bool b.a0), (w.heap.size, 4, .bool b.h0), (w.heap.size, 5, .int .u64 b.t0), (w.heap.size, 6, .int .i64 b.s1), (w.heap.size, 7, .bool b.a1), (w.heap.size, 8, .bool b.h1), (w.heap.size, 9, .int .u64 b.t1), (w6.heap.size, 0, .int .i64 b.s1), (w6.heap.size, 1, .bool b.a1), (w6.heap.size, 2, .bool b.h1), (w6.heap.size, 3, .int .u64 b.t1)] w10 := (KH_w9.out.step (by omega) (by go_grown)).step (by omega) hb_w10
  replace HB := Lib.hid (HB.out.below hb_w10)
  clear hb_w10
  have KH_w10 := Lib.hid K_w10
  have hw_w10 := K_w10.below
  have hz_w10 := K_w10.size
  have lR_w10 : w.heap.size < w10.heap.size := by omega
  have lX_w10 : w6.heap.size < w10.heap.size := by omega
  clear lR_w9 lX_w9
  clear K_w10
  go_wp2_with fail
  first | (refine ⟨rfl, ⟨⟨_, KH_w10.out, HB.out⟩, rfl⟩, hK.out _ _ ?_⟩; clear hK K) | (refine ⟨⟨⟨_, KH_w10.out, HB.out⟩, rfl⟩, hK.out _ _ ?_⟩; clear hK K)
  repeat (go_big_quiet_step (fail))
  refine wpQuiet_nil ?_
  have rR0 : ∀ s : KX (w.heap.size) w (w6.heap.size + 1) [(w.heap.size, 0, .int .i64 b.n), (w.heap.size, 1, .int .u64 b.g), (w.heap.size, 2, .int .i64 b.s0), (w.heap.size, 3, .bool b.a0), (w.heap.size, 4, .bool b.h0), (w.heap.size, 5, .int .u64 b.t0), (w.heap.size, 6, .int .i64 b.s1), (w.heap.size, 7, .bool b.a1), (w.heap.size, 8, .bool b.h1), (w.heap.size, 9, .int .u64 b.t1), (w6.heap.size, 0, .int .i64 b.s1), (w6.heap.size, 1, .bool b.a1), (w6.heap.size, 2, .bool b.h1), (w6.heap.size, 3, .int .u64 b.t1)] (fun W => BookAt W P b), s.val.cell? ⟨w.heap.size, 0, none⟩ = some (.int .i64 b.n) := fun s => s.kept.at (by simp)
  have rR1 : ∀ s : KX (w.heap.size) w (w6.heap.size + 1) [(w.heap.size, 0, .int .i64 b.n), (w.heap.size, 1, .int .u64 b.g), (w.heap.size, 2, .int .i64 b.s0), (w.heap.size, 3, .bool b.a0), (w.heap.size, 4, .bool b.h0), (w.heap.size, 5, .int .u64 b.t0), (w.heap.size, 6, .int .i64 b.s1), (w.heap.size, 7, .bool b.a1), (w.heap.size, 8, .bool b.h1), (w.heap.size, 9, .int .u64 b.t1), (w6.heap.size, 0, .int .i64 b.s1), (w6.heap.size, 1, .bool b.a1), (w6.heap.size, 2, .bool b.h1), (w6.heap.size, 3, .int .u64 b.t1)] (fun W => BookAt W P b), s.val.cell? ⟨w.heap.size, 1, none⟩ = some (.int .u64 b.g) := fun s => s.kept.at (by simp)
  have rR2 : ∀ s : KX (w.heap.size) w (w6.heap.size + 1) [(w.heap.size, 0, .int .i64 b.n), (w.heap.size, 1, .int .u64 b.g), (w.heap.size, 2, .int .i64 b.s0), (w.heap.size, 3, .bool b.a0), (w.heap.size, 4, .bool b.h0), (w.heap.size, 5, .int .u64 b.t0), (w.heap.size, 6, .int .i64 b.s1), (w.heap.size, 7, .bool b.a1), (w.heap.size, 8, .bool b.h1), (w.heap.size, 9, .int .u64 b.t1), (w6.heap.size, 0, .int .i64 b.s1), (w6.heap.size, 1, .bool b.a1), (w6.heap.size, 2, .bool b.h1), (w6.heap.size, 3, .int .u64 b.t1)] (fun W => BookAt W P b), s.val.cell? ⟨w.heap.size, 2, none⟩ = some (.int .i64 b.s0) := fun s => s.kept.at (by simp)
  have rR3 : ∀ s : KX (w.heap.size) w (w6.heap.size + 1) [(w.heap.size, 0, .int .i64 b.n), (w.heap.size, 1, .int .u64 b.g), (w.heap.size, 2, .int .i64 b.s0), (w.heap.size, 3, .bool b.a0), (w.heap.size, 4, .bool b.h0), (w.heap.size, 5, .int .u64 b.t0), (w.heap.size, 6, .int .i64 b.s1), (w.heap.size, 7, .bool b.a1), (w.heap.size, 8, .bool b.h1), (w.heap.size, 9, .int .u64 b.t1), (w6.heap.size, 0, .int .i64 b.s1), (w6.heap.size, 1, .bool b.a1), (w6.heap.size, 2, .bool b.h1), (w6.heap.size, 3, .int .u64 b.t1)] (fun W => BookAt W P b), s.val.cell? ⟨w.heap.size, 3, none⟩ = some (.bool b.a0) := fun s => s.kept.at (by simp)
  have rR4 : ∀ s : KX (w.heap.size) w (w6.heap.size + 1) [(w.heap.size, 0, .int .i64 b.n), (w.heap.size, 1, .int .u64 b.g), (w.heap.size, 2, .int .i64 b.s0), (w.heap.size, 3, .bool b.a0), (w.heap.size, 4, .bool b.h0), (w.heap.size, 5, .int .u64 b.t0), (w.heap.size, 6, .int .i64 b.s1), (w.heap.size, 7, .bool b.a1), (w.heap.size, 8, .bool b.h1), (w.heap.size, 9, .int .u64 b.t1), (w6.heap.size, 0, .int .i64 b.s1), (w6.heap.size, 1, .bool b.a1), (w6.heap.size, 2, .bool b.h1), (w6.heap.size, 3, .int .u64 b.t1)] (fun W => BookAt W P b), s.val.cell? ⟨w.heap.size, 4, none⟩ = some (.bool b.h0) := fun s => s.kept.at (by simp)
  have rR5 : ∀ s : KX (w.heap.size) w (w6.heap.size + 1) [(w.heap.size, 0, .int .i64 b.n), (w.heap.size, 1, .int .u64 b.g), (w.heap.size, 2, .int .i64 b.s0), (w.heap.size, 3, .bool b.a0), (w.heap.size, 4, .bool b.h0), (w.heap.size, 5, .int .u64 b.t0), (w.heap.size, 6, .int .i64 b.s1), (w.heap.size, 7, .bool b.a1), (w.heap.size, 8, .bool b.h1), (w.heap.size, 9, .int .u64 b.t1), (w6.heap.size, 0, .int .i64 b.s1), (w6.heap.size, 1, .bool b.a1), (w6.heap.size, 2, .bool b.h1), (w6.heap.size, 3, .int .u64 b.t1)] (fun W => BookAt W P b), s.val.cell? ⟨w.heap.size, 5, none⟩ = some (.int .u64 b.t0) := fun s => s.kept.at (by simp)
  have rR6 : ∀ s : KX (w.heap.size) w (w6.heap.size + 1) [(w.heap.size, 0, .int .i64 b.n), (w.heap.size, 1, .int .u64 b.g), (w.heap.size, 2, .int .i64 b.s0), (w.heap.size, 3, .bool b.a0), (w.heap.size, 4, .bool b.h0), (w.heap.size, 5, .int .u64 b.t0), (w.heap.size, 6, .int .i64 b.s1), (w.heap.size, 7, .bool b.a1), (w.heap.size, 8, .bool b.h1), (w.heap.size, 9, .int .u64 b.t1), (w6.heap.size, 0, .int .i64 b.s1), (w6.heap.size, 1, .bool b.a1), (w6.heap.size, 2, .bool b.h1), (w6.heap.size, 3, .int .u64 b.t1)] (fun W => BookAt W P b), s.val.cell? ⟨w.heap.size, 6, none⟩ = some (.int .i64 b.s1) := fun s => s.kept.at (by simp)
  have rR7 : ∀ s : KX (w.heap.size) w (w6.heap.size + 1) [(w.heap.size, 0, .int .i64 b.n), (w.heap.size, 1, .int .u64 b.g), (w.heap.size, 2, .int .i64 b.s0), (w.heap.size, 3, .bool b.a0), (w.heap.size, 4, .bool b.h0), (w.heap.size, 5, .int .u64 b.t0), (w.heap.size, 6, .int .i64 b.s1), (w.heap.size, 7, .bool b.a1), (w.heap.size, 8, .bool b.h1), (w.heap.size, 9, .int .u64 b.t1), (w6.heap.size, 0, .int .i64 b.s1), (w6.heap.size, 1, .bool b.a1), (w6.heap.size, 2, .bool b.h1), (w6.heap.size, 3, .int .u64 b.t1)] (fun W => BookAt W P b), s.val.cell? ⟨w.heap.size, 7, none⟩ = some (.bool b.a1) := fun s => s.kept.at (by simp)
  have rR8 : ∀ s : KX (w.heap.size) w (w6.heap.size + 1) [(w.heap.size, 0, .int .i64 b.n), (w.heap.size, 1, .int .u64 b.g), (w.heap.size, 2, .int .i64 b.s0), (w.heap.size, 3, .bool b.a0), (w.heap.size, 4, .bool b.h0), (w.heap.size, 5, .int .u64 b.t0), (w.heap.size, 6, .int .i64 b.s1), (w.heap.size, 7, .bool b.a1), (w.heap.size, 8, .bool b.h1), (w.heap.size, 9, .int .u64 b.t1), (w6.heap.size, 0, .int .i64 b.s1), (w6.heap.size, 1, .bool b.a1), (w6.heap.size, 2, .bool b.h1), (w6.heap.size, 3, .int .u64 b.t1)] (fun W => BookAt W P b), s.val.cell? ⟨w.heap.size, 8, none⟩ = some (.bool b.h1) := fun s => s.kept.at (by simp)
  have rR9 : ∀ s : KX (w.heap.size) w (w6.heap.size + 1) [(w.heap.size, 0, .int .i64 b.n), (w.heap.size, 1, .int .u64 b.g), (w.heap.size, 2, .int .i64 b.s0), (w.heap.size, 3, .bool b.a0), (w.heap.size, 4, .bool b.h0), (w.heap.size, 5, .int .u64 b.t0), (w.heap.size, 6, .int .i64 b.s1), (w.heap.size, 7, .bool b.a1), (w.heap.size, 8, .bool b.h1), (w.heap.size, 9, .int .u64 b.t1), (w6.heap.size, 0, .int .i64 b.s1), (w6.heap.size, 1, .bool b.a1), (w6.heap.size, 2, .bool b.h1), (w6.heap.size, 3, .int .u64 b.t1)] (fun W => BookAt W P b), s.val.cell? ⟨w.heap.size, 9, none⟩ = some (.int .u64 b.t1) := fun s => s.kept.at (by simp)
  have rX0 : ∀ s : KX (w.heap.size) w (w6.heap.size + 1) [(w.heap.size, 0, .int .i64 b.n), (w.heap.size, 1, .int .u64 b.g), (w.heap.size, 2, .int .i64 b.s0), (w.heap.size, 3, .bool b.a0), (w.heap.size, 4, .bool b.h0), (w.heap.size, 5, .int .u64 b.t0), (w.heap.size, 6, .int .i64 b.s1), (w.heap.size, 7, .bool b.a1), (w.heap.size, 8, .bool b.h1), (w.heap.size, 9, .int .u64 b.t1), (w6.heap.size, 0, .int .i64 b.s1), (w6.heap.size, 1, .bool b.a1), (w6.heap.size, 2, .bool b.h1), (w6.heap.size, 3, .int .u64 b.t1)] (fun W => BookAt W P b), s.val.cell? ⟨w6.heap.size, 0, none⟩ = some (.int .i64 b.s1) := fun s => s.kept.at (by simp)
  have rX1 : ∀ s : KX (w.heap.size) w (w6.heap.size + 1) [(w.heap.size, 0, .int .i64 b.n), (w.heap.size, 1, .int .u64 b.g), (w.heap.size, 2, .int .i64 b.s0), (w.heap.size, 3, .bool b.a0), (w.heap.size, 4, .bool b.h0), (w.heap.size, 5, .int .u64 b.t0), (w.heap.size, 6, .int .i64 b.s1), (w.heap.size, 7, .bool b.a1), (w.heap.size, 8, .bool b.h1), (w.heap.size, 9, .int .u64 b.t1), (w6.heap.size, 0, .int .i64 b.s1), (w6.heap.size, 1, .bool b.a1), (w6.heap.size, 2, .bool b.h1), (w6.heap.size, 3, .int .u64 b.t1)] (fun W => BookAt W P b), s.val.cell? ⟨w6.heap.size, 1, none⟩ = some (.bool b.a1) := fun s => s.kept.at (by simp)
  have rX2 : ∀ s : KX (w.heap.size) w (w6.heap.size + 1) [(w.heap.size, 0, .int .i64 b.n), (w.heap.size, 1, .int .u64 b.g), (w.heap.size, 2, .int .i64 b.s0), (w.heap.size, 3, .bool b.a0), (w.heap.size, 4, .bool b.h0), (w.heap.size, 5, .int .u64 b.t0), (w.heap.size, 6, .int .i64 b.s1), (w.heap.size, 7, .bool b.a1), (w.heap.size, 8, .bool b.h1), (w.heap.size, 9, .int .u64 b.t1), (w6.heap.size, 0, .int .i64 b.s1), (w6.heap.size, 1, .bool b.a1), (w6.heap.size, 2, .bool b.h1), (w6.heap.size, 3, .int .u64 b.t1)] (fun W => BookAt W P b), s.val.cell? ⟨w6.heap.size, 2, none⟩ = some (.bool b.h1) := fun s => s.kept.at (by simp)
  have rX3 : ∀ s : KX (w.heap.size) w (w6.heap.size + 1) [(w.heap.size, 0, .int .i64 b.n), (w.heap.size, 1, .int .u64 b.g), (w.heap.size, 2, .int .i64 b.s0), (w.heap.size, 3, .bool b.a0), (w.heap.size, 4, .bool b.h0), (w.heap.size, 5, .int .u64 b.t0), (w.heap.size, 6, .int .i64 b.s1), (w.heap.size, 7, .bool b.a1), (w.heap.size, 8, .bool b.h1), (w.heap.size, 9, .int .u64 b.t1), (w6.heap.size, 0, .int .i64 b.s1), (w6.heap.size, 1, .bool b.a1), (w6.heap.size, 2, .bool b.h1), (w6.heap.size, 3, .int .u64 b.t1)] (fun W => BookAt W P b), s.val.cell? ⟨w6.heap.size, 3, none⟩ = some (.int .u64 b.t1) := fun s => s.kept.at (by simp)
  repeat (go_big_quiet_step (fail))
  refine wpQuiet_nil ?_
  clear rR0 rR1 rR2 rR3 rR4 rR5 rR6 rR7 rR8 rR9 rX0 rX1 rX2 rX3
  refine ⟨fun K hK0 => ?_, trivial⟩
  have hK := Lib.hid hK0
  clear hK0
  go_wp2_with fail
  with_reducible refine (due19_1 P b _ HB.out h1 ht1 hg).mono ?_
  rintro e w11 ⟨rfl, hb_w11⟩
  have K_w11 : Kept w.heap.size w (w6.heap.size + 1) [(w.heap.size, 0, .int .i64 b.n), (w.heap.size, 1, .int .u64 b.g), (w.heap.size, 2, .int .i64 b.s0), (w.heap.size, 3, .bool b.a0), (w.heap.size, 4, .bool b.h0), (w.heap.size, 5, .int .u64 b.t0), (w.heap.size, 6, .int .i64 b.s1), (w.heap.size, 7, .bool b.a1), (w.heap.size, 8, .bool b.h1), (w.heap.size, 9, .int .u64 b.t1), (w6.heap.size, 0, .int .i64 b.s1), (w6.heap.size, 1, .bool b.a1), (w6.heap.size, 2, .bool b.h1), (w6.heap.size, 3, .int .u64 b.t1)] w11 := (KH_w10.out.step (by omega) (by go_grown)).step (by omega) hb_w11
  replace HB := Lib.hid (HB.out.below hb_w11)
  clear hb_w11
  have KH_w11 := Lib.hid K_w11
  have hw_w11 := K_w11.below
  have hz_w11 := K_w11.size
  have lR_w11 : w.heap.size < w11.heap.size := by omega
  have lX_w11 : w6.heap.size < w11.heap.size := by omega
  clear lR_w10 lX_w10
  clear K_w11
  go_wp2_with fail
  first | (refine ⟨rfl, ⟨⟨_, KH_w11.out, HB.out⟩, rfl⟩, hK.out _ _ ?_⟩; clear hK K) | (refine ⟨⟨⟨_, KH_w11.out, HB.out⟩, rfl⟩, hK.out _ _ ?_⟩; clear hK K)
  refine ⟨fun K hK0 => ?_, trivial⟩
  have hK := Lib.hid hK0
  clear hK0
  go_wp2_with fail
  with_reducible refine (due27_1 b _ ht1 hg).mono ?_
  rintro e w12 ⟨rfl, hb_w12⟩
  have K_w12 : Kept w.heap.size w (w6.heap.size + 1) [(w.heap.size, 0, .int .i64 b.n), (w.heap.size, 1, .int .u64 b.g), (w.heap.size, 2, .int .i64 b.s0), (w.heap.size, 3, .bool b.a0), (w.heap.size, 4, .bool b.h0), (w.heap.size, 5, .int .u64 b.t0), (w.heap.size, 6, .int .i64 b.s1), (w.heap.size, 7, .bool b.a1), (w.heap.size, 8, .bool b.h1), (w.heap.size, 9, .int .u64 b.t1), (w6.heap.size, 0, .int .i64 b.s1), (w6.heap.size, 1, .bool b.a1), (w6.heap.size, 2, .bool b.h1), (w6.heap.size, 3, .int .u64 b.t1)] w12 := (KH_w11.out.step (by omega) (by go_grown)).step (by omega) hb_w12
  replace HB := Lib.hid (HB.out.below hb_w12)
  clear hb_w12
  have KH_w12 := Lib.hid K_w12
  have hw_w12 := K_w12.below
  have hz_w12 := K_w12.size
  have lR_w12 : w.heap.size < w12.heap.size := by omega
  have lX_w12 : w6.heap.size < w12.heap.size := by omega
  clear lR_w11 lX_w11
  clear K_w12
  go_wp2_with fail
  first | (refine ⟨rfl, hK.out _ _ ?_⟩; clear hK K) | (refine hK.out _ _ ?_; clear hK K)
  repeat (go_big_quiet_step (fail))
  refine wpQuiet_nil ?_
  clear _ne
  have cR0_w12 := KH_w12.out.at (b := w.heap.size) (o := 0) (v := .int .i64 b.n) (by simp)
  have fR0_w12 := KH_w12.out.free (b := w.heap.size) (o := 0) (v := .int .i64 b.n) (by simp)
  have cR1_w12 := KH_w12.out.at (b := w.heap.size) (o := 1) (v := .int .u64 b.g) (by simp)
  have fR1_w12 := KH_w12.out.free (b := w.heap.size) (o := 1) (v := .int .u64 b.g) (by simp)
  have cR2_w12 := KH_w12.out.at (b := w.heap.size) (o := 2) (v := .int .i64 b.s0) (by simp)
  have fR2_w12 := KH_w12.out.free (b := w.heap.size) (o := 2) (v := .int .i64 b.s0) (by simp)
  have cR3_w12 := KH_w12.out.at (b := w.heap.size) (o := 3) (v := .bool b.a0) (by simp)
  have fR3_w12 := KH_w12.out.free (b := w.heap.size) (o := 3) (v := .bool b.a0) (by simp)
  have cR4_w12 := KH_w12.out.at (b := w.heap.size) (o := 4) (v := .bool b.h0) (by simp)
  have fR4_w12 := KH_w12.out.free (b := w.heap.size) (o := 4) (v := .bool b.h0) (by simp)
  have cR5_w12 := KH_w12.out.at (b := w.heap.size) (o := 5) (v := .int .u64 b.t0) (by simp)
  have fR5_w12 := KH_w12.out.free (b := w.heap.size) (o := 5) (v := .int .u64 b.t0) (by simp)
  have cR6_w12 := KH_w12.out.at (b := w.heap.size) (o := 6) (v := .int .i64 b.s1) (by simp)
  have fR6_w12 := KH_w12.out.free (b := w.heap.size) (o := 6) (v := .int .i64 b.s1) (by simp)
  have cR7_w12 := KH_w12.out.at (b := w.heap.size) (o := 7) (v := .bool b.a1) (by simp)
  have fR7_w12 := KH_w12.out.free (b := w.heap.size) (o := 7) (v := .bool b.a1) (by simp)
  have cR8_w12 := KH_w12.out.at (b := w.heap.size) (o := 8) (v := .bool b.h1) (by simp)
  have fR8_w12 := KH_w12.out.free (b := w.heap.size) (o := 8) (v := .bool b.h1) (by simp)
  have cR9_w12 := KH_w12.out.at (b := w.heap.size) (o := 9) (v := .int .u64 b.t1) (by simp)
  have fR9_w12 := KH_w12.out.free (b := w.heap.size) (o := 9) (v := .int .u64 b.t1) (by simp)
  go_wp2_with fail
  rw [rounds_succ]
  go_wp2_with fail
  refine rg12_7 (w0 := w) (B := w.heap.size) (n := w12.heap.size) (L := [(w.heap.size, 0, .int .i64 b.n), (w.heap.size, 1, .int .u64 b.g), (w.heap.size, 2, .int .i64 b.s0), (w.heap.size, 3, .bool b.a0), (w.heap.size, 4, .bool b.h0), (w.heap.size, 5, .int .u64 b.t0), (w.heap.size, 6, .int .i64 b.s1), (w.heap.size, 7, .bool b.a1), (w.heap.size, 8, .bool b.h1), (w.heap.size, 9, .int .u64 b.t1)]) (E := fun W => BookAt W P b) (F := fun _ => True) (by kernel_rfl) (by kernel_rfl) ⟨by go_grown, by go_size, (by simp [go_sem, lR_w12, lX_w12, cR0_w12, fR0_w12, cR1_w12, fR1_w12, cR2_w12, fR2_w12, cR3_w12, fR3_w12, cR4_w12, fR4_w12, cR5_w12, fR5_w12, cR6_w12, fR6_w12, cR7_w12, fR7_w12, cR8_w12, fR8_w12, cR9_w12, fR9_w12] <;> omega)⟩ (HB.out.below (by go_grown)) (fun _ _ h hb => h.below hb) trivial (fun _ _ _ _ => trivial) (fun w13 K_w13 E_w13 F_w13 => ?_)
  have _ne : Nonempty (KX (w.heap.size) w (w12.heap.size) [(w.heap.size, 0, .int .i64 b.n), (w.heap.size, 1, .int .u64 b.g), (w.heap.size, 2, .int .i64 b.s0), (w.heap.size, 3, .bool b.a0), (w.heap.size, 4, .bool b.h0), (w.heap.size, 5, .int .u64 b.t0), (w.heap.size, 6, .int .i64 b.s1), (w.heap.size, 7, .bool b.a1), (w.heap.size, 8, .bool b.h1), (w.heap.size, 9, .int .u64 b.t1)] (fun W => BookAt W P b)) := ⟨⟨_, K_w13, E_w13⟩⟩
  repeat (go_big_quiet_step (fail))
  refine wpQuiet_nil ?_
  have rR0 : ∀ s : KX (w.heap.size) w (w12.heap.size) [(w.heap.size, 0, .int .i64 b.n), (w.heap.size, 1, .int .u64 b.g), (w.heap.size, 2, .int .i64 b.s0), (w.heap.size, 3, .bool b.a0), (w.heap.size, 4, .bool b.h0), (w.heap.size, 5, .int .u64 b.t0), (w.heap.size, 6, .int .i64 b.s1), (w.heap.size, 7, .bool b.a1), (w.heap.size, 8, .bool b.h1), (w.heap.size, 9, .int .u64 b.t1)] (fun W => BookAt W P b), s.val.cell? ⟨w.heap.size, 0, none⟩ = some (.int .i64 b.n) := fun s => s.kept.at (by simp)
  have rR1 : ∀ s : KX (w.heap.size) w (w12.heap.size) [(w.heap.size, 0, .int .i64 b.n), (w.heap.size, 1, .int .u64 b.g), (w.heap.size, 2, .int .i64 b.s0), (w.heap.size, 3, .bool b.a0), (w.heap.size, 4, .bool b.h0), (w.heap.size, 5, .int .u64 b.t0), (w.heap.size, 6, .int .i64 b.s1), (w.heap.size, 7, .bool b.a1), (w.heap.size, 8, .bool b.h1), (w.heap.size, 9, .int .u64 b.t1)] (fun W => BookAt W P b), s.val.cell? ⟨w.heap.size, 1, none⟩ = some (.int .u64 b.g) := fun s => s.kept.at (by simp)
  have rR2 : ∀ s : KX (w.heap.size) w (w12.heap.size) [(w.heap.size, 0, .int .i64 b.n), (w.heap.size, 1, .int .u64 b.g), (w.heap.size, 2, .int .i64 b.s0), (w.heap.size, 3, .bool b.a0), (w.heap.size, 4, .bool b.h0), (w.heap.size, 5, .int .u64 b.t0), (w.heap.size, 6, .int .i64 b.s1), (w.heap.size, 7, .bool b.a1), (w.heap.size, 8, .bool b.h1), (w.heap.size, 9, .int .u64 b.t1)] (fun W => BookAt W P b), s.val.cell? ⟨w.heap.size, 2, none⟩ = some (.int .i64 b.s0) := fun s => s.kept.at (by simp)
  have rR3 : ∀ s : KX (w.heap.size) w (w12.heap.size) [(w.heap.size, 0, .int .i64 b.n), (w.heap.size, 1, .int .u64 b.g), (w.heap.size, 2, .int .i64 b.s0), (w.heap.size, 3, .bool b.a0), (w.heap.size, 4, .bool b.h0), (w.heap.size, 5, .int .u64 b.t0), (w.heap.size, 6, .int .i64 b.s1), (w.heap.size, 7, .bool b.a1), (w.heap.size, 8, .bool b.h1), (w.heap.size, 9, .int .u64 b.t1)] (fun W => BookAt W P b), s.val.cell? ⟨w.heap.size, 3, none⟩ = some (.bool b.a0) := fun s => s.kept.at (by simp)
  have rR4 : ∀ s : KX (w.heap.size) w (w12.heap.size) [(w.heap.size, 0, .int .i64 b.n), (w.heap.size, 1, .int .u64 b.g), (w.heap.size, 2, .int .i64 b.s0), (w.heap.size, 3, .bool b.a0), (w.heap.size, 4, .bool b.h0), (w.heap.size, 5, .int .u64 b.t0), (w.heap.size, 6, .int .i64 b.s1), (w.heap.size, 7, .bool b.a1), (w.heap.size, 8, .bool b.h1), (w.heap.size, 9, .int .u64 b.t1)] (fun W => BookAt W P b), s.val.cell? ⟨w.heap.size, 4, none⟩ = some (.bool b.h0) := fun s => s.kept.at (by simp)
  have rR5 : ∀ s : KX (w.heap.size) w (w12.heap.size) [(w.heap.size, 0, .int .i64 b.n), (w.heap.size, 1, .int .u64 b.g), (w.heap.size, 2, .int .i64 b.s0), (w.heap.size, 3, .bool b.a0), (w.heap.size, 4, .bool b.h0), (w.heap.size, 5, .int .u64 b.t0), (w.heap.size, 6, .int .i64 b.s1), (w.heap.size, 7, .bool b.a1), (w.heap.size, 8, .bool b.h1), (w.heap.size, 9, .int .u64 b.t1)] (fun W => BookAt W P b), s.val.cell? ⟨w.heap.size, 5, none⟩ = some (.int .u64 b.t0) := fun s => s.kept.at (by simp)
  have rR6 : ∀ s : KX (w.heap.size) w (w12.heap.size) [(w.heap.size, 0, .int .i64 b.n), (w.heap.size, 1, .int .u64 b.g), (w.heap.size, 2, .int .i64 b.s0), (w.heap.size, 3, .bool b.a0), (w.heap.size, 4, .bool b.h0), (w.heap.size, 5, .int .u64 b.t0), (w.heap.size, 6, .int .i64 b.s1), (w.heap.size, 7, .bool b.a1), (w.heap.size, 8, .bool b.h1), (w.heap.size, 9, .int .u64 b.t1)] (fun W => BookAt W P b), s.val.cell? ⟨w.heap.size, 6, none⟩ = some (.int .i64 b.s1) := fun s => s.kept.at (by simp)
  have rR7 : ∀ s : KX (w.heap.size) w (w12.heap.size) [(w.heap.size, 0, .int .i64 b.n), (w.heap.size, 1, .int .u64 b.g), (w.heap.size, 2, .int .i64 b.s0), (w.heap.size, 3, .bool b.a0), (w.heap.size, 4, .bool b.h0), (w.heap.size, 5, .int .u64 b.t0), (w.heap.size, 6, .int .i64 b.s1), (w.heap.size, 7, .bool b.a1), (w.heap.size, 8, .bool b.h1), (w.heap.size, 9, .int .u64 b.t1)] (fun W => BookAt W P b), s.val.cell? ⟨w.heap.size, 7, none⟩ = some (.bool b.a1) := fun s => s.kept.at (by simp)
  have rR8 : ∀ s : KX (w.heap.size) w (w12.heap.size) [(w.heap.size, 0, .int .i64 b.n), (w.heap.size, 1, .int .u64 b.g), (w.heap.size, 2, .int .i64 b.s0), (w.heap.size, 3, .bool b.a0), (w.heap.size, 4, .bool b.h0), (w.heap.size, 5, .int .u64 b.t0), (w.heap.size, 6, .int .i64 b.s1), (w.heap.size, 7, .bool b.a1), (w.heap.size, 8, .bool b.h1), (w.heap.size, 9, .int .u64 b.t1)] (fun W => BookAt W P b), s.val.cell? ⟨w.heap.size, 8, none⟩ = some (.bool b.h1) := fun s => s.kept.at (by simp)
  have rR9 : ∀ s : KX (w.heap.size) w (w12.heap.size) [(w.heap.size, 0, .int .i64 b.n), (w.heap.size, 1, .int .u64 b.g), (w.heap.size, 2, .int .i64 b.s0), (w.heap.size, 3, .bool b.a0), (w.heap.size, 4, .bool b.h0), (w.heap.size, 5, .int .u64 b.t0), (w.heap.size, 6, .int .i64 b.s1), (w.heap.size, 7, .bool b.a1), (w.heap.size, 8, .bool b.h1), (w.heap.size, 9, .int .u64 b.t1)] (fun W => BookAt W P b), s.val.cell? ⟨w.heap.size, 9, none⟩ = some (.int .u64 b.t1) := fun s => s.kept.at (by simp)
  repeat (go_big_quiet_step (fail))
  refine wpQuiet_nil ?_
  clear rR0 rR1 rR2 rR3 rR4 rR5 rR6 rR7 rR8 rR9
  have KH_w13 := Lib.hid K_w13
  have hw_w13 := K_w13.below
  have hz_w13 := K_w13.size
  have lR_w13 : w.heap.size < w13.heap.size := by omega
  clear lR_w12 lX_w12 cR0_w12 fR0_w12 cR1_w12 fR1_w12 cR2_w12 fR2_w12 cR3_w12 fR3_w12 cR4_w12 fR4_w12 cR5_w12 fR5_w12 cR6_w12 fR6_w12 cR7_w12 fR7_w12 cR8_w12 fR8_w12 cR9_w12 fR9_w12
  clear K_w13
  have HB := Lib.hid E_w13
  clear E_w13 F_w13
  refine ⟨fun K hK0 => ?_, trivial⟩
  have hK := Lib.hid hK0
  clear hK0
  go_wp2_with fail
  with_reducible refine (due27_0 b _ ht0 hg).mono ?_
  rintro e w14 ⟨rfl, hb_w14⟩
  have K_w14 : Kept w.heap.size w (w12.heap.size) [(w.heap.size, 0, .int .i64 b.n), (w.heap.size, 1, .int .u64 b.g), (w.heap.size, 2, .int .i64 b.s0), (w.heap.size, 3, .bool b.a0), (w.heap.size, 4, .bool b.h0), (w.heap.size, 5, .int .u64 b.t0), (w.heap.size, 6, .int .i64 b.s1), (w.heap.size, 7, .bool b.a1), (w.heap.size, 8, .bool b.h1), (w.heap.size, 9, .int .u64 b.t1)] w14 := (KH_w13.out.step (by omega) (by go_grown)).step (by omega) hb_w14
  replace HB := Lib.hid (HB.out.below hb_w14)
  clear hb_w14
  have KH_w14 := Lib.hid K_w14
  have hw_w14 := K_w14.below
  have hz_w14 := K_w14.size
  have lR_w14 : w.heap.size < w14.heap.size := by omega
  clear lR_w13
  clear K_w14
  go_wp2_with fail
  first | (refine ⟨rfl, ⟨⟨_, KH_w14.out, HB.out⟩, rfl⟩, hK.out _ _ ?_⟩; clear hK K) | (refine ⟨⟨⟨_, KH_w14.out, HB.out⟩, rfl⟩, hK.out _ _ ?_⟩; clear hK K)
  refine ⟨fun K hK0 => ?_, trivial⟩
  have hK := Lib.hid hK0
  clear hK0
  go_wp2_with fail
  with_reducible refine (due27_1 b _ ht1 hg).mono ?_
  rintro e w15 ⟨rfl, hb_w15⟩
  have K_w15 : Kept w.heap.size w (w12.heap.size) [(w.heap.size, 0, .int .i64 b.n), (w.heap.size, 1, .int .u64 b.g), (w.heap.size, 2, .int .i64 b.s0), (w.heap.size, 3, .bool b.a0), (w.heap.size, 4, .bool b.h0), (w.heap.size, 5, .int .u64 b.t0), (w.heap.size, 6, .int .i64 b.s1), (w.heap.size, 7, .bool b.a1), (w.heap.size, 8, .bool b.h1), (w.heap.size, 9, .int .u64 b.t1)] w15 := (KH_w14.out.step (by omega) (by go_grown)).step (by omega) hb_w15
  replace HB := Lib.hid (HB.out.below hb_w15)
  clear hb_w15
  have KH_w15 := Lib.hid K_w15
  have hw_w15 := K_w15.below
  have hz_w15 := K_w15.size
  have lR_w15 : w.heap.size < w15.heap.size := by omega
  clear lR_w14
  clear K_w15
  go_wp2_with fail
  first | (refine ⟨rfl, hK.out _ _ ?_⟩; clear hK K) | (refine hK.out _ _ ?_; clear hK K)
  refine ⟨fun K hK0 => ?_, trivial⟩
  have hK := Lib.hid hK0
  clear hK0
  go_wp2_with fail
  first | (refine ⟨rfl, hK.out _ _ ?_⟩; clear hK K) | (refine hK.out _ _ ?_; clear hK K)
  repeat (go_big_quiet_step (fail))
  refine wpQuiet_nil ?_
  clear _ne
  have cR0_w15 := KH_w15.out.at (b := w.heap.size) (o := 0) (v := .int .i64 b.n) (by simp)
  have fR0_w15 := KH_w15.out.free (b := w.heap.size) (o := 0) (v := .int .i64 b.n) (by simp)
  have cR1_w15 := KH_w15.out.at (b := w.heap.size) (o := 1) (v := .int .u64 b.g) (by simp)
  have fR1_w15 := KH_w15.out.free (b := w.heap.size) (o := 1) (v := .int .u64 b.g) (by simp)
  have cR2_w15 := KH_w15.out.at (b := w.heap.size) (o := 2) (v := .int .i64 b.s0) (by simp)
  have fR2_w15 := KH_w15.out.free (b := w.heap.size) (o := 2) (v := .int .i64 b.s0) (by simp)
  have cR3_w15 := KH_w15.out.at (b := w.heap.size) (o := 3) (v := .bool b.a0) (by simp)
  have fR3_w15 := KH_w15.out.free (b := w.heap.size) (o := 3) (v := .bool b.a0) (by simp)
  have cR4_w15 := KH_w15.out.at (b := w.heap.size) (o := 4) (v := .bool b.h0) (by simp)
  have fR4_w15 := KH_w15.out.free (b := w.heap.size) (o := 4) (v := .bool b.h0) (by simp)
  have cR5_w15 := KH_w15.out.at (b := w.heap.size) (o := 5) (v := .int .u64 b.t0) (by simp)
  have fR5_w15 := KH_w15.out.free (b := w.heap.size) (o := 5) (v := .int .u64 b.t0) (by simp)
  have cR6_w15 := KH_w15.out.at (b := w.heap.size) (o := 6) (v := .int .i64 b.s1) (by simp)
  have fR6_w15 := KH_w15.out.free (b := w.heap.size) (o := 6) (v := .int .i64 b.s1) (by simp)
  have cR7_w15 := KH_w15.out.at (b := w.heap.size) (o := 7) (v := .bool b.a1) (by simp)
  have fR7_w15 := KH_w15.out.free (b := w.heap.size) (o := 7) (v := .bool b.a1) (by simp)
  have cR8_w15 := KH_w15.out.at (b := w.heap.size) (o := 8) (v := .bool b.h1) (by simp)
  have fR8_w15 := KH_w15.out.free (b := w.heap.size) (o := 8) (v := .bool b.h1) (by simp)
  have cR9_w15 := KH_w15.out.at (b := w.heap.size) (o := 9) (v := .int .u64 b.t1) (by simp)
  have fR9_w15 := KH_w15.out.free (b := w.heap.size) (o := 9) (v := .int .u64 b.t1) (by simp)
  go_wp2_with fail
  refine wp_loop_rounds 6 ?_
  rw [rounds_succ]
  go_wp2_with fail
  refine rg12_10 (w0 := w) (B := w.heap.size) (n := w15.heap.size + 1) (L := [(w.heap.size, 0, .int .i64 b.n), (w.heap.size, 1, .int .u64 b.g), (w.heap.size, 2, .int .i64 b.s0), (w.heap.size, 3, .bool b.a0), (w.heap.size, 4, .bool b.h0), (w.heap.size, 5, .int .u64 b.t0), (w.heap.size, 6, .int .i64 b.s1), (w.heap.size, 7, .bool b.a1), (w.heap.size, 8, .bool b.h1), (w.heap.size, 9, .int .u64 b.t1), (w15.heap.size, 0, .int .u64 0), (w15.heap.size, 1, .int .u64 t), (w15.heap.size, 2, .int .u64 b.d0), (w15.heap.size, 3, .int .u64 b.d1), (w15.heap.size, 4, .int .u64 18446744073709551615)]) (E := fun W => BookAt W P b) (F := fun _ => True) (by kernel_rfl) (by kernel_rfl) ⟨by go_grown, by go_size, (by simp [go_sem, lR_w15, cR0_w15, fR0_w15, cR1_w15, fR1_w15, cR2_w15, fR2_w15, cR3_w15, fR3_w15, cR4_w15, fR4_w15, cR5_w15, fR5_w15, cR6_w15, fR6_w15, cR7_w15, fR7_w15, cR8_w15, fR8_w15, cR9_w15, fR9_w15] <;> omega)⟩ (HB.out.below (by go_grown)) (fun _ _ h hb => h.below hb) trivial (fun _ _ _ _ => trivial) (fun w16 K_w16 E_w16 F_w16 => ?_)
  have _ne : Nonempty (KX (w.heap.size) w (w15.heap.size + 1) [(w.heap.size, 0, .int .i64 b.n), (w.heap.size, 1, .int .u64 b.g), (w.heap.size, 2, .int .i64 b.s0), (w.heap.size, 3, .bool b.a0), (w.heap.size, 4, .bool b.h0), (w.heap.size, 5, .int .u64 b.t0), (w.heap.size, 6, .int .i64 b.s1), (w.heap.size, 7, .bool b.a1), (w.heap.size, 8, .bool b.h1), (w.heap.size, 9, .int .u64 b.t1), (w15.heap.size, 0, .int .u64 0), (w15.heap.size, 1, .int .u64 t), (w15.heap.size, 2, .int .u64 b.d0), (w15.heap.size, 3, .int .u64 b.d1), (w15.heap.size, 4, .int .u64 18446744073709551615)] (fun W => BookAt W P b)) := ⟨⟨_, K_w16, E_w16⟩⟩
  repeat (go_big_quiet_step (fail))
  refine wpQuiet_nil ?_
  have rR0 : ∀ s : KX (w.heap.size) w (w15.heap.size + 1) [(w.heap.size, 0, .int .i64 b.n), (w.heap.size, 1, .int .u64 b.g), (w.heap.size, 2, .int .i64 b.s0), (w.heap.size, 3, .bool b.a0), (w.heap.size, 4, .bool b.h0), (w.heap.size, 5, .int .u64 b.t0), (w.heap.size, 6, .int .i64 b.s1), (w.heap.size, 7, .bool b.a1), (w.heap.size, 8, .bool b.h1), (w.heap.size, 9, .int .u64 b.t1), (w15.heap.size, 0, .int .u64 0), (w15.heap.size, 1, .int .u64 t), (w15.heap.size, 2, .int .u64 b.d0), (w15.heap.size, 3, .int .u64 b.d1), (w15.heap.size, 4, .int .u64 18446744073709551615)] (fun W => BookAt W P b), s.val.cell? ⟨w.heap.size, 0, none⟩ = some (.int .i64 b.n) := fun s => s.kept.at (by simp)
  have rR1 : ∀ s : KX (w.heap.size) w (w15.heap.size + 1) [(w.heap.size, 0, .int .i64 b.n), (w.heap.size, 1, .int .u64 b.g), (w.heap.size, 2, .int .i64 b.s0), (w.heap.size, 3, .bool b.a0), (w.heap.size, 4, .bool b.h0), (w.heap.size, 5, .int .u64 b.t0), (w.heap.size, 6, .int .i64 b.s1), (w.heap.size, 7, .bool b.a1), (w.heap.size, 8, .bool b.h1), (w.heap.size, 9, .int .u64 b.t1), (w15.heap.size, 0, .int .u64 0), (w15.heap.size, 1, .int .u64 t), (w15.heap.size, 2, .int .u64 b.d0), (w15.heap.size, 3, .int .u64 b.d1), (w15.heap.size, 4, .int .u64 18446744073709551615)] (fun W => BookAt W P b), s.val.cell? ⟨w.heap.size, 1, none⟩ = some (.int .u64 b.g) := fun s => s.kept.at (by simp)
  have rR2 : ∀ s : KX (w.heap.size) w (w15.heap.size + 1) [(w.heap.size, 0, .int .i64 b.n), (w.heap.size, 1, .int .u64 b.g), (w.heap.size, 2, .int .i64 b.s0), (w.heap.size, 3, .bool b.a0), (w.heap.size, 4, .bool b.h0), (w.heap.size, 5, .int .u64 b.t0), (w.heap.size, 6, .int .i64 b.s1), (w.heap.size, 7, .bool b.a1), (w.heap.size, 8, .bool b.h1), (w.heap.size, 9, .int .u64 b.t1), (w15.heap.size, 0, .int .u64 0), (w15.heap.size, 1, .int .u64 t), (w15.heap.size, 2, .int .u64 b.d0), (w15.heap.size, 3, .int .u64 b.d1), (w15.heap.size, 4, .int .u64 18446744073709551615)] (fun W => BookAt W P b), s.val.cell? ⟨w.heap.size, 2, none⟩ = some (.int .i64 b.s0) := fun s => s.kept.at (by simp)
  have rR3 : ∀ s : KX (w.heap.size) w (w15.heap.size + 1) [(w.heap.size, 0, .int .i64 b.n), (w.heap.size, 1, .int .u64 b.g), (w.heap.size, 2, .int .i64 b.s0), (w.heap.size, 3, .bool b.a0), (w.heap.size, 4, .bool b.h0), (w.heap.size, 5, .int .u64 b.t0), (w.heap.size, 6, .int .i64 b.s1), (w.heap.size, 7, .bool b.a1), (w.heap.size, 8, .bool b.h1), (w.heap.size, 9, .int .u64 b.t1), (w15.heap.size, 0, .int .u64 0), (w15.heap.size, 1, .int .u64 t), (w15.heap.size, 2, .int .u64 b.d0), (w15.heap.size, 3, .int .u64 b.d1), (w15.heap.size, 4, .int .u64 18446744073709551615)] (fun W => BookAt W P b), s.val.cell? ⟨w.heap.size, 3, none⟩ = some (.bool b.a0) := fun s => s.kept.at (by simp)
  have rR4 : ∀ s : KX (w.heap.size) w (w15.heap.size + 1) [(w.heap.size, 0, .int .i64 b.n), (w.heap.size, 1, .int .u64 b.g), (w.heap.size, 2, .int .i64 b.s0), (w.heap.size, 3, .bool b.a0), (w.heap.size, 4, .bool b.h0), (w.heap.size, 5, .int .u64 b.t0), (w.heap.size, 6, .int .i64 b.s1), (w.heap.size, 7, .bool b.a1), (w.heap.size, 8, .bool b.h1), (w.heap.size, 9, .int .u64 b.t1), (w15.heap.size, 0, .int .u64 0), (w15.heap.size, 1, .int .u64 t), (w15.heap.size, 2, .int .u64 b.d0), (w15.heap.size, 3, .int .u64 b.d1), (w15.heap.size, 4, .int .u64 18446744073709551615)] (fun W => BookAt W P b), s.val.cell? ⟨w.heap.size, 4, none⟩ = some (.bool b.h0) := fun s => s.kept.at (by simp)
  have rR5 : ∀ s : KX (w.heap.size) w (w15.heap.size + 1) [(w.heap.size, 0, .int .i64 b.n), (w.heap.size, 1, .int .u64 b.g), (w.heap.size, 2, .int .i64 b.s0), (w.heap.size, 3, .bool b.a0), (w.heap.size, 4, .bool b.h0), (w.heap.size, 5, .int .u64 b.t0), (w.heap.size, 6, .int .i64 b.s1), (w.heap.size, 7, .bool b.a1), (w.heap.size, 8, .bool b.h1), (w.heap.size, 9, .int .u64 b.t1), (w15.heap.size, 0, .int .u64 0), (w15.heap.size, 1, .int .u64 t), (w15.heap.size, 2, .int .u64 b.d0), (w15.heap.size, 3, .int .u64 b.d1), (w15.heap.size, 4, .int .u64 18446744073709551615)] (fun W => BookAt W P b), s.val.cell? ⟨w.heap.size, 5, none⟩ = some (.int .u64 b.t0) := fun s => s.kept.at (by simp)
  have rR6 : ∀ s : KX (w.heap.size) w (w15.heap.size + 1) [(w.heap.size, 0, .int .i64 b.n), (w.heap.size, 1, .int .u64 b.g), (w.heap.size, 2, .int .i64 b.s0), (w.heap.size, 3, .bool b.a0), (w.heap.size, 4, .bool b.h0), (w.heap.size, 5, .int .u64 b.t0), (w.heap.size, 6, .int .i64 b.s1), (w.heap.size, 7, .bool b.a1), (w.heap.size, 8, .bool b.h1), (w.heap.size, 9, .int .u64 b.t1), (w15.heap.size, 0, .int .u64 0), (w15.heap.size, 1, .int .u64 t), (w15.heap.size, 2, .int .u64 b.d0), (w15.heap.size, 3, .int .u64 b.d1), (w15.heap.size, 4, .int .u64 18446744073709551615)] (fun W => BookAt W P b), s.val.cell? ⟨w.heap.size, 6, none⟩ = some (.int .i64 b.s1) := fun s => s.kept.at (by simp)
  have rR7 : ∀ s : KX (w.heap.size) w (w15.heap.size + 1) [(w.heap.size, 0, .int .i64 b.n), (w.heap.size, 1, .int .u64 b.g), (w.heap.size, 2, .int .i64 b.s0), (w.heap.size, 3, .bool b.a0), (w.heap.size, 4, .bool b.h0), (w.heap.size, 5, .int .u64 b.t0), (w.heap.size, 6, .int .i64 b.s1), (w.heap.size, 7, .bool b.a1), (w.heap.size, 8, .bool b.h1), (w.heap.size, 9, .int .u64 b.t1), (w15.heap.size, 0, .int .u64 0), (w15.heap.size, 1, .int .u64 t), (w15.heap.size, 2, .int .u64 b.d0), (w15.heap.size, 3, .int .u64 b.d1), (w15.heap.size, 4, .int .u64 18446744073709551615)] (fun W => BookAt W P b), s.val.cell? ⟨w.heap.size, 7, none⟩ = some (.bool b.a1) := fun s => s.kept.at (by simp)
  have rR8 : ∀ s : KX (w.heap.size) w (w15.heap.size + 1) [(w.heap.size, 0, .int .i64 b.n), (w.heap.size, 1, .int .u64 b.g), (w.heap.size, 2, .int .i64 b.s0), (w.heap.size, 3, .bool b.a0), (w.heap.size, 4, .bool b.h0), (w.heap.size, 5, .int .u64 b.t0), (w.heap.size, 6, .int .i64 b.s1), (w.heap.size, 7, .bool b.a1), (w.heap.size, 8, .bool b.h1), (w.heap.size, 9, .int .u64 b.t1), (w15.heap.size, 0, .int .u64 0), (w15.heap.size, 1, .int .u64 t), (w15.heap.size, 2, .int .u64 b.d0), (w15.heap.size, 3, .int .u64 b.d1), (w15.heap.size, 4, .int .u64 18446744073709551615)] (fun W => BookAt W P b), s.val.cell? ⟨w.heap.size, 8, none⟩ = some (.bool b.h1) := fun s => s.kept.at (by simp)
  have rR9 : ∀ s : KX (w.heap.size) w (w15.heap.size + 1) [(w.heap.size, 0, .int .i64 b.n), (w.heap.size, 1, .int .u64 b.g), (w.heap.size, 2, .int .i64 b.s0), (w.heap.size, 3, .bool b.a0), (w.heap.size, 4, .bool b.h0), (w.heap.size, 5, .int .u64 b.t0), (w.heap.size, 6, .int .i64 b.s1), (w.heap.size, 7, .bool b.a1), (w.heap.size, 8, .bool b.h1), (w.heap.size, 9, .int .u64 b.t1), (w15.heap.size, 0, .int .u64 0), (w15.heap.size, 1, .int .u64 t), (w15.heap.size, 2, .int .u64 b.d0), (w15.heap.size, 3, .int .u64 b.d1), (w15.heap.size, 4, .int .u64 18446744073709551615)] (fun W => BookAt W P b), s.val.cell? ⟨w.heap.size, 9, none⟩ = some (.int .u64 b.t1) := fun s => s.kept.at (by simp)
  have rS0 : ∀ s : KX (w.heap.size) w (w15.heap.size + 1) [(w.heap.size, 0, .int .i64 b.n), (w.heap.size, 1, .int .u64 b.g), (w.heap.size, 2, .int .i64 b.s0), (w.heap.size, 3, .bool b.a0), (w.heap.size, 4, .bool b.h0), (w.heap.size, 5, .int .u64 b.t0), (w.heap.size, 6, .int .i64 b.s1), (w.heap.size, 7, .bool b.a1), (w.heap.size, 8, .bool b.h1), (w.heap.size, 9, .int .u64 b.t1), (w15.heap.size, 0, .int .u64 0), (w15.heap.size, 1, .int .u64 t), (w15.heap.size, 2, .int .u64 b.d0), (w15.heap.size, 3, .int .u64 b.d1), (w15.heap.size, 4, .int .u64 18446744073709551615)] (fun W => BookAt W P b), s.val.cell? ⟨w15.heap.size, 0, none⟩ = some (.int .u64 0) := fun s => s.kept.at (by simp)
  have rS1 : ∀ s : KX (w.heap.size) w (w15.heap.size + 1) [(w.heap.size, 0, .int .i64 b.n), (w.heap.size, 1, .int .u64 b.g), (w.heap.size, 2, .int .i64 b.s0), (w.heap.size, 3, .bool b.a0), (w.heap.size, 4, .bool b.h0), (w.heap.size, 5, .int .u64 b.t0), (w.heap.size, 6, .int .i64 b.s1), (w.heap.size, 7, .bool b.a1), (w.heap.size, 8, .bool b.h1), (w.heap.size, 9, .int .u64 b.t1), (w15.heap.size, 0, .int .u64 0), (w15.heap.size, 1, .int .u64 t), (w15.heap.size, 2, .int .u64 b.d0), (w15.heap.size, 3, .int .u64 b.d1), (w15.heap.size, 4, .int .u64 18446744073709551615)] (fun W => BookAt W P b), s.val.cell? ⟨w15.heap.size, 1, none⟩ = some (.int .u64 t) := fun s => s.kept.at (by simp)
  have rS2 : ∀ s : KX (w.heap.size) w (w15.heap.size + 1) [(w.heap.size, 0, .int .i64 b.n), (w.heap.size, 1, .int .u64 b.g), (w.heap.size, 2, .int .i64 b.s0), (w.heap.size, 3, .bool b.a0), (w.heap.size, 4, .bool b.h0), (w.heap.size, 5, .int .u64 b.t0), (w.heap.size, 6, .int .i64 b.s1), (w.heap.size, 7, .bool b.a1), (w.heap.size, 8, .bool b.h1), (w.heap.size, 9, .int .u64 b.t1), (w15.heap.size, 0, .int .u64 0), (w15.heap.size, 1, .int .u64 t), (w15.heap.size, 2, .int .u64 b.d0), (w15.heap.size, 3, .int .u64 b.d1), (w15.heap.size, 4, .int .u64 18446744073709551615)] (fun W => BookAt W P b), s.val.cell? ⟨w15.heap.size, 2, none⟩ = some (.int .u64 b.d0) := fun s => s.kept.at (by simp)
  have rS3 : ∀ s : KX (w.heap.size) w (w15.heap.size + 1) [(w.heap.size, 0, .int .i64 b.n), (w.heap.size, 1, .int .u64 b.g), (w.heap.size, 2, .int .i64 b.s0), (w.heap.size, 3, .bool b.a0), (w.heap.size, 4, .bool b.h0), (w.heap.size, 5, .int .u64 b.t0), (w.heap.size, 6, .int .i64 b.s1), (w.heap.size, 7, .bool b.a1), (w.heap.size, 8, .bool b.h1), (w.heap.size, 9, .int .u64 b.t1), (w15.heap.size, 0, .int .u64 0), (w15.heap.size, 1, .int .u64 t), (w15.heap.size, 2, .int .u64 b.d0), (w15.heap.size, 3, .int .u64 b.d1), (w15.heap.size, 4, .int .u64 18446744073709551615)] (fun W => BookAt W P b), s.val.cell? ⟨w15.heap.size, 3, none⟩ = some (.int .u64 b.d1) := fun s => s.kept.at (by simp)
  have rS4 : ∀ s : KX (w.heap.size) w (w15.heap.size + 1) [(w.heap.size, 0, .int .i64 b.n), (w.heap.size, 1, .int .u64 b.g), (w.heap.size, 2, .int .i64 b.s0), (w.heap.size, 3, .bool b.a0), (w.heap.size, 4, .bool b.h0), (w.heap.size, 5, .int .u64 b.t0), (w.heap.size, 6, .int .i64 b.s1), (w.heap.size, 7, .bool b.a1), (w.heap.size, 8, .bool b.h1), (w.heap.size, 9, .int .u64 b.t1), (w15.heap.size, 0, .int .u64 0), (w15.heap.size, 1, .int .u64 t), (w15.heap.size, 2, .int .u64 b.d0), (w15.heap.size, 3, .int .u64 b.d1), (w15.heap.size, 4, .int .u64 18446744073709551615)] (fun W => BookAt W P b), s.val.cell? ⟨w15.heap.size, 4, none⟩ = some (.int .u64 18446744073709551615) := fun s => s.kept.at (by simp)
  repeat (go_big_quiet_step (fail))
  refine wpQuiet_nil ?_
  clear rR0 rR1 rR2 rR3 rR4 rR5 rR6 rR7 rR8 rR9 rS0 rS1 rS2 rS3 rS4
  have KH_w16 := Lib.hid K_w16
  have hw_w16 := K_w16.below
  have hz_w16 := K_w16.size
  have lR_w16 : w.heap.size < w16.heap.size := by omega
  have lS_w16 : w15.heap.size < w16.heap.size := by omega
  clear lR_w15 cR0_w15 fR0_w15 cR1_w15 fR1_w15 cR2_w15 fR2_w15 cR3_w15 fR3_w15 cR4_w15 fR4_w15 cR5_w15 fR5_w15 cR6_w15 fR6_w15 cR7_w15 fR7_w15 cR8_w15 fR8_w15 cR9_w15 fR9_w15
  clear K_w16
  have HB := Lib.hid E_w16
  clear E_w16 F_w16
  refine ⟨fun K hK0 => ?_, trivial⟩
  have hK := Lib.hid hK0
  clear hK0
  go_wp2_with fail
  with_reducible refine (lost15 P b 0 _ HB.out ok).mono ?_
  rintro e w17 ⟨rfl, hb_w17⟩
  have K_w17 : Kept w.heap.size w (w15.heap.size + 1) [(w.heap.size, 0, .int .i64 b.n), (w.heap.size, 1, .int .u64 b.g), (w.heap.size, 2, .int .i64 b.s0), (w.heap.size, 3, .bool b.a0), (w.heap.size, 4, .bool b.h0), (w.heap.size, 5, .int .u64 b.t0), (w.heap.size, 6, .int .i64 b.s1), (w.heap.size, 7, .bool b.a1), (w.heap.size, 8, .bool b.h1), (w.heap.size, 9, .int .u64 b.t1), (w15.heap.size, 0, .int .u64 0), (w15.heap.size, 1, .int .u64 t), (w15.heap.size, 2, .int .u64 b.d0), (w15.heap.size, 3, .int .u64 b.d1), (w15.heap.size, 4, .int .u64 18446744073709551615)] w17 := (KH_w16.out.step (by omega) (by go_grown)).step (by omega) hb_w17
  replace HB := Lib.hid (HB.out.below hb_w17)
  clear hb_w17
  have KH_w17 := Lib.hid K_w17
  have hw_w17 := K_w17.below
  have hz_w17 := K_w17.size
  have lR_w17 : w.heap.size < w17.heap.size := by omega
  have lS_w17 : w15.heap.size < w17.heap.size := by omega
  clear lR_w16 lS_w16
  clear K_w17
  go_wp2_with fail
  first | (refine ⟨rfl, ⟨⟨_, KH_w17.out, HB.out⟩, rfl⟩, hK.out _ _ ?_⟩; clear hK K) | (refine ⟨⟨⟨_, KH_w17.out, HB.out⟩, rfl⟩, hK.out _ _ ?_⟩; clear hK K)
  refine ⟨fun K hK0 => ?_, trivial⟩
  have hK := Lib.hid hK0
  clear hK0
  go_wp2_with fail
  with_reducible refine (lost28 b 0 _ ht0 ht1 hg).mono ?_
  rintro e w18 ⟨rfl, hb_w18⟩
  have K_w18 : Kept w.heap.size w (w15.heap.size + 1) [(w.heap.size, 0, .int .i64 b.n), (w.heap.size, 1, .int .u64 b.g), (w.heap.size, 2, .int .i64 b.s0), (w.heap.size, 3, .bool b.a0), (w.heap.size, 4, .bool b.h0), (w.heap.size, 5, .int .u64 b.t0), (w.heap.size, 6, .int .i64 b.s1), (w.heap.size, 7, .bool b.a1), (w.heap.size, 8, .bool b.h1), (w.heap.size, 9, .int .u64 b.t1), (w15.heap.size, 0, .int .u64 0), (w15.heap.size, 1, .int .u64 t), (w15.heap.size, 2, .int .u64 b.d0), (w15.heap.size, 3, .int .u64 b.d1), (w15.heap.size, 4, .int .u64 18446744073709551615)] w18 := (KH_w17.out.step (by omega) (by go_grown)).step (by omega) hb_w18
  replace HB := Lib.hid (HB.out.below hb_w18)
  clear hb_w18
  have KH_w18 := Lib.hid K_w18
  have hw_w18 := K_w18.below
  have hz_w18 := K_w18.size
  have lR_w18 : w.heap.size < w18.heap.size := by omega
  have lS_w18 : w15.heap.size < w18.heap.size := by omega
  clear lR_w17 lS_w17
  clear K_w18
  go_wp2_with fail
  first | (refine ⟨rfl, hK.out _ _ ?_⟩; clear hK K) | (refine hK.out _ _ ?_; clear hK K)
  repeat (go_big_quiet_step (fail))
  refine wpQuiet_nil ?_
  clear _ne
  have cS0_w18 := KH_w18.out.at (b := w15.heap.size) (o := 0) (v := .int .u64 0) (by simp)
  have fS0_w18 := KH_w18.out.free (b := w15.heap.size) (o := 0) (v := .int .u64 0) (by simp)
  have cS1_w18 := KH_w18.out.at (b := w15.heap.size) (o := 1) (v := .int .u64 t) (by simp)
  have fS1_w18 := KH_w18.out.free (b := w15.heap.size) (o := 1) (v := .int .u64 t) (by simp)
  have cS2_w18 := KH_w18.out.at (b := w15.heap.size) (o := 2) (v := .int .u64 b.d0) (by simp)
  have fS2_w18 := KH_w18.out.free (b := w15.heap.size) (o := 2) (v := .int .u64 b.d0) (by simp)
  have cS3_w18 := KH_w18.out.at (b := w15.heap.size) (o := 3) (v := .int .u64 b.d1) (by simp)
  have fS3_w18 := KH_w18.out.free (b := w15.heap.size) (o := 3) (v := .int .u64 b.d1) (by simp)
  have cS4_w18 := KH_w18.out.at (b := w15.heap.size) (o := 4) (v := .int .u64 18446744073709551615) (by simp)
  have fS4_w18 := KH_w18.out.free (b := w15.heap.size) (o := 4) (v := .int .u64 18446744073709551615) (by simp)
  go_wp2_with fail
  rw [rounds_succ]
  go_wp2_with fail
  refine rg12_10 (w0 := w) (B := w.heap.size) (n := w15.heap.size + 1) (L := [(w.heap.size, 0, .int .i64 b.n), (w.heap.size, 1, .int .u64 b.g), (w.heap.size, 2, .int .i64 b.s0), (w.heap.size, 3, .bool b.a0), (w.heap.size, 4, .bool b.h0), (w.heap.size, 5, .int .u64 b.t0), (w.heap.size, 6, .int .i64 b.s1), (w.heap.size, 7, .bool b.a1), (w.heap.size, 8, .bool b.h1), (w.heap.size, 9, .int .u64 b.t1), (w15.heap.size, 0, .int .u64 0), (w15.heap.size, 1, .int .u64 t), (w15.heap.size, 2, .int .u64 b.d0), (w15.heap.size, 3, .int .u64 b.d1), (w15.heap.size, 4, .int .u64 18446744073709551615)]) (E := fun W => BookAt W P b) (F := fun _ => True) (by kernel_rfl) (by kernel_rfl) (KH_w18.out.step (by omega) (by go_grown)) (HB.out.below (by go_grown)) (fun _ _ h hb => h.below hb) trivial (fun _ _ _ _ => trivial) (fun w19 K_w19 E_w19 F_w19 => ?_)
  have _ne : Nonempty (KX (w.heap.size) w (w15.heap.size + 1) [(w.heap.size, 0, .int .i64 b.n), (w.heap.size, 1, .int .u64 b.g), (w.heap.size, 2, .int .i64 b.s0), (w.heap.size, 3, .bool b.a0), (w.heap.size, 4, .bool b.h0), (w.heap.size, 5, .int .u64 b.t0), (w.heap.size, 6, .int .i64 b.s1), (w.heap.size, 7, .bool b.a1), (w.heap.size, 8, .bool b.h1), (w.heap.size, 9, .int .u64 b.t1), (w15.heap.size, 0, .int .u64 0), (w15.heap.size, 1, .int .u64 t), (w15.heap.size, 2, .int .u64 b.d0), (w15.heap.size, 3, .int .u64 b.d1), (w15.heap.size, 4, .int .u64 18446744073709551615)] (fun W => BookAt W P b)) := ⟨⟨_, K_w19, E_w19⟩⟩
  repeat (go_big_quiet_step (fail))
  refine wpQuiet_nil ?_
  have rR0 : ∀ s : KX (w.heap.size) w (w15.heap.size + 1) [(w.heap.size, 0, .int .i64 b.n), (w.heap.size, 1, .int .u64 b.g), (w.heap.size, 2, .int .i64 b.s0), (w.heap.size, 3, .bool b.a0), (w.heap.size, 4, .bool b.h0), (w.heap.size, 5, .int .u64 b.t0), (w.heap.size, 6, .int .i64 b.s1), (w.heap.size, 7, .bool b.a1), (w.heap.size, 8, .bool b.h1), (w.heap.size, 9, .int .u64 b.t1), (w15.heap.size, 0, .int .u64 0), (w15.heap.size, 1, .int .u64 t), (w15.heap.size, 2, .int .u64 b.d0), (w15.heap.size, 3, .int .u64 b.d1), (w15.heap.size, 4, .int .u64 18446744073709551615)] (fun W => BookAt W P b), s.val.cell? ⟨w.heap.size, 0, none⟩ = some (.int .i64 b.n) := fun s => s.kept.at (by simp)
  have rR1 : ∀ s : KX (w.heap.size) w (w15.heap.size + 1) [(w.heap.size, 0, .int .i64 b.n), (w.heap.size, 1, .int .u64 b.g), (w.heap.size, 2, .int .i64 b.s0), (w.heap.size, 3, .bool b.a0), (w.heap.size, 4, .bool b.h0), (w.heap.size, 5, .int .u64 b.t0), (w.heap.size, 6, .int .i64 b.s1), (w.heap.size, 7, .bool b.a1), (w.heap.size, 8, .bool b.h1), (w.heap.size, 9, .int .u64 b.t1), (w15.heap.size, 0, .int .u64 0), (w15.heap.size, 1, .int .u64 t), (w15.heap.size, 2, .int .u64 b.d0), (w15.heap.size, 3, .int .u64 b.d1), (w15.heap.size, 4, .int .u64 18446744073709551615)] (fun W => BookAt W P b), s.val.cell? ⟨w.heap.size, 1, none⟩ = some (.int .u64 b.g) := fun s => s.kept.at (by simp)
  have rR2 : ∀ s : KX (w.heap.size) w (w15.heap.size + 1) [(w.heap.size, 0, .int .i64 b.n), (w.heap.size, 1, .int .u64 b.g), (w.heap.size, 2, .int .i64 b.s0), (w.heap.size, 3, .bool b.a0), (w.heap.size, 4, .bool b.h0), (w.heap.size, 5, .int .u64 b.t0), (w.heap.size, 6, .int .i64 b.s1), (w.heap.size, 7, .bool b.a1), (w.heap.size, 8, .bool b.h1), (w.heap.size, 9, .int .u64 b.t1), (w15.heap.size, 0, .int .u64 0), (w15.heap.size, 1, .int .u64 t), (w15.heap.size, 2, .int .u64 b.d0), (w15.heap.size, 3, .int .u64 b.d1), (w15.heap.size, 4, .int .u64 18446744073709551615)] (fun W => BookAt W P b), s.val.cell? ⟨w.heap.size, 2, none⟩ = some (.int .i64 b.s0) := fun s => s.kept.at (by simp)
  have rR3 : ∀ s : KX (w.heap.size) w (w15.heap.size + 1) [(w.heap.size, 0, .int .i64 b.n), (w.heap.size, 1, .int .u64 b.g), (w.heap.size, 2, .int .i64 b.s0), (w.heap.size, 3, .bool b.a0), (w.heap.size, 4, .bool b.h0), (w.heap.size, 5, .int .u64 b.t0), (w.heap.size, 6, .int .i64 b.s1), (w.heap.size, 7, .bool b.a1), (w.heap.size, 8, .bool b.h1), (w.heap.size, 9, .int .u64 b.t1), (w15.heap.size, 0, .int .u64 0), (w15.heap.size, 1, .int .u64 t), (w15.heap.size, 2, .int .u64 b.d0), (w15.heap.size, 3, .int .u64 b.d1), (w15.heap.size, 4, .int .u64 18446744073709551615)] (fun W => BookAt W P b), s.val.cell? ⟨w.heap.size, 3, none⟩ = some (.bool b.a0) := fun s => s.kept.at (by simp)
  have rR4 : ∀ s : KX (w.heap.size) w (w15.heap.size + 1) [(w.heap.size, 0, .int .i64 b.n), (w.heap.size, 1, .int .u64 b.g), (w.heap.size, 2, .int .i64 b.s0), (w.heap.size, 3, .bool b.a0), (w.heap.size, 4, .bool b.h0), (w.heap.size, 5, .int .u64 b.t0), (w.heap.size, 6, .int .i64 b.s1), (w.heap.size, 7, .bool b.a1), (w.heap.size, 8, .bool b.h1), (w.heap.size, 9, .int .u64 b.t1), (w15.heap.size, 0, .int .u64 0), (w15.heap.size, 1, .int .u64 t), (w15.heap.size, 2, .int .u64 b.d0), (w15.heap.size, 3, .int .u64 b.d1), (w15.heap.size, 4, .int .u64 18446744073709551615)] (fun W => BookAt W P b), s.val.cell? ⟨w.heap.size, 4, none⟩ = some (.bool b.h0) := fun s => s.kept.at (by simp)
  have rR5 : ∀ s : KX (w.heap.size) w (w15.heap.size + 1) [(w.heap.size, 0, .int .i64 b.n), (w.heap.size, 1, .int .u64 b.g), (w.heap.size, 2, .int .i64 b.s0), (w.heap.size, 3, .bool b.a0), (w.heap.size, 4, .bool b.h0), (w.heap.size, 5, .int .u64 b.t0), (w.heap.size, 6, .int .i64 b.s1), (w.heap.size, 7, .bool b.a1), (w.heap.size, 8, .bool b.h1), (w.heap.size, 9, .int .u64 b.t1), (w15.heap.size, 0, .int .u64 0), (w15.heap.size, 1, .int .u64 t), (w15.heap.size, 2, .int .u64 b.d0), (w15.heap.size, 3, .int .u64 b.d1), (w15.heap.size, 4, .int .u64 18446744073709551615)] (fun W => BookAt W P b), s.val.cell? ⟨w.heap.size, 5, none⟩ = some (.int .u64 b.t0) := fun s => s.kept.at (by simp)
  have rR6 : ∀ s : KX (w.heap.size) w (w15.heap.size + 1) [(w.heap.size, 0, .int .i64 b.n), (w.heap.size, 1, .int .u64 b.g), (w.heap.size, 2, .int .i64 b.s0), (w.heap.size, 3, .bool b.a0), (w.heap.size, 4, .bool b.h0), (w.heap.size, 5, .int .u64 b.t0), (w.heap.size, 6, .int .i64 b.s1), (w.heap.size, 7, .bool b.a1), (w.heap.size, 8, .bool b.h1), (w.heap.size, 9, .int .u64 b.t1), (w15.heap.size, 0, .int .u64 0), (w15.heap.size, 1, .int .u64 t), (w15.heap.size, 2, .int .u64 b.d0), (w15.heap.size, 3, .int .u64 b.d1), (w15.heap.size, 4, .int .u64 18446744073709551615)] (fun W => BookAt W P b), s.val.cell? ⟨w.heap.size, 6, none⟩ = some (.int .i64 b.s1) := fun s => s.kept.at (by simp)
  have rR7 : ∀ s : KX (w.heap.size) w (w15.heap.size + 1) [(w.heap.size, 0, .int .i64 b.n), (w.heap.size, 1, .int .u64 b.g), (w.heap.size, 2, .int .i64 b.s0), (w.heap.size, 3, .bool b.a0), (w.heap.size, 4, .bool b.h0), (w.heap.size, 5, .int .u64 b.t0), (w.heap.size, 6, .int .i64 b.s1), (w.heap.size, 7, .bool b.a1), (w.heap.size, 8, .bool b.h1), (w.heap.size, 9, .int .u64 b.t1), (w15.heap.size, 0, .int .u64 0), (w15.heap.size, 1, .int .u64 t), (w15.heap.size, 2, .int .u64 b.d0), (w15.heap.size, 3, .int .u64 b.d1), (w15.heap.size, 4, .int .u64 18446744073709551615)] (fun W => BookAt W P b), s.val.cell? ⟨w.heap.size, 7, none⟩ = some (.bool b.a1) := fun s => s.kept.at (by simp)
  have rR8 : ∀ s : KX (w.heap.size) w (w15.heap.size + 1) [(w.heap.size, 0, .int .i64 b.n), (w.heap.size, 1, .int .u64 b.g), (w.heap.size, 2, .int .i64 b.s0), (w.heap.size, 3, .bool b.a0), (w.heap.size, 4, .bool b.h0), (w.heap.size, 5, .int .u64 b.t0), (w.heap.size, 6, .int .i64 b.s1), (w.heap.size, 7, .bool b.a1), (w.heap.size, 8, .bool b.h1), (w.heap.size, 9, .int .u64 b.t1), (w15.heap.size, 0, .int .u64 0), (w15.heap.size, 1, .int .u64 t), (w15.heap.size, 2, .int .u64 b.d0), (w15.heap.size, 3, .int .u64 b.d1), (w15.heap.size, 4, .int .u64 18446744073709551615)] (fun W => BookAt W P b), s.val.cell? ⟨w.heap.size, 8, none⟩ = some (.bool b.h1) := fun s => s.kept.at (by simp)
  have rR9 : ∀ s : KX (w.heap.size) w (w15.heap.size + 1) [(w.heap.size, 0, .int .i64 b.n), (w.heap.size, 1, .int .u64 b.g), (w.heap.size, 2, .int .i64 b.s0), (w.heap.size, 3, .bool b.a0), (w.heap.size, 4, .bool b.h0), (w.heap.size, 5, .int .u64 b.t0), (w.heap.size, 6, .int .i64 b.s1), (w.heap.size, 7, .bool b.a1), (w.heap.size, 8, .bool b.h1), (w.heap.size, 9, .int .u64 b.t1), (w15.heap.size, 0, .int .u64 0), (w15.heap.size, 1, .int .u64 t), (w15.heap.size, 2, .int .u64 b.d0), (w15.heap.size, 3, .int .u64 b.d1), (w15.heap.size, 4, .int .u64 18446744073709551615)] (fun W => BookAt W P b), s.val.cell? ⟨w.heap.size, 9, none⟩ = some (.int .u64 b.t1) := fun s => s.kept.at (by simp)
  have rS0 : ∀ s : KX (w.heap.size) w (w15.heap.size + 1) [(w.heap.size, 0, .int .i64 b.n), (w.heap.size, 1, .int .u64 b.g), (w.heap.size, 2, .int .i64 b.s0), (w.heap.size, 3, .bool b.a0), (w.heap.size, 4, .bool b.h0), (w.heap.size, 5, .int .u64 b.t0), (w.heap.size, 6, .int .i64 b.s1), (w.heap.size, 7, .bool b.a1), (w.heap.size, 8, .bool b.h1), (w.heap.size, 9, .int .u64 b.t1), (w15.heap.size, 0, .int .u64 0), (w15.heap.size, 1, .int .u64 t), (w15.heap.size, 2, .int .u64 b.d0), (w15.heap.size, 3, .int .u64 b.d1), (w15.heap.size, 4, .int .u64 18446744073709551615)] (fun W => BookAt W P b), s.val.cell? ⟨w15.heap.size, 0, none⟩ = some (.int .u64 0) := fun s => s.kept.at (by simp)
  have rS1 : ∀ s : KX (w.heap.size) w (w15.heap.size + 1) [(w.heap.size, 0, .int .i64 b.n), (w.heap.size, 1, .int .u64 b.g), (w.heap.size, 2, .int .i64 b.s0), (w.heap.size, 3, .bool b.a0), (w.heap.size, 4, .bool b.h0), (w.heap.size, 5, .int .u64 b.t0), (w.heap.size, 6, .int .i64 b.s1), (w.heap.size, 7, .bool b.a1), (w.heap.size, 8, .bool b.h1), (w.heap.size, 9, .int .u64 b.t1), (w15.heap.size, 0, .int .u64 0), (w15.heap.size, 1, .int .u64 t), (w15.heap.size, 2, .int .u64 b.d0), (w15.heap.size, 3, .int .u64 b.d1), (w15.heap.size, 4, .int .u64 18446744073709551615)] (fun W => BookAt W P b), s.val.cell? ⟨w15.heap.size, 1, none⟩ = some (.int .u64 t) := fun s => s.kept.at (by simp)
  have rS2 : ∀ s : KX (w.heap.size) w (w15.heap.size + 1) [(w.heap.size, 0, .int .i64 b.n), (w.heap.size, 1, .int .u64 b.g), (w.heap.size, 2, .int .i64 b.s0), (w.heap.size, 3, .bool b.a0), (w.heap.size, 4, .bool b.h0), (w.heap.size, 5, .int .u64 b.t0), (w.heap.size, 6, .int .i64 b.s1), (w.heap.size, 7, .bool b.a1), (w.heap.size, 8, .bool b.h1), (w.heap.size, 9, .int .u64 b.t1), (w15.heap.size, 0, .int .u64 0), (w15.heap.size, 1, .int .u64 t), (w15.heap.size, 2, .int .u64 b.d0), (w15.heap.size, 3, .int .u64 b.d1), (w15.heap.size, 4, .int .u64 18446744073709551615)] (fun W => BookAt W P b), s.val.cell? ⟨w15.heap.size, 2, none⟩ = some (.int .u64 b.d0) := fun s => s.kept.at (by simp)
  have rS3 : ∀ s : KX (w.heap.size) w (w15.heap.size + 1) [(w.heap.size, 0, .int .i64 b.n), (w.heap.size, 1, .int .u64 b.g), (w.heap.size, 2, .int .i64 b.s0), (w.heap.size, 3, .bool b.a0), (w.heap.size, 4, .bool b.h0), (w.heap.size, 5, .int .u64 b.t0), (w.heap.size, 6, .int .i64 b.s1), (w.heap.size, 7, .bool b.a1), (w.heap.size, 8, .bool b.h1), (w.heap.size, 9, .int .u64 b.t1), (w15.heap.size, 0, .int .u64 0), (w15.heap.size, 1, .int .u64 t), (w15.heap.size, 2, .int .u64 b.d0), (w15.heap.size, 3, .int .u64 b.d1), (w15.heap.size, 4, .int .u64 18446744073709551615)] (fun W => BookAt W P b), s.val.cell? ⟨w15.heap.size, 3, none⟩ = some (.int .u64 b.d1) := fun s => s.kept.at (by simp)
  have rS4 : ∀ s : KX (w.heap.size) w (w15.heap.size + 1) [(w.heap.size, 0, .int .i64 b.n), (w.heap.size, 1, .int .u64 b.g), (w.heap.size, 2, .int .i64 b.s0), (w.heap.size, 3, .bool b.a0), (w.heap.size, 4, .bool b.h0), (w.heap.size, 5, .int .u64 b.t0), (w.heap.size, 6, .int .i64 b.s1), (w.heap.size, 7, .bool b.a1), (w.heap.size, 8, .bool b.h1), (w.heap.size, 9, .int .u64 b.t1), (w15.heap.size, 0, .int .u64 0), (w15.heap.size, 1, .int .u64 t), (w15.heap.size, 2, .int .u64 b.d0), (w15.heap.size, 3, .int .u64 b.d1), (w15.heap.size, 4, .int .u64 18446744073709551615)] (fun W => BookAt W P b), s.val.cell? ⟨w15.heap.size, 4, none⟩ = some (.int .u64 18446744073709551615) := fun s => s.kept.at (by simp)
  repeat (go_big_quiet_step (fail))
  refine wpQuiet_nil ?_
  clear rR0 rR1 rR2 rR3 rR4 rR5 rR6 rR7 rR8 rR9 rS0 rS1 rS2 rS3 rS4
  have KH_w19 := Lib.hid K_w19
  have hw_w19 := K_w19.below
  have hz_w19 := K_w19.size
  have lR_w19 : w.heap.size < w19.heap.size := by omega
  have lS_w19 : w15.heap.size < w19.heap.size := by omega
  clear lR_w18 lS_w18 cS0_w18 fS0_w18 cS1_w18 fS1_w18 cS2_w18 fS2_w18 cS3_w18 fS3_w18 cS4_w18 fS4_w18
  clear K_w19
  have HB := Lib.hid E_w19
  clear E_w19 F_w19
  refine ⟨fun K hK0 => ?_, trivial⟩
  have hK := Lib.hid hK0
  clear hK0
  go_wp2_with fail
  with_reducible refine (lost15 P b t _ HB.out ok).mono ?_
  rintro e w20 ⟨rfl, hb_w20⟩
  have K_w20 : Kept w.heap.size w (w15.heap.size + 1) [(w.heap.size, 0, .int .i64 b.n), (w.heap.size, 1, .int .u64 b.g), (w.heap.size, 2, .int .i64 b.s0), (w.heap.size, 3, .bool b.a0), (w.heap.size, 4, .bool b.h0), (w.heap.size, 5, .int .u64 b.t0), (w.heap.size, 6, .int .i64 b.s1), (w.heap.size, 7, .bool b.a1), (w.heap.size, 8, .bool b.h1), (w.heap.size, 9, .int .u64 b.t1), (w15.heap.size, 0, .int .u64 0), (w15.heap.size, 1, .int .u64 t), (w15.heap.size, 2, .int .u64 b.d0), (w15.heap.size, 3, .int .u64 b.d1), (w15.heap.size, 4, .int .u64 18446744073709551615)] w20 := (KH_w19.out.step (by omega) (by go_grown)).step (by omega) hb_w20
  replace HB := Lib.hid (HB.out.below hb_w20)
  clear hb_w20
  have KH_w20 := Lib.hid K_w20
  have hw_w20 := K_w20.below
  have hz_w20 := K_w20.size
  have lR_w20 : w.heap.size < w20.heap.size := by omega
  have lS_w20 : w15.heap.size < w20.heap.size := by omega
  clear lR_w19 lS_w19
  clear K_w20
  go_wp2_with fail
  first | (refine ⟨rfl, ⟨⟨_, KH_w20.out, HB.out⟩, rfl⟩, hK.out _ _ ?_⟩; clear hK K) | (refine ⟨⟨⟨_, KH_w20.out, HB.out⟩, rfl⟩, hK.out _ _ ?_⟩; clear hK K)
  refine ⟨fun K hK0 => ?_, trivial⟩
  have hK := Lib.hid hK0
  clear hK0
  go_wp2_with fail
  with_reducible refine (lost28 b t _ ht0 ht1 hg).mono ?_
  rintro e w21 ⟨rfl, hb_w21⟩
  have K_w21 : Kept w.heap.size w (w15.heap.size + 1) [(w.heap.size, 0, .int .i64 b.n), (w.heap.size, 1, .int .u64 b.g), (w.heap.size, 2, .int .i64 b.s0), (w.heap.size, 3, .bool b.a0), (w.heap.size, 4, .bool b.h0), (w.heap.size, 5, .int .u64 b.t0), (w.heap.size, 6, .int .i64 b.s1), (w.heap.size, 7, .bool b.a1), (w.heap.size, 8, .bool b.h1), (w.heap.size, 9, .int .u64 b.t1), (w15.heap.size, 0, .int .u64 0), (w15.heap.size, 1, .int .u64 t), (w15.heap.size, 2, .int .u64 b.d0), (w15.heap.size, 3, .int .u64 b.d1), (w15.heap.size, 4, .int .u64 18446744073709551615)] w21 := (KH_w20.out.step (by omega) (by go_grown)).step (by omega) hb_w21
  replace HB := Lib.hid (HB.out.below hb_w21)
  clear hb_w21
  have KH_w21 := Lib.hid K_w21
  have hw_w21 := K_w21.below
  have hz_w21 := K_w21.size
  have lR_w21 : w.heap.size < w21.heap.size := by omega
  have lS_w21 : w15.heap.size < w21.heap.size := by omega
  clear lR_w20 lS_w20
  clear K_w21
  go_wp2_with fail
  first | (refine ⟨rfl, hK.out _ _ ?_⟩; clear hK K) | (refine hK.out _ _ ?_; clear hK K)
  repeat (go_big_quiet_step (fail))
  refine wpQuiet_nil ?_
  clear _ne
  have cS0_w21 := KH_w21.out.at (b := w15.heap.size) (o := 0) (v := .int .u64 0) (by simp)
  have fS0_w21 := KH_w21.out.free (b := w15.heap.size) (o := 0) (v := .int .u64 0) (by simp)
  have cS1_w21 := KH_w21.out.at (b := w15.heap.size) (o := 1) (v := .int .u64 t) (by simp)
  have fS1_w21 := KH_w21.out.free (b := w15.heap.size) (o := 1) (v := .int .u64 t) (by simp)
  have cS2_w21 := KH_w21.out.at (b := w15.heap.size) (o := 2) (v := .int .u64 b.d0) (by simp)
  have fS2_w21 := KH_w21.out.free (b := w15.heap.size) (o := 2) (v := .int .u64 b.d0) (by simp)
  have cS3_w21 := KH_w21.out.at (b := w15.heap.size) (o := 3) (v := .int .u64 b.d1) (by simp)
  have fS3_w21 := KH_w21.out.free (b := w15.heap.size) (o := 3) (v := .int .u64 b.d1) (by simp)
  have cS4_w21 := KH_w21.out.at (b := w15.heap.size) (o := 4) (v := .int .u64 18446744073709551615) (by simp)
  have fS4_w21 := KH_w21.out.free (b := w15.heap.size) (o := 4) (v := .int .u64 18446744073709551615) (by simp)
  go_wp2_with fail
  rw [rounds_succ]
  go_wp2_with fail
  refine rg12_10 (w0 := w) (B := w.heap.size) (n := w15.heap.size + 1) (L := [(w.heap.size, 0, .int .i64 b.n), (w.heap.size, 1, .int .u64 b.g), (w.heap.size, 2, .int .i64 b.s0), (w.heap.size, 3, .bool b.a0), (w.heap.size, 4, .bool b.h0), (w.heap.size, 5, .int .u64 b.t0), (w.heap.size, 6, .int .i64 b.s1), (w.heap.size, 7, .bool b.a1), (w.heap.size, 8, .bool b.h1), (w.heap.size, 9, .int .u64 b.t1), (w15.heap.size, 0, .int .u64 0), (w15.heap.size, 1, .int .u64 t), (w15.heap.size, 2, .int .u64 b.d0), (w15.heap.size, 3, .int .u64 b.d1), (w15.heap.size, 4, .int .u64 18446744073709551615)]) (E := fun W => BookAt W P b) (F := fun _ => True) (by kernel_rfl) (by kernel_rfl) (KH_w21.out.step (by omega) (by go_grown)) (HB.out.below (by go_grown)) (fun _ _ h hb => h.below hb) trivial (fun _ _ _ _ => trivial) (fun w22 K_w22 E_w22 F_w22 => ?_)
  have _ne : Nonempty (KX (w.heap.size) w (w15.heap.size + 1) [(w.heap.size, 0, .int .i64 b.n), (w.heap.size, 1, .int .u64 b.g), (w.heap.size, 2, .int .i64 b.s0), (w.heap.size, 3, .bool b.a0), (w.heap.size, 4, .bool b.h0), (w.heap.size, 5, .int .u64 b.t0), (w.heap.size, 6, .int .i64 b.s1), (w.heap.size, 7, .bool b.a1), (w.heap.size, 8, .bool b.h1), (w.heap.size, 9, .int .u64 b.t1), (w15.heap.size, 0, .int .u64 0), (w15.heap.size, 1, .int .u64 t), (w15.heap.size, 2, .int .u64 b.d0), (w15.heap.size, 3, .int .u64 b.d1), (w15.heap.size, 4, .int .u64 18446744073709551615)] (fun W => BookAt W P b)) := ⟨⟨_, K_w22, E_w22⟩⟩
  repeat (go_big_quiet_step (fail))
  refine wpQuiet_nil ?_
  have rR0 : ∀ s : KX (w.heap.size) w (w15.heap.size + 1) [(w.heap.size, 0, .int .i64 b.n), (w.heap.size, 1, .int .u64 b.g), (w.heap.size, 2, .int .i64 b.s0), (w.heap.size, 3, .bool b.a0), (w.heap.size, 4, .bool b.h0), (w.heap.size, 5, .int .u64 b.t0), (w.heap.size, 6, .int .i64 b.s1), (w.heap.size, 7, .bool b.a1), (w.heap.size, 8, .bool b.h1), (w.heap.size, 9, .int .u64 b.t1), (w15.heap.size, 0, .int .u64 0), (w15.heap.size, 1, .int .u64 t), (w15.heap.size, 2, .int .u64 b.d0), (w15.heap.size, 3, .int .u64 b.d1), (w15.heap.size, 4, .int .u64 18446744073709551615)] (fun W => BookAt W P b), s.val.cell? ⟨w.heap.size, 0, none⟩ = some (.int .i64 b.n) := fun s => s.kept.at (by simp)
  have rR1 : ∀ s : KX (w.heap.size) w (w15.heap.size + 1) [(w.heap.size, 0, .int .i64 b.n), (w.heap.size, 1, .int .u64 b.g), (w.heap.size, 2, .int .i64 b.s0), (w.heap.size, 3, .bool b.a0), (w.heap.size, 4, .bool b.h0), (w.heap.size, 5, .int .u64 b.t0), (w.heap.size, 6, .int .i64 b.s1), (w.heap.size, 7, .bool b.a1), (w.heap.size, 8, .bool b.h1), (w.heap.size, 9, .int .u64 b.t1), (w15.heap.size, 0, .int .u64 0), (w15.heap.size, 1, .int .u64 t), (w15.heap.size, 2, .int .u64 b.d0), (w15.heap.size, 3, .int .u64 b.d1), (w15.heap.size, 4, .int .u64 18446744073709551615)] (fun W => BookAt W P b), s.val.cell? ⟨w.heap.size, 1, none⟩ = some (.int .u64 b.g) := fun s => s.kept.at (by simp)
  have rR2 : ∀ s : KX (w.heap.size) w (w15.heap.size + 1) [(w.heap.size, 0, .int .i64 b.n), (w.heap.size, 1, .int .u64 b.g), (w.heap.size, 2, .int .i64 b.s0), (w.heap.size, 3, .bool b.a0), (w.heap.size, 4, .bool b.h0), (w.heap.size, 5, .int .u64 b.t0), (w.heap.size, 6, .int .i64 b.s1), (w.heap.size, 7, .bool b.a1), (w.heap.size, 8, .bool b.h1), (w.heap.size, 9, .int .u64 b.t1), (w15.heap.size, 0, .int .u64 0), (w15.heap.size, 1, .int .u64 t), (w15.heap.size, 2, .int .u64 b.d0), (w15.heap.size, 3, .int .u64 b.d1), (w15.heap.size, 4, .int .u64 18446744073709551615)] (fun W => BookAt W P b), s.val.cell? ⟨w.heap.size, 2, none⟩ = some (.int .i64 b.s0) := fun s => s.kept.at (by simp)
  have rR3 : ∀ s : KX (w.heap.size) w (w15.heap.size + 1) [(w.heap.size, 0, .int .i64 b.n), (w.heap.size, 1, .int .u64 b.g), (w.heap.size, 2, .int .i64 b.s0), (w.heap.size, 3, .bool b.a0), (w.heap.size, 4, .bool b.h0), (w.heap.size, 5, .int .u64 b.t0), (w.heap.size, 6, .int .i64 b.s1), (w.heap.size, 7, .bool b.a1), (w.heap.size, 8, .bool b.h1), (w.heap.size, 9, .int .u64 b.t1), (w15.heap.size, 0, .int .u64 0), (w15.heap.size, 1, .int .u64 t), (w15.heap.size, 2, .int .u64 b.d0), (w15.heap.size, 3, .int .u64 b.d1), (w15.heap.size, 4, .int .u64 18446744073709551615)] (fun W => BookAt W P b), s.val.cell? ⟨w.heap.size, 3, none⟩ = some (.bool b.a0) := fun s => s.kept.at (by simp)
  have rR4 : ∀ s : KX (w.heap.size) w (w15.heap.size + 1) [(w.heap.size, 0, .int .i64 b.n), (w.heap.size, 1, .int .u64 b.g), (w.heap.size, 2, .int .i64 b.s0), (w.heap.size, 3, .bool b.a0), (w.heap.size, 4, .bool b.h0), (w.heap.size, 5, .int .u64 b.t0), (w.heap.size, 6, .int .i64 b.s1), (w.heap.size, 7, .bool b.a1), (w.heap.size, 8, .bool b.h1), (w.heap.size, 9, .int .u64 b.t1), (w15.heap.size, 0, .int .u64 0), (w15.heap.size, 1, .int .u64 t), (w15.heap.size, 2, .int .u64 b.d0), (w15.heap.size, 3, .int .u64 b.d1), (w15.heap.size, 4, .int .u64 18446744073709551615)] (fun W => BookAt W P b), s.val.cell? ⟨w.heap.size, 4, none⟩ = some (.bool b.h0) := fun s => s.kept.at (by simp)
  have rR5 : ∀ s : KX (w.heap.size) w (w15.heap.size + 1) [(w.heap.size, 0, .int .i64 b.n), (w.heap.size, 1, .int .u64 b.g), (w.heap.size, 2, .int .i64 b.s0), (w.heap.size, 3, .bool b.a0), (w.heap.size, 4, .bool b.h0), (w.heap.size, 5, .int .u64 b.t0), (w.heap.size, 6, .int .i64 b.s1), (w.heap.size, 7, .bool b.a1), (w.heap.size, 8, .bool b.h1), (w.heap.size, 9, .int .u64 b.t1), (w15.heap.size, 0, .int .u64 0), (w15.heap.size, 1, .int .u64 t), (w15.heap.size, 2, .int .u64 b.d0), (w15.heap.size, 3, .int .u64 b.d1), (w15.heap.size, 4, .int .u64 18446744073709551615)] (fun W => BookAt W P b), s.val.cell? ⟨w.heap.size, 5, none⟩ = some (.int .u64 b.t0) := fun s => s.kept.at (by simp)
  have rR6 : ∀ s : KX (w.heap.size) w (w15.heap.size + 1) [(w.heap.size, 0, .int .i64 b.n), (w.heap.size, 1, .int .u64 b.g), (w.heap.size, 2, .int .i64 b.s0), (w.heap.size, 3, .bool b.a0), (w.heap.size, 4, .bool b.h0), (w.heap.size, 5, .int .u64 b.t0), (w.heap.size, 6, .int .i64 b.s1), (w.heap.size, 7, .bool b.a1), (w.heap.size, 8, .bool b.h1), (w.heap.size, 9, .int .u64 b.t1), (w15.heap.size, 0, .int .u64 0), (w15.heap.size, 1, .int .u64 t), (w15.heap.size, 2, .int .u64 b.d0), (w15.heap.size, 3, .int .u64 b.d1), (w15.heap.size, 4, .int .u64 18446744073709551615)] (fun W => BookAt W P b), s.val.cell? ⟨w.heap.size, 6, none⟩ = some (.int .i64 b.s1) := fun s => s.kept.at (by simp)
  have rR7 : ∀ s : KX (w.heap.size) w (w15.heap.size + 1) [(w.heap.size, 0, .int .i64 b.n), (w.heap.size, 1, .int .u64 b.g), (w.heap.size, 2, .int .i64 b.s0), (w.heap.size, 3, .bool b.a0), (w.heap.size, 4, .bool b.h0), (w.heap.size, 5, .int .u64 b.t0), (w.heap.size, 6, .int .i64 b.s1), (w.heap.size, 7, .bool b.a1), (w.heap.size, 8, .bool b.h1), (w.heap.size, 9, .int .u64 b.t1), (w15.heap.size, 0, .int .u64 0), (w15.heap.size, 1, .int .u64 t), (w15.heap.size, 2, .int .u64 b.d0), (w15.heap.size, 3, .int .u64 b.d1), (w15.heap.size, 4, .int .u64 18446744073709551615)] (fun W => BookAt W P b), s.val.cell? ⟨w.heap.size, 7, none⟩ = some (.bool b.a1) := fun s => s.kept.at (by simp)
  have rR8 : ∀ s : KX (w.heap.size) w (w15.heap.size + 1) [(w.heap.size, 0, .int .i64 b.n), (w.heap.size, 1, .int .u64 b.g), (w.heap.size, 2, .int .i64 b.s0), (w.heap.size, 3, .bool b.a0), (w.heap.size, 4, .bool b.h0), (w.heap.size, 5, .int .u64 b.t0), (w.heap.size, 6, .int .i64 b.s1), (w.heap.size, 7, .bool b.a1), (w.heap.size, 8, .bool b.h1), (w.heap.size, 9, .int .u64 b.t1), (w15.heap.size, 0, .int .u64 0), (w15.heap.size, 1, .int .u64 t), (w15.heap.size, 2, .int .u64 b.d0), (w15.heap.size, 3, .int .u64 b.d1), (w15.heap.size, 4, .int .u64 18446744073709551615)] (fun W => BookAt W P b), s.val.cell? ⟨w.heap.size, 8, none⟩ = some (.bool b.h1) := fun s => s.kept.at (by simp)
  have rR9 : ∀ s : KX (w.heap.size) w (w15.heap.size + 1) [(w.heap.size, 0, .int .i64 b.n), (w.heap.size, 1, .int .u64 b.g), (w.heap.size, 2, .int .i64 b.s0), (w.heap.size, 3, .bool b.a0), (w.heap.size, 4, .bool b.h0), (w.heap.size, 5, .int .u64 b.t0), (w.heap.size, 6, .int .i64 b.s1), (w.heap.size, 7, .bool b.a1), (w.heap.size, 8, .bool b.h1), (w.heap.size, 9, .int .u64 b.t1), (w15.heap.size, 0, .int .u64 0), (w15.heap.size, 1, .int .u64 t), (w15.heap.size, 2, .int .u64 b.d0), (w15.heap.size, 3, .int .u64 b.d1), (w15.heap.size, 4, .int .u64 18446744073709551615)] (fun W => BookAt W P b), s.val.cell? ⟨w.heap.size, 9, none⟩ = some (.int .u64 b.t1) := fun s => s.kept.at (by simp)
  have rS0 : ∀ s : KX (w.heap.size) w (w15.heap.size + 1) [(w.heap.size, 0, .int .i64 b.n), (w.heap.size, 1, .int .u64 b.g), (w.heap.size, 2, .int .i64 b.s0), (w.heap.size, 3, .bool b.a0), (w.heap.size, 4, .bool b.h0), (w.heap.size, 5, .int .u64 b.t0), (w.heap.size, 6, .int .i64 b.s1), (w.heap.size, 7, .bool b.a1), (w.heap.size, 8, .bool b.h1), (w.heap.size, 9, .int .u64 b.t1), (w15.heap.size, 0, .int .u64 0), (w15.heap.size, 1, .int .u64 t), (w15.heap.size, 2, .int .u64 b.d0), (w15.heap.size, 3, .int .u64 b.d1), (w15.heap.size, 4, .int .u64 18446744073709551615)] (fun W => BookAt W P b), s.val.cell? ⟨w15.heap.size, 0, none⟩ = some (.int .u64 0) := fun s => s.kept.at (by simp)
  have rS1 : ∀ s : KX (w.heap.size) w (w15.heap.size + 1) [(w.heap.size, 0, .int .i64 b.n), (w.heap.size, 1, .int .u64 b.g), (w.heap.size, 2, .int .i64 b.s0), (w.heap.size, 3, .bool b.a0), (w.heap.size, 4, .bool b.h0), (w.heap.size, 5, .int .u64 b.t0), (w.heap.size, 6, .int .i64 b.s1), (w.heap.size, 7, .bool b.a1), (w.heap.size, 8, .bool b.h1), (w.heap.size, 9, .int .u64 b.t1), (w15.heap.size, 0, .int .u64 0), (w15.heap.size, 1, .int .u64 t), (w15.heap.size, 2, .int .u64 b.d0), (w15.heap.size, 3, .int .u64 b.d1), (w15.heap.size, 4, .int .u64 18446744073709551615)] (fun W => BookAt W P b), s.val.cell? ⟨w15.heap.size, 1, none⟩ = some (.int .u64 t) := fun s => s.kept.at (by simp)
  have rS2 : ∀ s : KX (w.heap.size) w (w15.heap.size + 1) [(w.heap.size, 0, .int .i64 b.n), (w.heap.size, 1, .int .u64 b.g), (w.heap.size, 2, .int .i64 b.s0), (w.heap.size, 3, .bool b.a0), (w.heap.size, 4, .bool b.h0), (w.heap.size, 5, .int .u64 b.t0), (w.heap.size, 6, .int .i64 b.s1), (w.heap.size, 7, .bool b.a1), (w.heap.size, 8, .bool b.h1), (w.heap.size, 9, .int .u64 b.t1), (w15.heap.size, 0, .int .u64 0), (w15.heap.size, 1, .int .u64 t), (w15.heap.size, 2, .int .u64 b.d0), (w15.heap.size, 3, .int .u64 b.d1), (w15.heap.size, 4, .int .u64 18446744073709551615)] (fun W => BookAt W P b), s.val.cell? ⟨w15.heap.size, 2, none⟩ = some (.int .u64 b.d0) := fun s => s.kept.at (by simp)
  have rS3 : ∀ s : KX (w.heap.size) w (w15.heap.size + 1) [(w.heap.size, 0, .int .i64 b.n), (w.heap.size, 1, .int .u64 b.g), (w.heap.size, 2, .int .i64 b.s0), (w.heap.size, 3, .bool b.a0), (w.heap.size, 4, .bool b.h0), (w.heap.size, 5, .int .u64 b.t0), (w.heap.size, 6, .int .i64 b.s1), (w.heap.size, 7, .bool b.a1), (w.heap.size, 8, .bool b.h1), (w.heap.size, 9, .int .u64 b.t1), (w15.heap.size, 0, .int .u64 0), (w15.heap.size, 1, .int .u64 t), (w15.heap.size, 2, .int .u64 b.d0), (w15.heap.size, 3, .int .u64 b.d1), (w15.heap.size, 4, .int .u64 18446744073709551615)] (fun W => BookAt W P b), s.val.cell? ⟨w15.heap.size, 3, none⟩ = some (.int .u64 b.d1) := fun s => s.kept.at (by simp)
  have rS4 : ∀ s : KX (w.heap.size) w (w15.heap.size + 1) [(w.heap.size, 0, .int .i64 b.n), (w.heap.size, 1, .int .u64 b.g), (w.heap.size, 2, .int .i64 b.s0), (w.heap.size, 3, .bool b.a0), (w.heap.size, 4, .bool b.h0), (w.heap.size, 5, .int .u64 b.t0), (w.heap.size, 6, .int .i64 b.s1), (w.heap.size, 7, .bool b.a1), (w.heap.size, 8, .bool b.h1), (w.heap.size, 9, .int .u64 b.t1), (w15.heap.size, 0, .int .u64 0), (w15.heap.size, 1, .int .u64 t), (w15.heap.size, 2, .int .u64 b.d0), (w15.heap.size, 3, .int .u64 b.d1), (w15.heap.size, 4, .int .u64 18446744073709551615)] (fun W => BookAt W P b), s.val.cell? ⟨w15.heap.size, 4, none⟩ = some (.int .u64 18446744073709551615) := fun s => s.kept.at (by simp)
  repeat (go_big_quiet_step (fail))
  refine wpQuiet_nil ?_
  clear rR0 rR1 rR2 rR3 rR4 rR5 rR6 rR7 rR8 rR9 rS0 rS1 rS2 rS3 rS4
  have KH_w22 := Lib.hid K_w22
  have hw_w22 := K_w22.below
  have hz_w22 := K_w22.size
  have lR_w22 : w.heap.size < w22.heap.size := by omega
  have lS_w22 : w15.heap.size < w22.heap.size := by omega
  clear lR_w21 lS_w21 cS0_w21 fS0_w21 cS1_w21 fS1_w21 cS2_w21 fS2_w21 cS3_w21 fS3_w21 cS4_w21 fS4_w21
  clear K_w22
  have HB := Lib.hid E_w22
  clear E_w22 F_w22
  refine ⟨fun K hK0 => ?_, trivial⟩
  have hK := Lib.hid hK0
  clear hK0
  go_wp2_with fail
  with_reducible refine (lost15 P b b.d0 _ HB.out ok).mono ?_
  rintro e w23 ⟨rfl, hb_w23⟩
  have K_w23 : Kept w.heap.size w (w15.heap.size + 1) [(w.heap.size, 0, .int .i64 b.n), (w.heap.size, 1, .int .u64 b.g), (w.heap.size, 2, .int .i64 b.s0), (w.heap.size, 3, .bool b.a0), (w.heap.size, 4, .bool b.h0), (w.heap.size, 5, .int .u64 b.t0), (w.heap.size, 6, .int .i64 b.s1), (w.heap.size, 7, .bool b.a1), (w.heap.size, 8, .bool b.h1), (w.heap.size, 9, .int .u64 b.t1), (w15.heap.size, 0, .int .u64 0), (w15.heap.size, 1, .int .u64 t), (w15.heap.size, 2, .int .u64 b.d0), (w15.heap.size, 3, .int .u64 b.d1), (w15.heap.size, 4, .int .u64 18446744073709551615)] w23 := (KH_w22.out.step (by omega) (by go_grown)).step (by omega) hb_w23
  replace HB := Lib.hid (HB.out.below hb_w23)
  clear hb_w23
  have KH_w23 := Lib.hid K_w23
  have hw_w23 := K_w23.below
  have hz_w23 := K_w23.size
  have lR_w23 : w.heap.size < w23.heap.size := by omega
  have lS_w23 : w15.heap.size < w23.heap.size := by omega
  clear lR_w22 lS_w22
  clear K_w23
  go_wp2_with fail
  first | (refine ⟨rfl, ⟨⟨_, KH_w23.out, HB.out⟩, rfl⟩, hK.out _ _ ?_⟩; clear hK K) | (refine ⟨⟨⟨_, KH_w23.out, HB.out⟩, rfl⟩, hK.out _ _ ?_⟩; clear hK K)
  refine ⟨fun K hK0 => ?_, trivial⟩
  have hK := Lib.hid hK0
  clear hK0
  go_wp2_with fail
  with_reducible refine (lost28 b b.d0 _ ht0 ht1 hg).mono ?_
  rintro e w24 ⟨rfl, hb_w24⟩
  have K_w24 : Kept w.heap.size w (w15.heap.size + 1) [(w.heap.size, 0, .int .i64 b.n), (w.heap.size, 1, .int .u64 b.g), (w.heap.size, 2, .int .i64 b.s0), (w.heap.size, 3, .bool b.a0), (w.heap.size, 4, .bool b.h0), (w.heap.size, 5, .int .u64 b.t0), (w.heap.size, 6, .int .i64 b.s1), (w.heap.size, 7, .bool b.a1), (w.heap.size, 8, .bool b.h1), (w.heap.size, 9, .int .u64 b.t1), (w15.heap.size, 0, .int .u64 0), (w15.heap.size, 1, .int .u64 t), (w15.heap.size, 2, .int .u64 b.d0), (w15.heap.size, 3, .int .u64 b.d1), (w15.heap.size, 4, .int .u64 18446744073709551615)] w24 := (KH_w23.out.step (by omega) (by go_grown)).step (by omega) hb_w24
  replace HB := Lib.hid (HB.out.below hb_w24)
  clear hb_w24
  have KH_w24 := Lib.hid K_w24
  have hw_w24 := K_w24.below
  have hz_w24 := K_w24.size
  have lR_w24 : w.heap.size < w24.heap.size := by omega
  have lS_w24 : w15.heap.size < w24.heap.size := by omega
  clear lR_w23 lS_w23
  clear K_w24
  go_wp2_with fail
  first | (refine ⟨rfl, hK.out _ _ ?_⟩; clear hK K) | (refine hK.out _ _ ?_; clear hK K)
  repeat (go_big_quiet_step (fail))
  refine wpQuiet_nil ?_
  clear _ne
  have cS0_w24 := KH_w24.out.at (b := w15.heap.size) (o := 0) (v := .int .u64 0) (by simp)
  have fS0_w24 := KH_w24.out.free (b := w15.heap.size) (o := 0) (v := .int .u64 0) (by simp)
  have cS1_w24 := KH_w24.out.at (b := w15.heap.size) (o := 1) (v := .int .u64 t) (by simp)
  have fS1_w24 := KH_w24.out.free (b := w15.heap.size) (o := 1) (v := .int .u64 t) (by simp)
  have cS2_w24 := KH_w24.out.at (b := w15.heap.size) (o := 2) (v := .int .u64 b.d0) (by simp)
  have fS2_w24 := KH_w24.out.free (b := w15.heap.size) (o := 2) (v := .int .u64 b.d0) (by simp)
  have cS3_w24 := KH_w24.out.at (b := w15.heap.size) (o := 3) (v := .int .u64 b.d1) (by simp)
  have fS3_w24 := KH_w24.out.free (b := w15.heap.size) (o := 3) (v := .int .u64 b.d1) (by simp)
  have cS4_w24 := KH_w24.out.at (b := w15.heap.size) (o := 4) (v := .int .u64 18446744073709551615) (by simp)
  have fS4_w24 := KH_w24.out.free (b := w15.heap.size) (o := 4) (v := .int .u64 18446744073709551615) (by simp)
  go_wp2_with fail
  rw [rounds_succ]
  go_wp2_with fail
  refine rg12_10 (w0 := w) (B := w.heap.size) (n := w15.heap.size + 1) (L := [(w.heap.size, 0, .int .i64 b.n), (w.heap.size, 1, .int .u64 b.g), (w.heap.size, 2, .int .i64 b.s0), (w.heap.size, 3, .bool b.a0), (w.heap.size, 4, .bool b.h0), (w.heap.size, 5, .int .u64 b.t0), (w.heap.size, 6, .int .i64 b.s1), (w.heap.size, 7, .bool b.a1), (w.heap.size, 8, .bool b.h1), (w.heap.size, 9, .int .u64 b.t1), (w15.heap.size, 0, .int .u64 0), (w15.heap.size, 1, .int .u64 t), (w15.heap.size, 2, .int .u64 b.d0), (w15.heap.size, 3, .int .u64 b.d1), (w15.heap.size, 4, .int .u64 18446744073709551615)]) (E := fun W => BookAt W P b) (F := fun _ => True) (by kernel_rfl) (by kernel_rfl) (KH_w24.out.step (by omega) (by go_grown)) (HB.out.below (by go_grown)) (fun _ _ h hb => h.below hb) trivial (fun _ _ _ _ => trivial) (fun w25 K_w25 E_w25 F_w25 => ?_)
  have _ne : Nonempty (KX (w.heap.size) w (w15.heap.size + 1) [(w.heap.size, 0, .int .i64 b.n), (w.heap.size, 1, .int .u64 b.g), (w.heap.size, 2, .int .i64 b.s0), (w.heap.size, 3, .bool b.a0), (w.heap.size, 4, .bool b.h0), (w.heap.size, 5, .int .u64 b.t0), (w.heap.size, 6, .int .i64 b.s1), (w.heap.size, 7, .bool b.a1), (w.heap.size, 8, .bool b.h1), (w.heap.size, 9, .int .u64 b.t1), (w15.heap.size, 0, .int .u64 0), (w15.heap.size, 1, .int .u64 t), (w15.heap.size, 2, .int .u64 b.d0), (w15.heap.size, 3, .int .u64 b.d1), (w15.heap.size, 4, .int .u64 18446744073709551615)] (fun W => BookAt W P b)) := ⟨⟨_, K_w25, E_w25⟩⟩
  repeat (go_big_quiet_step (fail))
  refine wpQuiet_nil ?_
  have rR0 : ∀ s : KX (w.heap.size) w (w15.heap.size + 1) [(w.heap.size, 0, .int .i64 b.n), (w.heap.size, 1, .int .u64 b.g), (w.heap.size, 2, .int .i64 b.s0), (w.heap.size, 3, .bool b.a0), (w.heap.size, 4, .bool b.h0), (w.heap.size, 5, .int .u64 b.t0), (w.heap.size, 6, .int .i64 b.s1), (w.heap.size, 7, .bool b.a1), (w.heap.size, 8, .bool b.h1), (w.heap.size, 9, .int .u64 b.t1), (w15.heap.size, 0, .int .u64 0), (w15.heap.size, 1, .int .u64 t), (w15.heap.size, 2, .int .u64 b.d0), (w15.heap.size, 3, .int .u64 b.d1), (w15.heap.size, 4, .int .u64 18446744073709551615)] (fun W => BookAt W P b), s.val.cell? ⟨w.heap.size, 0, none⟩ = some (.int .i64 b.n) := fun s => s.kept.at (by simp)
  have rR1 : ∀ s : KX (w.heap.size) w (w15.heap.size + 1) [(w.heap.size, 0, .int .i64 b.n), (w.heap.size, 1, .int .u64 b.g), (w.heap.size, 2, .int .i64 b.s0), (w.heap.size, 3, .bool b.a0), (w.heap.size, 4, .bool b.h0), (w.heap.size, 5, .int .u64 b.t0), (w.heap.size, 6, .int .i64 b.s1), (w.heap.size, 7, .bool b.a1), (w.heap.size, 8, .bool b.h1), (w.heap.size, 9, .int .u64 b.t1), (w15.heap.size, 0, .int .u64 0), (w15.heap.size, 1, .int .u64 t), (w15.heap.size, 2, .int .u64 b.d0), (w15.heap.size, 3, .int .u64 b.d1), (w15.heap.size, 4, .int .u64 18446744073709551615)] (fun W => BookAt W P b), s.val.cell? ⟨w.heap.size, 1, none⟩ = some (.int .u64 b.g) := fun s => s.kept.at (by simp)
  have rR2 : ∀ s : KX (w.heap.size) w (w15.heap.size + 1) [(w.heap.size, 0, .int .i64 b.n), (w.heap.size, 1, .int .u64 b.g), (w.heap.size, 2, .int .i64 b.s0), (w.heap.size, 3, .bool b.a0), (w.heap.size, 4, .bool b.h0), (w.heap.size, 5, .int .u64 b.t0), (w.heap.size, 6, .int .i64 b.s1), (w.heap.size, 7, .bool b.a1), (w.heap.size, 8, .bool b.h1), (w.heap.size, 9, .int .u64 b.t1), (w15.heap.size, 0, .int .u64 0), (w15.heap.size, 1, .int .u64 t), (w15.heap.size, 2, .int .u64 b.d0), (w15.heap.size, 3, .int .u64 b.d1), (w15.heap.size, 4, .int .u64 18446744073709551615)] (fun W => BookAt W P b), s.val.cell? ⟨w.heap.size, 2, none⟩ = some (.int .i64 b.s0) := fun s => s.kept.at (by simp)
  have rR3 : ∀ s : KX (w.heap.size) w (w15.heap.size + 1) [(w.heap.size, 0, .int .i64 b.n), (w.heap.size, 1, .int .u64 b.g), (w.heap.size, 2, .int .i64 b.s0), (w.heap.size, 3, .bool b.a0), (w.heap.size, 4, .bool b.h0), (w.heap.size, 5, .int .u64 b.t0), (w.heap.size, 6, .int .i64 b.s1), (w.heap.size, 7, .bool b.a1), (w.heap.size, 8, .bool b.h1), (w.heap.size, 9, .int .u64 b.t1), (w15.heap.size, 0, .int .u64 0), (w15.heap.size, 1, .int .u64 t), (w15.heap.size, 2, .int .u64 b.d0), (w15.heap.size, 3, .int .u64 b.d1), (w15.heap.size, 4, .int .u64 18446744073709551615)] (fun W => BookAt W P b), s.val.cell? ⟨w.heap.size, 3, none⟩ = some (.bool b.a0) := fun s => s.kept.at (by simp)
  have rR4 : ∀ s : KX (w.heap.size) w (w15.heap.size + 1) [(w.heap.size, 0, .int .i64 b.n), (w.heap.size, 1, .int .u64 b.g), (w.heap.size, 2, .int .i64 b.s0), (w.heap.size, 3, .bool b.a0), (w.heap.size, 4, .bool b.h0), (w.heap.size, 5, .int .u64 b.t0), (w.heap.size, 6, .int .i64 b.s1), (w.heap.size, 7, .bool b.a1), (w.heap.size, 8, .bool b.h1), (w.heap.size, 9, .int .u64 b.t1), (w15.heap.size, 0, .int .u64 0), (w15.heap.size, 1, .int .u64 t), (w15.heap.size, 2, .int .u64 b.d0), (w15.heap.size, 3, .int .u64 b.d1), (w15.heap.size, 4, .int .u64 18446744073709551615)] (fun W => BookAt W P b), s.val.cell? ⟨w.heap.size, 4, none⟩ = some (.bool b.h0) := fun s => s.kept.at (by simp)
  have rR5 : ∀ s : KX (w.heap.size) w (w15.heap.size + 1) [(w.heap.size, 0, .int .i64 b.n), (w.heap.size, 1, .int .u64 b.g), (w.heap.size, 2, .int .i64 b.s0), (w.heap.size, 3, .bool b.a0), (w.heap.size, 4, .bool b.h0), (w.heap.size, 5, .int .u64 b.t0), (w.heap.size, 6, .int .i64 b.s1), (w.heap.size, 7, .bool b.a1), (w.heap.size, 8, .bool b.h1), (w.heap.size, 9, .int .u64 b.t1), (w15.heap.size, 0, .int .u64 0), (w15.heap.size, 1, .int .u64 t), (w15.heap.size, 2, .int .u64 b.d0), (w15.heap.size, 3, .int .u64 b.d1), (w15.heap.size, 4, .int .u64 18446744073709551615)] (fun W => BookAt W P b), s.val.cell? ⟨w.heap.size, 5, none⟩ = some (.int .u64 b.t0) := fun s => s.kept.at (by simp)
  have rR6 : ∀ s : KX (w.heap.size) w (w15.heap.size + 1) [(w.heap.size, 0, .int .i64 b.n), (w.heap.size, 1, .int .u64 b.g), (w.heap.size, 2, .int .i64 b.s0), (w.heap.size, 3, .bool b.a0), (w.heap.size, 4, .bool b.h0), (w.heap.size, 5, .int .u64 b.t0), (w.heap.size, 6, .int .i64 b.s1), (w.heap.size, 7, .bool b.a1), (w.heap.size, 8, .bool b.h1), (w.heap.size, 9, .int .u64 b.t1), (w15.heap.size, 0, .int .u64 0), (w15.heap.size, 1, .int .u64 t), (w15.heap.size, 2, .int .u64 b.d0), (w15.heap.size, 3, .int .u64 b.d1), (w15.heap.size, 4, .int .u64 18446744073709551615)] (fun W => BookAt W P b), s.val.cell? ⟨w.heap.size, 6, none⟩ = some (.int .i64 b.s1) := fun s => s.kept.at (by simp)
  have rR7 : ∀ s : KX (w.heap.size) w (w15.heap.size + 1) [(w.heap.size, 0, .int .i64 b.n), (w.heap.size, 1, .int .u64 b.g), (w.heap.size, 2, .int .i64 b.s0), (w.heap.size, 3, .bool b.a0), (w.heap.size, 4, .bool b.h0), (w.heap.size, 5, .int .u64 b.t0), (w.heap.size, 6, .int .i64 b.s1), (w.heap.size, 7, .bool b.a1), (w.heap.size, 8, .bool b.h1), (w.heap.size, 9, .int .u64 b.t1), (w15.heap.size, 0, .int .u64 0), (w15.heap.size, 1, .int .u64 t), (w15.heap.size, 2, .int .u64 b.d0), (w15.heap.size, 3, .int .u64 b.d1), (w15.heap.size, 4, .int .u64 18446744073709551615)] (fun W => BookAt W P b), s.val.cell? ⟨w.heap.size, 7, none⟩ = some (.bool b.a1) := fun s => s.kept.at (by simp)
  have rR8 : ∀ s : KX (w.heap.size) w (w15.heap.size + 1) [(w.heap.size, 0, .int .i64 b.n), (w.heap.size, 1, .int .u64 b.g), (w.heap.size, 2, .int .i64 b.s0), (w.heap.size, 3, .bool b.a0), (w.heap.size, 4, .bool b.h0), (w.heap.size, 5, .int .u64 b.t0), (w.heap.size, 6, .int .i64 b.s1), (w.heap.size, 7, .bool b.a1), (w.heap.size, 8, .bool b.h1), (w.heap.size, 9, .int .u64 b.t1), (w15.heap.size, 0, .int .u64 0), (w15.heap.size, 1, .int .u64 t), (w15.heap.size, 2, .int .u64 b.d0), (w15.heap.size, 3, .int .u64 b.d1), (w15.heap.size, 4, .int .u64 18446744073709551615)] (fun W => BookAt W P b), s.val.cell? ⟨w.heap.size, 8, none⟩ = some (.bool b.h1) := fun s => s.kept.at (by simp)
  have rR9 : ∀ s : KX (w.heap.size) w (w15.heap.size + 1) [(w.heap.size, 0, .int .i64 b.n), (w.heap.size, 1, .int .u64 b.g), (w.heap.size, 2, .int .i64 b.s0), (w.heap.size, 3, .bool b.a0), (w.heap.size, 4, .bool b.h0), (w.heap.size, 5, .int .u64 b.t0), (w.heap.size, 6, .int .i64 b.s1), (w.heap.size, 7, .bool b.a1), (w.heap.size, 8, .bool b.h1), (w.heap.size, 9, .int .u64 b.t1), (w15.heap.size, 0, .int .u64 0), (w15.heap.size, 1, .int .u64 t), (w15.heap.size, 2, .int .u64 b.d0), (w15.heap.size, 3, .int .u64 b.d1), (w15.heap.size, 4, .int .u64 18446744073709551615)] (fun W => BookAt W P b), s.val.cell? ⟨w.heap.size, 9, none⟩ = some (.int .u64 b.t1) := fun s => s.kept.at (by simp)
  have rS0 : ∀ s : KX (w.heap.size) w (w15.heap.size + 1) [(w.heap.size, 0, .int .i64 b.n), (w.heap.size, 1, .int .u64 b.g), (w.heap.size, 2, .int .i64 b.s0), (w.heap.size, 3, .bool b.a0), (w.heap.size, 4, .bool b.h0), (w.heap.size, 5, .int .u64 b.t0), (w.heap.size, 6, .int .i64 b.s1), (w.heap.size, 7, .bool b.a1), (w.heap.size, 8, .bool b.h1), (w.heap.size, 9, .int .u64 b.t1), (w15.heap.size, 0, .int .u64 0), (w15.heap.size, 1, .int .u64 t), (w15.heap.size, 2, .int .u64 b.d0), (w15.heap.size, 3, .int .u64 b.d1), (w15.heap.size, 4, .int .u64 18446744073709551615)] (fun W => BookAt W P b), s.val.cell? ⟨w15.heap.size, 0, none⟩ = some (.int .u64 0) := fun s => s.kept.at (by simp)
  have rS1 : ∀ s : KX (w.heap.size) w (w15.heap.size + 1) [(w.heap.size, 0, .int .i64 b.n), (w.heap.size, 1, .int .u64 b.g), (w.heap.size, 2, .int .i64 b.s0), (w.heap.size, 3, .bool b.a0), (w.heap.size, 4, .bool b.h0), (w.heap.size, 5, .int .u64 b.t0), (w.heap.size, 6, .int .i64 b.s1), (w.heap.size, 7, .bool b.a1), (w.heap.size, 8, .bool b.h1), (w.heap.size, 9, .int .u64 b.t1), (w15.heap.size, 0, .int .u64 0), (w15.heap.size, 1, .int .u64 t), (w15.heap.size, 2, .int .u64 b.d0), (w15.heap.size, 3, .int .u64 b.d1), (w15.heap.size, 4, .int .u64 18446744073709551615)] (fun W => BookAt W P b), s.val.cell? ⟨w15.heap.size, 1, none⟩ = some (.int .u64 t) := fun s => s.kept.at (by simp)
  have rS2 : ∀ s : KX (w.heap.size) w (w15.heap.size + 1) [(w.heap.size, 0, .int .i64 b.n), (w.heap.size, 1, .int .u64 b.g), (w.heap.size, 2, .int .i64 b.s0), (w.heap.size, 3, .bool b.a0), (w.heap.size, 4, .bool b.h0), (w.heap.size, 5, .int .u64 b.t0), (w.heap.size, 6, .int .i64 b.s1), (w.heap.size, 7, .bool b.a1), (w.heap.size, 8, .bool b.h1), (w.heap.size, 9, .int .u64 b.t1), (w15.heap.size, 0, .int .u64 0), (w15.heap.size, 1, .int .u64 t), (w15.heap.size, 2, .int .u64 b.d0), (w15.heap.size, 3, .int .u64 b.d1), (w15.heap.size, 4, .int .u64 18446744073709551615)] (fun W => BookAt W P b), s.val.cell? ⟨w15.heap.size, 2, none⟩ = some (.int .u64 b.d0) := fun s => s.kept.at (by simp)
  have rS3 : ∀ s : KX (w.heap.size) w (w15.heap.size + 1) [(w.heap.size, 0, .int .i64 b.n), (w.heap.size, 1, .int .u64 b.g), (w.heap.size, 2, .int .i64 b.s0), (w.heap.size, 3, .bool b.a0), (w.heap.size, 4, .bool b.h0), (w.heap.size, 5, .int .u64 b.t0), (w.heap.size, 6, .int .i64 b.s1), (w.heap.size, 7, .bool b.a1), (w.heap.size, 8, .bool b.h1), (w.heap.size, 9, .int .u64 b.t1), (w15.heap.size, 0, .int .u64 0), (w15.heap.size, 1, .int .u64 t), (w15.heap.size, 2, .int .u64 b.d0), (w15.heap.size, 3, .int .u64 b.d1), (w15.heap.size, 4, .int .u64 18446744073709551615)] (fun W => BookAt W P b), s.val.cell? ⟨w15.heap.size, 3, none⟩ = some (.int .u64 b.d1) := fun s => s.kept.at (by simp)
  have rS4 : ∀ s : KX (w.heap.size) w (w15.heap.size + 1) [(w.heap.size, 0, .int .i64 b.n), (w.heap.size, 1, .int .u64 b.g), (w.heap.size, 2, .int .i64 b.s0), (w.heap.size, 3, .bool b.a0), (w.heap.size, 4, .bool b.h0), (w.heap.size, 5, .int .u64 b.t0), (w.heap.size, 6, .int .i64 b.s1), (w.heap.size, 7, .bool b.a1), (w.heap.size, 8, .bool b.h1), (w.heap.size, 9, .int .u64 b.t1), (w15.heap.size, 0, .int .u64 0), (w15.heap.size, 1, .int .u64 t), (w15.heap.size, 2, .int .u64 b.d0), (w15.heap.size, 3, .int .u64 b.d1), (w15.heap.size, 4, .int .u64 18446744073709551615)] (fun W => BookAt W P b), s.val.cell? ⟨w15.heap.size, 4, none⟩ = some (.int .u64 18446744073709551615) := fun s => s.kept.at (by simp)
  repeat (go_big_quiet_step (fail))
  refine wpQuiet_nil ?_
  clear rR0 rR1 rR2 rR3 rR4 rR5 rR6 rR7 rR8 rR9 rS0 rS1 rS2 rS3 rS4
  have KH_w25 := Lib.hid K_w25
  have hw_w25 := K_w25.below
  have hz_w25 := K_w25.size
  have lR_w25 : w.heap.size < w25.heap.size := by omega
  have lS_w25 : w15.heap.size < w25.heap.size := by omega
  clear lR_w24 lS_w24 cS0_w24 fS0_w24 cS1_w24 fS1_w24 cS2_w24 fS2_w24 cS3_w24 fS3_w24 cS4_w24 fS4_w24
  clear K_w25
  have HB := Lib.hid E_w25
  clear E_w25 F_w25
  refine ⟨fun K hK0 => ?_, trivial⟩
  have hK := Lib.hid hK0
  clear hK0
  go_wp2_with fail
  with_reducible refine (lost15 P b b.d1 _ HB.out ok).mono ?_
  rintro e w26 ⟨rfl, hb_w26⟩
  have K_w26 : Kept w.heap.size w (w15.heap.size + 1) [(w.heap.size, 0, .int .i64 b.n), (w.heap.size, 1, .int .u64 b.g), (w.heap.size, 2, .int .i64 b.s0), (w.heap.size, 3, .bool b.a0), (w.heap.size, 4, .bool b.h0), (w.heap.size, 5, .int .u64 b.t0), (w.heap.size, 6, .int .i64 b.s1), (w.heap.size, 7, .bool b.a1), (w.heap.size, 8, .bool b.h1), (w.heap.size, 9, .int .u64 b.t1), (w15.heap.size, 0, .int .u64 0), (w15.heap.size, 1, .int .u64 t), (w15.heap.size, 2, .int .u64 b.d0), (w15.heap.size, 3, .int .u64 b.d1), (w15.heap.size, 4, .int .u64 18446744073709551615)] w26 := (KH_w25.out.step (by omega) (by go_grown)).step (by omega) hb_w26
  replace HB := Lib.hid (HB.out.below hb_w26)
  clear hb_w26
  have KH_w26 := Lib.hid K_w26
  have hw_w26 := K_w26.below
  have hz_w26 := K_w26.size
  have lR_w26 : w.heap.size < w26.heap.size := by omega
  have lS_w26 : w15.heap.size < w26.heap.size := by omega
  clear lR_w25 lS_w25
  clear K_w26
  go_wp2_with fail
  first | (refine ⟨rfl, ⟨⟨_, KH_w26.out, HB.out⟩, rfl⟩, hK.out _ _ ?_⟩; clear hK K) | (refine ⟨⟨⟨_, KH_w26.out, HB.out⟩, rfl⟩, hK.out _ _ ?_⟩; clear hK K)
  refine ⟨fun K hK0 => ?_, trivial⟩
  have hK := Lib.hid hK0
  clear hK0
  go_wp2_with fail
  with_reducible refine (lost28 b b.d1 _ ht0 ht1 hg).mono ?_
  rintro e w27 ⟨rfl, hb_w27⟩
  have K_w27 : Kept w.heap.size w (w15.heap.size + 1) [(w.heap.size, 0, .int .i64 b.n), (w.heap.size, 1, .int .u64 b.g), (w.heap.size, 2, .int .i64 b.s0), (w.heap.size, 3, .bool b.a0), (w.heap.size, 4, .bool b.h0), (w.heap.size, 5, .int .u64 b.t0), (w.heap.size, 6, .int .i64 b.s1), (w.heap.size, 7, .bool b.a1), (w.heap.size, 8, .bool b.h1), (w.heap.size, 9, .int .u64 b.t1), (w15.heap.size, 0, .int .u64 0), (w15.heap.size, 1, .int .u64 t), (w15.heap.size, 2, .int .u64 b.d0), (w15.heap.size, 3, .int .u64 b.d1), (w15.heap.size, 4, .int .u64 18446744073709551615)] w27 := (KH_w26.out.step (by omega) (by go_grown)).step (by omega) hb_w27
  replace HB := Lib.hid (HB.out.below hb_w27)
  clear hb_w27
  have KH_w27 := Lib.hid K_w27
  have hw_w27 := K_w27.below
  have hz_w27 := K_w27.size
  have lR_w27 : w.heap.size < w27.heap.size := by omega
  have lS_w27 : w15.heap.size < w27.heap.size := by omega
  clear lR_w26 lS_w26
  clear K_w27
  go_wp2_with fail
  first | (refine ⟨rfl, hK.out _ _ ?_⟩; clear hK K) | (refine hK.out _ _ ?_; clear hK K)
  repeat (go_big_quiet_step (fail))
  refine wpQuiet_nil ?_
  clear _ne
  have cS0_w27 := KH_w27.out.at (b := w15.heap.size) (o := 0) (v := .int .u64 0) (by simp)
  have fS0_w27 := KH_w27.out.free (b := w15.heap.size) (o := 0) (v := .int .u64 0) (by simp)
  have cS1_w27 := KH_w27.out.at (b := w15.heap.size) (o := 1) (v := .int .u64 t) (by simp)
  have fS1_w27 := KH_w27.out.free (b := w15.heap.size) (o := 1) (v := .int .u64 t) (by simp)
  have cS2_w27 := KH_w27.out.at (b := w15.heap.size) (o := 2) (v := .int .u64 b.d0) (by simp)
  have fS2_w27 := KH_w27.out.free (b := w15.heap.size) (o := 2) (v := .int .u64 b.d0) (by simp)
  have cS3_w27 := KH_w27.out.at (b := w15.heap.size) (o := 3) (v := .int .u64 b.d1) (by simp)
  have fS3_w27 := KH_w27.out.free (b := w15.heap.size) (o := 3) (v := .int .u64 b.d1) (by simp)
  have cS4_w27 := KH_w27.out.at (b := w15.heap.size) (o := 4) (v := .int .u64 18446744073709551615) (by simp)
  have fS4_w27 := KH_w27.out.free (b := w15.heap.size) (o := 4) (v := .int .u64 18446744073709551615) (by simp)
  go_wp2_with fail
  rw [rounds_succ]
  go_wp2_with fail
  refine rg12_10 (w0 := w) (B := w.heap.size) (n := w15.heap.size + 1) (L := [(w.heap.size, 0, .int .i64 b.n), (w.heap.size, 1, .int .u64 b.g), (w.heap.size, 2, .int .i64 b.s0), (w.heap.size, 3, .bool b.a0), (w.heap.size, 4, .bool b.h0), (w.heap.size, 5, .int .u64 b.t0), (w.heap.size, 6, .int .i64 b.s1), (w.heap.size, 7, .bool b.a1), (w.heap.size, 8, .bool b.h1), (w.heap.size, 9, .int .u64 b.t1), (w15.heap.size, 0, .int .u64 0), (w15.heap.size, 1, .int .u64 t), (w15.heap.size, 2, .int .u64 b.d0), (w15.heap.size, 3, .int .u64 b.d1), (w15.heap.size, 4, .int .u64 18446744073709551615)]) (E := fun W => BookAt W P b) (F := fun _ => True) (by kernel_rfl) (by kernel_rfl) (KH_w27.out.step (by omega) (by go_grown)) (HB.out.below (by go_grown)) (fun _ _ h hb => h.below hb) trivial (fun _ _ _ _ => trivial) (fun w28 K_w28 E_w28 F_w28 => ?_)
  have _ne : Nonempty (KX (w.heap.size) w (w15.heap.size + 1) [(w.heap.size, 0, .int .i64 b.n), (w.heap.size, 1, .int .u64 b.g), (w.heap.size, 2, .int .i64 b.s0), (w.heap.size, 3, .bool b.a0), (w.heap.size, 4, .bool b.h0), (w.heap.size, 5, .int .u64 b.t0), (w.heap.size, 6, .int .i64 b.s1), (w.heap.size, 7, .bool b.a1), (w.heap.size, 8, .bool b.h1), (w.heap.size, 9, .int .u64 b.t1), (w15.heap.size, 0, .int .u64 0), (w15.heap.size, 1, .int .u64 t), (w15.heap.size, 2, .int .u64 b.d0), (w15.heap.size, 3, .int .u64 b.d1), (w15.heap.size, 4, .int .u64 18446744073709551615)] (fun W => BookAt W P b)) := ⟨⟨_, K_w28, E_w28⟩⟩
  repeat (go_big_quiet_step (fail))
  refine wpQuiet_nil ?_
  have rR0 : ∀ s : KX (w.heap.size) w (w15.heap.size + 1) [(w.heap.size, 0, .int .i64 b.n), (w.heap.size, 1, .int .u64 b.g), (w.heap.size, 2, .int .i64 b.s0), (w.heap.size, 3, .bool b.a0), (w.heap.size, 4, .bool b.h0), (w.heap.size, 5, .int .u64 b.t0), (w.heap.size, 6, .int .i64 b.s1), (w.heap.size, 7, .bool b.a1), (w.heap.size, 8, .bool b.h1), (w.heap.size, 9, .int .u64 b.t1), (w15.heap.size, 0, .int .u64 0), (w15.heap.size, 1, .int .u64 t), (w15.heap.size, 2, .int .u64 b.d0), (w15.heap.size, 3, .int .u64 b.d1), (w15.heap.size, 4, .int .u64 18446744073709551615)] (fun W => BookAt W P b), s.val.cell? ⟨w.heap.size, 0, none⟩ = some (.int .i64 b.n) := fun s => s.kept.at (by simp)
  have rR1 : ∀ s : KX (w.heap.size) w (w15.heap.size + 1) [(w.heap.size, 0, .int .i64 b.n), (w.heap.size, 1, .int .u64 b.g), (w.heap.size, 2, .int .i64 b.s0), (w.heap.size, 3, .bool b.a0), (w.heap.size, 4, .bool b.h0), (w.heap.size, 5, .int .u64 b.t0), (w.heap.size, 6, .int .i64 b.s1), (w.heap.size, 7, .bool b.a1), (w.heap.size, 8, .bool b.h1), (w.heap.size, 9, .int .u64 b.t1), (w15.heap.size, 0, .int .u64 0), (w15.heap.size, 1, .int .u64 t), (w15.heap.size, 2, .int .u64 b.d0), (w15.heap.size, 3, .int .u64 b.d1), (w15.heap.size, 4, .int .u64 18446744073709551615)] (fun W => BookAt W P b), s.val.cell? ⟨w.heap.size, 1, none⟩ = some (.int .u64 b.g) := fun s => s.kept.at (by simp)
  have rR2 : ∀ s : KX (w.heap.size) w (w15.heap.size + 1) [(w.heap.size, 0, .int .i64 b.n), (w.heap.size, 1, .int .u64 b.g), (w.heap.size, 2, .int .i64 b.s0), (w.heap.size, 3, .bool b.a0), (w.heap.size, 4, .bool b.h0), (w.heap.size, 5, .int .u64 b.t0), (w.heap.size, 6, .int .i64 b.s1), (w.heap.size, 7, .bool b.a1), (w.heap.size, 8, .bool b.h1), (w.heap.size, 9, .int .u64 b.t1), (w15.heap.size, 0, .int .u64 0), (w15.heap.size, 1, .int .u64 t), (w15.heap.size, 2, .int .u64 b.d0), (w15.heap.size, 3, .int .u64 b.d1), (w15.heap.size, 4, .int .u64 18446744073709551615)] (fun W => BookAt W P b), s.val.cell? ⟨w.heap.size, 2, none⟩ = some (.int .i64 b.s0) := fun s => s.kept.at (by simp)
  have rR3 : ∀ s : KX (w.heap.size) w (w15.heap.size + 1) [(w.heap.size, 0, .int .i64 b.n), (w.heap.size, 1, .int .u64 b.g), (w.heap.size, 2, .int .i64 b.s0), (w.heap.size, 3, .bool b.a0), (w.heap.size, 4, .bool b.h0), (w.heap.size, 5, .int .u64 b.t0), (w.heap.size, 6, .int .i64 b.s1), (w.heap.size, 7, .bool b.a1), (w.heap.size, 8, .bool b.h1), (w.heap.size, 9, .int .u64 b.t1), (w15.heap.size, 0, .int .u64 0), (w15.heap.size, 1, .int .u64 t), (w15.heap.size, 2, .int .u64 b.d0), (w15.heap.size, 3, .int .u64 b.d1), (w15.heap.size, 4, .int .u64 18446744073709551615)] (fun W => BookAt W P b), s.val.cell? ⟨w.heap.size, 3, none⟩ = some (.bool b.a0) := fun s => s.kept.at (by simp)
  have rR4 : ∀ s : KX (w.heap.size) w (w15.heap.size + 1) [(w.heap.size, 0, .int .i64 b.n), (w.heap.size, 1, .int .u64 b.g), (w.heap.size, 2, .int .i64 b.s0), (w.heap.size, 3, .bool b.a0), (w.heap.size, 4, .bool b.h0), (w.heap.size, 5, .int .u64 b.t0), (w.heap.size, 6, .int .i64 b.s1), (w.heap.size, 7, .bool b.a1), (w.heap.size, 8, .bool b.h1), (w.heap.size, 9, .int .u64 b.t1), (w15.heap.size, 0, .int .u64 0), (w15.heap.size, 1, .int .u64 t), (w15.heap.size, 2, .int .u64 b.d0), (w15.heap.size, 3, .int .u64 b.d1), (w15.heap.size, 4, .int .u64 18446744073709551615)] (fun W => BookAt W P b), s.val.cell? ⟨w.heap.size, 4, none⟩ = some (.bool b.h0) := fun s => s.kept.at (by simp)
  have rR5 : ∀ s : KX (w.heap.size) w (w15.heap.size + 1) [(w.heap.size, 0, .int .i64 b.n), (w.heap.size, 1, .int .u64 b.g), (w.heap.size, 2, .int .i64 b.s0), (w.heap.size, 3, .bool b.a0), (w.heap.size, 4, .bool b.h0), (w.heap.size, 5, .int .u64 b.t0), (w.heap.size, 6, .int .i64 b.s1), (w.heap.size, 7, .bool b.a1), (w.heap.size, 8, .bool b.h1), (w.heap.size, 9, .int .u64 b.t1), (w15.heap.size, 0, .int .u64 0), (w15.heap.size, 1, .int .u64 t), (w15.heap.size, 2, .int .u64 b.d0), (w15.heap.size, 3, .int .u64 b.d1), (w15.heap.size, 4, .int .u64 18446744073709551615)] (fun W => BookAt W P b), s.val.cell? ⟨w.heap.size, 5, none⟩ = some (.int .u64 b.t0) := fun s => s.kept.at (by simp)
  have rR6 : ∀ s : KX (w.heap.size) w (w15.heap.size + 1) [(w.heap.size, 0, .int .i64 b.n), (w.heap.size, 1, .int .u64 b.g), (w.heap.size, 2, .int .i64 b.s0), (w.heap.size, 3, .bool b.a0), (w.heap.size, 4, .bool b.h0), (w.heap.size, 5, .int .u64 b.t0), (w.heap.size, 6, .int .i64 b.s1), (w.heap.size, 7, .bool b.a1), (w.heap.size, 8, .bool b.h1), (w.heap.size, 9, .int .u64 b.t1), (w15.heap.size, 0, .int .u64 0), (w15.heap.size, 1, .int .u64 t), (w15.heap.size, 2, .int .u64 b.d0), (w15.heap.size, 3, .int .u64 b.d1), (w15.heap.size, 4, .int .u64 18446744073709551615)] (fun W => BookAt W P b), s.val.cell? ⟨w.heap.size, 6, none⟩ = some (.int .i64 b.s1) := fun s => s.kept.at (by simp)
  have rR7 : ∀ s : KX (w.heap.size) w (w15.heap.size + 1) [(w.heap.size, 0, .int .i64 b.n), (w.heap.size, 1, .int .u64 b.g), (w.heap.size, 2, .int .i64 b.s0), (w.heap.size, 3, .bool b.a0), (w.heap.size, 4, .bool b.h0), (w.heap.size, 5, .int .u64 b.t0), (w.heap.size, 6, .int .i64 b.s1), (w.heap.size, 7, .bool b.a1), (w.heap.size, 8, .bool b.h1), (w.heap.size, 9, .int .u64 b.t1), (w15.heap.size, 0, .int .u64 0), (w15.heap.size, 1, .int .u64 t), (w15.heap.size, 2, .int .u64 b.d0), (w15.heap.size, 3, .int .u64 b.d1), (w15.heap.size, 4, .int .u64 18446744073709551615)] (fun W => BookAt W P b), s.val.cell? ⟨w.heap.size, 7, none⟩ = some (.bool b.a1) := fun s => s.kept.at (by simp)
  have rR8 : ∀ s : KX (w.heap.size) w (w15.heap.size + 1) [(w.heap.size, 0, .int .i64 b.n), (w.heap.size, 1, .int .u64 b.g), (w.heap.size, 2, .int .i64 b.s0), (w.heap.size, 3, .bool b.a0), (w.heap.size, 4, .bool b.h0), (w.heap.size, 5, .int .u64 b.t0), (w.heap.size, 6, .int .i64 b.s1), (w.heap.size, 7, .bool b.a1), (w.heap.size, 8, .bool b.h1), (w.heap.size, 9, .int .u64 b.t1), (w15.heap.size, 0, .int .u64 0), (w15.heap.size, 1, .int .u64 t), (w15.heap.size, 2, .int .u64 b.d0), (w15.heap.size, 3, .int .u64 b.d1), (w15.heap.size, 4, .int .u64 18446744073709551615)] (fun W => BookAt W P b), s.val.cell? ⟨w.heap.size, 8, none⟩ = some (.bool b.h1) := fun s => s.kept.at (by simp)
  have rR9 : ∀ s : KX (w.heap.size) w (w15.heap.size + 1) [(w.heap.size, 0, .int .i64 b.n), (w.heap.size, 1, .int .u64 b.g), (w.heap.size, 2, .int .i64 b.s0), (w.heap.size, 3, .bool b.a0), (w.heap.size, 4, .bool b.h0), (w.heap.size, 5, .int .u64 b.t0), (w.heap.size, 6, .int .i64 b.s1), (w.heap.size, 7, .bool b.a1), (w.heap.size, 8, .bool b.h1), (w.heap.size, 9, .int .u64 b.t1), (w15.heap.size, 0, .int .u64 0), (w15.heap.size, 1, .int .u64 t), (w15.heap.size, 2, .int .u64 b.d0), (w15.heap.size, 3, .int .u64 b.d1), (w15.heap.size, 4, .int .u64 18446744073709551615)] (fun W => BookAt W P b), s.val.cell? ⟨w.heap.size, 9, none⟩ = some (.int .u64 b.t1) := fun s => s.kept.at (by simp)
  have rS0 : ∀ s : KX (w.heap.size) w (w15.heap.size + 1) [(w.heap.size, 0, .int .i64 b.n), (w.heap.size, 1, .int .u64 b.g), (w.heap.size, 2, .int .i64 b.s0), (w.heap.size, 3, .bool b.a0), (w.heap.size, 4, .bool b.h0), (w.heap.size, 5, .int .u64 b.t0), (w.heap.size, 6, .int .i64 b.s1), (w.heap.size, 7, .bool b.a1), (w.heap.size, 8, .bool b.h1), (w.heap.size, 9, .int .u64 b.t1), (w15.heap.size, 0, .int .u64 0), (w15.heap.size, 1, .int .u64 t), (w15.heap.size, 2, .int .u64 b.d0), (w15.heap.size, 3, .int .u64 b.d1), (w15.heap.size, 4, .int .u64 18446744073709551615)] (fun W => BookAt W P b), s.val.cell? ⟨w15.heap.size, 0, none⟩ = some (.int .u64 0) := fun s => s.kept.at (by simp)
  have rS1 : ∀ s : KX (w.heap.size) w (w15.heap.size + 1) [(w.heap.size, 0, .int .i64 b.n), (w.heap.size, 1, .int .u64 b.g), (w.heap.size, 2, .int .i64 b.s0), (w.heap.size, 3, .bool b.a0), (w.heap.size, 4, .bool b.h0), (w.heap.size, 5, .int .u64 b.t0), (w.heap.size, 6, .int .i64 b.s1), (w.heap.size, 7, .bool b.a1), (w.heap.size, 8, .bool b.h1), (w.heap.size, 9, .int .u64 b.t1), (w15.heap.size, 0, .int .u64 0), (w15.heap.size, 1, .int .u64 t), (w15.heap.size, 2, .int .u64 b.d0), (w15.heap.size, 3, .int .u64 b.d1), (w15.heap.size, 4, .int .u64 18446744073709551615)] (fun W => BookAt W P b), s.val.cell? ⟨w15.heap.size, 1, none⟩ = some (.int .u64 t) := fun s => s.kept.at (by simp)
  have rS2 : ∀ s : KX (w.heap.size) w (w15.heap.size + 1) [(w.heap.size, 0, .int .i64 b.n), (w.heap.size, 1, .int .u64 b.g), (w.heap.size, 2, .int .i64 b.s0), (w.heap.size, 3, .bool b.a0), (w.heap.size, 4, .bool b.h0), (w.heap.size, 5, .int .u64 b.t0), (w.heap.size, 6, .int .i64 b.s1), (w.heap.size, 7, .bool b.a1), (w.heap.size, 8, .bool b.h1), (w.heap.size, 9, .int .u64 b.t1), (w15.heap.size, 0, .int .u64 0), (w15.heap.size, 1, .int .u64 t), (w15.heap.size, 2, .int .u64 b.d0), (w15.heap.size, 3, .int .u64 b.d1), (w15.heap.size, 4, .int .u64 18446744073709551615)] (fun W => BookAt W P b), s.val.cell? ⟨w15.heap.size, 2, none⟩ = some (.int .u64 b.d0) := fun s => s.kept.at (by simp)
  have rS3 : ∀ s : KX (w.heap.size) w (w15.heap.size + 1) [(w.heap.size, 0, .int .i64 b.n), (w.heap.size, 1, .int .u64 b.g), (w.heap.size, 2, .int .i64 b.s0), (w.heap.size, 3, .bool b.a0), (w.heap.size, 4, .bool b.h0), (w.heap.size, 5, .int .u64 b.t0), (w.heap.size, 6, .int .i64 b.s1), (w.heap.size, 7, .bool b.a1), (w.heap.size, 8, .bool b.h1), (w.heap.size, 9, .int .u64 b.t1), (w15.heap.size, 0, .int .u64 0), (w15.heap.size, 1, .int .u64 t), (w15.heap.size, 2, .int .u64 b.d0), (w15.heap.size, 3, .int .u64 b.d1), (w15.heap.size, 4, .int .u64 18446744073709551615)] (fun W => BookAt W P b), s.val.cell? ⟨w15.heap.size, 3, none⟩ = some (.int .u64 b.d1) := fun s => s.kept.at (by simp)
  have rS4 : ∀ s : KX (w.heap.size) w (w15.heap.size + 1) [(w.heap.size, 0, .int .i64 b.n), (w.heap.size, 1, .int .u64 b.g), (w.heap.size, 2, .int .i64 b.s0), (w.heap.size, 3, .bool b.a0), (w.heap.size, 4, .bool b.h0), (w.heap.size, 5, .int .u64 b.t0), (w.heap.size, 6, .int .i64 b.s1), (w.heap.size, 7, .bool b.a1), (w.heap.size, 8, .bool b.h1), (w.heap.size, 9, .int .u64 b.t1), (w15.heap.size, 0, .int .u64 0), (w15.heap.size, 1, .int .u64 t), (w15.heap.size, 2, .int .u64 b.d0), (w15.heap.size, 3, .int .u64 b.d1), (w15.heap.size, 4, .int .u64 18446744073709551615)] (fun W => BookAt W P b), s.val.cell? ⟨w15.heap.size, 4, none⟩ = some (.int .u64 18446744073709551615) := fun s => s.kept.at (by simp)
  repeat (go_big_quiet_step (fail))
  refine wpQuiet_nil ?_
  clear rR0 rR1 rR2 rR3 rR4 rR5 rR6 rR7 rR8 rR9 rS0 rS1 rS2 rS3 rS4
  have KH_w28 := Lib.hid K_w28
  have hw_w28 := K_w28.below
  have hz_w28 := K_w28.size
  have lR_w28 : w.heap.size < w28.heap.size := by omega
  have lS_w28 : w15.heap.size < w28.heap.size := by omega
  clear lR_w27 lS_w27 cS0_w27 fS0_w27 cS1_w27 fS1_w27 cS2_w27 fS2_w27 cS3_w27 fS3_w27 cS4_w27 fS4_w27
  clear K_w28
  have HB := Lib.hid E_w28
  clear E_w28 F_w28
  refine ⟨fun K hK0 => ?_, trivial⟩
  have hK := Lib.hid hK0
  clear hK0
  go_wp2_with fail
  with_reducible refine (lost15 P b 18446744073709551615 _ HB.out ok).mono ?_
  rintro e w29 ⟨rfl, hb_w29⟩
  have K_w29 : Kept w.heap.size w (w15.heap.size + 1) [(w.heap.size, 0, .int .i64 b.n), (w.heap.size, 1, .int .u64 b.g), (w.heap.size, 2, .int .i64 b.s0), (w.heap.size, 3, .bool b.a0), (w.heap.size, 4, .bool b.h0), (w.heap.size, 5, .int .u64 b.t0), (w.heap.size, 6, .int .i64 b.s1), (w.heap.size, 7, .bool b.a1), (w.heap.size, 8, .bool b.h1), (w.heap.size, 9, .int .u64 b.t1), (w15.heap.size, 0, .int .u64 0), (w15.heap.size, 1, .int .u64 t), (w15.heap.size, 2, .int .u64 b.d0), (w15.heap.size, 3, .int .u64 b.d1), (w15.heap.size, 4, .int .u64 18446744073709551615)] w29 := (KH_w28.out.step (by omega) (by go_grown)).step (by omega) hb_w29
  replace HB := Lib.hid (HB.out.below hb_w29)
  clear hb_w29
  have KH_w29 := Lib.hid K_w29
  have hw_w29 := K_w29.below
  have hz_w29 := K_w29.size
  have lR_w29 : w.heap.size < w29.heap.size := by omega
  have lS_w29 : w15.heap.size < w29.heap.size := by omega
  clear lR_w28 lS_w28
  clear K_w29
  go_wp2_with fail
  first | (refine ⟨rfl, ⟨⟨_, KH_w29.out, HB.out⟩, rfl⟩, hK.out _ _ ?_⟩; clear hK K) | (refine ⟨⟨⟨_, KH_w29.out, HB.out⟩, rfl⟩, hK.out _ _ ?_⟩; clear hK K)
  refine ⟨fun K hK0 => ?_, trivial⟩
  have hK := Lib.hid hK0
  clear hK0
  go_wp2_with fail
  with_reducible refine (lost28 b 18446744073709551615 _ ht0 ht1 hg).mono ?_
  rintro e w30 ⟨rfl, hb_w30⟩
  have K_w30 : Kept w.heap.size w (w15.heap.size + 1) [(w.heap.size, 0, .int .i64 b.n), (w.heap.size, 1, .int .u64 b.g), (w.heap.size, 2, .int .i64 b.s0), (w.heap.size, 3, .bool b.a0), (w.heap.size, 4, .bool b.h0), (w.heap.size, 5, .int .u64 b.t0), (w.heap.size, 6, .int .i64 b.s1), (w.heap.size, 7, .bool b.a1), (w.heap.size, 8, .bool b.h1), (w.heap.size, 9, .int .u64 b.t1), (w15.heap.size, 0, .int .u64 0), (w15.heap.size, 1, .int .u64 t), (w15.heap.size, 2, .int .u64 b.d0), (w15.heap.size, 3, .int .u64 b.d1), (w15.heap.size, 4, .int .u64 18446744073709551615)] w30 := (KH_w29.out.step (by omega) (by go_grown)).step (by omega) hb_w30
  replace HB := Lib.hid (HB.out.below hb_w30)
  clear hb_w30
  have KH_w30 := Lib.hid K_w30
  have hw_w30 := K_w30.below
  have hz_w30 := K_w30.size
  have lR_w30 : w.heap.size < w30.heap.size := by omega
  have lS_w30 : w15.heap.size < w30.heap.size := by omega
  clear lR_w29 lS_w29
  clear K_w30
  go_wp2_with fail
  first | (refine ⟨rfl, hK.out _ _ ?_⟩; clear hK K) | (refine hK.out _ _ ?_; clear hK K)
  repeat (go_big_quiet_step (fail))
  refine wpQuiet_nil ?_
  clear _ne
  have cS0_w30 := KH_w30.out.at (b := w15.heap.size) (o := 0) (v := .int .u64 0) (by simp)
  have fS0_w30 := KH_w30.out.free (b := w15.heap.size) (o := 0) (v := .int .u64 0) (by simp)
  have cS1_w30 := KH_w30.out.at (b := w15.heap.size) (o := 1) (v := .int .u64 t) (by simp)
  have fS1_w30 := KH_w30.out.free (b := w15.heap.size) (o := 1) (v := .int .u64 t) (by simp)
  have cS2_w30 := KH_w30.out.at (b := w15.heap.size) (o := 2) (v := .int .u64 b.d0) (by simp)
  have fS2_w30 := KH_w30.out.free (b := w15.heap.size) (o := 2) (v := .int .u64 b.d0) (by simp)
  have cS3_w30 := KH_w30.out.at (b := w15.heap.size) (o := 3) (v := .int .u64 b.d1) (by simp)
  have fS3_w30 := KH_w30.out.free (b := w15.heap.size) (o := 3) (v := .int .u64 b.d1) (by simp)
  have cS4_w30 := KH_w30.out.at (b := w15.heap.size) (o := 4) (v := .int .u64 18446744073709551615) (by simp)
  have fS4_w30 := KH_w30.out.free (b := w15.heap.size) (o := 4) (v := .int .u64 18446744073709551615) (by simp)
  go_wp2_with fail
  rw [rounds_succ]
  go_wp2_with fail
  with_reducible refine (auto20_bad P b 2 _ HB.out h1 (by omega) (by omega)).mono ?_
  rintro e w31 ⟨rfl, hb_w31⟩
  have K_w31 : Kept w.heap.size w (w15.heap.size + 1) [(w.heap.size, 0, .int .i64 b.n), (w.heap.size, 1, .int .u64 b.g), (w.heap.size, 2, .int .i64 b.s0), (w.heap.size, 3, .bool b.a0), (w.heap.size, 4, .bool b.h0), (w.heap.size, 5, .int .u64 b.t0), (w.heap.size, 6, .int .i64 b.s1), (w.heap.size, 7, .bool b.a1), (w.heap.size, 8, .bool b.h1), (w.heap.size, 9, .int .u64 b.t1), (w15.heap.size, 0, .int .u64 0), (w15.heap.size, 1, .int .u64 t), (w15.heap.size, 2, .int .u64 b.d0), (w15.heap.size, 3, .int .u64 b.d1), (w15.heap.size, 4, .int .u64 18446744073709551615)] w31 := (KH_w30.out.step (by omega) (by go_grown)).step (by omega) hb_w31
  replace HB := Lib.hid (HB.out.below hb_w31)
  clear hb_w31
  have KH_w31 := Lib.hid K_w31
  have hw_w31 := K_w31.below
  have hz_w31 := K_w31.size
  have lR_w31 : w.heap.size < w31.heap.size := by omega
  have lS_w31 : w15.heap.size < w31.heap.size := by omega
  clear lR_w30 lS_w30 cS0_w30 fS0_w30 cS1_w30 fS1_w30 cS2_w30 fS2_w30 cS3_w30 fS3_w30 cS4_w30 fS4_w30
  clear K_w31
  go_wp2_with fail
  with_reducible refine (strikes21_bad P b (-1) _ HB.out h1 (by omega) (by omega)).mono ?_
  rintro e w32 ⟨rfl, hb_w32⟩
  have K_w32 : Kept w.heap.size w (w15.heap.size + 1) [(w.heap.size, 0, .int .i64 b.n), (w.heap.size, 1, .int .u64 b.g), (w.heap.size, 2, .int .i64 b.s0), (w.heap.size, 3, .bool b.a0), (w.heap.size, 4, .bool b.h0), (w.heap.size, 5, .int .u64 b.t0), (w.heap.size, 6, .int .i64 b.s1), (w.heap.size, 7, .bool b.a1), (w.heap.size, 8, .bool b.h1), (w.heap.size, 9, .int .u64 b.t1), (w15.heap.size, 0, .int .u64 0), (w15.heap.size, 1, .int .u64 t), (w15.heap.size, 2, .int .u64 b.d0), (w15.heap.size, 3, .int .u64 b.d1), (w15.heap.size, 4, .int .u64 18446744073709551615)] w32 := (KH_w31.out.step (by omega) (by go_grown)).step (by omega) hb_w32
  replace HB := Lib.hid (HB.out.below hb_w32)
  clear hb_w32
  have KH_w32 := Lib.hid K_w32
  have hw_w32 := K_w32.below
  have hz_w32 := K_w32.size
  have lR_w32 : w.heap.size < w32.heap.size := by omega
  have lS_w32 : w15.heap.size < w32.heap.size := by omega
  clear lR_w31 lS_w31
  clear K_w32
  go_wp2_with fail
  with_reducible refine (here18_bad P b 2 _ HB.out h1 (by omega) (by omega)).mono ?_
  rintro e w33 ⟨rfl, hb_w33⟩
  have K_w33 : Kept w.heap.size w (w15.heap.size + 1) [(w.heap.size, 0, .int .i64 b.n), (w.heap.size, 1, .int .u64 b.g), (w.heap.size, 2, .int .i64 b.s0), (w.heap.size, 3, .bool b.a0), (w.heap.size, 4, .bool b.h0), (w.heap.size, 5, .int .u64 b.t0), (w.heap.size, 6, .int .i64 b.s1), (w.heap.size, 7, .bool b.a1), (w.heap.size, 8, .bool b.h1), (w.heap.size, 9, .int .u64 b.t1), (w15.heap.size, 0, .int .u64 0), (w15.heap.size, 1, .int .u64 t), (w15.heap.size, 2, .int .u64 b.d0), (w15.heap.size, 3, .int .u64 b.d1), (w15.heap.size, 4, .int .u64 18446744073709551615)] w33 := (KH_w32.out.step (by omega) (by go_grown)).step (by omega) hb_w33
  replace HB := Lib.hid (HB.out.below hb_w33)
  clear hb_w33
  have KH_w33 := Lib.hid K_w33
  have hw_w33 := K_w33.below
  have hz_w33 := K_w33.size
  have lR_w33 : w.heap.size < w33.heap.size := by omega
  have lS_w33 : w15.heap.size < w33.heap.size := by omega
  clear lR_w32 lS_w32
  clear K_w33
  go_wp2_with fail
  with_reducible refine (due19_bad P b (-1) _ HB.out h1 (by omega) (by omega)).mono ?_
  rintro e w34 ⟨rfl, hb_w34⟩
  have K_w34 : Kept w.heap.size w (w15.heap.size + 1) [(w.heap.size, 0, .int .i64 b.n), (w.heap.size, 1, .int .u64 b.g), (w.heap.size, 2, .int .i64 b.s0), (w.heap.size, 3, .bool b.a0), (w.heap.size, 4, .bool b.h0), (w.heap.size, 5, .int .u64 b.t0), (w.heap.size, 6, .int .i64 b.s1), (w.heap.size, 7, .bool b.a1), (w.heap.size, 8, .bool b.h1), (w.heap.size, 9, .int .u64 b.t1), (w15.heap.size, 0, .int .u64 0), (w15.heap.size, 1, .int .u64 t), (w15.heap.size, 2, .int .u64 b.d0), (w15.heap.size, 3, .int .u64 b.d1), (w15.heap.size, 4, .int .u64 18446744073709551615)] w34 := (KH_w33.out.step (by omega) (by go_grown)).step (by omega) hb_w34
  replace HB := Lib.hid (HB.out.below hb_w34)
  clear hb_w34
  have KH_w34 := Lib.hid K_w34
  have hw_w34 := K_w34.below
  have hz_w34 := K_w34.size
  have lR_w34 : w.heap.size < w34.heap.size := by omega
  have lS_w34 : w15.heap.size < w34.heap.size := by omega
  clear lR_w33 lS_w33
  clear K_w34
  go_wp2_with fail
  go_returns
  exact ⟨rfl, by go_grown⟩

end Go.Proofs.Ytobkgdhniibopaa
