/- One call for both books. -/
import Derived.Test.YtobkgdhniibopaaMore
namespace Go.Proofs.Ytobkgdhniibopaa
open Go.RowKit Plain
set_option linter.unusedVariables false
set_option linter.unusedSimpArgs false

theorem BookAt.other {W : World} {P : Nat} {b : Bk} (h : BookAt W P b) {q : Addr} (hq : q.block ≠ P) (v : Value) : BookAt (W.setCell q v) P b := (Below.heap_setCell _ _ _ _ (Ne.symm hq)).trans h
/-- both books have made a call; they are alike -/
def DoAt (P : Nat) (w : World) (e : Ending) (w' : World) : Prop := ∃ P' b', (P' = P ∨ w.heap.size ≤ P') ∧ e = .returned (.tuple #[.pointer (some ⟨P', 0, none⟩), .agg #[.int .i64 b'.n, .int .u64 b'.g, .int .i64 b'.s0, .bool b'.a0, .bool b'.h0, .int .u64 b'.t0, .int .i64 b'.s1, .bool b'.a1, .bool b'.h1, .int .u64 b'.t1], .bool true]) ∧ BookAt w' P' b' ∧ b'.Ok ∧ Only P w w'
theorem Ok.strike0 {b : Bk} (ok : b.Ok) : b.strike0.Ok := by
  obtain ⟨h1, h2, h3, h4, h5, h6, h7, h8, h9, h10, h11, h12⟩ := ok
  unfold Bk.strike0
  split
  · constructor <;> first | assumption | rfl | (simp; omega) | (simp at *; omega)
  · constructor <;> first | assumption | rfl | (simp; omega) | (simp at *; omega)
theorem Ok.answer0 {b : Bk} (ok : b.Ok) : b.answer0.Ok := by
  obtain ⟨h1, h2, h3, h4, h5, h6, h7, h8, h9, h10, h11, h12⟩ := ok
  constructor <;> first | assumption | (simp [Bk.answer0]; done) | (simp [Bk.answer0]; omega)
theorem Ok.join0 {b : Bk} (ok : b.Ok) : b.join0.Ok := by
  obtain ⟨h1, h2, h3, h4, h5, h6, h7, h8, h9, h10, h11, h12⟩ := ok
  constructor <;> assumption
theorem Ok.leave0 {b : Bk} {t : Int} (ok : b.Ok) (ht : U t) : (b.leave0 t).Ok := by
  obtain ⟨h1, h2, h3, h4, h5, h6, h7, h8, h9, h10, h11, h12⟩ := ok
  unfold Bk.leave0
  split
  · constructor <;> first | assumption
  · constructor <;> assumption
theorem Ok.strike1 {b : Bk} (ok : b.Ok) : b.strike1.Ok := by
  obtain ⟨h1, h2, h3, h4, h5, h6, h7, h8, h9, h10, h11, h12⟩ := ok
  unfold Bk.strike1
  split
  · constructor <;> first | assumption | rfl | (simp; omega) | (simp at *; omega)
  · constructor <;> first | assumption | rfl | (simp; omega) | (simp at *; omega)
theorem Ok.answer1 {b : Bk} (ok : b.Ok) : b.answer1.Ok := by
  obtain ⟨h1, h2, h3, h4, h5, h6, h7, h8, h9, h10, h11, h12⟩ := ok
  constructor <;> first | assumption | (simp [Bk.answer1]; done) | (simp [Bk.answer1]; omega)
theorem Ok.join1 {b : Bk} (ok : b.Ok) : b.join1.Ok := by
  obtain ⟨h1, h2, h3, h4, h5, h6, h7, h8, h9, h10, h11, h12⟩ := ok
  constructor <;> assumption
theorem Ok.leave1 {b : Bk} {t : Int} (ok : b.Ok) (ht : U t) : (b.leave1 t).Ok := by
  obtain ⟨h1, h2, h3, h4, h5, h6, h7, h8, h9, h10, h11, h12⟩ := ok
  unfold Bk.leave1
  split
  · constructor <;> first | assumption
  · constructor <;> assumption
theorem rg24_4 {P : Program} {B n : Nat} {w0 : World} {L : List (Nat × Nat × Value)} {E F : World → Prop} {id : Nat} {Q : Exit → Act → World → Prop} {a : Act} {w : World} {o0 o1 o2 o3 o4 o5 o6 o7 o8 o9 o10 : Oper} (hm : P.follows .mixedOrders = true)
    (hB : (Region.noSelect [o0, o1, o2, o3, o4, o5, o6, o7, o8, o9, o10].toArray && Scr.ok .any [o0, o1, o2, o3, o4, o5, o6, o7, o8, o9, o10].toArray [1, 4] [0, 2, 3, 5, 6, 8, 10] (.free 0 (.free 2 (.free 3 (.free 5 (.free 6 (.read 1 (.read 4 (.alt 7 (.free 8 (.altc 9 (.free 10 .done) .stop)) .stop)))))))) true true [o0, o1, o2, o3, o4, o5, o6, o7, o8, o9, o10].toArray.size (Array.replicate [o0, o1, o2, o3, o4, o5, o6, o7, o8, o9, o10].toArray.size false)) = true)
    (k : Kept B w0 n L w) (he : E w) (hE : ∀ W W', E W → Below W.heap.size W W' → E W') (hf : F w) (hF : ∀ W W', F W → Below W.heap.size W W' → F W')
    (h : ∀ wk, Kept B w0 n L wk → E wk → F wk → wpQuiet P [o0, o1, o2, o3, o4, o5, o6, o7, o8, o9, o10].toArray (fun _ => True) (fun a0 => wpQuiet P [o0, o1, o2, o3, o4, o5, o6, o7, o8, o9, o10].toArray (fun w' => ∃ s : KX B w0 n L E, w' = s.val) (fun a1 => ((∀ K2 : Act → World → Prop, (∀ a2 w2, wpQuiet P [o0, o1, o2, o3, o4, o5, o6, o7, o8, o9, o10].toArray (fun _ => True) (fun a3 => ((∀ K4 : Act → World → Prop, (∀ a4 w4, wpQuiet P [o0, o1, o2, o3, o4, o5, o6, o7, o8, o9, o10].toArray (fun _ => True) (fun a5 => Q .normal a5 w4) [o10] a4 → K4 a4 w4) → wpList P [o0, o1, o2, o3, o4, o5, o6, o7, o8, o9, o10].toArray (fun e a4 w4 => e = .normal ∧ K4 a4 w4) [o9] a3 w2) ∧ True)) [o8] a2 → K2 a2 w2) → wpList P [o0, o1, o2, o3, o4, o5, o6, o7, o8, o9, o10].toArray (fun e a2 w2 => e = .normal ∧ (∃ s : KX B w0 n L E, w2 = s.val) ∧ K2 a2 w2) [o7] a1 wk) ∧ True)) [o1, o4] a0) [o0, o2, o3, o5, o6] a) : (Code.region id [o0, o1, o2, o3, o4, o5, o6, o7, o8, o9, o10].toArray true).wp P Q a w := by
  have e1 : E w.drew := hE _ _ he ((Below.refl _ _).drew)
  have g := h _ k.drew e1 (hF _ _ hf ((Below.refl _ _).drew))
  exact wp_region_scr (U := (fun w' => ∃ s : KX B w0 n L E, w' = s.val)) (ops := [o0, o1, o2, o3, o4, o5, o6, o7, o8, o9, o10].toArray) (.free 0 (.free 2 (.free 3 (.free 5 (.free 6 (.read 1 (.read 4 (.alt 7 (.free 8 (.altc 9 (.free 10 .done) .stop)) .stop)))))))) [1, 4] [0, 2, 3, 5, 6, 8, 10] hm hB ⟨⟨_, k.drew, e1⟩, rfl⟩ (Scr.of_free rfl g (fun _ g0 => Scr.of_free rfl g0 (fun _ g1 => Scr.of_free rfl g1 (fun _ g2 => Scr.of_free rfl g2 (fun _ g3 => Scr.of_free rfl g3 (fun _ g4 => Scr.of_read rfl g4 (fun _ g5 => Scr.of_read rfl g5 (fun _ g6 => (Scr.of_alt rfl (g6.1 _ (fun _ _ g => g)) (fun _ _ g7 => Scr.of_free rfl g7 (fun _ g8 => (Scr.of_altc rfl (g8.1 _ (fun _ _ g => g)) (fun _ _ g9 => Scr.of_free rfl g9 (fun _ g10 => g10)) trivial))) trivial)))))))))

theorem rg24_7 {P : Program} {B n : Nat} {w0 : World} {L : List (Nat × Nat × Value)} {E F : World → Prop} {id : Nat} {Q : Exit → Act → World → Prop} {a : Act} {w : World} {o0 o1 o2 o3 o4 o5 o6 o7 o8 o9 o10 : Oper} (hm : P.follows .mixedOrders = true)
    (hB : (Region.noSelect [o0, o1, o2, o3, o4, o5, o6, o7, o8, o9, o10].toArray && Scr.ok .any [o0, o1, o2, o3, o4, o5, o6, o7, o8, o9, o10].toArray [1, 4] [0, 2, 3, 6, 7, 8, 10] (.free 0 (.free 2 (.free 3 (.free 6 (.read 1 (.read 4 (.alt 5 (.free 7 (.free 8 (.altc 9 (.free 10 .done) .stop))) .stop))))))) true true [o0, o1, o2, o3, o4, o5, o6, o7, o8, o9, o10].toArray.size (Array.replicate [o0, o1, o2, o3, o4, o5, o6, o7, o8, o9, o10].toArray.size false)) = true)
    (k : Kept B w0 n L w) (he : E w) (hE : ∀ W W', E W → Below W.heap.size W W' → E W') (hf : F w) (hF : ∀ W W', F W → Below W.heap.size W W' → F W')
    (h : ∀ wk, Kept B w0 n L wk → E wk → F wk → wpQuiet P [o0, o1, o2, o3, o4, o5, o6, o7, o8, o9, o10].toArray (fun _ => True) (fun a0 => wpQuiet P [o0, o1, o2, o3, o4, o5, o6, o7, o8, o9, o10].toArray (fun w' => ∃ s : KX B w0 n L E, w' = s.val) (fun a1 => ((∀ K2 : Act → World → Prop, (∀ a2 w2, wpQuiet P [o0, o1, o2, o3, o4, o5, o6, o7, o8, o9, o10].toArray (fun _ => True) (fun a3 => ((∀ K4 : Act → World → Prop, (∀ a4 w4, wpQuiet P [o0, o1, o2, o3, o4, o5, o6, o7, o8, o9, o10].toArray (fun _ => True) (fun a5 => Q .normal a5 w4) [o10] a4 → K4 a4 w4) → wpList P [o0, o1, o2, o3, o4, o5, o6, o7, o8, o9, o10].toArray (fun e a4 w4 => e = .normal ∧ K4 a4 w4) [o9] a3 w2) ∧ True)) [o7, o8] a2 → K2 a2 w2) → wpList P [o0, o1, o2, o3, o4, o5, o6, o7, o8, o9, o10].toArray (fun e a2 w2 => e = .normal ∧ (∃ s : KX B w0 n L E, w2 = s.val) ∧ K2 a2 w2) [o5] a1 wk) ∧ True)) [o1, o4] a0) [o0, o2, o3, o6] a) : (Code.region id [o0, o1, o2, o3, o4, o5, o6, o7, o8, o9, o10].toArray true).wp P Q a w := by
  have e1 : E w.drew := hE _ _ he ((Below.refl _ _).drew)
  have g := h _ k.drew e1 (hF _ _ hf ((Below.refl _ _).drew))
  exact wp_region_scr (U := (fun w' => ∃ s : KX B w0 n L E, w' = s.val)) (ops := [o0, o1, o2, o3, o4, o5, o6, o7, o8, o9, o10].toArray) (.free 0 (.free 2 (.free 3 (.free 6 (.read 1 (.read 4 (.alt 5 (.free 7 (.free 8 (.altc 9 (.free 10 .done) .stop))) .stop))))))) [1, 4] [0, 2, 3, 6, 7, 8, 10] hm hB ⟨⟨_, k.drew, e1⟩, rfl⟩ (Scr.of_free rfl g (fun _ g0 => Scr.of_free rfl g0 (fun _ g1 => Scr.of_free rfl g1 (fun _ g2 => Scr.of_free rfl g2 (fun _ g3 => Scr.of_read rfl g3 (fun _ g4 => Scr.of_read rfl g4 (fun _ g5 => (Scr.of_alt rfl (g5.1 _ (fun _ _ g => g)) (fun _ _ g6 => Scr.of_free rfl g6 (fun _ g7 => Scr.of_free rfl g7 (fun _ g8 => (Scr.of_altc rfl (g8.1 _ (fun _ _ g => g)) (fun _ _ g9 => Scr.of_free rfl g9 (fun _ g10 => g10)) trivial)))) trivial))))))))

theorem rg24_10 {P : Program} {B n : Nat} {w0 : World} {L : List (Nat × Nat × Value)} {E F : World → Prop} {id : Nat} {Q : Exit → Act → World → Prop} {a : Act} {w : World} {o0 o1 o2 o3 o4 o5 o6 o7 o8 o9 o10 o11 o12 : Oper} (hm : P.follows .mixedOrders = true)
    (hB : (Region.noSelect [o0, o1, o2, o3, o4, o5, o6, o7, o8, o9, o10, o11, o12].toArray && Scr.ok .any [o0, o1, o2, o3, o4, o5, o6, o7, o8, o9, o10, o11, o12].toArray [1, 4, 6] [0, 2, 3, 5, 8, 9, 10, 12] (.free 0 (.free 2 (.free 3 (.free 5 (.free 8 (.read 1 (.read 4 (.read 6 (.alt 7 (.free 9 (.free 10 (.altc 11 (.free 12 .done) .stop))) .stop))))))))) true true [o0, o1, o2, o3, o4, o5, o6, o7, o8, o9, o10, o11, o12].toArray.size (Array.replicate [o0, o1, o2, o3, o4, o5, o6, o7, o8, o9, o10, o11, o12].toArray.size false)) = true)
    (k : Kept B w0 n L w) (he : E w) (hE : ∀ W W', E W → Below W.heap.size W W' → E W') (hf : F w) (hF : ∀ W W', F W → Below W.heap.size W W' → F W')
    (h : ∀ wk, Kept B w0 n L wk → E wk → F wk → wpQuiet P [o0, o1, o2, o3, o4, o5, o6, o7, o8, o9, o10, o11, o12].toArray (fun _ => True) (fun a0 => wpQuiet P [o0, o1, o2, o3, o4, o5, o6, o7, o8, o9, o10, o11, o12].toArray (fun w' => ∃ s : KX B w0 n L E, w' = s.val) (fun a1 => ((∀ K2 : Act → World → Prop, (∀ a2 w2, wpQuiet P [o0, o1, o2, o3, o4, o5, o6, o7, o8, o9, o10, o11, o12].toArray (fun _ => True) (fun a3 => ((∀ K4 : Act → World → Prop, (∀ a4 w4, wpQuiet P [o0, o1, o2, o3, o4, o5, o6, o7, o8, o9, o10, o11, o12].toArray (fun _ => True) (fun a5 => Q .normal a5 w4) [o12] a4 → K4 a4 w4) → wpList P [o0, o1, o2, o3, o4, o5, o6, o7, o8, o9, o10, o11, o12].toArray (fun e a4 w4 => e = .normal ∧ K4 a4 w4) [o11] a3 w2) ∧ True)) [o9, o10] a2 → K2 a2 w2) → wpList P [o0, o1, o2, o3, o4, o5, o6, o7, o8, o9, o10, o11, o12].toArray (fun e a2 w2 => e = .normal ∧ (∃ s : KX B w0 n L E, w2 = s.val) ∧ K2 a2 w2) [o7] a1 wk) ∧ True)) [o1, o4, o6] a0) [o0, o2, o3, o5, o8] a) : (Code.region id [o0, o1, o2, o3, o4, o5, o6, o7, o8, o9, o10, o11, o12].toArray true).wp P Q a w := by
  have e1 : E w.drew := hE _ _ he ((Below.refl _ _).drew)
  have g := h _ k.drew e1 (hF _ _ hf ((Below.refl _ _).drew))
  exact wp_region_scr (U := (fun w' => ∃ s : KX B w0 n L E, w' = s.val)) (ops := [o0, o1, o2, o3, o4, o5, o6, o7, o8, o9, o10, o11, o12].toArray) (.free 0 (.free 2 (.free 3 (.free 5 (.free 8 (.read 1 (.read 4 (.read 6 (.alt 7 (.free 9 (.free 10 (.altc 11 (.free 12 .done) .stop))) .stop))))))))) [1, 4, 6] [0, 2, 3, 5, 8, 9, 10, 12] hm hB ⟨⟨_, k.drew, e1⟩, rfl⟩ (Scr.of_free rfl g (fun _ g0 => Scr.of_free rfl g0 (fun _ g1 => Scr.of_free rfl g1 (fun _ g2 => Scr.of_free rfl g2 (fun _ g3 => Scr.of_free rfl g3 (fun _ g4 => Scr.of_read rfl g4 (fun _ g5 => Scr.of_read rfl g5 (fun _ g6 => Scr.of_read rfl g6 (fun _ g7 => (Scr.of_alt rfl (g7.1 _ (fun _ _ g => g)) (fun _ _ g8 => Scr.of_free rfl g8 (fun _ g9 => Scr.of_free rfl g9 (fun _ g10 => (Scr.of_altc rfl (g10.1 _ (fun _ _ g => g)) (fun _ _ g11 => Scr.of_free rfl g11 (fun _ g12 => g12)) trivial)))) trivial))))))))))

theorem rg24_13 {P : Program} {B n : Nat} {w0 : World} {L : List (Nat × Nat × Value)} {E F : World → Prop} {id : Nat} {Q : Exit → Act → World → Prop} {a : Act} {w : World} {o0 o1 o2 o3 o4 o5 o6 o7 o8 o9 o10 o11 o12 : Oper} (hm : P.follows .mixedOrders = true)
    (hB : (Region.noSelect [o0, o1, o2, o3, o4, o5, o6, o7, o8, o9, o10, o11, o12].toArray && Scr.ok .any [o0, o1, o2, o3, o4, o5, o6, o7, o8, o9, o10, o11, o12].toArray [1, 4, 6] [0, 2, 3, 5, 8, 9, 10, 12] (.free 0 (.free 2 (.free 3 (.free 5 (.free 8 (.read 1 (.read 4 (.read 6 (.alt 7 (.free 9 (.free 10 (.altc 11 (.free 12 .done) .stop))) .stop))))))))) true true [o0, o1, o2, o3, o4, o5, o6, o7, o8, o9, o10, o11, o12].toArray.size (Array.replicate [o0, o1, o2, o3, o4, o5, o6, o7, o8, o9, o10, o11, o12].toArray.size false)) = true)
    (k : Kept B w0 n L w) (he : E w) (hE : ∀ W W', E W → Below W.heap.size W W' → E W') (hf : F w) (hF : ∀ W W', F W → Below W.heap.size W W' → F W')
    (h : ∀ wk, Kept B w0 n L wk → E wk → F wk → wpQuiet P [o0, o1, o2, o3, o4, o5, o6, o7, o8, o9, o10, o11, o12].toArray (fun _ => True) (fun a0 => wpQuiet P [o0, o1, o2, o3, o4, o5, o6, o7, o8, o9, o10, o11, o12].toArray (fun w' => ∃ s : KX B w0 n L E, w' = s.val) (fun a1 => ((∀ K2 : Act → World → Prop, (∀ a2 w2, wpQuiet P [o0, o1, o2, o3, o4, o5, o6, o7, o8, o9, o10, o11, o12].toArray (fun _ => True) (fun a3 => ((∀ K4 : Act → World → Prop, (∀ a4 w4, wpQuiet P [o0, o1, o2, o3, o4, o5, o6, o7, o8, o9, o10, o11, o12].toArray (fun _ => True) (fun a5 => Q .normal a5 w4) [o12] a4 → K4 a4 w4) → wpList P [o0, o1, o2, o3, o4, o5, o6, o7, o8, o9, o10, o11, o12].toArray (fun e a4 w4 => e = .normal ∧ K4 a4 w4) [o11] a3 w2) ∧ True)) [o9, o10] a2 → K2 a2 w2) → wpList P [o0, o1, o2, o3, o4, o5, o6, o7, o8, o9, o10, o11, o12].toArray (fun e a2 w2 => e = .normal ∧ (∃ s : KX B w0 n L E, w2 = s.val) ∧ K2 a2 w2) [o7] a1 wk) ∧ True)) [o1, o4, o6] a0) [o0, o2, o3, o5, o8] a) : (Code.region id [o0, o1, o2, o3, o4, o5, o6, o7, o8, o9, o10, o11, o12].toArray true).wp P Q a w := by
  have e1 : E w.drew := hE _ _ he ((Below.refl _ _).drew)
  have g := h _ k.drew e1 (hF _ _ hf ((Below.refl _ _).drew))
  exact wp_region_scr (U := (fun w' => ∃ s : KX B w0 n L E, w' = s.val)) (ops := [o0, o1, o2, o3, o4, o5, o6, o7, o8, o9, o10, o11, o12].toArray) (.free 0 (.free 2 (.free 3 (.free 5 (.free 8 (.read 1 (.read 4 (.read 6 (.alt 7 (.free 9 (.free 10 (.altc 11 (.free 12 .done) .stop))) .stop))))))))) [1, 4, 6] [0, 2, 3, 5, 8, 9, 10, 12] hm hB ⟨⟨_, k.drew, e1⟩, rfl⟩ (Scr.of_free rfl g (fun _ g0 => Scr.of_free rfl g0 (fun _ g1 => Scr.of_free rfl g1 (fun _ g2 => Scr.of_free rfl g2 (fun _ g3 => Scr.of_free rfl g3 (fun _ g4 => Scr.of_read rfl g4 (fun _ g5 => Scr.of_read rfl g5 (fun _ g6 => Scr.of_read rfl g6 (fun _ g7 => (Scr.of_alt rfl (g7.1 _ (fun _ _ g => g)) (fun _ _ g8 => Scr.of_free rfl g8 (fun _ g9 => Scr.of_free rfl g9 (fun _ g10 => (Scr.of_altc rfl (g10.1 _ (fun _ _ g => g)) (fun _ _ g11 => Scr.of_free rfl g11 (fun _ g12 => g12)) trivial)))) trivial))))))))))

theorem rg24_16 {P : Program} {B n : Nat} {w0 : World} {L : List (Nat × Nat × Value)} {E F : World → Prop} {id : Nat} {Q : Exit → Act → World → Prop} {a : Act} {w : World} {o0 o1 o2 o3 o4 : Oper} (hm : P.follows .mixedOrders = true)
    (hB : (Region.noSelect [o0, o1, o2, o3, o4].toArray && Scr.ok .any [o0, o1, o2, o3, o4].toArray [1] [0, 2, 4] (.free 0 (.free 2 (.read 1 (.altc 3 (.free 4 .done) .stop)))) true true [o0, o1, o2, o3, o4].toArray.size (Array.replicate [o0, o1, o2, o3, o4].toArray.size false)) = true)
    (k : Kept B w0 n L w) (he : E w) (hE : ∀ W W', E W → Below W.heap.size W W' → E W') (hf : F w) (hF : ∀ W W', F W → Below W.heap.size W W' → F W')
    (h : ∀ wk, Kept B w0 n L wk → E wk → F wk → wpQuiet P [o0, o1, o2, o3, o4].toArray (fun _ => True) (fun a0 => wpQuiet P [o0, o1, o2, o3, o4].toArray (fun w' => ∃ s : KX B w0 n L E, w' = s.val) (fun a1 => ((∀ K2 : Act → World → Prop, (∀ a2 w2, wpQuiet P [o0, o1, o2, o3, o4].toArray (fun _ => True) (fun a3 => Q .normal a3 w2) [o4] a2 → K2 a2 w2) → wpList P [o0, o1, o2, o3, o4].toArray (fun e a2 w2 => e = .normal ∧ K2 a2 w2) [o3] a1 wk) ∧ True)) [o1] a0) [o0, o2] a) : (Code.region id [o0, o1, o2, o3, o4].toArray true).wp P Q a w := by
  have e1 : E w.drew := hE _ _ he ((Below.refl _ _).drew)
  have g := h _ k.drew e1 (hF _ _ hf ((Below.refl _ _).drew))
  exact wp_region_scr (U := (fun w' => ∃ s : KX B w0 n L E, w' = s.val)) (ops := [o0, o1, o2, o3, o4].toArray) (.free 0 (.free 2 (.read 1 (.altc 3 (.free 4 .done) .stop)))) [1] [0, 2, 4] hm hB ⟨⟨_, k.drew, e1⟩, rfl⟩ (Scr.of_free rfl g (fun _ g0 => Scr.of_free rfl g0 (fun _ g1 => Scr.of_read rfl g1 (fun _ g2 => (Scr.of_altc rfl (g2.1 _ (fun _ _ g => g)) (fun _ _ g3 => Scr.of_free rfl g3 (fun _ g4 => g4)) trivial)))))

theorem rg24_20 {P : Program} {B n : Nat} {w0 : World} {L : List (Nat × Nat × Value)} {E F : World → Prop} {id : Nat} {Q : Exit → Act → World → Prop} {a : Act} {w : World} {o0 o1 o2 o3 o4 : Oper} (hm : P.follows .mixedOrders = true)
    (hB : (Region.noSelect [o0, o1, o2, o3, o4].toArray && Scr.ok .any [o0, o1, o2, o3, o4].toArray [1] [0, 2, 4] (.free 0 (.free 2 (.read 1 (.altc 3 (.free 4 .done) .stop)))) true true [o0, o1, o2, o3, o4].toArray.size (Array.replicate [o0, o1, o2, o3, o4].toArray.size false)) = true)
    (k : Kept B w0 n L w) (he : E w) (hE : ∀ W W', E W → Below W.heap.size W W' → E W') (hf : F w) (hF : ∀ W W', F W → Below W.heap.size W W' → F W')
    (h : ∀ wk, Kept B w0 n L wk → E wk → F wk → wpQuiet P [o0, o1, o2, o3, o4].toArray (fun _ => True) (fun a0 => wpQuiet P [o0, o1, o2, o3, o4].toArray (fun w' => ∃ s : KX B w0 n L E, w' = s.val) (fun a1 => ((∀ K2 : Act → World → Prop, (∀ a2 w2, wpQuiet P [o0, o1, o2, o3, o4].toArray (fun _ => True) (fun a3 => Q .normal a3 w2) [o4] a2 → K2 a2 w2) → wpList P [o0, o1, o2, o3, o4].toArray (fun e a2 w2 => e = .normal ∧ K2 a2 w2) [o3] a1 wk) ∧ True)) [o1] a0) [o0, o2] a) : (Code.region id [o0, o1, o2, o3, o4].toArray true).wp P Q a w := by
  have e1 : E w.drew := hE _ _ he ((Below.refl _ _).drew)
  have g := h _ k.drew e1 (hF _ _ hf ((Below.refl _ _).drew))
  exact wp_region_scr (U := (fun w' => ∃ s : KX B w0 n L E, w' = s.val)) (ops := [o0, o1, o2, o3, o4].toArray) (.free 0 (.free 2 (.read 1 (.altc 3 (.free 4 .done) .stop)))) [1] [0, 2, 4] hm hB ⟨⟨_, k.drew, e1⟩, rfl⟩ (Scr.of_free rfl g (fun _ g0 => Scr.of_free rfl g0 (fun _ g1 => Scr.of_read rfl g1 (fun _ g2 => (Scr.of_altc rfl (g2.1 _ (fun _ _ g => g)) (fun _ _ g3 => Scr.of_free rfl g3 (fun _ g4 => g4)) trivial)))))

/-- a call of Join, whatever comes of it -/
def JoinAny (P : Nat) (w : World) (e : Ending) (w' : World) : Prop := ∃ r b', e = .returned (.int .i64 r) ∧ BookAt w' P b' ∧ b'.Ok ∧ Only P w w'
theorem join14_1_any (P : Nat) (b : Bk) (t : Int) (w : World) (hb : BookAt w P b) (ok : b.Ok) : Calls Try.prog 14 #[.pointer (some ⟨P, 0, none⟩), .int .i64 1, .int .u64 t] w (JoinAny P w) := by
  cases hd : over b.d1 t
  · exact (join14_1 P b t w hb ok hd).mono fun _ _ ⟨h1, h2, h3⟩ => ⟨_, _, h1, h2, Ok.join1 ok, h3⟩
  · exact (join14_1_late P b t w hb ok hd).mono fun _ _ ⟨h1, h2, h3⟩ => ⟨_, _, h1, h2, ok, h3⟩

end Go.Proofs.Ytobkgdhniibopaa
