/-
  PROVED: the law ObjectTurns returns true for every input, and its arguments read afterwards as they read before (Rows.ObjectTurnsSaid). CONDITIONS: none.
-/
import Derived.Test.YtjedflfgafhlkaaRows
import Derived.Test.YtjedflfgafhlkaaOp
import Derived.Test.YtjedflfgafhlkaaKnown
import Derived.WalkKit
import Derived.ProofKit
import Derived.OpenShut
import Derived.Lib.SmallJoins
import Derived.Carry
namespace Go.Proofs.Ytjedflfgafhlkaa.objectTurns
open Go.ChangeShapes Go.WideShapes Go.ChangeAt Go.RowKit Go.WideMaps Go.WideElems
set_option linter.unusedVariables false
set_option linter.unusedSimpArgs false

theorem own : ownKnob Try.prog.godebug = none := by kernel_rfl
theorem laidOut : laidOutB Try.prog = true := by kernel_rfl
open Plain
theorem rg6_1 {P : Program} {B n : Nat} {w0 : World} {L : List (Nat × Nat × Value)} {E F : World → Prop} {id : Nat} {Q : Exit → Act → World → Prop} {a : Act} {w : World} {o0 o1 o2 o3 o4 o5 o6 o7 o8 o9 o10 o11 o12 o13 o14 o15 o16 o17 o18 o19 o20 o21 o22 o23 o24 : Oper} (hm : P.follows .mixedOrders = true)
    (hB : (Region.noSelect [o0, o1, o2, o3, o4, o5, o6, o7, o8, o9, o10, o11, o12, o13, o14, o15, o16, o17, o18, o19, o20, o21, o22, o23, o24].toArray && Scr.ok .any [o0, o1, o2, o3, o4, o5, o6, o7, o8, o9, o10, o11, o12, o13, o14, o15, o16, o17, o18, o19, o20, o21, o22, o23, o24].toArray [0, 2, 6, 8, 13, 16] [4, 5, 10, 11, 12, 14, 17, 19, 20, 21, 23, 24] (.read 0 (.read 2 (.alt 1 (.alt 3 (.free 4 (.free 5 (.read 6 (.read 8 (.alt 7 (.alt 9 (.free 10 (.free 11 (.free 12 (.free 14 (.free 17 (.read 13 (.read 16 (.alt 15 (.altc 18 (.free 19 (.free 20 (.free 21 (.altc 22 (.free 23 (.free 24 .done)) .stop)))) .stop) .stop)))))))) .stop) .stop))))) .stop) .stop))) true true [o0, o1, o2, o3, o4, o5, o6, o7, o8, o9, o10, o11, o12, o13, o14, o15, o16, o17, o18, o19, o20, o21, o22, o23, o24].toArray.size (Array.replicate [o0, o1, o2, o3, o4, o5, o6, o7, o8, o9, o10, o11, o12, o13, o14, o15, o16, o17, o18, o19, o20, o21, o22, o23, o24].toArray.size false)) = true)
    (k : Kept B w0 n L w) (he : E w) (hE : ∀ W W', E W → Below W.heap.size W W' → E W') (hf : F w) (hF : ∀ W W', F W → Below W.heap.size W W' → F W')
    (h : ∀ wk, Kept B w0 n L wk → E wk → F wk → wpQuiet P [o0, o1, o2, o3, o4, o5, o6, o7, o8, o9, o10, o11, o12, o13, o14, o15, o16, o17, o18, o19, o20, o21, o22, o23, o24].toArray (fun w' => ∃ s : KX B w0 n L E, w' = s.val) (fun a0 => ((∀ K1 : Act → World → Prop, (∀ a1 w1, ((∀ K2 : Act → World → Prop, (∀ a2 w2, wpQuiet P [o0, o1, o2, o3, o4, o5, o6, o7, o8, o9, o10, o11, o12, o13, o14, o15, o16, o17, o18, o19, o20, o21, o22, o23, o24].toArray (fun _ => True) (fun a3 => wpQuiet P [o0, o1, o2, o3, o4, o5, o6, o7, o8, o9, o10, o11, o12, o13, o14, o15, o16, o17, o18, o19, o20, o21, o22, o23, o24].toArray (fun w' => ∃ s : KX B w0 n L E, w' = s.val) (fun a4 => ((∀ K5 : Act → World → Prop, (∀ a5 w5, ((∀ K6 : Act → World → Prop, (∀ a6 w6, wpQuiet P [o0, o1, o2, o3, o4, o5, o6, o7, o8, o9, o10, o11, o12, o13, o14, o15, o16, o17, o18, o19, o20, o21, o22, o23, o24].toArray (fun _ => True) (fun a7 => wpQuiet P [o0, o1, o2, o3, o4, o5, o6, o7, o8, o9, o10, o11, o12, o13, o14, o15, o16, o17, o18, o19, o20, o21, o22, o23, o24].toArray (fun w' => ∃ s : KX B w0 n L E, w' = s.val) (fun a8 => ((∀ K9 : Act → World → Prop, (∀ a9 w9, ((∀ K10 : Act → World → Prop, (∀ a10 w10, wpQuiet P [o0, o1, o2, o3, o4, o5, o6, o7, o8, o9, o10, o11, o12, o13, o14, o15, o16, o17, o18, o19, o20, o21, o22, o23, o24].toArray (fun _ => True) (fun a11 => ((∀ K12 : Act → World → Prop, (∀ a12 w12, wpQuiet P [o0, o1, o2, o3, o4, o5, o6, o7, o8, o9, o10, o11, o12, o13, o14, o15, o16, o17, o18, o19, o20, o21, o22, o23, o24].toArray (fun _ => True) (fun a13 => Q .normal a13 w12) [o23, o24] a12 → K12 a12 w12) → wpList P [o0, o1, o2, o3, o4, o5, o6, o7, o8, o9, o10, o11, o12, o13, o14, o15, o16, o17, o18, o19, o20, o21, o22, o23, o24].toArray (fun e a12 w12 => e = .normal ∧ K12 a12 w12) [o22] a11 w10) ∧ True)) [o19, o20, o21] a10 → K10 a10 w10) → wpList P [o0, o1, o2, o3, o4, o5, o6, o7, o8, o9, o10, o11, o12, o13, o14, o15, o16, o17, o18, o19, o20, o21, o22, o23, o24].toArray (fun e a10 w10 => e = .normal ∧ K10 a10 w10) [o18] a9 w9) ∧ True) → K9 a9 w9) → wpList P [o0, o1, o2, o3, o4, o5, o6, o7, o8, o9, o10, o11, o12, o13, o14, o15, o16, o17, o18, o19, o20, o21, o22, o23, o24].toArray (fun e a9 w9 => e = .normal ∧ (∃ s : KX B w0 n L E, w9 = s.val) ∧ K9 a9 w9) [o15] a8 w6) ∧ True)) [o13, o16] a7) [o10, o11, o12, o14, o17] a6 → K6 a6 w6) → wpList P [o0, o1, o2, o3, o4, o5, o6, o7, o8, o9, o10, o11, o12, o13, o14, o15, o16, o17, o18, o19, o20, o21, o22, o23, o24].toArray (fun e a6 w6 => e = .normal ∧ (∃ s : KX B w0 n L E, w6 = s.val) ∧ K6 a6 w6) [o9] a5 w5) ∧ True) → K5 a5 w5) → wpList P [o0, o1, o2, o3, o4, o5, o6, o7, o8, o9, o10, o11, o12, o13, o14, o15, o16, o17, o18, o19, o20, o21, o22, o23, o24].toArray (fun e a5 w5 => e = .normal ∧ (∃ s : KX B w0 n L E, w5 = s.val) ∧ K5 a5 w5) [o7] a4 w2) ∧ True)) [o6, o8] a3) [o4, o5] a2 → K2 a2 w2) → wpList P [o0, o1, o2, o3, o4, o5, o6, o7, o8, o9, o10, o11, o12, o13, o14, o15, o16, o17, o18, o19, o20, o21, o22, o23, o24].toArray (fun e a2 w2 => e = .normal ∧ (∃ s : KX B w0 n L E, w2 = s.val) ∧ K2 a2 w2) [o3] a1 w1) ∧ True) → K1 a1 w1) → wpList P [o0, o1, o2, o3, o4, o5, o6, o7, o8, o9, o10, o11, o12, o13, o14, o15, o16, o17, o18, o19, o20, o21, o22, o23, o24].toArray (fun e a1 w1 => e = .normal ∧ (∃ s : KX B w0 n L E, w1 = s.val) ∧ K1 a1 w1) [o1] a0 wk) ∧ True)) [o0, o2] a) : (Code.region id [o0, o1, o2, o3, o4, o5, o6, o7, o8, o9, o10, o11, o12, o13, o14, o15, o16, o17, o18, o19, o20, o21, o22, o23, o24].toArray true).wp P Q a w := by
  have e1 : E w.drew := hE _ _ he ((Below.refl _ _).drew)
  have g := h _ k.drew e1 (hF _ _ hf ((Below.refl _ _).drew))
  exact wp_region_scr (U := (fun w' => ∃ s : KX B w0 n L E, w' = s.val)) (ops := [o0, o1, o2, o3, o4, o5, o6, o7, o8, o9, o10, o11, o12, o13, o14, o15, o16, o17, o18, o19, o20, o21, o22, o23, o24].toArray) (.read 0 (.read 2 (.alt 1 (.alt 3 (.free 4 (.free 5 (.read 6 (.read 8 (.alt 7 (.alt 9 (.free 10 (.free 11 (.free 12 (.free 14 (.free 17 (.read 13 (.read 16 (.alt 15 (.altc 18 (.free 19 (.free 20 (.free 21 (.altc 22 (.free 23 (.free 24 .done)) .stop)))) .stop) .stop)))))))) .stop) .stop))))) .stop) .stop))) [0, 2, 6, 8, 13, 16] [4, 5, 10, 11, 12, 14, 17, 19, 20, 21, 23, 24] hm hB ⟨⟨_, k.drew, e1⟩, rfl⟩ (Scr.of_read rfl g (fun _ g0 => Scr.of_read rfl g0 (fun _ g1 => (Scr.of_alt rfl (g1.1 _ (fun _ _ g => g)) (fun _ _ g2 => (Scr.of_alt rfl (g2.1 _ (fun _ _ g => g)) (fun _ _ g3 => Scr.of_free rfl g3 (fun _ g4 => Scr.of_free rfl g4 (fun _ g5 => Scr.of_read rfl g5 (fun _ g6 => Scr.of_read rfl g6 (fun _ g7 => (Scr.of_alt rfl (g7.1 _ (fun _ _ g => g)) (fun _ _ g8 => (Scr.of_alt rfl (g8.1 _ (fun _ _ g => g)) (fun _ _ g9 => Scr.of_free rfl g9 (fun _ g10 => Scr.of_free rfl g10 (fun _ g11 => Scr.of_free rfl g11 (fun _ g12 => Scr.of_free rfl g12 (fun _ g13 => Scr.of_free rfl g13 (fun _ g14 => Scr.of_read rfl g14 (fun _ g15 => Scr.of_read rfl g15 (fun _ g16 => (Scr.of_alt rfl (g16.1 _ (fun _ _ g => g)) (fun _ _ g17 => (Scr.of_altc rfl (g17.1 _ (fun _ _ g => g)) (fun _ _ g18 => Scr.of_free rfl g18 (fun _ g19 => Scr.of_free rfl g19 (fun _ g20 => Scr.of_free rfl g20 (fun _ g21 => (Scr.of_altc rfl (g21.1 _ (fun _ _ g => g)) (fun _ _ g22 => Scr.of_free rfl g22 (fun _ g23 => Scr.of_free rfl g23 (fun _ g24 => g24))) trivial))))) trivial)) trivial))))))))) trivial)) trivial)))))) trivial)) trivial))))

set_option maxRecDepth 100000 in
set_option maxHeartbeats 4000000 in
theorem walk (a0 : Ob) (a1 : Int) (w : World) (w0 : a0.I) (w1 : (Lit.int .i64 a1).wf = true) :
    Calls Try.prog 6 #[.agg #[.int .i64 a0.id, .int .i64 a0.cd, .int .i64 a0.ow, .int .i64 a0.po, .int .i64 a0.tg, .int .i64 a0.da, .int .i64 a0.co, .int .i64 a0.pp, .int .i64 a0.pt, .bool a0.ta, .bool a0.si, .bool a0.dm], .int .i64 a1] w fun e w' => e = .returned (.bool true) ∧ Below w.heap.size w w' := by
  clear w0 w1
  cases hz : (a1 == 2)
  · skip
    go_enter Try.func6, Try.ntmps6
    go_wp2_with fail
    refine rg6_1 (w0 := w) (B := w.heap.size) (n := w.heap.size + 1) (L := [(w.heap.size, 0, .int .i64 a0.id), (w.heap.size, 1, .int .i64 a0.cd), (w.heap.size, 2, .int .i64 a0.ow), (w.heap.size, 3, .int .i64 a0.po), (w.heap.size, 4, .int .i64 a0.tg), (w.heap.size, 5, .int .i64 a0.da), (w.heap.size, 6, .int .i64 a0.co), (w.heap.size, 7, .int .i64 a0.pp), (w.heap.size, 8, .int .i64 a0.pt), (w.heap.size, 9, .bool a0.ta), (w.heap.size, 10, .bool a0.si), (w.heap.size, 11, .bool a0.dm)]) (E := fun _ => True) (F := fun _ => True) (by kernel_rfl) (by kernel_rfl) ⟨by go_grown, by go_size, (by simp [go_sem] <;> omega)⟩ trivial (fun _ _ _ _ => trivial) trivial (fun _ _ _ _ => trivial) (fun w1 K_w1 E_w1 F_w1 => ?_)
    have _ne : Nonempty (KX (w.heap.size) w (w.heap.size + 1) [(w.heap.size, 0, .int .i64 a0.id), (w.heap.size, 1, .int .i64 a0.cd), (w.heap.size, 2, .int .i64 a0.ow), (w.heap.size, 3, .int .i64 a0.po), (w.heap.size, 4, .int .i64 a0.tg), (w.heap.size, 5, .int .i64 a0.da), (w.heap.size, 6, .int .i64 a0.co), (w.heap.size, 7, .int .i64 a0.pp), (w.heap.size, 8, .int .i64 a0.pt), (w.heap.size, 9, .bool a0.ta), (w.heap.size, 10, .bool a0.si), (w.heap.size, 11, .bool a0.dm)] (fun _ => True)) := ⟨⟨_, K_w1, E_w1⟩⟩
    have rB0 : ∀ s : KX (w.heap.size) w (w.heap.size + 1) [(w.heap.size, 0, .int .i64 a0.id), (w.heap.size, 1, .int .i64 a0.cd), (w.heap.size, 2, .int .i64 a0.ow), (w.heap.size, 3, .int .i64 a0.po), (w.heap.size, 4, .int .i64 a0.tg), (w.heap.size, 5, .int .i64 a0.da), (w.heap.size, 6, .int .i64 a0.co), (w.heap.size, 7, .int .i64 a0.pp), (w.heap.size, 8, .int .i64 a0.pt), (w.heap.size, 9, .bool a0.ta), (w.heap.size, 10, .bool a0.si), (w.heap.size, 11, .bool a0.dm)] (fun _ => True), s.val.cell? ⟨w.heap.size, 0, none⟩ = some (.int .i64 a0.id) := fun s => s.kept.at (by simp)
    have rB1 : ∀ s : KX (w.heap.size) w (w.heap.size + 1) [(w.heap.size, 0, .int .i64 a0.id), (w.heap.size, 1, .int .i64 a0.cd), (w.heap.size, 2, .int .i64 a0.ow), (w.heap.size, 3, .int .i64 a0.po), (w.heap.size, 4, .int .i64 a0.tg), (w.heap.size, 5, .int .i64 a0.da), (w.heap.size, 6, .int .i64 a0.co), (w.heap.size, 7, .int .i64 a0.pp), (w.heap.size, 8, .int .i64 a0.pt), (w.heap.size, 9, .bool a0.ta), (w.heap.size, 10, .bool a0.si), (w.heap.size, 11, .bool a0.dm)] (fun _ => True), s.val.cell? ⟨w.heap.size, 1, none⟩ = some (.int .i64 a0.cd) := fun s => s.kept.at (by simp)
    have rB2 : ∀ s : KX (w.heap.size) w (w.heap.size + 1) [(w.heap.size, 0, .int .i64 a0.id), (w.heap.size, 1, .int .i64 a0.cd), (w.heap.size, 2, .int .i64 a0.ow), (w.heap.size, 3, .int .i64 a0.po), (w.heap.size, 4, .int .i64 a0.tg), (w.heap.size, 5, .int .i64 a0.da), (w.heap.size, 6, .int .i64 a0.co), (w.heap.size, 7, .int .i64 a0.pp), (w.heap.size, 8, .int .i64 a0.pt), (w.heap.size, 9, .bool a0.ta), (w.heap.size, 10, .bool a0.si), (w.heap.size, 11, .bool a0.dm)] (fun _ => True), s.val.cell? ⟨w.heap.size, 2, none⟩ = some (.int .i64 a0.ow) := fun s => s.kept.at (by simp)
    have rB3 : ∀ s : KX (w.heap.size) w (w.heap.size + 1) [(w.heap.size, 0, .int .i64 a0.id), (w.heap.size, 1, .int .i64 a0.cd), (w.heap.size, 2, .int .i64 a0.ow), (w.heap.size, 3, .int .i64 a0.po), (w.heap.size, 4, .int .i64 a0.tg), (w.heap.size, 5, .int .i64 a0.da), (w.heap.size, 6, .int .i64 a0.co), (w.heap.size, 7, .int .i64 a0.pp), (w.heap.size, 8, .int .i64 a0.pt), (w.heap.size, 9, .bool a0.ta), (w.heap.size, 10, .bool a0.si), (w.heap.size, 11, .bool a0.dm)] (fun _ => True), s.val.cell? ⟨w.heap.size, 3, none⟩ = some (.int .i64 a0.po) := fun s => s.kept.at (by simp)
    have rB4 : ∀ s : KX (w.heap.size) w (w.heap.size + 1) [(w.heap.size, 0, .int .i64 a0.id), (w.heap.size, 1, .int .i64 a0.cd), (w.heap.size, 2, .int .i64 a0.ow), (w.heap.size, 3, .int .i64 a0.po), (w.heap.size, 4, .int .i64 a0.tg), (w.heap.size, 5, .int .i64 a0.da), (w.heap.size, 6, .int .i64 a0.co), (w.heap.size, 7, .int .i64 a0.pp), (w.heap.size, 8, .int .i64 a0.pt), (w.heap.size, 9, .bool a0.ta), (w.heap.size, 10, .bool a0.si), (w.heap.size, 11, .bool a0.dm)] (fun _ => True), s.val.cell? ⟨w.heap.size, 4, none⟩ = some (.int .i64 a0.tg) := fun s => s.kept.at (by simp)
    have rB5 : ∀ s : KX (w.heap.size) w (w.heap.size + 1) [(w.heap.size, 0, .int .i64 a0.id), (w.heap.size, 1, .int .i64 a0.cd), (w.heap.size, 2, .int .i64 a0.ow), (w.heap.size, 3, .int .i64 a0.po), (w.heap.size, 4, .int .i64 a0.tg), (w.heap.size, 5, .int .i64 a0.da), (w.heap.size, 6, .int .i64 a0.co), (w.heap.size, 7, .int .i64 a0.pp), (w.heap.size, 8, .int .i64 a0.pt), (w.heap.size, 9, .bool a0.ta), (w.heap.size, 10, .bool a0.si), (w.heap.size, 11, .bool a0.dm)] (fun _ => True), s.val.cell? ⟨w.heap.size, 5, none⟩ = some (.int .i64 a0.da) := fun s => s.kept.at (by simp)
    have rB6 : ∀ s : KX (w.heap.size) w (w.heap.size + 1) [(w.heap.size, 0, .int .i64 a0.id), (w.heap.size, 1, .int .i64 a0.cd), (w.heap.size, 2, .int .i64 a0.ow), (w.heap.size, 3, .int .i64 a0.po), (w.heap.size, 4, .int .i64 a0.tg), (w.heap.size, 5, .int .i64 a0.da), (w.heap.size, 6, .int .i64 a0.co), (w.heap.size, 7, .int .i64 a0.pp), (w.heap.size, 8, .int .i64 a0.pt), (w.heap.size, 9, .bool a0.ta), (w.heap.size, 10, .bool a0.si), (w.heap.size, 11, .bool a0.dm)] (fun _ => True), s.val.cell? ⟨w.heap.size, 6, none⟩ = some (.int .i64 a0.co) := fun s => s.kept.at (by simp)
    have rB7 : ∀ s : KX (w.heap.size) w (w.heap.size + 1) [(w.heap.size, 0, .int .i64 a0.id), (w.heap.size, 1, .int .i64 a0.cd), (w.heap.size, 2, .int .i64 a0.ow), (w.heap.size, 3, .int .i64 a0.po), (w.heap.size, 4, .int .i64 a0.tg), (w.heap.size, 5, .int .i64 a0.da), (w.heap.size, 6, .int .i64 a0.co), (w.heap.size, 7, .int .i64 a0.pp), (w.heap.size, 8, .int .i64 a0.pt), (w.heap.size, 9, .bool a0.ta), (w.heap.size, 10, .bool a0.si), (w.heap.size, 11, .bool a0.dm)] (fun _ => True), s.val.cell? ⟨w.heap.size, 7, none⟩ = some (.int .i64 a0.pp) := fun s => s.kept.at (by simp)
    have rB8 : ∀ s : KX (w.heap.size) w (w.heap.size + 1) [(w.heap.size, 0, .int .i64 a0.id), (w.heap.size, 1, .int .i64 a0.cd), (w.heap.size, 2, .int .i64 a0.ow), (w.heap.size, 3, .int .i64 a0.po), (w.heap.size, 4, .int .i64 a0.tg), (w.heap.size, 5, .int .i64 a0.da), (w.heap.size, 6, .int .i64 a0.co), (w.heap.size, 7, .int .i64 a0.pp), (w.heap.size, 8, .int .i64 a0.pt), (w.heap.size, 9, .bool a0.ta), (w.heap.size, 10, .bool a0.si), (w.heap.size, 11, .bool a0.dm)] (fun _ => True), s.val.cell? ⟨w.heap.size, 8, none⟩ = some (.int .i64 a0.pt) := fun s => s.kept.at (by simp)
    have rB9 : ∀ s : KX (w.heap.size) w (w.heap.size + 1) [(w.heap.size, 0, .int .i64 a0.id), (w.heap.size, 1, .int .i64 a0.cd), (w.heap.size, 2, .int .i64 a0.ow), (w.heap.size, 3, .int .i64 a0.po), (w.heap.size, 4, .int .i64 a0.tg), (w.heap.size, 5, .int .i64 a0.da), (w.heap.size, 6, .int .i64 a0.co), (w.heap.size, 7, .int .i64 a0.pp), (w.heap.size, 8, .int .i64 a0.pt), (w.heap.size, 9, .bool a0.ta), (w.heap.size, 10, .bool a0.si), (w.heap.size, 11, .bool a0.dm)] (fun _ => True), s.val.cell? ⟨w.heap.size, 9, none⟩ = some (.bool a0.ta) := fun s => s.kept.at (by simp)
    have rB10 : ∀ s : KX (w.heap.size) w (w.heap.size + 1) [(w.heap.size, 0, .int .i64 a0.id), (w.heap.size, 1, .int .i64 a0.cd), (w.heap.size, 2, .int .i64 a0.ow), (w.heap.size, 3, .int .i64 a0.po), (w.heap.size, 4, .int .i64 a0.tg), (w.heap.size, 5, .int .i64 a0.da), (w.heap.size, 6, .int .i64 a0.co), (w.heap.size, 7, .int .i64 a0.pp), (w.heap.size, 8, .int .i64 a0.pt), (w.heap.size, 9, .bool a0.ta), (w.heap.size, 10, .bool a0.si), (w.heap.size, 11, .bool a0.dm)] (fun _ => True), s.val.cell? ⟨w.heap.size, 10, none⟩ = some (.bool a0.si) := fun s => s.kept.at (by simp)
    have rB11 : ∀ s : KX (w.heap.size) w (w.heap.size + 1) [(w.heap.size, 0, .int .i64 a0.id), (w.heap.size, 1, .int .i64 a0.cd), (w.heap.size, 2, .int .i64 a0.ow), (w.heap.size, 3, .int .i64 a0.po), (w.heap.size, 4, .int .i64 a0.tg), (w.heap.size, 5, .int .i64 a0.da), (w.heap.size, 6, .int .i64 a0.co), (w.heap.size, 7, .int .i64 a0.pp), (w.heap.size, 8, .int .i64 a0.pt), (w.heap.size, 9, .bool a0.ta), (w.heap.size, 10, .bool a0.si), (w.heap.size, 11, .bool a0.dm)] (fun _ => True), s.val.cell? ⟨w.heap.size, 11, none⟩ = some (.bool a0.dm) := fun s => s.kept.at (by simp)
    repeat (go_big_quiet_step (fail))
    refine wpQuiet_nil ?_
    clear rB0 rB1 rB2 rB3 rB4 rB5 rB6 rB7 rB8 rB9 rB10 rB11
    have KH_w1 := Lib.hid K_w1
    have hw_w1 := K_w1.below
    have hz_w1 := K_w1.size
    have lB_w1 : w.heap.size < w1.heap.size := by omega
    clear K_w1
    clear E_w1 F_w1
    refine ⟨fun K hK0 => ?_, trivial⟩
    have hK := Lib.hid hK0
    clear hK0
    go_wp2_with fail
    with_reducible refine (ountap a0 _).mono ?_
    rintro e w2 ⟨rfl, hb_w2⟩
    have K_w2 : Kept w.heap.size w (w.heap.size + 1) [(w.heap.size, 0, .int .i64 a0.id), (w.heap.size, 1, .int .i64 a0.cd), (w.heap.size, 2, .int .i64 a0.ow), (w.heap.size, 3, .int .i64 a0.po), (w.heap.size, 4, .int .i64 a0.tg), (w.heap.size, 5, .int .i64 a0.da), (w.heap.size, 6, .int .i64 a0.co), (w.heap.size, 7, .int .i64 a0.pp), (w.heap.size, 8, .int .i64 a0.pt), (w.heap.size, 9, .bool a0.ta), (w.heap.size, 10, .bool a0.si), (w.heap.size, 11, .bool a0.dm)] w2 := (KH_w1.out.step (by omega) (by go_grown)).step (by omega) hb_w2
    clear hb_w2
    have KH_w2 := Lib.hid K_w2
    have hw_w2 := K_w2.below
    have hz_w2 := K_w2.size
    have lB_w2 : w.heap.size < w2.heap.size := by omega
    clear lB_w1
    clear K_w2
    go_wp2_with fail
    first | (refine ⟨rfl, ⟨⟨_, KH_w2.out, trivial⟩, rfl⟩, hK.out _ _ ?_⟩; clear hK K) | (refine ⟨⟨⟨_, KH_w2.out, trivial⟩, rfl⟩, hK.out _ _ ?_⟩; clear hK K)
    refine ⟨fun K hK0 => ?_, trivial⟩
    have hK := Lib.hid hK0
    clear hK0
    go_wp2_with fail
    with_reducible refine (runtap a0 _).mono ?_
    rintro e w3 ⟨rfl, hb_w3⟩
    have K_w3 : Kept w.heap.size w (w.heap.size + 1) [(w.heap.size, 0, .int .i64 a0.id), (w.heap.size, 1, .int .i64 a0.cd), (w.heap.size, 2, .int .i64 a0.ow), (w.heap.size, 3, .int .i64 a0.po), (w.heap.size, 4, .int .i64 a0.tg), (w.heap.size, 5, .int .i64 a0.da), (w.heap.size, 6, .int .i64 a0.co), (w.heap.size, 7, .int .i64 a0.pp), (w.heap.size, 8, .int .i64 a0.pt), (w.heap.size, 9, .bool a0.ta), (w.heap.size, 10, .bool a0.si), (w.heap.size, 11, .bool a0.dm)] w3 := (KH_w2.out.step (by omega) (by go_grown)).step (by omega) hb_w3
    clear hb_w3
    have KH_w3 := Lib.hid K_w3
    have hw_w3 := K_w3.below
    have hz_w3 := K_w3.size
    have lB_w3 : w.heap.size < w3.heap.size := by omega
    clear lB_w2
    clear K_w3
    go_wp2_with fail
    first | (refine ⟨rfl, ⟨⟨_, KH_w3.out, trivial⟩, rfl⟩, hK.out _ _ ?_⟩; clear hK K) | (refine ⟨⟨⟨_, KH_w3.out, trivial⟩, rfl⟩, hK.out _ _ ?_⟩; clear hK K)
    repeat (go_big_quiet_step (fail))
    refine wpQuiet_nil ?_
    have rB0 : ∀ s : KX (w.heap.size) w (w.heap.size + 1) [(w.heap.size, 0, .int .i64 a0.id), (w.heap.size, 1, .int .i64 a0.cd), (w.heap.size, 2, .int .i64 a0.ow), (w.heap.size, 3, .int .i64 a0.po), (w.heap.size, 4, .int .i64 a0.tg), (w.heap.size, 5, .int .i64 a0.da), (w.heap.size, 6, .int .i64 a0.co), (w.heap.size, 7, .int .i64 a0.pp), (w.heap.size, 8, .int .i64 a0.pt), (w.heap.size, 9, .bool a0.ta), (w.heap.size, 10, .bool a0.si), (w.heap.size, 11, .bool a0.dm)] (fun _ => True), s.val.cell? ⟨w.heap.size, 0, none⟩ = some (.int .i64 a0.id) := fun s => s.kept.at (by simp)
    have rB1 : ∀ s : KX (w.heap.size) w (w.heap.size + 1) [(w.heap.size, 0, .int .i64 a0.id), (w.heap.size, 1, .int .i64 a0.cd), (w.heap.size, 2, .int .i64 a0.ow), (w.heap.size, 3, .int .i64 a0.po), (w.heap.size, 4, .int .i64 a0.tg), (w.heap.size, 5, .int .i64 a0.da), (w.heap.size, 6, .int .i64 a0.co), (w.heap.size, 7, .int .i64 a0.pp), (w.heap.size, 8, .int .i64 a0.pt), (w.heap.size, 9, .bool a0.ta), (w.heap.size, 10, .bool a0.si), (w.heap.size, 11, .bool a0.dm)] (fun _ => True), s.val.cell? ⟨w.heap.size, 1, none⟩ = some (.int .i64 a0.cd) := fun s => s.kept.at (by simp)
    have rB2 : ∀ s : KX (w.heap.size) w (w.heap.size + 1) [(w.heap.size, 0, .int .i64 a0.id), (w.heap.size, 1, .int .i64 a0.cd), (w.heap.size, 2, .int .i64 a0.ow), (w.heap.size, 3, .int .i64 a0.po), (w.heap.size, 4, .int .i64 a0.tg), (w.heap.size, 5, .int .i64 a0.da), (w.heap.size, 6, .int .i64 a0.co), (w.heap.size, 7, .int .i64 a0.pp), (w.heap.size, 8, .int .i64 a0.pt), (w.heap.size, 9, .bool a0.ta), (w.heap.size, 10, .bool a0.si), (w.heap.size, 11, .bool a0.dm)] (fun _ => True), s.val.cell? ⟨w.heap.size, 2, none⟩ = some (.int .i64 a0.ow) := fun s => s.kept.at (by simp)
    have rB3 : ∀ s : KX (w.heap.size) w (w.heap.size + 1) [(w.heap.size, 0, .int .i64 a0.id), (w.heap.size, 1, .int .i64 a0.cd), (w.heap.size, 2, .int .i64 a0.ow), (w.heap.size, 3, .int .i64 a0.po), (w.heap.size, 4, .int .i64 a0.tg), (w.heap.size, 5, .int .i64 a0.da), (w.heap.size, 6, .int .i64 a0.co), (w.heap.size, 7, .int .i64 a0.pp), (w.heap.size, 8, .int .i64 a0.pt), (w.heap.size, 9, .bool a0.ta), (w.heap.size, 10, .bool a0.si), (w.heap.size, 11, .bool a0.dm)] (fun _ => True), s.val.cell? ⟨w.heap.size, 3, none⟩ = some (.int .i64 a0.po) := fun s => s.kept.at (by simp)
    have rB4 : ∀ s : KX (w.heap.size) w (w.heap.size + 1) [(w.heap.size, 0, .int .i64 a0.id), (w.heap.size, 1, .int .i64 a0.cd), (w.heap.size, 2, .int .i64 a0.ow), (w.heap.size, 3, .int .i64 a0.po), (w.heap.size, 4, .int .i64 a0.tg), (w.heap.size, 5, .int .i64 a0.da), (w.heap.size, 6, .int .i64 a0.co), (w.heap.size, 7, .int .i64 a0.pp), (w.heap.size, 8, .int .i64 a0.pt), (w.heap.size, 9, .bool a0.ta), (w.heap.size, 10, .bool a0.si), (w.heap.size, 11, .bool a0.dm)] (fun _ => True), s.val.cell? ⟨w.heap.size, 4, none⟩ = some (.int .i64 a0.tg) := fun s => s.kept.at (by simp)
    have rB5 : ∀ s : KX (w.heap.size) w (w.heap.size + 1) [(w.heap.size, 0, .int .i64 a0.id), (w.heap.size, 1, .int .i64 a0.cd), (w.heap.size, 2, .int .i64 a0.ow), (w.heap.size, 3, .int .i64 a0.po), (w.heap.size, 4, .int .i64 a0.tg), (w.heap.size, 5, .int .i64 a0.da), (w.heap.size, 6, .int .i64 a0.co), (w.heap.size, 7, .int .i64 a0.pp), (w.heap.size, 8, .int .i64 a0.pt), (w.heap.size, 9, .bool a0.ta), (w.heap.size, 10, .bool a0.si), (w.heap.size, 11, .bool a0.dm)] (fun _ => True), s.val.cell? ⟨w.heap.size, 5, none⟩ = some (.int .i64 a0.da) := fun s => s.kept.at (by simp)
    have rB6 : ∀ s : KX (w.heap.size) w (w.heap.size + 1) [(w.heap.size, 0, .int .i64 a0.id), (w.heap.size, 1, .int .i64 a0.cd), (w.heap.size, 2, .int .i64 a0.ow), (w.heap.size, 3, .int .i64 a0.po), (w.heap.size, 4, .int .i64 a0.tg), (w.heap.size, 5, .int .i64 a0.da), (w.heap.size, 6, .int .i64 a0.co), (w.heap.size, 7, .int .i64 a0.pp), (w.heap.size, 8, .int .i64 a0.pt), (w.heap.size, 9, .bool a0.ta), (w.heap.size, 10, .bool a0.si), (w.heap.size, 11, .bool a0.dm)] (fun _ => True), s.val.cell? ⟨w.heap.size, 6, none⟩ = some (.int .i64 a0.co) := fun s => s.kept.at (by simp)
    have rB7 : ∀ s : KX (w.heap.size) w (w.heap.size + 1) [(w.heap.size, 0, .int .i64 a0.id), (w.heap.size, 1, .int .i64 a0.cd), (w.heap.size, 2, .int .i64 a0.ow), (w.heap.size, 3, .int .i64 a0.po), (w.heap.size, 4, .int .i64 a0.tg), (w.heap.size, 5, .int .i64 a0.da), (w.heap.size, 6, .int .i64 a0.co), (w.heap.size, 7, .int .i64 a0.pp), (w.heap.size, 8, .int .i64 a0.pt), (w.heap.size, 9, .bool a0.ta), (w.heap.size, 10, .bool a0.si), (w.heap.size, 11, .bool a0.dm)] (fun _ => True), s.val.cell? ⟨w.heap.size, 7, none⟩ = some (.int .i64 a0.pp) := fun s => s.kept.at (by simp)
    have rB8 : ∀ s : KX (w.heap.size) w (w.heap.size + 1) [(w.heap.size, 0, .int .i64 a0.id), (w.heap.size, 1, .int .i64 a0.cd), (w.heap.size, 2, .int .i64 a0.ow), (w.heap.size, 3, .int .i64 a0.po), (w.heap.size, 4, .int .i64 a0.tg), (w.heap.size, 5, .int .i64 a0.da), (w.heap.size, 6, .int .i64 a0.co), (w.heap.size, 7, .int .i64 a0.pp), (w.heap.size, 8, .int .i64 a0.pt), (w.heap.size, 9, .bool a0.ta), (w.heap.size, 10, .bool a0.si), (w.heap.size, 11, .bool a0.dm)] (fun _ => True), s.val.cell? ⟨w.heap.size, 8, none⟩ = some (.int .i64 a0.pt) := fun s => s.kept.at (by simp)
    have rB9 : ∀ s : KX (w.heap.size) w (w.heap.size + 1) [(w.heap.size, 0, .int .i64 a0.id), (w.heap.size, 1, .int .i64 a0.cd), (w.heap.size, 2, .int .i64 a0.ow), (w.heap.size, 3, .int .i64 a0.po), (w.heap.size, 4, .int .i64 a0.tg), (w.heap.size, 5, .int .i64 a0.da), (w.heap.size, 6, .int .i64 a0.co), (w.heap.size, 7, .int .i64 a0.pp), (w.heap.size, 8, .int .i64 a0.pt), (w.heap.size, 9, .bool a0.ta), (w.heap.size, 10, .bool a0.si), (w.heap.size, 11, .bool a0.dm)] (fun _ => True), s.val.cell? ⟨w.heap.size, 9, none⟩ = some (.bool a0.ta) := fun s => s.kept.at (by simp)
    have rB10 : ∀ s : KX (w.heap.size) w (w.heap.size + 1) [(w.heap.size, 0, .int .i64 a0.id), (w.heap.size, 1, .int .i64 a0.cd), (w.heap.size, 2, .int .i64 a0.ow), (w.heap.size, 3, .int .i64 a0.po), (w.heap.size, 4, .int .i64 a0.tg), (w.heap.size, 5, .int .i64 a0.da), (w.heap.size, 6, .int .i64 a0.co), (w.heap.size, 7, .int .i64 a0.pp), (w.heap.size, 8, .int .i64 a0.pt), (w.heap.size, 9, .bool a0.ta), (w.heap.size, 10, .bool a0.si), (w.heap.size, 11, .bool a0.dm)] (fun _ => True), s.val.cell? ⟨w.heap.size, 10, none⟩ = some (.bool a0.si) := fun s => s.kept.at (by simp)
    have rB11 : ∀ s : KX (w.heap.size) w (w.heap.size + 1) [(w.heap.size, 0, .int .i64 a0.id), (w.heap.size, 1, .int .i64 a0.cd), (w.heap.size, 2, .int .i64 a0.ow), (w.heap.size, 3, .int .i64 a0.po), (w.heap.size, 4, .int .i64 a0.tg), (w.heap.size, 5, .int .i64 a0.da), (w.heap.size, 6, .int .i64 a0.co), (w.heap.size, 7, .int .i64 a0.pp), (w.heap.size, 8, .int .i64 a0.pt), (w.heap.size, 9, .bool a0.ta), (w.heap.size, 10, .bool a0.si), (w.heap.size, 11, .bool a0.dm)] (fun _ => True), s.val.cell? ⟨w.heap.size, 11, none⟩ = some (.bool a0.dm) := fun s => s.kept.at (by simp)
    repeat (go_big_quiet_step (fail))
    refine wpQuiet_nil ?_
    clear rB0 rB1 rB2 rB3 rB4 rB5 rB6 rB7 rB8 rB9 rB10 rB11
    refine ⟨fun K hK0 => ?_, trivial⟩
    have hK := Lib.hid hK0
    clear hK0
    go_wp2_with fail
    with_reducible refine (orest a0 _).mono ?_
    rintro e w4 ⟨rfl, hb_w4⟩
    have K_w4 : Kept w.heap.size w (w.heap.size + 1) [(w.heap.size, 0, .int .i64 a0.id), (w.heap.size, 1, .int .i64 a0.cd), (w.heap.size, 2, .int .i64 a0.ow), (w.heap.size, 3, .int .i64 a0.po), (w.heap.size, 4, .int .i64 a0.tg), (w.heap.size, 5, .int .i64 a0.da), (w.heap.size, 6, .int .i64 a0.co), (w.heap.size, 7, .int .i64 a0.pp), (w.heap.size, 8, .int .i64 a0.pt), (w.heap.size, 9, .bool a0.ta), (w.heap.size, 10, .bool a0.si), (w.heap.size, 11, .bool a0.dm)] w4 := (KH_w3.out.step (by omega) (by go_grown)).step (by omega) hb_w4
    clear hb_w4
    have KH_w4 := Lib.hid K_w4
    have hw_w4 := K_w4.below
    have hz_w4 := K_w4.size
    have lB_w4 : w.heap.size < w4.heap.size := by omega
    clear lB_w3
    clear K_w4
    go_wp2_with fail
    first | (refine ⟨rfl, ⟨⟨_, KH_w4.out, trivial⟩, rfl⟩, hK.out _ _ ?_⟩; clear hK K) | (refine ⟨⟨⟨_, KH_w4.out, trivial⟩, rfl⟩, hK.out _ _ ?_⟩; clear hK K)
    refine ⟨fun K hK0 => ?_, trivial⟩
    have hK := Lib.hid hK0
    clear hK0
    go_wp2_with fail
    with_reducible refine (rrest a0 _).mono ?_
    rintro e w5 ⟨rfl, hb_w5⟩
    have K_w5 : Kept w.heap.size w (w.heap.size + 1) [(w.heap.size, 0, .int .i64 a0.id), (w.heap.size, 1, .int .i64 a0.cd), (w.heap.size, 2, .int .i64 a0.ow), (w.heap.size, 3, .int .i64 a0.po), (w.heap.size, 4, .int .i64 a0.tg), (w.heap.size, 5, .int .i64 a0.da), (w.heap.size, 6, .int .i64 a0.co), (w.heap.size, 7, .int .i64 a0.pp), (w.heap.size, 8, .int .i64 a0.pt), (w.heap.size, 9, .bool a0.ta), (w.heap.size, 10, .bool a0.si), (w.heap.size, 11, .bool a0.dm)] w5 := (KH_w4.out.step (by omega) (by go_grown)).step (by omega) hb_w5
    clear hb_w5
    have KH_w5 := Lib.hid K_w5
    have hw_w5 := K_w5.below
    have hz_w5 := K_w5.size
    have lB_w5 : w.heap.size < w5.heap.size := by omega
    clear lB_w4
    clear K_w5
    go_wp2_with fail
    first | (refine ⟨rfl, ⟨⟨_, KH_w5.out, trivial⟩, rfl⟩, hK.out _ _ ?_⟩; clear hK K) | (refine ⟨⟨⟨_, KH_w5.out, trivial⟩, rfl⟩, hK.out _ _ ?_⟩; clear hK K)
    repeat (go_big_quiet_step (fail))
    refine wpQuiet_nil ?_
    have rB0 : ∀ s : KX (w.heap.size) w (w.heap.size + 1) [(w.heap.size, 0, .int .i64 a0.id), (w.heap.size, 1, .int .i64 a0.cd), (w.heap.size, 2, .int .i64 a0.ow), (w.heap.size, 3, .int .i64 a0.po), (w.heap.size, 4, .int .i64 a0.tg), (w.heap.size, 5, .int .i64 a0.da), (w.heap.size, 6, .int .i64 a0.co), (w.heap.size, 7, .int .i64 a0.pp), (w.heap.size, 8, .int .i64 a0.pt), (w.heap.size, 9, .bool a0.ta), (w.heap.size, 10, .bool a0.si), (w.heap.size, 11, .bool a0.dm)] (fun _ => True), s.val.cell? ⟨w.heap.size, 0, none⟩ = some (.int .i64 a0.id) := fun s => s.kept.at (by simp)
    have rB1 : ∀ s : KX (w.heap.size) w (w.heap.size + 1) [(w.heap.size, 0, .int .i64 a0.id), (w.heap.size, 1, .int .i64 a0.cd), (w.heap.size, 2, .int .i64 a0.ow), (w.heap.size, 3, .int .i64 a0.po), (w.heap.size, 4, .int .i64 a0.tg), (w.heap.size, 5, .int .i64 a0.da), (w.heap.size, 6, .int .i64 a0.co), (w.heap.size, 7, .int .i64 a0.pp), (w.heap.size, 8, .int .i64 a0.pt), (w.heap.size, 9, .bool a0.ta), (w.heap.size, 10, .bool a0.si), (w.heap.size, 11, .bool a0.dm)] (fun _ => True), s.val.cell? ⟨w.heap.size, 1, none⟩ = some (.int .i64 a0.cd) := fun s => s.kept.at (by simp)
    have rB2 : ∀ s : KX (w.heap.size) w (w.heap.size + 1) [(w.heap.size, 0, .int .i64 a0.id), (w.heap.size, 1, .int .i64 a0.cd), (w.heap.size, 2, .int .i64 a0.ow), (w.heap.size, 3, .int .i64 a0.po), (w.heap.size, 4, .int .i64 a0.tg), (w.heap.size, 5, .int .i64 a0.da), (w.heap.size, 6, .int .i64 a0.co), (w.heap.size, 7, .int .i64 a0.pp), (w.heap.size, 8, .int .i64 a0.pt), (w.heap.size, 9, .bool a0.ta), (w.heap.size, 10, .bool a0.si), (w.heap.size, 11, .bool a0.dm)] (fun _ => True), s.val.cell? ⟨w.heap.size, 2, none⟩ = some (.int .i64 a0.ow) := fun s => s.kept.at (by simp)
    have rB3 : ∀ s : KX (w.heap.size) w (w.heap.size + 1) [(w.heap.size, 0, .int .i64 a0.id), (w.heap.size, 1, .int .i64 a0.cd), (w.heap.size, 2, .int .i64 a0.ow), (w.heap.size, 3, .int .i64 a0.po), (w.heap.size, 4, .int .i64 a0.tg), (w.heap.size, 5, .int .i64 a0.da), (w.heap.size, 6, .int .i64 a0.co), (w.heap.size, 7, .int .i64 a0.pp), (w.heap.size, 8, .int .i64 a0.pt), (w.heap.size, 9, .bool a0.ta), (w.heap.size, 10, .bool a0.si), (w.heap.size, 11, .bool a0.dm)] (fun _ => True), s.val.cell? ⟨w.heap.size, 3, none⟩ = some (.int .i64 a0.po) := fun s => s.kept.at (by simp)
    have rB4 : ∀ s : KX (w.heap.size) w (w.heap.size + 1) [(w.heap.size, 0, .int .i64 a0.id), (w.heap.size, 1, .int .i64 a0.cd), (w.heap.size, 2, .int .i64 a0.ow), (w.heap.size, 3, .int .i64 a0.po), (w.heap.size, 4, .int .i64 a0.tg), (w.heap.size, 5, .int .i64 a0.da), (w.heap.size, 6, .int .i64 a0.co), (w.heap.size, 7, .int .i64 a0.pp), (w.heap.size, 8, .int .i64 a0.pt), (w.heap.size, 9, .bool a0.ta), (w.heap.size, 10, .bool a0.si), (w.heap.size, 11, .bool a0.dm)] (fun _ => True), s.val.cell? ⟨w.heap.size, 4, none⟩ = some (.int .i64 a0.tg) := fun s => s.kept.at (by simp)
    have rB5 : ∀ s : KX (w.heap.size) w (w.heap.size + 1) [(w.heap.size, 0, .int .i64 a0.id), (w.heap.size, 1, .int .i64 a0.cd), (w.heap.size, 2, .int .i64 a0.ow), (w.heap.size, 3, .int .i64 a0.po), (w.heap.size, 4, .int .i64 a0.tg), (w.heap.size, 5, .int .i64 a0.da), (w.heap.size, 6, .int .i64 a0.co), (w.heap.size, 7, .int .i64 a0.pp), (w.heap.size, 8, .int .i64 a0.pt), (w.heap.size, 9, .bool a0.ta), (w.heap.size, 10, .bool a0.si), (w.heap.size, 11, .bool a0.dm)] (fun _ => True), s.val.cell? ⟨w.heap.size, 5, none⟩ = some (.int .i64 a0.da) := fun s => s.kept.at (by simp)
    have rB6 : ∀ s : KX (w.heap.size) w (w.heap.size + 1) [(w.heap.size, 0, .int .i64 a0.id), (w.heap.size, 1, .int .i64 a0.cd), (w.heap.size, 2, .int .i64 a0.ow), (w.heap.size, 3, .int .i64 a0.po), (w.heap.size, 4, .int .i64 a0.tg), (w.heap.size, 5, .int .i64 a0.da), (w.heap.size, 6, .int .i64 a0.co), (w.heap.size, 7, .int .i64 a0.pp), (w.heap.size, 8, .int .i64 a0.pt), (w.heap.size, 9, .bool a0.ta), (w.heap.size, 10, .bool a0.si), (w.heap.size, 11, .bool a0.dm)] (fun _ => True), s.val.cell? ⟨w.heap.size, 6, none⟩ = some (.int .i64 a0.co) := fun s => s.kept.at (by simp)
    have rB7 : ∀ s : KX (w.heap.size) w (w.heap.size + 1) [(w.heap.size, 0, .int .i64 a0.id), (w.heap.size, 1, .int .i64 a0.cd), (w.heap.size, 2, .int .i64 a0.ow), (w.heap.size, 3, .int .i64 a0.po), (w.heap.size, 4, .int .i64 a0.tg), (w.heap.size, 5, .int .i64 a0.da), (w.heap.size, 6, .int .i64 a0.co), (w.heap.size, 7, .int .i64 a0.pp), (w.heap.size, 8, .int .i64 a0.pt), (w.heap.size, 9, .bool a0.ta), (w.heap.size, 10, .bool a0.si), (w.heap.size, 11, .bool a0.dm)] (fun _ => True), s.val.cell? ⟨w.heap.size, 7, none⟩ = some (.int .i64 a0.pp) := fun s => s.kept.at (by simp)
    have rB8 : ∀ s : KX (w.heap.size) w (w.heap.size + 1) [(w.heap.size, 0, .int .i64 a0.id), (w.heap.size, 1, .int .i64 a0.cd), (w.heap.size, 2, .int .i64 a0.ow), (w.heap.size, 3, .int .i64 a0.po), (w.heap.size, 4, .int .i64 a0.tg), (w.heap.size, 5, .int .i64 a0.da), (w.heap.size, 6, .int .i64 a0.co), (w.heap.size, 7, .int .i64 a0.pp), (w.heap.size, 8, .int .i64 a0.pt), (w.heap.size, 9, .bool a0.ta), (w.heap.size, 10, .bool a0.si), (w.heap.size, 11, .bool a0.dm)] (fun _ => True), s.val.cell? ⟨w.heap.size, 8, none⟩ = some (.int .i64 a0.pt) := fun s => s.kept.at (by simp)
    have rB9 : ∀ s : KX (w.heap.size) w (w.heap.size + 1) [(w.heap.size, 0, .int .i64 a0.id), (w.heap.size, 1, .int .i64 a0.cd), (w.heap.size, 2, .int .i64 a0.ow), (w.heap.size, 3, .int .i64 a0.po), (w.heap.size, 4, .int .i64 a0.tg), (w.heap.size, 5, .int .i64 a0.da), (w.heap.size, 6, .int .i64 a0.co), (w.heap.size, 7, .int .i64 a0.pp), (w.heap.size, 8, .int .i64 a0.pt), (w.heap.size, 9, .bool a0.ta), (w.heap.size, 10, .bool a0.si), (w.heap.size, 11, .bool a0.dm)] (fun _ => True), s.val.cell? ⟨w.heap.size, 9, none⟩ = some (.bool a0.ta) := fun s => s.kept.at (by simp)
    have rB10 : ∀ s : KX (w.heap.size) w (w.heap.size + 1) [(w.heap.size, 0, .int .i64 a0.id), (w.heap.size, 1, .int .i64 a0.cd), (w.heap.size, 2, .int .i64 a0.ow), (w.heap.size, 3, .int .i64 a0.po), (w.heap.size, 4, .int .i64 a0.tg), (w.heap.size, 5, .int .i64 a0.da), (w.heap.size, 6, .int .i64 a0.co), (w.heap.size, 7, .int .i64 a0.pp), (w.heap.size, 8, .int .i64 a0.pt), (w.heap.size, 9, .bool a0.ta), (w.heap.size, 10, .bool a0.si), (w.heap.size, 11, .bool a0.dm)] (fun _ => True), s.val.cell? ⟨w.heap.size, 10, none⟩ = some (.bool a0.si) := fun s => s.kept.at (by simp)
    have rB11 : ∀ s : KX (w.heap.size) w (w.heap.size + 1) [(w.heap.size, 0, .int .i64 a0.id), (w.heap.size, 1, .int .i64 a0.cd), (w.heap.size, 2, .int .i64 a0.ow), (w.heap.size, 3, .int .i64 a0.po), (w.heap.size, 4, .int .i64 a0.tg), (w.heap.size, 5, .int .i64 a0.da), (w.heap.size, 6, .int .i64 a0.co), (w.heap.size, 7, .int .i64 a0.pp), (w.heap.size, 8, .int .i64 a0.pt), (w.heap.size, 9, .bool a0.ta), (w.heap.size, 10, .bool a0.si), (w.heap.size, 11, .bool a0.dm)] (fun _ => True), s.val.cell? ⟨w.heap.size, 11, none⟩ = some (.bool a0.dm) := fun s => s.kept.at (by simp)
    repeat (go_big_quiet_step (fail))
    refine wpQuiet_nil ?_
    clear rB0 rB1 rB2 rB3 rB4 rB5 rB6 rB7 rB8 rB9 rB10 rB11
    refine ⟨fun K hK0 => ?_, trivial⟩
    have hK := Lib.hid hK0
    clear hK0
    go_wp2_with fail
    with_reducible refine (oreset_false a0 a1 _ hz).mono ?_
    rintro e w6 ⟨rfl, hb_w6⟩
    have K_w6 : Kept w.heap.size w (w.heap.size + 1) [(w.heap.size, 0, .int .i64 a0.id), (w.heap.size, 1, .int .i64 a0.cd), (w.heap.size, 2, .int .i64 a0.ow), (w.heap.size, 3, .int .i64 a0.po), (w.heap.size, 4, .int .i64 a0.tg), (w.heap.size, 5, .int .i64 a0.da), (w.heap.size, 6, .int .i64 a0.co), (w.heap.size, 7, .int .i64 a0.pp), (w.heap.size, 8, .int .i64 a0.pt), (w.heap.size, 9, .bool a0.ta), (w.heap.size, 10, .bool a0.si), (w.heap.size, 11, .bool a0.dm)] w6 := (KH_w5.out.step (by omega) (by go_grown)).step (by omega) hb_w6
    clear hb_w6
    have KH_w6 := Lib.hid K_w6
    have hw_w6 := K_w6.below
    have hz_w6 := K_w6.size
    have lB_w6 : w.heap.size < w6.heap.size := by omega
    clear lB_w5
    clear K_w6
    go_wp2_with fail
    first | (refine ⟨rfl, ⟨⟨_, KH_w6.out, trivial⟩, rfl⟩, hK.out _ _ ?_⟩; clear hK K) | (refine ⟨⟨⟨_, KH_w6.out, trivial⟩, rfl⟩, hK.out _ _ ?_⟩; clear hK K)
    refine ⟨fun K hK0 => ?_, trivial⟩
    have hK := Lib.hid hK0
    clear hK0
    go_wp2_with fail
    with_reducible refine (rreset_false a0 a1 _ hz).mono ?_
    rintro e w7 ⟨rfl, hb_w7⟩
    have K_w7 : Kept w.heap.size w (w.heap.size + 1) [(w.heap.size, 0, .int .i64 a0.id), (w.heap.size, 1, .int .i64 a0.cd), (w.heap.size, 2, .int .i64 a0.ow), (w.heap.size, 3, .int .i64 a0.po), (w.heap.size, 4, .int .i64 a0.tg), (w.heap.size, 5, .int .i64 a0.da), (w.heap.size, 6, .int .i64 a0.co), (w.heap.size, 7, .int .i64 a0.pp), (w.heap.size, 8, .int .i64 a0.pt), (w.heap.size, 9, .bool a0.ta), (w.heap.size, 10, .bool a0.si), (w.heap.size, 11, .bool a0.dm)] w7 := (KH_w6.out.step (by omega) (by go_grown)).step (by omega) hb_w7
    clear hb_w7
    have KH_w7 := Lib.hid K_w7
    have hw_w7 := K_w7.below
    have hz_w7 := K_w7.size
    have lB_w7 : w.heap.size < w7.heap.size := by omega
    clear lB_w6
    clear K_w7
    go_wp2_with fail
    first | (refine ⟨rfl, hK.out _ _ ?_⟩; clear hK K) | (refine hK.out _ _ ?_; clear hK K)
    repeat (go_big_quiet_step (fail))
    refine wpQuiet_nil ?_
    refine ⟨fun K hK0 => ?_, trivial⟩
    have hK := Lib.hid hK0
    clear hK0
    go_wp2_with fail
    with_reducible refine (known _).mono ?_
    rintro e w8 ⟨rfl, hb_w8⟩
    have K_w8 : Kept w.heap.size w (w.heap.size + 1) [(w.heap.size, 0, .int .i64 a0.id), (w.heap.size, 1, .int .i64 a0.cd), (w.heap.size, 2, .int .i64 a0.ow), (w.heap.size, 3, .int .i64 a0.po), (w.heap.size, 4, .int .i64 a0.tg), (w.heap.size, 5, .int .i64 a0.da), (w.heap.size, 6, .int .i64 a0.co), (w.heap.size, 7, .int .i64 a0.pp), (w.heap.size, 8, .int .i64 a0.pt), (w.heap.size, 9, .bool a0.ta), (w.heap.size, 10, .bool a0.si), (w.heap.size, 11, .bool a0.dm)] w8 := (KH_w7.out.step (by omega) (by go_grown)).step (by omega) hb_w8
    clear hb_w8
    have KH_w8 := Lib.hid K_w8
    have hw_w8 := K_w8.below
    have hz_w8 := K_w8.size
    have lB_w8 : w.heap.size < w8.heap.size := by omega
    clear lB_w7
    clear K_w8
    go_wp2_with fail
    first | (refine ⟨rfl, hK.out _ _ ?_⟩; clear hK K) | (refine hK.out _ _ ?_; clear hK K)
    repeat (go_big_quiet_step (fail))
    refine wpQuiet_nil ?_
    clear _ne
    go_wp2_with fail
    go_returns
    exact ⟨rfl, by go_grown⟩
  · skip
    go_enter Try.func6, Try.ntmps6
    go_wp2_with fail
    refine rg6_1 (w0 := w) (B := w.heap.size) (n := w.heap.size + 1) (L := [(w.heap.size, 0, .int .i64 a0.id), (w.heap.size, 1, .int .i64 a0.cd), (w.heap.size, 2, .int .i64 a0.ow), (w.heap.size, 3, .int .i64 a0.po), (w.heap.size, 4, .int .i64 a0.tg), (w.heap.size, 5, .int .i64 a0.da), (w.heap.size, 6, .int .i64 a0.co), (w.heap.size, 7, .int .i64 a0.pp), (w.heap.size, 8, .int .i64 a0.pt), (w.heap.size, 9, .bool a0.ta), (w.heap.size, 10, .bool a0.si), (w.heap.size, 11, .bool a0.dm)]) (E := fun _ => True) (F := fun _ => True) (by kernel_rfl) (by kernel_rfl) ⟨by go_grown, by go_size, (by simp [go_sem] <;> omega)⟩ trivial (fun _ _ _ _ => trivial) trivial (fun _ _ _ _ => trivial) (fun w1 K_w1 E_w1 F_w1 => ?_)
    have _ne : Nonempty (KX (w.heap.size) w (w.heap.size + 1) [(w.heap.size, 0, .int .i64 a0.id), (w.heap.size, 1, .int .i64 a0.cd), (w.heap.size, 2, .int .i64 a0.ow), (w.heap.size, 3, .int .i64 a0.po), (w.heap.size, 4, .int .i64 a0.tg), (w.heap.size, 5, .int .i64 a0.da), (w.heap.size, 6, .int .i64 a0.co), (w.heap.size, 7, .int .i64 a0.pp), (w.heap.size, 8, .int .i64 a0.pt), (w.heap.size, 9, .bool a0.ta), (w.heap.size, 10, .bool a0.si), (w.heap.size, 11, .bool a0.dm)] (fun _ => True)) := ⟨⟨_, K_w1, E_w1⟩⟩
    have rB0 : ∀ s : KX (w.heap.size) w (w.heap.size + 1) [(w.heap.size, 0, .int .i64 a0.id), (w.heap.size, 1, .int .i64 a0.cd), (w.heap.size, 2, .int .i64 a0.ow), (w.heap.size, 3, .int .i64 a0.po), (w.heap.size, 4, .int .i64 a0.tg), (w.heap.size, 5, .int .i64 a0.da), (w.heap.size, 6, .int .i64 a0.co), (w.heap.size, 7, .int .i64 a0.pp), (w.heap.size, 8, .int .i64 a0.pt), (w.heap.size, 9, .bool a0.ta), (w.heap.size, 10, .bool a0.si), (w.heap.size, 11, .bool a0.dm)] (fun _ => True), s.val.cell? ⟨w.heap.size, 0, none⟩ = some (.int .i64 a0.id) := fun s => s.kept.at (by simp)
    have rB1 : ∀ s : KX (w.heap.size) w (w.heap.size + 1) [(w.heap.size, 0, .int .i64 a0.id), (w.heap.size, 1, .int .i64 a0.cd), (w.heap.size, 2, .int .i64 a0.ow), (w.heap.size, 3, .int .i64 a0.po), (w.heap.size, 4, .int .i64 a0.tg), (w.heap.size, 5, .int .i64 a0.da), (w.heap.size, 6, .int .i64 a0.co), (w.heap.size, 7, .int .i64 a0.pp), (w.heap.size, 8, .int .i64 a0.pt), (w.heap.size, 9, .bool a0.ta), (w.heap.size, 10, .bool a0.si), (w.heap.size, 11, .bool a0.dm)] (fun _ => True), s.val.cell? ⟨w.heap.size, 1, none⟩ = some (.int .i64 a0.cd) := fun s => s.kept.at (by simp)
    have rB2 : ∀ s : KX (w.heap.size) w (w.heap.size + 1) [(w.heap.size, 0, .int .i64 a0.id), (w.heap.size, 1, .int .i64 a0.cd), (w.heap.size, 2, .int .i64 a0.ow), (w.heap.size, 3, .int .i64 a0.po), (w.heap.size, 4, .int .i64 a0.tg), (w.heap.size, 5, .int .i64 a0.da), (w.heap.size, 6, .int .i64 a0.co), (w.heap.size, 7, .int .i64 a0.pp), (w.heap.size, 8, .int .i64 a0.pt), (w.heap.size, 9, .bool a0.ta), (w.heap.size, 10, .bool a0.si), (w.heap.size, 11, .bool a0.dm)] (fun _ => True), s.val.cell? ⟨w.heap.size, 2, none⟩ = some (.int .i64 a0.ow) := fun s => s.kept.at (by simp)
    have rB3 : ∀ s : KX (w.heap.size) w (w.heap.size + 1) [(w.heap.size, 0, .int .i64 a0.id), (w.heap.size, 1, .int .i64 a0.cd), (w.heap.size, 2, .int .i64 a0.ow), (w.heap.size, 3, .int .i64 a0.po), (w.heap.size, 4, .int .i64 a0.tg), (w.heap.size, 5, .int .i64 a0.da), (w.heap.size, 6, .int .i64 a0.co), (w.heap.size, 7, .int .i64 a0.pp), (w.heap.size, 8, .int .i64 a0.pt), (w.heap.size, 9, .bool a0.ta), (w.heap.size, 10, .bool a0.si), (w.heap.size, 11, .bool a0.dm)] (fun _ => True), s.val.cell? ⟨w.heap.size, 3, none⟩ = some (.int .i64 a0.po) := fun s => s.kept.at (by simp)
    have rB4 : ∀ s : KX (w.heap.size) w (w.heap.size + 1) [(w.heap.size, 0, .int .i64 a0.id), (w.heap.size, 1, .int .i64 a0.cd), (w.heap.size, 2, .int .i64 a0.ow), (w.heap.size, 3, .int .i64 a0.po), (w.heap.size, 4, .int .i64 a0.tg), (w.heap.size, 5, .int .i64 a0.da), (w.heap.size, 6, .int .i64 a0.co), (w.heap.size, 7, .int .i64 a0.pp), (w.heap.size, 8, .int .i64 a0.pt), (w.heap.size, 9, .bool a0.ta), (w.heap.size, 10, .bool a0.si), (w.heap.size, 11, .bool a0.dm)] (fun _ => True), s.val.cell? ⟨w.heap.size, 4, none⟩ = some (.int .i64 a0.tg) := fun s => s.kept.at (by simp)
    have rB5 : ∀ s : KX (w.heap.size) w (w.heap.size + 1) [(w.heap.size, 0, .int .i64 a0.id), (w.heap.size, 1, .int .i64 a0.cd), (w.heap.size, 2, .int .i64 a0.ow), (w.heap.size, 3, .int .i64 a0.po), (w.heap.size, 4, .int .i64 a0.tg), (w.heap.size, 5, .int .i64 a0.da), (w.heap.size, 6, .int .i64 a0.co), (w.heap.size, 7, .int .i64 a0.pp), (w.heap.size, 8, .int .i64 a0.pt), (w.heap.size, 9, .bool a0.ta), (w.heap.size, 10, .bool a0.si), (w.heap.size, 11, .bool a0.dm)] (fun _ => True), s.val.cell? ⟨w.heap.size, 5, none⟩ = some (.int .i64 a0.da) := fun s => s.kept.at (by simp)
    have rB6 : ∀ s : KX (w.heap.size) w (w.heap.size + 1) [(w.heap.size, 0, .int .i64 a0.id), (w.heap.size, 1, .int .i64 a0.cd), (w.heap.size, 2, .int .i64 a0.ow), (w.heap.size, 3, .int .i64 a0.po), (w.heap.size, 4, .int .i64 a0.tg), (w.heap.size, 5, .int .i64 a0.da), (w.heap.size, 6, .int .i64 a0.co), (w.heap.size, 7, .int .i64 a0.pp), (w.heap.size, 8, .int .i64 a0.pt), (w.heap.size, 9, .bool a0.ta), (w.heap.size, 10, .bool a0.si), (w.heap.size, 11, .bool a0.dm)] (fun _ => True), s.val.cell? ⟨w.heap.size, 6, none⟩ = some (.int .i64 a0.co) := fun s => s.kept.at (by simp)
    have rB7 : ∀ s : KX (w.heap.size) w (w.heap.size + 1) [(w.heap.size, 0, .int .i64 a0.id), (w.heap.size, 1, .int .i64 a0.cd), (w.heap.size, 2, .int .i64 a0.ow), (w.heap.size, 3, .int .i64 a0.po), (w.heap.size, 4, .int .i64 a0.tg), (w.heap.size, 5, .int .i64 a0.da), (w.heap.size, 6, .int .i64 a0.co), (w.heap.size, 7, .int .i64 a0.pp), (w.heap.size, 8, .int .i64 a0.pt), (w.heap.size, 9, .bool a0.ta), (w.heap.size, 10, .bool a0.si), (w.heap.size, 11, .bool a0.dm)] (fun _ => True), s.val.cell? ⟨w.heap.size, 7, none⟩ = some (.int .i64 a0.pp) := fun s => s.kept.at (by simp)
    have rB8 : ∀ s : KX (w.heap.size) w (w.heap.size + 1) [(w.heap.size, 0, .int .i64 a0.id), (w.heap.size, 1, .int .i64 a0.cd), (w.heap.size, 2, .int .i64 a0.ow), (w.heap.size, 3, .int .i64 a0.po), (w.heap.size, 4, .int .i64 a0.tg), (w.heap.size, 5, .int .i64 a0.da), (w.heap.size, 6, .int .i64 a0.co), (w.heap.size, 7, .int .i64 a0.pp), (w.heap.size, 8, .int .i64 a0.pt), (w.heap.size, 9, .bool a0.ta), (w.heap.size, 10, .bool a0.si), (w.heap.size, 11, .bool a0.dm)] (fun _ => True), s.val.cell? ⟨w.heap.size, 8, none⟩ = some (.int .i64 a0.pt) := fun s => s.kept.at (by simp)
    have rB9 : ∀ s : KX (w.heap.size) w (w.heap.size + 1) [(w.heap.size, 0, .int .i64 a0.id), (w.heap.size, 1, .int .i64 a0.cd), (w.heap.size, 2, .int .i64 a0.ow), (w.heap.size, 3, .int .i64 a0.po), (w.heap.size, 4, .int .i64 a0.tg), (w.heap.size, 5, .int .i64 a0.da), (w.heap.size, 6, .int .i64 a0.co), (w.heap.size, 7, .int .i64 a0.pp), (w.heap.size, 8, .int .i64 a0.pt), (w.heap.size, 9, .bool a0.ta), (w.heap.size, 10, .bool a0.si), (w.heap.size, 11, .bool a0.dm)] (fun _ => True), s.val.cell? ⟨w.heap.size, 9, none⟩ = some (.bool a0.ta) := fun s => s.kept.at (by simp)
    have rB10 : ∀ s : KX (w.heap.size) w (w.heap.size + 1) [(w.heap.size, 0, .int .i64 a0.id), (w.heap.size, 1, .int .i64 a0.cd), (w.heap.size, 2, .int .i64 a0.ow), (w.heap.size, 3, .int .i64 a0.po), (w.heap.size, 4, .int .i64 a0.tg), (w.heap.size, 5, .int .i64 a0.da), (w.heap.size, 6, .int .i64 a0.co), (w.heap.size, 7, .int .i64 a0.pp), (w.heap.size, 8, .int .i64 a0.pt), (w.heap.size, 9, .bool a0.ta), (w.heap.size, 10, .bool a0.si), (w.heap.size, 11, .bool a0.dm)] (fun _ => True), s.val.cell? ⟨w.heap.size, 10, none⟩ = some (.bool a0.si) := fun s => s.kept.at (by simp)
    have rB11 : ∀ s : KX (w.heap.size) w (w.heap.size + 1) [(w.heap.size, 0, .int .i64 a0.id), (w.heap.size, 1, .int .i64 a0.cd), (w.heap.size, 2, .int .i64 a0.ow), (w.heap.size, 3, .int .i64 a0.po), (w.heap.size, 4, .int .i64 a0.tg), (w.heap.size, 5, .int .i64 a0.da), (w.heap.size, 6, .int .i64 a0.co), (w.heap.size, 7, .int .i64 a0.pp), (w.heap.size, 8, .int .i64 a0.pt), (w.heap.size, 9, .bool a0.ta), (w.heap.size, 10, .bool a0.si), (w.heap.size, 11, .bool a0.dm)] (fun _ => True), s.val.cell? ⟨w.heap.size, 11, none⟩ = some (.bool a0.dm) := fun s => s.kept.at (by simp)
    repeat (go_big_quiet_step (fail))
    refine wpQuiet_nil ?_
    clear rB0 rB1 rB2 rB3 rB4 rB5 rB6 rB7 rB8 rB9 rB10 rB11
    have KH_w1 := Lib.hid K_w1
    have hw_w1 := K_w1.below
    have hz_w1 := K_w1.size
    have lB_w1 : w.heap.size < w1.heap.size := by omega
    clear K_w1
    clear E_w1 F_w1
    refine ⟨fun K hK0 => ?_, trivial⟩
    have hK := Lib.hid hK0
    clear hK0
    go_wp2_with fail
    with_reducible refine (ountap a0 _).mono ?_
    rintro e w2 ⟨rfl, hb_w2⟩
    have K_w2 : Kept w.heap.size w (w.heap.size + 1) [(w.heap.size, 0, .int .i64 a0.id), (w.heap.size, 1, .int .i64 a0.cd), (w.heap.size, 2, .int .i64 a0.ow), (w.heap.size, 3, .int .i64 a0.po), (w.heap.size, 4, .int .i64 a0.tg), (w.heap.size, 5, .int .i64 a0.da), (w.heap.size, 6, .int .i64 a0.co), (w.heap.size, 7, .int .i64 a0.pp), (w.heap.size, 8, .int .i64 a0.pt), (w.heap.size, 9, .bool a0.ta), (w.heap.size, 10, .bool a0.si), (w.heap.size, 11, .bool a0.dm)] w2 := (KH_w1.out.step (by omega) (by go_grown)).step (by omega) hb_w2
    clear hb_w2
    have KH_w2 := Lib.hid K_w2
    have hw_w2 := K_w2.below
    have hz_w2 := K_w2.size
    have lB_w2 : w.heap.size < w2.heap.size := by omega
    clear lB_w1
    clear K_w2
    go_wp2_with fail
    first | (refine ⟨rfl, ⟨⟨_, KH_w2.out, trivial⟩, rfl⟩, hK.out _ _ ?_⟩; clear hK K) | (refine ⟨⟨⟨_, KH_w2.out, trivial⟩, rfl⟩, hK.out _ _ ?_⟩; clear hK K)
    refine ⟨fun K hK0 => ?_, trivial⟩
    have hK := Lib.hid hK0
    clear hK0
    go_wp2_with fail
    with_reducible refine (runtap a0 _).mono ?_
    rintro e w3 ⟨rfl, hb_w3⟩
    have K_w3 : Kept w.heap.size w (w.heap.size + 1) [(w.heap.size, 0, .int .i64 a0.id), (w.heap.size, 1, .int .i64 a0.cd), (w.heap.size, 2, .int .i64 a0.ow), (w.heap.size, 3, .int .i64 a0.po), (w.heap.size, 4, .int .i64 a0.tg), (w.heap.size, 5, .int .i64 a0.da), (w.heap.size, 6, .int .i64 a0.co), (w.heap.size, 7, .int .i64 a0.pp), (w.heap.size, 8, .int .i64 a0.pt), (w.heap.size, 9, .bool a0.ta), (w.heap.size, 10, .bool a0.si), (w.heap.size, 11, .bool a0.dm)] w3 := (KH_w2.out.step (by omega) (by go_grown)).step (by omega) hb_w3
    clear hb_w3
    have KH_w3 := Lib.hid K_w3
    have hw_w3 := K_w3.below
    have hz_w3 := K_w3.size
    have lB_w3 : w.heap.size < w3.heap.size := by omega
    clear lB_w2
    clear K_w3
    go_wp2_with fail
    first | (refine ⟨rfl, ⟨⟨_, KH_w3.out, trivial⟩, rfl⟩, hK.out _ _ ?_⟩; clear hK K) | (refine ⟨⟨⟨_, KH_w3.out, trivial⟩, rfl⟩, hK.out _ _ ?_⟩; clear hK K)
    repeat (go_big_quiet_step (fail))
    refine wpQuiet_nil ?_
    have rB0 : ∀ s : KX (w.heap.size) w (w.heap.size + 1) [(w.heap.size, 0, .int .i64 a0.id), (w.heap.size, 1, .int .i64 a0.cd), (w.heap.size, 2, .int .i64 a0.ow), (w.heap.size, 3, .int .i64 a0.po), (w.heap.size, 4, .int .i64 a0.tg), (w.heap.size, 5, .int .i64 a0.da), (w.heap.size, 6, .int .i64 a0.co), (w.heap.size, 7, .int .i64 a0.pp), (w.heap.size, 8, .int .i64 a0.pt), (w.heap.size, 9, .bool a0.ta), (w.heap.size, 10, .bool a0.si), (w.heap.size, 11, .bool a0.dm)] (fun _ => True), s.val.cell? ⟨w.heap.size, 0, none⟩ = some (.int .i64 a0.id) := fun s => s.kept.at (by simp)
    have rB1 : ∀ s : KX (w.heap.size) w (w.heap.size + 1) [(w.heap.size, 0, .int .i64 a0.id), (w.heap.size, 1, .int .i64 a0.cd), (w.heap.size, 2, .int .i64 a0.ow), (w.heap.size, 3, .int .i64 a0.po), (w.heap.size, 4, .int .i64 a0.tg), (w.heap.size, 5, .int .i64 a0.da), (w.heap.size, 6, .int .i64 a0.co), (w.heap.size, 7, .int .i64 a0.pp), (w.heap.size, 8, .int .i64 a0.pt), (w.heap.size, 9, .bool a0.ta), (w.heap.size, 10, .bool a0.si), (w.heap.size, 11, .bool a0.dm)] (fun _ => True), s.val.cell? ⟨w.heap.size, 1, none⟩ = some (.int .i64 a0.cd) := fun s => s.kept.at (by simp)
    have rB2 : ∀ s : KX (w.heap.size) w (w.heap.size + 1) [(w.heap.size, 0, .int .i64 a0.id), (w.heap.size, 1, .int .i64 a0.cd), (w.heap.size, 2, .int .i64 a0.ow), (w.heap.size, 3, .int .i64 a0.po), (w.heap.size, 4, .int .i64 a0.tg), (w.heap.size, 5, .int .i64 a0.da), (w.heap.size, 6, .int .i64 a0.co), (w.heap.size, 7, .int .i64 a0.pp), (w.heap.size, 8, .int .i64 a0.pt), (w.heap.size, 9, .bool a0.ta), (w.heap.size, 10, .bool a0.si), (w.heap.size, 11, .bool a0.dm)] (fun _ => True), s.val.cell? ⟨w.heap.size, 2, none⟩ = some (.int .i64 a0.ow) := fun s => s.kept.at (by simp)
    have rB3 : ∀ s : KX (w.heap.size) w (w.heap.size + 1) [(w.heap.size, 0, .int .i64 a0.id), (w.heap.size, 1, .int .i64 a0.cd), (w.heap.size, 2, .int .i64 a0.ow), (w.heap.size, 3, .int .i64 a0.po), (w.heap.size, 4, .int .i64 a0.tg), (w.heap.size, 5, .int .i64 a0.da), (w.heap.size, 6, .int .i64 a0.co), (w.heap.size, 7, .int .i64 a0.pp), (w.heap.size, 8, .int .i64 a0.pt), (w.heap.size, 9, .bool a0.ta), (w.heap.size, 10, .bool a0.si), (w.heap.size, 11, .bool a0.dm)] (fun _ => True), s.val.cell? ⟨w.heap.size, 3, none⟩ = some (.int .i64 a0.po) := fun s => s.kept.at (by simp)
    have rB4 : ∀ s : KX (w.heap.size) w (w.heap.size + 1) [(w.heap.size, 0, .int .i64 a0.id), (w.heap.size, 1, .int .i64 a0.cd), (w.heap.size, 2, .int .i64 a0.ow), (w.heap.size, 3, .int .i64 a0.po), (w.heap.size, 4, .int .i64 a0.tg), (w.heap.size, 5, .int .i64 a0.da), (w.heap.size, 6, .int .i64 a0.co), (w.heap.size, 7, .int .i64 a0.pp), (w.heap.size, 8, .int .i64 a0.pt), (w.heap.size, 9, .bool a0.ta), (w.heap.size, 10, .bool a0.si), (w.heap.size, 11, .bool a0.dm)] (fun _ => True), s.val.cell? ⟨w.heap.size, 4, none⟩ = some (.int .i64 a0.tg) := fun s => s.kept.at (by simp)
    have rB5 : ∀ s : KX (w.heap.size) w (w.heap.size + 1) [(w.heap.size, 0, .int .i64 a0.id), (w.heap.size, 1, .int .i64 a0.cd), (w.heap.size, 2, .int .i64 a0.ow), (w.heap.size, 3, .int .i64 a0.po), (w.heap.size, 4, .int .i64 a0.tg), (w.heap.size, 5, .int .i64 a0.da), (w.heap.size, 6, .int .i64 a0.co), (w.heap.size, 7, .int .i64 a0.pp), (w.heap.size, 8, .int .i64 a0.pt), (w.heap.size, 9, .bool a0.ta), (w.heap.size, 10, .bool a0.si), (w.heap.size, 11, .bool a0.dm)] (fun _ => True), s.val.cell? ⟨w.heap.size, 5, none⟩ = some (.int .i64 a0.da) := fun s => s.kept.at (by simp)
    have rB6 : ∀ s : KX (w.heap.size) w (w.heap.size + 1) [(w.heap.size, 0, .int .i64 a0.id), (w.heap.size, 1, .int .i64 a0.cd), (w.heap.size, 2, .int .i64 a0.ow), (w.heap.size, 3, .int .i64 a0.po), (w.heap.size, 4, .int .i64 a0.tg), (w.heap.size, 5, .int .i64 a0.da), (w.heap.size, 6, .int .i64 a0.co), (w.heap.size, 7, .int .i64 a0.pp), (w.heap.size, 8, .int .i64 a0.pt), (w.heap.size, 9, .bool a0.ta), (w.heap.size, 10, .bool a0.si), (w.heap.size, 11, .bool a0.dm)] (fun _ => True), s.val.cell? ⟨w.heap.size, 6, none⟩ = some (.int .i64 a0.co) := fun s => s.kept.at (by simp)
    have rB7 : ∀ s : KX (w.heap.size) w (w.heap.size + 1) [(w.heap.size, 0, .int .i64 a0.id), (w.heap.size, 1, .int .i64 a0.cd), (w.heap.size, 2, .int .i64 a0.ow), (w.heap.size, 3, .int .i64 a0.po), (w.heap.size, 4, .int .i64 a0.tg), (w.heap.size, 5, .int .i64 a0.da), (w.heap.size, 6, .int .i64 a0.co), (w.heap.size, 7, .int .i64 a0.pp), (w.heap.size, 8, .int .i64 a0.pt), (w.heap.size, 9, .bool a0.ta), (w.heap.size, 10, .bool a0.si), (w.heap.size, 11, .bool a0.dm)] (fun _ => True), s.val.cell? ⟨w.heap.size, 7, none⟩ = some (.int .i64 a0.pp) := fun s => s.kept.at (by simp)
    have rB8 : ∀ s : KX (w.heap.size) w (w.heap.size + 1) [(w.heap.size, 0, .int .i64 a0.id), (w.heap.size, 1, .int .i64 a0.cd), (w.heap.size, 2, .int .i64 a0.ow), (w.heap.size, 3, .int .i64 a0.po), (w.heap.size, 4, .int .i64 a0.tg), (w.heap.size, 5, .int .i64 a0.da), (w.heap.size, 6, .int .i64 a0.co), (w.heap.size, 7, .int .i64 a0.pp), (w.heap.size, 8, .int .i64 a0.pt), (w.heap.size, 9, .bool a0.ta), (w.heap.size, 10, .bool a0.si), (w.heap.size, 11, .bool a0.dm)] (fun _ => True), s.val.cell? ⟨w.heap.size, 8, none⟩ = some (.int .i64 a0.pt) := fun s => s.kept.at (by simp)
    have rB9 : ∀ s : KX (w.heap.size) w (w.heap.size + 1) [(w.heap.size, 0, .int .i64 a0.id), (w.heap.size, 1, .int .i64 a0.cd), (w.heap.size, 2, .int .i64 a0.ow), (w.heap.size, 3, .int .i64 a0.po), (w.heap.size, 4, .int .i64 a0.tg), (w.heap.size, 5, .int .i64 a0.da), (w.heap.size, 6, .int .i64 a0.co), (w.heap.size, 7, .int .i64 a0.pp), (w.heap.size, 8, .int .i64 a0.pt), (w.heap.size, 9, .bool a0.ta), (w.heap.size, 10, .bool a0.si), (w.heap.size, 11, .bool a0.dm)] (fun _ => True), s.val.cell? ⟨w.heap.size, 9, none⟩ = some (.bool a0.ta) := fun s => s.kept.at (by simp)
    have rB10 : ∀ s : KX (w.heap.size) w (w.heap.size + 1) [(w.heap.size, 0, .int .i64 a0.id), (w.heap.size, 1, .int .i64 a0.cd), (w.heap.size, 2, .int .i64 a0.ow), (w.heap.size, 3, .int .i64 a0.po), (w.heap.size, 4, .int .i64 a0.tg), (w.heap.size, 5, .int .i64 a0.da), (w.heap.size, 6, .int .i64 a0.co), (w.heap.size, 7, .int .i64 a0.pp), (w.heap.size, 8, .int .i64 a0.pt), (w.heap.size, 9, .bool a0.ta), (w.heap.size, 10, .bool a0.si), (w.heap.size, 11, .bool a0.dm)] (fun _ => True), s.val.cell? ⟨w.heap.size, 10, none⟩ = some (.bool a0.si) := fun s => s.kept.at (by simp)
    have rB11 : ∀ s : KX (w.heap.size) w (w.heap.size + 1) [(w.heap.size, 0, .int .i64 a0.id), (w.heap.size, 1, .int .i64 a0.cd), (w.heap.size, 2, .int .i64 a0.ow), (w.heap.size, 3, .int .i64 a0.po), (w.heap.size, 4, .int .i64 a0.tg), (w.heap.size, 5, .int .i64 a0.da), (w.heap.size, 6, .int .i64 a0.co), (w.heap.size, 7, .int .i64 a0.pp), (w.heap.size, 8, .int .i64 a0.pt), (w.heap.size, 9, .bool a0.ta), (w.heap.size, 10, .bool a0.si), (w.heap.size, 11, .bool a0.dm)] (fun _ => True), s.val.cell? ⟨w.heap.size, 11, none⟩ = some (.bool a0.dm) := fun s => s.kept.at (by simp)
    repeat (go_big_quiet_step (fail))
    refine wpQuiet_nil ?_
    clear rB0 rB1 rB2 rB3 rB4 rB5 rB6 rB7 rB8 rB9 rB10 rB11
    refine ⟨fun K hK0 => ?_, trivial⟩
    have hK := Lib.hid hK0
    clear hK0
    go_wp2_with fail
    with_reducible refine (orest a0 _).mono ?_
    rintro e w4 ⟨rfl, hb_w4⟩
    have K_w4 : Kept w.heap.size w (w.heap.size + 1) [(w.heap.size, 0, .int .i64 a0.id), (w.heap.size, 1, .int .i64 a0.cd), (w.heap.size, 2, .int .i64 a0.ow), (w.heap.size, 3, .int .i64 a0.po), (w.heap.size, 4, .int .i64 a0.tg), (w.heap.size, 5, .int .i64 a0.da), (w.heap.size, 6, .int .i64 a0.co), (w.heap.size, 7, .int .i64 a0.pp), (w.heap.size, 8, .int .i64 a0.pt), (w.heap.size, 9, .bool a0.ta), (w.heap.size, 10, .bool a0.si), (w.heap.size, 11, .bool a0.dm)] w4 := (KH_w3.out.step (by omega) (by go_grown)).step (by omega) hb_w4
    clear hb_w4
    have KH_w4 := Lib.hid K_w4
    have hw_w4 := K_w4.below
    have hz_w4 := K_w4.size
    have lB_w4 : w.heap.size < w4.heap.size := by omega
    clear lB_w3
    clear K_w4
    go_wp2_with fail
    first | (refine ⟨rfl, ⟨⟨_, KH_w4.out, trivial⟩, rfl⟩, hK.out _ _ ?_⟩; clear hK K) | (refine ⟨⟨⟨_, KH_w4.out, trivial⟩, rfl⟩, hK.out _ _ ?_⟩; clear hK K)
    refine ⟨fun K hK0 => ?_, trivial⟩
    have hK := Lib.hid hK0
    clear hK0
    go_wp2_with fail
    with_reducible refine (rrest a0 _).mono ?_
    rintro e w5 ⟨rfl, hb_w5⟩
    have K_w5 : Kept w.heap.size w (w.heap.size + 1) [(w.heap.size, 0, .int .i64 a0.id), (w.heap.size, 1, .int .i64 a0.cd), (w.heap.size, 2, .int .i64 a0.ow), (w.heap.size, 3, .int .i64 a0.po), (w.heap.size, 4, .int .i64 a0.tg), (w.heap.size, 5, .int .i64 a0.da), (w.heap.size, 6, .int .i64 a0.co), (w.heap.size, 7, .int .i64 a0.pp), (w.heap.size, 8, .int .i64 a0.pt), (w.heap.size, 9, .bool a0.ta), (w.heap.size, 10, .bool a0.si), (w.heap.size, 11, .bool a0.dm)] w5 := (KH_w4.out.step (by omega) (by go_grown)).step (by omega) hb_w5
    clear hb_w5
    have KH_w5 := Lib.hid K_w5
    have hw_w5 := K_w5.below
    have hz_w5 := K_w5.size
    have lB_w5 : w.heap.size < w5.heap.size := by omega
    clear lB_w4
    clear K_w5
    go_wp2_with fail
    first | (refine ⟨rfl, ⟨⟨_, KH_w5.out, trivial⟩, rfl⟩, hK.out _ _ ?_⟩; clear hK K) | (refine ⟨⟨⟨_, KH_w5.out, trivial⟩, rfl⟩, hK.out _ _ ?_⟩; clear hK K)
    repeat (go_big_quiet_step (fail))
    refine wpQuiet_nil ?_
    have rB0 : ∀ s : KX (w.heap.size) w (w.heap.size + 1) [(w.heap.size, 0, .int .i64 a0.id), (w.heap.size, 1, .int .i64 a0.cd), (w.heap.size, 2, .int .i64 a0.ow), (w.heap.size, 3, .int .i64 a0.po), (w.heap.size, 4, .int .i64 a0.tg), (w.heap.size, 5, .int .i64 a0.da), (w.heap.size, 6, .int .i64 a0.co), (w.heap.size, 7, .int .i64 a0.pp), (w.heap.size, 8, .int .i64 a0.pt), (w.heap.size, 9, .bool a0.ta), (w.heap.size, 10, .bool a0.si), (w.heap.size, 11, .bool a0.dm)] (fun _ => True), s.val.cell? ⟨w.heap.size, 0, none⟩ = some (.int .i64 a0.id) := fun s => s.kept.at (by simp)
    have rB1 : ∀ s : KX (w.heap.size) w (w.heap.size + 1) [(w.heap.size, 0, .int .i64 a0.id), (w.heap.size, 1, .int .i64 a0.cd), (w.heap.size, 2, .int .i64 a0.ow), (w.heap.size, 3, .int .i64 a0.po), (w.heap.size, 4, .int .i64 a0.tg), (w.heap.size, 5, .int .i64 a0.da), (w.heap.size, 6, .int .i64 a0.co), (w.heap.size, 7, .int .i64 a0.pp), (w.heap.size, 8, .int .i64 a0.pt), (w.heap.size, 9, .bool a0.ta), (w.heap.size, 10, .bool a0.si), (w.heap.size, 11, .bool a0.dm)] (fun _ => True), s.val.cell? ⟨w.heap.size, 1, none⟩ = some (.int .i64 a0.cd) := fun s => s.kept.at (by simp)
    have rB2 : ∀ s : KX (w.heap.size) w (w.heap.size + 1) [(w.heap.size, 0, .int .i64 a0.id), (w.heap.size, 1, .int .i64 a0.cd), (w.heap.size, 2, .int .i64 a0.ow), (w.heap.size, 3, .int .i64 a0.po), (w.heap.size, 4, .int .i64 a0.tg), (w.heap.size, 5, .int .i64 a0.da), (w.heap.size, 6, .int .i64 a0.co), (w.heap.size, 7, .int .i64 a0.pp), (w.heap.size, 8, .int .i64 a0.pt), (w.heap.size, 9, .bool a0.ta), (w.heap.size, 10, .bool a0.si), (w.heap.size, 11, .bool a0.dm)] (fun _ => True), s.val.cell? ⟨w.heap.size, 2, none⟩ = some (.int .i64 a0.ow) := fun s => s.kept.at (by simp)
    have rB3 : ∀ s : KX (w.heap.size) w (w.heap.size + 1) [(w.heap.size, 0, .int .i64 a0.id), (w.heap.size, 1, .int .i64 a0.cd), (w.heap.size, 2, .int .i64 a0.ow), (w.heap.size, 3, .int .i64 a0.po), (w.heap.size, 4, .int .i64 a0.tg), (w.heap.size, 5, .int .i64 a0.da), (w.heap.size, 6, .int .i64 a0.co), (w.heap.size, 7, .int .i64 a0.pp), (w.heap.size, 8, .int .i64 a0.pt), (w.heap.size, 9, .bool a0.ta), (w.heap.size, 10, .bool a0.si), (w.heap.size, 11, .bool a0.dm)] (fun _ => True), s.val.cell? ⟨w.heap.size, 3, none⟩ = some (.int .i64 a0.po) := fun s => s.kept.at (by simp)
    have rB4 : ∀ s : KX (w.heap.size) w (w.heap.size + 1) [(w.heap.size, 0, .int .i64 a0.id), (w.heap.size, 1, .int .i64 a0.cd), (w.heap.size, 2, .int .i64 a0.ow), (w.heap.size, 3, .int .i64 a0.po), (w.heap.size, 4, .int .i64 a0.tg), (w.heap.size, 5, .int .i64 a0.da), (w.heap.size, 6, .int .i64 a0.co), (w.heap.size, 7, .int .i64 a0.pp), (w.heap.size, 8, .int .i64 a0.pt), (w.heap.size, 9, .bool a0.ta), (w.heap.size, 10, .bool a0.si), (w.heap.size, 11, .bool a0.dm)] (fun _ => True), s.val.cell? ⟨w.heap.size, 4, none⟩ = some (.int .i64 a0.tg) := fun s => s.kept.at (by simp)
    have rB5 : ∀ s : KX (w.heap.size) w (w.heap.size + 1) [(w.heap.size, 0, .int .i64 a0.id), (w.heap.size, 1, .int .i64 a0.cd), (w.heap.size, 2, .int .i64 a0.ow), (w.heap.size, 3, .int .i64 a0.po), (w.heap.size, 4, .int .i64 a0.tg), (w.heap.size, 5, .int .i64 a0.da), (w.heap.size, 6, .int .i64 a0.co), (w.heap.size, 7, .int .i64 a0.pp), (w.heap.size, 8, .int .i64 a0.pt), (w.heap.size, 9, .bool a0.ta), (w.heap.size, 10, .bool a0.si), (w.heap.size, 11, .bool a0.dm)] (fun _ => True), s.val.cell? ⟨w.heap.size, 5, none⟩ = some (.int .i64 a0.da) := fun s => s.kept.at (by simp)
    have rB6 : ∀ s : KX (w.heap.size) w (w.heap.size + 1) [(w.heap.size, 0, .int .i64 a0.id), (w.heap.size, 1, .int .i64 a0.cd), (w.heap.size, 2, .int .i64 a0.ow), (w.heap.size, 3, .int .i64 a0.po), (w.heap.size, 4, .int .i64 a0.tg), (w.heap.size, 5, .int .i64 a0.da), (w.heap.size, 6, .int .i64 a0.co), (w.heap.size, 7, .int .i64 a0.pp), (w.heap.size, 8, .int .i64 a0.pt), (w.heap.size, 9, .bool a0.ta), (w.heap.size, 10, .bool a0.si), (w.heap.size, 11, .bool a0.dm)] (fun _ => True), s.val.cell? ⟨w.heap.size, 6, none⟩ = some (.int .i64 a0.co) := fun s => s.kept.at (by simp)
    have rB7 : ∀ s : KX (w.heap.size) w (w.heap.size + 1) [(w.heap.size, 0, .int .i64 a0.id), (w.heap.size, 1, .int .i64 a0.cd), (w.heap.size, 2, .int .i64 a0.ow), (w.heap.size, 3, .int .i64 a0.po), (w.heap.size, 4, .int .i64 a0.tg), (w.heap.size, 5, .int .i64 a0.da), (w.heap.size, 6, .int .i64 a0.co), (w.heap.size, 7, .int .i64 a0.pp), (w.heap.size, 8, .int .i64 a0.pt), (w.heap.size, 9, .bool a0.ta), (w.heap.size, 10, .bool a0.si), (w.heap.size, 11, .bool a0.dm)] (fun _ => True), s.val.cell? ⟨w.heap.size, 7, none⟩ = some (.int .i64 a0.pp) := fun s => s.kept.at (by simp)
    have rB8 : ∀ s : KX (w.heap.size) w (w.heap.size + 1) [(w.heap.size, 0, .int .i64 a0.id), (w.heap.size, 1, .int .i64 a0.cd), (w.heap.size, 2, .int .i64 a0.ow), (w.heap.size, 3, .int .i64 a0.po), (w.heap.size, 4, .int .i64 a0.tg), (w.heap.size, 5, .int .i64 a0.da), (w.heap.size, 6, .int .i64 a0.co), (w.heap.size, 7, .int .i64 a0.pp), (w.heap.size, 8, .int .i64 a0.pt), (w.heap.size, 9, .bool a0.ta), (w.heap.size, 10, .bool a0.si), (w.heap.size, 11, .bool a0.dm)] (fun _ => True), s.val.cell? ⟨w.heap.size, 8, none⟩ = some (.int .i64 a0.pt) := fun s => s.kept.at (by simp)
    have rB9 : ∀ s : KX (w.heap.size) w (w.heap.size + 1) [(w.heap.size, 0, .int .i64 a0.id), (w.heap.size, 1, .int .i64 a0.cd), (w.heap.size, 2, .int .i64 a0.ow), (w.heap.size, 3, .int .i64 a0.po), (w.heap.size, 4, .int .i64 a0.tg), (w.heap.size, 5, .int .i64 a0.da), (w.heap.size, 6, .int .i64 a0.co), (w.heap.size, 7, .int .i64 a0.pp), (w.heap.size, 8, .int .i64 a0.pt), (w.heap.size, 9, .bool a0.ta), (w.heap.size, 10, .bool a0.si), (w.heap.size, 11, .bool a0.dm)] (fun _ => True), s.val.cell? ⟨w.heap.size, 9, none⟩ = some (.bool a0.ta) := fun s => s.kept.at (by simp)
    have rB10 : ∀ s : KX (w.heap.size) w (w.heap.size + 1) [(w.heap.size, 0, .int .i64 a0.id), (w.heap.size, 1, .int .i64 a0.cd), (w.heap.size, 2, .int .i64 a0.ow), (w.heap.size, 3, .int .i64 a0.po), (w.heap.size, 4, .int .i64 a0.tg), (w.heap.size, 5, .int .i64 a0.da), (w.heap.size, 6, .int .i64 a0.co), (w.heap.size, 7, .int .i64 a0.pp), (w.heap.size, 8, .int .i64 a0.pt), (w.heap.size, 9, .bool a0.ta), (w.heap.size, 10, .bool a0.si), (w.heap.size, 11, .bool a0.dm)] (fun _ => True), s.val.cell? ⟨w.heap.size, 10, none⟩ = some (.bool a0.si) := fun s => s.kept.at (by simp)
    have rB11 : ∀ s : KX (w.heap.size) w (w.heap.size + 1) [(w.heap.size, 0, .int .i64 a0.id), (w.heap.size, 1, .int .i64 a0.cd), (w.heap.size, 2, .int .i64 a0.ow), (w.heap.size, 3, .int .i64 a0.po), (w.heap.size, 4, .int .i64 a0.tg), (w.heap.size, 5, .int .i64 a0.da), (w.heap.size, 6, .int .i64 a0.co), (w.heap.size, 7, .int .i64 a0.pp), (w.heap.size, 8, .int .i64 a0.pt), (w.heap.size, 9, .bool a0.ta), (w.heap.size, 10, .bool a0.si), (w.heap.size, 11, .bool a0.dm)] (fun _ => True), s.val.cell? ⟨w.heap.size, 11, none⟩ = some (.bool a0.dm) := fun s => s.kept.at (by simp)
    repeat (go_big_quiet_step (fail))
    refine wpQuiet_nil ?_
    clear rB0 rB1 rB2 rB3 rB4 rB5 rB6 rB7 rB8 rB9 rB10 rB11
    refine ⟨fun K hK0 => ?_, trivial⟩
    have hK := Lib.hid hK0
    clear hK0
    go_wp2_with fail
    with_reducible refine (oreset_true a0 a1 _ hz).mono ?_
    rintro e w6 ⟨rfl, hb_w6⟩
    have K_w6 : Kept w.heap.size w (w.heap.size + 1) [(w.heap.size, 0, .int .i64 a0.id), (w.heap.size, 1, .int .i64 a0.cd), (w.heap.size, 2, .int .i64 a0.ow), (w.heap.size, 3, .int .i64 a0.po), (w.heap.size, 4, .int .i64 a0.tg), (w.heap.size, 5, .int .i64 a0.da), (w.heap.size, 6, .int .i64 a0.co), (w.heap.size, 7, .int .i64 a0.pp), (w.heap.size, 8, .int .i64 a0.pt), (w.heap.size, 9, .bool a0.ta), (w.heap.size, 10, .bool a0.si), (w.heap.size, 11, .bool a0.dm)] w6 := (KH_w5.out.step (by omega) (by go_grown)).step (by omega) hb_w6
    clear hb_w6
    have KH_w6 := Lib.hid K_w6
    have hw_w6 := K_w6.below
    have hz_w6 := K_w6.size
    have lB_w6 : w.heap.size < w6.heap.size := by omega
    clear lB_w5
    clear K_w6
    go_wp2_with fail
    first | (refine ⟨rfl, ⟨⟨_, KH_w6.out, trivial⟩, rfl⟩, hK.out _ _ ?_⟩; clear hK K) | (refine ⟨⟨⟨_, KH_w6.out, trivial⟩, rfl⟩, hK.out _ _ ?_⟩; clear hK K)
    refine ⟨fun K hK0 => ?_, trivial⟩
    have hK := Lib.hid hK0
    clear hK0
    go_wp2_with fail
    with_reducible refine (rreset_true a0 a1 _ hz).mono ?_
    rintro e w7 ⟨rfl, hb_w7⟩
    have K_w7 : Kept w.heap.size w (w.heap.size + 1) [(w.heap.size, 0, .int .i64 a0.id), (w.heap.size, 1, .int .i64 a0.cd), (w.heap.size, 2, .int .i64 a0.ow), (w.heap.size, 3, .int .i64 a0.po), (w.heap.size, 4, .int .i64 a0.tg), (w.heap.size, 5, .int .i64 a0.da), (w.heap.size, 6, .int .i64 a0.co), (w.heap.size, 7, .int .i64 a0.pp), (w.heap.size, 8, .int .i64 a0.pt), (w.heap.size, 9, .bool a0.ta), (w.heap.size, 10, .bool a0.si), (w.heap.size, 11, .bool a0.dm)] w7 := (KH_w6.out.step (by omega) (by go_grown)).step (by omega) hb_w7
    clear hb_w7
    have KH_w7 := Lib.hid K_w7
    have hw_w7 := K_w7.below
    have hz_w7 := K_w7.size
    have lB_w7 : w.heap.size < w7.heap.size := by omega
    clear lB_w6
    clear K_w7
    go_wp2_with fail
    first | (refine ⟨rfl, hK.out _ _ ?_⟩; clear hK K) | (refine hK.out _ _ ?_; clear hK K)
    repeat (go_big_quiet_step (fail))
    refine wpQuiet_nil ?_
    refine ⟨fun K hK0 => ?_, trivial⟩
    have hK := Lib.hid hK0
    clear hK0
    go_wp2_with fail
    with_reducible refine (known _).mono ?_
    rintro e w8 ⟨rfl, hb_w8⟩
    have K_w8 : Kept w.heap.size w (w.heap.size + 1) [(w.heap.size, 0, .int .i64 a0.id), (w.heap.size, 1, .int .i64 a0.cd), (w.heap.size, 2, .int .i64 a0.ow), (w.heap.size, 3, .int .i64 a0.po), (w.heap.size, 4, .int .i64 a0.tg), (w.heap.size, 5, .int .i64 a0.da), (w.heap.size, 6, .int .i64 a0.co), (w.heap.size, 7, .int .i64 a0.pp), (w.heap.size, 8, .int .i64 a0.pt), (w.heap.size, 9, .bool a0.ta), (w.heap.size, 10, .bool a0.si), (w.heap.size, 11, .bool a0.dm)] w8 := (KH_w7.out.step (by omega) (by go_grown)).step (by omega) hb_w8
    clear hb_w8
    have KH_w8 := Lib.hid K_w8
    have hw_w8 := K_w8.below
    have hz_w8 := K_w8.size
    have lB_w8 : w.heap.size < w8.heap.size := by omega
    clear lB_w7
    clear K_w8
    go_wp2_with fail
    first | (refine ⟨rfl, hK.out _ _ ?_⟩; clear hK K) | (refine hK.out _ _ ?_; clear hK K)
    repeat (go_big_quiet_step (fail))
    refine wpQuiet_nil ?_
    clear _ne
    go_wp2_with fail
    go_returns
    exact ⟨rfl, by go_grown⟩

set_option maxRecDepth 100000 in
theorem lifted (os : Os) (started : os.Started) (H : Type) (enc : TypeId × Value → H) :
    ReturnsInHanded {} Try.checked os 6 .any (Rows.objectTurnsSpec.pre6 enc Try.prog Try.f6 Rows.objectTurnsRow.domain false) (Rows.objectTurnsSpec.post enc Try.prog Try.f6 false true false false) := by
  refine returnsInHanded_of_change (C := Try.checked) own started (by kernel_rfl) Try.func6
    (ChangeSpec.witness6 (enc := enc) (C := Try.checked) false ⟨#[], #[.agg #[.int .i64 0, .int .i64 0, .int .i64 0, .int .i64 0, .int .i64 0, .int .i64 0, .int .i64 0, .int .i64 0, .int .i64 0, .bool false, .bool false, .bool false], .int .i64 0], []⟩ 8 (by kernel_rfl) (by kernel_rfl) (by kernel_rfl) (by kernel_rfl)) ?_
  intro W base args ds gs before hval0 hW hcnd _
  have hval : ∀ (j : Nat) t v, Try.f6.params[j]? = some t → args[j]? = some v → Value.okWide Try.prog W .any base t v := hval0
  have hW' := hW
  obtain ⟨p, q, hA0, hV, rfl, hfz, hnd⟩ := hW
  have hA : DataW.TrodAll enc Try.prog W 0 (fun _ => true) true Try.f6.params.toList args.toList ds p := hA0
  rw [Try.params6] at hA hval
  obtain ⟨v0, vs0, d0, ds0, p0, q0, hargs, rfl, rfl, h0, r0⟩ := trodAll_cons hA
  obtain ⟨v1, vs1, d1, ds1, p1, q1, rfl, rfl, rfl, h1, r1⟩ := trodAll_cons r0
  obtain ⟨rfl, rfl, rfl⟩ := trodAll_nil r1
  obtain rfl : args = #[v0, v1] := by cases args; simp_all
  obtain ⟨rfl, rfl⟩ := trodVars_none hV
  have k0 := h0
  have lt0 : ∀ x ∈ p0, x.block < W.heap.size := by obtain ⟨m, hm⟩ := k0; exact DataW.trod_lt m _ _ _ hm
  have k1 := h1
  have lt1 : ∀ x ∈ p1, x.block < W.heap.size := by obtain ⟨m, hm⟩ := k1; exact DataW.trod_lt m _ _ _ hm
  obtain ⟨a0, rfl, w0⟩ := open_ob (hval 0 23 v0 rfl rfl) h0

  obtain ⟨a1, rfl, rfl, rfl, w1⟩ := open_int Try.underlying48 (hval 1 48 v1 rfl rfl) h1
  clear hA0 hval0
  refine (walk a0 a1 W w0 w1).mono fun e W' ⟨he, bel⟩ => ?_
  subst he
  exact ⟨_, rfl, _, _, _, [], _, [], hW', trodAll_mk1 (shut_bool Try.underlying4 _), (trodAll_cons_mk (Below.trod laidOut (by kernel_rfl) (of_decide_eq_true (by kernel_rfl)) k0 bel lt0) (trodAll_cons_mk (Below.trod laidOut (by kernel_rfl) (of_decide_eq_true (by kernel_rfl)) k1 bel lt1) trodAll_mk0)), rfl, bel.frame _, fun h => by cases h⟩

theorem over : Rows.objectTurnsRow.holds Try.pinned (OpenSpec.ofChange Rows.objectTurnsSpec) :=
  OpenClaim.holds_of_wide 6 Try.f6 rfl rfl rfl rfl rfl rfl rfl ⟨rfl, rfl, rfl, rfl, rfl⟩ rfl rfl rfl rfl rfl (by kernel_rfl) Try.func6 (by kernel_rfl)
    (of_decide_eq_true (by kernel_rfl)) (by unfold Func.isWrapper; first | (rw [if_pos (by decide +kernel)]; kernel_rfl) | (rw [if_neg (by decide +kernel)]; exact ⟨rfl, rfl⟩))
    (fun os started H enc _ => lifted os started H enc)

/-- THE STATEMENT -/
theorem proved : Rows.ObjectTurnsSaid := over
end Go.Proofs.Ytjedflfgafhlkaa.objectTurns
