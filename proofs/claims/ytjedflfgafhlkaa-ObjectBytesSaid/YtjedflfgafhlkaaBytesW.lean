/- ObjectBytes: the walk. -/
import Derived.Test.YtjedflfgafhlkaaOp
import Derived.Test.YtjedflfgafhlkaaKnown
namespace Go.Proofs.Ytjedflfgafhlkaa
open Go.RowKit Plain
set_option linter.unusedVariables false
set_option linter.unusedSimpArgs false

theorem rg4_3 {P : Program} {B n : Nat} {w0 : World} {L : List (Nat × Nat × Value)} {E F : World → Prop} {id : Nat} {Q : Exit → Act → World → Prop} {a : Act} {w : World} {o0 o1 o2 o3 o4 o5 o6 o7 o8 o9 o10 o11 o12 o13 o14 o15 o16 o17 o18 : Oper} (hm : P.follows .mixedOrders = true)
    (hB : (Region.noSelect [o0, o1, o2, o3, o4, o5, o6, o7, o8, o9, o10, o11, o12, o13, o14, o15, o16, o17, o18].toArray && Scr.ok .any [o0, o1, o2, o3, o4, o5, o6, o7, o8, o9, o10, o11, o12, o13, o14, o15, o16, o17, o18].toArray [0, 4, 9, 12, 13] [2, 3, 6, 7, 8, 11, 16, 17, 18] (.read 0 (.alt 1 (.free 2 (.free 3 (.read 4 (.alt 5 (.free 6 (.free 7 (.free 8 (.read 9 (.alt 10 (.free 11 (.read 12 (.read 13 (.alt 14 (.altc 15 (.free 16 (.free 17 (.free 18 .done))) .stop) .stop)))) .stop))))) .stop)))) .stop)) true true [o0, o1, o2, o3, o4, o5, o6, o7, o8, o9, o10, o11, o12, o13, o14, o15, o16, o17, o18].toArray.size (Array.replicate [o0, o1, o2, o3, o4, o5, o6, o7, o8, o9, o10, o11, o12, o13, o14, o15, o16, o17, o18].toArray.size false)) = true)
    (k : Kept B w0 n L w) (he : E w) (hE : ∀ W W', E W → Below W.heap.size W W' → E W') (hf : F w) (hF : ∀ W W', F W → Below W.heap.size W W' → F W')
    (h : ∀ wk, Kept B w0 n L wk → E wk → F wk → wpQuiet P [o0, o1, o2, o3, o4, o5, o6, o7, o8, o9, o10, o11, o12, o13, o14, o15, o16, o17, o18].toArray (fun w' => ∃ s : KX B w0 n L E, w' = s.val) (fun a0 => ((∀ K1 : Act → World → Prop, (∀ a1 w1, wpQuiet P [o0, o1, o2, o3, o4, o5, o6, o7, o8, o9, o10, o11, o12, o13, o14, o15, o16, o17, o18].toArray (fun _ => True) (fun a2 => wpQuiet P [o0, o1, o2, o3, o4, o5, o6, o7, o8, o9, o10, o11, o12, o13, o14, o15, o16, o17, o18].toArray (fun w' => ∃ s : KX B w0 n L E, w' = s.val) (fun a3 => ((∀ K4 : Act → World → Prop, (∀ a4 w4, wpQuiet P [o0, o1, o2, o3, o4, o5, o6, o7, o8, o9, o10, o11, o12, o13, o14, o15, o16, o17, o18].toArray (fun _ => True) (fun a5 => wpQuiet P [o0, o1, o2, o3, o4, o5, o6, o7, o8, o9, o10, o11, o12, o13, o14, o15, o16, o17, o18].toArray (fun w' => ∃ s : KX B w0 n L E, w' = s.val) (fun a6 => ((∀ K7 : Act → World → Prop, (∀ a7 w7, wpQuiet P [o0, o1, o2, o3, o4, o5, o6, o7, o8, o9, o10, o11, o12, o13, o14, o15, o16, o17, o18].toArray (fun _ => True) (fun a8 => wpQuiet P [o0, o1, o2, o3, o4, o5, o6, o7, o8, o9, o10, o11, o12, o13, o14, o15, o16, o17, o18].toArray (fun w' => ∃ s : KX B w0 n L E, w' = s.val) (fun a9 => ((∀ K10 : Act → World → Prop, (∀ a10 w10, ((∀ K11 : Act → World → Prop, (∀ a11 w11, wpQuiet P [o0, o1, o2, o3, o4, o5, o6, o7, o8, o9, o10, o11, o12, o13, o14, o15, o16, o17, o18].toArray (fun _ => True) (fun a12 => Q .normal a12 w11) [o16, o17, o18] a11 → K11 a11 w11) → wpList P [o0, o1, o2, o3, o4, o5, o6, o7, o8, o9, o10, o11, o12, o13, o14, o15, o16, o17, o18].toArray (fun e a11 w11 => e = .normal ∧ K11 a11 w11) [o15] a10 w10) ∧ True) → K10 a10 w10) → wpList P [o0, o1, o2, o3, o4, o5, o6, o7, o8, o9, o10, o11, o12, o13, o14, o15, o16, o17, o18].toArray (fun e a10 w10 => e = .normal ∧ (∃ s : KX B w0 n L E, w10 = s.val) ∧ K10 a10 w10) [o14] a9 w7) ∧ True)) [o12, o13] a8) [o11] a7 → K7 a7 w7) → wpList P [o0, o1, o2, o3, o4, o5, o6, o7, o8, o9, o10, o11, o12, o13, o14, o15, o16, o17, o18].toArray (fun e a7 w7 => e = .normal ∧ (∃ s : KX B w0 n L E, w7 = s.val) ∧ K7 a7 w7) [o10] a6 w4) ∧ True)) [o9] a5) [o6, o7, o8] a4 → K4 a4 w4) → wpList P [o0, o1, o2, o3, o4, o5, o6, o7, o8, o9, o10, o11, o12, o13, o14, o15, o16, o17, o18].toArray (fun e a4 w4 => e = .normal ∧ (∃ s : KX B w0 n L E, w4 = s.val) ∧ K4 a4 w4) [o5] a3 w1) ∧ True)) [o4] a2) [o2, o3] a1 → K1 a1 w1) → wpList P [o0, o1, o2, o3, o4, o5, o6, o7, o8, o9, o10, o11, o12, o13, o14, o15, o16, o17, o18].toArray (fun e a1 w1 => e = .normal ∧ (∃ s : KX B w0 n L E, w1 = s.val) ∧ K1 a1 w1) [o1] a0 wk) ∧ True)) [o0] a) : (Code.region id [o0, o1, o2, o3, o4, o5, o6, o7, o8, o9, o10, o11, o12, o13, o14, o15, o16, o17, o18].toArray true).wp P Q a w := by
  have e1 : E w.drew := hE _ _ he ((Below.refl _ _).drew)
  have g := h _ k.drew e1 (hF _ _ hf ((Below.refl _ _).drew))
  exact wp_region_scr (U := (fun w' => ∃ s : KX B w0 n L E, w' = s.val)) (ops := [o0, o1, o2, o3, o4, o5, o6, o7, o8, o9, o10, o11, o12, o13, o14, o15, o16, o17, o18].toArray) (.read 0 (.alt 1 (.free 2 (.free 3 (.read 4 (.alt 5 (.free 6 (.free 7 (.free 8 (.read 9 (.alt 10 (.free 11 (.read 12 (.read 13 (.alt 14 (.altc 15 (.free 16 (.free 17 (.free 18 .done))) .stop) .stop)))) .stop))))) .stop)))) .stop)) [0, 4, 9, 12, 13] [2, 3, 6, 7, 8, 11, 16, 17, 18] hm hB ⟨⟨_, k.drew, e1⟩, rfl⟩ (Scr.of_read rfl g (fun _ g0 => (Scr.of_alt rfl (g0.1 _ (fun _ _ g => g)) (fun _ _ g1 => Scr.of_free rfl g1 (fun _ g2 => Scr.of_free rfl g2 (fun _ g3 => Scr.of_read rfl g3 (fun _ g4 => (Scr.of_alt rfl (g4.1 _ (fun _ _ g => g)) (fun _ _ g5 => Scr.of_free rfl g5 (fun _ g6 => Scr.of_free rfl g6 (fun _ g7 => Scr.of_free rfl g7 (fun _ g8 => Scr.of_read rfl g8 (fun _ g9 => (Scr.of_alt rfl (g9.1 _ (fun _ _ g => g)) (fun _ _ g10 => Scr.of_free rfl g10 (fun _ g11 => Scr.of_read rfl g11 (fun _ g12 => Scr.of_read rfl g12 (fun _ g13 => (Scr.of_alt rfl (g13.1 _ (fun _ _ g => g)) (fun _ _ g14 => (Scr.of_altc rfl (g14.1 _ (fun _ _ g => g)) (fun _ _ g15 => Scr.of_free rfl g15 (fun _ g16 => Scr.of_free rfl g16 (fun _ g17 => Scr.of_free rfl g17 (fun _ g18 => g18)))) trivial)) trivial))))) trivial)))))) trivial))))) trivial)))
theorem rdecodec (v : Value) (zs : List Int) (o : Ob) (no : Int) (w : World) (hs : Seg w .u8 v zs) (hz : ∀ z ∈ zs, 0 ≤ z ∧ z < 256) (ho : Hid (rdO zs = o)) (hn : Hid (rdN zs = no)) : Calls Try.prog 15 #[v] w fun e w' => e = .returned (.tuple #[.agg #[.int .i64 o.id, .int .i64 o.cd, .int .i64 o.ow, .int .i64 o.po, .int .i64 o.tg, .int .i64 o.da, .int .i64 o.co, .int .i64 o.pp, .int .i64 o.pt, .bool o.ta, .bool o.si, .bool o.dm], .int .i64 no]) ∧ Below w.heap.size w w' := by
  rw [← ho.out, ← hn.out]
  exact rdecode v zs w hs hz
theorem rbytesc (o : Ob) (w : World) (h : Hid (vO o = true)) : Calls Try.prog 14 #[.agg #[.int .i64 o.id, .int .i64 o.cd, .int .i64 o.ow, .int .i64 o.po, .int .i64 o.tg, .int .i64 o.da, .int .i64 o.co, .int .i64 o.pp, .int .i64 o.pt, .bool o.ta, .bool o.si, .bool o.dm]] w (ByAt w (byO o)) := rbytes o w h.out
set_option maxRecDepth 100000 in
set_option maxHeartbeats 2000000 in
theorem bytes4_true (a0 : Ob) (v : Value) (zs : List Int) (w : World) (hs : Seg w .u8 v zs) (hz : ∀ z ∈ zs, 0 ≤ z ∧ z < 256) (hl : zs.length ≤ 20) (hv : Hid (vO a0 = true)) : Calls Try.prog 4 #[.agg #[.int .i64 a0.id, .int .i64 a0.cd, .int .i64 a0.ow, .int .i64 a0.po, .int .i64 a0.tg, .int .i64 a0.da, .int .i64 a0.co, .int .i64 a0.pp, .int .i64 a0.pt, .bool a0.ta, .bool a0.si, .bool a0.dm], v] w fun e w' => e = .returned (.bool true) ∧ Below w.heap.size w w' := by
  obtain ⟨m1, a1, c1, rfl, _⟩ := seg_form hs
  obtain ⟨x, hx⟩ : ∃ x, rdO zs = x := ⟨_, rfl⟩
  obtain ⟨no, hn⟩ : ∃ no, rdN zs = no := ⟨_, rfl⟩
  have HX := Lib.hid hx
  have HN := Lib.hid hn
  have HS := Lib.hid hs
  have HZ := Lib.hid hz
  have q1 : decide ((20 : Int) < (zs.length : Int)) = false := by simp; omega
  clear hs hz hx hn
  go_enter Try.func4, Try.ntmps4
  go_wp2_with fail
  refine rg4_3 (w0 := w) (B := w.heap.size) (n := w.heap.size + 1) (L := [(w.heap.size, 0, .int .i64 a0.id), (w.heap.size, 1, .int .i64 a0.cd), (w.heap.size, 2, .int .i64 a0.ow), (w.heap.size, 3, .int .i64 a0.po), (w.heap.size, 4, .int .i64 a0.tg), (w.heap.size, 5, .int .i64 a0.da), (w.heap.size, 6, .int .i64 a0.co), (w.heap.size, 7, .int .i64 a0.pp), (w.heap.size, 8, .int .i64 a0.pt), (w.heap.size, 9, .bool a0.ta), (w.heap.size, 10, .bool a0.si), (w.heap.size, 11, .bool a0.dm)]) (E := fun _ => True) (F := fun _ => True) (by kernel_rfl) (by kernel_rfl) ⟨by go_grown, by go_size, (by simp [go_sem] <;> omega)⟩ trivial (fun _ _ _ _ => trivial) trivial (fun _ _ _ _ => trivial) (fun w1 K_w1 E_w1 F_w1 => ?_)
  have _ne : Nonempty (KX (w.heap.size) w (w.heap.size + 1) [(w.heap.size, 0, .int .i64 a0.id), (w.heap.size, 1, .int .i64 a0.cd), (w.heap.size, 2, .int .i64 a0.ow), (w.heap.size, 3, .int .i64 a0.po), (w.heap.size, 4, .int .i64 a0.tg), (w.heap.size, 5, .int .i64 a0.da), (w.heap.size, 6, .int .i64 a0.co), (w.heap.size, 7, .int .i64 a0.pp), (w.heap.size, 8, .int .i64 a0.pt), (w.heap.size, 9, .bool a0.ta), (w.heap.size, 10, .bool a0.si), (w.heap.size, 11, .bool a0.dm)] (fun _ => True)) := ⟨⟨_, K_w1, E_w1⟩⟩
  have rB0 : ∀ s : KX (w.heap.size) w (w.heap.size + 1) [(w.heap.size, 0, .int .i64 a0.id), (w.heap.size, 1, .int .i64 a0.cd), (w.heap.size, 2, .int .i64 a0.ow), (w.heap.size, 3, .int .i64 a0.po), (w.heap.size, 4, .int .i64 a0.tg), (w.heap.size, 5, .int .i64 a0.da), (w.heap.size, 6, .int .i64 a0.co), (w.heap.size, 7, .int .i64 a0.pp), (w.heap.size, 8, .int .i64 a0.pt), (w.heap.size, 9, .bool a0.ta), (w.heap.size, 10, .bool a0.si), (w.heap.size, 11, .bool a0.dm)] (fun _ => True), s.val.cell? ⟨w.heap.size, 0, none⟩ = some (.int .i64 a0.id) := fun s => s.kept.at (by simp)
  have rB1 : ∀ s : KX (w.heap.size) w (w.heap.size + 1) [(w.heap.size, 0, .int .i64 a0.id), (w.heap.size, 1, .int .i64 a0.cd), (w.heap.size, 2, .int .i64 a0.ow), (w.heap.size, 3, .int .i64 a0.po), (w.heap.size, 4, .int .i64 a0.tg), (w.heap.size, 5, .int .i64 a0.da), (w.heap.size, 6, .int .i64 a0.co), (w.heap.size, 7, .int .i64 a0.pp), (w.heap.size, 8, .int .i64 a0.pt), (w.heap.size, 9, .bool a0.ta), (w.heap.size, 10, .bool a0.si), (w.heap.size, 11, .bool a0.dm)] (fun _ => True), s.val.cell? ⟨w.heap.size, 1, none⟩ = some (.int .i64 a0.cd) := fun s => s.kept.at (by simp)
  have rB2 : ∀ s : KX (w.heap.size) w (w.heap.size + 1) [(w.heap.size, 0, .int .i64 a0.id), (w.heap.size, 1, .int .i64 a0.cd), (w.heap.size, 2, .int .i64 a0.ow), (w.heap.size, 3, .int .i64 a0.po), (w.heap.size, 4, .int .i64 a0.tg), (w.heap.size, 5, .int .i64 a0.da), (w.heap.size, 6, .int .i64 a0.co), (w.heap.size, 7, .int .i64 a0.pp), (w.heap.size, 8, .int .i64 a0.pt), (w.heap.size, 9, .bool a0.ta), (w.heap.size, 10, .bool a0.si), (w.heap.size, 11, .bool a0.dm)] (fun _ => True), s.val.cell? ⟨w.heap.size, 2, none⟩ = some (.int .i64 a0.ow) := fun s => s.kept.at (by simp)
  have rB3 : ∀ s : KX (w.heap.size) w (w.heap.size + 1) [(w.heap.size, 0, .int .i64 a0.id), (w.heap.size, 1, .int .i64 a0.cd), (w.heap.size, 2, .int .i64 a0.ow), (w.heap.size, 3, .int .i64 a0.po), (w.heap.size, 4, .int .i64 a0.tg), (w.heap.size, 5, .int .i64 a0.da), (w.heap.size, 6, .int .i64 a0.co), (w.heap.size, 7, .int .i64 a0.pp), (w.heap.size, 8, .int .i64 a0.pt), (w.heap.size, 9, .bool a0.ta), (w.heap.size, 10, .bool a0.si), (w.heap.size, 11, .bool a0.dm)] (fun _ => True), s.val.cell? ⟨w.heap.size, 3, none⟩ = some (.int .i64 a0.po) := fun s => s.kept.at (by simp)
  have rB4 : ∀ s : KX (w.heap.size) w (w.heap.size + 1) [(w.heap.size, 0, .int .i64 a0.id), (w.heap.size, 1, .int .i64 a0.cd), (w.heap.size, 2, .int .i64 a0.ow), (w.heap.size, 3, .int .i64 a0.po), (w.heap.size, 4, .int .i64 a0.tg), (w.heap.size, 5, .int .i64 a0.da), (w.heap.size, 6, .int .i64 a0.co), (w.heap.size, 7, .int .i64 a0.pp), (w.heap.size, 8, .int .i64 a0.pt), (w.heap.size, 9, .bool a0.ta), (w.heap.size, 10, .bool a0.si), (w.heap.size, 11, .bool a0.dm)] (fun _ => True), s.val.cell? ⟨w.heap.size, 4, none⟩ = some (.int .i64 a0.tg) := fun s => s.kept.at (by simp)
  have rB5 : ∀ s : KX (w.heap.size) w (w.heap.size + 1) [(w.heap.size, 0, .int .i64 a0.id), (w.heap.size, 1, .int .i64 a0.cd), (w.heap.size, 2, .int .i64 a0.ow), (w.heap.size, 3, .int .i64 a0.po), (w.heap.size, 4, .int .i64 a0.tg), (w.heap.size, 5, .int .i64 a0.da), (w.heap.size, 6, .int .i64 a0.co), (w.heap.size, 7, .int .i64 a0.pp), (w.heap.size, 8, .int .i64 a0.pt), (w.heap.size, 9, .bool a0.ta), (w.heap.size, 10, .bool a0.si), (w.heap.size, 11, .bool a0.dm)] (fun _ => True), s.val.cell? ⟨w.heap.size, 5, none⟩ = some (.int .i64 a0.da) := fun s => s.kept.at (by simp)
  have rB6 : ∀ s : KX (w.heap.size) w (w.heap.size + 1) [(w.heap.size, 0, .int .i64 a0.id), (w.heap.size, 1, .int .i64 a0.cd), (w.heap.size, 2, .int .i64 a0.ow), (w.heap.size, 3, .int .i64 a0.po), (w.heap.size, 4, .int .i64 a0.tg), (w.heap.size, 5, .int .i64 a0.da), (w.heap.size, 6, .int .i64 a0.co), (w.heap.size, 7, .int .i64 a0.pp), (w.heap.size, 8, .int .i64 a0.pt), (w.heap.size, 9, .bool a0.ta), (w.heap.size, 10, .bool a0.si), (w.heap.size, 11, .bool a0.dm)] (fun _ => True), s.val.cell? ⟨w.heap.size, 6, none⟩ = some (.int .i64 a0.co) := fun s => s.kept.at (by simp)
  have rB7 : ∀ s : KX (w.heap.size) w (w.heap.size + 1) [(w.heap.size, 0, .int .i64 a0.id), (w.heap.size, 1, .int .i64 a0.cd), (w.heap.size, 2, .int .i64 a0.ow), (w.heap.size, 3, .int .i64 a0.po), (w.heap.size, 4, .int .i64 a0.tg), (w.heap.size, 5, .int .i64 a0.da), (w.heap.size, 6, .int .i64 a0.co), (w.heap.size, 7, .int .i64 a0.pp), (w.heap.size, 8, .int .i64 a0.pt), (w.heap.size, 9, .bool a0.ta), (w.heap.size, 10, .bool a0.si), (w.heap.size, 11, .bool a0.dm)] (fun _ => True), s.val.cell? ⟨w.heap.size, 7, none⟩ = some (.int .i64 a0.pp) := fun s => s.kept.at (by simp)
  have rB8 : ∀ s : KX (w.heap.size) w (w.heap.size + 1) [(w.heap.size, 0, .int .i64 a0.id), (w.heap.size, 1, .int .i64 a0.cd), (w.heap.size, 2, .int .i64 a0.ow), (w.heap.size, 3, .int .i64 a0.po), (w.heap.size, 4, .int .i64 a0.tg), (w.heap.size, 5, .int .i64 a0.da), (w.heap.size, 6, .int .i64 a0.co), (w.heap.size, 7, .int .i64 a0.pp), (w.heap.size, 8, .int .i64 a0.pt), (w.heap.size, 9, .bool a0.ta), (w.heap.size, 10, .bool a0.si), (w.heap.size, 11, .bool a0.dm)] (fun _ => True), s.val.cell? ⟨w.heap.size, 8, none⟩ = some (.int .i64 a0.pt) := fun s => s.kept.at (by simp)
  have rB9 : ∀ s : KX (w.heap.size) w (w.heap.size + 1) [(w.heap.size, 0, .int .i64 a0.id), (w.heap.size, 1, .int .i64 a0.cd), (w.heap.size, 2, .int .i64 a0.ow), (w.heap.size, 3, .int .i64 a0.po), (w.heap.size, 4, .int .i64 a0.tg), (w.heap.size, 5, .int .i64 a0.da), (w.heap.size, 6, .int .i64 a0.co), (w.heap.size, 7, .int .i64 a0.pp), (w.heap.size, 8, .int .i64 a0.pt), (w.heap.size, 9, .bool a0.ta), (w.heap.size, 10, .bool a0.si), (w.heap.size, 11, .bool a0.dm)] (fun _ => True), s.val.cell? ⟨w.heap.size, 9, none⟩ = some (.bool a0.ta) := fun s => s.kept.at (by simp)
  have rB10 : ∀ s : KX (w.heap.size) w (w.heap.size + 1) [(w.heap.size, 0, .int .i64 a0.id), (w.heap.size, 1, .int .i64 a0.cd), (w.heap.size, 2, .int .i64 a0.ow), (w.heap.size, 3, .int .i64 a0.po), (w.heap.size, 4, .int .i64 a0.tg), (w.heap.size, 5, .int .i64 a0.da), (w.heap.size, 6, .int .i64 a0.co), (w.heap.size, 7, .int .i64 a0.pp), (w.heap.size, 8, .int .i64 a0.pt), (w.heap.size, 9, .bool a0.ta), (w.heap.size, 10, .bool a0.si), (w.heap.size, 11, .bool a0.dm)] (fun _ => True), s.val.cell? ⟨w.heap.size, 10, none⟩ = some (.bool a0.si) := fun s => s.kept.at (by simp)
  have rB11 : ∀ s : KX (w.heap.size) w (w.heap.size + 1) [(w.heap.size, 0, .int .i64 a0.id), (w.heap.size, 1, .int .i64 a0.cd), (w.heap.size, 2, .int .i64 a0.ow), (w.heap.size, 3, .int .i64 a0.po), (w.heap.size, 4, .int .i64 a0.tg), (w.heap.size, 5, .int .i64 a0.da), (w.heap.size, 6, .int .i64 a0.co), (w.heap.size, 7, .int .i64 a0.pp), (w.heap.size, 8, .int .i64 a0.pt), (w.heap.size, 9, .bool a0.ta), (w.heap.size, 10, .bool a0.si), (w.heap.size, 11, .bool a0.dm)] (fun _ => True), s.val.cell? ⟨w.heap.size, 11, none⟩ = some (.bool a0.dm) := fun s => s.kept.at (by simp)
  repeat (go_big_quiet_step (fail))
  refine wpQuiet_nil ?_
  clear rB0 rB1 rB2 rB3 rB4 rB5 rB6 rB7 rB8 rB9 rB10 rB11
  have KH_w1 := Lib.hid K_w1
  have hw_w1 := K_w1.below
  have hz_w1 := K_w1.size
  have lB_w1 : w.heap.size < w1.heap.size := by omega
  clear K_w1
  clear E_w1 F_w1
  refine ⟨fun K hK0 => ?_, trivial⟩
  have hK := Lib.hid hK0
  clear hK0
  go_wp2_with fail
  with_reducible refine (rvalidc a0 true _ hv.out).mono ?_
  rintro e w2 ⟨rfl, hb_w2⟩
  have K_w2 : Kept w.heap.size w (w.heap.size + 1) [(w.heap.size, 0, .int .i64 a0.id), (w.heap.size, 1, .int .i64 a0.cd), (w.heap.size, 2, .int .i64 a0.ow), (w.heap.size, 3, .int .i64 a0.po), (w.heap.size, 4, .int .i64 a0.tg), (w.heap.size, 5, .int .i64 a0.da), (w.heap.size, 6, .int .i64 a0.co), (w.heap.size, 7, .int .i64 a0.pp), (w.heap.size, 8, .int .i64 a0.pt), (w.heap.size, 9, .bool a0.ta), (w.heap.size, 10, .bool a0.si), (w.heap.size, 11, .bool a0.dm)] w2 := (KH_w1.out.step (by omega) (by go_grown)).step (by omega) hb_w2
  clear hb_w2
  have KH_w2 := Lib.hid K_w2
  have hw_w2 := K_w2.below
  have hz_w2 := K_w2.size
  have lB_w2 : w.heap.size < w2.heap.size := by omega
  clear lB_w1
  clear K_w2
  go_wp2_with fail
  first | (refine ⟨rfl, ⟨⟨_, KH_w2.out, trivial⟩, rfl⟩, hK.out _ _ ?_⟩; clear hK K) | (refine ⟨⟨⟨_, KH_w2.out, trivial⟩, rfl⟩, hK.out _ _ ?_⟩; clear hK K)
  repeat (go_big_quiet_step (fail))
  refine wpQuiet_nil ?_
  have rB0 : ∀ s : KX (w.heap.size) w (w.heap.size + 1) [(w.heap.size, 0, .int .i64 a0.id), (w.heap.size, 1, .int .i64 a0.cd), (w.heap.size, 2, .int .i64 a0.ow), (w.heap.size, 3, .int .i64 a0.po), (w.heap.size, 4, .int .i64 a0.tg), (w.heap.size, 5, .int .i64 a0.da), (w.heap.size, 6, .int .i64 a0.co), (w.heap.size, 7, .int .i64 a0.pp), (w.heap.size, 8, .int .i64 a0.pt), (w.heap.size, 9, .bool a0.ta), (w.heap.size, 10, .bool a0.si), (w.heap.size, 11, .bool a0.dm)] (fun _ => True), s.val.cell? ⟨w.heap.size, 0, none⟩ = some (.int .i64 a0.id) := fun s => s.kept.at (by simp)
  have rB1 : ∀ s : KX (w.heap.size) w (w.heap.size + 1) [(w.heap.size, 0, .int .i64 a0.id), (w.heap.size, 1, .int .i64 a0.cd), (w.heap.size, 2, .int .i64 a0.ow), (w.heap.size, 3, .int .i64 a0.po), (w.heap.size, 4, .int .i64 a0.tg), (w.heap.size, 5, .int .i64 a0.da), (w.heap.size, 6, .int .i64 a0.co), (w.heap.size, 7, .int .i64 a0.pp), (w.heap.size, 8, .int .i64 a0.pt), (w.heap.size, 9, .bool a0.ta), (w.heap.size, 10, .bool a0.si), (w.heap.size, 11, .bool a0.dm)] (fun _ => True), s.val.cell? ⟨w.heap.size, 1, none⟩ = some (.int .i64 a0.cd) := fun s => s.kept.at (by simp)
  have rB2 : ∀ s : KX (w.heap.size) w (w.heap.size + 1) [(w.heap.size, 0, .int .i64 a0.id), (w.heap.size, 1, .int .i64 a0.cd), (w.heap.size, 2, .int .i64 a0.ow), (w.heap.size, 3, .int .i64 a0.po), (w.heap.size, 4, .int .i64 a0.tg), (w.heap.size, 5, .int .i64 a0.da), (w.heap.size, 6, .int .i64 a0.co), (w.heap.size, 7, .int .i64 a0.pp), (w.heap.size, 8, .int .i64 a0.pt), (w.heap.size, 9, .bool a0.ta), (w.heap.size, 10, .bool a0.si), (w.heap.size, 11, .bool a0.dm)] (fun _ => True), s.val.cell? ⟨w.heap.size, 2, none⟩ = some (.int .i64 a0.ow) := fun s => s.kept.at (by simp)
  have rB3 : ∀ s : KX (w.heap.size) w (w.heap.size + 1) [(w.heap.size, 0, .int .i64 a0.id), (w.heap.size, 1, .int .i64 a0.cd), (w.heap.size, 2, .int .i64 a0.ow), (w.heap.size, 3, .int .i64 a0.po), (w.heap.size, 4, .int .i64 a0.tg), (w.heap.size, 5, .int .i64 a0.da), (w.heap.size, 6, .int .i64 a0.co), (w.heap.size, 7, .int .i64 a0.pp), (w.heap.size, 8, .int .i64 a0.pt), (w.heap.size, 9, .bool a0.ta), (w.heap.size, 10, .bool a0.si), (w.heap.size, 11, .bool a0.dm)] (fun _ => True), s.val.cell? ⟨w.heap.size, 3, none⟩ = some (.int .i64 a0.po) := fun s => s.kept.at (by simp)
  have rB4 : ∀ s : KX (w.heap.size) w (w.heap.size + 1) [(w.heap.size, 0, .int .i64 a0.id), (w.heap.size, 1, .int .i64 a0.cd), (w.heap.size, 2, .int .i64 a0.ow), (w.heap.size, 3, .int .i64 a0.po), (w.heap.size, 4, .int .i64 a0.tg), (w.heap.size, 5, .int .i64 a0.da), (w.heap.size, 6, .int .i64 a0.co), (w.heap.size, 7, .int .i64 a0.pp), (w.heap.size, 8, .int .i64 a0.pt), (w.heap.size, 9, .bool a0.ta), (w.heap.size, 10, .bool a0.si), (w.heap.size, 11, .bool a0.dm)] (fun _ => True), s.val.cell? ⟨w.heap.size, 4, none⟩ = some (.int .i64 a0.tg) := fun s => s.kept.at (by simp)
  have rB5 : ∀ s : KX (w.heap.size) w (w.heap.size + 1) [(w.heap.size, 0, .int .i64 a0.id), (w.heap.size, 1, .int .i64 a0.cd), (w.heap.size, 2, .int .i64 a0.ow), (w.heap.size, 3, .int .i64 a0.po), (w.heap.size, 4, .int .i64 a0.tg), (w.heap.size, 5, .int .i64 a0.da), (w.heap.size, 6, .int .i64 a0.co), (w.heap.size, 7, .int .i64 a0.pp), (w.heap.size, 8, .int .i64 a0.pt), (w.heap.size, 9, .bool a0.ta), (w.heap.size, 10, .bool a0.si), (w.heap.size, 11, .bool a0.dm)] (fun _ => True), s.val.cell? ⟨w.heap.size, 5, none⟩ = some (.int .i64 a0.da) := fun s => s.kept.at (by simp)
  have rB6 : ∀ s : KX (w.heap.size) w (w.heap.size + 1) [(w.heap.size, 0, .int .i64 a0.id), (w.heap.size, 1, .int .i64 a0.cd), (w.heap.size, 2, .int .i64 a0.ow), (w.heap.size, 3, .int .i64 a0.po), (w.heap.size, 4, .int .i64 a0.tg), (w.heap.size, 5, .int .i64 a0.da), (w.heap.size, 6, .int .i64 a0.co), (w.heap.size, 7, .int .i64 a0.pp), (w.heap.size, 8, .int .i64 a0.pt), (w.heap.size, 9, .bool a0.ta), (w.heap.size, 10, .bool a0.si), (w.heap.size, 11, .bool a0.dm)] (fun _ => True), s.val.cell? ⟨w.heap.size, 6, none⟩ = some (.int .i64 a0.co) := fun s => s.kept.at (by simp)
  have rB7 : ∀ s : KX (w.heap.size) w (w.heap.size + 1) [(w.heap.size, 0, .int .i64 a0.id), (w.heap.size, 1, .int .i64 a0.cd), (w.heap.size, 2, .int .i64 a0.ow), (w.heap.size, 3, .int .i64 a0.po), (w.heap.size, 4, .int .i64 a0.tg), (w.heap.size, 5, .int .i64 a0.da), (w.heap.size, 6, .int .i64 a0.co), (w.heap.size, 7, .int .i64 a0.pp), (w.heap.size, 8, .int .i64 a0.pt), (w.heap.size, 9, .bool a0.ta), (w.heap.size, 10, .bool a0.si), (w.heap.size, 11, .bool a0.dm)] (fun _ => True), s.val.cell? ⟨w.heap.size, 7, none⟩ = some (.int .i64 a0.pp) := fun s => s.kept.at (by simp)
  have rB8 : ∀ s : KX (w.heap.size) w (w.heap.size + 1) [(w.heap.size, 0, .int .i64 a0.id), (w.heap.size, 1, .int .i64 a0.cd), (w.heap.size, 2, .int .i64 a0.ow), (w.heap.size, 3, .int .i64 a0.po), (w.heap.size, 4, .int .i64 a0.tg), (w.heap.size, 5, .int .i64 a0.da), (w.heap.size, 6, .int .i64 a0.co), (w.heap.size, 7, .int .i64 a0.pp), (w.heap.size, 8, .int .i64 a0.pt), (w.heap.size, 9, .bool a0.ta), (w.heap.size, 10, .bool a0.si), (w.heap.size, 11, .bool a0.dm)] (fun _ => True), s.val.cell? ⟨w.heap.size, 8, none⟩ = some (.int .i64 a0.pt) := fun s => s.kept.at (by simp)
  have rB9 : ∀ s : KX (w.heap.size) w (w.heap.size + 1) [(w.heap.size, 0, .int .i64 a0.id), (w.heap.size, 1, .int .i64 a0.cd), (w.heap.size, 2, .int .i64 a0.ow), (w.heap.size, 3, .int .i64 a0.po), (w.heap.size, 4, .int .i64 a0.tg), (w.heap.size, 5, .int .i64 a0.da), (w.heap.size, 6, .int .i64 a0.co), (w.heap.size, 7, .int .i64 a0.pp), (w.heap.size, 8, .int .i64 a0.pt), (w.heap.size, 9, .bool a0.ta), (w.heap.size, 10, .bool a0.si), (w.heap.size, 11, .bool a0.dm)] (fun _ => True), s.val.cell? ⟨w.heap.size, 9, none⟩ = some (.bool a0.ta) := fun s => s.kept.at (by simp)
  have rB10 : ∀ s : KX (w.heap.size) w (w.heap.size + 1) [(w.heap.size, 0, .int .i64 a0.id), (w.heap.size, 1, .int .i64 a0.cd), (w.heap.size, 2, .int .i64 a0.ow), (w.heap.size, 3, .int .i64 a0.po), (w.heap.size, 4, .int .i64 a0.tg), (w.heap.size, 5, .int .i64 a0.da), (w.heap.size, 6, .int .i64 a0.co), (w.heap.size, 7, .int .i64 a0.pp), (w.heap.size, 8, .int .i64 a0.pt), (w.heap.size, 9, .bool a0.ta), (w.heap.size, 10, .bool a0.si), (w.heap.size, 11, .bool a0.dm)] (fun _ => True), s.val.cell? ⟨w.heap.size, 10, none⟩ = some (.bool a0.si) := fun s => s.kept.at (by simp)
  have rB11 : ∀ s : KX (w.heap.size) w (w.heap.size + 1) [(w.heap.size, 0, .int .i64 a0.id), (w.heap.size, 1, .int .i64 a0.cd), (w.heap.size, 2, .int .i64 a0.ow), (w.heap.size, 3, .int .i64 a0.po), (w.heap.size, 4, .int .i64 a0.tg), (w.heap.size, 5, .int .i64 a0.da), (w.heap.size, 6, .int .i64 a0.co), (w.heap.size, 7, .int .i64 a0.pp), (w.heap.size, 8, .int .i64 a0.pt), (w.heap.size, 9, .bool a0.ta), (w.heap.size, 10, .bool a0.si), (w.heap.size, 11, .bool a0.dm)] (fun _ => True), s.val.cell? ⟨w.heap.size, 11, none⟩ = some (.bool a0.dm) := fun s => s.kept.at (by simp)
  repeat (go_big_quiet_step (fail))
  refine wpQuiet_nil ?_
  clear rB0 rB1 rB2 rB3 rB4 rB5 rB6 rB7 rB8 rB9 rB10 rB11
  refine ⟨fun K hK0 => ?_, trivial⟩
  have hK := Lib.hid hK0
  clear hK0
  go_wp2_with fail
  first | (refine ⟨rfl, ⟨⟨_, KH_w2.out, trivial⟩, rfl⟩, hK.out _ _ ?_⟩; clear hK K) | (refine ⟨⟨⟨_, KH_w2.out, trivial⟩, rfl⟩, hK.out _ _ ?_⟩; clear hK K)
  repeat (go_big_quiet_step (fail))
  refine wpQuiet_nil ?_
  have rB0 : ∀ s : KX (w.heap.size) w (w.heap.size + 1) [(w.heap.size, 0, .int .i64 a0.id), (w.heap.size, 1, .int .i64 a0.cd), (w.heap.size, 2, .int .i64 a0.ow), (w.heap.size, 3, .int .i64 a0.po), (w.heap.size, 4, .int .i64 a0.tg), (w.heap.size, 5, .int .i64 a0.da), (w.heap.size, 6, .int .i64 a0.co), (w.heap.size, 7, .int .i64 a0.pp), (w.heap.size, 8, .int .i64 a0.pt), (w.heap.size, 9, .bool a0.ta), (w.heap.size, 10, .bool a0.si), (w.heap.size, 11, .bool a0.dm)] (fun _ => True), s.val.cell? ⟨w.heap.size, 0, none⟩ = some (.int .i64 a0.id) := fun s => s.kept.at (by simp)
  have rB1 : ∀ s : KX (w.heap.size) w (w.heap.size + 1) [(w.heap.size, 0, .int .i64 a0.id), (w.heap.size, 1, .int .i64 a0.cd), (w.heap.size, 2, .int .i64 a0.ow), (w.heap.size, 3, .int .i64 a0.po), (w.heap.size, 4, .int .i64 a0.tg), (w.heap.size, 5, .int .i64 a0.da), (w.heap.size, 6, .int .i64 a0.co), (w.heap.size, 7, .int .i64 a0.pp), (w.heap.size, 8, .int .i64 a0.pt), (w.heap.size, 9, .bool a0.ta), (w.heap.size, 10, .bool a0.si), (w.heap.size, 11, .bool a0.dm)] (fun _ => True), s.val.cell? ⟨w.heap.size, 1, none⟩ = some (.int .i64 a0.cd) := fun s => s.kept.at (by simp)
  have rB2 : ∀ s : KX (w.heap.size) w (w.heap.size + 1) [(w.heap.size, 0, .int .i64 a0.id), (w.heap.size, 1, .int .i64 a0.cd), (w.heap.size, 2, .int .i64 a0.ow), (w.heap.size, 3, .int .i64 a0.po), (w.heap.size, 4, .int .i64 a0.tg), (w.heap.size, 5, .int .i64 a0.da), (w.heap.size, 6, .int .i64 a0.co), (w.heap.size, 7, .int .i64 a0.pp), (w.heap.size, 8, .int .i64 a0.pt), (w.heap.size, 9, .bool a0.ta), (w.heap.size, 10, .bool a0.si), (w.heap.size, 11, .bool a0.dm)] (fun _ => True), s.val.cell? ⟨w.heap.size, 2, none⟩ = some (.int .i64 a0.ow) := fun s => s.kept.at (by simp)
  have rB3 : ∀ s : KX (w.heap.size) w (w.heap.size + 1) [(w.heap.size, 0, .int .i64 a0.id), (w.heap.size, 1, .int .i64 a0.cd), (w.heap.size, 2, .int .i64 a0.ow), (w.heap.size, 3, .int .i64 a0.po), (w.heap.size, 4, .int .i64 a0.tg), (w.heap.size, 5, .int .i64 a0.da), (w.heap.size, 6, .int .i64 a0.co), (w.heap.size, 7, .int .i64 a0.pp), (w.heap.size, 8, .int .i64 a0.pt), (w.heap.size, 9, .bool a0.ta), (w.heap.size, 10, .bool a0.si), (w.heap.size, 11, .bool a0.dm)] (fun _ => True), s.val.cell? ⟨w.heap.size, 3, none⟩ = some (.int .i64 a0.po) := fun s => s.kept.at (by simp)
  have rB4 : ∀ s : KX (w.heap.size) w (w.heap.size + 1) [(w.heap.size, 0, .int .i64 a0.id), (w.heap.size, 1, .int .i64 a0.cd), (w.heap.size, 2, .int .i64 a0.ow), (w.heap.size, 3, .int .i64 a0.po), (w.heap.size, 4, .int .i64 a0.tg), (w.heap.size, 5, .int .i64 a0.da), (w.heap.size, 6, .int .i64 a0.co), (w.heap.size, 7, .int .i64 a0.pp), (w.heap.size, 8, .int .i64 a0.pt), (w.heap.size, 9, .bool a0.ta), (w.heap.size, 10, .bool a0.si), (w.heap.size, 11, .bool a0.dm)] (fun _ => True), s.val.cell? ⟨w.heap.size, 4, none⟩ = some (.int .i64 a0.tg) := fun s => s.kept.at (by simp)
  have rB5 : ∀ s : KX (w.heap.size) w (w.heap.size + 1) [(w.heap.size, 0, .int .i64 a0.id), (w.heap.size, 1, .int .i64 a0.cd), (w.heap.size, 2, .int .i64 a0.ow), (w.heap.size, 3, .int .i64 a0.po), (w.heap.size, 4, .int .i64 a0.tg), (w.heap.size, 5, .int .i64 a0.da), (w.heap.size, 6, .int .i64 a0.co), (w.heap.size, 7, .int .i64 a0.pp), (w.heap.size, 8, .int .i64 a0.pt), (w.heap.size, 9, .bool a0.ta), (w.heap.size, 10, .bool a0.si), (w.heap.size, 11, .bool a0.dm)] (fun _ => True), s.val.cell? ⟨w.heap.size, 5, none⟩ = some (.int .i64 a0.da) := fun s => s.kept.at (by simp)
  have rB6 : ∀ s : KX (w.heap.size) w (w.heap.size + 1) [(w.heap.size, 0, .int .i64 a0.id), (w.heap.size, 1, .int .i64 a0.cd), (w.heap.size, 2, .int .i64 a0.ow), (w.heap.size, 3, .int .i64 a0.po), (w.heap.size, 4, .int .i64 a0.tg), (w.heap.size, 5, .int .i64 a0.da), (w.heap.size, 6, .int .i64 a0.co), (w.heap.size, 7, .int .i64 a0.pp), (w.heap.size, 8, .int .i64 a0.pt), (w.heap.size, 9, .bool a0.ta), (w.heap.size, 10, .bool a0.si), (w.heap.size, 11, .bool a0.dm)] (fun _ => True), s.val.cell? ⟨w.heap.size, 6, none⟩ = some (.int .i64 a0.co) := fun s => s.kept.at (by simp)
  have rB7 : ∀ s : KX (w.heap.size) w (w.heap.size + 1) [(w.heap.size, 0, .int .i64 a0.id), (w.heap.size, 1, .int .i64 a0.cd), (w.heap.size, 2, .int .i64 a0.ow), (w.heap.size, 3, .int .i64 a0.po), (w.heap.size, 4, .int .i64 a0.tg), (w.heap.size, 5, .int .i64 a0.da), (w.heap.size, 6, .int .i64 a0.co), (w.heap.size, 7, .int .i64 a0.pp), (w.heap.size, 8, .int .i64 a0.pt), (w.heap.size, 9, .bool a0.ta), (w.heap.size, 10, .bool a0.si), (w.heap.size, 11, .bool a0.dm)] (fun _ => True), s.val.cell? ⟨w.heap.size, 7, none⟩ = some (.int .i64 a0.pp) := fun s => s.kept.at (by simp)
  have rB8 : ∀ s : KX (w.heap.size) w (w.heap.size + 1) [(w.heap.size, 0, .int .i64 a0.id), (w.heap.size, 1, .int .i64 a0.cd), (w.heap.size, 2, .int .i64 a0.ow), (w.heap.size, 3, .int .i64 a0.po), (w.heap.size, 4, .int .i64 a0.tg), (w.heap.size, 5, .int .i64 a0.da), (w.heap.size, 6, .int .i64 a0.co), (w.heap.size, 7, .int .i64 a0.pp), (w.heap.size, 8, .int .i64 a0.pt), (w.heap.size, 9, .bool a0.ta), (w.heap.size, 10, .bool a0.si), (w.heap.size, 11, .bool a0.dm)] (fun _ => True), s.val.cell? ⟨w.heap.size, 8, none⟩ = some (.int .i64 a0.pt) := fun s => s.kept.at (by simp)
  have rB9 : ∀ s : KX (w.heap.size) w (w.heap.size + 1) [(w.heap.size, 0, .int .i64 a0.id), (w.heap.size, 1, .int .i64 a0.cd), (w.heap.size, 2, .int .i64 a0.ow), (w.heap.size, 3, .int .i64 a0.po), (w.heap.size, 4, .int .i64 a0.tg), (w.heap.size, 5, .int .i64 a0.da), (w.heap.size, 6, .int .i64 a0.co), (w.heap.size, 7, .int .i64 a0.pp), (w.heap.size, 8, .int .i64 a0.pt), (w.heap.size, 9, .bool a0.ta), (w.heap.size, 10, .bool a0.si), (w.heap.size, 11, .bool a0.dm)] (fun _ => True), s.val.cell? ⟨w.heap.size, 9, none⟩ = some (.bool a0.ta) := fun s => s.kept.at (by simp)
  have rB10 : ∀ s : KX (w.heap.size) w (w.heap.size + 1) [(w.heap.size, 0, .int .i64 a0.id), (w.heap.size, 1, .int .i64 a0.cd), (w.heap.size, 2, .int .i64 a0.ow), (w.heap.size, 3, .int .i64 a0.po), (w.heap.size, 4, .int .i64 a0.tg), (w.heap.size, 5, .int .i64 a0.da), (w.heap.size, 6, .int .i64 a0.co), (w.heap.size, 7, .int .i64 a0.pp), (w.heap.size, 8, .int .i64 a0.pt), (w.heap.size, 9, .bool a0.ta), (w.heap.size, 10, .bool a0.si), (w.heap.size, 11, .bool a0.dm)] (fun _ => True), s.val.cell? ⟨w.heap.size, 10, none⟩ = some (.bool a0.si) := fun s => s.kept.at (by simp)
  have rB11 : ∀ s : KX (w.heap.size) w (w.heap.size + 1) [(w.heap.size, 0, .int .i64 a0.id), (w.heap.size, 1, .int .i64 a0.cd), (w.heap.size, 2, .int .i64 a0.ow), (w.heap.size, 3, .int .i64 a0.po), (w.heap.size, 4, .int .i64 a0.tg), (w.heap.size, 5, .int .i64 a0.da), (w.heap.size, 6, .int .i64 a0.co), (w.heap.size, 7, .int .i64 a0.pp), (w.heap.size, 8, .int .i64 a0.pt), (w.heap.size, 9, .bool a0.ta), (w.heap.size, 10, .bool a0.si), (w.heap.size, 11, .bool a0.dm)] (fun _ => True), s.val.cell? ⟨w.heap.size, 11, none⟩ = some (.bool a0.dm) := fun s => s.kept.at (by simp)
  repeat (go_big_quiet_step (fail))
  refine wpQuiet_nil ?_
  clear rB0 rB1 rB2 rB3 rB4 rB5 rB6 rB7 rB8 rB9 rB10 rB11
  refine ⟨fun K hK0 => ?_, trivial⟩
  have hK := Lib.hid hK0
  clear hK0
  go_wp2_with fail
  with_reducible refine (rvalidc a0 true _ hv.out).mono ?_
  rintro e w3 ⟨rfl, hb_w3⟩
  have K_w3 : Kept w.heap.size w (w.heap.size + 1) [(w.heap.size, 0, .int .i64 a0.id), (w.heap.size, 1, .int .i64 a0.cd), (w.heap.size, 2, .int .i64 a0.ow), (w.heap.size, 3, .int .i64 a0.po), (w.heap.size, 4, .int .i64 a0.tg), (w.heap.size, 5, .int .i64 a0.da), (w.heap.size, 6, .int .i64 a0.co), (w.heap.size, 7, .int .i64 a0.pp), (w.heap.size, 8, .int .i64 a0.pt), (w.heap.size, 9, .bool a0.ta), (w.heap.size, 10, .bool a0.si), (w.heap.size, 11, .bool a0.dm)] w3 := (KH_w2.out.step (by omega) (by go_grown)).step (by omega) hb_w3
  clear hb_w3
  have KH_w3 := Lib.hid K_w3
  have hw_w3 := K_w3.below
  have hz_w3 := K_w3.size
  have lB_w3 : w.heap.size < w3.heap.size := by omega
  clear lB_w2
  clear K_w3
  go_wp2_with fail
  first | (refine ⟨rfl, ⟨⟨_, KH_w3.out, trivial⟩, rfl⟩, hK.out _ _ ?_⟩; clear hK K) | (refine ⟨⟨⟨_, KH_w3.out, trivial⟩, rfl⟩, hK.out _ _ ?_⟩; clear hK K)
  repeat (go_big_quiet_step (fail))
  refine wpQuiet_nil ?_
  have rB0 : ∀ s : KX (w.heap.size) w (w.heap.size + 1) [(w.heap.size, 0, .int .i64 a0.id), (w.heap.size, 1, .int .i64 a0.cd), (w.heap.size, 2, .int .i64 a0.ow), (w.heap.size, 3, .int .i64 a0.po), (w.heap.size, 4, .int .i64 a0.tg), (w.heap.size, 5, .int .i64 a0.da), (w.heap.size, 6, .int .i64 a0.co), (w.heap.size, 7, .int .i64 a0.pp), (w.heap.size, 8, .int .i64 a0.pt), (w.heap.size, 9, .bool a0.ta), (w.heap.size, 10, .bool a0.si), (w.heap.size, 11, .bool a0.dm)] (fun _ => True), s.val.cell? ⟨w.heap.size, 0, none⟩ = some (.int .i64 a0.id) := fun s => s.kept.at (by simp)
  have rB1 : ∀ s : KX (w.heap.size) w (w.heap.size + 1) [(w.heap.size, 0, .int .i64 a0.id), (w.heap.size, 1, .int .i64 a0.cd), (w.heap.size, 2, .int .i64 a0.ow), (w.heap.size, 3, .int .i64 a0.po), (w.heap.size, 4, .int .i64 a0.tg), (w.heap.size, 5, .int .i64 a0.da), (w.heap.size, 6, .int .i64 a0.co), (w.heap.size, 7, .int .i64 a0.pp), (w.heap.size, 8, .int .i64 a0.pt), (w.heap.size, 9, .bool a0.ta), (w.heap.size, 10, .bool a0.si), (w.heap.size, 11, .bool a0.dm)] (fun _ => True), s.val.cell? ⟨w.heap.size, 1, none⟩ = some (.int .i64 a0.cd) := fun s => s.kept.at (by simp)
  have rB2 : ∀ s : KX (w.heap.size) w (w.heap.size + 1) [(w.heap.size, 0, .int .i64 a0.id), (w.heap.size, 1, .int .i64 a0.cd), (w.heap.size, 2, .int .i64 a0.ow), (w.heap.size, 3, .int .i64 a0.po), (w.heap.size, 4, .int .i64 a0.tg), (w.heap.size, 5, .int .i64 a0.da), (w.heap.size, 6, .int .i64 a0.co), (w.heap.size, 7, .int .i64 a0.pp), (w.heap.size, 8, .int .i64 a0.pt), (w.heap.size, 9, .bool a0.ta), (w.heap.size, 10, .bool a0.si), (w.heap.size, 11, .bool a0.dm)] (fun _ => True), s.val.cell? ⟨w.heap.size, 2, none⟩ = some (.int .i64 a0.ow) := fun s => s.kept.at (by simp)
  have rB3 : ∀ s : KX (w.heap.size) w (w.heap.size + 1) [(w.heap.size, 0, .int .i64 a0.id), (w.heap.size, 1, .int .i64 a0.cd), (w.heap.size, 2, .int .i64 a0.ow), (w.heap.size, 3, .int .i64 a0.po), (w.heap.size, 4, .int .i64 a0.tg), (w.heap.size, 5, .int .i64 a0.da), (w.heap.size, 6, .int .i64 a0.co), (w.heap.size, 7, .int .i64 a0.pp), (w.heap.size, 8, .int .i64 a0.pt), (w.heap.size, 9, .bool a0.ta), (w.heap.size, 10, .bool a0.si), (w.heap.size, 11, .bool a0.dm)] (fun _ => True), s.val.cell? ⟨w.heap.size, 3, none⟩ = some (.int .i64 a0.po) := fun s => s.kept.at (by simp)
  have rB4 : ∀ s : KX (w.heap.size) w (w.heap.size + 1) [(w.heap.size, 0, .int .i64 a0.id), (w.heap.size, 1, .int .i64 a0.cd), (w.heap.size, 2, .int .i64 a0.ow), (w.heap.size, 3, .int .i64 a0.po), (w.heap.size, 4, .int .i64 a0.tg), (w.heap.size, 5, .int .i64 a0.da), (w.heap.size, 6, .int .i64 a0.co), (w.heap.size, 7, .int .i64 a0.pp), (w.heap.size, 8, .int .i64 a0.pt), (w.heap.size, 9, .bool a0.ta), (w.heap.size, 10, .bool a0.si), (w.heap.size, 11, .bool a0.dm)] (fun _ => True), s.val.cell? ⟨w.heap.size, 4, none⟩ = some (.int .i64 a0.tg) := fun s => s.kept.at (by simp)
  have rB5 : ∀ s : KX (w.heap.size) w (w.heap.size + 1) [(w.heap.size, 0, .int .i64 a0.id), (w.heap.size, 1, .int .i64 a0.cd), (w.heap.size, 2, .int .i64 a0.ow), (w.heap.size, 3, .int .i64 a0.po), (w.heap.size, 4, .int .i64 a0.tg), (w.heap.size, 5, .int .i64 a0.da), (w.heap.size, 6, .int .i64 a0.co), (w.heap.size, 7, .int .i64 a0.pp), (w.heap.size, 8, .int .i64 a0.pt), (w.heap.size, 9, .bool a0.ta), (w.heap.size, 10, .bool a0.si), (w.heap.size, 11, .bool a0.dm)] (fun _ => True), s.val.cell? ⟨w.heap.size, 5, none⟩ = some (.int .i64 a0.da) := fun s => s.kept.at (by simp)
  have rB6 : ∀ s : KX (w.heap.size) w (w.heap.size + 1) [(w.heap.size, 0, .int .i64 a0.id), (w.heap.size, 1, .int .i64 a0.cd), (w.heap.size, 2, .int .i64 a0.ow), (w.heap.size, 3, .int .i64 a0.po), (w.heap.size, 4, .int .i64 a0.tg), (w.heap.size, 5, .int .i64 a0.da), (w.heap.size, 6, .int .i64 a0.co), (w.heap.size, 7, .int .i64 a0.pp), (w.heap.size, 8, .int .i64 a0.pt), (w.heap.size, 9, .bool a0.ta), (w.heap.size, 10, .bool a0.si), (w.heap.size, 11, .bool a0.dm)] (fun _ => True), s.val.cell? ⟨w.heap.size, 6, none⟩ = some (.int .i64 a0.co) := fun s => s.kept.at (by simp)
  have rB7 : ∀ s : KX (w.heap.size) w (w.heap.size + 1) [(w.heap.size, 0, .int .i64 a0.id), (w.heap.size, 1, .int .i64 a0.cd), (w.heap.size, 2, .int .i64 a0.ow), (w.heap.size, 3, .int .i64 a0.po), (w.heap.size, 4, .int .i64 a0.tg), (w.heap.size, 5, .int .i64 a0.da), (w.heap.size, 6, .int .i64 a0.co), (w.heap.size, 7, .int .i64 a0.pp), (w.heap.size, 8, .int .i64 a0.pt), (w.heap.size, 9, .bool a0.ta), (w.heap.size, 10, .bool a0.si), (w.heap.size, 11, .bool a0.dm)] (fun _ => True), s.val.cell? ⟨w.heap.size, 7, none⟩ = some (.int .i64 a0.pp) := fun s => s.kept.at (by simp)
  have rB8 : ∀ s : KX (w.heap.size) w (w.heap.size + 1) [(w.heap.size, 0, .int .i64 a0.id), (w.heap.size, 1, .int .i64 a0.cd), (w.heap.size, 2, .int .i64 a0.ow), (w.heap.size, 3, .int .i64 a0.po), (w.heap.size, 4, .int .i64 a0.tg), (w.heap.size, 5, .int .i64 a0.da), (w.heap.size, 6, .int .i64 a0.co), (w.heap.size, 7, .int .i64 a0.pp), (w.heap.size, 8, .int .i64 a0.pt), (w.heap.size, 9, .bool a0.ta), (w.heap.size, 10, .bool a0.si), (w.heap.size, 11, .bool a0.dm)] (fun _ => True), s.val.cell? ⟨w.heap.size, 8, none⟩ = some (.int .i64 a0.pt) := fun s => s.kept.at (by simp)
  have rB9 : ∀ s : KX (w.heap.size) w (w.heap.size + 1) [(w.heap.size, 0, .int .i64 a0.id), (w.heap.size, 1, .int .i64 a0.cd), (w.heap.size, 2, .int .i64 a0.ow), (w.heap.size, 3, .int .i64 a0.po), (w.heap.size, 4, .int .i64 a0.tg), (w.heap.size, 5, .int .i64 a0.da), (w.heap.size, 6, .int .i64 a0.co), (w.heap.size, 7, .int .i64 a0.pp), (w.heap.size, 8, .int .i64 a0.pt), (w.heap.size, 9, .bool a0.ta), (w.heap.size, 10, .bool a0.si), (w.heap.size, 11, .bool a0.dm)] (fun _ => True), s.val.cell? ⟨w.heap.size, 9, none⟩ = some (.bool a0.ta) := fun s => s.kept.at (by simp)
  have rB10 : ∀ s : KX (w.heap.size) w (w.heap.size + 1) [(w.heap.size, 0, .int .i64 a0.id), (w.heap.size, 1, .int .i64 a0.cd), (w.heap.size, 2, .int .i64 a0.ow), (w.heap.size, 3, .int .i64 a0.po), (w.heap.size, 4, .int .i64 a0.tg), (w.heap.size, 5, .int .i64 a0.da), (w.heap.size, 6, .int .i64 a0.co), (w.heap.size, 7, .int .i64 a0.pp), (w.heap.size, 8, .int .i64 a0.pt), (w.heap.size, 9, .bool a0.ta), (w.heap.size, 10, .bool a0.si), (w.heap.size, 11, .bool a0.dm)] (fun _ => True), s.val.cell? ⟨w.heap.size, 10, none⟩ = some (.bool a0.si) := fun s => s.kept.at (by simp)
  have rB11 : ∀ s : KX (w.heap.size) w (w.heap.size + 1) [(w.heap.size, 0, .int .i64 a0.id), (w.heap.size, 1, .int .i64 a0.cd), (w.heap.size, 2, .int .i64 a0.ow), (w.heap.size, 3, .int .i64 a0.po), (w.heap.size, 4, .int .i64 a0.tg), (w.heap.size, 5, .int .i64 a0.da), (w.heap.size, 6, .int .i64 a0.co), (w.heap.size, 7, .int .i64 a0.pp), (w.heap.size, 8, .int .i64 a0.pt), (w.heap.size, 9, .bool a0.ta), (w.heap.size, 10, .bool a0.si), (w.heap.size, 11, .bool a0.dm)] (fun _ => True), s.val.cell? ⟨w.heap.size, 11, none⟩ = some (.bool a0.dm) := fun s => s.kept.at (by simp)
  repeat (go_big_quiet_step (fail))
  refine wpQuiet_nil ?_
  clear rB0 rB1 rB2 rB3 rB4 rB5 rB6 rB7 rB8 rB9 rB10 rB11
  refine ⟨fun K hK0 => ?_, trivial⟩
  have hK := Lib.hid hK0
  clear hK0
  go_wp2_with fail
  with_reducible refine (rbytesc a0 _ hv).mono ?_
  rintro e w4 ⟨v9, rfl, hs9, hb_w4⟩
  have K_w4 : Kept w.heap.size w (w.heap.size + 1) [(w.heap.size, 0, .int .i64 a0.id), (w.heap.size, 1, .int .i64 a0.cd), (w.heap.size, 2, .int .i64 a0.ow), (w.heap.size, 3, .int .i64 a0.po), (w.heap.size, 4, .int .i64 a0.tg), (w.heap.size, 5, .int .i64 a0.da), (w.heap.size, 6, .int .i64 a0.co), (w.heap.size, 7, .int .i64 a0.pp), (w.heap.size, 8, .int .i64 a0.pt), (w.heap.size, 9, .bool a0.ta), (w.heap.size, 10, .bool a0.si), (w.heap.size, 11, .bool a0.dm)] w4 := (KH_w3.out.step (by omega) (by go_grown)).step (by omega) hb_w4
  clear hb_w4
  have KH_w4 := Lib.hid K_w4
  have hw_w4 := K_w4.below
  have hz_w4 := K_w4.size
  have lB_w4 : w.heap.size < w4.heap.size := by omega
  clear lB_w3
  clear K_w4
  have S9 := Lib.hid hs9
  obtain ⟨m9, a9, c9, rfl, _⟩ := seg_form hs9
  clear hs9
  go_wp2_with fail
  first | (refine ⟨rfl, ⟨⟨_, KH_w4.out, trivial⟩, rfl⟩, hK.out _ _ ?_⟩; clear hK K) | (refine ⟨⟨⟨_, KH_w4.out, trivial⟩, rfl⟩, hK.out _ _ ?_⟩; clear hK K)
  refine ⟨fun K hK0 => ?_, trivial⟩
  have hK := Lib.hid hK0
  clear hK0
  go_wp2_with fail
  with_reducible refine (obytes_ok a0 _ _ hv S9.out).mono ?_
  rintro e w5 ⟨rfl, hb_w5⟩
  have K_w5 : Kept w.heap.size w (w.heap.size + 1) [(w.heap.size, 0, .int .i64 a0.id), (w.heap.size, 1, .int .i64 a0.cd), (w.heap.size, 2, .int .i64 a0.ow), (w.heap.size, 3, .int .i64 a0.po), (w.heap.size, 4, .int .i64 a0.tg), (w.heap.size, 5, .int .i64 a0.da), (w.heap.size, 6, .int .i64 a0.co), (w.heap.size, 7, .int .i64 a0.pp), (w.heap.size, 8, .int .i64 a0.pt), (w.heap.size, 9, .bool a0.ta), (w.heap.size, 10, .bool a0.si), (w.heap.size, 11, .bool a0.dm)] w5 := (KH_w4.out.step (by omega) (by go_grown)).step (by omega) hb_w5
  clear hb_w5
  have KH_w5 := Lib.hid K_w5
  have hw_w5 := K_w5.below
  have hz_w5 := K_w5.size
  have lB_w5 : w.heap.size < w5.heap.size := by omega
  clear lB_w4
  clear K_w5
  go_wp2_with fail
  first | (refine ⟨rfl, hK.out _ _ ?_⟩; clear hK K) | (refine hK.out _ _ ?_; clear hK K)
  repeat (go_big_quiet_step (fail))
  refine wpQuiet_nil ?_
  clear _ne
  go_wp2_with fail
  with_reducible refine (rdecodec _ zs x no _ (HS.out.below (by go_grown)) HZ.out HX HN).mono ?_
  rintro e w6 ⟨rfl, hb_w6⟩
  have K_w6 : Kept w.heap.size w (w.heap.size + 1) [(w.heap.size, 0, .int .i64 a0.id), (w.heap.size, 1, .int .i64 a0.cd), (w.heap.size, 2, .int .i64 a0.ow), (w.heap.size, 3, .int .i64 a0.po), (w.heap.size, 4, .int .i64 a0.tg), (w.heap.size, 5, .int .i64 a0.da), (w.heap.size, 6, .int .i64 a0.co), (w.heap.size, 7, .int .i64 a0.pp), (w.heap.size, 8, .int .i64 a0.pt), (w.heap.size, 9, .bool a0.ta), (w.heap.size, 10, .bool a0.si), (w.heap.size, 11, .bool a0.dm)] w6 := (KH_w5.out.step (by omega) (by go_grown)).step (by omega) hb_w6
  clear hb_w6
  have KH_w6 := Lib.hid K_w6
  have hw_w6 := K_w6.below
  have hz_w6 := K_w6.size
  have lB_w6 : w.heap.size < w6.heap.size := by omega
  clear lB_w5
  clear K_w6
  go_wp2_with fail
  with_reducible refine (oreads _ zs x no _ (HS.out.below (by go_grown)) HZ.out HX HN).mono ?_
  rintro e w7 ⟨rfl, hb_w7⟩
  have K_w7 : Kept w.heap.size w (w.heap.size + 1) [(w.heap.size, 0, .int .i64 a0.id), (w.heap.size, 1, .int .i64 a0.cd), (w.heap.size, 2, .int .i64 a0.ow), (w.heap.size, 3, .int .i64 a0.po), (w.heap.size, 4, .int .i64 a0.tg), (w.heap.size, 5, .int .i64 a0.da), (w.heap.size, 6, .int .i64 a0.co), (w.heap.size, 7, .int .i64 a0.pp), (w.heap.size, 8, .int .i64 a0.pt), (w.heap.size, 9, .bool a0.ta), (w.heap.size, 10, .bool a0.si), (w.heap.size, 11, .bool a0.dm)] w7 := (KH_w6.out.step (by omega) (by go_grown)).step (by omega) hb_w7
  clear hb_w7
  have KH_w7 := Lib.hid K_w7
  have hw_w7 := K_w7.below
  have hz_w7 := K_w7.size
  have lB_w7 : w.heap.size < w7.heap.size := by omega
  clear lB_w6
  clear K_w7
  go_wp2_with fail
  with_reducible refine (known _).mono ?_
  rintro e w8 ⟨rfl, hb_w8⟩
  have K_w8 : Kept w.heap.size w (w.heap.size + 1) [(w.heap.size, 0, .int .i64 a0.id), (w.heap.size, 1, .int .i64 a0.cd), (w.heap.size, 2, .int .i64 a0.ow), (w.heap.size, 3, .int .i64 a0.po), (w.heap.size, 4, .int .i64 a0.tg), (w.heap.size, 5, .int .i64 a0.da), (w.heap.size, 6, .int .i64 a0.co), (w.heap.size, 7, .int .i64 a0.pp), (w.heap.size, 8, .int .i64 a0.pt), (w.heap.size, 9, .bool a0.ta), (w.heap.size, 10, .bool a0.si), (w.heap.size, 11, .bool a0.dm)] w8 := (KH_w7.out.step (by omega) (by go_grown)).step (by omega) hb_w8
  clear hb_w8
  have KH_w8 := Lib.hid K_w8
  have hw_w8 := K_w8.below
  have hz_w8 := K_w8.size
  have lB_w8 : w.heap.size < w8.heap.size := by omega
  clear lB_w7
  clear K_w8
  go_wp2_with fail
  go_returns
  exact ⟨rfl, by go_grown⟩

set_option maxRecDepth 100000 in
set_option maxHeartbeats 2000000 in
theorem bytes4_false (a0 : Ob) (v : Value) (zs : List Int) (w : World) (hs : Seg w .u8 v zs) (hz : ∀ z ∈ zs, 0 ≤ z ∧ z < 256) (hl : zs.length ≤ 20) (hv : Hid (vO a0 = false)) : Calls Try.prog 4 #[.agg #[.int .i64 a0.id, .int .i64 a0.cd, .int .i64 a0.ow, .int .i64 a0.po, .int .i64 a0.tg, .int .i64 a0.da, .int .i64 a0.co, .int .i64 a0.pp, .int .i64 a0.pt, .bool a0.ta, .bool a0.si, .bool a0.dm], v] w fun e w' => e = .returned (.bool true) ∧ Below w.heap.size w w' := by
  obtain ⟨m1, a1, c1, rfl, _⟩ := seg_form hs
  obtain ⟨x, hx⟩ : ∃ x, rdO zs = x := ⟨_, rfl⟩
  obtain ⟨no, hn⟩ : ∃ no, rdN zs = no := ⟨_, rfl⟩
  have HX := Lib.hid hx
  have HN := Lib.hid hn
  have HS := Lib.hid hs
  have HZ := Lib.hid hz
  have q1 : decide ((20 : Int) < (zs.length : Int)) = false := by simp; omega
  clear hs hz hx hn
  go_enter Try.func4, Try.ntmps4
  go_wp2_with fail
  refine rg4_3 (w0 := w) (B := w.heap.size) (n := w.heap.size + 1) (L := [(w.heap.size, 0, .int .i64 a0.id), (w.heap.size, 1, .int .i64 a0.cd), (w.heap.size, 2, .int .i64 a0.ow), (w.heap.size, 3, .int .i64 a0.po), (w.heap.size, 4, .int .i64 a0.tg), (w.heap.size, 5, .int .i64 a0.da), (w.heap.size, 6, .int .i64 a0.co), (w.heap.size, 7, .int .i64 a0.pp), (w.heap.size, 8, .int .i64 a0.pt), (w.heap.size, 9, .bool a0.ta), (w.heap.size, 10, .bool a0.si), (w.heap.size, 11, .bool a0.dm)]) (E := fun _ => True) (F := fun _ => True) (by kernel_rfl) (by kernel_rfl) ⟨by go_grown, by go_size, (by simp [go_sem] <;> omega)⟩ trivial (fun _ _ _ _ => trivial) trivial (fun _ _ _ _ => trivial) (fun w1 K_w1 E_w1 F_w1 => ?_)
  have _ne : Nonempty (KX (w.heap.size) w (w.heap.size + 1) [(w.heap.size, 0, .int .i64 a0.id), (w.heap.size, 1, .int .i64 a0.cd), (w.heap.size, 2, .int .i64 a0.ow), (w.heap.size, 3, .int .i64 a0.po), (w.heap.size, 4, .int .i64 a0.tg), (w.heap.size, 5, .int .i64 a0.da), (w.heap.size, 6, .int .i64 a0.co), (w.heap.size, 7, .int .i64 a0.pp), (w.heap.size, 8, .int .i64 a0.pt), (w.heap.size, 9, .bool a0.ta), (w.heap.size, 10, .bool a0.si), (w.heap.size, 11, .bool a0.dm)] (fun _ => True)) := ⟨⟨_, K_w1, E_w1⟩⟩
  have rB0 : ∀ s : KX (w.heap.size) w (w.heap.size + 1) [(w.heap.size, 0, .int .i64 a0.id), (w.heap.size, 1, .int .i64 a0.cd), (w.heap.size, 2, .int .i64 a0.ow), (w.heap.size, 3, .int .i64 a0.po), (w.heap.size, 4, .int .i64 a0.tg), (w.heap.size, 5, .int .i64 a0.da), (w.heap.size, 6, .int .i64 a0.co), (w.heap.size, 7, .int .i64 a0.pp), (w.heap.size, 8, .int .i64 a0.pt), (w.heap.size, 9, .bool a0.ta), (w.heap.size, 10, .bool a0.si), (w.heap.size, 11, .bool a0.dm)] (fun _ => True), s.val.cell? ⟨w.heap.size, 0, none⟩ = some (.int .i64 a0.id) := fun s => s.kept.at (by simp)
  have rB1 : ∀ s : KX (w.heap.size) w (w.heap.size + 1) [(w.heap.size, 0, .int .i64 a0.id), (w.heap.size, 1, .int .i64 a0.cd), (w.heap.size, 2, .int .i64 a0.ow), (w.heap.size, 3, .int .i64 a0.po), (w.heap.size, 4, .int .i64 a0.tg), (w.heap.size, 5, .int .i64 a0.da), (w.heap.size, 6, .int .i64 a0.co), (w.heap.size, 7, .int .i64 a0.pp), (w.heap.size, 8, .int .i64 a0.pt), (w.heap.size, 9, .bool a0.ta), (w.heap.size, 10, .bool a0.si), (w.heap.size, 11, .bool a0.dm)] (fun _ => True), s.val.cell? ⟨w.heap.size, 1, none⟩ = some (.int .i64 a0.cd) := fun s => s.kept.at (by simp)
  have rB2 : ∀ s : KX (w.heap.size) w (w.heap.size + 1) [(w.heap.size, 0, .int .i64 a0.id), (w.heap.size, 1, .int .i64 a0.cd), (w.heap.size, 2, .int .i64 a0.ow), (w.heap.size, 3, .int .i64 a0.po), (w.heap.size, 4, .int .i64 a0.tg), (w.heap.size, 5, .int .i64 a0.da), (w.heap.size, 6, .int .i64 a0.co), (w.heap.size, 7, .int .i64 a0.pp), (w.heap.size, 8, .int .i64 a0.pt), (w.heap.size, 9, .bool a0.ta), (w.heap.size, 10, .bool a0.si), (w.heap.size, 11, .bool a0.dm)] (fun _ => True), s.val.cell? ⟨w.heap.size, 2, none⟩ = some (.int .i64 a0.ow) := fun s => s.kept.at (by simp)
  have rB3 : ∀ s : KX (w.heap.size) w (w.heap.size + 1) [(w.heap.size, 0, .int .i64 a0.id), (w.heap.size, 1, .int .i64 a0.cd), (w.heap.size, 2, .int .i64 a0.ow), (w.heap.size, 3, .int .i64 a0.po), (w.heap.size, 4, .int .i64 a0.tg), (w.heap.size, 5, .int .i64 a0.da), (w.heap.size, 6, .int .i64 a0.co), (w.heap.size, 7, .int .i64 a0.pp), (w.heap.size, 8, .int .i64 a0.pt), (w.heap.size, 9, .bool a0.ta), (w.heap.size, 10, .bool a0.si), (w.heap.size, 11, .bool a0.dm)] (fun _ => True), s.val.cell? ⟨w.heap.size, 3, none⟩ = some (.int .i64 a0.po) := fun s => s.kept.at (by simp)
  have rB4 : ∀ s : KX (w.heap.size) w (w.heap.size + 1) [(w.heap.size, 0, .int .i64 a0.id), (w.heap.size, 1, .int .i64 a0.cd), (w.heap.size, 2, .int .i64 a0.ow), (w.heap.size, 3, .int .i64 a0.po), (w.heap.size, 4, .int .i64 a0.tg), (w.heap.size, 5, .int .i64 a0.da), (w.heap.size, 6, .int .i64 a0.co), (w.heap.size, 7, .int .i64 a0.pp), (w.heap.size, 8, .int .i64 a0.pt), (w.heap.size, 9, .bool a0.ta), (w.heap.size, 10, .bool a0.si), (w.heap.size, 11, .bool a0.dm)] (fun _ => True), s.val.cell? ⟨w.heap.size, 4, none⟩ = some (.int .i64 a0.tg) := fun s => s.kept.at (by simp)
  have rB5 : ∀ s : KX (w.heap.size) w (w.heap.size + 1) [(w.heap.size, 0, .int .i64 a0.id), (w.heap.size, 1, .int .i64 a0.cd), (w.heap.size, 2, .int .i64 a0.ow), (w.heap.size, 3, .int .i64 a0.po), (w.heap.size, 4, .int .i64 a0.tg), (w.heap.size, 5, .int .i64 a0.da), (w.heap.size, 6, .int .i64 a0.co), (w.heap.size, 7, .int .i64 a0.pp), (w.heap.size, 8, .int .i64 a0.pt), (w.heap.size, 9, .bool a0.ta), (w.heap.size, 10, .bool a0.si), (w.heap.size, 11, .bool a0.dm)] (fun _ => True), s.val.cell? ⟨w.heap.size, 5, none⟩ = some (.int .i64 a0.da) := fun s => s.kept.at (by simp)
  have rB6 : ∀ s : KX (w.heap.size) w (w.heap.size + 1) [(w.heap.size, 0, .int .i64 a0.id), (w.heap.size, 1, .int .i64 a0.cd), (w.heap.size, 2, .int .i64 a0.ow), (w.heap.size, 3, .int .i64 a0.po), (w.heap.size, 4, .int .i64 a0.tg), (w.heap.size, 5, .int .i64 a0.da), (w.heap.size, 6, .int .i64 a0.co), (w.heap.size, 7, .int .i64 a0.pp), (w.heap.size, 8, .int .i64 a0.pt), (w.heap.size, 9, .bool a0.ta), (w.heap.size, 10, .bool a0.si), (w.heap.size, 11, .bool a0.dm)] (fun _ => True), s.val.cell? ⟨w.heap.size, 6, none⟩ = some (.int .i64 a0.co) := fun s => s.kept.at (by simp)
  have rB7 : ∀ s : KX (w.heap.size) w (w.heap.size + 1) [(w.heap.size, 0, .int .i64 a0.id), (w.heap.size, 1, .int .i64 a0.cd), (w.heap.size, 2, .int .i64 a0.ow), (w.heap.size, 3, .int .i64 a0.po), (w.heap.size, 4, .int .i64 a0.tg), (w.heap.size, 5, .int .i64 a0.da), (w.heap.size, 6, .int .i64 a0.co), (w.heap.size, 7, .int .i64 a0.pp), (w.heap.size, 8, .int .i64 a0.pt), (w.heap.size, 9, .bool a0.ta), (w.heap.size, 10, .bool a0.si), (w.heap.size, 11, .bool a0.dm)] (fun _ => True), s.val.cell? ⟨w.heap.size, 7, none⟩ = some (.int .i64 a0.pp) := fun s => s.kept.at (by simp)
  have rB8 : ∀ s : KX (w.heap.size) w (w.heap.size + 1) [(w.heap.size, 0, .int .i64 a0.id), (w.heap.size, 1, .int .i64 a0.cd), (w.heap.size, 2, .int .i64 a0.ow), (w.heap.size, 3, .int .i64 a0.po), (w.heap.size, 4, .int .i64 a0.tg), (w.heap.size, 5, .int .i64 a0.da), (w.heap.size, 6, .int .i64 a0.co), (w.heap.size, 7, .int .i64 a0.pp), (w.heap.size, 8, .int .i64 a0.pt), (w.heap.size, 9, .bool a0.ta), (w.heap.size, 10, .bool a0.si), (w.heap.size, 11, .bool a0.dm)] (fun _ => True), s.val.cell? ⟨w.heap.size, 8, none⟩ = some (.int .i64 a0.pt) := fun s => s.kept.at (by simp)
  have rB9 : ∀ s : KX (w.heap.size) w (w.heap.size + 1) [(w.heap.size, 0, .int .i64 a0.id), (w.heap.size, 1, .int .i64 a0.cd), (w.heap.size, 2, .int .i64 a0.ow), (w.heap.size, 3, .int .i64 a0.po), (w.heap.size, 4, .int .i64 a0.tg), (w.heap.size, 5, .int .i64 a0.da), (w.heap.size, 6, .int .i64 a0.co), (w.heap.size, 7, .int .i64 a0.pp), (w.heap.size, 8, .int .i64 a0.pt), (w.heap.size, 9, .bool a0.ta), (w.heap.size, 10, .bool a0.si), (w.heap.size, 11, .bool a0.dm)] (fun _ => True), s.val.cell? ⟨w.heap.size, 9, none⟩ = some (.bool a0.ta) := fun s => s.kept.at (by simp)
  have rB10 : ∀ s : KX (w.heap.size) w (w.heap.size + 1) [(w.heap.size, 0, .int .i64 a0.id), (w.heap.size, 1, .int .i64 a0.cd), (w.heap.size, 2, .int .i64 a0.ow), (w.heap.size, 3, .int .i64 a0.po), (w.heap.size, 4, .int .i64 a0.tg), (w.heap.size, 5, .int .i64 a0.da), (w.heap.size, 6, .int .i64 a0.co), (w.heap.size, 7, .int .i64 a0.pp), (w.heap.size, 8, .int .i64 a0.pt), (w.heap.size, 9, .bool a0.ta), (w.heap.size, 10, .bool a0.si), (w.heap.size, 11, .bool a0.dm)] (fun _ => True), s.val.cell? ⟨w.heap.size, 10, none⟩ = some (.bool a0.si) := fun s => s.kept.at (by simp)
  have rB11 : ∀ s : KX (w.heap.size) w (w.heap.size + 1) [(w.heap.size, 0, .int .i64 a0.id), (w.heap.size, 1, .int .i64 a0.cd), (w.heap.size, 2, .int .i64 a0.ow), (w.heap.size, 3, .int .i64 a0.po), (w.heap.size, 4, .int .i64 a0.tg), (w.heap.size, 5, .int .i64 a0.da), (w.heap.size, 6, .int .i64 a0.co), (w.heap.size, 7, .int .i64 a0.pp), (w.heap.size, 8, .int .i64 a0.pt), (w.heap.size, 9, .bool a0.ta), (w.heap.size, 10, .bool a0.si), (w.heap.size, 11, .bool a0.dm)] (fun _ => True), s.val.cell? ⟨w.heap.size, 11, none⟩ = some (.bool a0.dm) := fun s => s.kept.at (by simp)
  repeat (go_big_quiet_step (fail))
  refine wpQuiet_nil ?_
  clear rB0 rB1 rB2 rB3 rB4 rB5 rB6 rB7 rB8 rB9 rB10 rB11
  have KH_w1 := Lib.hid K_w1
  have hw_w1 := K_w1.below
  have hz_w1 := K_w1.size
  have lB_w1 : w.heap.size < w1.heap.size := by omega
  clear K_w1
  clear E_w1 F_w1
  refine ⟨fun K hK0 => ?_, trivial⟩
  have hK := Lib.hid hK0
  clear hK0
  go_wp2_with fail
  with_reducible refine (rvalidc a0 false _ hv.out).mono ?_
  rintro e w2 ⟨rfl, hb_w2⟩
  have K_w2 : Kept w.heap.size w (w.heap.size + 1) [(w.heap.size, 0, .int .i64 a0.id), (w.heap.size, 1, .int .i64 a0.cd), (w.heap.size, 2, .int .i64 a0.ow), (w.heap.size, 3, .int .i64 a0.po), (w.heap.size, 4, .int .i64 a0.tg), (w.heap.size, 5, .int .i64 a0.da), (w.heap.size, 6, .int .i64 a0.co), (w.heap.size, 7, .int .i64 a0.pp), (w.heap.size, 8, .int .i64 a0.pt), (w.heap.size, 9, .bool a0.ta), (w.heap.size, 10, .bool a0.si), (w.heap.size, 11, .bool a0.dm)] w2 := (KH_w1.out.step (by omega) (by go_grown)).step (by omega) hb_w2
  clear hb_w2
  have KH_w2 := Lib.hid K_w2
  have hw_w2 := K_w2.below
  have hz_w2 := K_w2.size
  have lB_w2 : w.heap.size < w2.heap.size := by omega
  clear lB_w1
  clear K_w2
  go_wp2_with fail
  first | (refine ⟨rfl, ⟨⟨_, KH_w2.out, trivial⟩, rfl⟩, hK.out _ _ ?_⟩; clear hK K) | (refine ⟨⟨⟨_, KH_w2.out, trivial⟩, rfl⟩, hK.out _ _ ?_⟩; clear hK K)
  repeat (go_big_quiet_step (fail))
  refine wpQuiet_nil ?_
  have rB0 : ∀ s : KX (w.heap.size) w (w.heap.size + 1) [(w.heap.size, 0, .int .i64 a0.id), (w.heap.size, 1, .int .i64 a0.cd), (w.heap.size, 2, .int .i64 a0.ow), (w.heap.size, 3, .int .i64 a0.po), (w.heap.size, 4, .int .i64 a0.tg), (w.heap.size, 5, .int .i64 a0.da), (w.heap.size, 6, .int .i64 a0.co), (w.heap.size, 7, .int .i64 a0.pp), (w.heap.size, 8, .int .i64 a0.pt), (w.heap.size, 9, .bool a0.ta), (w.heap.size, 10, .bool a0.si), (w.heap.size, 11, .bool a0.dm)] (fun _ => True), s.val.cell? ⟨w.heap.size, 0, none⟩ = some (.int .i64 a0.id) := fun s => s.kept.at (by simp)
  have rB1 : ∀ s : KX (w.heap.size) w (w.heap.size + 1) [(w.heap.size, 0, .int .i64 a0.id), (w.heap.size, 1, .int .i64 a0.cd), (w.heap.size, 2, .int .i64 a0.ow), (w.heap.size, 3, .int .i64 a0.po), (w.heap.size, 4, .int .i64 a0.tg), (w.heap.size, 5, .int .i64 a0.da), (w.heap.size, 6, .int .i64 a0.co), (w.heap.size, 7, .int .i64 a0.pp), (w.heap.size, 8, .int .i64 a0.pt), (w.heap.size, 9, .bool a0.ta), (w.heap.size, 10, .bool a0.si), (w.heap.size, 11, .bool a0.dm)] (fun _ => True), s.val.cell? ⟨w.heap.size, 1, none⟩ = some (.int .i64 a0.cd) := fun s => s.kept.at (by simp)
  have rB2 : ∀ s : KX (w.heap.size) w (w.heap.size + 1) [(w.heap.size, 0, .int .i64 a0.id), (w.heap.size, 1, .int .i64 a0.cd), (w.heap.size, 2, .int .i64 a0.ow), (w.heap.size, 3, .int .i64 a0.po), (w.heap.size, 4, .int .i64 a0.tg), (w.heap.size, 5, .int .i64 a0.da), (w.heap.size, 6, .int .i64 a0.co), (w.heap.size, 7, .int .i64 a0.pp), (w.heap.size, 8, .int .i64 a0.pt), (w.heap.size, 9, .bool a0.ta), (w.heap.size, 10, .bool a0.si), (w.heap.size, 11, .bool a0.dm)] (fun _ => True), s.val.cell? ⟨w.heap.size, 2, none⟩ = some (.int .i64 a0.ow) := fun s => s.kept.at (by simp)
  have rB3 : ∀ s : KX (w.heap.size) w (w.heap.size + 1) [(w.heap.size, 0, .int .i64 a0.id), (w.heap.size, 1, .int .i64 a0.cd), (w.heap.size, 2, .int .i64 a0.ow), (w.heap.size, 3, .int .i64 a0.po), (w.heap.size, 4, .int .i64 a0.tg), (w.heap.size, 5, .int .i64 a0.da), (w.heap.size, 6, .int .i64 a0.co), (w.heap.size, 7, .int .i64 a0.pp), (w.heap.size, 8, .int .i64 a0.pt), (w.heap.size, 9, .bool a0.ta), (w.heap.size, 10, .bool a0.si), (w.heap.size, 11, .bool a0.dm)] (fun _ => True), s.val.cell? ⟨w.heap.size, 3, none⟩ = some (.int .i64 a0.po) := fun s => s.kept.at (by simp)
  have rB4 : ∀ s : KX (w.heap.size) w (w.heap.size + 1) [(w.heap.size, 0, .int .i64 a0.id), (w.heap.size, 1, .int .i64 a0.cd), (w.heap.size, 2, .int .i64 a0.ow), (w.heap.size, 3, .int .i64 a0.po), (w.heap.size, 4, .int .i64 a0.tg), (w.heap.size, 5, .int .i64 a0.da), (w.heap.size, 6, .int .i64 a0.co), (w.heap.size, 7, .int .i64 a0.pp), (w.heap.size, 8, .int .i64 a0.pt), (w.heap.size, 9, .bool a0.ta), (w.heap.size, 10, .bool a0.si), (w.heap.size, 11, .bool a0.dm)] (fun _ => True), s.val.cell? ⟨w.heap.size, 4, none⟩ = some (.int .i64 a0.tg) := fun s => s.kept.at (by simp)
  have rB5 : ∀ s : KX (w.heap.size) w (w.heap.size + 1) [(w.heap.size, 0, .int .i64 a0.id), (w.heap.size, 1, .int .i64 a0.cd), (w.heap.size, 2, .int .i64 a0.ow), (w.heap.size, 3, .int .i64 a0.po), (w.heap.size, 4, .int .i64 a0.tg), (w.heap.size, 5, .int .i64 a0.da), (w.heap.size, 6, .int .i64 a0.co), (w.heap.size, 7, .int .i64 a0.pp), (w.heap.size, 8, .int .i64 a0.pt), (w.heap.size, 9, .bool a0.ta), (w.heap.size, 10, .bool a0.si), (w.heap.size, 11, .bool a0.dm)] (fun _ => True), s.val.cell? ⟨w.heap.size, 5, none⟩ = some (.int .i64 a0.da) := fun s => s.kept.at (by simp)
  have rB6 : ∀ s : KX (w.heap.size) w (w.heap.size + 1) [(w.heap.size, 0, .int .i64 a0.id), (w.heap.size, 1, .int .i64 a0.cd), (w.heap.size, 2, .int .i64 a0.ow), (w.heap.size, 3, .int .i64 a0.po), (w.heap.size, 4, .int .i64 a0.tg), (w.heap.size, 5, .int .i64 a0.da), (w.heap.size, 6, .int .i64 a0.co), (w.heap.size, 7, .int .i64 a0.pp), (w.heap.size, 8, .int .i64 a0.pt), (w.heap.size, 9, .bool a0.ta), (w.heap.size, 10, .bool a0.si), (w.heap.size, 11, .bool a0.dm)] (fun _ => True), s.val.cell? ⟨w.heap.size, 6, none⟩ = some (.int .i64 a0.co) := fun s => s.kept.at (by simp)
  have rB7 : ∀ s : KX (w.heap.size) w (w.heap.size + 1) [(w.heap.size, 0, .int .i64 a0.id), (w.heap.size, 1, .int .i64 a0.cd), (w.heap.size, 2, .int .i64 a0.ow), (w.heap.size, 3, .int .i64 a0.po), (w.heap.size, 4, .int .i64 a0.tg), (w.heap.size, 5, .int .i64 a0.da), (w.heap.size, 6, .int .i64 a0.co), (w.heap.size, 7, .int .i64 a0.pp), (w.heap.size, 8, .int .i64 a0.pt), (w.heap.size, 9, .bool a0.ta), (w.heap.size, 10, .bool a0.si), (w.heap.size, 11, .bool a0.dm)] (fun _ => True), s.val.cell? ⟨w.heap.size, 7, none⟩ = some (.int .i64 a0.pp) := fun s => s.kept.at (by simp)
  have rB8 : ∀ s : KX (w.heap.size) w (w.heap.size + 1) [(w.heap.size, 0, .int .i64 a0.id), (w.heap.size, 1, .int .i64 a0.cd), (w.heap.size, 2, .int .i64 a0.ow), (w.heap.size, 3, .int .i64 a0.po), (w.heap.size, 4, .int .i64 a0.tg), (w.heap.size, 5, .int .i64 a0.da), (w.heap.size, 6, .int .i64 a0.co), (w.heap.size, 7, .int .i64 a0.pp), (w.heap.size, 8, .int .i64 a0.pt), (w.heap.size, 9, .bool a0.ta), (w.heap.size, 10, .bool a0.si), (w.heap.size, 11, .bool a0.dm)] (fun _ => True), s.val.cell? ⟨w.heap.size, 8, none⟩ = some (.int .i64 a0.pt) := fun s => s.kept.at (by simp)
  have rB9 : ∀ s : KX (w.heap.size) w (w.heap.size + 1) [(w.heap.size, 0, .int .i64 a0.id), (w.heap.size, 1, .int .i64 a0.cd), (w.heap.size, 2, .int .i64 a0.ow), (w.heap.size, 3, .int .i64 a0.po), (w.heap.size, 4, .int .i64 a0.tg), (w.heap.size, 5, .int .i64 a0.da), (w.heap.size, 6, .int .i64 a0.co), (w.heap.size, 7, .int .i64 a0.pp), (w.heap.size, 8, .int .i64 a0.pt), (w.heap.size, 9, .bool a0.ta), (w.heap.size, 10, .bool a0.si), (w.heap.size, 11, .bool a0.dm)] (fun _ => True), s.val.cell? ⟨w.heap.size, 9, none⟩ = some (.bool a0.ta) := fun s => s.kept.at (by simp)
  have rB10 : ∀ s : KX (w.heap.size) w (w.heap.size + 1) [(w.heap.size, 0, .int .i64 a0.id), (w.heap.size, 1, .int .i64 a0.cd), (w.heap.size, 2, .int .i64 a0.ow), (w.heap.size, 3, .int .i64 a0.po), (w.heap.size, 4, .int .i64 a0.tg), (w.heap.size, 5, .int .i64 a0.da), (w.heap.size, 6, .int .i64 a0.co), (w.heap.size, 7, .int .i64 a0.pp), (w.heap.size, 8, .int .i64 a0.pt), (w.heap.size, 9, .bool a0.ta), (w.heap.size, 10, .bool a0.si), (w.heap.size, 11, .bool a0.dm)] (fun _ => True), s.val.cell? ⟨w.heap.size, 10, none⟩ = some (.bool a0.si) := fun s => s.kept.at (by simp)
  have rB11 : ∀ s : KX (w.heap.size) w (w.heap.size + 1) [(w.heap.size, 0, .int .i64 a0.id), (w.heap.size, 1, .int .i64 a0.cd), (w.heap.size, 2, .int .i64 a0.ow), (w.heap.size, 3, .int .i64 a0.po), (w.heap.size, 4, .int .i64 a0.tg), (w.heap.size, 5, .int .i64 a0.da), (w.heap.size, 6, .int .i64 a0.co), (w.heap.size, 7, .int .i64 a0.pp), (w.heap.size, 8, .int .i64 a0.pt), (w.heap.size, 9, .bool a0.ta), (w.heap.size, 10, .bool a0.si), (w.heap.size, 11, .bool a0.dm)] (fun _ => True), s.val.cell? ⟨w.heap.size, 11, none⟩ = some (.bool a0.dm) := fun s => s.kept.at (by simp)
  repeat (go_big_quiet_step (fail))
  refine wpQuiet_nil ?_
  clear rB0 rB1 rB2 rB3 rB4 rB5 rB6 rB7 rB8 rB9 rB10 rB11
  refine ⟨fun K hK0 => ?_, trivial⟩
  have hK := Lib.hid hK0
  clear hK0
  go_wp2_with fail
  with_reducible refine (obytes_no a0 _ hv).mono ?_
  rintro e w3 ⟨rfl, hb_w3⟩
  have K_w3 : Kept w.heap.size w (w.heap.size + 1) [(w.heap.size, 0, .int .i64 a0.id), (w.heap.size, 1, .int .i64 a0.cd), (w.heap.size, 2, .int .i64 a0.ow), (w.heap.size, 3, .int .i64 a0.po), (w.heap.size, 4, .int .i64 a0.tg), (w.heap.size, 5, .int .i64 a0.da), (w.heap.size, 6, .int .i64 a0.co), (w.heap.size, 7, .int .i64 a0.pp), (w.heap.size, 8, .int .i64 a0.pt), (w.heap.size, 9, .bool a0.ta), (w.heap.size, 10, .bool a0.si), (w.heap.size, 11, .bool a0.dm)] w3 := (KH_w2.out.step (by omega) (by go_grown)).step (by omega) hb_w3
  clear hb_w3
  have KH_w3 := Lib.hid K_w3
  have hw_w3 := K_w3.below
  have hz_w3 := K_w3.size
  have lB_w3 : w.heap.size < w3.heap.size := by omega
  clear lB_w2
  clear K_w3
  go_wp2_with fail
  first | (refine ⟨rfl, ⟨⟨_, KH_w3.out, trivial⟩, rfl⟩, hK.out _ _ ?_⟩; clear hK K) | (refine ⟨⟨⟨_, KH_w3.out, trivial⟩, rfl⟩, hK.out _ _ ?_⟩; clear hK K)
  repeat (go_big_quiet_step (fail))
  refine wpQuiet_nil ?_
  have rB0 : ∀ s : KX (w.heap.size) w (w.heap.size + 1) [(w.heap.size, 0, .int .i64 a0.id), (w.heap.size, 1, .int .i64 a0.cd), (w.heap.size, 2, .int .i64 a0.ow), (w.heap.size, 3, .int .i64 a0.po), (w.heap.size, 4, .int .i64 a0.tg), (w.heap.size, 5, .int .i64 a0.da), (w.heap.size, 6, .int .i64 a0.co), (w.heap.size, 7, .int .i64 a0.pp), (w.heap.size, 8, .int .i64 a0.pt), (w.heap.size, 9, .bool a0.ta), (w.heap.size, 10, .bool a0.si), (w.heap.size, 11, .bool a0.dm)] (fun _ => True), s.val.cell? ⟨w.heap.size, 0, none⟩ = some (.int .i64 a0.id) := fun s => s.kept.at (by simp)
  have rB1 : ∀ s : KX (w.heap.size) w (w.heap.size + 1) [(w.heap.size, 0, .int .i64 a0.id), (w.heap.size, 1, .int .i64 a0.cd), (w.heap.size, 2, .int .i64 a0.ow), (w.heap.size, 3, .int .i64 a0.po), (w.heap.size, 4, .int .i64 a0.tg), (w.heap.size, 5, .int .i64 a0.da), (w.heap.size, 6, .int .i64 a0.co), (w.heap.size, 7, .int .i64 a0.pp), (w.heap.size, 8, .int .i64 a0.pt), (w.heap.size, 9, .bool a0.ta), (w.heap.size, 10, .bool a0.si), (w.heap.size, 11, .bool a0.dm)] (fun _ => True), s.val.cell? ⟨w.heap.size, 1, none⟩ = some (.int .i64 a0.cd) := fun s => s.kept.at (by simp)
  have rB2 : ∀ s : KX (w.heap.size) w (w.heap.size + 1) [(w.heap.size, 0, .int .i64 a0.id), (w.heap.size, 1, .int .i64 a0.cd), (w.heap.size, 2, .int .i64 a0.ow), (w.heap.size, 3, .int .i64 a0.po), (w.heap.size, 4, .int .i64 a0.tg), (w.heap.size, 5, .int .i64 a0.da), (w.heap.size, 6, .int .i64 a0.co), (w.heap.size, 7, .int .i64 a0.pp), (w.heap.size, 8, .int .i64 a0.pt), (w.heap.size, 9, .bool a0.ta), (w.heap.size, 10, .bool a0.si), (w.heap.size, 11, .bool a0.dm)] (fun _ => True), s.val.cell? ⟨w.heap.size, 2, none⟩ = some (.int .i64 a0.ow) := fun s => s.kept.at (by simp)
  have rB3 : ∀ s : KX (w.heap.size) w (w.heap.size + 1) [(w.heap.size, 0, .int .i64 a0.id), (w.heap.size, 1, .int .i64 a0.cd), (w.heap.size, 2, .int .i64 a0.ow), (w.heap.size, 3, .int .i64 a0.po), (w.heap.size, 4, .int .i64 a0.tg), (w.heap.size, 5, .int .i64 a0.da), (w.heap.size, 6, .int .i64 a0.co), (w.heap.size, 7, .int .i64 a0.pp), (w.heap.size, 8, .int .i64 a0.pt), (w.heap.size, 9, .bool a0.ta), (w.heap.size, 10, .bool a0.si), (w.heap.size, 11, .bool a0.dm)] (fun _ => True), s.val.cell? ⟨w.heap.size, 3, none⟩ = some (.int .i64 a0.po) := fun s => s.kept.at (by simp)
  have rB4 : ∀ s : KX (w.heap.size) w (w.heap.size + 1) [(w.heap.size, 0, .int .i64 a0.id), (w.heap.size, 1, .int .i64 a0.cd), (w.heap.size, 2, .int .i64 a0.ow), (w.heap.size, 3, .int .i64 a0.po), (w.heap.size, 4, .int .i64 a0.tg), (w.heap.size, 5, .int .i64 a0.da), (w.heap.size, 6, .int .i64 a0.co), (w.heap.size, 7, .int .i64 a0.pp), (w.heap.size, 8, .int .i64 a0.pt), (w.heap.size, 9, .bool a0.ta), (w.heap.size, 10, .bool a0.si), (w.heap.size, 11, .bool a0.dm)] (fun _ => True), s.val.cell? ⟨w.heap.size, 4, none⟩ = some (.int .i64 a0.tg) := fun s => s.kept.at (by simp)
  have rB5 : ∀ s : KX (w.heap.size) w (w.heap.size + 1) [(w.heap.size, 0, .int .i64 a0.id), (w.heap.size, 1, .int .i64 a0.cd), (w.heap.size, 2, .int .i64 a0.ow), (w.heap.size, 3, .int .i64 a0.po), (w.heap.size, 4, .int .i64 a0.tg), (w.heap.size, 5, .int .i64 a0.da), (w.heap.size, 6, .int .i64 a0.co), (w.heap.size, 7, .int .i64 a0.pp), (w.heap.size, 8, .int .i64 a0.pt), (w.heap.size, 9, .bool a0.ta), (w.heap.size, 10, .bool a0.si), (w.heap.size, 11, .bool a0.dm)] (fun _ => True), s.val.cell? ⟨w.heap.size, 5, none⟩ = some (.int .i64 a0.da) := fun s => s.kept.at (by simp)
  have rB6 : ∀ s : KX (w.heap.size) w (w.heap.size + 1) [(w.heap.size, 0, .int .i64 a0.id), (w.heap.size, 1, .int .i64 a0.cd), (w.heap.size, 2, .int .i64 a0.ow), (w.heap.size, 3, .int .i64 a0.po), (w.heap.size, 4, .int .i64 a0.tg), (w.heap.size, 5, .int .i64 a0.da), (w.heap.size, 6, .int .i64 a0.co), (w.heap.size, 7, .int .i64 a0.pp), (w.heap.size, 8, .int .i64 a0.pt), (w.heap.size, 9, .bool a0.ta), (w.heap.size, 10, .bool a0.si), (w.heap.size, 11, .bool a0.dm)] (fun _ => True), s.val.cell? ⟨w.heap.size, 6, none⟩ = some (.int .i64 a0.co) := fun s => s.kept.at (by simp)
  have rB7 : ∀ s : KX (w.heap.size) w (w.heap.size + 1) [(w.heap.size, 0, .int .i64 a0.id), (w.heap.size, 1, .int .i64 a0.cd), (w.heap.size, 2, .int .i64 a0.ow), (w.heap.size, 3, .int .i64 a0.po), (w.heap.size, 4, .int .i64 a0.tg), (w.heap.size, 5, .int .i64 a0.da), (w.heap.size, 6, .int .i64 a0.co), (w.heap.size, 7, .int .i64 a0.pp), (w.heap.size, 8, .int .i64 a0.pt), (w.heap.size, 9, .bool a0.ta), (w.heap.size, 10, .bool a0.si), (w.heap.size, 11, .bool a0.dm)] (fun _ => True), s.val.cell? ⟨w.heap.size, 7, none⟩ = some (.int .i64 a0.pp) := fun s => s.kept.at (by simp)
  have rB8 : ∀ s : KX (w.heap.size) w (w.heap.size + 1) [(w.heap.size, 0, .int .i64 a0.id), (w.heap.size, 1, .int .i64 a0.cd), (w.heap.size, 2, .int .i64 a0.ow), (w.heap.size, 3, .int .i64 a0.po), (w.heap.size, 4, .int .i64 a0.tg), (w.heap.size, 5, .int .i64 a0.da), (w.heap.size, 6, .int .i64 a0.co), (w.heap.size, 7, .int .i64 a0.pp), (w.heap.size, 8, .int .i64 a0.pt), (w.heap.size, 9, .bool a0.ta), (w.heap.size, 10, .bool a0.si), (w.heap.size, 11, .bool a0.dm)] (fun _ => True), s.val.cell? ⟨w.heap.size, 8, none⟩ = some (.int .i64 a0.pt) := fun s => s.kept.at (by simp)
  have rB9 : ∀ s : KX (w.heap.size) w (w.heap.size + 1) [(w.heap.size, 0, .int .i64 a0.id), (w.heap.size, 1, .int .i64 a0.cd), (w.heap.size, 2, .int .i64 a0.ow), (w.heap.size, 3, .int .i64 a0.po), (w.heap.size, 4, .int .i64 a0.tg), (w.heap.size, 5, .int .i64 a0.da), (w.heap.size, 6, .int .i64 a0.co), (w.heap.size, 7, .int .i64 a0.pp), (w.heap.size, 8, .int .i64 a0.pt), (w.heap.size, 9, .bool a0.ta), (w.heap.size, 10, .bool a0.si), (w.heap.size, 11, .bool a0.dm)] (fun _ => True), s.val.cell? ⟨w.heap.size, 9, none⟩ = some (.bool a0.ta) := fun s => s.kept.at (by simp)
  have rB10 : ∀ s : KX (w.heap.size) w (w.heap.size + 1) [(w.heap.size, 0, .int .i64 a0.id), (w.heap.size, 1, .int .i64 a0.cd), (w.heap.size, 2, .int .i64 a0.ow), (w.heap.size, 3, .int .i64 a0.po), (w.heap.size, 4, .int .i64 a0.tg), (w.heap.size, 5, .int .i64 a0.da), (w.heap.size, 6, .int .i64 a0.co), (w.heap.size, 7, .int .i64 a0.pp), (w.heap.size, 8, .int .i64 a0.pt), (w.heap.size, 9, .bool a0.ta), (w.heap.size, 10, .bool a0.si), (w.heap.size, 11, .bool a0.dm)] (fun _ => True), s.val.cell? ⟨w.heap.size, 10, none⟩ = some (.bool a0.si) := fun s => s.kept.at (by simp)
  have rB11 : ∀ s : KX (w.heap.size) w (w.heap.size + 1) [(w.heap.size, 0, .int .i64 a0.id), (w.heap.size, 1, .int .i64 a0.cd), (w.heap.size, 2, .int .i64 a0.ow), (w.heap.size, 3, .int .i64 a0.po), (w.heap.size, 4, .int .i64 a0.tg), (w.heap.size, 5, .int .i64 a0.da), (w.heap.size, 6, .int .i64 a0.co), (w.heap.size, 7, .int .i64 a0.pp), (w.heap.size, 8, .int .i64 a0.pt), (w.heap.size, 9, .bool a0.ta), (w.heap.size, 10, .bool a0.si), (w.heap.size, 11, .bool a0.dm)] (fun _ => True), s.val.cell? ⟨w.heap.size, 11, none⟩ = some (.bool a0.dm) := fun s => s.kept.at (by simp)
  repeat (go_big_quiet_step (fail))
  refine wpQuiet_nil ?_
  clear rB0 rB1 rB2 rB3 rB4 rB5 rB6 rB7 rB8 rB9 rB10 rB11
  refine ⟨fun K hK0 => ?_, trivial⟩
  have hK := Lib.hid hK0
  clear hK0
  go_wp2_with fail
  with_reducible refine (rvalidc a0 false _ hv.out).mono ?_
  rintro e w4 ⟨rfl, hb_w4⟩
  have K_w4 : Kept w.heap.size w (w.heap.size + 1) [(w.heap.size, 0, .int .i64 a0.id), (w.heap.size, 1, .int .i64 a0.cd), (w.heap.size, 2, .int .i64 a0.ow), (w.heap.size, 3, .int .i64 a0.po), (w.heap.size, 4, .int .i64 a0.tg), (w.heap.size, 5, .int .i64 a0.da), (w.heap.size, 6, .int .i64 a0.co), (w.heap.size, 7, .int .i64 a0.pp), (w.heap.size, 8, .int .i64 a0.pt), (w.heap.size, 9, .bool a0.ta), (w.heap.size, 10, .bool a0.si), (w.heap.size, 11, .bool a0.dm)] w4 := (KH_w3.out.step (by omega) (by go_grown)).step (by omega) hb_w4
  clear hb_w4
  have KH_w4 := Lib.hid K_w4
  have hw_w4 := K_w4.below
  have hz_w4 := K_w4.size
  have lB_w4 : w.heap.size < w4.heap.size := by omega
  clear lB_w3
  clear K_w4
  go_wp2_with fail
  first | (refine ⟨rfl, ⟨⟨_, KH_w4.out, trivial⟩, rfl⟩, hK.out _ _ ?_⟩; clear hK K) | (refine ⟨⟨⟨_, KH_w4.out, trivial⟩, rfl⟩, hK.out _ _ ?_⟩; clear hK K)
  repeat (go_big_quiet_step (fail))
  refine wpQuiet_nil ?_
  have rB0 : ∀ s : KX (w.heap.size) w (w.heap.size + 1) [(w.heap.size, 0, .int .i64 a0.id), (w.heap.size, 1, .int .i64 a0.cd), (w.heap.size, 2, .int .i64 a0.ow), (w.heap.size, 3, .int .i64 a0.po), (w.heap.size, 4, .int .i64 a0.tg), (w.heap.size, 5, .int .i64 a0.da), (w.heap.size, 6, .int .i64 a0.co), (w.heap.size, 7, .int .i64 a0.pp), (w.heap.size, 8, .int .i64 a0.pt), (w.heap.size, 9, .bool a0.ta), (w.heap.size, 10, .bool a0.si), (w.heap.size, 11, .bool a0.dm)] (fun _ => True), s.val.cell? ⟨w.heap.size, 0, none⟩ = some (.int .i64 a0.id) := fun s => s.kept.at (by simp)
  have rB1 : ∀ s : KX (w.heap.size) w (w.heap.size + 1) [(w.heap.size, 0, .int .i64 a0.id), (w.heap.size, 1, .int .i64 a0.cd), (w.heap.size, 2, .int .i64 a0.ow), (w.heap.size, 3, .int .i64 a0.po), (w.heap.size, 4, .int .i64 a0.tg), (w.heap.size, 5, .int .i64 a0.da), (w.heap.size, 6, .int .i64 a0.co), (w.heap.size, 7, .int .i64 a0.pp), (w.heap.size, 8, .int .i64 a0.pt), (w.heap.size, 9, .bool a0.ta), (w.heap.size, 10, .bool a0.si), (w.heap.size, 11, .bool a0.dm)] (fun _ => True), s.val.cell? ⟨w.heap.size, 1, none⟩ = some (.int .i64 a0.cd) := fun s => s.kept.at (by simp)
  have rB2 : ∀ s : KX (w.heap.size) w (w.heap.size + 1) [(w.heap.size, 0, .int .i64 a0.id), (w.heap.size, 1, .int .i64 a0.cd), (w.heap.size, 2, .int .i64 a0.ow), (w.heap.size, 3, .int .i64 a0.po), (w.heap.size, 4, .int .i64 a0.tg), (w.heap.size, 5, .int .i64 a0.da), (w.heap.size, 6, .int .i64 a0.co), (w.heap.size, 7, .int .i64 a0.pp), (w.heap.size, 8, .int .i64 a0.pt), (w.heap.size, 9, .bool a0.ta), (w.heap.size, 10, .bool a0.si), (w.heap.size, 11, .bool a0.dm)] (fun _ => True), s.val.cell? ⟨w.heap.size, 2, none⟩ = some (.int .i64 a0.ow) := fun s => s.kept.at (by simp)
  have rB3 : ∀ s : KX (w.heap.size) w (w.heap.size + 1) [(w.heap.size, 0, .int .i64 a0.id), (w.heap.size, 1, .int .i64 a0.cd), (w.heap.size, 2, .int .i64 a0.ow), (w.heap.size, 3, .int .i64 a0.po), (w.heap.size, 4, .int .i64 a0.tg), (w.heap.size, 5, .int .i64 a0.da), (w.heap.size, 6, .int .i64 a0.co), (w.heap.size, 7, .int .i64 a0.pp), (w.heap.size, 8, .int .i64 a0.pt), (w.heap.size, 9, .bool a0.ta), (w.heap.size, 10, .bool a0.si), (w.heap.size, 11, .bool a0.dm)] (fun _ => True), s.val.cell? ⟨w.heap.size, 3, none⟩ = some (.int .i64 a0.po) := fun s => s.kept.at (by simp)
  have rB4 : ∀ s : KX (w.heap.size) w (w.heap.size + 1) [(w.heap.size, 0, .int .i64 a0.id), (w.heap.size, 1, .int .i64 a0.cd), (w.heap.size, 2, .int .i64 a0.ow), (w.heap.size, 3, .int .i64 a0.po), (w.heap.size, 4, .int .i64 a0.tg), (w.heap.size, 5, .int .i64 a0.da), (w.heap.size, 6, .int .i64 a0.co), (w.heap.size, 7, .int .i64 a0.pp), (w.heap.size, 8, .int .i64 a0.pt), (w.heap.size, 9, .bool a0.ta), (w.heap.size, 10, .bool a0.si), (w.heap.size, 11, .bool a0.dm)] (fun _ => True), s.val.cell? ⟨w.heap.size, 4, none⟩ = some (.int .i64 a0.tg) := fun s => s.kept.at (by simp)
  have rB5 : ∀ s : KX (w.heap.size) w (w.heap.size + 1) [(w.heap.size, 0, .int .i64 a0.id), (w.heap.size, 1, .int .i64 a0.cd), (w.heap.size, 2, .int .i64 a0.ow), (w.heap.size, 3, .int .i64 a0.po), (w.heap.size, 4, .int .i64 a0.tg), (w.heap.size, 5, .int .i64 a0.da), (w.heap.size, 6, .int .i64 a0.co), (w.heap.size, 7, .int .i64 a0.pp), (w.heap.size, 8, .int .i64 a0.pt), (w.heap.size, 9, .bool a0.ta), (w.heap.size, 10, .bool a0.si), (w.heap.size, 11, .bool a0.dm)] (fun _ => True), s.val.cell? ⟨w.heap.size, 5, none⟩ = some (.int .i64 a0.da) := fun s => s.kept.at (by simp)
  have rB6 : ∀ s : KX (w.heap.size) w (w.heap.size + 1) [(w.heap.size, 0, .int .i64 a0.id), (w.heap.size, 1, .int .i64 a0.cd), (w.heap.size, 2, .int .i64 a0.ow), (w.heap.size, 3, .int .i64 a0.po), (w.heap.size, 4, .int .i64 a0.tg), (w.heap.size, 5, .int .i64 a0.da), (w.heap.size, 6, .int .i64 a0.co), (w.heap.size, 7, .int .i64 a0.pp), (w.heap.size, 8, .int .i64 a0.pt), (w.heap.size, 9, .bool a0.ta), (w.heap.size, 10, .bool a0.si), (w.heap.size, 11, .bool a0.dm)] (fun _ => True), s.val.cell? ⟨w.heap.size, 6, none⟩ = some (.int .i64 a0.co) := fun s => s.kept.at (by simp)
  have rB7 : ∀ s : KX (w.heap.size) w (w.heap.size + 1) [(w.heap.size, 0, .int .i64 a0.id), (w.heap.size, 1, .int .i64 a0.cd), (w.heap.size, 2, .int .i64 a0.ow), (w.heap.size, 3, .int .i64 a0.po), (w.heap.size, 4, .int .i64 a0.tg), (w.heap.size, 5, .int .i64 a0.da), (w.heap.size, 6, .int .i64 a0.co), (w.heap.size, 7, .int .i64 a0.pp), (w.heap.size, 8, .int .i64 a0.pt), (w.heap.size, 9, .bool a0.ta), (w.heap.size, 10, .bool a0.si), (w.heap.size, 11, .bool a0.dm)] (fun _ => True), s.val.cell? ⟨w.heap.size, 7, none⟩ = some (.int .i64 a0.pp) := fun s => s.kept.at (by simp)
  have rB8 : ∀ s : KX (w.heap.size) w (w.heap.size + 1) [(w.heap.size, 0, .int .i64 a0.id), (w.heap.size, 1, .int .i64 a0.cd), (w.heap.size, 2, .int .i64 a0.ow), (w.heap.size, 3, .int .i64 a0.po), (w.heap.size, 4, .int .i64 a0.tg), (w.heap.size, 5, .int .i64 a0.da), (w.heap.size, 6, .int .i64 a0.co), (w.heap.size, 7, .int .i64 a0.pp), (w.heap.size, 8, .int .i64 a0.pt), (w.heap.size, 9, .bool a0.ta), (w.heap.size, 10, .bool a0.si), (w.heap.size, 11, .bool a0.dm)] (fun _ => True), s.val.cell? ⟨w.heap.size, 8, none⟩ = some (.int .i64 a0.pt) := fun s => s.kept.at (by simp)
  have rB9 : ∀ s : KX (w.heap.size) w (w.heap.size + 1) [(w.heap.size, 0, .int .i64 a0.id), (w.heap.size, 1, .int .i64 a0.cd), (w.heap.size, 2, .int .i64 a0.ow), (w.heap.size, 3, .int .i64 a0.po), (w.heap.size, 4, .int .i64 a0.tg), (w.heap.size, 5, .int .i64 a0.da), (w.heap.size, 6, .int .i64 a0.co), (w.heap.size, 7, .int .i64 a0.pp), (w.heap.size, 8, .int .i64 a0.pt), (w.heap.size, 9, .bool a0.ta), (w.heap.size, 10, .bool a0.si), (w.heap.size, 11, .bool a0.dm)] (fun _ => True), s.val.cell? ⟨w.heap.size, 9, none⟩ = some (.bool a0.ta) := fun s => s.kept.at (by simp)
  have rB10 : ∀ s : KX (w.heap.size) w (w.heap.size + 1) [(w.heap.size, 0, .int .i64 a0.id), (w.heap.size, 1, .int .i64 a0.cd), (w.heap.size, 2, .int .i64 a0.ow), (w.heap.size, 3, .int .i64 a0.po), (w.heap.size, 4, .int .i64 a0.tg), (w.heap.size, 5, .int .i64 a0.da), (w.heap.size, 6, .int .i64 a0.co), (w.heap.size, 7, .int .i64 a0.pp), (w.heap.size, 8, .int .i64 a0.pt), (w.heap.size, 9, .bool a0.ta), (w.heap.size, 10, .bool a0.si), (w.heap.size, 11, .bool a0.dm)] (fun _ => True), s.val.cell? ⟨w.heap.size, 10, none⟩ = some (.bool a0.si) := fun s => s.kept.at (by simp)
  have rB11 : ∀ s : KX (w.heap.size) w (w.heap.size + 1) [(w.heap.size, 0, .int .i64 a0.id), (w.heap.size, 1, .int .i64 a0.cd), (w.heap.size, 2, .int .i64 a0.ow), (w.heap.size, 3, .int .i64 a0.po), (w.heap.size, 4, .int .i64 a0.tg), (w.heap.size, 5, .int .i64 a0.da), (w.heap.size, 6, .int .i64 a0.co), (w.heap.size, 7, .int .i64 a0.pp), (w.heap.size, 8, .int .i64 a0.pt), (w.heap.size, 9, .bool a0.ta), (w.heap.size, 10, .bool a0.si), (w.heap.size, 11, .bool a0.dm)] (fun _ => True), s.val.cell? ⟨w.heap.size, 11, none⟩ = some (.bool a0.dm) := fun s => s.kept.at (by simp)
  repeat (go_big_quiet_step (fail))
  refine wpQuiet_nil ?_
  clear rB0 rB1 rB2 rB3 rB4 rB5 rB6 rB7 rB8 rB9 rB10 rB11
  refine ⟨fun K hK0 => ?_, trivial⟩
  have hK := Lib.hid hK0
  clear hK0
  go_wp2_with fail
  first | (refine ⟨rfl, ⟨⟨_, KH_w4.out, trivial⟩, rfl⟩, hK.out _ _ ?_⟩; clear hK K) | (refine ⟨⟨⟨_, KH_w4.out, trivial⟩, rfl⟩, hK.out _ _ ?_⟩; clear hK K)
  refine ⟨fun K hK0 => ?_, trivial⟩
  have hK := Lib.hid hK0
  clear hK0
  go_wp2_with fail
  first | (refine ⟨rfl, hK.out _ _ ?_⟩; clear hK K) | (refine hK.out _ _ ?_; clear hK K)
  repeat (go_big_quiet_step (fail))
  refine wpQuiet_nil ?_
  clear _ne
  go_wp2_with fail
  with_reducible refine (rdecodec _ zs x no _ (HS.out.below (by go_grown)) HZ.out HX HN).mono ?_
  rintro e w5 ⟨rfl, hb_w5⟩
  have K_w5 : Kept w.heap.size w (w.heap.size + 1) [(w.heap.size, 0, .int .i64 a0.id), (w.heap.size, 1, .int .i64 a0.cd), (w.heap.size, 2, .int .i64 a0.ow), (w.heap.size, 3, .int .i64 a0.po), (w.heap.size, 4, .int .i64 a0.tg), (w.heap.size, 5, .int .i64 a0.da), (w.heap.size, 6, .int .i64 a0.co), (w.heap.size, 7, .int .i64 a0.pp), (w.heap.size, 8, .int .i64 a0.pt), (w.heap.size, 9, .bool a0.ta), (w.heap.size, 10, .bool a0.si), (w.heap.size, 11, .bool a0.dm)] w5 := (KH_w4.out.step (by omega) (by go_grown)).step (by omega) hb_w5
  clear hb_w5
  have KH_w5 := Lib.hid K_w5
  have hw_w5 := K_w5.below
  have hz_w5 := K_w5.size
  have lB_w5 : w.heap.size < w5.heap.size := by omega
  clear lB_w4
  clear K_w5
  go_wp2_with fail
  with_reducible refine (oreads _ zs x no _ (HS.out.below (by go_grown)) HZ.out HX HN).mono ?_
  rintro e w6 ⟨rfl, hb_w6⟩
  have K_w6 : Kept w.heap.size w (w.heap.size + 1) [(w.heap.size, 0, .int .i64 a0.id), (w.heap.size, 1, .int .i64 a0.cd), (w.heap.size, 2, .int .i64 a0.ow), (w.heap.size, 3, .int .i64 a0.po), (w.heap.size, 4, .int .i64 a0.tg), (w.heap.size, 5, .int .i64 a0.da), (w.heap.size, 6, .int .i64 a0.co), (w.heap.size, 7, .int .i64 a0.pp), (w.heap.size, 8, .int .i64 a0.pt), (w.heap.size, 9, .bool a0.ta), (w.heap.size, 10, .bool a0.si), (w.heap.size, 11, .bool a0.dm)] w6 := (KH_w5.out.step (by omega) (by go_grown)).step (by omega) hb_w6
  clear hb_w6
  have KH_w6 := Lib.hid K_w6
  have hw_w6 := K_w6.below
  have hz_w6 := K_w6.size
  have lB_w6 : w.heap.size < w6.heap.size := by omega
  clear lB_w5
  clear K_w6
  go_wp2_with fail
  with_reducible refine (known _).mono ?_
  rintro e w7 ⟨rfl, hb_w7⟩
  have K_w7 : Kept w.heap.size w (w.heap.size + 1) [(w.heap.size, 0, .int .i64 a0.id), (w.heap.size, 1, .int .i64 a0.cd), (w.heap.size, 2, .int .i64 a0.ow), (w.heap.size, 3, .int .i64 a0.po), (w.heap.size, 4, .int .i64 a0.tg), (w.heap.size, 5, .int .i64 a0.da), (w.heap.size, 6, .int .i64 a0.co), (w.heap.size, 7, .int .i64 a0.pp), (w.heap.size, 8, .int .i64 a0.pt), (w.heap.size, 9, .bool a0.ta), (w.heap.size, 10, .bool a0.si), (w.heap.size, 11, .bool a0.dm)] w7 := (KH_w6.out.step (by omega) (by go_grown)).step (by omega) hb_w7
  clear hb_w7
  have KH_w7 := Lib.hid K_w7
  have hw_w7 := K_w7.below
  have hz_w7 := K_w7.size
  have lB_w7 : w.heap.size < w7.heap.size := by omega
  clear lB_w6
  clear K_w7
  go_wp2_with fail
  go_returns
  exact ⟨rfl, by go_grown⟩

set_option maxRecDepth 100000 in
set_option maxHeartbeats 2000000 in
theorem bytes4_long (a0 : Ob) (v : Value) (zs : List Int) (w : World) (hs : Seg w .u8 v zs) (hl : 20 < zs.length) : Calls Try.prog 4 #[.agg #[.int .i64 a0.id, .int .i64 a0.cd, .int .i64 a0.ow, .int .i64 a0.po, .int .i64 a0.tg, .int .i64 a0.da, .int .i64 a0.co, .int .i64 a0.pp, .int .i64 a0.pt, .bool a0.ta, .bool a0.si, .bool a0.dm], v] w fun e w' => e = .returned (.bool true) ∧ Below w.heap.size w w' := by
  obtain ⟨m1, a1, c1, rfl, _⟩ := seg_form hs
  have q1 : (20 : Int) < (zs.length : Int) := by omega
  clear hs
  go_enter Try.func4, Try.ntmps4
  go_wp2_with fail
  with_reducible refine (known _).mono ?_
  rintro e w1 ⟨rfl, hb_w1⟩
  have K_w1 : Kept w.heap.size w (w.heap.size + 1) [] w1 := Kept.of hb_w1 (by go_grown) (by go_size) (by omega) (by simp [go_sem] <;> omega)
  clear hb_w1
  have KH_w1 := Lib.hid K_w1
  have hw_w1 := K_w1.below
  have hz_w1 := K_w1.size
  clear K_w1
  go_wp2_with fail
  go_returns
  exact ⟨rfl, by go_grown⟩

end Go.Proofs.Ytjedflfgafhlkaa
