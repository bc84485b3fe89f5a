/- A copy of what is public. -/
import Derived.Test.YteoeahmnonolmaaSPs
import Derived.Test.YteoeahmnonolmaaSOf
import Derived.Deep.DeepCutAuto
import Derived.LoopTactic
import Derived.Deep.MidRow
namespace Go.Proofs.Yteoeahmnonolmaa
open Go.RowKit Plain
set_option linter.unusedVariables false
set_option linter.unusedSimpArgs false

theorem rg34_1 {P : Program} {B n : Nat} {w0 : World} {L : List (Nat × Nat × Value)} {E F : World → Prop} {id : Nat} {Q : Exit → Act → World → Prop} {a : Act} {w : World} {o0 o1 o2 o3 o4 o5 o6 o7 o8 o9 o10 o11 o12 o13 o14 o15 o16 o17 o18 o19 : Oper} (hm : P.follows .mixedOrders = true)
    (hB : (Region.noSelect [o0, o1, o2, o3, o4, o5, o6, o7, o8, o9, o10, o11, o12, o13, o14, o15, o16, o17, o18, o19].toArray && Scr.ok .any [o0, o1, o2, o3, o4, o5, o6, o7, o8, o9, o10, o11, o12, o13, o14, o15, o16, o17, o18, o19].toArray [1, 4, 7, 10] [0, 3, 6, 9, 12, 14, 16, 18] (.free 0 (.free 3 (.free 6 (.free 9 (.read 1 (.read 4 (.read 7 (.read 10 (.alt 2 (.free 12 (.alt 5 (.alt 8 (.altc 11 (.altc 13 (.free 14 (.altc 15 (.free 16 (.altc 17 (.free 18 (.altc 19 .done .stop)) .stop)) .stop)) .stop) .stop) .stop) .stop)) .stop))))))))) true true [o0, o1, o2, o3, o4, o5, o6, o7, o8, o9, o10, o11, o12, o13, o14, o15, o16, o17, o18, o19].toArray.size (Array.replicate [o0, o1, o2, o3, o4, o5, o6, o7, o8, o9, o10, o11, o12, o13, o14, o15, o16, o17, o18, o19].toArray.size false)) = true)
    (k : Kept B w0 n L w) (he : E w) (hE : ∀ W W', E W → Below W.heap.size W W' → E W') (hf : F w) (hF : ∀ W W', F W → Below W.heap.size W W' → F W')
    (h : ∀ wk, Kept B w0 n L wk → E wk → F wk → wpQuiet P [o0, o1, o2, o3, o4, o5, o6, o7, o8, o9, o10, o11, o12, o13, o14, o15, o16, o17, o18, o19].toArray (fun _ => True) (fun a0 => wpQuiet P [o0, o1, o2, o3, o4, o5, o6, o7, o8, o9, o10, o11, o12, o13, o14, o15, o16, o17, o18, o19].toArray (fun w' => ∃ s : KX B w0 n L E, w' = s.val) (fun a1 => ((∀ K2 : Act → World → Prop, (∀ a2 w2, wpQuiet P [o0, o1, o2, o3, o4, o5, o6, o7, o8, o9, o10, o11, o12, o13, o14, o15, o16, o17, o18, o19].toArray (fun _ => True) (fun a3 => ((∀ K4 : Act → World → Prop, (∀ a4 w4, ((∀ K5 : Act → World → Prop, (∀ a5 w5, ((∀ K6 : Act → World → Prop, (∀ a6 w6, ((∀ K7 : Act → World → Prop, (∀ a7 w7, wpQuiet P [o0, o1, o2, o3, o4, o5, o6, o7, o8, o9, o10, o11, o12, o13, o14, o15, o16, o17, o18, o19].toArray (fun _ => True) (fun a8 => ((∀ K9 : Act → World → Prop, (∀ a9 w9, wpQuiet P [o0, o1, o2, o3, o4, o5, o6, o7, o8, o9, o10, o11, o12, o13, o14, o15, o16, o17, o18, o19].toArray (fun _ => True) (fun a10 => ((∀ K11 : Act → World → Prop, (∀ a11 w11, wpQuiet P [o0, o1, o2, o3, o4, o5, o6, o7, o8, o9, o10, o11, o12, o13, o14, o15, o16, o17, o18, o19].toArray (fun _ => True) (fun a12 => ((∀ K13 : Act → World → Prop, (∀ a13 w13, Q .normal a13 w13 → K13 a13 w13) → wpList P [o0, o1, o2, o3, o4, o5, o6, o7, o8, o9, o10, o11, o12, o13, o14, o15, o16, o17, o18, o19].toArray (fun e a13 w13 => e = .normal ∧ K13 a13 w13) [o19] a12 w11) ∧ True)) [o18] a11 → K11 a11 w11) → wpList P [o0, o1, o2, o3, o4, o5, o6, o7, o8, o9, o10, o11, o12, o13, o14, o15, o16, o17, o18, o19].toArray (fun e a11 w11 => e = .normal ∧ K11 a11 w11) [o17] a10 w9) ∧ True)) [o16] a9 → K9 a9 w9) → wpList P [o0, o1, o2, o3, o4, o5, o6, o7, o8, o9, o10, o11, o12, o13, o14, o15, o16, o17, o18, o19].toArray (fun e a9 w9 => e = .normal ∧ K9 a9 w9) [o15] a8 w7) ∧ True)) [o14] a7 → K7 a7 w7) → wpList P [o0, o1, o2, o3, o4, o5, o6, o7, o8, o9, o10, o11, o12, o13, o14, o15, o16, o17, o18, o19].toArray (fun e a7 w7 => e = .normal ∧ K7 a7 w7) [o13] a6 w6) ∧ True) → K6 a6 w6) → wpList P [o0, o1, o2, o3, o4, o5, o6, o7, o8, o9, o10, o11, o12, o13, o14, o15, o16, o17, o18, o19].toArray (fun e a6 w6 => e = .normal ∧ K6 a6 w6) [o11] a5 w5) ∧ True) → K5 a5 w5) → wpList P [o0, o1, o2, o3, o4, o5, o6, o7, o8, o9, o10, o11, o12, o13, o14, o15, o16, o17, o18, o19].toArray (fun e a5 w5 => e = .normal ∧ (∃ s : KX B w0 n L E, w5 = s.val) ∧ K5 a5 w5) [o8] a4 w4) ∧ True) → K4 a4 w4) → wpList P [o0, o1, o2, o3, o4, o5, o6, o7, o8, o9, o10, o11, o12, o13, o14, o15, o16, o17, o18, o19].toArray (fun e a4 w4 => e = .normal ∧ (∃ s : KX B w0 n L E, w4 = s.val) ∧ K4 a4 w4) [o5] a3 w2) ∧ True)) [o12] a2 → K2 a2 w2) → wpList P [o0, o1, o2, o3, o4, o5, o6, o7, o8, o9, o10, o11, o12, o13, o14, o15, o16, o17, o18, o19].toArray (fun e a2 w2 => e = .normal ∧ (∃ s : KX B w0 n L E, w2 = s.val) ∧ K2 a2 w2) [o2] a1 wk) ∧ True)) [o1, o4, o7, o10] a0) [o0, o3, o6, o9] a) : (Code.region id [o0, o1, o2, o3, o4, o5, o6, o7, o8, o9, o10, o11, o12, o13, o14, o15, o16, o17, o18, o19].toArray true).wp P Q a w := by
  have e1 : E w.drew := hE _ _ he ((Below.refl _ _).drew)
  have g := h _ k.drew e1 (hF _ _ hf ((Below.refl _ _).drew))
  exact wp_region_scr (U := (fun w' => ∃ s : KX B w0 n L E, w' = s.val)) (ops := [o0, o1, o2, o3, o4, o5, o6, o7, o8, o9, o10, o11, o12, o13, o14, o15, o16, o17, o18, o19].toArray) (.free 0 (.free 3 (.free 6 (.free 9 (.read 1 (.read 4 (.read 7 (.read 10 (.alt 2 (.free 12 (.alt 5 (.alt 8 (.altc 11 (.altc 13 (.free 14 (.altc 15 (.free 16 (.altc 17 (.free 18 (.altc 19 .done .stop)) .stop)) .stop)) .stop) .stop) .stop) .stop)) .stop))))))))) [1, 4, 7, 10] [0, 3, 6, 9, 12, 14, 16, 18] hm hB ⟨⟨_, k.drew, e1⟩, rfl⟩ (Scr.of_free rfl g (fun _ g0 => Scr.of_free rfl g0 (fun _ g1 => Scr.of_free rfl g1 (fun _ g2 => Scr.of_free rfl g2 (fun _ g3 => Scr.of_read rfl g3 (fun _ g4 => Scr.of_read rfl g4 (fun _ g5 => Scr.of_read rfl g5 (fun _ g6 => Scr.of_read rfl g6 (fun _ g7 => (Scr.of_alt rfl (g7.1 _ (fun _ _ g => g)) (fun _ _ g8 => Scr.of_free rfl g8 (fun _ g9 => (Scr.of_alt rfl (g9.1 _ (fun _ _ g => g)) (fun _ _ g10 => (Scr.of_alt rfl (g10.1 _ (fun _ _ g => g)) (fun _ _ g11 => (Scr.of_altc rfl (g11.1 _ (fun _ _ g => g)) (fun _ _ g12 => (Scr.of_altc rfl (g12.1 _ (fun _ _ g => g)) (fun _ _ g13 => Scr.of_free rfl g13 (fun _ g14 => (Scr.of_altc rfl (g14.1 _ (fun _ _ g => g)) (fun _ _ g15 => Scr.of_free rfl g15 (fun _ g16 => (Scr.of_altc rfl (g16.1 _ (fun _ _ g => g)) (fun _ _ g17 => Scr.of_free rfl g17 (fun _ g18 => (Scr.of_altc rfl (g18.1 _ (fun _ _ g => g)) (fun _ _ g19 => g19) trivial))) trivial))) trivial))) trivial)) trivial)) trivial)) trivial))) trivial))))))))))
theorem rg34_5 {P : Program} {B n : Nat} {w0 : World} {L : List (Nat × Nat × Value)} {E F : World → Prop} {id : Nat} {Q : Exit → Act → World → Prop} {a : Act} {w : World} {o0 o1 o2 o3 o4 o5 o6 o7 o8 o9 o10 o11 o12 o13 o14 o15 o16 o17 o18 o19 o20 o21 : Oper} (hm : P.follows .mixedOrders = true)
    (hB : (Region.noSelect [o0, o1, o2, o3, o4, o5, o6, o7, o8, o9, o10, o11, o12, o13, o14, o15, o16, o17, o18, o19, o20, o21].toArray && Scr.ok .any [o0, o1, o2, o3, o4, o5, o6, o7, o8, o9, o10, o11, o12, o13, o14, o15, o16, o17, o18, o19, o20, o21].toArray [6, 12] [0, 1, 2, 3, 4, 5, 8, 9, 10, 11, 14, 15, 16, 18, 19, 20] (.free 0 (.free 1 (.free 2 (.free 3 (.free 4 (.free 5 (.free 8 (.free 9 (.free 10 (.free 11 (.free 14 (.free 18 (.read 6 (.read 12 (.alt 7 (.free 15 (.free 16 (.altc 13 (.altc 17 (.free 19 (.free 20 (.altc 21 .done .stop))) .stop) .stop))) .stop))))))))))))))) true true [o0, o1, o2, o3, o4, o5, o6, o7, o8, o9, o10, o11, o12, o13, o14, o15, o16, o17, o18, o19, o20, o21].toArray.size (Array.replicate [o0, o1, o2, o3, o4, o5, o6, o7, o8, o9, o10, o11, o12, o13, o14, o15, o16, o17, o18, o19, o20, o21].toArray.size false)) = true)
    (k : Kept B w0 n L w) (he : E w) (hE : ∀ W W', E W → Below W.heap.size W W' → E W') (hf : F w) (hF : ∀ W W', F W → Below W.heap.size W W' → F W')
    (h : ∀ wk, Kept B w0 n L wk → E wk → F wk → wpQuiet P [o0, o1, o2, o3, o4, o5, o6, o7, o8, o9, o10, o11, o12, o13, o14, o15, o16, o17, o18, o19, o20, o21].toArray (fun _ => True) (fun a0 => wpQuiet P [o0, o1, o2, o3, o4, o5, o6, o7, o8, o9, o10, o11, o12, o13, o14, o15, o16, o17, o18, o19, o20, o21].toArray (fun w' => ∃ s : KX B w0 n L E, w' = s.val) (fun a1 => ((∀ K2 : Act → World → Prop, (∀ a2 w2, wpQuiet P [o0, o1, o2, o3, o4, o5, o6, o7, o8, o9, o10, o11, o12, o13, o14, o15, o16, o17, o18, o19, o20, o21].toArray (fun _ => True) (fun a3 => ((∀ K4 : Act → World → Prop, (∀ a4 w4, ((∀ K5 : Act → World → Prop, (∀ a5 w5, wpQuiet P [o0, o1, o2, o3, o4, o5, o6, o7, o8, o9, o10, o11, o12, o13, o14, o15, o16, o17, o18, o19, o20, o21].toArray (fun _ => True) (fun a6 => ((∀ K7 : Act → World → Prop, (∀ a7 w7, Q .normal a7 w7 → K7 a7 w7) → wpList P [o0, o1, o2, o3, o4, o5, o6, o7, o8, o9, o10, o11, o12, o13, o14, o15, o16, o17, o18, o19, o20, o21].toArray (fun e a7 w7 => e = .normal ∧ K7 a7 w7) [o21] a6 w5) ∧ True)) [o19, o20] a5 → K5 a5 w5) → wpList P [o0, o1, o2, o3, o4, o5, o6, o7, o8, o9, o10, o11, o12, o13, o14, o15, o16, o17, o18, o19, o20, o21].toArray (fun e a5 w5 => e = .normal ∧ K5 a5 w5) [o17] a4 w4) ∧ True) → K4 a4 w4) → wpList P [o0, o1, o2, o3, o4, o5, o6, o7, o8, o9, o10, o11, o12, o13, o14, o15, o16, o17, o18, o19, o20, o21].toArray (fun e a4 w4 => e = .normal ∧ K4 a4 w4) [o13] a3 w2) ∧ True)) [o15, o16] a2 → K2 a2 w2) → wpList P [o0, o1, o2, o3, o4, o5, o6, o7, o8, o9, o10, o11, o12, o13, o14, o15, o16, o17, o18, o19, o20, o21].toArray (fun e a2 w2 => e = .normal ∧ (∃ s : KX B w0 n L E, w2 = s.val) ∧ K2 a2 w2) [o7] a1 wk) ∧ True)) [o6, o12] a0) [o0, o1, o2, o3, o4, o5, o8, o9, o10, o11, o14, o18] a) : (Code.region id [o0, o1, o2, o3, o4, o5, o6, o7, o8, o9, o10, o11, o12, o13, o14, o15, o16, o17, o18, o19, o20, o21].toArray true).wp P Q a w := by
  have e1 : E w.drew := hE _ _ he ((Below.refl _ _).drew)
  have g := h _ k.drew e1 (hF _ _ hf ((Below.refl _ _).drew))
  exact wp_region_scr (U := (fun w' => ∃ s : KX B w0 n L E, w' = s.val)) (ops := [o0, o1, o2, o3, o4, o5, o6, o7, o8, o9, o10, o11, o12, o13, o14, o15, o16, o17, o18, o19, o20, o21].toArray) (.free 0 (.free 1 (.free 2 (.free 3 (.free 4 (.free 5 (.free 8 (.free 9 (.free 10 (.free 11 (.free 14 (.free 18 (.read 6 (.read 12 (.alt 7 (.free 15 (.free 16 (.altc 13 (.altc 17 (.free 19 (.free 20 (.altc 21 .done .stop))) .stop) .stop))) .stop))))))))))))))) [6, 12] [0, 1, 2, 3, 4, 5, 8, 9, 10, 11, 14, 15, 16, 18, 19, 20] hm hB ⟨⟨_, k.drew, e1⟩, rfl⟩ (Scr.of_free rfl g (fun _ g0 => Scr.of_free rfl g0 (fun _ g1 => Scr.of_free rfl g1 (fun _ g2 => Scr.of_free rfl g2 (fun _ g3 => Scr.of_free rfl g3 (fun _ g4 => Scr.of_free rfl g4 (fun _ g5 => Scr.of_free rfl g5 (fun _ g6 => Scr.of_free rfl g6 (fun _ g7 => Scr.of_free rfl g7 (fun _ g8 => Scr.of_free rfl g8 (fun _ g9 => Scr.of_free rfl g9 (fun _ g10 => Scr.of_free rfl g10 (fun _ g11 => Scr.of_read rfl g11 (fun _ g12 => Scr.of_read rfl g12 (fun _ g13 => (Scr.of_alt rfl (g13.1 _ (fun _ _ g => g)) (fun _ _ g14 => Scr.of_free rfl g14 (fun _ g15 => Scr.of_free rfl g15 (fun _ g16 => (Scr.of_altc rfl (g16.1 _ (fun _ _ g => g)) (fun _ _ g17 => (Scr.of_altc rfl (g17.1 _ (fun _ _ g => g)) (fun _ _ g18 => Scr.of_free rfl g18 (fun _ g19 => Scr.of_free rfl g19 (fun _ g20 => (Scr.of_altc rfl (g20.1 _ (fun _ _ g => g)) (fun _ _ g21 => g21) trivial)))) trivial)) trivial)))) trivial))))))))))))))))
/-- it is not great -/
structure Plain.Pu.Sm (P : Pu) : Prop where
  f0 : P.s0.fld.length ≤ 1000
  g0 : P.s0.grv.length ≤ 1000
  f1 : P.s1.fld.length ≤ 1000
  g1 : P.s1.grv.length ≤ 1000
  st : P.st.length ≤ 1000
  qu : P.qu.length ≤ 1000
  att : P.att.length ≤ 1000
  bl : P.bl.length ≤ 1000
  ts : ∀ x ∈ P.st, x.tg.length ≤ 1000
  tq : ∀ x ∈ P.qu, x.tg.length ≤ 1000
theorem Plain.Pu.Sm.seat {P : Pu} (h : P.Sm) (p : Nat) : (P.seat p).fld.length ≤ 1000 ∧ (P.seat p).grv.length ≤ 1000 := by
  unfold Plain.Pu.seat
  split
  · exact ⟨h.f0, h.g0⟩
  · exact ⟨h.f1, h.g1⟩
theorem setS_fs (s : Ps) (f g : Sl) {p q : Nat} (hp : p < 2) (hq : q < 2) : (s.setS p f g).fs q = (if q = p then f else s.fs q) ∧ (s.setS p f g).gs q = (if q = p then g else s.gs q) := by
  have h1 : p = 0 ∨ p = 1 := by omega
  have h2 : q = 0 ∨ q = 1 := by omega
  rcases h1 with rfl | rfl <;> rcases h2 with rfl | rfl <;> exact ⟨rfl, rfl⟩
theorem setS_rest (s : Ps) (f g : Sl) (p : Nat) : (s.setS p f g).st = s.st ∧ (s.setS p f g).qu = s.qu ∧ (s.setS p f g).at' = s.at' ∧ (s.setS p f g).bl = s.bl := by
  unfold Ps.setS
  split <;> exact ⟨rfl, rfl, rfl, rfl⟩
/-- the lists of a seat are stored -/
theorem Px.fg {w : World} {Q : Nat} {s : Ps} {P : Pu} (h : Px w Q s P) {p : Nat} (hp : p < 2) (f g : Sl) : Px ((w.setCell ⟨Q, p * 14 + 7, none⟩ f.v).setCell ⟨Q, p * 14 + 8, none⟩ g.v) Q (s.setS p f g) P := by
  have h1 : p = 0 ∨ p = 1 := by omega
  rcases h1 with rfl | rfl
  · exact Px.put (Px.put h (s' := { s with f0 := f }) (P' := P) _ _ rfl) _ _ rfl
  · exact Px.put (Px.put h (s' := { s with f1 := f }) (P' := P) _ _ rfl) _ _ rfl
/-- while it is copied: the seats below n are, and the rest is -/
def DnL (w : World) (P : Pu) (sp : Ps) (n : Nat) (wr : World) : Prop := ∀ q, q < n → Ox oc 12 79 w.heap.size wr.heap.size wr (sp.fs q).v (P.seat q).fld ∧ Ox oc 12 79 w.heap.size wr.heap.size wr (sp.gs q).v (P.seat q).grv
theorem DnL.below {w W W' : World} {P : Pu} {sp : Ps} {n : Nat} (h : DnL w P sp n W) (hb : Below W.heap.size W W') : DnL w P sp n W' := fun q hq => ⟨((h q hq).1.below hb).mono (Nat.le_refl _) hb.size, ((h q hq).2.below hb).mono (Nat.le_refl _) hb.size⟩
theorem DnL.onlT {w W W' : World} {P P' : Pu} {sp s' : Ps} {n g : Nat} (h : DnL w P sp n W) (ho : Onl [g] W W') (hg : Px W g s' P') : DnL w P sp n W' := fun q hq => ⟨((h q hq).1.onlT ho hg (by decide)).mono (Nat.le_refl _) ho.size, ((h q hq).2.onlT ho hg (by decide)).mono (Nat.le_refl _) ho.size⟩
theorem DnL.next {w W : World} {P : Pu} {sp : Ps} {n : Nat} (h : DnL w P sp n W) (hn : n < 2) {f g : Sl} (hf : Ox oc 12 79 w.heap.size W.heap.size W f.v (P.seat n).fld) (hg : Ox oc 12 79 w.heap.size W.heap.size W g.v (P.seat n).grv) : DnL w P (sp.setS n f g) (n + 1) W := fun q hq => by
  have e := setS_fs sp f g (p := n) (q := q) hn (by omega)
  rw [e.1, e.2]
  by_cases h1 : q = n
  · subst h1
    rw [if_pos rfl, if_pos rfl]
    exact ⟨hf, hg⟩
  · rw [if_neg h1, if_neg h1]
    exact h q (by omega)
def CpL (w : World) (s : Ps) (P : Pu) (i : Value) (wr : World) : Prop := ∃ n : Nat, n ≤ 2 ∧ i = .int .i64 n ∧ Below w.heap.size w wr ∧ Px wr (w.heap.size + 1) nilPs zeroPu ∧ ∃ sp, Px wr w.heap.size sp P ∧ (∀ q, q < 2 → n ≤ q → sp.fs q = s.fs q ∧ sp.gs q = s.gs q) ∧ DnL w P sp n wr ∧ ItO w.heap.size wr.heap.size wr sp.st.v P.st ∧ ItO w.heap.size wr.heap.size wr sp.qu.v P.qu ∧ Ox ic 1 3 w.heap.size wr.heap.size wr sp.at'.v P.att ∧ Ox kc 2 107 w.heap.size wr.heap.size wr sp.bl.v P.bl
set_option maxRecDepth 100000 in
set_option maxHeartbeats 4000000 in
theorem scopied (s : Ps) (P : Pu) (w : World) (h : PuR w s P) (hsm : P.Sm) : Calls Try.prog 34 #[pv s P] w (PcA w P) := by
  have HP := Lib.hid h
  obtain ⟨⟨x0a, x0n, x0c⟩, ⟨x1a, x1n, x1c⟩, ⟨x2a, x2n, x2c⟩, ⟨x3a, x3n, x3c⟩, ⟨x4a, x4n, x4c⟩, ⟨x5a, x5n, x5c⟩, ⟨x6a, x6n, x6c⟩, ⟨x7a, x7n, x7c⟩⟩ := s
  have e0 : x0n = P.s0.fld.length := rw_len h.f0
  have e1 : x1n = P.s0.grv.length := rw_len h.g0
  have e2 : x2n = P.s1.fld.length := rw_len h.f1
  have e3 : x3n = P.s1.grv.length := rw_len h.g1
  have e4 : x4n = P.st.length := itr_len h.st
  have e5 : x5n = P.qu.length := itr_len h.qu
  have e6 : x6n = P.att.length := rw_len h.att
  have e7 : x7n = P.bl.length := rw_len h.bl
  subst e0 e1 e2 e3 e4 e5 e6 e7
  have HX0 : Hid (Rw oc 12 w (.slice x0a P.s0.fld.length x0c) P.s0.fld) := Lib.hid h.f0
  have HX1 : Hid (Rw oc 12 w (.slice x1a P.s0.grv.length x1c) P.s0.grv) := Lib.hid h.g0
  have HX2 : Hid (Rw oc 12 w (.slice x2a P.s1.fld.length x2c) P.s1.fld) := Lib.hid h.f1
  have HX3 : Hid (Rw oc 12 w (.slice x3a P.s1.grv.length x3c) P.s1.grv) := Lib.hid h.g1
  have HX4 : Hid (ItR w (.slice x4a P.st.length x4c) P.st) := Lib.hid h.st
  have HX5 : Hid (ItR w (.slice x5a P.qu.length x5c) P.qu) := Lib.hid h.qu
  have HX6 : Hid (Rw ic 1 w (.slice x6a P.att.length x6c) P.att) := Lib.hid h.att
  have HX7 : Hid (Rw kc 2 w (.slice x7a P.bl.length x7c) P.bl) := Lib.hid h.bl
  have HSM := Lib.hid hsm
  clear h hsm
  go_enter Try.func34, Try.ntmps34
  go_upto_region 1 with fail
  change Code.wp Try.prog _ _ _ ((w.alloc (.cells (pcells ⟨⟨x0a, P.s0.fld.length, x0c⟩, ⟨x1a, P.s0.grv.length, x1c⟩, ⟨x2a, P.s1.fld.length, x2c⟩, ⟨x3a, P.s1.grv.length, x3c⟩, ⟨x4a, P.st.length, x4c⟩, ⟨x5a, P.qu.length, x5c⟩, ⟨x6a, P.att.length, x6c⟩, ⟨x7a, P.bl.length, x7c⟩⟩ P) 49)).alloc (.cells (pcells nilPs zeroPu) 49))
  obtain ⟨wz, hwz⟩ : ∃ W, W = (w.alloc (.cells (pcells ⟨⟨x0a, P.s0.fld.length, x0c⟩, ⟨x1a, P.s0.grv.length, x1c⟩, ⟨x2a, P.s1.fld.length, x2c⟩, ⟨x3a, P.s1.grv.length, x3c⟩, ⟨x4a, P.st.length, x4c⟩, ⟨x5a, P.qu.length, x5c⟩, ⟨x6a, P.att.length, x6c⟩, ⟨x7a, P.bl.length, x7c⟩⟩ P) 49)).alloc (.cells (pcells nilPs zeroPu) 49) := ⟨_, rfl⟩
  rw [← hwz]
  have b1' : Below w.heap.size w (w.alloc (.cells (pcells ⟨⟨x0a, P.s0.fld.length, x0c⟩, ⟨x1a, P.s0.grv.length, x1c⟩, ⟨x2a, P.s1.fld.length, x2c⟩, ⟨x3a, P.s1.grv.length, x3c⟩, ⟨x4a, P.st.length, x4c⟩, ⟨x5a, P.qu.length, x5c⟩, ⟨x6a, P.att.length, x6c⟩, ⟨x7a, P.bl.length, x7c⟩⟩ P) 49)) := (Below.refl _ _).alloc (Nat.le_refl _) _
  have b2' : Below (w.alloc (.cells (pcells ⟨⟨x0a, P.s0.fld.length, x0c⟩, ⟨x1a, P.s0.grv.length, x1c⟩, ⟨x2a, P.s1.fld.length, x2c⟩, ⟨x3a, P.s1.grv.length, x3c⟩, ⟨x4a, P.st.length, x4c⟩, ⟨x5a, P.qu.length, x5c⟩, ⟨x6a, P.att.length, x6c⟩, ⟨x7a, P.bl.length, x7c⟩⟩ P) 49)).heap.size (w.alloc (.cells (pcells ⟨⟨x0a, P.s0.fld.length, x0c⟩, ⟨x1a, P.s0.grv.length, x1c⟩, ⟨x2a, P.s1.fld.length, x2c⟩, ⟨x3a, P.s1.grv.length, x3c⟩, ⟨x4a, P.st.length, x4c⟩, ⟨x5a, P.qu.length, x5c⟩, ⟨x6a, P.att.length, x6c⟩, ⟨x7a, P.bl.length, x7c⟩⟩ P) 49)) wz := by rw [hwz]; exact (Below.refl _ _).alloc (Nat.le_refl _) _
  have HPX : Hid (Px wz w.heap.size ⟨⟨x0a, P.s0.fld.length, x0c⟩, ⟨x1a, P.s0.grv.length, x1c⟩, ⟨x2a, P.s1.fld.length, x2c⟩, ⟨x3a, P.s1.grv.length, x3c⟩, ⟨x4a, P.st.length, x4c⟩, ⟨x5a, P.qu.length, x5c⟩, ⟨x6a, P.att.length, x6c⟩, ⟨x7a, P.bl.length, x7c⟩⟩ P) := Lib.hid (Px.below (w := w.alloc (.cells (pcells ⟨⟨x0a, P.s0.fld.length, x0c⟩, ⟨x1a, P.s0.grv.length, x1c⟩, ⟨x2a, P.s1.fld.length, x2c⟩, ⟨x3a, P.s1.grv.length, x3c⟩, ⟨x4a, P.st.length, x4c⟩, ⟨x5a, P.qu.length, x5c⟩, ⟨x6a, P.att.length, x6c⟩, ⟨x7a, P.bl.length, x7c⟩⟩ P) 49)) (heap_alloc_new _ _) b2')
  have HPZ : Hid (Px wz (w.heap.size + 1) nilPs zeroPu) := Lib.hid (by rw [hwz, show w.heap.size + 1 = (w.alloc (.cells (pcells ⟨⟨x0a, P.s0.fld.length, x0c⟩, ⟨x1a, P.s0.grv.length, x1c⟩, ⟨x2a, P.s1.fld.length, x2c⟩, ⟨x3a, P.s1.grv.length, x3c⟩, ⟨x4a, P.st.length, x4c⟩, ⟨x5a, P.qu.length, x5c⟩, ⟨x6a, P.att.length, x6c⟩, ⟨x7a, P.bl.length, x7c⟩⟩ P) 49)).heap.size by simp]; exact heap_alloc_new _ _)
  have HB : Hid (Below w.heap.size w wz) := Lib.hid (below_via b1' b2')
  have KH0 := Lib.hid (⟨HB.out, HB.out.size, by simp⟩ : Kept w.heap.size w (w.heap.size) [] wz)
  clear hwz b1' b2'
  refine rg34_1 (w0 := w) (B := w.heap.size) (n := w.heap.size) (L := []) (E := fun W => Px W w.heap.size ⟨⟨x0a, P.s0.fld.length, x0c⟩, ⟨x1a, P.s0.grv.length, x1c⟩, ⟨x2a, P.s1.fld.length, x2c⟩, ⟨x3a, P.s1.grv.length, x3c⟩, ⟨x4a, P.st.length, x4c⟩, ⟨x5a, P.qu.length, x5c⟩, ⟨x6a, P.att.length, x6c⟩, ⟨x7a, P.bl.length, x7c⟩⟩ P) (F := fun W => Px W (w.heap.size + 1) nilPs zeroPu) (by kernel_rfl) (by kernel_rfl) (KH0.out.step (by omega) (by go_grown)) HPX.out (fun _ _ h hb => h.below hb) HPZ.out (fun _ _ h hb => h.below hb) (fun w31 K_w31 E_w31 F_w31 => ?_)
  have _ne : Nonempty (KX (w.heap.size) w (w.heap.size) [] (fun W => Px W w.heap.size ⟨⟨x0a, P.s0.fld.length, x0c⟩, ⟨x1a, P.s0.grv.length, x1c⟩, ⟨x2a, P.s1.fld.length, x2c⟩, ⟨x3a, P.s1.grv.length, x3c⟩, ⟨x4a, P.st.length, x4c⟩, ⟨x5a, P.qu.length, x5c⟩, ⟨x6a, P.att.length, x6c⟩, ⟨x7a, P.bl.length, x7c⟩⟩ P)) := ⟨⟨_, K_w31, E_w31⟩⟩
  repeat (go_big_quiet_step (fail))
  refine wpQuiet_nil ?_
  have r28 : ∀ s : KX (w.heap.size) w (w.heap.size) [] (fun W => Px W w.heap.size ⟨⟨x0a, P.s0.fld.length, x0c⟩, ⟨x1a, P.s0.grv.length, x1c⟩, ⟨x2a, P.s1.fld.length, x2c⟩, ⟨x3a, P.s1.grv.length, x3c⟩, ⟨x4a, P.st.length, x4c⟩, ⟨x5a, P.qu.length, x5c⟩, ⟨x6a, P.att.length, x6c⟩, ⟨x7a, P.bl.length, x7c⟩⟩ P), s.val.cell? ⟨w.heap.size, 28, none⟩ = some (.slice x4a P.st.length x4c) := fun s => s.ex.cell 28
  have r29 : ∀ s : KX (w.heap.size) w (w.heap.size) [] (fun W => Px W w.heap.size ⟨⟨x0a, P.s0.fld.length, x0c⟩, ⟨x1a, P.s0.grv.length, x1c⟩, ⟨x2a, P.s1.fld.length, x2c⟩, ⟨x3a, P.s1.grv.length, x3c⟩, ⟨x4a, P.st.length, x4c⟩, ⟨x5a, P.qu.length, x5c⟩, ⟨x6a, P.att.length, x6c⟩, ⟨x7a, P.bl.length, x7c⟩⟩ P), s.val.cell? ⟨w.heap.size, 29, none⟩ = some (.slice x5a P.qu.length x5c) := fun s => s.ex.cell 29
  have r30 : ∀ s : KX (w.heap.size) w (w.heap.size) [] (fun W => Px W w.heap.size ⟨⟨x0a, P.s0.fld.length, x0c⟩, ⟨x1a, P.s0.grv.length, x1c⟩, ⟨x2a, P.s1.fld.length, x2c⟩, ⟨x3a, P.s1.grv.length, x3c⟩, ⟨x4a, P.st.length, x4c⟩, ⟨x5a, P.qu.length, x5c⟩, ⟨x6a, P.att.length, x6c⟩, ⟨x7a, P.bl.length, x7c⟩⟩ P), s.val.cell? ⟨w.heap.size, 30, none⟩ = some (.slice x6a P.att.length x6c) := fun s => s.ex.cell 30
  have r31 : ∀ s : KX (w.heap.size) w (w.heap.size) [] (fun W => Px W w.heap.size ⟨⟨x0a, P.s0.fld.length, x0c⟩, ⟨x1a, P.s0.grv.length, x1c⟩, ⟨x2a, P.s1.fld.length, x2c⟩, ⟨x3a, P.s1.grv.length, x3c⟩, ⟨x4a, P.st.length, x4c⟩, ⟨x5a, P.qu.length, x5c⟩, ⟨x6a, P.att.length, x6c⟩, ⟨x7a, P.bl.length, x7c⟩⟩ P), s.val.cell? ⟨w.heap.size, 31, none⟩ = some (.slice x7a P.bl.length x7c) := fun s => s.ex.cell 31
  repeat (go_big_quiet_step (fail))
  refine wpQuiet_nil ?_
  have KH_w31 := Lib.hid K_w31
  have hw_w31 := K_w31.below
  have hz_w31 := K_w31.size
  clear K_w31
  have HE1 := Lib.hid E_w31
  have HF1 := Lib.hid (F_w31)
  clear E_w31 F_w31
  refine ⟨fun K hK0 => ?_, trivial⟩
  have hK := Lib.hid hK0
  clear hK0
  replace HB := Lib.hid KH_w31.out.below
  replace HPX := HE1
  replace HPZ := HF1
  clear HE1 HF1
  go_wp2_with fail
  with_reducible refine (sitems _ _ _ ((HX4.out.below HB.out)) HSM.out.st HSM.out.ts).mono ?_
  rintro e v0 ⟨sx, sy, rfl, ho, hb⟩
  have HOs := Lib.hid (ho.mono (lo' := w.heap.size) (hi' := v0.heap.size) HB.out.size (Nat.le_refl _))
  replace HB := Lib.hid (below_via HB.out hb)
  replace HPX := Lib.hid (HPX.out.below hb)
  replace HPZ := Lib.hid (HPZ.out.below hb)
  clear ho hb
  go_wp2_with fail
  first | (refine ⟨rfl, ⟨⟨_, (⟨HB.out, HB.out.size, by simp⟩ : Kept w.heap.size w (w.heap.size) [] v0), HPX.out⟩, rfl⟩, hK.out _ _ ?_⟩; clear hK K) | (refine ⟨⟨⟨_, (⟨HB.out, HB.out.size, by simp⟩ : Kept w.heap.size w (w.heap.size) [] v0), HPX.out⟩, rfl⟩, hK.out _ _ ?_⟩; clear hK K)
  repeat (go_big_quiet_step (fail))
  refine wpQuiet_nil ?_
  refine ⟨fun K hK0 => ?_, trivial⟩
  have hK := Lib.hid hK0
  clear hK0
  go_wp2_with fail
  with_reducible refine (sitems _ _ _ ((HX5.out.below HB.out)) HSM.out.qu HSM.out.tq).mono ?_
  rintro e v1 ⟨qx, qy, rfl, ho, hb⟩
  have HOq := Lib.hid (ho.mono (lo' := w.heap.size) (hi' := v1.heap.size) HB.out.size (Nat.le_refl _))
  replace HOs := Lib.hid ((HOs.out.below hb).mono (lo' := w.heap.size) (hi' := v1.heap.size) (Nat.le_refl _) hb.size)
  replace HB := Lib.hid (below_via HB.out hb)
  replace HPX := Lib.hid (HPX.out.below hb)
  replace HPZ := Lib.hid (HPZ.out.below hb)
  clear ho hb
  go_wp2_with fail
  first | (refine ⟨rfl, ⟨⟨_, (⟨HB.out, HB.out.size, by simp⟩ : Kept w.heap.size w (w.heap.size) [] v1), HPX.out⟩, rfl⟩, hK.out _ _ ?_⟩; clear hK K) | (refine ⟨⟨⟨_, (⟨HB.out, HB.out.size, by simp⟩ : Kept w.heap.size w (w.heap.size) [] v1), HPX.out⟩, rfl⟩, hK.out _ _ ?_⟩; clear hK K)
  refine ⟨fun K hK0 => ?_, trivial⟩
  have hK := Lib.hid hK0
  clear hK0
  go_wp2_with fail
  with_reducible refine (cloneI _ _ ((HX6.out.below HB.out)) HSM.out.att).mono ?_
  rintro e v2 ⟨ax, ay, rfl, ho, hb⟩
  have HOa := Lib.hid (ho.mono (lo' := w.heap.size) (hi' := v2.heap.size) HB.out.size (Nat.le_refl _))
  replace HOs := Lib.hid ((HOs.out.below hb).mono (lo' := w.heap.size) (hi' := v2.heap.size) (Nat.le_refl _) hb.size)
  replace HOq := Lib.hid ((HOq.out.below hb).mono (lo' := w.heap.size) (hi' := v2.heap.size) (Nat.le_refl _) hb.size)
  replace HB := Lib.hid (below_via HB.out hb)
  replace HPX := Lib.hid (HPX.out.below hb)
  replace HPZ := Lib.hid (HPZ.out.below hb)
  clear ho hb
  go_wp2_with fail
  first | (refine ⟨rfl, ⟨⟨_, (⟨HB.out, HB.out.size, by simp⟩ : Kept w.heap.size w (w.heap.size) [] v2), HPX.out⟩, rfl⟩, hK.out _ _ ?_⟩; clear hK K) | (refine ⟨⟨⟨_, (⟨HB.out, HB.out.size, by simp⟩ : Kept w.heap.size w (w.heap.size) [] v2), HPX.out⟩, rfl⟩, hK.out _ _ ?_⟩; clear hK K)
  refine ⟨fun K hK0 => ?_, trivial⟩
  have hK := Lib.hid hK0
  clear hK0
  go_wp2_with fail
  with_reducible refine (cloneK _ _ ((HX7.out.below HB.out)) HSM.out.bl).mono ?_
  rintro e v3 ⟨bx, byy, rfl, ho, hb⟩
  have HOb := Lib.hid (ho.mono (lo' := w.heap.size) (hi' := v3.heap.size) HB.out.size (Nat.le_refl _))
  replace HOs := Lib.hid ((HOs.out.below hb).mono (lo' := w.heap.size) (hi' := v3.heap.size) (Nat.le_refl _) hb.size)
  replace HOq := Lib.hid ((HOq.out.below hb).mono (lo' := w.heap.size) (hi' := v3.heap.size) (Nat.le_refl _) hb.size)
  replace HOa := Lib.hid ((HOa.out.below hb).mono (lo' := w.heap.size) (hi' := v3.heap.size) (Nat.le_refl _) hb.size)
  replace HB := Lib.hid (below_via HB.out hb)
  replace HPX := Lib.hid (HPX.out.below hb)
  replace HPZ := Lib.hid (HPZ.out.below hb)
  clear ho hb
  go_wp2_with fail
  first | (refine ⟨rfl, hK.out _ _ ?_⟩; clear hK K) | (refine hK.out _ _ ?_; clear hK K)
  refine ⟨fun K hK0 => ?_, trivial⟩
  have hK := Lib.hid hK0
  clear hK0
  have cc : v3.cell? ⟨w.heap.size, 28, none⟩ = (pcells ⟨⟨x0a, P.s0.fld.length, x0c⟩, ⟨x1a, P.s0.grv.length, x1c⟩, ⟨x2a, P.s1.fld.length, x2c⟩, ⟨x3a, P.s1.grv.length, x3c⟩, ⟨x4a, P.st.length, x4c⟩, ⟨x5a, P.qu.length, x5c⟩, ⟨x6a, P.att.length, x6c⟩, ⟨x7a, P.bl.length, x7c⟩⟩ P)[28]? := HPX.out.cell _
  have fc : v3.frozen? ⟨w.heap.size, 28, none⟩ = false := HPX.out.free _
  go_wp2_with fail
  clear cc fc
  obtain ⟨v4, hV⟩ : ∃ X, X = v3.setCell ⟨w.heap.size, 28, none⟩ (.slice sx P.st.length sy) := ⟨_, rfl⟩
  rw [← hV]
  have ho : Onl [w.heap.size] v3 v4 := by rw [hV]; exact Onl.setCell (Onl.refl _ _) (.inl (by simp)) _
  replace HOs := Lib.hid ((HOs.out.onlT ho HPX.out (by decide) (by decide)).mono (lo' := w.heap.size) (hi' := v4.heap.size) (Nat.le_refl _) ho.size)
  replace HOq := Lib.hid ((HOq.out.onlT ho HPX.out (by decide) (by decide)).mono (lo' := w.heap.size) (hi' := v4.heap.size) (Nat.le_refl _) ho.size)
  replace HOa := Lib.hid ((HOa.out.onlT ho HPX.out (by decide)).mono (lo' := w.heap.size) (hi' := v4.heap.size) (Nat.le_refl _) ho.size)
  replace HOb := Lib.hid ((HOb.out.onlT ho HPX.out (by decide)).mono (lo' := w.heap.size) (hi' := v4.heap.size) (Nat.le_refl _) ho.size)
  replace HB : Hid (Below w.heap.size w v4) := Lib.hid (belowOnl HB.out ho (by simp) HB.out.size)
  replace HPZ : Hid (Px v4 (w.heap.size + 1) nilPs zeroPu) := Lib.hid (HPZ.out.onl ho (by simp))
  replace HPX : Hid (Px v4 w.heap.size ⟨⟨x0a, P.s0.fld.length, x0c⟩, ⟨x1a, P.s0.grv.length, x1c⟩, ⟨x2a, P.s1.fld.length, x2c⟩, ⟨x3a, P.s1.grv.length, x3c⟩, ⟨sx, P.st.length, sy⟩, ⟨x5a, P.qu.length, x5c⟩, ⟨x6a, P.att.length, x6c⟩, ⟨x7a, P.bl.length, x7c⟩⟩ P) := Lib.hid (by rw [hV]; exact Px.put HPX.out _ _ rfl)
  clear hV ho
  first | (refine ⟨rfl, hK.out _ _ ?_⟩; clear hK K) | (refine hK.out _ _ ?_; clear hK K)
  repeat (go_big_quiet_step (fail))
  refine wpQuiet_nil ?_
  refine ⟨fun K hK0 => ?_, trivial⟩
  have hK := Lib.hid hK0
  clear hK0
  have cc : v4.cell? ⟨w.heap.size, 29, none⟩ = (pcells ⟨⟨x0a, P.s0.fld.length, x0c⟩, ⟨x1a, P.s0.grv.length, x1c⟩, ⟨x2a, P.s1.fld.length, x2c⟩, ⟨x3a, P.s1.grv.length, x3c⟩, ⟨sx, P.st.length, sy⟩, ⟨x5a, P.qu.length, x5c⟩, ⟨x6a, P.att.length, x6c⟩, ⟨x7a, P.bl.length, x7c⟩⟩ P)[29]? := HPX.out.cell _
  have fc : v4.frozen? ⟨w.heap.size, 29, none⟩ = false := HPX.out.free _
  go_wp2_with fail
  clear cc fc
  obtain ⟨v5, hV⟩ : ∃ X, X = v4.setCell ⟨w.heap.size, 29, none⟩ (.slice qx P.qu.length qy) := ⟨_, rfl⟩
  rw [← hV]
  have ho : Onl [w.heap.size] v4 v5 := by rw [hV]; exact Onl.setCell (Onl.refl _ _) (.inl (by simp)) _
  replace HOs := Lib.hid ((HOs.out.onlT ho HPX.out (by decide) (by decide)).mono (lo' := w.heap.size) (hi' := v5.heap.size) (Nat.le_refl _) ho.size)
  replace HOq := Lib.hid ((HOq.out.onlT ho HPX.out (by decide) (by decide)).mono (lo' := w.heap.size) (hi' := v5.heap.size) (Nat.le_refl _) ho.size)
  replace HOa := Lib.hid ((HOa.out.onlT ho HPX.out (by decide)).mono (lo' := w.heap.size) (hi' := v5.heap.size) (Nat.le_refl _) ho.size)
  replace HOb := Lib.hid ((HOb.out.onlT ho HPX.out (by decide)).mono (lo' := w.heap.size) (hi' := v5.heap.size) (Nat.le_refl _) ho.size)
  replace HB : Hid (Below w.heap.size w v5) := Lib.hid (belowOnl HB.out ho (by simp) HB.out.size)
  replace HPZ : Hid (Px v5 (w.heap.size + 1) nilPs zeroPu) := Lib.hid (HPZ.out.onl ho (by simp))
  replace HPX : Hid (Px v5 w.heap.size ⟨⟨x0a, P.s0.fld.length, x0c⟩, ⟨x1a, P.s0.grv.length, x1c⟩, ⟨x2a, P.s1.fld.length, x2c⟩, ⟨x3a, P.s1.grv.length, x3c⟩, ⟨sx, P.st.length, sy⟩, ⟨qx, P.qu.length, qy⟩, ⟨x6a, P.att.length, x6c⟩, ⟨x7a, P.bl.length, x7c⟩⟩ P) := Lib.hid (by rw [hV]; exact Px.put HPX.out _ _ rfl)
  clear hV ho
  first | (refine ⟨rfl, hK.out _ _ ?_⟩; clear hK K) | (refine hK.out _ _ ?_; clear hK K)
  repeat (go_big_quiet_step (fail))
  refine wpQuiet_nil ?_
  refine ⟨fun K hK0 => ?_, trivial⟩
  have hK := Lib.hid hK0
  clear hK0
  have cc : v5.cell? ⟨w.heap.size, 30, none⟩ = (pcells ⟨⟨x0a, P.s0.fld.length, x0c⟩, ⟨x1a, P.s0.grv.length, x1c⟩, ⟨x2a, P.s1.fld.length, x2c⟩, ⟨x3a, P.s1.grv.length, x3c⟩, ⟨sx, P.st.length, sy⟩, ⟨qx, P.qu.length, qy⟩, ⟨x6a, P.att.length, x6c⟩, ⟨x7a, P.bl.length, x7c⟩⟩ P)[30]? := HPX.out.cell _
  have fc : v5.frozen? ⟨w.heap.size, 30, none⟩ = false := HPX.out.free _
  go_wp2_with fail
  clear cc fc
  obtain ⟨v6, hV⟩ : ∃ X, X = v5.setCell ⟨w.heap.size, 30, none⟩ (.slice ax P.att.length ay) := ⟨_, rfl⟩
  rw [← hV]
  have ho : Onl [w.heap.size] v5 v6 := by rw [hV]; exact Onl.setCell (Onl.refl _ _) (.inl (by simp)) _
  replace HOs := Lib.hid ((HOs.out.onlT ho HPX.out (by decide) (by decide)).mono (lo' := w.heap.size) (hi' := v6.heap.size) (Nat.le_refl _) ho.size)
  replace HOq := Lib.hid ((HOq.out.onlT ho HPX.out (by decide) (by decide)).mono (lo' := w.heap.size) (hi' := v6.heap.size) (Nat.le_refl _) ho.size)
  replace HOa := Lib.hid ((HOa.out.onlT ho HPX.out (by decide)).mono (lo' := w.heap.size) (hi' := v6.heap.size) (Nat.le_refl _) ho.size)
  replace HOb := Lib.hid ((HOb.out.onlT ho HPX.out (by decide)).mono (lo' := w.heap.size) (hi' := v6.heap.size) (Nat.le_refl _) ho.size)
  replace HB : Hid (Below w.heap.size w v6) := Lib.hid (belowOnl HB.out ho (by simp) HB.out.size)
  replace HPZ : Hid (Px v6 (w.heap.size + 1) nilPs zeroPu) := Lib.hid (HPZ.out.onl ho (by simp))
  replace HPX : Hid (Px v6 w.heap.size ⟨⟨x0a, P.s0.fld.length, x0c⟩, ⟨x1a, P.s0.grv.length, x1c⟩, ⟨x2a, P.s1.fld.length, x2c⟩, ⟨x3a, P.s1.grv.length, x3c⟩, ⟨sx, P.st.length, sy⟩, ⟨qx, P.qu.length, qy⟩, ⟨ax, P.att.length, ay⟩, ⟨x7a, P.bl.length, x7c⟩⟩ P) := Lib.hid (by rw [hV]; exact Px.put HPX.out _ _ rfl)
  clear hV ho
  first | (refine ⟨rfl, hK.out _ _ ?_⟩; clear hK K) | (refine hK.out _ _ ?_; clear hK K)
  repeat (go_big_quiet_step (fail))
  refine wpQuiet_nil ?_
  refine ⟨fun K hK0 => ?_, trivial⟩
  have hK := Lib.hid hK0
  clear hK0
  have cc : v6.cell? ⟨w.heap.size, 31, none⟩ = (pcells ⟨⟨x0a, P.s0.fld.length, x0c⟩, ⟨x1a, P.s0.grv.length, x1c⟩, ⟨x2a, P.s1.fld.length, x2c⟩, ⟨x3a, P.s1.grv.length, x3c⟩, ⟨sx, P.st.length, sy⟩, ⟨qx, P.qu.length, qy⟩, ⟨ax, P.att.length, ay⟩, ⟨x7a, P.bl.length, x7c⟩⟩ P)[31]? := HPX.out.cell _
  have fc : v6.frozen? ⟨w.heap.size, 31, none⟩ = false := HPX.out.free _
  go_wp2_with fail
  clear cc fc
  obtain ⟨v7, hV⟩ : ∃ X, X = v6.setCell ⟨w.heap.size, 31, none⟩ (.slice bx P.bl.length byy) := ⟨_, rfl⟩
  rw [← hV]
  have ho : Onl [w.heap.size] v6 v7 := by rw [hV]; exact Onl.setCell (Onl.refl _ _) (.inl (by simp)) _
  replace HOs := Lib.hid ((HOs.out.onlT ho HPX.out (by decide) (by decide)).mono (lo' := w.heap.size) (hi' := v7.heap.size) (Nat.le_refl _) ho.size)
  replace HOq := Lib.hid ((HOq.out.onlT ho HPX.out (by decide) (by decide)).mono (lo' := w.heap.size) (hi' := v7.heap.size) (Nat.le_refl _) ho.size)
  replace HOa := Lib.hid ((HOa.out.onlT ho HPX.out (by decide)).mono (lo' := w.heap.size) (hi' := v7.heap.size) (Nat.le_refl _) ho.size)
  replace HOb := Lib.hid ((HOb.out.onlT ho HPX.out (by decide)).mono (lo' := w.heap.size) (hi' := v7.heap.size) (Nat.le_refl _) ho.size)
  replace HB : Hid (Below w.heap.size w v7) := Lib.hid (belowOnl HB.out ho (by simp) HB.out.size)
  replace HPZ : Hid (Px v7 (w.heap.size + 1) nilPs zeroPu) := Lib.hid (HPZ.out.onl ho (by simp))
  replace HPX : Hid (Px v7 w.heap.size ⟨⟨x0a, P.s0.fld.length, x0c⟩, ⟨x1a, P.s0.grv.length, x1c⟩, ⟨x2a, P.s1.fld.length, x2c⟩, ⟨x3a, P.s1.grv.length, x3c⟩, ⟨sx, P.st.length, sy⟩, ⟨qx, P.qu.length, qy⟩, ⟨ax, P.att.length, ay⟩, ⟨bx, P.bl.length, byy⟩⟩ P) := Lib.hid (by rw [hV]; exact Px.put HPX.out _ _ rfl)
  clear hV ho
  first | (refine ⟨rfl, hK.out _ _ ?_⟩; clear hK K) | (refine hK.out _ _ ?_; clear hK K)
  clear r28 r29 r30 r31
  clear _ne
  go_wp2_with fail
  go_loopw [20] (fun i wr => CpL w ⟨⟨x0a, P.s0.fld.length, x0c⟩, ⟨x1a, P.s0.grv.length, x1c⟩, ⟨x2a, P.s1.fld.length, x2c⟩, ⟨x3a, P.s1.grv.length, x3c⟩, ⟨x4a, P.st.length, x4c⟩, ⟨x5a, P.qu.length, x5c⟩, ⟨x6a, P.att.length, x6c⟩, ⟨x7a, P.bl.length, x7c⟩⟩ P i wr) (fun i _ => 2 - (intOf i).toNat)
  case atStart => exact ⟨0, by omega, rfl, HB.out, HPZ.out, _, HPX.out, fun q _ _ => ⟨by unfold Ps.fs; rfl, by unfold Ps.gs; rfl⟩, fun q h => by omega, HOs.out, HOq.out, HOa.out, HOb.out⟩
  case round =>
    clear HB HPZ HPX HOs HOq HOa HOb
    obtain ⟨n, hn, rfl, hb, hpz, sp, hpx, hrest, hdn, hs, hq, ha, hbk⟩ := hrel
    have HB := Lib.hid hb
    have HPZ := Lib.hid hpz
    have HPX := Lib.hid hpx
    have HRE := Lib.hid hrest
    have HDN : Hid (DnL w P sp n wr) := Lib.hid hdn
    have HOs := Lib.hid (hs : ItO w.heap.size wr.heap.size wr sp.st.v P.st)
    have HOq := Lib.hid (hq : ItO w.heap.size wr.heap.size wr sp.qu.v P.qu)
    have HOa := Lib.hid ha
    have HOb := Lib.hid hbk
    clear hb hpz hpx hrest hdn hs hq ha hbk
    by_cases hn2 : n < 2
    · obtain ⟨x, hx⟩ : ∃ S, P.seat n = S := ⟨_, rfl⟩
      obtain ⟨⟨pa, pn, pc⟩, ep⟩ : ∃ q, sp.fs n = q := ⟨_, rfl⟩
      obtain ⟨⟨qa, qn, qc⟩, eq⟩ : ∃ q, sp.gs n = q := ⟨_, rfl⟩
      have hs1 := HP.out.seat n
      rw [← (HRE.out n hn2 (Nat.le_refl _)).1, ← (HRE.out n hn2 (Nat.le_refl _)).2, ep, eq, hx] at hs1
      have z1 : pn = x.fld.length := rw_len hs1.1
      have z2 : qn = x.grv.length := rw_len hs1.2
      subst z1 z2
      have HT : Hid (Rw oc 12 w (.slice pa x.fld.length pc) x.fld ∧ Rw oc 12 w (.slice qa x.grv.length qc) x.grv) := Lib.hid hs1
      have HSZ : Hid (x.fld.length ≤ 1000 ∧ x.grv.length ≤ 1000) := Lib.hid (by rw [← hx]; exact HSM.out.seat n)
      have HSX := Lib.hid hx
      have HEF : Hid (sp.fs n = ⟨pa, x.fld.length, pc⟩) := Lib.hid ep
      have HEG : Hid (sp.gs n = ⟨qa, x.grv.length, qc⟩) := Lib.hid eq
      have i1 : (0 : Int) ≤ (n : Int) := by omega
      have i2 : (n : Int) < 2 := by omega
      have KH0 := Lib.hid (⟨HB.out, HB.out.size, by simp⟩ : Kept w.heap.size w (w.heap.size) [] wr)
      clear hs1 hx ep eq
      go_upto_region 5 with fail
      refine rg34_5 (w0 := w) (B := w.heap.size) (n := w.heap.size) (L := []) (E := fun W => Px W w.heap.size sp P) (F := fun W => Below wr.heap.size wr W) (by kernel_rfl) (by kernel_rfl) (KH0.out.step (by omega) (by go_grown)) HPX.out (fun _ _ h hb => h.below hb) (Below.refl _ _) (fun _ _ h hb => below_via h hb) (fun w61 K_w61 E_w61 F_w61 => ?_)
      have _ne : Nonempty (KX (w.heap.size) w (w.heap.size) [] (fun W => Px W w.heap.size sp P)) := ⟨⟨_, K_w61, E_w61⟩⟩
      repeat (go_big_quiet_step (fail))
      refine wpQuiet_nil ?_
      have r7 : ∀ s : KX (w.heap.size) w (w.heap.size) [] (fun W => Px W w.heap.size sp P), s.val.cell? ⟨w.heap.size, n * 14 + 7, none⟩ = some (.slice pa x.fld.length pc) := fun s => (s.ex.seatAt hn2 HSX.out HEF.out HEG.out) 7 _ rfl
      have r8 : ∀ s : KX (w.heap.size) w (w.heap.size) [] (fun W => Px W w.heap.size sp P), s.val.cell? ⟨w.heap.size, n * 14 + 8, none⟩ = some (.slice qa x.grv.length qc) := fun s => (s.ex.seatAt hn2 HSX.out HEF.out HEG.out) 8 _ rfl
      repeat (go_big_quiet_step (fail))
      refine wpQuiet_nil ?_
      have KH_w61 := Lib.hid K_w61
      have hw_w61 := K_w61.below
      have hz_w61 := K_w61.size
      clear K_w61
      have HE1 := Lib.hid E_w61
      have HG1 := Lib.hid (F_w61)
      clear E_w61 F_w61
      refine ⟨fun K hK0 => ?_, trivial⟩
      have hK := Lib.hid hK0
      clear hK0
      have hb : Below wr.heap.size wr w61 := HG1.out
      replace HOs := Lib.hid ((HOs.out.below hb).mono (lo' := w.heap.size) (hi' := w61.heap.size) (Nat.le_refl _) hb.size)
      replace HOq := Lib.hid ((HOq.out.below hb).mono (lo' := w.heap.size) (hi' := w61.heap.size) (Nat.le_refl _) hb.size)
      replace HOa := Lib.hid ((HOa.out.below hb).mono (lo' := w.heap.size) (hi' := w61.heap.size) (Nat.le_refl _) hb.size)
      replace HOb := Lib.hid ((HOb.out.below hb).mono (lo' := w.heap.size) (hi' := w61.heap.size) (Nat.le_refl _) hb.size)
      replace HDN := Lib.hid (DnL.below HDN.out hb)
      replace HB := Lib.hid (below_via HB.out hb)
      replace HPX := HE1
      replace HPZ := Lib.hid (HPZ.out.below hb)
      clear HE1 HG1 hb
      go_wp2_with fail
      with_reducible refine (cloneO (l := x.fld) (.slice pa x.fld.length pc) _ (HT.out.1.below HB.out) HSZ.out.1).mono ?_
      rintro e y0 ⟨fx, fy, rfl, ho, hb⟩
      have HOf := Lib.hid (ho.mono (lo' := w.heap.size) (hi' := y0.heap.size) HB.out.size (Nat.le_refl _))
      replace HOs := Lib.hid ((HOs.out.below hb).mono (lo' := w.heap.size) (hi' := y0.heap.size) (Nat.le_refl _) hb.size)
      replace HOq := Lib.hid ((HOq.out.below hb).mono (lo' := w.heap.size) (hi' := y0.heap.size) (Nat.le_refl _) hb.size)
      replace HOa := Lib.hid ((HOa.out.below hb).mono (lo' := w.heap.size) (hi' := y0.heap.size) (Nat.le_refl _) hb.size)
      replace HOb := Lib.hid ((HOb.out.below hb).mono (lo' := w.heap.size) (hi' := y0.heap.size) (Nat.le_refl _) hb.size)
      replace HDN := Lib.hid (DnL.below HDN.out hb)
      replace HB := Lib.hid (below_via HB.out hb)
      replace HPX := Lib.hid (HPX.out.below hb)
      replace HPZ := Lib.hid (HPZ.out.below hb)
      clear ho hb
      go_wp2_with fail
      first | (refine ⟨rfl, ⟨⟨_, (⟨HB.out, HB.out.size, by simp⟩ : Kept w.heap.size w (w.heap.size) [] y0), HPX.out⟩, rfl⟩, hK.out _ _ ?_⟩; clear hK K) | (refine ⟨⟨⟨_, (⟨HB.out, HB.out.size, by simp⟩ : Kept w.heap.size w (w.heap.size) [] y0), HPX.out⟩, rfl⟩, hK.out _ _ ?_⟩; clear hK K)
      repeat (go_big_quiet_step (fail))
      refine wpQuiet_nil ?_
      refine ⟨fun K hK0 => ?_, trivial⟩
      have hK := Lib.hid hK0
      clear hK0
      go_wp2_with fail
      with_reducible refine (cloneO (l := x.grv) (.slice qa x.grv.length qc) _ (HT.out.2.below HB.out) HSZ.out.2).mono ?_
      rintro e y1 ⟨gx, gy, rfl, ho, hb⟩
      have HOg := Lib.hid (ho.mono (lo' := w.heap.size) (hi' := y1.heap.size) HB.out.size (Nat.le_refl _))
      replace HOs := Lib.hid ((HOs.out.below hb).mono (lo' := w.heap.size) (hi' := y1.heap.size) (Nat.le_refl _) hb.size)
      replace HOq := Lib.hid ((HOq.out.below hb).mono (lo' := w.heap.size) (hi' := y1.heap.size) (Nat.le_refl _) hb.size)
      replace HOa := Lib.hid ((HOa.out.below hb).mono (lo' := w.heap.size) (hi' := y1.heap.size) (Nat.le_refl _) hb.size)
      replace HOb := Lib.hid ((HOb.out.below hb).mono (lo' := w.heap.size) (hi' := y1.heap.size) (Nat.le_refl _) hb.size)
      replace HOf := Lib.hid ((HOf.out.below hb).mono (lo' := w.heap.size) (hi' := y1.heap.size) (Nat.le_refl _) hb.size)
      replace HDN := Lib.hid (DnL.below HDN.out hb)
      replace HB := Lib.hid (below_via HB.out hb)
      replace HPX := Lib.hid (HPX.out.below hb)
      replace HPZ := Lib.hid (HPZ.out.below hb)
      clear ho hb
      go_wp2_with fail
      first | (refine ⟨rfl, hK.out _ _ ?_⟩; clear hK K) | (refine hK.out _ _ ?_; clear hK K)
      refine ⟨fun K hK0 => ?_, trivial⟩
      have hK := Lib.hid hK0
      clear hK0
      have cc : y1.cell? ⟨w.heap.size, n * 14 + 7, none⟩ = some (.slice pa x.fld.length pc) := (HPX.out.seatAt hn2 HSX.out HEF.out HEG.out) 7 _ rfl
      have fc : y1.frozen? ⟨w.heap.size, n * 14 + 7, none⟩ = false := HPX.out.free _
      go_wp2_with fail
      clear cc fc
      obtain ⟨y2, hV⟩ : ∃ X, X = y1.setCell ⟨w.heap.size, n * 14 + 7, none⟩ (.slice fx x.fld.length fy) := ⟨_, rfl⟩
      rw [← hV]
      have HCC : Hid (y2.cell? ⟨w.heap.size, n * 14 + 8, none⟩ = some (.slice qa x.grv.length qc)) := Lib.hid (by rw [hV, World.cell?_setCell_other _ _ _ _ (by intro e; simp at e)]; exact (HPX.out.seatAt hn2 HSX.out HEF.out HEG.out) 8 _ rfl)
      have HFC : Hid (y2.frozen? ⟨w.heap.size, n * 14 + 8, none⟩ = false) := Lib.hid (by rw [hV, World.frozen?_setCell]; exact HPX.out.free _)
      have HV1 := Lib.hid hV
      clear hV
      first | (refine ⟨rfl, hK.out _ _ ?_⟩; clear hK K) | (refine hK.out _ _ ?_; clear hK K)
      repeat (go_big_quiet_step (fail))
      refine wpQuiet_nil ?_
      refine ⟨fun K hK0 => ?_, trivial⟩
      have hK := Lib.hid hK0
      clear hK0
      have cc : y2.cell? ⟨w.heap.size, n * 14 + 8, none⟩ = some (.slice qa x.grv.length qc) := HCC.out
      have fc : y2.frozen? ⟨w.heap.size, n * 14 + 8, none⟩ = false := HFC.out
      go_wp2_with fail
      clear cc fc
      obtain ⟨y3, hV⟩ : ∃ X, X = y2.setCell ⟨w.heap.size, n * 14 + 8, none⟩ (.slice gx x.grv.length gy) := ⟨_, rfl⟩
      rw [← hV]
      have hpy : Px y3 w.heap.size (sp.setS n ⟨fx, x.fld.length, fy⟩ ⟨gx, x.grv.length, gy⟩) P := by rw [hV, HV1.out]; exact HPX.out.fg hn2 ⟨fx, x.fld.length, fy⟩ ⟨gx, x.grv.length, gy⟩
      have ho : Onl [w.heap.size] y1 y3 := by rw [hV, HV1.out]; exact (Onl.setCell (Onl.refl _ _) (.inl (by simp)) _ : Onl [w.heap.size] _ _).setCell (.inl (by simp)) _
      replace HOs := Lib.hid ((HOs.out.onlT ho HPX.out (by decide) (by decide)).mono (lo' := w.heap.size) (hi' := y3.heap.size) (Nat.le_refl _) ho.size)
      replace HOq := Lib.hid ((HOq.out.onlT ho HPX.out (by decide) (by decide)).mono (lo' := w.heap.size) (hi' := y3.heap.size) (Nat.le_refl _) ho.size)
      replace HOa := Lib.hid ((HOa.out.onlT ho HPX.out (by decide)).mono (lo' := w.heap.size) (hi' := y3.heap.size) (Nat.le_refl _) ho.size)
      replace HOb := Lib.hid ((HOb.out.onlT ho HPX.out (by decide)).mono (lo' := w.heap.size) (hi' := y3.heap.size) (Nat.le_refl _) ho.size)
      replace HOf := Lib.hid ((HOf.out.onlT ho HPX.out (by decide)).mono (lo' := w.heap.size) (hi' := y3.heap.size) (Nat.le_refl _) ho.size)
      replace HOg := Lib.hid ((HOg.out.onlT ho HPX.out (by decide)).mono (lo' := w.heap.size) (hi' := y3.heap.size) (Nat.le_refl _) ho.size)
      replace HDN := Lib.hid (DnL.onlT HDN.out ho HPX.out)
      replace HB : Hid (Below w.heap.size w y3) := Lib.hid (belowOnl HB.out ho (by simp) HB.out.size)
      replace HPZ : Hid (Px y3 (w.heap.size + 1) nilPs zeroPu) := Lib.hid (HPZ.out.onl ho (by simp))
      replace HPX := Lib.hid hpy
      clear hV HV1 HCC HFC ho hpy
      first | (refine ⟨rfl, hK.out _ _ ?_⟩; clear hK K) | (refine hK.out _ _ ?_; clear hK K)
      clear r7 r8
      clear _ne
      go_wp2_with fail
      go_roundw
      case rel =>
        have hr := setS_rest sp ⟨fx, x.fld.length, fy⟩ ⟨gx, x.grv.length, gy⟩ n
        refine ⟨n + 1, by omega, by go_num, HB.out, HPZ.out, _, HPX.out, fun q h1 h2 => ?_, DnL.next HDN.out hn2 (by rw [HSX.out]; exact HOf.out) (by rw [HSX.out]; exact HOg.out), by rw [hr.1]; exact HOs.out, by rw [hr.2.1]; exact HOq.out, by rw [hr.2.2.1]; exact HOa.out, by rw [hr.2.2.2]; exact HOb.out⟩
        have e := setS_fs sp ⟨fx, x.fld.length, fy⟩ ⟨gx, x.grv.length, gy⟩ hn2 h1
        rw [e.1, e.2, if_neg (by omega), if_neg (by omega)]
        exact HRE.out q h1 (by omega)
      case measure => simp [intOf]; omega
    · obtain rfl : n = 2 := by omega
      rw [show ((2 : Nat) : Int) = 2 from rfl]
      clear hn hn2 HRE
      go_wp2_with (first | (refine wpList_load_px _ rfl rfl HPX.out (by kernel_rfl) ?_) | (refine wpList_store_ph (s := sp) (P := P) rfl _ _ rfl rfl rfl HPZ.out rfl ?_; intro w9 hw9))
      have hg9 : Px w9 (w.heap.size + 1) sp P := by rw [hw9.out]; exact Px.row HPZ.out _ _
      have ho9 : Onl [w.heap.size + 1] wr w9 := by rw [hw9.out]; exact Onl.setRow (Onl.refl _ _) (.inl (by simp)) _
      have hb9 : Below w.heap.size w w9 := belowOnl HB.out ho9 (by simp) HB.out.size
      have HG9 := Lib.hid hg9
      have hoo : PuO w.heap.size w9.heap.size w9 sp P := (PuO.onlT ⟨(HDN.out 0 (by omega)).1, (HDN.out 0 (by omega)).2, (HDN.out 1 (by omega)).1, (HDN.out 1 (by omega)).2, HOs.out, HOq.out, HOa.out, HOb.out⟩ ho9 HPZ.out (by decide)).mono (Nat.le_refl _) ho9.size
      have HPOST : Hid (PcA w P (.returned (pv sp P)) w9) := Lib.hid ⟨sp, rfl, hoo, hb9⟩
      clear hw9 hg9 ho9 hb9 hoo
      go_wp2_with fail
      exact bodyPost_ret (v := pv sp P) (results_p0 Try.results34 _ _ HG9.out rfl) rfl HPOST.out
end Go.Proofs.Yteoeahmnonolmaa
