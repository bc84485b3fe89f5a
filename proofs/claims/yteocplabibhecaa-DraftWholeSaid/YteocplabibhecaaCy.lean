/- Copy. -/
import Derived.Test.YteocplabibhecaaNw
import Derived.Test.YteocplabibhecaaTk
import Derived.Test.YteocplabibhecaaPb
import Derived.Deep.OwnRows
import Derived.Deep.DeepCutAuto
namespace Go.Proofs.Yteocplabibhecaa
open Go.RowKit Plain
set_option linter.unusedVariables false
set_option linter.unusedSimpArgs false

theorem rg25_3 {P : Program} {B n : Nat} {w0 : World} {L : List (Nat × Nat × Value)} {E F : World → Prop} {id : Nat} {Q : Exit → Act → World → Prop} {a : Act} {w : World} {o0 o1 o2 o3 o4 o5 o6 o7 o8 o9 o10 o11 o12 o13 o14 o15 o16 o17 o18 o19 o20 o21 o22 o23 o24 o25 o26 : Oper} (hm : P.follows .mixedOrders = true)
    (hB : (Region.noSelect [o0, o1, o2, o3, o4, o5, o6, o7, o8, o9, o10, o11, o12, o13, o14, o15, o16, o17, o18, o19, o20, o21, o22, o23, o24, o25, o26].toArray && Scr.ok .any [o0, o1, o2, o3, o4, o5, o6, o7, o8, o9, o10, o11, o12, o13, o14, o15, o16, o17, o18, o19, o20, o21, o22, o23, o24, o25, o26].toArray [3, 8, 14, 19, 23] [0, 1, 2, 5, 6, 7, 9, 11, 12, 13, 16, 17, 18, 20, 21, 22, 24, 26] (.free 0 (.free 1 (.free 2 (.free 5 (.free 6 (.free 7 (.free 11 (.free 12 (.free 13 (.free 16 (.free 17 (.free 18 (.free 20 (.free 21 (.free 22 (.read 3 (.read 8 (.free 9 (.read 14 (.read 19 (.read 23 (.alt 4 (.alt 10 (.alt 15 (.free 24 (.altc 25 (.free 26 .done) .stop)) .stop) (.alt 15 (.alt 10 (.free 24 (.altc 25 (.free 26 .done) .stop)) .stop) .stop)) (.alt 10 (.alt 4 (.alt 15 (.free 24 (.altc 25 (.free 26 .done) .stop)) .stop) .stop) .stop))))))))))))))))))))))) true true [o0, o1, o2, o3, o4, o5, o6, o7, o8, o9, o10, o11, o12, o13, o14, o15, o16, o17, o18, o19, o20, o21, o22, o23, o24, o25, o26].toArray.size (Array.replicate [o0, o1, o2, o3, o4, o5, o6, o7, o8, o9, o10, o11, o12, o13, o14, o15, o16, o17, o18, o19, o20, o21, o22, o23, o24, o25, o26].toArray.size false)) = true)
    (k : Kept B w0 n L w) (he : E w) (hE : ∀ W W', E W → Below W.heap.size W W' → E W') (hf : F w) (hF : ∀ W W', F W → Below W.heap.size W W' → F W')
    (h : ∀ wk, Kept B w0 n L wk → E wk → F wk → wpQuiet P [o0, o1, o2, o3, o4, o5, o6, o7, o8, o9, o10, o11, o12, o13, o14, o15, o16, o17, o18, o19, o20, o21, o22, o23, o24, o25, o26].toArray (fun _ => True) (fun a0 => wpQuiet P [o0, o1, o2, o3, o4, o5, o6, o7, o8, o9, o10, o11, o12, o13, o14, o15, o16, o17, o18, o19, o20, o21, o22, o23, o24, o25, o26].toArray (fun w' => ∃ s : KX B w0 n L E, w' = s.val) (fun a1 => wpQuiet P [o0, o1, o2, o3, o4, o5, o6, o7, o8, o9, o10, o11, o12, o13, o14, o15, o16, o17, o18, o19, o20, o21, o22, o23, o24, o25, o26].toArray (fun _ => True) (fun a2 => wpQuiet P [o0, o1, o2, o3, o4, o5, o6, o7, o8, o9, o10, o11, o12, o13, o14, o15, o16, o17, o18, o19, o20, o21, o22, o23, o24, o25, o26].toArray (fun w' => ∃ s : KX B w0 n L E, w' = s.val) (fun a3 => ((∀ K4 : Act → World → Prop, (∀ a4 w4, ((∀ K5 : Act → World → Prop, (∀ a5 w5, ((∀ K6 : Act → World → Prop, (∀ a6 w6, wpQuiet P [o0, o1, o2, o3, o4, o5, o6, o7, o8, o9, o10, o11, o12, o13, o14, o15, o16, o17, o18, o19, o20, o21, o22, o23, o24, o25, o26].toArray (fun _ => True) (fun a7 => ((∀ K8 : Act → World → Prop, (∀ a8 w8, wpQuiet P [o0, o1, o2, o3, o4, o5, o6, o7, o8, o9, o10, o11, o12, o13, o14, o15, o16, o17, o18, o19, o20, o21, o22, o23, o24, o25, o26].toArray (fun _ => True) (fun a9 => Q .normal a9 w8) [o26] a8 → K8 a8 w8) → wpList P [o0, o1, o2, o3, o4, o5, o6, o7, o8, o9, o10, o11, o12, o13, o14, o15, o16, o17, o18, o19, o20, o21, o22, o23, o24, o25, o26].toArray (fun e a8 w8 => e = .normal ∧ K8 a8 w8) [o25] a7 w6) ∧ True)) [o24] a6 → K6 a6 w6) → wpList P [o0, o1, o2, o3, o4, o5, o6, o7, o8, o9, o10, o11, o12, o13, o14, o15, o16, o17, o18, o19, o20, o21, o22, o23, o24, o25, o26].toArray (fun e a6 w6 => e = .normal ∧ (∃ s : KX B w0 n L E, w6 = s.val) ∧ K6 a6 w6) [o15] a5 w5) ∧ True) → K5 a5 w5) → wpList P [o0, o1, o2, o3, o4, o5, o6, o7, o8, o9, o10, o11, o12, o13, o14, o15, o16, o17, o18, o19, o20, o21, o22, o23, o24, o25, o26].toArray (fun e a5 w5 => e = .normal ∧ (∃ s : KX B w0 n L E, w5 = s.val) ∧ K5 a5 w5) [o10] a4 w4) ∧ (∀ K5 : Act → World → Prop, (∀ a5 w5, ((∀ K6 : Act → World → Prop, (∀ a6 w6, wpQuiet P [o0, o1, o2, o3, o4, o5, o6, o7, o8, o9, o10, o11, o12, o13, o14, o15, o16, o17, o18, o19, o20, o21, o22, o23, o24, o25, o26].toArray (fun _ => True) (fun a7 => ((∀ K8 : Act → World → Prop, (∀ a8 w8, wpQuiet P [o0, o1, o2, o3, o4, o5, o6, o7, o8, o9, o10, o11, o12, o13, o14, o15, o16, o17, o18, o19, o20, o21, o22, o23, o24, o25, o26].toArray (fun _ => True) (fun a9 => Q .normal a9 w8) [o26] a8 → K8 a8 w8) → wpList P [o0, o1, o2, o3, o4, o5, o6, o7, o8, o9, o10, o11, o12, o13, o14, o15, o16, o17, o18, o19, o20, o21, o22, o23, o24, o25, o26].toArray (fun e a8 w8 => e = .normal ∧ K8 a8 w8) [o25] a7 w6) ∧ True)) [o24] a6 → K6 a6 w6) → wpList P [o0, o1, o2, o3, o4, o5, o6, o7, o8, o9, o10, o11, o12, o13, o14, o15, o16, o17, o18, o19, o20, o21, o22, o23, o24, o25, o26].toArray (fun e a6 w6 => e = .normal ∧ (∃ s : KX B w0 n L E, w6 = s.val) ∧ K6 a6 w6) [o10] a5 w5) ∧ True) → K5 a5 w5) → wpList P [o0, o1, o2, o3, o4, o5, o6, o7, o8, o9, o10, o11, o12, o13, o14, o15, o16, o17, o18, o19, o20, o21, o22, o23, o24, o25, o26].toArray (fun e a5 w5 => e = .normal ∧ (∃ s : KX B w0 n L E, w5 = s.val) ∧ K5 a5 w5) [o15] a4 w4) ∧ True) → K4 a4 w4) → wpList P [o0, o1, o2, o3, o4, o5, o6, o7, o8, o9, o10, o11, o12, o13, o14, o15, o16, o17, o18, o19, o20, o21, o22, o23, o24, o25, o26].toArray (fun e a4 w4 => e = .normal ∧ (∃ s : KX B w0 n L E, w4 = s.val) ∧ K4 a4 w4) [o4] a3 wk) ∧ (∀ K4 : Act → World → Prop, (∀ a4 w4, ((∀ K5 : Act → World → Prop, (∀ a5 w5, ((∀ K6 : Act → World → Prop, (∀ a6 w6, wpQuiet P [o0, o1, o2, o3, o4, o5, o6, o7, o8, o9, o10, o11, o12, o13, o14, o15, o16, o17, o18, o19, o20, o21, o22, o23, o24, o25, o26].toArray (fun _ => True) (fun a7 => ((∀ K8 : Act → World → Prop, (∀ a8 w8, wpQuiet P [o0, o1, o2, o3, o4, o5, o6, o7, o8, o9, o10, o11, o12, o13, o14, o15, o16, o17, o18, o19, o20, o21, o22, o23, o24, o25, o26].toArray (fun _ => True) (fun a9 => Q .normal a9 w8) [o26] a8 → K8 a8 w8) → wpList P [o0, o1, o2, o3, o4, o5, o6, o7, o8, o9, o10, o11, o12, o13, o14, o15, o16, o17, o18, o19, o20, o21, o22, o23, o24, o25, o26].toArray (fun e a8 w8 => e = .normal ∧ K8 a8 w8) [o25] a7 w6) ∧ True)) [o24] a6 → K6 a6 w6) → wpList P [o0, o1, o2, o3, o4, o5, o6, o7, o8, o9, o10, o11, o12, o13, o14, o15, o16, o17, o18, o19, o20, o21, o22, o23, o24, o25, o26].toArray (fun e a6 w6 => e = .normal ∧ (∃ s : KX B w0 n L E, w6 = s.val) ∧ K6 a6 w6) [o15] a5 w5) ∧ True) → K5 a5 w5) → wpList P [o0, o1, o2, o3, o4, o5, o6, o7, o8, o9, o10, o11, o12, o13, o14, o15, o16, o17, o18, o19, o20, o21, o22, o23, o24, o25, o26].toArray (fun e a5 w5 => e = .normal ∧ (∃ s : KX B w0 n L E, w5 = s.val) ∧ K5 a5 w5) [o4] a4 w4) ∧ True) → K4 a4 w4) → wpList P [o0, o1, o2, o3, o4, o5, o6, o7, o8, o9, o10, o11, o12, o13, o14, o15, o16, o17, o18, o19, o20, o21, o22, o23, o24, o25, o26].toArray (fun e a4 w4 => e = .normal ∧ (∃ s : KX B w0 n L E, w4 = s.val) ∧ K4 a4 w4) [o10] a3 wk) ∧ True)) [o14, o19, o23] a2) [o9] a1) [o3, o8] a0) [o0, o1, o2, o5, o6, o7, o11, o12, o13, o16, o17, o18, o20, o21, o22] a) : (Code.region id [o0, o1, o2, o3, o4, o5, o6, o7, o8, o9, o10, o11, o12, o13, o14, o15, o16, o17, o18, o19, o20, o21, o22, o23, o24, o25, o26].toArray true).wp P Q a w := by
  have e1 : E w.drew := hE _ _ he ((Below.refl _ _).drew)
  have g := h _ k.drew e1 (hF _ _ hf ((Below.refl _ _).drew))
  exact wp_region_scr (U := (fun w' => ∃ s : KX B w0 n L E, w' = s.val)) (ops := [o0, o1, o2, o3, o4, o5, o6, o7, o8, o9, o10, o11, o12, o13, o14, o15, o16, o17, o18, o19, o20, o21, o22, o23, o24, o25, o26].toArray) (.free 0 (.free 1 (.free 2 (.free 5 (.free 6 (.free 7 (.free 11 (.free 12 (.free 13 (.free 16 (.free 17 (.free 18 (.free 20 (.free 21 (.free 22 (.read 3 (.read 8 (.free 9 (.read 14 (.read 19 (.read 23 (.alt 4 (.alt 10 (.alt 15 (.free 24 (.altc 25 (.free 26 .done) .stop)) .stop) (.alt 15 (.alt 10 (.free 24 (.altc 25 (.free 26 .done) .stop)) .stop) .stop)) (.alt 10 (.alt 4 (.alt 15 (.free 24 (.altc 25 (.free 26 .done) .stop)) .stop) .stop) .stop))))))))))))))))))))))) [3, 8, 14, 19, 23] [0, 1, 2, 5, 6, 7, 9, 11, 12, 13, 16, 17, 18, 20, 21, 22, 24, 26] hm hB ⟨⟨_, k.drew, e1⟩, rfl⟩ (Scr.of_free rfl g (fun _ g0 => Scr.of_free rfl g0 (fun _ g1 => Scr.of_free rfl g1 (fun _ g2 => Scr.of_free rfl g2 (fun _ g3 => Scr.of_free rfl g3 (fun _ g4 => Scr.of_free rfl g4 (fun _ g5 => Scr.of_free rfl g5 (fun _ g6 => Scr.of_free rfl g6 (fun _ g7 => Scr.of_free rfl g7 (fun _ g8 => Scr.of_free rfl g8 (fun _ g9 => Scr.of_free rfl g9 (fun _ g10 => Scr.of_free rfl g10 (fun _ g11 => Scr.of_free rfl g11 (fun _ g12 => Scr.of_free rfl g12 (fun _ g13 => Scr.of_free rfl g13 (fun _ g14 => Scr.of_read rfl g14 (fun _ g15 => Scr.of_read rfl g15 (fun _ g16 => Scr.of_free rfl g16 (fun _ g17 => Scr.of_read rfl g17 (fun _ g18 => Scr.of_read rfl g18 (fun _ g19 => Scr.of_read rfl g19 (fun _ g20 => (Scr.of_alt rfl (g20.1 _ (fun _ _ g => g)) (fun _ _ g21 => (Scr.of_alt rfl (g21.1 _ (fun _ _ g => g)) (fun _ _ g22 => (Scr.of_alt rfl (g22.1 _ (fun _ _ g => g)) (fun _ _ g23 => Scr.of_free rfl g23 (fun _ g24 => (Scr.of_altc rfl (g24.1 _ (fun _ _ g => g)) (fun _ _ g25 => Scr.of_free rfl g25 (fun _ g26 => g26)) trivial))) trivial)) (Scr.of_alt rfl (g21.2.1 _ (fun _ _ g => g)) (fun _ _ g22 => (Scr.of_alt rfl (g22.1 _ (fun _ _ g => g)) (fun _ _ g23 => Scr.of_free rfl g23 (fun _ g24 => (Scr.of_altc rfl (g24.1 _ (fun _ _ g => g)) (fun _ _ g25 => Scr.of_free rfl g25 (fun _ g26 => g26)) trivial))) trivial)) trivial))) (Scr.of_alt rfl (g20.2.1 _ (fun _ _ g => g)) (fun _ _ g21 => (Scr.of_alt rfl (g21.1 _ (fun _ _ g => g)) (fun _ _ g22 => (Scr.of_alt rfl (g22.1 _ (fun _ _ g => g)) (fun _ _ g23 => Scr.of_free rfl g23 (fun _ g24 => (Scr.of_altc rfl (g24.1 _ (fun _ _ g => g)) (fun _ _ g25 => Scr.of_free rfl g25 (fun _ g26 => g26)) trivial))) trivial)) trivial)) trivial))))))))))))))))))))))))
theorem rg25_7 {P : Program} {B n : Nat} {w0 : World} {L : List (Nat × Nat × Value)} {E F : World → Prop} {id : Nat} {Q : Exit → Act → World → Prop} {a : Act} {w : World} {o0 o1 o2 o3 o4 o5 o6 o7 o8 : Oper} (hm : P.follows .mixedOrders = true)
    (hB : (Region.noSelect [o0, o1, o2, o3, o4, o5, o6, o7, o8].toArray && Scr.ok .any [o0, o1, o2, o3, o4, o5, o6, o7, o8].toArray [3] [0, 1, 2, 4, 5, 7] (.free 0 (.free 1 (.free 2 (.free 4 (.free 5 (.read 3 (.alt 6 (.free 7 (.altc 8 .done .stop)) .stop))))))) true true [o0, o1, o2, o3, o4, o5, o6, o7, o8].toArray.size (Array.replicate [o0, o1, o2, o3, o4, o5, o6, o7, o8].toArray.size false)) = true)
    (k : Kept B w0 n L w) (he : E w) (hE : ∀ W W', E W → Below W.heap.size W W' → E W') (hf : F w) (hF : ∀ W W', F W → Below W.heap.size W W' → F W')
    (h : ∀ wk, Kept B w0 n L wk → E wk → F wk → wpQuiet P [o0, o1, o2, o3, o4, o5, o6, o7, o8].toArray (fun _ => True) (fun a0 => wpQuiet P [o0, o1, o2, o3, o4, o5, o6, o7, o8].toArray (fun w' => ∃ s : KX B w0 n L E, w' = s.val) (fun a1 => ((∀ K2 : Act → World → Prop, (∀ a2 w2, wpQuiet P [o0, o1, o2, o3, o4, o5, o6, o7, o8].toArray (fun _ => True) (fun a3 => ((∀ K4 : Act → World → Prop, (∀ a4 w4, Q .normal a4 w4 → K4 a4 w4) → wpList P [o0, o1, o2, o3, o4, o5, o6, o7, o8].toArray (fun e a4 w4 => e = .normal ∧ K4 a4 w4) [o8] a3 w2) ∧ True)) [o7] a2 → K2 a2 w2) → wpList P [o0, o1, o2, o3, o4, o5, o6, o7, o8].toArray (fun e a2 w2 => e = .normal ∧ (∃ s : KX B w0 n L E, w2 = s.val) ∧ K2 a2 w2) [o6] a1 wk) ∧ True)) [o3] a0) [o0, o1, o2, o4, o5] a) : (Code.region id [o0, o1, o2, o3, o4, o5, o6, o7, o8].toArray true).wp P Q a w := by
  have e1 : E w.drew := hE _ _ he ((Below.refl _ _).drew)
  have g := h _ k.drew e1 (hF _ _ hf ((Below.refl _ _).drew))
  exact wp_region_scr (U := (fun w' => ∃ s : KX B w0 n L E, w' = s.val)) (ops := [o0, o1, o2, o3, o4, o5, o6, o7, o8].toArray) (.free 0 (.free 1 (.free 2 (.free 4 (.free 5 (.read 3 (.alt 6 (.free 7 (.altc 8 .done .stop)) .stop))))))) [3] [0, 1, 2, 4, 5, 7] hm hB ⟨⟨_, k.drew, e1⟩, rfl⟩ (Scr.of_free rfl g (fun _ g0 => Scr.of_free rfl g0 (fun _ g1 => Scr.of_free rfl g1 (fun _ g2 => Scr.of_free rfl g2 (fun _ g3 => Scr.of_free rfl g3 (fun _ g4 => Scr.of_read rfl g4 (fun _ g5 => (Scr.of_alt rfl (g5.1 _ (fun _ _ g => g)) (fun _ _ g6 => Scr.of_free rfl g6 (fun _ g7 => (Scr.of_altc rfl (g7.1 _ (fun _ _ g => g)) (fun _ _ g8 => g8) trivial))) trivial))))))))
theorem DrM.rw3 {w : World} {B : Nat} {S : List Nat} {P : Nat} {d : Dr} {so st sm : Sl} {rvs : List Sl} {vss : List (List Sl)} (h : DrM w B S P d so st sm rvs vss) : Rw3 w so.v d.rs := by
  refine ⟨rvs, h.out.rw vc_len, h.rlen, fun i s m hs hm => ?_⟩
  have hi := (List.getElem?_eq_some_iff.1 hm).1
  have hm' : (d.rs ++ [d.tk])[i]? = some m := by rw [List.getElem?_append_left hi]; exact hm
  obtain ⟨r, hr, hl⟩ := h.mat.getr hm'
  have hs' : (rvs ++ [st])[i]? = some s := by rw [List.getElem?_append_left (by rw [h.rlen]; exact hi)]; exact hs
  exact ⟨r, (h.rows.row i s r hs' hr).rw vc_len, hl, fun k t p ht hp => (h.mat.row i k t p (at2_of hr ht) (at2_of hm' hp)).rw ic_len⟩
theorem newDr2 {w W : World} {d : Dr} {bm gt : Nat} {so sv : Sl} {rvs : List Sl} {vss : List (List Sl)} (hm : MxM W bm so rvs vss d.rs) (ht : Ow vc 1 32 W gt (.slice (some ⟨gt, 0, none⟩) d.n d.n) (List.replicate d.n Sl.nil)) (hv : Oe bc 4 W sv.v d.mv) (hne : ∀ x ∈ rvs, ∀ b, blk x.v = some b → b ≠ gt) (h1 : w.heap.size ≤ bm) (h2 : w.heap.size ≤ gt) (h3 : ∀ b, blk sv.v = some b → w.heap.size ≤ b) (hb : Below w.heap.size w W) : DrM (W.alloc (.cells #[so.v, .slice (some ⟨gt, 0, none⟩) d.n d.n, sv.v, .int .i64 d.rd, .int .i64 d.tn] 56)) w.heap.size (since w.heap.size (W.heap.size + 1)) W.heap.size ⟨d.rs, List.replicate d.n [], d.mv, d.rd, d.tn⟩ so ⟨some ⟨gt, 0, none⟩, d.n, d.n⟩ sv rvs (vss ++ [List.replicate d.n Sl.nil]) := by
  have ha : Below W.heap.size W (W.alloc (.cells #[so.v, .slice (some ⟨gt, 0, none⟩) d.n d.n, sv.v, .int .i64 d.rd, .int .i64 d.tn] 56)) := (Below.refl _ _).alloc (Nat.le_refl _) _
  have hz := hb.size
  have hown : ∀ (a : Addr) n c b, blk (.slice (some a) n c) = some b → b = a.block := fun a n c b h => by
    have := blk_own h
    simp [Value.ownBlock] at this
    exact this.symm
  refine ⟨?_, hm.out.below ha, ?_, (hm.mat.nils d.n).below ha, hv.below ha, mem_since.2 ⟨hz, by omega⟩, fun b h => mem_since.2 ⟨by have := hm.bo b h; omega, by have := hm.out.lt h; omega⟩, fun b h => mem_since.2 ⟨h3 b h, by have := hv.lt h; omega⟩, fun s hs b h => ?_, fun i k s b hs h => ?_, fun b h => by have := mem_since.1 h; simp; omega⟩
  · rw [heap_alloc_new]
    rfl
  · refine (hm.rows.below ha).push' _ _ ((Oe.of_ow ht).below ha) (fun b hb x hx hbx => hne x hx b hbx (hown _ _ _ _ hb))
  · rcases List.mem_append.1 hs with h5 | h5
    · have := hm.br s h5 b h
      have := hm.rows.lt h5 h
      exact mem_since.2 ⟨by omega, by omega⟩
    · simp at h5
      subst h5
      have := hown _ _ _ _ h
      have h4 := (ht.typ gt rfl).2.1
      exact mem_since.2 ⟨by simp at this; omega, by simp at this; omega⟩
  · rcases at2_last _ _ _ _ _ hs with h5 | h5
    · have := hm.bi i k s b h5 h
      have := hm.mat.lt h5 h
      exact mem_since.2 ⟨by omega, by omega⟩
    · rw [List.eq_of_mem_replicate h5] at h
      simp [Sl.nil, Sl.v, blk, Value.ownBlock] at h
theorem tk_len {c : Nat} {d : Dr} (iv : d.Inv c) {p : Nat} {l : List Int} (hl : d.tk[p]? = some l) : l.length ≤ 100 := by
  have hp : p < d.n := (List.getElem?_eq_some_iff.1 hl).1
  have hlen := iv.tkl p hp
  rw [getD_lt hl] at hlen
  have h4 := iv.r4
  have h5 := iv.c15
  have h6 := iv.rd
  have h8 : d.rd * c ≤ 4 * 15 := Nat.mul_le_mul (by omega) h5
  have h7 : d.tn ≤ 15 := by
    rcases Nat.lt_or_ge d.rd d.rs.length with h | h
    · have := iv.tn h; omega
    · have := (iv.ov (by omega)).1; omega
  split at hlen <;> omega
theorem tk_nil {d : Dr} {k : Nat} {l : List Int} (hl : d.tk[k]? = some l) : (d.tk.take k ++ List.replicate (d.n - k) [])[k]? = some [] := by
  have hp : k < d.tk.length := (List.getElem?_eq_some_iff.1 hl).1
  have hn : d.n = d.tk.length := rfl
  have h1 : (d.tk.take k).length = k := by rw [List.length_take]; omega
  rw [List.getElem?_append_right (by omega), h1, Nat.sub_self, List.getElem?_replicate, if_pos (by omega)]
theorem tk_set {d : Dr} {k : Nat} {l : List Int} (hl : d.tk[k]? = some l) : (d.tk.take k ++ List.replicate (d.n - k) []).set k l = d.tk.take (k + 1) ++ List.replicate (d.n - (k + 1)) [] := by
  have hp : k < d.tk.length := (List.getElem?_eq_some_iff.1 hl).1
  have hn : d.n = d.tk.length := rfl
  have h1 : (d.tk.take k).length = k := by rw [List.length_take]; omega
  rw [List.set_append_right _ _ (by omega), h1, Nat.sub_self, show d.n - k = (d.n - (k + 1)) + 1 by omega, List.replicate_succ, List.set_cons_zero, List.take_add_one, hl]
  simp
def CyRel (w : World) (d : Dr) (Q : Nat) (so st sm : Sl) (rvs : List Sl) (iv : Value) (wr : World) : Prop := ∃ (k : Nat) (S : List Nat) (vss : List (List Sl)), k ≤ d.n ∧ iv = .int .i64 k ∧ DrM wr w.heap.size S Q ⟨d.rs, d.tk.take k ++ List.replicate (d.n - k) [], d.mv, d.rd, d.tn⟩ so st sm rvs vss ∧ Below w.heap.size w wr
/-- a copy of a draft, which nothing else knows -/
def CopyAt (w : World) (d : Dr) (e : Ending) (w' : World) : Prop := ∃ P S, e = .returned (.pointer (some ⟨P, 0, none⟩)) ∧ DrAt w' w.heap.size S P d ∧ Below w.heap.size w w'
set_option maxRecDepth 100000 in
set_option maxHeartbeats 4000000 in
theorem copy25 (P : Nat) (B c : Nat) (S : List Nat) (d : Dr) (w : World) (h : DrAt w B S P d) (iv : d.Inv c) : Calls Try.prog 25 #[.pointer (some ⟨P, 0, none⟩)] w (CopyAt w d) := by
  have HN := Lib.hid (none31 P B c S d w h iv)
  have hn8 := iv.n8
  have hr4 := iv.r4
  have HIV := Lib.hid iv
  have HSM := Lib.hid (inv_small iv)
  obtain ⟨so, st, sm, rvs, vss, hd⟩ := h
  have HD := Lib.hid hd
  obtain ⟨c0, c1, c2, c3, c4⟩ := hd.cells
  have hP := hd.lt
  have hrw := hd.rw3
  have HRW : Hid (Rw3 w (.slice so.a d.rs.length so.c) d.rs) := Lib.hid (by rw [← hd.rlen, ← oe_slice hd.out]; exact hrw)
  have HMR : Hid (Rw bc 1 w (.slice sm.a d.mv.length sm.c) d.mv) := Lib.hid (by rw [← oe_slice hd.mov]; exact hd.mov.rw bc_len)
  have HMVL : Hid (d.mv.length ≤ 8) := Lib.hid (by rw [iv.mv]; exact hn8)
  have hmk3 := fun w => run_make_row' (P := Try.prog) 30 32 (.slice none 0 0) 24 Try.underlying30 (by kernel_rfl) rfl .i64 .i64 d.n (by omega) (by omega) w
  clear hd iv hrw
  go_enter Try.func25, Try.ntmps25
  go_wp2_with fail
  with_reducible refine HN.out.mono ?_
  rintro e w ⟨rfl, rfl⟩
  go_wp2_with fail
  refine rg25_3 (w0 := w) (B := w.heap.size) (n := w.heap.size) (L := []) (E := fun _ => True) (F := fun _ => True) (by kernel_rfl) (by kernel_rfl) ⟨by go_grown, by go_size, (by simp [go_sem] <;> omega)⟩ trivial (fun _ _ _ _ => trivial) trivial (fun _ _ _ _ => trivial) (fun w21 K_w21 E_w21 F_w21 => ?_)
  have _ne : Nonempty (KX (w.heap.size) w (w.heap.size) [] (fun _ => True)) := ⟨⟨_, K_w21, E_w21⟩⟩
  repeat (go_big_quiet_step (fail))
  refine wpQuiet_nil ?_
  have rx0 : ∀ s : KX (w.heap.size) w (w.heap.size) [] (fun _ => True), s.val.cell? ⟨P, 0, none⟩ = some (.slice so.a d.rs.length so.c) := fun s => (s.kept.below.cell (p := ⟨P, 0, none⟩) hP).trans c0
  have rx1 : ∀ s : KX (w.heap.size) w (w.heap.size) [] (fun _ => True), s.val.cell? ⟨P, 1, none⟩ = some (.slice st.a d.n st.c) := fun s => (s.kept.below.cell (p := ⟨P, 1, none⟩) hP).trans c1
  have rx2 : ∀ s : KX (w.heap.size) w (w.heap.size) [] (fun _ => True), s.val.cell? ⟨P, 2, none⟩ = some (.slice sm.a d.mv.length sm.c) := fun s => (s.kept.below.cell (p := ⟨P, 2, none⟩) hP).trans c2
  have rx3 : ∀ s : KX (w.heap.size) w (w.heap.size) [] (fun _ => True), s.val.cell? ⟨P, 3, none⟩ = some (.int .i64 d.rd) := fun s => (s.kept.below.cell (p := ⟨P, 3, none⟩) hP).trans c3
  have rx4 : ∀ s : KX (w.heap.size) w (w.heap.size) [] (fun _ => True), s.val.cell? ⟨P, 4, none⟩ = some (.int .i64 d.tn) := fun s => (s.kept.below.cell (p := ⟨P, 4, none⟩) hP).trans c4
  repeat (go_big_quiet_step (fail))
  refine wpQuiet_nil ?_
  clear rx0 rx1 rx2 rx3 rx4
  repeat (go_big_quiet_step (fail))
  refine wpQuiet_nil ?_
  have rx0 : ∀ s : KX (w.heap.size) w (w.heap.size) [] (fun _ => True), s.val.cell? ⟨P, 0, none⟩ = some (.slice so.a d.rs.length so.c) := fun s => (s.kept.below.cell (p := ⟨P, 0, none⟩) hP).trans c0
  have rx1 : ∀ s : KX (w.heap.size) w (w.heap.size) [] (fun _ => True), s.val.cell? ⟨P, 1, none⟩ = some (.slice st.a d.n st.c) := fun s => (s.kept.below.cell (p := ⟨P, 1, none⟩) hP).trans c1
  have rx2 : ∀ s : KX (w.heap.size) w (w.heap.size) [] (fun _ => True), s.val.cell? ⟨P, 2, none⟩ = some (.slice sm.a d.mv.length sm.c) := fun s => (s.kept.below.cell (p := ⟨P, 2, none⟩) hP).trans c2
  have rx3 : ∀ s : KX (w.heap.size) w (w.heap.size) [] (fun _ => True), s.val.cell? ⟨P, 3, none⟩ = some (.int .i64 d.rd) := fun s => (s.kept.below.cell (p := ⟨P, 3, none⟩) hP).trans c3
  have rx4 : ∀ s : KX (w.heap.size) w (w.heap.size) [] (fun _ => True), s.val.cell? ⟨P, 4, none⟩ = some (.int .i64 d.tn) := fun s => (s.kept.below.cell (p := ⟨P, 4, none⟩) hP).trans c4
  repeat (go_big_quiet_step (fail))
  refine wpQuiet_nil ?_
  clear rx0 rx1 rx2 rx3 rx4
  have KH_w21 := Lib.hid K_w21
  have hw_w21 := K_w21.below
  have hz_w21 := K_w21.size
  clear K_w21
  clear E_w21 F_w21
  refine ⟨fun K hK0 => ?_, fun K hK0 => ?_, trivial⟩
  · skip
    have hK := Lib.hid hK0
    clear hK0
    go_wp2_with fail
    with_reducible refine (copied29 _ d.rs _ (HRW.out.below hw_w21) HSM.out).mono ?_
    rintro e w22 ⟨⟨oa, on, oc⟩, rvs', vss', he, hmx, hbn⟩
    replace he : e = .returned (.slice oa on oc) := he
    subst he
    obtain ⟨bm, hbm⟩ : ∃ g, g = w21.heap.size := ⟨_, rfl⟩
    rw [← hbm] at hmx
    have HBM : Hid (w.heap.size ≤ bm) := Lib.hid (by have := hw_w21.size; omega)
    have HMX : Hid (MxM w22 bm ⟨oa, on, oc⟩ rvs' vss' d.rs) := Lib.hid (hmx)
    clear hmx
    have K_w22 := KH_w21.out.step (by omega) hbn
    have KH_w22 := Lib.hid K_w22
    have hz_w22 := K_w22.size
    have hw_w22 := K_w22.below
    clear K_w22 hbn
    clear hbm
    go_wp2_with fail
    first | (refine ⟨rfl, ⟨⟨_, KH_w22.out, trivial⟩, rfl⟩, hK.out _ _ ?_⟩; clear hK K) | (refine ⟨⟨⟨_, KH_w22.out, trivial⟩, rfl⟩, hK.out _ _ ?_⟩; clear hK K)
    refine ⟨fun K hK0 => ?_, fun K hK0 => ?_, trivial⟩
    · skip
      have hK := Lib.hid hK0
      clear hK0
      go_wp2_with fail
      obtain ⟨w23, hW⟩ : ∃ W, W = w22.alloc (.cells (madeCells #[.slice none 0 0] d.n) 32) := ⟨_, rfl⟩
      have hbn : Below w22.heap.size w22 w23 := by rw [hW]; exact (Below.refl _ _).alloc (Nat.le_refl _) _
      have hnew := made_ow (f := vc) (d := Sl.nil) (z := .slice none 0 0) (fun _ => rfl) rfl w22 32 d.n (by omega)
      rw [← hW] at hnew ⊢
      obtain ⟨gt, hg⟩ : ∃ g, g = w22.heap.size := ⟨_, rfl⟩
      rw [← hg] at hnew ⊢
      have HGT : Hid (w.heap.size ≤ gt) := Lib.hid (by have := hw_w22.size; omega)
      have HNE : Hid (∀ x ∈ rvs', ∀ b, blk x.v = Option.some b → b ≠ gt) := Lib.hid (fun x hx b hb => by have h1 := HMX.out.rows.lt hx hb; omega)
      have HMX : Hid (MxM w23 bm ⟨oa, on, oc⟩ rvs' vss' d.rs) := Lib.hid (HMX.out.below hbn)
      have HT : Hid (Ow vc 1 32 w23 gt (.slice (some ⟨gt, 0, none⟩) d.n d.n) (List.replicate d.n Sl.nil)) := Lib.hid (hnew)
      have HGT2 : Hid (gt < w23.heap.size) := Lib.hid (by rw [hW, hg]; simp)
      clear hW hnew hg
      have K_w23 := KH_w22.out.step (by omega) hbn
      have KH_w23 := Lib.hid K_w23
      have hz_w23 := K_w23.size
      have hw_w23 := K_w23.below
      clear K_w23 hbn
      first | (refine ⟨rfl, ⟨⟨_, KH_w23.out, trivial⟩, rfl⟩, hK.out _ _ ?_⟩; clear hK K) | (refine ⟨⟨⟨_, KH_w23.out, trivial⟩, rfl⟩, hK.out _ _ ?_⟩; clear hK K)
      refine ⟨fun K hK0 => ?_, trivial⟩
      have hK := Lib.hid hK0
      clear hK0
      go_wp2_with fail
      with_reducible refine (clone37 _ _ (HMR.out.below hw_w23) (by have := HMVL.out; omega)).mono ?_
      rintro e w24 ⟨v, rfl, hv, hbn⟩
      obtain ⟨av, cv, rfl⟩ := hv.form
      have HGV : Hid (∀ b, blk (.slice av d.mv.length cv) = Option.some b → w.heap.size ≤ b) := Lib.hid (fun b hb => by have := (hv.typ b hb).1; have := hw_w23.size; omega)
      have HMX : Hid (MxM w24 bm ⟨oa, on, oc⟩ rvs' vss' d.rs) := Lib.hid (HMX.out.below hbn)
      have HT : Hid (Ow vc 1 32 w24 gt (.slice (some ⟨gt, 0, none⟩) d.n d.n) (List.replicate d.n Sl.nil)) := Lib.hid (HT.out.below hbn)
      have HGT2 : Hid (gt < w24.heap.size) := Lib.hid (Nat.lt_of_lt_of_le HGT2.out hbn.size)
      have HV : Hid (Oe bc 4 w24 (.slice av d.mv.length cv) d.mv) := Lib.hid (Oe.of_ow hv)
      clear hv
      have K_w24 := KH_w23.out.step (by omega) hbn
      have KH_w24 := Lib.hid K_w24
      have hz_w24 := K_w24.size
      have hw_w24 := K_w24.below
      clear K_w24 hbn
      go_wp2_with fail
      first | (refine ⟨rfl, ⟨⟨_, KH_w24.out, trivial⟩, rfl⟩, hK.out _ _ ?_⟩; clear hK K) | (refine ⟨⟨⟨_, KH_w24.out, trivial⟩, rfl⟩, hK.out _ _ ?_⟩; clear hK K)
      repeat (go_big_quiet_step (fail))
      refine wpQuiet_nil ?_
      refine ⟨fun K hK0 => ?_, trivial⟩
      have hK := Lib.hid hK0
      clear hK0
      go_wp2_with fail
      first | (refine ⟨rfl, hK.out _ _ ?_⟩; clear hK K) | (refine hK.out _ _ ?_; clear hK K)
      repeat (go_big_quiet_step (fail))
      refine wpQuiet_nil ?_
      clear _ne
      have hnew := newDr2 (d := d) (sv := ⟨av, d.mv.length, cv⟩) HMX.out HT.out HV.out HNE.out HBM.out HGT.out HGV.out hw_w24
      obtain ⟨wz, hwz⟩ : ∃ W, W = w24.alloc (.cells #[.slice oa on oc, .slice (some ⟨gt, 0, none⟩) d.n d.n, .slice av d.mv.length cv, .int .i64 d.rd, .int .i64 d.tn] 56) := ⟨_, rfl⟩
      have hbz : Below w.heap.size w wz := by rw [hwz]; exact hw_w24.alloc hw_w24.size _
      replace hnew : DrM wz w.heap.size (since w.heap.size (w24.heap.size + 1)) w24.heap.size ⟨d.rs, List.replicate d.n [], d.mv, d.rd, d.tn⟩ ⟨oa, on, oc⟩ ⟨some ⟨gt, 0, none⟩, d.n, d.n⟩ ⟨av, d.mv.length, cv⟩ rvs' (vss' ++ [List.replicate d.n Sl.nil]) := by rw [hwz]; exact hnew
      obtain ⟨Q, hQ⟩ : ∃ Q, Q = w24.heap.size := ⟨_, rfl⟩
      rw [← hwz, ← hQ]
      rw [← hQ] at hnew
      have HNEW := Lib.hid hnew
      have HBZ := Lib.hid hbz
      clear hnew hbz hwz hQ
      have c1z := (HBZ.out.cell (p := ⟨P, 1, none⟩) hP).trans c1
      have hPz : P < wz.heap.size := Nat.lt_of_lt_of_le hP HBZ.out.size
      go_wp2_with fail
      go_loopw [39] (fun i wr => CyRel w d Q ⟨oa, on, oc⟩ ⟨some ⟨gt, 0, none⟩, d.n, d.n⟩ ⟨av, d.mv.length, cv⟩ rvs' i wr) (fun i _ => d.n - (intOf i).toNat)
      case atStart => exact ⟨0, _, _, Nat.zero_le _, rfl, by rw [List.take_zero, List.nil_append, Nat.sub_zero]; exact HNEW.out, HBZ.out⟩
      case round =>
        clear c1z
        obtain ⟨k, S3, vss3, hk, rfl, hdk, hb⟩ := hrel
        have HDK := Lib.hid hdk
        have HB := Lib.hid hb
        have hz_wr := hb.size
        clear hdk
        by_cases hkl : k < d.n
        · obtain ⟨l, hl⟩ : ∃ l, d.tk[k]? = some l := ⟨_, List.getElem?_eq_getElem (show k < d.tk.length from hkl)⟩
          obtain ⟨tb0, ta0, tc0, ht0⟩ := HD.out.tkc hl
          have hsta := ht0.ta
          have e_s := (hb.cell (p := ⟨tb0, k, none⟩) ht0.tl).trans ht0.tcell
          have HTRW : Hid (Rw ic 1 wr (.slice ta0 l.length tc0) l) := Lib.hid (((ht0.row.rw ic_len)).below hb)
          have hts : tb0 < wr.heap.size := Nat.lt_of_lt_of_le ht0.tl hz_wr
          have HTLL : Hid (l.length ≤ 100) := Lib.hid (tk_len HIV.out hl)
          obtain ⟨tb, ta, tc, htk⟩ := HDK.out.tkc (p := k) (l := []) (tk_nil hl)
          have hta := htk.ta
          simp only [Option.some.injEq, Addr.mk.injEq] at hta
          obtain ⟨rfl, _⟩ := hta
          have e_t : wr.cell? ⟨gt, k, none⟩ = Option.some (.slice ta 0 tc) := htk.tcell
          have htl := htk.tl
          have HTPV := Lib.hid htk.pv
          have HTTY : Hid (Ty wr (some gt) 32) := Lib.hid (by
            obtain ⟨tvs, _, _, h3⟩ := HDK.out.tval
            exact h3.ty htk.tb)
          have q1 : wr.cell? ⟨Q, 1, none⟩ = Option.some (.slice (some ⟨gt, 0, none⟩) d.n d.n) := HDK.out.cell 1
          have hQr := HDK.out.lt
          have i1 : (0 : Int) ≤ (k : Int) := by omega
          have i2 : (k : Int) < (d.n : Int) := by omega
          rw [hsta]
          have HLK := Lib.hid hl
          clear ht0 htk hl hb
          go_wp2_with fail
          refine rg25_7 (w0 := wr) (B := wr.heap.size) (n := wr.heap.size) (L := []) (E := fun _ => True) (F := fun _ => True) (by kernel_rfl) (by kernel_rfl) ⟨by go_grown, by go_size, (by simp [go_sem] <;> omega)⟩ trivial (fun _ _ _ _ => trivial) trivial (fun _ _ _ _ => trivial) (fun w41 K_w41 E_w41 F_w41 => ?_)
          have _ne : Nonempty (KX (wr.heap.size) wr (wr.heap.size) [] (fun _ => True)) := ⟨⟨_, K_w41, E_w41⟩⟩
          repeat (go_big_quiet_step (fail))
          refine wpQuiet_nil ?_
          have rx0 : ∀ s : KX (wr.heap.size) wr (wr.heap.size) [] (fun _ => True), s.val.cell? ⟨Q, 1, none⟩ = some (.slice (some ⟨gt, 0, none⟩) d.n d.n) := fun s => (s.kept.below.cell (p := ⟨Q, 1, none⟩) hQr).trans q1
          repeat (go_big_quiet_step (fail))
          refine wpQuiet_nil ?_
          clear rx0
          have KH_w41 := Lib.hid K_w41
          have hw_w41 := K_w41.below
          have hz_w41 := K_w41.size
          clear K_w41
          clear E_w41 F_w41
          refine ⟨fun K hK0 => ?_, trivial⟩
          have hK := Lib.hid hK0
          clear hK0
          go_wp2_with fail
          with_reducible refine (clone33 _ _ (HTRW.out.below hw_w41) (by have := HTLL.out; omega)).mono ?_
          rintro e w42 ⟨v, rfl, hv, hbn⟩
          obtain ⟨ae, ce, rfl⟩ := hv.form
          have HVE := Lib.hid hv
          have HVN : Hid (∀ b, blk (.slice ae l.length ce) = Option.some b → wr.heap.size ≤ b) := Lib.hid (fun b hb => by have := (hv.typ b hb).1; have := hw_w41.size; omega)
          have HBN := Lib.hid (below_via hw_w41 hbn)
          have hct : w42.cell? ⟨gt, k, none⟩ = Option.some (.slice ta 0 tc) := (HBN.out.cell (p := ⟨gt, k, none⟩) htl).trans e_t
          have hft : w42.frozen? ⟨gt, k, none⟩ = false := ((Onl.of HBN.out : Onl [] wr w42).frozen htl (by simp)).trans (ty_frozen HTTY.out _)
          clear hv
          have K_w42 := KH_w41.out.step (by omega) hbn
          have KH_w42 := Lib.hid K_w42
          have hz_w42 := K_w42.size
          have hw_w42 := K_w42.below
          clear K_w42 hbn
          go_wp2_with fail
          first | (refine ⟨rfl, ⟨⟨_, KH_w42.out, trivial⟩, rfl⟩, hK.out _ _ ?_⟩; clear hK K) | (refine ⟨⟨⟨_, KH_w42.out, trivial⟩, rfl⟩, hK.out _ _ ?_⟩; clear hK K)
          repeat (go_big_quiet_step (fail))
          refine wpQuiet_nil ?_
          refine ⟨fun K hK0 => ?_, trivial⟩
          have hK := Lib.hid hK0
          clear hK0
          go_wp2_with fail
          first | (refine ⟨rfl, hK.out _ _ ?_⟩; clear hK K) | (refine hK.out _ _ ?_; clear hK K)
          clear _ne
          go_upto_region 8 with fail
          have hput := HDK.out.putc (w2 := w42) (T := []) (i := d.rs.length) (k := k) (S' := S3 ++ obl (.slice ae l.length ce)) (d' := ⟨d.rs, d.tk.take (k + 1) ++ List.replicate (d.n - (k + 1)) [], d.mv, d.rd, d.tn⟩) (s' := ⟨ae, l.length, ce⟩) HTPV.out (g := gt) (n := d.n) (rc := d.n) (by have h := HDK.out.rlen; rw [← h]; simp) (.of HBN.out) (fun b hb => by simp at hb) (Oe.of_ow HVE.out) (fun b hb => .inr (HVN.out b hb)) (fun b hb => List.mem_append_left _ hb) (fun b hb => List.mem_append_right _ (mem_obl.2 hb)) (fun b hb => by
            rcases List.mem_append.1 hb with h | h
            · exact .inl h
            · exact .inr ⟨HVN.out b (mem_obl.1 h), (HVE.out.typ b (mem_obl.1 h)).2.1⟩) (by
            have h := set2_last d.rs (d.tk.take k ++ List.replicate (d.n - k) []) k l
            rw [tk_set HLK.out] at h
            exact h.symm) rfl rfl rfl
          obtain ⟨wn, hwn⟩ : ∃ W, W = w42.setCell ⟨gt, k, none⟩ (.slice ae l.length ce) := ⟨_, rfl⟩
          rw [show (w42.setCell ⟨gt, k, none⟩ (Sl.v ⟨ae, l.length, ce⟩)) = wn from hwn.symm] at hput
          rw [← hwn]
          have HDN := Lib.hid hput.1
          have HBNN : Hid (Below w.heap.size w wn) := Lib.hid (HB.out.trans (hput.2.below' (fun b hb => (HDK.out.new b hb).1) hz_wr))
          clear hput hwn
          go_wp2_with fail
          go_roundw
          case rel => exact ⟨k + 1, _, _, by omega, by go_num, HDN.out, HBNN.out⟩
          case measure => simp [intOf]; omega
        · obtain rfl : k = d.n := by omega
          have HFIN : Hid (DrAt wr w.heap.size S3 Q d) := Lib.hid ⟨_, _, _, _, vss3, by
            have h := HDK.out
            rw [Nat.sub_self, List.replicate_zero, List.append_nil, show d.n = d.tk.length from rfl, List.take_length] at h
            exact h⟩
          clear hb
          go_wp2_with fail
          go_returns
          exact ⟨_, _, rfl, HFIN.out, HB.out⟩
    · skip
      have hK := Lib.hid hK0
      clear hK0
      go_wp2_with fail
      with_reducible refine (clone37 _ _ (HMR.out.below hw_w22) (by have := HMVL.out; omega)).mono ?_
      rintro e w23 ⟨v, rfl, hv, hbn⟩
      obtain ⟨av, cv, rfl⟩ := hv.form
      have HGV : Hid (∀ b, blk (.slice av d.mv.length cv) = Option.some b → w.heap.size ≤ b) := Lib.hid (fun b hb => by have := (hv.typ b hb).1; have := hw_w22.size; omega)
      have HMX : Hid (MxM w23 bm ⟨oa, on, oc⟩ rvs' vss' d.rs) := Lib.hid (HMX.out.below hbn)
      have HV : Hid (Oe bc 4 w23 (.slice av d.mv.length cv) d.mv) := Lib.hid (Oe.of_ow hv)
      clear hv
      have K_w23 := KH_w22.out.step (by omega) hbn
      have KH_w23 := Lib.hid K_w23
      have hz_w23 := K_w23.size
      have hw_w23 := K_w23.below
      clear K_w23 hbn
      go_wp2_with fail
      first | (refine ⟨rfl, ⟨⟨_, KH_w23.out, trivial⟩, rfl⟩, hK.out _ _ ?_⟩; clear hK K) | (refine ⟨⟨⟨_, KH_w23.out, trivial⟩, rfl⟩, hK.out _ _ ?_⟩; clear hK K)
      refine ⟨fun K hK0 => ?_, trivial⟩
      have hK := Lib.hid hK0
      clear hK0
      go_wp2_with fail
      obtain ⟨w24, hW⟩ : ∃ W, W = w23.alloc (.cells (madeCells #[.slice none 0 0] d.n) 32) := ⟨_, rfl⟩
      have hbn : Below w23.heap.size w23 w24 := by rw [hW]; exact (Below.refl _ _).alloc (Nat.le_refl _) _
      have hnew := made_ow (f := vc) (d := Sl.nil) (z := .slice none 0 0) (fun _ => rfl) rfl w23 32 d.n (by omega)
      rw [← hW] at hnew ⊢
      obtain ⟨gt, hg⟩ : ∃ g, g = w23.heap.size := ⟨_, rfl⟩
      rw [← hg] at hnew ⊢
      have HGT : Hid (w.heap.size ≤ gt) := Lib.hid (by have := hw_w23.size; omega)
      have HNE : Hid (∀ x ∈ rvs', ∀ b, blk x.v = Option.some b → b ≠ gt) := Lib.hid (fun x hx b hb => by have h1 := HMX.out.rows.lt hx hb; omega)
      have HMX : Hid (MxM w24 bm ⟨oa, on, oc⟩ rvs' vss' d.rs) := Lib.hid (HMX.out.below hbn)
      have HV : Hid (Oe bc 4 w24 (.slice av d.mv.length cv) d.mv) := Lib.hid (HV.out.below hbn)
      have HT : Hid (Ow vc 1 32 w24 gt (.slice (some ⟨gt, 0, none⟩) d.n d.n) (List.replicate d.n Sl.nil)) := Lib.hid (hnew)
      have HGT2 : Hid (gt < w24.heap.size) := Lib.hid (by rw [hW, hg]; simp)
      clear hW hnew hg
      have K_w24 := KH_w23.out.step (by omega) hbn
      have KH_w24 := Lib.hid K_w24
      have hz_w24 := K_w24.size
      have hw_w24 := K_w24.below
      clear K_w24 hbn
      first | (refine ⟨rfl, ⟨⟨_, KH_w24.out, trivial⟩, rfl⟩, hK.out _ _ ?_⟩; clear hK K) | (refine ⟨⟨⟨_, KH_w24.out, trivial⟩, rfl⟩, hK.out _ _ ?_⟩; clear hK K)
      repeat (go_big_quiet_step (fail))
      refine wpQuiet_nil ?_
      refine ⟨fun K hK0 => ?_, trivial⟩
      have hK := Lib.hid hK0
      clear hK0
      go_wp2_with fail
      first | (refine ⟨rfl, hK.out _ _ ?_⟩; clear hK K) | (refine hK.out _ _ ?_; clear hK K)
      repeat (go_big_quiet_step (fail))
      refine wpQuiet_nil ?_
      clear _ne
      have hnew := newDr2 (d := d) (sv := ⟨av, d.mv.length, cv⟩) HMX.out HT.out HV.out HNE.out HBM.out HGT.out HGV.out hw_w24
      obtain ⟨wz, hwz⟩ : ∃ W, W = w24.alloc (.cells #[.slice oa on oc, .slice (some ⟨gt, 0, none⟩) d.n d.n, .slice av d.mv.length cv, .int .i64 d.rd, .int .i64 d.tn] 56) := ⟨_, rfl⟩
      have hbz : Below w.heap.size w wz := by rw [hwz]; exact hw_w24.alloc hw_w24.size _
      replace hnew : DrM wz w.heap.size (since w.heap.size (w24.heap.size + 1)) w24.heap.size ⟨d.rs, List.replicate d.n [], d.mv, d.rd, d.tn⟩ ⟨oa, on, oc⟩ ⟨some ⟨gt, 0, none⟩, d.n, d.n⟩ ⟨av, d.mv.length, cv⟩ rvs' (vss' ++ [List.replicate d.n Sl.nil]) := by rw [hwz]; exact hnew
      obtain ⟨Q, hQ⟩ : ∃ Q, Q = w24.heap.size := ⟨_, rfl⟩
      rw [← hwz, ← hQ]
      rw [← hQ] at hnew
      have HNEW := Lib.hid hnew
      have HBZ := Lib.hid hbz
      clear hnew hbz hwz hQ
      have c1z := (HBZ.out.cell (p := ⟨P, 1, none⟩) hP).trans c1
      have hPz : P < wz.heap.size := Nat.lt_of_lt_of_le hP HBZ.out.size
      go_wp2_with fail
      go_loopw [39] (fun i wr => CyRel w d Q ⟨oa, on, oc⟩ ⟨some ⟨gt, 0, none⟩, d.n, d.n⟩ ⟨av, d.mv.length, cv⟩ rvs' i wr) (fun i _ => d.n - (intOf i).toNat)
      case atStart => exact ⟨0, _, _, Nat.zero_le _, rfl, by rw [List.take_zero, List.nil_append, Nat.sub_zero]; exact HNEW.out, HBZ.out⟩
      case round =>
        clear c1z
        obtain ⟨k, S3, vss3, hk, rfl, hdk, hb⟩ := hrel
        have HDK := Lib.hid hdk
        have HB := Lib.hid hb
        have hz_wr := hb.size
        clear hdk
        by_cases hkl : k < d.n
        · obtain ⟨l, hl⟩ : ∃ l, d.tk[k]? = some l := ⟨_, List.getElem?_eq_getElem (show k < d.tk.length from hkl)⟩
          obtain ⟨tb0, ta0, tc0, ht0⟩ := HD.out.tkc hl
          have hsta := ht0.ta
          have e_s := (hb.cell (p := ⟨tb0, k, none⟩) ht0.tl).trans ht0.tcell
          have HTRW : Hid (Rw ic 1 wr (.slice ta0 l.length tc0) l) := Lib.hid (((ht0.row.rw ic_len)).below hb)
          have hts : tb0 < wr.heap.size := Nat.lt_of_lt_of_le ht0.tl hz_wr
          have HTLL : Hid (l.length ≤ 100) := Lib.hid (tk_len HIV.out hl)
          obtain ⟨tb, ta, tc, htk⟩ := HDK.out.tkc (p := k) (l := []) (tk_nil hl)
          have hta := htk.ta
          simp only [Option.some.injEq, Addr.mk.injEq] at hta
          obtain ⟨rfl, _⟩ := hta
          have e_t : wr.cell? ⟨gt, k, none⟩ = Option.some (.slice ta 0 tc) := htk.tcell
          have htl := htk.tl
          have HTPV := Lib.hid htk.pv
          have HTTY : Hid (Ty wr (some gt) 32) := Lib.hid (by
            obtain ⟨tvs, _, _, h3⟩ := HDK.out.tval
            exact h3.ty htk.tb)
          have q1 : wr.cell? ⟨Q, 1, none⟩ = Option.some (.slice (some ⟨gt, 0, none⟩) d.n d.n) := HDK.out.cell 1
          have hQr := HDK.out.lt
          have i1 : (0 : Int) ≤ (k : Int) := by omega
          have i2 : (k : Int) < (d.n : Int) := by omega
          rw [hsta]
          have HLK := Lib.hid hl
          clear ht0 htk hl hb
          go_wp2_with fail
          refine rg25_7 (w0 := wr) (B := wr.heap.size) (n := wr.heap.size) (L := []) (E := fun _ => True) (F := fun _ => True) (by kernel_rfl) (by kernel_rfl) ⟨by go_grown, by go_size, (by simp [go_sem] <;> omega)⟩ trivial (fun _ _ _ _ => trivial) trivial (fun _ _ _ _ => trivial) (fun w41 K_w41 E_w41 F_w41 => ?_)
          have _ne : Nonempty (KX (wr.heap.size) wr (wr.heap.size) [] (fun _ => True)) := ⟨⟨_, K_w41, E_w41⟩⟩
          repeat (go_big_quiet_step (fail))
          refine wpQuiet_nil ?_
          have rx0 : ∀ s : KX (wr.heap.size) wr (wr.heap.size) [] (fun _ => True), s.val.cell? ⟨Q, 1, none⟩ = some (.slice (some ⟨gt, 0, none⟩) d.n d.n) := fun s => (s.kept.below.cell (p := ⟨Q, 1, none⟩) hQr).trans q1
          repeat (go_big_quiet_step (fail))
          refine wpQuiet_nil ?_
          clear rx0
          have KH_w41 := Lib.hid K_w41
          have hw_w41 := K_w41.below
          have hz_w41 := K_w41.size
          clear K_w41
          clear E_w41 F_w41
          refine ⟨fun K hK0 => ?_, trivial⟩
          have hK := Lib.hid hK0
          clear hK0
          go_wp2_with fail
          with_reducible refine (clone33 _ _ (HTRW.out.below hw_w41) (by have := HTLL.out; omega)).mono ?_
          rintro e w42 ⟨v, rfl, hv, hbn⟩
          obtain ⟨ae, ce, rfl⟩ := hv.form
          have HVE := Lib.hid hv
          have HVN : Hid (∀ b, blk (.slice ae l.length ce) = Option.some b → wr.heap.size ≤ b) := Lib.hid (fun b hb => by have := (hv.typ b hb).1; have := hw_w41.size; omega)
          have HBN := Lib.hid (below_via hw_w41 hbn)
          have hct : w42.cell? ⟨gt, k, none⟩ = Option.some (.slice ta 0 tc) := (HBN.out.cell (p := ⟨gt, k, none⟩) htl).trans e_t
          have hft : w42.frozen? ⟨gt, k, none⟩ = false := ((Onl.of HBN.out : Onl [] wr w42).frozen htl (by simp)).trans (ty_frozen HTTY.out _)
          clear hv
          have K_w42 := KH_w41.out.step (by omega) hbn
          have KH_w42 := Lib.hid K_w42
          have hz_w42 := K_w42.size
          have hw_w42 := K_w42.below
          clear K_w42 hbn
          go_wp2_with fail
          first | (refine ⟨rfl, ⟨⟨_, KH_w42.out, trivial⟩, rfl⟩, hK.out _ _ ?_⟩; clear hK K) | (refine ⟨⟨⟨_, KH_w42.out, trivial⟩, rfl⟩, hK.out _ _ ?_⟩; clear hK K)
          repeat (go_big_quiet_step (fail))
          refine wpQuiet_nil ?_
          refine ⟨fun K hK0 => ?_, trivial⟩
          have hK := Lib.hid hK0
          clear hK0
          go_wp2_with fail
          first | (refine ⟨rfl, hK.out _ _ ?_⟩; clear hK K) | (refine hK.out _ _ ?_; clear hK K)
          clear _ne
          go_upto_region 8 with fail
          have hput := HDK.out.putc (w2 := w42) (T := []) (i := d.rs.length) (k := k) (S' := S3 ++ obl (.slice ae l.length ce)) (d' := ⟨d.rs, d.tk.take (k + 1) ++ List.replicate (d.n - (k + 1)) [], d.mv, d.rd, d.tn⟩) (s' := ⟨ae, l.length, ce⟩) HTPV.out (g := gt) (n := d.n) (rc := d.n) (by have h := HDK.out.rlen; rw [← h]; simp) (.of HBN.out) (fun b hb => by simp at hb) (Oe.of_ow HVE.out) (fun b hb => .inr (HVN.out b hb)) (fun b hb => List.mem_append_left _ hb) (fun b hb => List.mem_append_right _ (mem_obl.2 hb)) (fun b hb => by
            rcases List.mem_append.1 hb with h | h
            · exact .inl h
            · exact .inr ⟨HVN.out b (mem_obl.1 h), (HVE.out.typ b (mem_obl.1 h)).2.1⟩) (by
            have h := set2_last d.rs (d.tk.take k ++ List.replicate (d.n - k) []) k l
            rw [tk_set HLK.out] at h
            exact h.symm) rfl rfl rfl
          obtain ⟨wn, hwn⟩ : ∃ W, W = w42.setCell ⟨gt, k, none⟩ (.slice ae l.length ce) := ⟨_, rfl⟩
          rw [show (w42.setCell ⟨gt, k, none⟩ (Sl.v ⟨ae, l.length, ce⟩)) = wn from hwn.symm] at hput
          rw [← hwn]
          have HDN := Lib.hid hput.1
          have HBNN : Hid (Below w.heap.size w wn) := Lib.hid (HB.out.trans (hput.2.below' (fun b hb => (HDK.out.new b hb).1) hz_wr))
          clear hput hwn
          go_wp2_with fail
          go_roundw
          case rel => exact ⟨k + 1, _, _, by omega, by go_num, HDN.out, HBNN.out⟩
          case measure => simp [intOf]; omega
        · obtain rfl : k = d.n := by omega
          have HFIN : Hid (DrAt wr w.heap.size S3 Q d) := Lib.hid ⟨_, _, _, _, vss3, by
            have h := HDK.out
            rw [Nat.sub_self, List.replicate_zero, List.append_nil, show d.n = d.tk.length from rfl, List.take_length] at h
            exact h⟩
          clear hb
          go_wp2_with fail
          go_returns
          exact ⟨_, _, rfl, HFIN.out, HB.out⟩
  · skip
    have hK := Lib.hid hK0
    clear hK0
    go_wp2_with fail
    obtain ⟨w22, hW⟩ : ∃ W, W = w21.alloc (.cells (madeCells #[.slice none 0 0] d.n) 32) := ⟨_, rfl⟩
    have hbn : Below w21.heap.size w21 w22 := by rw [hW]; exact (Below.refl _ _).alloc (Nat.le_refl _) _
    have hnew := made_ow (f := vc) (d := Sl.nil) (z := .slice none 0 0) (fun _ => rfl) rfl w21 32 d.n (by omega)
    rw [← hW] at hnew ⊢
    obtain ⟨gt, hg⟩ : ∃ g, g = w21.heap.size := ⟨_, rfl⟩
    rw [← hg] at hnew ⊢
    have HGT : Hid (w.heap.size ≤ gt) := Lib.hid (by have := hw_w21.size; omega)
    have HT : Hid (Ow vc 1 32 w22 gt (.slice (some ⟨gt, 0, none⟩) d.n d.n) (List.replicate d.n Sl.nil)) := Lib.hid (hnew)
    have HGT2 : Hid (gt < w22.heap.size) := Lib.hid (by rw [hW, hg]; simp)
    clear hW hnew hg
    have K_w22 := KH_w21.out.step (by omega) hbn
    have KH_w22 := Lib.hid K_w22
    have hz_w22 := K_w22.size
    have hw_w22 := K_w22.below
    clear K_w22 hbn
    first | (refine ⟨rfl, ⟨⟨_, KH_w22.out, trivial⟩, rfl⟩, hK.out _ _ ?_⟩; clear hK K) | (refine ⟨⟨⟨_, KH_w22.out, trivial⟩, rfl⟩, hK.out _ _ ?_⟩; clear hK K)
    refine ⟨fun K hK0 => ?_, trivial⟩
    have hK := Lib.hid hK0
    clear hK0
    go_wp2_with fail
    with_reducible refine (copied29 _ d.rs _ (HRW.out.below hw_w22) HSM.out).mono ?_
    rintro e w23 ⟨⟨oa, on, oc⟩, rvs', vss', he, hmx, hbn⟩
    replace he : e = .returned (.slice oa on oc) := he
    subst he
    obtain ⟨bm, hbm⟩ : ∃ g, g = w22.heap.size := ⟨_, rfl⟩
    rw [← hbm] at hmx
    have HBM : Hid (w.heap.size ≤ bm) := Lib.hid (by have := hw_w22.size; omega)
    have HNE0 := HGT2.out
    have HT : Hid (Ow vc 1 32 w23 gt (.slice (some ⟨gt, 0, none⟩) d.n d.n) (List.replicate d.n Sl.nil)) := Lib.hid (HT.out.below hbn)
    have HGT2 : Hid (gt < w23.heap.size) := Lib.hid (Nat.lt_of_lt_of_le HGT2.out hbn.size)
    have HMX : Hid (MxM w23 bm ⟨oa, on, oc⟩ rvs' vss' d.rs) := Lib.hid (hmx)
    have HNE : Hid (∀ x ∈ rvs', ∀ b, blk x.v = Option.some b → b ≠ gt) := Lib.hid (fun x hx b hb => by have h1 := HMX.out.br x hx b hb; have h2 := HNE0; omega)
    clear HNE0
    clear hmx
    have K_w23 := KH_w22.out.step (by omega) hbn
    have KH_w23 := Lib.hid K_w23
    have hz_w23 := K_w23.size
    have hw_w23 := K_w23.below
    clear K_w23 hbn
    clear hbm
    go_wp2_with fail
    first | (refine ⟨rfl, ⟨⟨_, KH_w23.out, trivial⟩, rfl⟩, hK.out _ _ ?_⟩; clear hK K) | (refine ⟨⟨⟨_, KH_w23.out, trivial⟩, rfl⟩, hK.out _ _ ?_⟩; clear hK K)
    refine ⟨fun K hK0 => ?_, trivial⟩
    have hK := Lib.hid hK0
    clear hK0
    go_wp2_with fail
    with_reducible refine (clone37 _ _ (HMR.out.below hw_w23) (by have := HMVL.out; omega)).mono ?_
    rintro e w24 ⟨v, rfl, hv, hbn⟩
    obtain ⟨av, cv, rfl⟩ := hv.form
    have HGV : Hid (∀ b, blk (.slice av d.mv.length cv) = Option.some b → w.heap.size ≤ b) := Lib.hid (fun b hb => by have := (hv.typ b hb).1; have := hw_w23.size; omega)
    have HT : Hid (Ow vc 1 32 w24 gt (.slice (some ⟨gt, 0, none⟩) d.n d.n) (List.replicate d.n Sl.nil)) := Lib.hid (HT.out.below hbn)
    have HGT2 : Hid (gt < w24.heap.size) := Lib.hid (Nat.lt_of_lt_of_le HGT2.out hbn.size)
    have HMX : Hid (MxM w24 bm ⟨oa, on, oc⟩ rvs' vss' d.rs) := Lib.hid (HMX.out.below hbn)
    have HV : Hid (Oe bc 4 w24 (.slice av d.mv.length cv) d.mv) := Lib.hid (Oe.of_ow hv)
    clear hv
    have K_w24 := KH_w23.out.step (by omega) hbn
    have KH_w24 := Lib.hid K_w24
    have hz_w24 := K_w24.size
    have hw_w24 := K_w24.below
    clear K_w24 hbn
    go_wp2_with fail
    first | (refine ⟨rfl, ⟨⟨_, KH_w24.out, trivial⟩, rfl⟩, hK.out _ _ ?_⟩; clear hK K) | (refine ⟨⟨⟨_, KH_w24.out, trivial⟩, rfl⟩, hK.out _ _ ?_⟩; clear hK K)
    repeat (go_big_quiet_step (fail))
    refine wpQuiet_nil ?_
    refine ⟨fun K hK0 => ?_, trivial⟩
    have hK := Lib.hid hK0
    clear hK0
    go_wp2_with fail
    first | (refine ⟨rfl, hK.out _ _ ?_⟩; clear hK K) | (refine hK.out _ _ ?_; clear hK K)
    repeat (go_big_quiet_step (fail))
    refine wpQuiet_nil ?_
    clear _ne
    have hnew := newDr2 (d := d) (sv := ⟨av, d.mv.length, cv⟩) HMX.out HT.out HV.out HNE.out HBM.out HGT.out HGV.out hw_w24
    obtain ⟨wz, hwz⟩ : ∃ W, W = w24.alloc (.cells #[.slice oa on oc, .slice (some ⟨gt, 0, none⟩) d.n d.n, .slice av d.mv.length cv, .int .i64 d.rd, .int .i64 d.tn] 56) := ⟨_, rfl⟩
    have hbz : Below w.heap.size w wz := by rw [hwz]; exact hw_w24.alloc hw_w24.size _
    replace hnew : DrM wz w.heap.size (since w.heap.size (w24.heap.size + 1)) w24.heap.size ⟨d.rs, List.replicate d.n [], d.mv, d.rd, d.tn⟩ ⟨oa, on, oc⟩ ⟨some ⟨gt, 0, none⟩, d.n, d.n⟩ ⟨av, d.mv.length, cv⟩ rvs' (vss' ++ [List.replicate d.n Sl.nil]) := by rw [hwz]; exact hnew
    obtain ⟨Q, hQ⟩ : ∃ Q, Q = w24.heap.size := ⟨_, rfl⟩
    rw [← hwz, ← hQ]
    rw [← hQ] at hnew
    have HNEW := Lib.hid hnew
    have HBZ := Lib.hid hbz
    clear hnew hbz hwz hQ
    have c1z := (HBZ.out.cell (p := ⟨P, 1, none⟩) hP).trans c1
    have hPz : P < wz.heap.size := Nat.lt_of_lt_of_le hP HBZ.out.size
    go_wp2_with fail
    go_loopw [39] (fun i wr => CyRel w d Q ⟨oa, on, oc⟩ ⟨some ⟨gt, 0, none⟩, d.n, d.n⟩ ⟨av, d.mv.length, cv⟩ rvs' i wr) (fun i _ => d.n - (intOf i).toNat)
    case atStart => exact ⟨0, _, _, Nat.zero_le _, rfl, by rw [List.take_zero, List.nil_append, Nat.sub_zero]; exact HNEW.out, HBZ.out⟩
    case round =>
      clear c1z
      obtain ⟨k, S3, vss3, hk, rfl, hdk, hb⟩ := hrel
      have HDK := Lib.hid hdk
      have HB := Lib.hid hb
      have hz_wr := hb.size
      clear hdk
      by_cases hkl : k < d.n
      · obtain ⟨l, hl⟩ : ∃ l, d.tk[k]? = some l := ⟨_, List.getElem?_eq_getElem (show k < d.tk.length from hkl)⟩
        obtain ⟨tb0, ta0, tc0, ht0⟩ := HD.out.tkc hl
        have hsta := ht0.ta
        have e_s := (hb.cell (p := ⟨tb0, k, none⟩) ht0.tl).trans ht0.tcell
        have HTRW : Hid (Rw ic 1 wr (.slice ta0 l.length tc0) l) := Lib.hid (((ht0.row.rw ic_len)).below hb)
        have hts : tb0 < wr.heap.size := Nat.lt_of_lt_of_le ht0.tl hz_wr
        have HTLL : Hid (l.length ≤ 100) := Lib.hid (tk_len HIV.out hl)
        obtain ⟨tb, ta, tc, htk⟩ := HDK.out.tkc (p := k) (l := []) (tk_nil hl)
        have hta := htk.ta
        simp only [Option.some.injEq, Addr.mk.injEq] at hta
        obtain ⟨rfl, _⟩ := hta
        have e_t : wr.cell? ⟨gt, k, none⟩ = Option.some (.slice ta 0 tc) := htk.tcell
        have htl := htk.tl
        have HTPV := Lib.hid htk.pv
        have HTTY : Hid (Ty wr (some gt) 32) := Lib.hid (by
          obtain ⟨tvs, _, _, h3⟩ := HDK.out.tval
          exact h3.ty htk.tb)
        have q1 : wr.cell? ⟨Q, 1, none⟩ = Option.some (.slice (some ⟨gt, 0, none⟩) d.n d.n) := HDK.out.cell 1
        have hQr := HDK.out.lt
        have i1 : (0 : Int) ≤ (k : Int) := by omega
        have i2 : (k : Int) < (d.n : Int) := by omega
        rw [hsta]
        have HLK := Lib.hid hl
        clear ht0 htk hl hb
        go_wp2_with fail
        refine rg25_7 (w0 := wr) (B := wr.heap.size) (n := wr.heap.size) (L := []) (E := fun _ => True) (F := fun _ => True) (by kernel_rfl) (by kernel_rfl) ⟨by go_grown, by go_size, (by simp [go_sem] <;> omega)⟩ trivial (fun _ _ _ _ => trivial) trivial (fun _ _ _ _ => trivial) (fun w41 K_w41 E_w41 F_w41 => ?_)
        have _ne : Nonempty (KX (wr.heap.size) wr (wr.heap.size) [] (fun _ => True)) := ⟨⟨_, K_w41, E_w41⟩⟩
        repeat (go_big_quiet_step (fail))
        refine wpQuiet_nil ?_
        have rx0 : ∀ s : KX (wr.heap.size) wr (wr.heap.size) [] (fun _ => True), s.val.cell? ⟨Q, 1, none⟩ = some (.slice (some ⟨gt, 0, none⟩) d.n d.n) := fun s => (s.kept.below.cell (p := ⟨Q, 1, none⟩) hQr).trans q1
        repeat (go_big_quiet_step (fail))
        refine wpQuiet_nil ?_
        clear rx0
        have KH_w41 := Lib.hid K_w41
        have hw_w41 := K_w41.below
        have hz_w41 := K_w41.size
        clear K_w41
        clear E_w41 F_w41
        refine ⟨fun K hK0 => ?_, trivial⟩
        have hK := Lib.hid hK0
        clear hK0
        go_wp2_with fail
        with_reducible refine (clone33 _ _ (HTRW.out.below hw_w41) (by have := HTLL.out; omega)).mono ?_
        rintro e w42 ⟨v, rfl, hv, hbn⟩
        obtain ⟨ae, ce, rfl⟩ := hv.form
        have HVE := Lib.hid hv
        have HVN : Hid (∀ b, blk (.slice ae l.length ce) = Option.some b → wr.heap.size ≤ b) := Lib.hid (fun b hb => by have := (hv.typ b hb).1; have := hw_w41.size; omega)
        have HBN := Lib.hid (below_via hw_w41 hbn)
        have hct : w42.cell? ⟨gt, k, none⟩ = Option.some (.slice ta 0 tc) := (HBN.out.cell (p := ⟨gt, k, none⟩) htl).trans e_t
        have hft : w42.frozen? ⟨gt, k, none⟩ = false := ((Onl.of HBN.out : Onl [] wr w42).frozen htl (by simp)).trans (ty_frozen HTTY.out _)
        clear hv
        have K_w42 := KH_w41.out.step (by omega) hbn
        have KH_w42 := Lib.hid K_w42
        have hz_w42 := K_w42.size
        have hw_w42 := K_w42.below
        clear K_w42 hbn
        go_wp2_with fail
        first | (refine ⟨rfl, ⟨⟨_, KH_w42.out, trivial⟩, rfl⟩, hK.out _ _ ?_⟩; clear hK K) | (refine ⟨⟨⟨_, KH_w42.out, trivial⟩, rfl⟩, hK.out _ _ ?_⟩; clear hK K)
        repeat (go_big_quiet_step (fail))
        refine wpQuiet_nil ?_
        refine ⟨fun K hK0 => ?_, trivial⟩
        have hK := Lib.hid hK0
        clear hK0
        go_wp2_with fail
        first | (refine ⟨rfl, hK.out _ _ ?_⟩; clear hK K) | (refine hK.out _ _ ?_; clear hK K)
        clear _ne
        go_upto_region 8 with fail
        have hput := HDK.out.putc (w2 := w42) (T := []) (i := d.rs.length) (k := k) (S' := S3 ++ obl (.slice ae l.length ce)) (d' := ⟨d.rs, d.tk.take (k + 1) ++ List.replicate (d.n - (k + 1)) [], d.mv, d.rd, d.tn⟩) (s' := ⟨ae, l.length, ce⟩) HTPV.out (g := gt) (n := d.n) (rc := d.n) (by have h := HDK.out.rlen; rw [← h]; simp) (.of HBN.out) (fun b hb => by simp at hb) (Oe.of_ow HVE.out) (fun b hb => .inr (HVN.out b hb)) (fun b hb => List.mem_append_left _ hb) (fun b hb => List.mem_append_right _ (mem_obl.2 hb)) (fun b hb => by
          rcases List.mem_append.1 hb with h | h
          · exact .inl h
          · exact .inr ⟨HVN.out b (mem_obl.1 h), (HVE.out.typ b (mem_obl.1 h)).2.1⟩) (by
          have h := set2_last d.rs (d.tk.take k ++ List.replicate (d.n - k) []) k l
          rw [tk_set HLK.out] at h
          exact h.symm) rfl rfl rfl
        obtain ⟨wn, hwn⟩ : ∃ W, W = w42.setCell ⟨gt, k, none⟩ (.slice ae l.length ce) := ⟨_, rfl⟩
        rw [show (w42.setCell ⟨gt, k, none⟩ (Sl.v ⟨ae, l.length, ce⟩)) = wn from hwn.symm] at hput
        rw [← hwn]
        have HDN := Lib.hid hput.1
        have HBNN : Hid (Below w.heap.size w wn) := Lib.hid (HB.out.trans (hput.2.below' (fun b hb => (HDK.out.new b hb).1) hz_wr))
        clear hput hwn
        go_wp2_with fail
        go_roundw
        case rel => exact ⟨k + 1, _, _, by omega, by go_num, HDN.out, HBNN.out⟩
        case measure => simp [intOf]; omega
      · obtain rfl : k = d.n := by omega
        have HFIN : Hid (DrAt wr w.heap.size S3 Q d) := Lib.hid ⟨_, _, _, _, vss3, by
          have h := HDK.out
          rw [Nat.sub_self, List.replicate_zero, List.append_nil, show d.n = d.tk.length from rfl, List.take_length] at h
          exact h⟩
        clear hb
        go_wp2_with fail
        go_returns
        exact ⟨_, _, rfl, HFIN.out, HB.out⟩

end Go.Proofs.Yteocplabibhecaa
