/- The stage's theorem: the walk. -/
import Derived.Test.YteoeahmnonolmaaSNo
import Derived.Test.YteoeahmnonolmaaSPh
import Derived.Test.YteoeahmnonolmaaBCr
import Derived.Test.YteoeahmnonolmaaSOf
import Derived.Test.YteoeahmnonolmaaSE4
import Derived.Test.YteoeahmnonolmaaSE1
import Derived.Deep.DeepCutAuto
import Derived.LoopTactic
import Derived.Deep.MidRow
namespace Go.Proofs.Yteoeahmnonolmaa
open Go.RowKit Plain
set_option linter.unusedVariables false
set_option linter.unusedSimpArgs false

theorem rg6_7 {P : Program} {B n : Nat} {w0 : World} {L : List (Nat × Nat × Value)} {E F : World → Prop} {id : Nat} {Q : Exit → Act → World → Prop} {a : Act} {w : World} {o0 o1 o2 o3 o4 o5 o6 o7 o8 o9 o10 o11 o12 : Oper} (hm : P.follows .mixedOrders = true)
    (hB : (Region.noSelect [o0, o1, o2, o3, o4, o5, o6, o7, o8, o9, o10, o11, o12].toArray && Scr.ok .any [o0, o1, o2, o3, o4, o5, o6, o7, o8, o9, o10, o11, o12].toArray [4, 10] [0, 1, 2, 3, 6, 7, 8, 9, 12] (.free 0 (.free 1 (.free 2 (.free 3 (.free 6 (.free 7 (.free 8 (.free 9 (.read 4 (.read 10 (.alt 5 (.alt 11 (.free 12 .done) .stop) .stop))))))))))) true true [o0, o1, o2, o3, o4, o5, o6, o7, o8, o9, o10, o11, o12].toArray.size (Array.replicate [o0, o1, o2, o3, o4, o5, o6, o7, o8, o9, o10, o11, o12].toArray.size false)) = true)
    (k : Kept B w0 n L w) (he : E w) (hE : ∀ W W', E W → Below W.heap.size W W' → E W') (hf : F w) (hF : ∀ W W', F W → Below W.heap.size W W' → F W')
    (h : ∀ wk, Kept B w0 n L wk → E wk → F wk → wpQuiet P [o0, o1, o2, o3, o4, o5, o6, o7, o8, o9, o10, o11, o12].toArray (fun _ => True) (fun a0 => wpQuiet P [o0, o1, o2, o3, o4, o5, o6, o7, o8, o9, o10, o11, o12].toArray (fun w' => ∃ s : KX B w0 n L E, w' = s.val) (fun a1 => ((∀ K2 : Act → World → Prop, (∀ a2 w2, ((∀ K3 : Act → World → Prop, (∀ a3 w3, wpQuiet P [o0, o1, o2, o3, o4, o5, o6, o7, o8, o9, o10, o11, o12].toArray (fun _ => True) (fun a4 => Q .normal a4 w3) [o12] a3 → K3 a3 w3) → wpList P [o0, o1, o2, o3, o4, o5, o6, o7, o8, o9, o10, o11, o12].toArray (fun e a3 w3 => e = .normal ∧ (∃ s : KX B w0 n L E, w3 = s.val) ∧ K3 a3 w3) [o11] a2 w2) ∧ True) → K2 a2 w2) → wpList P [o0, o1, o2, o3, o4, o5, o6, o7, o8, o9, o10, o11, o12].toArray (fun e a2 w2 => e = .normal ∧ (∃ s : KX B w0 n L E, w2 = s.val) ∧ K2 a2 w2) [o5] a1 wk) ∧ True)) [o4, o10] a0) [o0, o1, o2, o3, o6, o7, o8, o9] a) : (Code.region id [o0, o1, o2, o3, o4, o5, o6, o7, o8, o9, o10, o11, o12].toArray true).wp P Q a w := by
  have e1 : E w.drew := hE _ _ he ((Below.refl _ _).drew)
  have g := h _ k.drew e1 (hF _ _ hf ((Below.refl _ _).drew))
  exact wp_region_scr (U := (fun w' => ∃ s : KX B w0 n L E, w' = s.val)) (ops := [o0, o1, o2, o3, o4, o5, o6, o7, o8, o9, o10, o11, o12].toArray) (.free 0 (.free 1 (.free 2 (.free 3 (.free 6 (.free 7 (.free 8 (.free 9 (.read 4 (.read 10 (.alt 5 (.alt 11 (.free 12 .done) .stop) .stop))))))))))) [4, 10] [0, 1, 2, 3, 6, 7, 8, 9, 12] hm hB ⟨⟨_, k.drew, e1⟩, rfl⟩ (Scr.of_free rfl g (fun _ g0 => Scr.of_free rfl g0 (fun _ g1 => Scr.of_free rfl g1 (fun _ g2 => Scr.of_free rfl g2 (fun _ g3 => Scr.of_free rfl g3 (fun _ g4 => Scr.of_free rfl g4 (fun _ g5 => Scr.of_free rfl g5 (fun _ g6 => Scr.of_free rfl g6 (fun _ g7 => Scr.of_read rfl g7 (fun _ g8 => Scr.of_read rfl g8 (fun _ g9 => (Scr.of_alt rfl (g9.1 _ (fun _ _ g => g)) (fun _ _ g10 => (Scr.of_alt rfl (g10.1 _ (fun _ _ g => g)) (fun _ _ g11 => Scr.of_free rfl g11 (fun _ g12 => g12)) trivial)) trivial))))))))))))
theorem rg6_15 {P : Program} {B n : Nat} {w0 : World} {L : List (Nat × Nat × Value)} {E F : World → Prop} {id : Nat} {Q : Exit → Act → World → Prop} {a : Act} {w : World} {o0 o1 o2 o3 o4 o5 o6 o7 o8 o9 o10 o11 o12 o13 o14 o15 : Oper} (hm : P.follows .mixedOrders = true)
    (hB : (Region.noSelect [o0, o1, o2, o3, o4, o5, o6, o7, o8, o9, o10, o11, o12, o13, o14, o15].toArray && Scr.ok .any [o0, o1, o2, o3, o4, o5, o6, o7, o8, o9, o10, o11, o12, o13, o14, o15].toArray [3, 7, 13] [0, 1, 2, 4, 5, 6, 8, 9, 10, 11, 12, 14, 15] (.free 0 (.free 1 (.free 2 (.free 4 (.free 5 (.free 6 (.read 3 (.read 7 (.free 8 (.free 9 (.free 10 (.free 11 (.free 12 (.read 13 (.free 14 (.free 15 .done)))))))))))))))) true true [o0, o1, o2, o3, o4, o5, o6, o7, o8, o9, o10, o11, o12, o13, o14, o15].toArray.size (Array.replicate [o0, o1, o2, o3, o4, o5, o6, o7, o8, o9, o10, o11, o12, o13, o14, o15].toArray.size false)) = true)
    (k : Kept B w0 n L w) (he : E w) (hE : ∀ W W', E W → Below W.heap.size W W' → E W') (hf : F w) (hF : ∀ W W', F W → Below W.heap.size W W' → F W')
    (h : ∀ wk, Kept B w0 n L wk → E wk → F wk → wpQuiet P [o0, o1, o2, o3, o4, o5, o6, o7, o8, o9, o10, o11, o12, o13, o14, o15].toArray (fun _ => True) (fun a0 => wpQuiet P [o0, o1, o2, o3, o4, o5, o6, o7, o8, o9, o10, o11, o12, o13, o14, o15].toArray (fun w' => ∃ s : KX B w0 n L E, w' = s.val) (fun a1 => wpQuiet P [o0, o1, o2, o3, o4, o5, o6, o7, o8, o9, o10, o11, o12, o13, o14, o15].toArray (fun _ => True) (fun a2 => wpQuiet P [o0, o1, o2, o3, o4, o5, o6, o7, o8, o9, o10, o11, o12, o13, o14, o15].toArray (fun w' => ∃ s : KX B w0 n L E, w' = s.val) (fun a3 => wpQuiet P [o0, o1, o2, o3, o4, o5, o6, o7, o8, o9, o10, o11, o12, o13, o14, o15].toArray (fun _ => True) (fun a4 => Q .normal a4 wk) [o14, o15] a3) [o13] a2) [o8, o9, o10, o11, o12] a1) [o3, o7] a0) [o0, o1, o2, o4, o5, o6] a) : (Code.region id [o0, o1, o2, o3, o4, o5, o6, o7, o8, o9, o10, o11, o12, o13, o14, o15].toArray true).wp P Q a w := by
  have e1 : E w.drew := hE _ _ he ((Below.refl _ _).drew)
  have g := h _ k.drew e1 (hF _ _ hf ((Below.refl _ _).drew))
  exact wp_region_scr (U := (fun w' => ∃ s : KX B w0 n L E, w' = s.val)) (ops := [o0, o1, o2, o3, o4, o5, o6, o7, o8, o9, o10, o11, o12, o13, o14, o15].toArray) (.free 0 (.free 1 (.free 2 (.free 4 (.free 5 (.free 6 (.read 3 (.read 7 (.free 8 (.free 9 (.free 10 (.free 11 (.free 12 (.read 13 (.free 14 (.free 15 .done)))))))))))))))) [3, 7, 13] [0, 1, 2, 4, 5, 6, 8, 9, 10, 11, 12, 14, 15] hm hB ⟨⟨_, k.drew, e1⟩, rfl⟩ (Scr.of_free rfl g (fun _ g0 => Scr.of_free rfl g0 (fun _ g1 => Scr.of_free rfl g1 (fun _ g2 => Scr.of_free rfl g2 (fun _ g3 => Scr.of_free rfl g3 (fun _ g4 => Scr.of_free rfl g4 (fun _ g5 => Scr.of_read rfl g5 (fun _ g6 => Scr.of_read rfl g6 (fun _ g7 => Scr.of_free rfl g7 (fun _ g8 => Scr.of_free rfl g8 (fun _ g9 => Scr.of_free rfl g9 (fun _ g10 => Scr.of_free rfl g10 (fun _ g11 => Scr.of_free rfl g11 (fun _ g12 => Scr.of_read rfl g12 (fun _ g13 => Scr.of_free rfl g13 (fun _ g14 => Scr.of_free rfl g14 (fun _ g15 => g15)))))))))))))))))
theorem rg6_21 {P : Program} {B n : Nat} {w0 : World} {L : List (Nat × Nat × Value)} {E F : World → Prop} {id : Nat} {Q : Exit → Act → World → Prop} {a : Act} {w : World} {o0 o1 o2 o3 o4 o5 o6 o7 o8 o9 o10 o11 o12 o13 o14 o15 o16 o17 o18 o19 o20 o21 o22 o23 : Oper} (hm : P.follows .mixedOrders = true)
    (hB : (Region.noSelect [o0, o1, o2, o3, o4, o5, o6, o7, o8, o9, o10, o11, o12, o13, o14, o15, o16, o17, o18, o19, o20, o21, o22, o23].toArray && Scr.ok .any [o0, o1, o2, o3, o4, o5, o6, o7, o8, o9, o10, o11, o12, o13, o14, o15, o16, o17, o18, o19, o20, o21, o22, o23].toArray [15, 19] [0, 1, 2, 3, 4, 5, 6, 7, 8, 9, 10, 11, 12, 13, 14, 16, 17, 18, 20, 22] (.free 0 (.free 1 (.free 2 (.free 3 (.free 4 (.free 5 (.free 6 (.free 7 (.free 8 (.free 9 (.free 10 (.free 11 (.free 12 (.free 13 (.free 14 (.free 16 (.free 17 (.free 18 (.read 15 (.read 19 (.free 20 (.altc 21 (.free 22 (.altc 23 .done .stop)) .stop)))))))))))))))))))))) true true [o0, o1, o2, o3, o4, o5, o6, o7, o8, o9, o10, o11, o12, o13, o14, o15, o16, o17, o18, o19, o20, o21, o22, o23].toArray.size (Array.replicate [o0, o1, o2, o3, o4, o5, o6, o7, o8, o9, o10, o11, o12, o13, o14, o15, o16, o17, o18, o19, o20, o21, o22, o23].toArray.size false)) = true)
    (k : Kept B w0 n L w) (he : E w) (hE : ∀ W W', E W → Below W.heap.size W W' → E W') (hf : F w) (hF : ∀ W W', F W → Below W.heap.size W W' → F W')
    (h : ∀ wk, Kept B w0 n L wk → E wk → F wk → wpQuiet P [o0, o1, o2, o3, o4, o5, o6, o7, o8, o9, o10, o11, o12, o13, o14, o15, o16, o17, o18, o19, o20, o21, o22, o23].toArray (fun _ => True) (fun a0 => wpQuiet P [o0, o1, o2, o3, o4, o5, o6, o7, o8, o9, o10, o11, o12, o13, o14, o15, o16, o17, o18, o19, o20, o21, o22, o23].toArray (fun w' => ∃ s : KX B w0 n L E, w' = s.val) (fun a1 => wpQuiet P [o0, o1, o2, o3, o4, o5, o6, o7, o8, o9, o10, o11, o12, o13, o14, o15, o16, o17, o18, o19, o20, o21, o22, o23].toArray (fun _ => True) (fun a2 => ((∀ K3 : Act → World → Prop, (∀ a3 w3, wpQuiet P [o0, o1, o2, o3, o4, o5, o6, o7, o8, o9, o10, o11, o12, o13, o14, o15, o16, o17, o18, o19, o20, o21, o22, o23].toArray (fun _ => True) (fun a4 => ((∀ K5 : Act → World → Prop, (∀ a5 w5, Q .normal a5 w5 → K5 a5 w5) → wpList P [o0, o1, o2, o3, o4, o5, o6, o7, o8, o9, o10, o11, o12, o13, o14, o15, o16, o17, o18, o19, o20, o21, o22, o23].toArray (fun e a5 w5 => e = .normal ∧ K5 a5 w5) [o23] a4 w3) ∧ True)) [o22] a3 → K3 a3 w3) → wpList P [o0, o1, o2, o3, o4, o5, o6, o7, o8, o9, o10, o11, o12, o13, o14, o15, o16, o17, o18, o19, o20, o21, o22, o23].toArray (fun e a3 w3 => e = .normal ∧ K3 a3 w3) [o21] a2 wk) ∧ True)) [o20] a1) [o15, o19] a0) [o0, o1, o2, o3, o4, o5, o6, o7, o8, o9, o10, o11, o12, o13, o14, o16, o17, o18] a) : (Code.region id [o0, o1, o2, o3, o4, o5, o6, o7, o8, o9, o10, o11, o12, o13, o14, o15, o16, o17, o18, o19, o20, o21, o22, o23].toArray true).wp P Q a w := by
  have e1 : E w.drew := hE _ _ he ((Below.refl _ _).drew)
  have g := h _ k.drew e1 (hF _ _ hf ((Below.refl _ _).drew))
  exact wp_region_scr (U := (fun w' => ∃ s : KX B w0 n L E, w' = s.val)) (ops := [o0, o1, o2, o3, o4, o5, o6, o7, o8, o9, o10, o11, o12, o13, o14, o15, o16, o17, o18, o19, o20, o21, o22, o23].toArray) (.free 0 (.free 1 (.free 2 (.free 3 (.free 4 (.free 5 (.free 6 (.free 7 (.free 8 (.free 9 (.free 10 (.free 11 (.free 12 (.free 13 (.free 14 (.free 16 (.free 17 (.free 18 (.read 15 (.read 19 (.free 20 (.altc 21 (.free 22 (.altc 23 .done .stop)) .stop)))))))))))))))))))))) [15, 19] [0, 1, 2, 3, 4, 5, 6, 7, 8, 9, 10, 11, 12, 13, 14, 16, 17, 18, 20, 22] hm hB ⟨⟨_, k.drew, e1⟩, rfl⟩ (Scr.of_free rfl g (fun _ g0 => Scr.of_free rfl g0 (fun _ g1 => Scr.of_free rfl g1 (fun _ g2 => Scr.of_free rfl g2 (fun _ g3 => Scr.of_free rfl g3 (fun _ g4 => Scr.of_free rfl g4 (fun _ g5 => Scr.of_free rfl g5 (fun _ g6 => Scr.of_free rfl g6 (fun _ g7 => Scr.of_free rfl g7 (fun _ g8 => Scr.of_free rfl g8 (fun _ g9 => Scr.of_free rfl g9 (fun _ g10 => Scr.of_free rfl g10 (fun _ g11 => Scr.of_free rfl g11 (fun _ g12 => Scr.of_free rfl g12 (fun _ g13 => Scr.of_free rfl g13 (fun _ g14 => Scr.of_free rfl g14 (fun _ g15 => Scr.of_free rfl g15 (fun _ g16 => Scr.of_free rfl g16 (fun _ g17 => Scr.of_read rfl g17 (fun _ g18 => Scr.of_read rfl g18 (fun _ g19 => Scr.of_free rfl g19 (fun _ g20 => (Scr.of_altc rfl (g20.1 _ (fun _ _ g => g)) (fun _ _ g21 => Scr.of_free rfl g21 (fun _ g22 => (Scr.of_altc rfl (g22.1 _ (fun _ _ g => g)) (fun _ _ g23 => g23) trivial))) trivial)))))))))))))))))))))))
/-- the objects' row is changed -/
theorem BdO.setOb {lo hi : Nat} {w w' : World} {s : Bs} {B : Bd} {l : List Ob} (h : BdO lo hi w s B) {g : Nat} (hg : s.ob.v.ownBlock = some g) (ho : Onl [g] w w') (hn : Ox oc 12 79 lo hi w' s.ob.v l) : BdO lo hi w' s { B with ob := l } := by
  obtain ⟨_, _, cur, hc⟩ := h.ob.1.typ g hg
  have key : ∀ {γ : Type} {f' : γ → List Value} {sz' : Nat} {e' : TypeId} {v' : Value} {m : List γ}, 79 ≠ e' → Ox f' sz' e' lo hi w v' m → Ox f' sz' e' lo hi w' v' m := fun he h2 => h2.keep (fun k a b hb => ho.block k (h2.blk hb).2.2 (fun hm => by
    simp at hm
    subst hm
    obtain ⟨_, _, c, hc2⟩ := h2.1.typ _ hb
    rw [hc] at hc2
    simp at hc2
    exact he hc2.2))
  exact ⟨hn, fun j hj => key (by decide) (h.il j hj), h.nd, h.st.onlT ho hc (by decide) (by decide), h.qu.onlT ho hc (by decide) (by decide), h.ns, key (by decide) (h.bl)⟩
/-- a row of ids is changed -/
theorem BdO.setIl {lo hi : Nat} {w w' : World} {s : Bs} {B B' : Bd} (h : BdO lo hi w s B) {j g : Nat} (hj : j < 9) (hg : (s.isl j).v.ownBlock = some g) (ho : Onl [g] w w') (hn : Ox ic 1 3 lo hi w' (s.isl j).v (B'.il j)) (he : ∀ k, k < 9 → k ≠ j → B'.il k = B.il k) (h0 : B'.ob = B.ob) (h3 : B'.st = B.st) (h4 : B'.qu = B.qu) (h6 : B'.bl = B.bl) : BdO lo hi w' s B' := by
  obtain ⟨_, _, cur, hc⟩ := (h.il j hj).1.typ g hg
  refine ⟨by rw [h0]; exact h.ob.onlT ho hc (by decide), fun k hk => ?_, h.nd, by rw [h3]; exact h.st.onlT ho hc (by decide) (by decide), by rw [h4]; exact h.qu.onlT ho hc (by decide) (by decide), h.ns, by rw [h6]; exact h.bl.onlT ho hc (by decide)⟩
  by_cases hkj : k = j
  · subst hkj; exact hn
  · rw [he k hk hkj]
    exact (h.il k hk).keep (fun b _ _ hb => ho.block b ((h.il k hk).blk hb).2.2 (fun hm => by
      simp at hm
      subst hm
      exact h.nd k j hk hj hkj b hb hg))
structure HoI (w : World) (s : Bs) (B : Bd) (s2 : Bs) (lo n9 : Nat) (C : Bd) (wr : World) : Prop where
  below : Below w.heap.size w wr
  bx : Bx wr w.heap.size s B
  b9 : Bx wr n9 s2 C
  o9 : BdO lo n9 wr s2 C
  hd : Hdn B C
theorem HoI.step {w : World} {s : Bs} {B : Bd} {s2 : Bs} {lo n9 : Nat} {C : Bd} {wr W : World} (h : HoI w s B s2 lo n9 C wr) (hb : Below wr.heap.size wr W) : HoI w s B s2 lo n9 C W := ⟨below_via h.below hb, h.bx.below hb, h.b9.below hb, h.o9.below hb, h.hd⟩
def HoP (w : World) (s : Bs) (B : Bd) (s2 : Bs) (lo n9 : Nat) (v : Value) (wr : World) : Prop := ∃ p : Nat, p ≤ 2 ∧ v = .int .i64 p ∧ ∃ C, HoI w s B s2 lo n9 C wr
def HoK (w : World) (s : Bs) (B : Bd) (s2 : Bs) (lo n9 l3 : Nat) (lv : Sl) (L : List Int) (v : Value) (wr : World) : Prop := ∃ k : Nat, k ≤ L.length ∧ v = .int .i64 k ∧ (∃ C, HoI w s B s2 lo n9 C wr) ∧ Ox ic 1 3 n9 l3 wr lv.v L
def HoJ (w : World) (s : Bs) (B : Bd) (s2 : Bs) (lo n9 l3 : Nat) (lv : Sl) (L : List Int) (v : Value) (wr : World) : Prop := ∃ j : Nat, j ≤ B.ob.length ∧ v = .int .i64 j ∧ (∃ C, HoI w s B s2 lo n9 C wr) ∧ Ox ic 1 3 n9 l3 wr lv.v L
def HoQ (w : World) (s : Bs) (B : Bd) (s2 : Bs) (lo n9 m : Nat) (v : Value) (wr : World) : Prop := ∃ q : Nat, q ≤ m / 2 ∧ v = .int .i64 q ∧ ∃ C, HoI w s B s2 lo n9 C wr
theorem seat_at {w : World} {P : Nat} {s : Bs} {B : Bd} (h : Bx w P s B) {p : Nat} (hp : p < 2) : w.cell? ⟨P, 1 + p * 14 + 5, none⟩ = some (.slice (s.zl p 0).a (s.zl p 0).n (s.zl p 0).c) ∧ w.cell? ⟨P, 1 + p * 14 + 6, none⟩ = some (.slice (s.zl p 1).a (s.zl p 1).n (s.zl p 1).c) := ⟨h.zone hp (z := 0) (by omega), h.zone hp (z := 1) (by omega)⟩
theorem isl_hand (s : Bs) (B : Bd) {p : Nat} (hp : p < 2) : s.isl (4 * p + 1) = s.zl p 1 ∧ B.il (4 * p + 1) = (B.seat p).hand := by
  have : p = 0 ∨ p = 1 := by omega
  rcases this with rfl | rfl <;> exact ⟨rfl, rfl⟩
theorem setH_il (C : Bd) {p : Nat} (hp : p < 2) (l : List Int) : (C.setH p l).il (4 * p + 1) = l ∧ ∀ k, k < 9 → k ≠ 4 * p + 1 → (C.setH p l).il k = C.il k := by
  have : p = 0 ∨ p = 1 := by omega
  rcases this with rfl | rfl
  · refine ⟨rfl, fun k hk hne => ?_⟩
    have : k = 0 ∨ k = 2 ∨ k = 3 ∨ k = 4 ∨ k = 5 ∨ k = 6 ∨ k = 7 ∨ k = 8 := by omega
    rcases this with rfl | rfl | rfl | rfl | rfl | rfl | rfl | rfl <;> rfl
  · refine ⟨rfl, fun k hk hne => ?_⟩
    have : k = 0 ∨ k = 1 ∨ k = 2 ∨ k = 3 ∨ k = 4 ∨ k = 6 ∨ k = 7 ∨ k = 8 := by omega
    rcases this with rfl | rfl | rfl | rfl | rfl | rfl | rfl | rfl <;> rfl
theorem setH_rest (C : Bd) (p : Nat) (l : List Int) : (C.setH p l).ob = C.ob ∧ (C.setH p l).st = C.st ∧ (C.setH p l).qu = C.qu ∧ (C.setH p l).bl = C.bl := by
  unfold Bd.setH
  split <;> exact ⟨rfl, rfl, rfl, rfl⟩
theorem setH_bc (s : Bs) (C : Bd) (p : Nat) (l : List Int) : bcells s (C.setH p l) = bcells s C := by
  unfold Bd.setH
  split <;> rfl
theorem setH_seat (C : Bd) {p : Nat} (hp : p < 2) (l : List Int) : (C.setH p l).seat p = { C.seat p with hand := l } := by
  have : p = 0 ∨ p = 1 := by omega
  rcases this with rfl | rfl <;> rfl
theorem ho_row {w : World} {s : Bs} {B : Bd} {s2 : Bs} {lo n9 : Nat} {C : Bd} {W : World} (h : HoI w s B s2 lo n9 C W) {p : Nat} (hp : p < 2) {x : Sl} (hz : s2.zl p 1 = x) : Ox ic 1 3 lo n9 W x.v (C.seat p).hand := by
  have := h.o9.il (4 * p + 1) (by omega)
  rwa [(isl_hand s2 C hp).1, (isl_hand s2 C hp).2, hz] at this
theorem HoI.swap {w : World} {s : Bs} {B : Bd} {s2 : Bs} {lo n9 : Nat} {C : Bd} {W W' : World} (h : HoI w s B s2 lo n9 C W) {p : Nat} (hp : p < 2) {g n c : Nat} (hz : s2.zl p 1 = ⟨some ⟨g, 0, none⟩, n, c⟩) (hn : w.heap.size < lo ∧ lo ≤ n9) (hg : lo ≤ g ∧ g < n9) (ho : Onl [g] W W') {l : List Int} (hr : Ox ic 1 3 lo n9 W' (.slice (some ⟨g, 0, none⟩) n c) l) (hl : l.Perm (C.seat p).hand) : HoI w s B s2 lo n9 (C.setH p l) W' := by
  refine ⟨belowOnl h.below ho (by simp; omega) h.below.size, h.bx.onl ho (by simp; omega), ?_, ?_, h.hd.hand p hl⟩
  · have h1 : Bx W' n9 s2 C := h.b9.onl ho (by simp; omega)
    unfold Bx at *
    rw [setH_bc]
    exact h1
  · refine h.o9.setIl (j := 4 * p + 1) (by omega) (g := g) (by rw [(isl_hand s2 C hp).1, hz]; rfl) ho ?_ (setH_il C hp l).2 (setH_rest C p l).1 (setH_rest C p l).2.1 (setH_rest C p l).2.2.1 (setH_rest C p l).2.2.2
    rw [(setH_il C hp l).1, (isl_hand s2 C hp).1, hz]
    exact hr
theorem hdn_len {B C : Bd} (h : Hdn B C) (hs : B.S60) (p : Nat) : (C.seat p).lib.length ≤ 60 ∧ (C.seat p).hand.length ≤ 60 := by
  obtain ⟨g, hg, he⟩ := h.seat p
  have h0 := zs_all hs.zs p 0
  have h1 := zs_all hs.zs p 1
  rw [he]
  exact ⟨h0, by show g.length ≤ 60; rw [hg.length_eq]; exact h1⟩
theorem ho_cd {B C : Bd} (h : Hdn B C) (v : VB B) {j : Nat} {y : Ob} (hy : C.ob[j]? = some y) : y.cd ≤ 399 := by
  have := (h.vb v).plc.ob j y hy
  have h1 := this.1
  unfold vO at h1
  simp only [decide_eq_true_eq] at h1
  omega
theorem hdn_sm {B C : Bd} (h : Hdn B C) (hs : B.S60) : C.Sm := by
  refine Plain.Bd.S60.sm ⟨by rw [h.len]; exact hs.ob, by rw [h.st]; exact hs.st, by rw [h.qu]; exact hs.qu, by rw [h.att]; exact hs.att, by rw [h.bl]; exact hs.bl, fun p z hp hz => ?_⟩
  have h1 := hdn_len h hs p
  obtain ⟨g, hg, he⟩ := h.seat p
  have h2 := zs_all hs.zs p 2
  have h3 := zs_all hs.zs p 3
  have : z = 0 ∨ z = 1 ∨ z = 2 ∨ z = 3 := by omega
  rcases this with rfl | rfl | rfl | rfl
  · exact h1.1
  · exact h1.2
  · rw [he]; exact h2
  · rw [he]; exact h3
theorem grown_below {w W W' : World} {n9 : Nat} {v : Value} {l : List Int} (hb : Below w.heap.size w W) (ho : Ox ic 1 3 n9 W.heap.size W v l) (hg : W.grownBy W' v.ownBlock) (hn : n9 ≤ w.heap.size) (hl : ∀ b, v.ownBlock = some b → w.heap.size ≤ b) : Below w.heap.size w W' :=
  ⟨hg.os.trans hb.os, hg.tape.trans hb.tape, hg.output.trans hb.output, Nat.le_trans hb.size hg.size, fun k hk => (hg.block k (Nat.lt_of_lt_of_le hk hb.size) (fun e => by
    have := hl k e.symm
    omega)).trans (hb.block k hk)⟩
theorem hd_shw {D t : Int} {p : Pu} (ht : 0 ≤ t) : Plain.Sd.shw ⟨D, 0, []⟩ t p = ⟨D, t, [(p, t)]⟩ := by
  unfold Plain.Sd.shw Sd.go
  have h1 : max 0 t = t := by omega
  simp only [h1, drp, List.nil_append, Int.max_self]
theorem hd_go {D n t u : Int} {p : Pu} (h : n ≤ u) : Sd.go ⟨D, n, [(p, t)]⟩ u = ⟨D, u, [(p, t)]⟩ := by
  unfold Sd.go
  have h1 : max n u = u := by omega
  simp only [h1, drp]
theorem hd_no {D t u : Int} {p : Pu} (h0 : 0 ≤ t ∧ t ≤ 1000) (h1 : 0 ≤ D ∧ D ≤ 100) (h : u < t + D) : Sd.see ⟨D, u, [(p, t)]⟩ = none := by
  unfold Sd.see
  simp only
  rw [if_neg (fun h2 => by
    unfold dueT over addN at h2
    rw [if_neg (by omega)] at h2
    simp only [Bool.and_eq_true, decide_eq_true_eq] at h2
    omega)]
theorem hd_yes {D t u : Int} {p : Pu} (h0 : 0 ≤ t ∧ t ≤ 1000) (h1 : 0 ≤ D ∧ D ≤ 100) (h : t + D ≤ u) : Sd.see ⟨D, u, [(p, t)]⟩ = some (p, t) := by
  unfold Sd.see
  simp only
  rw [if_pos (by
    unfold dueT over addN
    rw [if_neg (by omega)]
    simp only [Bool.and_eq_true, decide_eq_true_eq, bne_iff_ne, ne_eq]
    omega)]
set_option maxRecDepth 100000 in
set_option maxHeartbeats 4000000 in
theorem sholds (s : Bs) (B : Bd) (ad D t : Int) (w : World) (h : BdR w s B) (hi : B.I) (had : 0 ≤ ad ∧ ad ≤ 255) (hD : U D) (ht : U t) : Calls Try.prog 6 #[bv s B, .int .u8 ad, .int .u64 D, .int .u64 t] w fun e w' => e = .returned (.bool true) ∧ Below w.heap.size w w' := by
  have HR := Lib.hid h
  have HI := Lib.hid hi
  have HAD := Lib.hid had
  clear h hi had
  go_enter Try.func6, Try.ntmps6
  go_upto_region 1 with fail
  change Code.wp Try.prog _ _ _ (w.alloc (.cells (bcells s B) 34))
  obtain ⟨wz, hwz⟩ : ∃ W, W = w.alloc (.cells (bcells s B) 34) := ⟨_, rfl⟩
  have HX : Hid (Bx wz w.heap.size s B) := Lib.hid (by rw [hwz]; exact heap_alloc_new _ _)
  have HB : Hid (Below w.heap.size w wz) := Lib.hid (by rw [hwz]; exact (Below.refl _ _).alloc (Nat.le_refl _) _)
  rw [← hwz]
  clear hwz
  go_wp2_with (refine wpList_load_bx _ rfl rfl HX.out (by kernel_rfl) ?_)
  with_reducible refine (lsmall s B _ (HR.out.below HB.out)).mono ?_
  rintro e z1 ⟨r, rfl, hr, hb⟩
  replace HB := Lib.hid (below_via HB.out hb)
  replace HX := Lib.hid (HX.out.below hb)
  clear hb
  cases r
  · skip
    go_wp2_with fail
    with_reducible refine (known _).mono ?_
    rintro e w99 ⟨rfl, hb⟩
    replace HB := Lib.hid (below_via HB.out hb)
    clear hb
    go_wp2_with fail
    go_returns
    exact ⟨rfl, HB.out⟩
  have HSM := Lib.hid (hr rfl)
  clear hr
  go_wp2_with (refine wpList_load_bx _ rfl rfl HX.out (by kernel_rfl) ?_)
  with_reducible refine (bvalid s B _ (HR.out.below HB.out) HI.out HSM.out.sm).mono ?_
  rintro e z2 ⟨⟨r, rfl, hr⟩, hb⟩
  replace HB := Lib.hid (below_via HB.out hb)
  replace HX := Lib.hid (HX.out.below hb)
  clear hb
  cases r
  · skip
    go_wp2_with fail
    with_reducible refine (known _).mono ?_
    rintro e w99 ⟨rfl, hb⟩
    replace HB := Lib.hid (below_via HB.out hb)
    clear hb
    go_wp2_with fail
    go_returns
    exact ⟨rfl, HB.out⟩
  have HV := Lib.hid (hr.1 rfl)
  clear hr
  by_cases hd : D > 100
  · have t1 : decide (D > 100) = true := decide_eq_true hd
    clear hd
    go_wp2_with fail
    with_reducible refine (known _).mono ?_
    rintro e w99 ⟨rfl, hb⟩
    replace HB := Lib.hid (below_via HB.out hb)
    clear hb
    go_wp2_with fail
    go_returns
    exact ⟨rfl, HB.out⟩
  have t1 : decide (D > 100) = false := decide_eq_false hd
  by_cases htt : t > 1000
  · have t2 : decide (t > 1000) = true := decide_eq_true htt
    clear htt
    go_wp2_with fail
    with_reducible refine (known _).mono ?_
    rintro e w99 ⟨rfl, hb⟩
    replace HB := Lib.hid (below_via HB.out hb)
    clear hb
    go_wp2_with fail
    go_returns
    exact ⟨rfl, HB.out⟩
  have t2 : decide (t > 1000) = false := decide_eq_false htt
  have HDT : Hid ((0 ≤ t ∧ t ≤ 1000) ∧ 0 ≤ D ∧ D ≤ 100) := Lib.hid ⟨⟨ht.1, by omega⟩, hD.1, by omega⟩
  clear hd htt hD ht
  have HTL : Hid (B.Tl) := Lib.hid (let h := tgs_len HV.out; ⟨h.1, h.2⟩)
  go_upto_region 3 with fail
  clear t1 t2
  obtain ⟨lo, hlo⟩ : ∃ n, n = z2.heap.size := ⟨_, rfl⟩
  have hw1 := HX.out.lt
  rw [← hlo] at hw1
  go_wp2_with (refine wpList_load_bx _ rfl rfl HX.out (by kernel_rfl) ?_)
  with_reducible refine (bcopy s B _ (HR.out.below HB.out) HSM.out.sm HTL.out).mono ?_
  rintro e z3 ⟨s2, rfl, ho, hb⟩
  have hsz := hb.size
  replace HB := Lib.hid (below_via HB.out hb)
  replace HX := Lib.hid (HX.out.below hb)
  clear hb
  go_wp2_with (refine wpList_store_bh (s := s2) (B := B) rfl _ _ rfl rfl rfl (heap_alloc_new _ _) rfl ?_)
  intro z4 hw0
  have hbx := boxed hw0.out
  obtain ⟨n9, hn9⟩ : ∃ n, n = z3.heap.size := ⟨_, rfl⟩
  rw [← hn9] at hbx ho ⊢
  rw [← hlo] at ho
  have hb := hbx.1
  rw [hn9] at hb
  have HI9 : Hid (HoI w s B s2 lo n9 B z4) := Lib.hid ⟨below_via HB.out hb, HX.out.below hb, hbx.2, ho.below hb, Hdn.refl B⟩
  have HN : Hid (w.heap.size < lo ∧ lo ≤ n9) := Lib.hid ⟨hw1, by rw [hn9, hlo]; exact hsz⟩
  clear hw0 hbx hb ho hsz hn9 hlo hw1 HX HB
  go_wp2_with fail
  go_loopw [10] (fun v wr => HoP w s B s2 lo n9 v wr) (fun v _ => 2 - (intOf v).toNat)
  case atStart => exact ⟨0, by omega, rfl, B, HI9.out⟩
  case round =>
    obtain ⟨p, hp, rfl, C, hC⟩ := hrel
    have HC := Lib.hid hC
    by_cases hp2 : p < 2
    · have i1 : (0 : Int) ≤ (p : Int) := by omega
      have i2 : (p : Int) < 2 := by omega
      obtain ⟨z0, z1⟩ := seat_at hC.b9 hp2
      have g9 := hC.b9.lt
      have H9 : Hid (n9 < wr.heap.size) := Lib.hid hC.b9.lt
      have HZ0 : Hid (Rw ic 1 wr (.slice (s2.zl p 0).a (s2.zl p 0).n (s2.zl p 0).c) (C.seat p).lib) := Lib.hid (hC.o9.rd.zone p 0)
      have HZ1 : Hid (Rw ic 1 wr (.slice (s2.zl p 1).a (s2.zl p 1).n (s2.zl p 1).c) (C.seat p).hand) := Lib.hid (hC.o9.rd.zone p 1)
      have hln := hdn_len hC.hd HSM.out p
      have HL0 : Hid ((C.seat p).lib.length ≤ 1000) := Lib.hid (by omega)
      have HL1 : Hid ((C.seat p).hand.length ≤ 1000) := Lib.hid (by omega)
      have HOW : Hid (n9 ≤ wr.heap.size) := Lib.hid (by omega)
      clear hC hln
      go_upto_region 7 with fail
      refine rg6_7 (w0 := wr) (B := wr.heap.size) (n := wr.heap.size) (L := []) (E := fun _ => True) (F := fun _ => True) (by kernel_rfl) (by kernel_rfl) ⟨by go_grown, by go_size, (by simp [go_sem] <;> omega)⟩ trivial (fun _ _ _ _ => trivial) trivial (fun _ _ _ _ => trivial) (fun w41 K_w41 E_w41 F_w41 => ?_)
      have _ne : Nonempty (KX (wr.heap.size) wr (wr.heap.size) [] (fun _ => True)) := ⟨⟨_, K_w41, E_w41⟩⟩
      repeat (go_big_quiet_step (fail))
      refine wpQuiet_nil ?_
      have r0 : ∀ s : KX (wr.heap.size) wr (wr.heap.size) [] (fun _ => True), s.val.cell? ⟨n9, 1 + p * 14 + 5, none⟩ = some (.slice (s2.zl p 0).a (s2.zl p 0).n (s2.zl p 0).c) := fun s => (s.kept.below.cell (p := ⟨n9, 1 + p * 14 + 5, none⟩) g9).trans z0
      have r1 : ∀ s : KX (wr.heap.size) wr (wr.heap.size) [] (fun _ => True), s.val.cell? ⟨n9, 1 + p * 14 + 6, none⟩ = some (.slice (s2.zl p 1).a (s2.zl p 1).n (s2.zl p 1).c) := fun s => (s.kept.below.cell (p := ⟨n9, 1 + p * 14 + 6, none⟩) g9).trans z1
      repeat (go_big_quiet_step (fail))
      refine wpQuiet_nil ?_
      have KH_w41 := Lib.hid K_w41
      have hw_w41 := K_w41.below
      have hz_w41 := K_w41.size
      clear K_w41
      clear E_w41 F_w41
      refine ⟨fun K hK0 => ?_, trivial⟩
      have hK := Lib.hid hK0
      clear hK0
      have HW : Hid (Below wr.heap.size wr w41) := Lib.hid KH_w41.out.below
      go_wp2_with (at_builtin; refine wpList_append_nil (f := ic) (sz := 1) rfl _ _ 26 rfl 3 (.int .i64 0) 8 Try.underlying26 infoI rfl (by decide) rfl ic_ok _ (C.seat p).lib rfl (HZ0.out.below HW.out) HL0.out (by omega) ?_)
      intro ua uc x1 hox hbx
      have HWS : Hid (wr.heap.size ≤ w41.heap.size) := Lib.hid HW.out.size
      replace HW := Lib.hid (below_via HW.out hbx)
      have HOB : Hid (∀ b, (Value.slice ua (C.seat p).lib.length uc).ownBlock = some b → wr.heap.size ≤ b) := Lib.hid (fun b hb => Nat.le_trans HWS.out (hox.blk hb).1)
      have HOL := Lib.hid (hox.mono (lo' := n9) (hi' := x1.heap.size) (by have h1 := H9.out; have h2 := HW.out.size; have h3 := KH_w41.out.below.size; omega) (Nat.le_refl _))
      clear hox hbx
      go_wp2_with fail
      first | (refine ⟨rfl, ⟨⟨_, (⟨HW.out, HW.out.size, by simp⟩ : Kept wr.heap.size wr (wr.heap.size) [] x1), trivial⟩, rfl⟩, hK.out _ _ ?_⟩; clear hK K) | (refine ⟨⟨⟨_, (⟨HW.out, HW.out.size, by simp⟩ : Kept wr.heap.size wr (wr.heap.size) [] x1), trivial⟩, rfl⟩, hK.out _ _ ?_⟩; clear hK K)
      refine ⟨fun K hK0 => ?_, trivial⟩
      have hK := Lib.hid hK0
      clear hK0
      go_wp2_with (at_builtin; refine wpList_append_ow (f := ic) (sz := 1) rfl _ _ 26 rfl n9 3 (.int .i64 0) 8 Try.underlying26 infoI rfl (by decide) _ (C.seat p).lib rfl HOL.out.1 ic_ok _ (C.seat p).hand rfl (HZ1.out.below HW.out) (by have h1 := HL0.out; have h2 := HL1.out; simp [maxLen]; omega) (by have h1 := HL0.out; have h2 := HL1.out; omega) (by have h1 := H9.out; have h2 := HW.out.size; omega) ?_)
      intro v' x2 hown hgr hbl
      have hbn : Below wr.heap.size wr x2 := grown_below HW.out HOL.out hgr HOW.out HOB.out
      have HOL2 : Hid (Ow ic 1 3 x2 n9 v' ((C.seat p).lib ++ (C.seat p).hand)) := Lib.hid hown
      replace HW := Lib.hid hbn
      clear hown hgr hbl hbn HOL
      go_wp2_with fail
      first | (refine ⟨rfl, ⟨⟨_, (⟨HW.out, HW.out.size, by simp⟩ : Kept wr.heap.size wr (wr.heap.size) [] x2), trivial⟩, rfl⟩, hK.out _ _ ?_⟩; clear hK K) | (refine ⟨⟨⟨_, (⟨HW.out, HW.out.size, by simp⟩ : Kept wr.heap.size wr (wr.heap.size) [] x2), trivial⟩, rfl⟩, hK.out _ _ ?_⟩; clear hK K)
      repeat (go_big_quiet_step (fail))
      refine wpQuiet_nil ?_
      clear r0 r1
      clear _ne
      obtain ⟨la, lc, hlv⟩ := HOL2.out.form
      subst hlv
      have HOX : Hid (Ox ic 1 3 n9 x2.heap.size x2 (.slice la ((C.seat p).lib ++ (C.seat p).hand).length lc) ((C.seat p).lib ++ (C.seat p).hand)) := Lib.hid (Ox.of HOL2.out)
      have HLM : Hid (∀ z ∈ (C.seat p).lib ++ (C.seat p).hand, z ∈ hid4 B) := Lib.hid (fun z hz => hid4_mem HC.out.hd p hz)
      have HLL : Hid (((C.seat p).lib ++ (C.seat p).hand).length ≤ 2000) := Lib.hid (by have h1 := HL0.out; have h2 := HL1.out; simp; omega)
      have HI2 : Hid (∃ C, HoI w s B s2 lo n9 C x2) := Lib.hid ⟨C, HC.out.step HW.out⟩
      obtain ⟨L, hL⟩ : ∃ L, L = (C.seat p).lib ++ (C.seat p).hand := ⟨_, rfl⟩
      rw [← hL] at HOX HLM HLL ⊢
      obtain ⟨l3, hl3⟩ : ∃ n, n = x2.heap.size := ⟨_, rfl⟩
      rw [← hl3] at HOX
      clear hL hl3 HOL2 HZ0 HZ1 HL0 HL1 HOW HW HWS HOB z0 z1 g9 H9 HC
      go_wp2_with fail
      go_loopw [12] (fun v wr => HoK w s B s2 lo n9 l3 ⟨la, L.length, lc⟩ L v wr) (fun v _ => L.length - (intOf v).toNat)
      case atStart => exact ⟨0, by omega, rfl, HI2.out, HOX.out⟩
      case round =>
        obtain ⟨k, hk, rfl, hc, hox⟩ := hrel
        replace HI2 := Lib.hid hc
        replace HOX : Hid (Ox ic 1 3 n9 l3 wr (.slice la L.length lc) L) := Lib.hid hox
        clear hc
        have hll := HLL.out
        by_cases hkl : k < L.length
        · obtain ⟨lb, lcap, hle, hl1, hl2, _⟩ := hox.pos (by omega)
          simp only [Sl.v, Value.slice.injEq] at hle
          obtain ⟨rfl, _, rfl⟩ := hle
          clear hox
          have i3 : (k : Int) < (L.length : Int) := by omega
          go_wp2_with fail
          go_loopw [13] (fun v wr => HoJ w s B s2 lo n9 l3 ⟨some ⟨lb, 0, none⟩, L.length, lc⟩ L v wr) (fun v _ => B.ob.length - (intOf v).toNat)
          case atStart => exact ⟨0, by omega, rfl, HI2.out, HOX.out⟩
          case round =>
            obtain ⟨j, hj, rfl, ⟨C, hC⟩, hox⟩ := hrel
            have HC := Lib.hid hC
            replace HOX : Hid (Ox ic 1 3 n9 l3 wr (.slice (some ⟨lb, 0, none⟩) L.length lc) L) := Lib.hid hox
            obtain ⟨⟨oa, on, oc'⟩, hso⟩ : ∃ q, s2.ob = q := ⟨_, rfl⟩
            have hon : on = B.ob.length := by
              have h1 := rw_len (s := s2.ob) (hC.o9.ob.rw oc_len)
              rw [hso] at h1
              exact h1.trans hC.hd.len
            subst hon
            have c0 : wr.cell? ⟨n9, 0, none⟩ = some (.slice oa B.ob.length oc') := by
              have h1 := hC.b9.cell 0
              rw [h1]
              show some s2.ob.v = _
              rw [hso]
              rfl
            have hbl := HSM.out.ob
            by_cases hjl : j < B.ob.length
            · have hobx := hC.o9.ob
              rw [hso] at hobx
              obtain ⟨g, cap, hle, hg1, hg2, hg3⟩ := hobx.pos (by rw [hC.hd.len]; omega)
              rw [hC.hd.len] at hle
              simp only [Sl.v, Value.slice.injEq] at hle
              obtain ⟨rfl, _, rfl⟩ := hle
              obtain ⟨y, hy⟩ : ∃ y, C.ob[j]? = some y := ⟨_, List.getElem?_eq_getElem (by rw [hC.hd.len]; exact hjl)⟩
              obtain ⟨z, hz⟩ : ∃ z, L[k]? = some z := ⟨_, List.getElem?_eq_getElem hkl⟩
              have d0 := (hobx.at oc_len hy (j := 0) rfl (j * 12) (by omega)).1
              obtain ⟨d1, f1⟩ := hobx.at oc_len hy (j := 1) rfl (j * 12 + 1) rfl
              have d2 := (Ox.at (g := lb) hox ic_len hz (j := 0) rfl k (by omega)).1
              have HY := Lib.hid hy
              have HZM : Hid (z ∈ hid4 B) := Lib.hid (HLM.out z (List.mem_of_getElem? hz))
              have HSO := Lib.hid hso
              have j1 : (0 : Int) ≤ (j : Int) := by omega
              have j2 : (j : Int) < (B.ob.length : Int) := by omega
              have k1 : (0 : Int) ≤ (k : Int) := by omega
              have g1 : n9 < wr.heap.size := hC.b9.lt
              have g3 : g < wr.heap.size := hg3
              have g2 : lb < wr.heap.size := (hox.blk rfl).2.2
              clear hobx hy hz hox hC hso
              go_upto_region 15 with fail
              clear c0
              by_cases hid : y.id = z
              case neg =>
                have tid : (y.id == z) = false := by simpa using hid
                clear hid
                refine rg6_15 (w0 := wr) (B := wr.heap.size) (n := wr.heap.size) (L := []) (E := fun _ => True) (F := fun _ => True) (by kernel_rfl) (by kernel_rfl) ⟨by go_grown, by go_size, (by simp [go_sem] <;> omega)⟩ trivial (fun _ _ _ _ => trivial) trivial (fun _ _ _ _ => trivial) (fun w61 K_w61 E_w61 F_w61 => ?_)
                have _ne : Nonempty (KX (wr.heap.size) wr (wr.heap.size) [] (fun _ => True)) := ⟨⟨_, K_w61, E_w61⟩⟩
                repeat (go_big_quiet_step (fail))
                refine wpQuiet_nil ?_
                have r0 : ∀ s : KX (wr.heap.size) wr (wr.heap.size) [] (fun _ => True), s.val.cell? ⟨g, j * 12, none⟩ = some (.int .i64 y.id) := fun s => (s.kept.below.cell (p := ⟨g, j * 12, none⟩) g3).trans d0
                have r1 : ∀ s : KX (wr.heap.size) wr (wr.heap.size) [] (fun _ => True), s.val.cell? ⟨g, j * 12 + 1, none⟩ = some (.int .i64 y.cd) := fun s => (s.kept.below.cell (p := ⟨g, j * 12 + 1, none⟩) g3).trans d1
                have r2 : ∀ s : KX (wr.heap.size) wr (wr.heap.size) [] (fun _ => True), s.val.cell? ⟨lb, k, none⟩ = some (.int .i64 z) := fun s => (s.kept.below.cell (p := ⟨lb, k, none⟩) g2).trans d2
                repeat (go_big_quiet_step (fail))
                refine wpQuiet_nil ?_
                repeat (go_big_quiet_step (fail))
                refine wpQuiet_nil ?_
                repeat (go_big_quiet_step (fail))
                refine wpQuiet_nil ?_
                repeat (go_big_quiet_step (fail))
                refine wpQuiet_nil ?_
                clear r0 r1 r2
                clear _ne
                have KH_w61 := Lib.hid K_w61
                have hw_w61 := K_w61.below
                have hz_w61 := K_w61.size
                clear K_w61
                clear E_w61 F_w61
                replace HC := Lib.hid (HC.out.step KH_w61.out.below)
                replace HOX := Lib.hid (HOX.out.below KH_w61.out.below)
                clear d0 d1 f1 d2 tid g1 g2
                go_wp2_with fail
                go_roundw
                case rel => exact ⟨j + 1, by omega, by go_num, ⟨C, HC.out⟩, HOX.out⟩
                case measure => simp [intOf]; omega
              have tid : (y.id == z) = true := by simpa using hid
              have HID := Lib.hid hid
              clear hid
              by_cases hcd : 0 ≤ y.cd
              case neg =>
                have tcd : decide (y.cd ≥ 0) = false := decide_eq_false (by omega)
                clear hcd
                refine rg6_15 (w0 := wr) (B := wr.heap.size) (n := wr.heap.size) (L := []) (E := fun _ => True) (F := fun _ => True) (by kernel_rfl) (by kernel_rfl) ⟨by go_grown, by go_size, (by simp [go_sem] <;> omega)⟩ trivial (fun _ _ _ _ => trivial) trivial (fun _ _ _ _ => trivial) (fun w61 K_w61 E_w61 F_w61 => ?_)
                have _ne : Nonempty (KX (wr.heap.size) wr (wr.heap.size) [] (fun _ => True)) := ⟨⟨_, K_w61, E_w61⟩⟩
                repeat (go_big_quiet_step (fail))
                refine wpQuiet_nil ?_
                have r0 : ∀ s : KX (wr.heap.size) wr (wr.heap.size) [] (fun _ => True), s.val.cell? ⟨g, j * 12, none⟩ = some (.int .i64 y.id) := fun s => (s.kept.below.cell (p := ⟨g, j * 12, none⟩) g3).trans d0
                have r1 : ∀ s : KX (wr.heap.size) wr (wr.heap.size) [] (fun _ => True), s.val.cell? ⟨g, j * 12 + 1, none⟩ = some (.int .i64 y.cd) := fun s => (s.kept.below.cell (p := ⟨g, j * 12 + 1, none⟩) g3).trans d1
                have r2 : ∀ s : KX (wr.heap.size) wr (wr.heap.size) [] (fun _ => True), s.val.cell? ⟨lb, k, none⟩ = some (.int .i64 z) := fun s => (s.kept.below.cell (p := ⟨lb, k, none⟩) g2).trans d2
                repeat (go_big_quiet_step (fail))
                refine wpQuiet_nil ?_
                repeat (go_big_quiet_step (fail))
                refine wpQuiet_nil ?_
                repeat (go_big_quiet_step (fail))
                refine wpQuiet_nil ?_
                repeat (go_big_quiet_step (fail))
                refine wpQuiet_nil ?_
                clear r0 r1 r2
                clear _ne
                have KH_w61 := Lib.hid K_w61
                have hw_w61 := K_w61.below
                have hz_w61 := K_w61.size
                clear K_w61
                clear E_w61 F_w61
                replace HC := Lib.hid (HC.out.step KH_w61.out.below)
                replace HOX := Lib.hid (HOX.out.below KH_w61.out.below)
                clear d0 d1 f1 d2 tid tcd g1 g2
                go_wp2_with fail
                go_roundw
                case rel => exact ⟨j + 1, by omega, by go_num, ⟨C, HC.out⟩, HOX.out⟩
                case measure => simp [intOf]; omega
              have tcd : decide (y.cd ≥ 0) = true := decide_eq_true hcd
              have HCD := Lib.hid hcd
              have hvo : y.cd ≤ 399 := ho_cd HC.out.hd HV.out HY.out
              refine rg6_15 (w0 := wr) (B := wr.heap.size) (n := wr.heap.size) (L := []) (E := fun _ => True) (F := fun _ => True) (by kernel_rfl) (by kernel_rfl) ⟨by go_grown, by go_size, (by simp [go_sem] <;> omega)⟩ trivial (fun _ _ _ _ => trivial) trivial (fun _ _ _ _ => trivial) (fun w61 K_w61 E_w61 F_w61 => ?_)
              have _ne : Nonempty (KX (wr.heap.size) wr (wr.heap.size) [] (fun _ => True)) := ⟨⟨_, K_w61, E_w61⟩⟩
              repeat (go_big_quiet_step (fail))
              refine wpQuiet_nil ?_
              have r0 : ∀ s : KX (wr.heap.size) wr (wr.heap.size) [] (fun _ => True), s.val.cell? ⟨g, j * 12, none⟩ = some (.int .i64 y.id) := fun s => (s.kept.below.cell (p := ⟨g, j * 12, none⟩) g3).trans d0
              have r1 : ∀ s : KX (wr.heap.size) wr (wr.heap.size) [] (fun _ => True), s.val.cell? ⟨g, j * 12 + 1, none⟩ = some (.int .i64 y.cd) := fun s => (s.kept.below.cell (p := ⟨g, j * 12 + 1, none⟩) g3).trans d1
              have r2 : ∀ s : KX (wr.heap.size) wr (wr.heap.size) [] (fun _ => True), s.val.cell? ⟨lb, k, none⟩ = some (.int .i64 z) := fun s => (s.kept.below.cell (p := ⟨lb, k, none⟩) g2).trans d2
              repeat (go_big_quiet_step (fail))
              refine wpQuiet_nil ?_
              repeat (go_big_quiet_step (fail))
              refine wpQuiet_nil ?_
              repeat (go_big_quiet_step (fail))
              refine wpQuiet_nil ?_
              repeat (go_big_quiet_step (fail))
              refine wpQuiet_nil ?_
              clear r0 r1 r2
              clear _ne
              have KH_w61 := Lib.hid K_w61
              have hw_w61 := K_w61.below
              have hz_w61 := K_w61.size
              clear K_w61
              clear E_w61 F_w61
              replace HC := Lib.hid (HC.out.step KH_w61.out.below)
              replace HOX := Lib.hid (HOX.out.below KH_w61.out.below)
              replace d1 := (KH_w61.out.below.cell (p := ⟨g, j * 12 + 1, none⟩) g3).trans d1
              replace f1 := (KH_w61.out.below.frozen (p := ⟨g, j * 12 + 1, none⟩) g3).trans f1
              clear d0 d2 tid tcd g1 g2
              have had2 := HAD.out
              go_upto_region 13 with fail
              obtain ⟨w7, hw7⟩ : ∃ W, W = w61.setCell ⟨g, j * 12 + 1, none⟩ (.int .i64 ((y.cd + ad) % 400)) := ⟨_, rfl⟩
              rw [← hw7]
              have ho : Onl [g] w61 w7 := by rw [hw7]; exact (Onl.refl _ _).setCell (.inl (by simp)) _
              have hox1 := HC.out.o9.ob
              rw [HSO.out] at hox1
              have hcn : 0 ≤ (y.cd + ad) % 400 ∧ (y.cd + ad) % 400 ≤ 399 := by omega
              have hset : Ox oc 12 79 lo n9 w7 (.slice (some ⟨g, 0, none⟩) B.ob.length oc') (C.ob.set j { y with cd := (y.cd + ad) % 400 }) := by
                rw [hw7]
                exact Ox.setc hox1 oc_len HY.out (j := 1) (by omega) (x' := { y with cd := (y.cd + ad) % 400 }) rfl (j * 12 + 1) rfl
              obtain ⟨_, _, cur, hcur⟩ := hox1.1.typ g rfl
              have hgl : lo ≤ g ∧ g < n9 := ⟨(hox1.blk rfl).1, (hox1.blk rfl).2.1⟩
              have hnn := HN.out
              replace HOX := Lib.hid (HOX.out.onlT ho hcur (by decide))
              have HC7 : Hid (HoI w s B s2 lo n9 { C with ob := C.ob.set j { y with cd := (y.cd + ad) % 400 } } w7) := Lib.hid ⟨belowOnl HC.out.below ho (by simp; omega) HC.out.below.size, HC.out.bx.onl ho (by simp; omega), HC.out.b9.onl ho (by simp; omega), HC.out.o9.setOb (by rw [HSO.out]; rfl) ho (by rw [HSO.out]; exact hset), HC.out.hd.card HY.out HCD.out (by rw [HID.out]; exact HZM.out) hcn⟩
              clear hw7 ho hox1 hcn hset hcur hgl hnn d1 f1 had2 hvo hcd HC
              go_wp2_with fail
              go_roundw
              case rel => exact ⟨j + 1, by omega, by go_num, ⟨_, HC7.out⟩, HOX.out⟩
              case measure => simp [intOf]; omega
            · obtain rfl : j = B.ob.length := by omega
              clear hC hox
              go_wp2_with fail
              clear c0 hso
              go_roundw
              case rel => exact ⟨k + 1, by omega, by go_num, ⟨C, HC.out⟩, HOX.out⟩
              case measure => simp [intOf]; omega
        · obtain rfl : k = L.length := by omega
          obtain ⟨C, hC⟩ := HI2.out
          have HC := Lib.hid hC
          obtain ⟨_, z1⟩ := seat_at hC.b9 hp2
          have g9 := hC.b9.lt
          obtain ⟨⟨ha, hn, hcp⟩, hze⟩ : ∃ q, s2.zl p 1 = q := ⟨_, rfl⟩
          rw [hze] at z1
          have hm : hn = (B.seat p).hand.length := by
            have h1 := rw_len (s := s2.zl p 1) (hC.o9.rd.zone p 1)
            rw [hze] at h1
            obtain ⟨g, hg, he⟩ := hC.hd.seat p
            have h2 : (C.seat p).hand.length = (B.seat p).hand.length := by rw [he]; exact hg.length_eq
            exact h1.trans h2
          have hm60 : (B.seat p).hand.length ≤ 60 := zs_all HSM.out.zs p 1
          obtain ⟨m, hm2⟩ : ∃ m, m = (B.seat p).hand.length := ⟨_, rfl⟩
          rw [← hm2] at hm hm60
          subst hm
          have HZE := Lib.hid hze
          have HM := Lib.hid hm2
          clear hze hm2 hC hox
          go_upto_region 18 with fail
          clear z1 g9 HOX HI2 HLM HLL hll hkl hk
          go_wp2_with fail
          go_loopw [16] (fun v wr => HoQ w s B s2 lo n9 hn v wr) (fun v _ => hn - (intOf v).toNat)
          case atStart => exact ⟨0, by omega, rfl, C, HC.out⟩
          case round =>
            obtain ⟨q, hq, rfl, C, hC⟩ := hrel
            replace HC := Lib.hid hC
            by_cases hqm : q < hn / 2
            · have i3 : (q : Int) < (hn : Int) / 2 := by omega
              have i4 : (0 : Int) ≤ (q : Int) := by omega
              obtain ⟨r, hr⟩ : ∃ r, r = hn - 1 - q := ⟨_, rfl⟩
              have er : (hn : Int) - 1 - (q : Int) = (r : Int) := by omega
              have i5 : (r : Int) < (hn : Int) := by omega
              have i6 : (q : Int) < (hn : Int) := by omega
              have i7 : (0 : Int) ≤ (r : Int) := by omega
              have hcl : (C.seat p).hand.length = hn := by
                obtain ⟨g, hg, he⟩ := hC.hd.seat p
                rw [he, HM.out]
                exact hg.length_eq
              obtain ⟨u, hu⟩ : ∃ u, (C.seat p).hand[q]? = some u := ⟨_, List.getElem?_eq_getElem (by omega)⟩
              obtain ⟨v, hv⟩ : ∃ v, (C.seat p).hand[r]? = some v := ⟨_, List.getElem?_eq_getElem (by omega)⟩
              have hox : Ox ic 1 3 lo n9 wr (s2.zl p 1).v (C.seat p).hand := by
                have := hC.o9.il (4 * p + 1) (by omega)
                rwa [(isl_hand s2 C hp2).1, (isl_hand s2 C hp2).2] at this
              obtain ⟨hbk, hcap, hle, hb1, hb2, _⟩ := hox.pos (by omega)
              rw [HZE.out, hcl] at hle
              simp only [Sl.v, Value.slice.injEq] at hle
              obtain ⟨rfl, _, rfl⟩ := hle
              have HU := Lib.hid hu
              have HVV := Lib.hid hv
              have HQR : Hid (q < r ∧ r < hn) := Lib.hid ⟨by omega, by omega⟩
              have HGB : Hid (lo ≤ hbk ∧ hbk < n9) := Lib.hid ⟨hb1, hb2⟩
              clear hC hu hv hox hr hcl
              go_upto_region 21 with fail
              have KH0 := Lib.hid (⟨HC.out.below, HC.out.below.size, by simp⟩ : Kept w.heap.size w (w.heap.size) [] wr)
              refine rg6_21 (w0 := w) (B := w.heap.size) (n := w.heap.size) (L := []) (E := HoI w s B s2 lo n9 C) (F := fun _ => True) (by kernel_rfl) (by kernel_rfl) (KH0.out.step (by omega) (by go_grown)) HC.out (fun _ _ h hb => h.step hb) trivial (fun _ _ _ _ => trivial) (fun w71 K_w71 E_w71 F_w71 => ?_)
              have _ne : Nonempty (KX (w.heap.size) w (w.heap.size) [] (HoI w s B s2 lo n9 C)) := ⟨⟨_, K_w71, E_w71⟩⟩
              repeat (go_big_quiet_step (fail))
              refine wpQuiet_nil ?_
              have r1 : ∀ s : KX (w.heap.size) w (w.heap.size) [] (HoI w s B s2 lo n9 C), s.val.cell? ⟨hbk, r, none⟩ = some (.int .i64 v) := fun s => ((ho_row s.ex hp2 HZE.out).at ic_len HVV.out (j := 0) rfl r (by omega)).1
              have r2 : ∀ s : KX (w.heap.size) w (w.heap.size) [] (HoI w s B s2 lo n9 C), s.val.cell? ⟨hbk, q, none⟩ = some (.int .i64 u) := fun s => ((ho_row s.ex hp2 HZE.out).at ic_len HU.out (j := 0) rfl q (by omega)).1
              repeat (go_big_quiet_step (fail))
              refine wpQuiet_nil ?_
              repeat (go_big_quiet_step (fail))
              refine wpQuiet_nil ?_
              have KH_w71 := Lib.hid K_w71
              have hw_w71 := K_w71.below
              have hz_w71 := K_w71.size
              clear K_w71
              have HE1 := Lib.hid E_w71
              clear E_w71 F_w71
              refine ⟨fun K hK0 => ?_, trivial⟩
              have hK := Lib.hid hK0
              clear hK0
              replace HC := HE1
              clear HE1
              have hrow : Ox ic 1 3 lo n9 w71 (.slice (some ⟨hbk, 0, none⟩) hn hcp) (C.seat p).hand := ho_row HC.out hp2 HZE.out
              obtain ⟨cq, fq⟩ := hrow.at ic_len HU.out (j := 0) rfl q (by omega)
              obtain ⟨_, _, cur, hcur⟩ := hrow.1.typ hbk rfl
              have HROW := Lib.hid hrow
              have HCUR := Lib.hid hcur
              clear hrow hcur
              go_wp2_with fail
              obtain ⟨x1, hx1⟩ : ∃ W, W = w71.setCell ⟨hbk, q, none⟩ (.int .i64 v) := ⟨_, rfl⟩
              rw [← hx1]
              have ho1 : Onl [hbk] w71 x1 := by rw [hx1]; exact (Onl.refl _ _).setCell (.inl (by simp)) _
              have hr1 : Ox ic 1 3 lo n9 x1 (.slice (some ⟨hbk, 0, none⟩) hn hcp) ((C.seat p).hand.set q v) := by
                rw [hx1]
                exact Ox.setc HROW.out ic_len HU.out (j := 0) (by omega) (x' := v) rfl q (by omega)
              have HO1 := Lib.hid ho1
              have HR1 := Lib.hid hr1
              clear cq fq hx1 ho1 hr1
              first | (refine ⟨rfl, hK.out _ _ ?_⟩; clear hK K) | (refine hK.out _ _ ?_; clear hK K)
              repeat (go_big_quiet_step (fail))
              refine wpQuiet_nil ?_
              refine ⟨fun K hK0 => ?_, trivial⟩
              have hK := Lib.hid hK0
              clear hK0
              have hqr := HQR.out
              obtain ⟨cr, fr⟩ := HR1.out.at ic_len (i := r) (x := v) (by rw [List.getElem?_set_ne (by omega)]; exact HVV.out) (j := 0) rfl r (by omega)
              go_wp2_with fail
              obtain ⟨x2, hx2⟩ : ∃ W, W = x1.setCell ⟨hbk, r, none⟩ (.int .i64 u) := ⟨_, rfl⟩
              rw [← hx2]
              have ho2 : Onl [hbk] x1 x2 := by rw [hx2]; exact (Onl.refl _ _).setCell (.inl (by simp)) _
              have hr2 : Ox ic 1 3 lo n9 x2 (.slice (some ⟨hbk, 0, none⟩) hn hcp) (((C.seat p).hand.set q v).set r u) := by
                rw [hx2]
                exact Ox.setc HR1.out ic_len (i := r) (x := v) (by rw [List.getElem?_set_ne (by omega)]; exact HVV.out) (j := 0) (by omega) (x' := u) rfl r (by omega)
              have HC2 : Hid (HoI w s B s2 lo n9 (C.setH p (((C.seat p).hand.set q v).set r u)) x2) := Lib.hid (HC.out.swap hp2 HZE.out HN.out HGB.out (HO1.out.trans ho2) hr2 (swap_perm HU.out HVV.out))
              clear cr fr hx2 ho2 hr2 hqr HO1 HR1 HROW HCUR HC
              go_wp2_with fail
              first | (refine ⟨rfl, hK.out _ _ ?_⟩; clear hK K) | (refine hK.out _ _ ?_; clear hK K)
              clear r1 r2
              clear _ne
              go_wp2_with fail
              go_roundw
              case rel => exact ⟨q + 1, by omega, by go_num, _, HC2.out⟩
              case measure => simp [intOf]; omega
            · clear hC
              go_wp2_with fail
              go_roundw
              case rel => exact ⟨p + 1, by omega, by go_num, C, HC.out⟩
              case measure => simp [intOf]; omega
    · obtain rfl : p = 2 := by omega
      rw [show ((2 : Nat) : Int) = 2 from rfl]
      clear hC hp hp2
      have HVC : Hid (VB C) := Lib.hid (HC.out.hd.vb HV.out)
      have HIC : Hid (C.I) := Lib.hid (HC.out.hd.I HI.out)
      have HSC : Hid (C.Sm) := Lib.hid (hdn_sm HC.out.hd HSM.out)
      have HPC : Hid (puB C = puB B) := Lib.hid (HC.out.hd.pub HV.out)
      have HB := Lib.hid HC.out.below
      replace HX := Lib.hid HC.out.bx
      have HX9 := Lib.hid HC.out.b9
      have HO9 := Lib.hid HC.out.o9
      clear HC
      obtain ⟨lp, hlp⟩ : ∃ n, n = wr.heap.size := ⟨_, rfl⟩
      go_wp2_with (refine wpList_load_bx _ rfl rfl HX.out (by kernel_rfl) ?_)
      with_reducible refine (sof_ok s B _ (HR.out.below HB.out) HI.out HSM.out.sm HV.out).mono ?_
      rintro e y201 ⟨sp, rfl, ho, hb⟩
      have hsz := hb.size
      replace HB := Lib.hid (below_via HB.out hb)
      replace HX := Lib.hid (HX.out.below hb)
      replace HX9 := Lib.hid (HX9.out.below hb)
      replace HO9 := Lib.hid (HO9.out.below hb)
      clear hb
      go_wp2_with (refine wpList_store_ph (s := sp) (P := (puB B)) rfl _ _ rfl rfl rfl (heap_alloc_new _ _) rfl ?_)
      intro y202 hw0
      have hbx := pboxed hw0.out
      obtain ⟨np, hnp⟩ : ∃ n, n = y201.heap.size := ⟨_, rfl⟩
      rw [← hnp] at hbx ho ⊢
      have hb := hbx.1
      rw [hnp] at hb
      replace HB := Lib.hid (below_via HB.out hb)
      replace HX := Lib.hid (HX.out.below hb)
      replace HX9 := Lib.hid (HX9.out.below hb)
      replace HO9 := Lib.hid (HO9.out.below hb)
      have HPp := Lib.hid (ho.below hb)
      have HQp := Lib.hid hbx.2
      clear hw0 hbx hb ho hsz hnp
      go_wp2_with (refine wpList_load_bx _ rfl rfl HX9.out (by kernel_rfl) ?_)
      with_reducible refine (sof_ok s2 C _ HO9.out.rd HIC.out HSC.out HVC.out).mono ?_
      rintro e y203 ⟨sq, rfl, ho, hb⟩
      have hsz := hb.size
      replace HB := Lib.hid (below_via HB.out hb)
      replace HX := Lib.hid (HX.out.below hb)
      replace HPp := Lib.hid (HPp.out.below hb)
      replace HQp := Lib.hid (HQp.out.below hb)
      clear hb
      go_wp2_with (refine wpList_store_ph (s := sq) (P := (puB C)) rfl _ _ rfl rfl rfl (heap_alloc_new _ _) rfl ?_)
      intro y204 hw0
      have hbx := pboxed hw0.out
      obtain ⟨nq, hnq⟩ : ∃ n, n = y203.heap.size := ⟨_, rfl⟩
      rw [← hnq] at hbx ho ⊢
      have hb := hbx.1
      rw [hnq] at hb
      replace HB := Lib.hid (below_via HB.out hb)
      replace HX := Lib.hid (HX.out.below hb)
      replace HPp := Lib.hid (HPp.out.below hb)
      replace HQp := Lib.hid (HQp.out.below hb)
      have HPq := Lib.hid (ho.below hb)
      have HQq := Lib.hid hbx.2
      clear hw0 hbx hb ho hsz hnq
      clear HX9 HO9 hlp
      go_wp2_with (first | (refine wpList_load_px _ rfl rfl HQp.out (by kernel_rfl) ?_) | (refine wpList_load_px _ rfl rfl HQq.out (by kernel_rfl) ?_))
      with_reducible refine (sequal sp sq _ _ _ HPp.out.rd HPq.out.rd).mono ?_
      rintro e y205 ⟨r, rfl, hr, hb⟩
      obtain rfl : r = true := hr.2 HPC.out.symm
      replace HB := Lib.hid (below_via HB.out hb)
      replace HX := Lib.hid (HX.out.below hb)
      replace HPp := Lib.hid (HPp.out.below hb)
      replace HQp := Lib.hid (HQp.out.below hb)
      replace HPq := Lib.hid (HPq.out.below hb)
      replace HQq := Lib.hid (HQq.out.below hb)
      clear hb hr HPq HQq
      go_wp2_with fail
      with_reducible refine (snew_ok D _ (by have := HDT.out; omega) (by have := HDT.out; omega)).mono ?_
      rintro e y206 ⟨Q1, rfl, hP, hS, hb⟩
      have HN2 : Hid (w.heap.size < Q1 ∧ np < Q1) := Lib.hid (by have h1 := HQp.out.lt; have h2 := HX.out.lt; omega)
      replace HB := Lib.hid (below_via HB.out hb)
      replace HX := Lib.hid (HX.out.below hb)
      replace HPp := Lib.hid (HPp.out.below hb)
      replace HQp := Lib.hid (HQp.out.below hb)
      have HS : Hid (∃ v, SdAt y206 Q1 ⟨D, 0, []⟩ v) := Lib.hid ⟨_, hS⟩
      have HNP : Hid (np < Q1) := Lib.hid HN2.out.2
      clear hb hP hS
      go_wp2_with (refine wpList_load_bx _ rfl rfl HX.out (by kernel_rfl) ?_)
      obtain ⟨v, hS⟩ := HS.out
      with_reducible refine (show_ok Q1 ⟨D, 0, []⟩ v s B t _ hS (HR.out.below HB.out) HI.out HSM.out.sm HV.out (by have := HDT.out; unfold U; omega) (by simp [Plain.Sd.go, drp])).mono ?_
      rintro e y207 ⟨rfl, hs, ho⟩
      replace HS : Hid (∃ v, SdAt y207 Q1 ⟨D, t, [(puB B, t)]⟩ v) := Lib.hid (by rw [← hd_shw HDT.out.1.1]; exact hs)
      replace HX := Lib.hid (HX.out.onl ho (by have := HN2.out; simp; omega))
      replace HPp := Lib.hid (HPp.out.keep (fun k a b => ho.block k (by have h1 := HQp.out.lt; omega) (by have := HN2.out; simp; omega)))
      replace HQp := Lib.hid (HQp.out.onl ho (by have := HN2.out; simp; omega))
      replace HB := Lib.hid (belowOnl HB.out ho (by have := HN2.out; simp; omega) HB.out.size)
      clear hs ho hS v
      obtain ⟨⟨t0, t1⟩, d0, d1⟩ := HDT.out
      by_cases hD0 : D > 0
      case pos =>
        have tD : decide (D > 0) = true := decide_eq_true hD0
        go_wp2_with fail
        obtain ⟨v, hS⟩ := HS.out
        with_reducible refine (see_none Q1 ⟨D, t, [(puB B, t)]⟩ v (t + D - 1) _ hS (by have := HDT.out; unfold U; omega) (by rw [hd_go (by have := HDT.out; omega)]; exact hd_no HDT.out.1 HDT.out.2 (by omega))).mono ?_
        rintro e y208 ⟨⟨sv, rfl, hpo, ho⟩, hs⟩
        rw [hd_go (by have := HDT.out; omega)] at hs
        replace HS : Hid (∃ v, SdAt y208 Q1 ⟨D, t + D - 1, [(puB B, t)]⟩ v) := Lib.hid hs
        have HPv := Lib.hid hpo.rd
        replace HX := Lib.hid (HX.out.onl ho (by have := HN2.out; simp; omega))
        replace HPp := Lib.hid (HPp.out.keep (fun k a b => ho.block k (by have h1 := HQp.out.lt; omega) (by have := HN2.out; simp; omega)))
        replace HQp := Lib.hid (HQp.out.onl ho (by have := HN2.out; simp; omega))
        replace HB := Lib.hid (belowOnl HB.out ho (by have := HN2.out; simp; omega) HB.out.size)
        clear hs ho hS v hpo
        clear tD
        go_wp2_with (refine wpList_store_ph (s := sv) (P := zeroPu) rfl _ _ rfl rfl rfl (heap_alloc_new _ _) rfl ?_)
        intro y8 hw0
        have hb := (pboxed hw0.out).1
        replace HS := Lib.hid (by obtain ⟨v, h⟩ := HS.out; exact (⟨v, h.below hb⟩ : ∃ v, SdAt y8 _ _ v))
        replace HB := Lib.hid (below_via HB.out hb)
        replace HX := Lib.hid (HX.out.below hb)
        replace HPp := Lib.hid (HPp.out.below hb)
        replace HQp := Lib.hid (HQp.out.below hb)
        clear hw0 hb HPv
        go_wp2_with fail
        obtain ⟨v, hS⟩ := HS.out
        with_reducible refine (see_ok Q1 ⟨D, t + D - 1, [(puB B, t)]⟩ v (t + D) _ hS (by have := HDT.out; unfold U; omega) (puB B, t) (by rw [hd_go (by have := HDT.out; omega)]; exact hd_yes HDT.out.1 (by have := HDT.out; omega) (by omega)) (pub_sm HV.out HSM.out)).mono ?_
        rintro e y210 ⟨⟨sv, rfl, hpo, ho⟩, hs⟩
        rw [hd_go (by have := HDT.out; omega)] at hs
        replace HS : Hid (∃ v, SdAt y210 Q1 ⟨D, t + D, [(puB B, t)]⟩ v) := Lib.hid hs
        have hpo' := Lib.hid hpo
        have HPv := Lib.hid hpo.rd
        replace HX := Lib.hid (HX.out.onl ho (by have := HN2.out; simp; omega))
        replace HPp := Lib.hid (HPp.out.keep (fun k a b => ho.block k (by have h1 := HQp.out.lt; omega) (by have := HN2.out; simp; omega)))
        replace HQp := Lib.hid (HQp.out.onl ho (by have := HN2.out; simp; omega))
        replace HB := Lib.hid (belowOnl HB.out ho (by have := HN2.out; simp; omega) HB.out.size)
        clear hs ho hS v hpo
        go_wp2_with (refine wpList_store_ph (s := sv) (P := (puB B)) rfl _ _ rfl rfl rfl (heap_alloc_new _ _) rfl ?_)
        intro y211 hw0
        have hbx := pboxed hw0.out
        obtain ⟨nv, hnv⟩ : ∃ n, n = y210.heap.size := ⟨_, rfl⟩
        have HN4 : Hid (np < nv ∧ w.heap.size < nv) := Lib.hid (by have h1 := HQp.out.lt; have h2 := HX.out.lt; rw [hnv]; exact ⟨h1, h2⟩)
        rw [← hnv] at hbx ⊢
        have hb := hbx.1
        rw [hnv] at hb
        replace HS := Lib.hid (by obtain ⟨v, h⟩ := HS.out; exact (⟨v, h.below hb⟩ : ∃ v, SdAt y211 _ _ v))
        replace HPv := Lib.hid (HPv.out.below hb)
        replace HB := Lib.hid (below_via HB.out hb)
        replace HX := Lib.hid (HX.out.below hb)
        replace HPp := Lib.hid (HPp.out.below hb)
        replace HQp := Lib.hid (HQp.out.below hb)
        have HQv := Lib.hid hbx.2
        clear hw0 hbx hb hnv
        go_wp2_with (first | (refine wpList_load_px _ rfl rfl HQv.out (by kernel_rfl) ?_) | (refine wpList_load_px _ rfl rfl HQp.out (by kernel_rfl) ?_))
        with_reducible refine (sequal sv sp _ _ _ HPv.out HPp.out.rd).mono ?_
        rintro e y212 ⟨r, rfl, hr, hb⟩
        obtain rfl : r = true := hr.2 rfl
        replace HS := Lib.hid (by obtain ⟨v, h⟩ := HS.out; exact (⟨v, h.below hb⟩ : ∃ v, SdAt y212 _ _ v))
        replace HQv := Lib.hid (HQv.out.below hb)
        replace HB := Lib.hid (below_via HB.out hb)
        replace HX := Lib.hid (HX.out.below hb)
        replace HPp := Lib.hid (HPp.out.below hb)
        replace HQp := Lib.hid (HQp.out.below hb)
        clear hb hr
        clear HS HN2 HNP HPv
        go_wp2_with fail
        with_reducible refine (snew_ok 0 _ (by have := HDT.out; omega) (by have := HDT.out; omega)).mono ?_
        rintro e y213 ⟨Q2, rfl, hP, hS, hb⟩
        have HN3 : Hid (nv < Q2) := Lib.hid (by have h1 := HQv.out.lt; omega)
        have HN2 : Hid (w.heap.size < Q2 ∧ np < Q2) := Lib.hid (by have h1 := HQp.out.lt; have h2 := HX.out.lt; omega)
        replace HB := Lib.hid (below_via HB.out hb)
        replace HX := Lib.hid (HX.out.below hb)
        replace HPp := Lib.hid (HPp.out.below hb)
        replace HQp := Lib.hid (HQp.out.below hb)
        have HS : Hid (∃ v, SdAt y213 Q2 ⟨0, 0, []⟩ v) := Lib.hid ⟨_, hS⟩
        have HNP : Hid (np < Q2) := Lib.hid HN2.out.2
        replace HQv := Lib.hid (HQv.out.below hb)
        clear hb hP hS
        go_wp2_with (refine wpList_load_bx _ rfl rfl HX.out (by kernel_rfl) ?_)
        obtain ⟨v, hS⟩ := HS.out
        with_reducible refine (show_ok Q2 ⟨0, 0, []⟩ v s B t _ hS (HR.out.below HB.out) HI.out HSM.out.sm HV.out (by have := HDT.out; unfold U; omega) (by simp [Plain.Sd.go, drp])).mono ?_
        rintro e y214 ⟨rfl, hs, ho⟩
        replace HS : Hid (∃ v, SdAt y214 Q2 ⟨0, t, [(puB B, t)]⟩ v) := Lib.hid (by rw [← hd_shw HDT.out.1.1]; exact hs)
        replace HX := Lib.hid (HX.out.onl ho (by have := HN2.out; simp; omega))
        replace HPp := Lib.hid (HPp.out.keep (fun k a b => ho.block k (by have h1 := HQp.out.lt; omega) (by have := HN2.out; simp; omega)))
        replace HQp := Lib.hid (HQp.out.onl ho (by have := HN2.out; simp; omega))
        replace HB := Lib.hid (belowOnl HB.out ho (by have := HN2.out; simp; omega) HB.out.size)
        replace HQv := Lib.hid (HQv.out.onl ho (by have := HN3.out; simp; omega))
        clear hs ho hS v
        go_wp2_with fail
        obtain ⟨v, hS⟩ := HS.out
        with_reducible refine (see_ok Q2 ⟨0, t, [(puB B, t)]⟩ v (t) _ hS (by have := HDT.out; unfold U; omega) (puB B, t) (by rw [hd_go (by have := HDT.out; omega)]; exact hd_yes HDT.out.1 (by have := HDT.out; omega) (by omega)) (pub_sm HV.out HSM.out)).mono ?_
        rintro e y215 ⟨⟨sv, rfl, hpo, ho⟩, hs⟩
        rw [hd_go (by have := HDT.out; omega)] at hs
        replace HS : Hid (∃ v, SdAt y215 Q2 ⟨0, t, [(puB B, t)]⟩ v) := Lib.hid hs
        have hpo' := Lib.hid hpo
        have HPv := Lib.hid hpo.rd
        replace HX := Lib.hid (HX.out.onl ho (by have := HN2.out; simp; omega))
        replace HPp := Lib.hid (HPp.out.keep (fun k a b => ho.block k (by have h1 := HQp.out.lt; omega) (by have := HN2.out; simp; omega)))
        replace HQp := Lib.hid (HQp.out.onl ho (by have := HN2.out; simp; omega))
        replace HB := Lib.hid (belowOnl HB.out ho (by have := HN2.out; simp; omega) HB.out.size)
        replace HQv := Lib.hid (HQv.out.onl ho (by have := HN3.out; simp; omega))
        clear hs ho hS v hpo
        go_wp2_with (refine wpList_store_ph (s := sv) (P := (puB B)) rfl _ _ rfl rfl rfl HQv.out rfl ?_)
        intro y216 hw0
        have ho : Onl [nv] y215 y216 := by rw [hw0.out]; exact Onl.setRow (Onl.refl _ _) (.inl (by simp)) _
        have hq : Px y216 nv sv (puB B) := by rw [hw0.out]; exact Px.row HQv.out _ _
        replace HPv := Lib.hid (hpo'.out.onlT ho HQv.out (by decide)).rd
        replace HPp := Lib.hid (HPp.out.onlT ho HQv.out (by decide))
        replace HQp := Lib.hid (HQp.out.onl ho (by have := HN4.out; simp; omega))
        replace HB := Lib.hid (belowOnl HB.out ho (by have := HN4.out; simp; omega) HB.out.size)
        replace HQv := Lib.hid hq
        clear hw0 ho hq HS HX
        go_wp2_with (first | (refine wpList_load_px _ rfl rfl HQv.out (by kernel_rfl) ?_) | (refine wpList_load_px _ rfl rfl HQp.out (by kernel_rfl) ?_))
        with_reducible refine (sequal sv sp _ _ _ HPv.out HPp.out.rd).mono ?_
        rintro e y217 ⟨r, rfl, hr, hb⟩
        obtain rfl : r = true := hr.2 rfl
        replace HQv := Lib.hid (HQv.out.below hb)
        replace HB := Lib.hid (below_via HB.out hb)
        replace HPp := Lib.hid (HPp.out.below hb)
        replace HQp := Lib.hid (HQp.out.below hb)
        clear hb hr
        go_wp2_with fail
        with_reducible refine (known _).mono ?_
        rintro e y9 ⟨rfl, hb⟩
        replace HB := Lib.hid (below_via HB.out hb)
        clear hb
        go_wp2_with fail
        go_returns
        exact ⟨rfl, HB.out⟩
      case neg =>
        have tD : decide (D > 0) = false := decide_eq_false hD0
        go_wp2_with fail
        obtain ⟨v, hS⟩ := HS.out
        with_reducible refine (see_ok Q1 ⟨D, t, [(puB B, t)]⟩ v (t + D) _ hS (by have := HDT.out; unfold U; omega) (puB B, t) (by rw [hd_go (by have := HDT.out; omega)]; exact hd_yes HDT.out.1 (by have := HDT.out; omega) (by omega)) (pub_sm HV.out HSM.out)).mono ?_
        rintro e y218 ⟨⟨sv, rfl, hpo, ho⟩, hs⟩
        rw [hd_go (by have := HDT.out; omega)] at hs
        replace HS : Hid (∃ v, SdAt y218 Q1 ⟨D, t + D, [(puB B, t)]⟩ v) := Lib.hid hs
        have hpo' := Lib.hid hpo
        have HPv := Lib.hid hpo.rd
        replace HX := Lib.hid (HX.out.onl ho (by have := HN2.out; simp; omega))
        replace HPp := Lib.hid (HPp.out.keep (fun k a b => ho.block k (by have h1 := HQp.out.lt; omega) (by have := HN2.out; simp; omega)))
        replace HQp := Lib.hid (HQp.out.onl ho (by have := HN2.out; simp; omega))
        replace HB := Lib.hid (belowOnl HB.out ho (by have := HN2.out; simp; omega) HB.out.size)
        clear hs ho hS v hpo
        go_wp2_with (refine wpList_store_ph (s := sv) (P := (puB B)) rfl _ _ rfl rfl rfl (heap_alloc_new _ _) rfl ?_)
        intro y219 hw0
        have hbx := pboxed hw0.out
        obtain ⟨nv, hnv⟩ : ∃ n, n = y218.heap.size := ⟨_, rfl⟩
        have HN4 : Hid (np < nv ∧ w.heap.size < nv) := Lib.hid (by have h1 := HQp.out.lt; have h2 := HX.out.lt; rw [hnv]; exact ⟨h1, h2⟩)
        rw [← hnv] at hbx ⊢
        have hb := hbx.1
        rw [hnv] at hb
        replace HS := Lib.hid (by obtain ⟨v, h⟩ := HS.out; exact (⟨v, h.below hb⟩ : ∃ v, SdAt y219 _ _ v))
        replace HPv := Lib.hid (HPv.out.below hb)
        replace HB := Lib.hid (below_via HB.out hb)
        replace HX := Lib.hid (HX.out.below hb)
        replace HPp := Lib.hid (HPp.out.below hb)
        replace HQp := Lib.hid (HQp.out.below hb)
        have HQv := Lib.hid hbx.2
        clear hw0 hbx hb hnv
        go_wp2_with (first | (refine wpList_load_px _ rfl rfl HQv.out (by kernel_rfl) ?_) | (refine wpList_load_px _ rfl rfl HQp.out (by kernel_rfl) ?_))
        with_reducible refine (sequal sv sp _ _ _ HPv.out HPp.out.rd).mono ?_
        rintro e y220 ⟨r, rfl, hr, hb⟩
        obtain rfl : r = true := hr.2 rfl
        replace HS := Lib.hid (by obtain ⟨v, h⟩ := HS.out; exact (⟨v, h.below hb⟩ : ∃ v, SdAt y220 _ _ v))
        replace HQv := Lib.hid (HQv.out.below hb)
        replace HB := Lib.hid (below_via HB.out hb)
        replace HX := Lib.hid (HX.out.below hb)
        replace HPp := Lib.hid (HPp.out.below hb)
        replace HQp := Lib.hid (HQp.out.below hb)
        clear hb hr
        clear HS HN2 HNP HPv
        go_wp2_with fail
        with_reducible refine (snew_ok 0 _ (by have := HDT.out; omega) (by have := HDT.out; omega)).mono ?_
        rintro e y221 ⟨Q2, rfl, hP, hS, hb⟩
        have HN3 : Hid (nv < Q2) := Lib.hid (by have h1 := HQv.out.lt; omega)
        have HN2 : Hid (w.heap.size < Q2 ∧ np < Q2) := Lib.hid (by have h1 := HQp.out.lt; have h2 := HX.out.lt; omega)
        replace HB := Lib.hid (below_via HB.out hb)
        replace HX := Lib.hid (HX.out.below hb)
        replace HPp := Lib.hid (HPp.out.below hb)
        replace HQp := Lib.hid (HQp.out.below hb)
        have HS : Hid (∃ v, SdAt y221 Q2 ⟨0, 0, []⟩ v) := Lib.hid ⟨_, hS⟩
        have HNP : Hid (np < Q2) := Lib.hid HN2.out.2
        replace HQv := Lib.hid (HQv.out.below hb)
        clear hb hP hS
        go_wp2_with (refine wpList_load_bx _ rfl rfl HX.out (by kernel_rfl) ?_)
        obtain ⟨v, hS⟩ := HS.out
        with_reducible refine (show_ok Q2 ⟨0, 0, []⟩ v s B t _ hS (HR.out.below HB.out) HI.out HSM.out.sm HV.out (by have := HDT.out; unfold U; omega) (by simp [Plain.Sd.go, drp])).mono ?_
        rintro e y222 ⟨rfl, hs, ho⟩
        replace HS : Hid (∃ v, SdAt y222 Q2 ⟨0, t, [(puB B, t)]⟩ v) := Lib.hid (by rw [← hd_shw HDT.out.1.1]; exact hs)
        replace HX := Lib.hid (HX.out.onl ho (by have := HN2.out; simp; omega))
        replace HPp := Lib.hid (HPp.out.keep (fun k a b => ho.block k (by have h1 := HQp.out.lt; omega) (by have := HN2.out; simp; omega)))
        replace HQp := Lib.hid (HQp.out.onl ho (by have := HN2.out; simp; omega))
        replace HB := Lib.hid (belowOnl HB.out ho (by have := HN2.out; simp; omega) HB.out.size)
        replace HQv := Lib.hid (HQv.out.onl ho (by have := HN3.out; simp; omega))
        clear hs ho hS v
        go_wp2_with fail
        obtain ⟨v, hS⟩ := HS.out
        with_reducible refine (see_ok Q2 ⟨0, t, [(puB B, t)]⟩ v (t) _ hS (by have := HDT.out; unfold U; omega) (puB B, t) (by rw [hd_go (by have := HDT.out; omega)]; exact hd_yes HDT.out.1 (by have := HDT.out; omega) (by omega)) (pub_sm HV.out HSM.out)).mono ?_
        rintro e y223 ⟨⟨sv, rfl, hpo, ho⟩, hs⟩
        rw [hd_go (by have := HDT.out; omega)] at hs
        replace HS : Hid (∃ v, SdAt y223 Q2 ⟨0, t, [(puB B, t)]⟩ v) := Lib.hid hs
        have hpo' := Lib.hid hpo
        have HPv := Lib.hid hpo.rd
        replace HX := Lib.hid (HX.out.onl ho (by have := HN2.out; simp; omega))
        replace HPp := Lib.hid (HPp.out.keep (fun k a b => ho.block k (by have h1 := HQp.out.lt; omega) (by have := HN2.out; simp; omega)))
        replace HQp := Lib.hid (HQp.out.onl ho (by have := HN2.out; simp; omega))
        replace HB := Lib.hid (belowOnl HB.out ho (by have := HN2.out; simp; omega) HB.out.size)
        replace HQv := Lib.hid (HQv.out.onl ho (by have := HN3.out; simp; omega))
        clear hs ho hS v hpo
        go_wp2_with (refine wpList_store_ph (s := sv) (P := (puB B)) rfl _ _ rfl rfl rfl HQv.out rfl ?_)
        intro y224 hw0
        have ho : Onl [nv] y223 y224 := by rw [hw0.out]; exact Onl.setRow (Onl.refl _ _) (.inl (by simp)) _
        have hq : Px y224 nv sv (puB B) := by rw [hw0.out]; exact Px.row HQv.out _ _
        replace HPv := Lib.hid (hpo'.out.onlT ho HQv.out (by decide)).rd
        replace HPp := Lib.hid (HPp.out.onlT ho HQv.out (by decide))
        replace HQp := Lib.hid (HQp.out.onl ho (by have := HN4.out; simp; omega))
        replace HB := Lib.hid (belowOnl HB.out ho (by have := HN4.out; simp; omega) HB.out.size)
        replace HQv := Lib.hid hq
        clear hw0 ho hq HS HX
        go_wp2_with (first | (refine wpList_load_px _ rfl rfl HQv.out (by kernel_rfl) ?_) | (refine wpList_load_px _ rfl rfl HQp.out (by kernel_rfl) ?_))
        with_reducible refine (sequal sv sp _ _ _ HPv.out HPp.out.rd).mono ?_
        rintro e y225 ⟨r, rfl, hr, hb⟩
        obtain rfl : r = true := hr.2 rfl
        replace HQv := Lib.hid (HQv.out.below hb)
        replace HB := Lib.hid (below_via HB.out hb)
        replace HPp := Lib.hid (HPp.out.below hb)
        replace HQp := Lib.hid (HQp.out.below hb)
        clear hb hr
        go_wp2_with fail
        with_reducible refine (known _).mono ?_
        rintro e y9 ⟨rfl, hb⟩
        replace HB := Lib.hid (below_via HB.out hb)
        clear hb
        go_wp2_with fail
        go_returns
        exact ⟨rfl, HB.out⟩
end Go.Proofs.Yteoeahmnonolmaa
