/- A new board with the cards of two decks, by the code. -/
import Derived.Test.YteoeahmnonolmaaBR
import Derived.Test.YteoeahmnonolmaaBPn
import Derived.Test.YteoeahmnonolmaaBW
import Derived.Test.YteoeahmnonolmaaBCr
import Derived.Deep.DeepCutAuto
import Derived.LoopTactic
import Derived.Deep.MidRow
namespace Go.Proofs.Yteoeahmnonolmaa
open Go.RowKit Plain
set_option linter.unusedVariables false
set_option linter.unusedSimpArgs false

/-- a board's slices of which only three are not nil -/
def nsB (so s0 s1 : Sl) : Bs := { nilS with ob := so, l0 := s0, l1 := s1 }
structure NwI (w : World) (l0 l1 : Int) (L : List Ob) (U0 U1 : List Int) (so s0 s1 : Sl) (wr : World) : Prop where
  below : Below w.heap.size w wr
  sz : (w.heap.size + 1 + 1 + 1) ≤ wr.heap.size
  box : Bx wr (w.heap.size + 1 + 1) (nsB so s0 s1) (numB l0 l1 L U0 U1)
  ob : Ow oc 12 79 wr (w.heap.size + 1 + 1 + 1) so.v L
  r0 : Ow ic 1 3 wr (w.heap.size + 1 + 1 + 1) s0.v U0
  r1 : Ow ic 1 3 wr (w.heap.size + 1 + 1 + 1) s1.v U1
  nd : ∀ b, s0.v.ownBlock = some b → s1.v.ownBlock ≠ some b
  rz : Bx wr (w.heap.size + 1) nilS zeroB
theorem NwI.keep {w : World} {l0 l1 : Int} {L : List Ob} {U0 U1 : List Int} {so s0 s1 : Sl} {W W' : World} (h : NwI w l0 l1 L U0 U1 so s0 s1 W) (hb : Below W.heap.size W W') : NwI w l0 l1 L U0 U1 so s0 s1 W' :=
  ⟨below_via h.below hb, Nat.le_trans h.sz hb.size, h.box.below hb, h.ob.below hb, h.r0.below hb, h.r1.below hb, h.nd, h.rz.below hb⟩
/-- a life is written -/
theorem NwI.life {w : World} {l0 l1 l0' l1' : Int} {L : List Ob} {U0 U1 : List Int} {so s0 s1 : Sl} {W : World} (h : NwI w l0 l1 L U0 U1 so s0 s1 W) (i : Nat) (v : Value) (he : (bcells (nsB so s0 s1) (numB l0 l1 L U0 U1)).setIfInBounds i v = bcells (nsB so s0 s1) (numB l0' l1' L U0 U1)) : NwI w l0' l1' L U0 U1 so s0 s1 (W.setCell ⟨(w.heap.size + 1 + 1), i, none⟩ v) := by
  have ho : Onl [(w.heap.size + 1 + 1)] W (W.setCell ⟨(w.heap.size + 1 + 1), i, none⟩ v) := Onl.setCell (Onl.refl _ _) (.inl (by simp)) _
  have hne : ∀ (e : TypeId) (z : Nat) (u : Value) (cs : List Value), True := fun _ _ _ _ => trivial
  exact ⟨belowOnl h.below ho (by simp; omega) h.below.size, Nat.le_trans h.sz ho.size, h.box.put i v he, h.ob.onl ho (fun b hb => by have := (h.ob.typ b hb).1; simp; omega), h.r0.onl ho (fun b hb => by have := (h.r0.typ b hb).1; simp; omega), h.r1.onl ho (fun b hb => by have := (h.r1.typ b hb).1; simp; omega), h.nd, h.rz.onl ho (by simp)⟩
/-- an object is appended -/
theorem NwI.app {w : World} {l0 l1 : Int} {L L' : List Ob} {U0 U1 : List Int} {so so' s0 s1 : Sl} {W wb : World} (h : NwI w l0 l1 L U0 U1 so s0 s1 W) (hown : Ow oc 12 79 wb (w.heap.size + 1 + 1 + 1) so'.v L') (hg : W.grownBy wb so.v.ownBlock) : NwI w l0 l1 L' U0 U1 so' s0 s1 (wb.setCell ⟨(w.heap.size + 1 + 1), 0, none⟩ so'.v) := by
  have ho : Onl [(w.heap.size + 1 + 1)] wb (wb.setCell ⟨(w.heap.size + 1 + 1), 0, none⟩ so'.v) := Onl.setCell (Onl.refl _ _) (.inl (by simp)) _
  have hb : Below w.heap.size w wb := h.below.grown hg h.below.size (fun q hq => by have := (h.ob.typ q hq).1; omega)
  have hx : ∀ k : Nat, k < (w.heap.size + 1 + 1 + 1) → wb.heap[k]? = W.heap[k]? := fun k hk => hg.block k (by have := h.sz; omega) (fun e => by have := (h.ob.typ k e.symm).1; omega)
  have hbx : Bx wb (w.heap.size + 1 + 1) (nsB so s0 s1) (numB l0 l1 L U0 U1) := (hx _ (by omega)).trans h.box
  have hrz : Bx wb (w.heap.size + 1) nilS zeroB := (hx _ (by omega)).trans h.rz
  have k0 := h.r0.grown hg (fun b hb e => h.ob.ne h.r0 (by decide) b e hb)
  have k1 := h.r1.grown hg (fun b hb e => h.ob.ne h.r1 (by decide) b e hb)
  exact ⟨belowOnl hb ho (by simp; omega) hb.size, Nat.le_trans h.sz (Nat.le_trans hg.size ho.size), hbx.put 0 _ rfl, hown.onl ho (fun b hb => by have := (hown.typ b hb).1; simp; omega), k0.onl ho (fun b hb => by have := (k0.typ b hb).1; simp; omega), k1.onl ho (fun b hb => by have := (k1.typ b hb).1; simp; omega), h.nd, hrz.onl ho (by simp)⟩
theorem NwI.lib0 {w : World} {l0 l1 : Int} {L : List Ob} {U0 U1 U' : List Int} {so s0 s1 s' : Sl} {W wb : World} (h : NwI w l0 l1 L U0 U1 so s0 s1 W) (hown : Ow ic 1 3 wb (w.heap.size + 1 + 1 + 1) s'.v U') (hg : W.grownBy wb s0.v.ownBlock) (hn : s'.v.ownBlock = s0.v.ownBlock ∨ s'.v.ownBlock = some W.heap.size) : NwI w l0 l1 L U' U1 so s' s1 (wb.setCell ⟨(w.heap.size + 1 + 1), 6, none⟩ s'.v) := by
  have ho : Onl [(w.heap.size + 1 + 1)] wb (wb.setCell ⟨(w.heap.size + 1 + 1), 6, none⟩ s'.v) := Onl.setCell (Onl.refl _ _) (.inl (by simp)) _
  have hb : Below w.heap.size w wb := h.below.grown hg h.below.size (fun q hq => by have := (h.r0.typ q hq).1; omega)
  have hx : ∀ k : Nat, k < (w.heap.size + 1 + 1 + 1) → wb.heap[k]? = W.heap[k]? := fun k hk => hg.block k (by have := h.sz; omega) (fun e => by have := (h.r0.typ k e.symm).1; omega)
  have hbx : Bx wb (w.heap.size + 1 + 1) (nsB so s0 s1) (numB l0 l1 L U0 U1) := (hx _ (by omega)).trans h.box
  have hrz : Bx wb (w.heap.size + 1) nilS zeroB := (hx _ (by omega)).trans h.rz
  have k0 := h.ob.grown hg (fun b hb e => h.ob.ne h.r0 (by decide) b hb e)
  have k1 := h.r1.grown hg (fun b hb e => h.nd b e hb)
  have nd : ∀ b, s'.v.ownBlock = some b → s1.v.ownBlock ≠ some b := by
    intro b h1 h2
    rcases hn with e | e
    · exact h.nd b (e ▸ h1) h2
    · rw [h1] at e
      have := (h.r1.typ b h2).2.1
      simp at e
      omega
  exact ⟨belowOnl hb ho (by simp; omega) hb.size, Nat.le_trans h.sz (Nat.le_trans hg.size ho.size), hbx.put 6 _ rfl, k0.onl ho (fun b hb => by have := (k0.typ b hb).1; simp; omega), hown.onl ho (fun b hb => by have := (hown.typ b hb).1; simp; omega), k1.onl ho (fun b hb => by have := (k1.typ b hb).1; simp; omega), nd, hrz.onl ho (by simp)⟩
theorem NwI.lib1 {w : World} {l0 l1 : Int} {L : List Ob} {U0 U1 U' : List Int} {so s0 s1 s' : Sl} {W wb : World} (h : NwI w l0 l1 L U0 U1 so s0 s1 W) (hown : Ow ic 1 3 wb (w.heap.size + 1 + 1 + 1) s'.v U') (hg : W.grownBy wb s1.v.ownBlock) (hn : s'.v.ownBlock = s1.v.ownBlock ∨ s'.v.ownBlock = some W.heap.size) : NwI w l0 l1 L U0 U' so s0 s' (wb.setCell ⟨(w.heap.size + 1 + 1), 20, none⟩ s'.v) := by
  have ho : Onl [(w.heap.size + 1 + 1)] wb (wb.setCell ⟨(w.heap.size + 1 + 1), 20, none⟩ s'.v) := Onl.setCell (Onl.refl _ _) (.inl (by simp)) _
  have hb : Below w.heap.size w wb := h.below.grown hg h.below.size (fun q hq => by have := (h.r1.typ q hq).1; omega)
  have hx : ∀ k : Nat, k < (w.heap.size + 1 + 1 + 1) → wb.heap[k]? = W.heap[k]? := fun k hk => hg.block k (by have := h.sz; omega) (fun e => by have := (h.r1.typ k e.symm).1; omega)
  have hbx : Bx wb (w.heap.size + 1 + 1) (nsB so s0 s1) (numB l0 l1 L U0 U1) := (hx _ (by omega)).trans h.box
  have hrz : Bx wb (w.heap.size + 1) nilS zeroB := (hx _ (by omega)).trans h.rz
  have k0 := h.ob.grown hg (fun b hb e => h.ob.ne h.r1 (by decide) b hb e)
  have k1 := h.r0.grown hg (fun b hb e => h.nd b hb e)
  have nd : ∀ b, s0.v.ownBlock = some b → s'.v.ownBlock ≠ some b := by
    intro b h1 h2
    rcases hn with e | e
    · exact h.nd b h1 (e ▸ h2)
    · rw [h2] at e
      have := (h.r0.typ b h1).2.1
      simp at e
      omega
  exact ⟨belowOnl hb ho (by simp; omega) hb.size, Nat.le_trans h.sz (Nat.le_trans hg.size ho.size), hbx.put 20 _ rfl, k0.onl ho (fun b hb => by have := (k0.typ b hb).1; simp; omega), k1.onl ho (fun b hb => by have := (k1.typ b hb).1; simp; omega), hown.onl ho (fun b hb => by have := (hown.typ b hb).1; simp; omega), nd, hrz.onl ho (by simp)⟩
theorem NwI.bxo {w : World} {l0 l1 : Int} {L : List Ob} {U0 U1 : List Int} {so s0 s1 : Sl} {W wb : World} (h : NwI w l0 l1 L U0 U1 so s0 s1 W) (hg : W.grownBy wb so.v.ownBlock) : Bx wb (w.heap.size + 1 + 1) (nsB so s0 s1) (numB l0 l1 L U0 U1) :=
  (hg.block _ (by have := h.sz; omega) (fun e => by have := (h.ob.typ _ e.symm).1; omega)).trans h.box
theorem NwI.bx0 {w : World} {l0 l1 : Int} {L : List Ob} {U0 U1 : List Int} {so s0 s1 : Sl} {W wb : World} (h : NwI w l0 l1 L U0 U1 so s0 s1 W) (hg : W.grownBy wb s0.v.ownBlock) : Bx wb (w.heap.size + 1 + 1) (nsB so s0 s1) (numB l0 l1 L U0 U1) :=
  (hg.block _ (by have := h.sz; omega) (fun e => by have := (h.r0.typ _ e.symm).1; omega)).trans h.box
theorem NwI.bx1 {w : World} {l0 l1 : Int} {L : List Ob} {U0 U1 : List Int} {so s0 s1 : Sl} {W wb : World} (h : NwI w l0 l1 L U0 U1 so s0 s1 W) (hg : W.grownBy wb s1.v.ownBlock) : Bx wb (w.heap.size + 1 + 1) (nsB so s0 s1) (numB l0 l1 L U0 U1) :=
  (hg.block _ (by have := h.sz; omega) (fun e => by have := (h.r1.typ _ e.symm).1; omega)).trans h.box
theorem NwI.own {w : World} {so s0 s1 : Sl} {W W9 : World} (life : Int) (d0 d1 : List Int) (h : NwI w life life (mkL 0 0 d0 ++ mkL 1 d0.length d1) (upL 0 d0.length) (upL d0.length d1.length) so s0 s1 W) (ho : Onl [(w.heap.size + 1)] W W9) : BdO w.heap.size W9.heap.size W9 (nsB so s0 s1) (newB life d0 d1) := by
  have q0 := h.ob.onl ho (fun b hb => by have := (h.ob.typ b hb).1; simp; omega)
  have q1 := h.r0.onl ho (fun b hb => by have := (h.r0.typ b hb).1; simp; omega)
  have q2 := h.r1.onl ho (fun b hb => by have := (h.r1.typ b hb).1; simp; omega)
  have x0 : Ox oc 12 79 w.heap.size W9.heap.size W9 so.v _ := (Ox.of q0).mono (by omega) (Nat.le_refl _)
  have x1 : Ox ic 1 3 w.heap.size W9.heap.size W9 s0.v _ := (Ox.of q1).mono (by omega) (Nat.le_refl _)
  have x2 : Ox ic 1 3 w.heap.size W9.heap.size W9 s1.v _ := (Ox.of q2).mono (by omega) (Nat.le_refl _)
  have nil : ∀ b, nilSl.v.ownBlock = some b → False := fun b hb => by simp [nilSl, Sl.v, Value.ownBlock] at hb
  have key : ∀ j, j < 9 → Ox ic 1 3 w.heap.size W9.heap.size W9 ((nsB so s0 s1).isl j).v ((newB life d0 d1).il j) ∧ (j = 0 ∨ j = 4 ∨ (nsB so s0 s1).isl j = nilSl) := fun j hj => match j, hj with
    | 0, _ => ⟨x1, .inl rfl⟩
    | 1, _ => ⟨Ox.nil _ _ _ _, .inr (.inr rfl)⟩
    | 2, _ => ⟨Ox.nil _ _ _ _, .inr (.inr rfl)⟩
    | 3, _ => ⟨Ox.nil _ _ _ _, .inr (.inr rfl)⟩
    | 4, _ => ⟨x2, .inr (.inl rfl)⟩
    | 5, _ => ⟨Ox.nil _ _ _ _, .inr (.inr rfl)⟩
    | 6, _ => ⟨Ox.nil _ _ _ _, .inr (.inr rfl)⟩
    | 7, _ => ⟨Ox.nil _ _ _ _, .inr (.inr rfl)⟩
    | 8, _ => ⟨Ox.nil _ _ _ _, .inr (.inr rfl)⟩
  refine ⟨x0, fun j hj => (key j hj).1, ?_, ItO.nil _ _ _, ItO.nil _ _ _, fun b hb => (nil b hb).elim, Ox.nil _ _ _ _⟩
  intro i j hi hj hij b h1 h2
  rcases (key i hi).2 with rfl | rfl | e
  · rcases (key j hj).2 with rfl | rfl | e2
    · exact hij rfl
    · exact h.nd b h1 h2
    · rw [e2] at h2; exact nil b h2
  · rcases (key j hj).2 with rfl | rfl | e2
    · exact h.nd b h2 h1
    · exact hij rfl
    · rw [e2] at h2; exact nil b h2
  · rw [e] at h1; exact nil b h1
theorem Ow.sl {α : Type} {f : α → List Value} {sz : Nat} {e : TypeId} {w : World} {base : Nat} {v : Value} {l : List α} (h : Ow f sz e w base v l) : ∃ s : Sl, v = s.v ∧ s.n = l.length := by
  obtain ⟨a, c, rfl⟩ := h.form
  exact ⟨⟨a, l.length, c⟩, rfl, rfl⟩
set_option maxRecDepth 100000 in
set_option maxHeartbeats 4000000 in
theorem onew (i c p : Int) (w : World) : Calls Try.prog 29 #[.int .i64 i, .int .i64 c, .int .i64 p] w fun e w' => e = .returned (.agg #[.int .i64 i, .int .i64 c, .int .i64 p, .int .i64 0, .int .i64 0, .int .i64 0, .int .i64 0, .int .i64 0, .int .i64 0, .bool false, .bool false, .bool false]) ∧ Below w.heap.size w w' := by
  go_enter Try.func29, Try.ntmps29
  go_wp2
  go_returns
  exact ⟨rfl, by go_grown⟩
theorem rg9_15 {P : Program} {B n : Nat} {w0 : World} {L : List (Nat × Nat × Value)} {E F : World → Prop} {id : Nat} {Q : Exit → Act → World → Prop} {a : Act} {w : World} {o0 o1 o2 o3 o4 o5 o6 o7 o8 o9 : Oper} (hm : P.follows .mixedOrders = true)
    (hB : (Region.noSelect [o0, o1, o2, o3, o4, o5, o6, o7, o8, o9].toArray && Scr.ok .any [o0, o1, o2, o3, o4, o5, o6, o7, o8, o9].toArray [1] [0, 2, 3, 4, 8] (.free 0 (.free 2 (.free 3 (.free 4 (.read 1 (.alt 5 (.alt 6 (.altc 7 (.free 8 (.altc 9 .done .stop)) .stop) .stop) .stop)))))) true true [o0, o1, o2, o3, o4, o5, o6, o7, o8, o9].toArray.size (Array.replicate [o0, o1, o2, o3, o4, o5, o6, o7, o8, o9].toArray.size false)) = true)
    (k : Kept B w0 n L w) (he : E w) (hE : ∀ W W', E W → Below W.heap.size W W' → E W') (hf : F w) (hF : ∀ W W', F W → Below W.heap.size W W' → F W')
    (h : ∀ wk, Kept B w0 n L wk → E wk → F wk → wpQuiet P [o0, o1, o2, o3, o4, o5, o6, o7, o8, o9].toArray (fun _ => True) (fun a0 => wpQuiet P [o0, o1, o2, o3, o4, o5, o6, o7, o8, o9].toArray (fun w' => ∃ s : KX B w0 n L E, w' = s.val) (fun a1 => ((∀ K2 : Act → World → Prop, (∀ a2 w2, ((∀ K3 : Act → World → Prop, (∀ a3 w3, ((∀ K4 : Act → World → Prop, (∀ a4 w4, wpQuiet P [o0, o1, o2, o3, o4, o5, o6, o7, o8, o9].toArray (fun _ => True) (fun a5 => ((∀ K6 : Act → World → Prop, (∀ a6 w6, Q .normal a6 w6 → K6 a6 w6) → wpList P [o0, o1, o2, o3, o4, o5, o6, o7, o8, o9].toArray (fun e a6 w6 => e = .normal ∧ K6 a6 w6) [o9] a5 w4) ∧ True)) [o8] a4 → K4 a4 w4) → wpList P [o0, o1, o2, o3, o4, o5, o6, o7, o8, o9].toArray (fun e a4 w4 => e = .normal ∧ K4 a4 w4) [o7] a3 w3) ∧ True) → K3 a3 w3) → wpList P [o0, o1, o2, o3, o4, o5, o6, o7, o8, o9].toArray (fun e a3 w3 => e = .normal ∧ (∃ s : KX B w0 n L E, w3 = s.val) ∧ K3 a3 w3) [o6] a2 w2) ∧ True) → K2 a2 w2) → wpList P [o0, o1, o2, o3, o4, o5, o6, o7, o8, o9].toArray (fun e a2 w2 => e = .normal ∧ (∃ s : KX B w0 n L E, w2 = s.val) ∧ K2 a2 w2) [o5] a1 wk) ∧ True)) [o1] a0) [o0, o2, o3, o4] a) : (Code.region id [o0, o1, o2, o3, o4, o5, o6, o7, o8, o9].toArray true).wp P Q a w := by
  have e1 : E w.drew := hE _ _ he ((Below.refl _ _).drew)
  have g := h _ k.drew e1 (hF _ _ hf ((Below.refl _ _).drew))
  exact wp_region_scr (U := (fun w' => ∃ s : KX B w0 n L E, w' = s.val)) (ops := [o0, o1, o2, o3, o4, o5, o6, o7, o8, o9].toArray) (.free 0 (.free 2 (.free 3 (.free 4 (.read 1 (.alt 5 (.alt 6 (.altc 7 (.free 8 (.altc 9 .done .stop)) .stop) .stop) .stop)))))) [1] [0, 2, 3, 4, 8] hm hB ⟨⟨_, k.drew, e1⟩, rfl⟩ (Scr.of_free rfl g (fun _ g0 => Scr.of_free rfl g0 (fun _ g1 => Scr.of_free rfl g1 (fun _ g2 => Scr.of_free rfl g2 (fun _ g3 => Scr.of_read rfl g3 (fun _ g4 => (Scr.of_alt rfl (g4.1 _ (fun _ _ g => g)) (fun _ _ g5 => (Scr.of_alt rfl (g5.1 _ (fun _ _ g => g)) (fun _ _ g6 => (Scr.of_altc rfl (g6.1 _ (fun _ _ g => g)) (fun _ _ g7 => Scr.of_free rfl g7 (fun _ g8 => (Scr.of_altc rfl (g8.1 _ (fun _ _ g => g)) (fun _ _ g9 => g9) trivial))) trivial)) trivial)) trivial)))))))
theorem ix20 (a b : Option Addr) (n c m d : Nat) (w : World) : (Instr.index 38 (.agg #[.slice a n c, .slice b m d]) (.int .i64 0)).run Try.prog w = .ok (.slice a n c) w := by
  have e : (Instr.index 38 (.agg #[.slice a n c, .slice b m d]) (.int .i64 0)).run Try.prog w = .ok (.slice a n c) w := by kernel_rfl
  exact e
theorem ix21 (a b : Option Addr) (n c m d : Nat) (w : World) : (Instr.index 38 (.agg #[.slice a n c, .slice b m d]) (.int .i64 1)).run Try.prog w = .ok (.slice b m d) w := by
  have e : (Instr.index 38 (.agg #[.slice a n c, .slice b m d]) (.int .i64 1)).run Try.prog w = .ok (.slice b m d) w := by kernel_rfl
  exact e
def NwO (w : World) (life : Int) (d0 d1 : List Int) (v : Value) (wr : World) : Prop := ∃ p : Nat, p ≤ 2 ∧ v = .int .i64 p ∧ ∃ so s0 s1, NwI w (if 1 ≤ p then life else 0) (if 2 ≤ p then life else 0) (mkL 0 0 (if 1 ≤ p then d0 else []) ++ mkL 1 (if 1 ≤ p then d0 else []).length (if 2 ≤ p then d1 else [])) (upL 0 (if 1 ≤ p then d0 else []).length) (upL (if 1 ≤ p then d0 else []).length (if 2 ≤ p then d1 else []).length) so s0 s1 wr
def NwJ0 (w : World) (life : Int) (d0 : List Int) (v : Value) (wr : World) : Prop := ∃ i : Nat, i ≤ d0.length ∧ v = .int .i64 i ∧ ∃ so s0 s1, NwI w life 0 (mkL 0 0 (d0.take i)) (upL 0 i) [] so s0 s1 wr
def NwJ1 (w : World) (life : Int) (d0 d1 : List Int) (v : Value) (wr : World) : Prop := ∃ i : Nat, i ≤ d1.length ∧ v = .int .i64 i ∧ ∃ so s0 s1, NwI w life life (mkL 0 0 d0 ++ mkL 1 d0.length (d1.take i)) (upL 0 d0.length) (upL d0.length i) so s0 s1 wr
set_option maxRecDepth 100000 in
set_option maxHeartbeats 4000000 in
theorem bnew (life : Int) (d0 d1 : List Int) (v0 v1 : Value) (w : World) (h0 : Rw ic 1 w v0 d0) (h1 : Rw ic 1 w v1 d1) (hl : 1 ≤ life ∧ life ≤ 9999) (hd0 : ∀ c ∈ d0, 0 ≤ c ∧ c ≤ 399) (hd1 : ∀ c ∈ d1, 0 ≤ c ∧ c ≤ 399) (hn : d0.length + d1.length ≤ 500) : Calls Try.prog 9 #[.int .i64 life, .agg #[v0, v1]] w (BrA w (newB life d0 d1) (.int .i64 0)) := by
  obtain ⟨_, a0, c0, rfl, hf0⟩ := h0.form
  obtain ⟨_, a1, c1, rfl, hf1⟩ := h1.form
  have HF0 := Lib.hid hf0
  have HF1 := Lib.hid hf1
  have HD0 := Lib.hid hd0
  have HD1 := Lib.hid hd1
  have HLL := Lib.hid hn
  have ql : decide ((1 : Int) ≤ life ∧ life ≤ 9999) = true := decide_eq_true hl
  have t1 : decide ((d0.length : Int) + (d1.length : Int) > 500) = false := decide_eq_false (by omega)
  clear h0 h1 hf0 hf1 hd0 hd1 hl
  go_enter Try.func9, Try.ntmps9
  go_upto_region 1 with fail
  change Code.wp Try.prog _ _ _ ((w.alloc (.cells #[.slice a0 d0.length c0, .slice a1 d1.length c1] 38)).alloc (.cells (bcells nilS zeroB) 34))
  obtain ⟨wz, hwz⟩ : ∃ W, W = (w.alloc (.cells #[.slice a0 d0.length c0, .slice a1 d1.length c1] 38)).alloc (.cells (bcells nilS zeroB) 34) := ⟨_, rfl⟩
  have HSZ : Hid (wz.heap.size = w.heap.size + 1 + 1) := Lib.hid (by rw [hwz]; simp)
  have b1 : Below w.heap.size w (w.alloc (.cells #[.slice a0 d0.length c0, .slice a1 d1.length c1] 38)) := (Below.refl _ _).alloc (Nat.le_refl _) _
  have b2 : Below (w.alloc (.cells #[.slice a0 d0.length c0, .slice a1 d1.length c1] 38)).heap.size (w.alloc (.cells #[.slice a0 d0.length c0, .slice a1 d1.length c1] 38)) wz := by rw [hwz]; exact (Below.refl _ _).alloc (Nat.le_refl _) _
  have hD : wz.heap[w.heap.size]? = some (.cells #[.slice a0 d0.length c0, .slice a1 d1.length c1] 38 (0, 0)) := (b2.block _ (by simp)).trans (heap_alloc_new _ _)
  have HZ : Hid (Bx wz (w.heap.size + 1) nilS zeroB) := Lib.hid (by rw [hwz, show w.heap.size + 1 = (w.alloc (.cells #[.slice a0 d0.length c0, .slice a1 d1.length c1] 38)).heap.size by simp]; exact heap_alloc_new _ _)
  have HB : Hid (Below w.heap.size w wz) := Lib.hid (below_via b1 b2)
  have g0 : wz.cell? ⟨w.heap.size, 0, none⟩ = some (.slice a0 d0.length c0) := cell_of_row _ _ 0 _ 38 (0, 0) hD
  have g1 : wz.cell? ⟨w.heap.size, 1, none⟩ = some (.slice a1 d1.length c1) := cell_of_row _ _ 1 _ 38 (0, 0) hD
  rw [← hwz]
  clear hwz b1 b2
  go_wp2_with fail
  with_reducible refine (withinc _ _ _ _ _ ql).mono ?_
  rintro e w' ⟨rfl, rfl⟩
  go_wp2_with (refine wpList_store_bh (s := nilS) (B := numB 0 0 [] [] []) rfl _ _ rfl rfl rfl (heap_alloc_new _ _) rfl ?_)
  intro w2 hw0
  have hbx := boxed hw0.out
  have hsz := HSZ.out
  rw [hsz] at hbx ⊢
  have HB2 : Hid (Below wz.heap.size wz w2) := Lib.hid (by rw [hsz]; exact hbx.1)
  have hD2 := (HB2.out.block _ (by rw [hsz]; omega)).trans hD
  have HS : Hid (NwI w 0 0 [] [] [] nilSl nilSl nilSl w2) := Lib.hid ⟨below_via HB.out HB2.out, hbx.2.lt, hbx.2, Ow.nil _ _ _, Ow.nil _ _ _, Ow.nil _ _ _, fun b hb => by simp [nilSl, Sl.v, Value.ownBlock] at hb, HZ.out.below HB2.out⟩
  have e0 : w2.cell? ⟨w.heap.size, 0, none⟩ = some (.slice a0 d0.length c0) := cell_of_row _ _ 0 _ 38 (0, 0) hD2
  have e1 : w2.cell? ⟨w.heap.size, 1, none⟩ = some (.slice a1 d1.length c1) := cell_of_row _ _ 1 _ 38 (0, 0) hD2
  clear hw0 hbx hD hD2 g0 g1 hsz HSZ HB2 HB HZ ql t1
  go_wp2_with fail
  clear e0 e1
  go_loopw [29] (fun v wr => NwO w life d0 d1 v wr) (fun v _ => 2 - (intOf v).toNat)
  case atStart => exact ⟨0, by omega, rfl, _, _, _, HS.out⟩
  case round =>
    clear HS
    obtain ⟨p, hp, rfl, so, s0, s1, hs⟩ := hrel
    rcases (show p = 0 ∨ p = 1 ∨ p = 2 by omega) with rfl | rfl | rfl
    · rw [show ((0 : Nat) : Int) = 0 from rfl]
      replace hs : NwI w 0 0 [] [] [] so s0 s1 wr := hs
      have HS := Lib.hid hs
      have z1 : wr.cell? ⟨(w.heap.size + 1 + 1), 1, none⟩ = some (.int .i64 0) := hs.box.cell 1
      have f1 := hs.box.free 1
      have ix : (Instr.index 38 (.agg #[.slice a0 d0.length c0, .slice a1 d1.length c1]) (.int .i64 0)).run Try.prog wr = .ok (.slice a0 d0.length c0) wr := ix20 _ _ _ _ _ _ _
      clear hs
      go_wp2_with fail
      obtain ⟨w3, hw3⟩ : ∃ W, W = wr.setCell ⟨(w.heap.size + 1 + 1), 1, none⟩ (.int .i64 life) := ⟨_, rfl⟩
      rw [← hw3]
      replace HS : Hid (NwI w life 0 [] [] [] so s0 s1 w3) := Lib.hid (by rw [hw3]; exact HS.out.life 1 _ rfl)
      clear hw3 z1 f1 ix
      go_loopw [42] (fun v wr => NwJ0 w life d0 v wr) (fun v _ => d0.length - (intOf v).toNat)
      case atStart => exact ⟨0, by omega, rfl, _, _, _, HS.out⟩
      case round =>
        obtain ⟨k, hk, rfl, so, s0, s1, hs⟩ := hrel
        replace HS := Lib.hid hs
        by_cases hkl : k < d0.length
        · have HKL := Lib.hid hkl
          obtain ⟨b, off, ha, hb0, hc⟩ := HF0.out (by omega)
          obtain ⟨x, hx⟩ : ∃ x, d0[k]? = some x := ⟨_, List.getElem?_eq_getElem hkl⟩
          subst ha
          have e1 : wr.cell? ⟨b, off + k, none⟩ = some (.int .i64 x) := (hs.below.cell (p := ⟨b, off + k, none⟩) hb0).trans (by have := hc k x hx 0 _ rfl; simpa using this)
          obtain ⟨oa, oc', hov⟩ := hs.ob.form
          have hln : (mkL 0 0 (d0.take k)).length = k := by rw [mkL_length, List.length_take]; omega
          have hlen0 := hln
          obtain ⟨m, hm⟩ : ∃ m, m = (mkL 0 0 (d0.take k)).length := ⟨_, rfl⟩
          rw [← hm] at hov hln
          have HM : Hid (m = k) := Lib.hid hln
          have HOV := Lib.hid hov
          have HLN := Lib.hid hlen0
          have hm5 : m ≤ 499 := by have := HLL.out; omega
          have e0 : wr.cell? ⟨(w.heap.size + 1 + 1), 0, none⟩ = some (.slice oa m oc') := by rw [hs.box.cell 0, ← hov]; rfl
          have hP := hs.box.lt
          have q0 : decide ((0 : Int) ≤ x ∧ x ≤ 399) = true := decide_eq_true (HD0.out x (List.mem_of_getElem? hx))
          have i1 : (0 : Int) ≤ (k : Int) := by omega
          have i2 : decide ((k : Int) < (d0.length : Int)) = true := decide_eq_true (by omega)
          have HXX := Lib.hid hx
          clear hc hs hm hln hov hlen0
          go_wp2_with fail
          with_reducible refine (withinc _ _ _ _ _ q0).mono ?_
          rintro e w' ⟨rfl, rfl⟩
          go_upto_region 15 with fail
          refine rg9_15 (w0 := wr) (B := wr.heap.size) (n := wr.heap.size) (L := []) (E := fun _ => True) (F := fun _ => True) (by kernel_rfl) (by kernel_rfl) ⟨by go_grown, by go_size, (by simp [go_sem] <;> omega)⟩ trivial (fun _ _ _ _ => trivial) trivial (fun _ _ _ _ => trivial) (fun w51 K_w51 E_w51 F_w51 => ?_)
          have _ne : Nonempty (KX (wr.heap.size) wr (wr.heap.size) [] (fun _ => True)) := ⟨⟨_, K_w51, E_w51⟩⟩
          repeat (go_big_quiet_step (fail))
          refine wpQuiet_nil ?_
          have ra : ∀ s : KX (wr.heap.size) wr (wr.heap.size) [] (fun _ => True), s.val.cell? ⟨(w.heap.size + 1 + 1), 0, none⟩ = some (.slice oa m oc') := fun s => (s.kept.below.cell (p := ⟨(w.heap.size + 1 + 1), 0, none⟩) hP).trans e0
          repeat (go_big_quiet_step (fail))
          refine wpQuiet_nil ?_
          have KH_w51 := Lib.hid K_w51
          have hw_w51 := K_w51.below
          have hz_w51 := K_w51.size
          clear K_w51
          clear E_w51 F_w51
          refine ⟨fun K hK0 => ?_, trivial⟩
          have hK := Lib.hid hK0
          clear hK0
          go_wp2_with fail
          with_reducible refine (onew _ _ _ _).mono ?_
          rintro e wn ⟨rfl, hb⟩
          have HBN : Hid (Below wr.heap.size wr wn) := Lib.hid (below_via KH_w51.out.below hb)
          clear hb
          go_wp2_with fail
          first | (refine ⟨rfl, ⟨⟨_, (⟨HBN.out, HBN.out.size, by simp⟩ : Kept wr.heap.size wr wr.heap.size [] wn), trivial⟩, rfl⟩, hK.out _ _ ?_⟩; clear hK K) | (refine ⟨⟨⟨_, (⟨HBN.out, HBN.out.size, by simp⟩ : Kept wr.heap.size wr wr.heap.size [] wn), trivial⟩, rfl⟩, hK.out _ _ ?_⟩; clear hK K)
          refine ⟨fun K hK0 => ?_, trivial⟩
          have hK := Lib.hid hK0
          clear hK0
          go_wp2_with fail
          obtain ⟨wa, hwa⟩ : ∃ W, W = wn.alloc (.cells #[.int .i64 ((m : Int) + 1), .int .i64 x, .int .i64 0, .int .i64 0, .int .i64 0, .int .i64 0, .int .i64 0, .int .i64 0, .int .i64 0, .bool false, .bool false, .bool false] 79) := ⟨_, rfl⟩
          rw [← hwa]
          have hb : Below wn.heap.size wn wa := by rw [hwa]; exact (Below.refl _ _).alloc (Nat.le_refl _) _
          have HBA : Hid (Below wr.heap.size wr wa) := Lib.hid (below_via HBN.out hb)
          have HNO : Hid (Rw oc 12 wa (.slice (some ⟨wn.heap.size, 0, none⟩) 1 1) [mkO 0 m x]) := Lib.hid (by rw [hwa]; exact Rw.one2 wn 79 (mkO 0 m x) _ rfl 1 _ rfl)
          clear hwa hb
          first | (refine ⟨rfl, ⟨⟨_, (⟨HBA.out, HBA.out.size, by simp⟩ : Kept wr.heap.size wr wr.heap.size [] wa), trivial⟩, rfl⟩, hK.out _ _ ?_⟩; clear hK K) | (refine ⟨⟨⟨_, (⟨HBA.out, HBA.out.size, by simp⟩ : Kept wr.heap.size wr wr.heap.size [] wa), trivial⟩, rfl⟩, hK.out _ _ ?_⟩; clear hK K)
          refine ⟨fun K hK0 => ?_, trivial⟩
          have hK := Lib.hid hK0
          clear hK0
          go_wp2_with (at_builtin; refine wpList_append_ow (f := oc) (sz := 12) rfl _ _ 23 rfl (w.heap.size + 1 + 1 + 1) 79 _ 80 Try.underlying23 infoO rfl (by decide) _ (mkL 0 0 (d0.take k)) rfl (by rw [← HOV.out]; exact (HS.out.keep HBA.out).ob) oc_ok _ [mkO 0 m x] rfl HNO.out ?ca ?cb (HS.out.keep HBA.out).sz ?_)
          case ca => have q1 := HLL.out; have q2 := HKL.out; have q3 := HLN.out; rw [q3]; simp [maxLen]; omega
          case cb => have q1 := HLL.out; have q2 := HKL.out; have q3 := HLN.out; rw [q3]; simp; omega
          intro v1 wb hown hgrow _
          rw [HM.out, np_ob0 hx] at hown
          rw [← HOV.out] at hgrow
          obtain ⟨pa, pc, hv1⟩ := hown.form
          obtain ⟨pn, hpn⟩ : ∃ n, n = (mkL 0 0 (d0.take (k + 1))).length := ⟨_, rfl⟩
          rw [← hpn] at hv1
          subst hv1
          have HGW := Lib.hid hgrow
          have HOW := Lib.hid hown
          clear hown hgrow hpn
          first | (refine ⟨rfl, hK.out _ _ ?_⟩; clear hK K) | (refine hK.out _ _ ?_; clear hK K)
          repeat (go_big_quiet_step (fail))
          refine wpQuiet_nil ?_
          refine ⟨fun K hK0 => ?_, trivial⟩
          have hK := Lib.hid hK0
          clear hK0
          have hbx := (HS.out.keep HBA.out).bxo HGW.out
          have c9 : wb.cell? ⟨(w.heap.size + 1 + 1), 0, none⟩ = some (.slice so.a so.n so.c) := hbx.cell 0
          have f9 := hbx.free 0
          clear hbx
          go_wp2_with fail
          obtain ⟨w4, hw4⟩ : ∃ W, W = wb.setCell ⟨(w.heap.size + 1 + 1), 0, none⟩ (.slice pa pn pc) := ⟨_, rfl⟩
          rw [← hw4]
          clear c9 f9
          first | (refine ⟨rfl, hK.out _ _ ?_⟩; clear hK K) | (refine hK.out _ _ ?_; clear hK K)
          clear ra
          clear _ne
          have HS4 : Hid (NwI w life 0 (mkL 0 0 (d0.take (k + 1))) (upL 0 k) [] ⟨pa, pn, pc⟩ s0 s1 w4) := Lib.hid (by rw [hw4]; exact (HS.out.keep HBA.out).app (so' := ⟨pa, pn, pc⟩) HOW.out HGW.out)
          clear hw4 HS HOW HGW HBA HBN HNO HOV
          obtain ⟨la, lc, hlv⟩ := HS4.out.r0.form
          have e6 : w4.cell? ⟨(w.heap.size + 1 + 1), 6, none⟩ = some (.slice la (upL 0 k).length lc) := by rw [HS4.out.box.cell 6, ← hlv]; rfl
          have HLV := Lib.hid hlv
          have hP4 := HS4.out.box.lt
          have HUL : Hid ((upL 0 k).length = k) := Lib.hid (upL_length _ _)
          clear hlv hP
          go_wp2_with (at_builtin; refine wpList_append_ow (f := ic) (sz := 1) rfl _ _ 26 rfl (w.heap.size + 1 + 1 + 1) 3 _ 8 Try.underlying26 infoI rfl (by decide) _ (upL 0 k) rfl (by rw [← HLV.out]; exact (HS4.out.keep ((Below.refl _ _).alloc (Nat.le_refl _) _)).r0) ic_ok _ [(m : Int) + 1] rfl (Rw.one2 _ _ ((m : Int) + 1) _ rfl _ _ (by simp)) ?ca ?cb (HS4.out.keep ((Below.refl _ _).alloc (Nat.le_refl _) _)).sz ?_)
          case ca => have q1 := HLL.out; have q2 := HKL.out; rw [HUL.out]; simp [maxLen]; omega
          case cb => have q1 := HLL.out; have q2 := HKL.out; rw [HUL.out]; simp; omega
          intro v2 wd hown hgrow hn2
          rw [← HLV.out] at hgrow hn2
          rw [show ((m : Int) + 1) = ((k + 1 : Nat) : Int) by rw [HM.out]; push_cast; omega, show ((k + 1 : Nat) : Int) = ((0 + k + 1 : Nat) : Int) by rw [Nat.zero_add], ← upL_snoc] at hown
          obtain ⟨qa, qc, hv2⟩ := hown.form
          obtain ⟨qn, hqn⟩ : ∃ n, n = (upL 0 (k + 1)).length := ⟨_, rfl⟩
          rw [← hqn] at hv2
          subst hv2
          have hbx := (HS4.out.keep ((Below.refl _ _).alloc (Nat.le_refl _) _)).bx0 hgrow
          have c9 : wd.cell? ⟨(w.heap.size + 1 + 1), 6, none⟩ = some (.slice s0.a s0.n s0.c) := hbx.cell 6
          have f9 := hbx.free 6
          have HFIN := Lib.hid ((HS4.out.keep ((Below.refl _ _).alloc (Nat.le_refl _) _)).lib0 (s' := ⟨qa, qn, qc⟩) hown hgrow (hn2.imp id (fun h => h.trans (by simp))))
          clear hbx hown hgrow hn2 hqn HS4 HLV HUL e6 hP4
          go_wp2_with fail
          go_roundw
          case rel => exact ⟨k + 1, HKL.out, by go_num, _, _, _, HFIN.out⟩
          case measure => have hkl := HKL.out; simp [intOf]; omega
        · have hke : k = d0.length := by omega
          subst hke
          have i2 : decide (((d0.length : Nat) : Int) < (d0.length : Int)) = false := decide_eq_false (by omega)
          rw [List.take_length] at hs
          replace HS := Lib.hid hs
          clear hs
          go_wp2_with fail
          go_roundw
          case rel => exact ⟨1, by omega, rfl, so, s0, s1, by have h := HS.out; simpa [mkL, upL] using h⟩
          case measure => simp [intOf]
    · rw [show ((1 : Nat) : Int) = 1 from rfl]
      replace hs : NwI w life 0 (mkL 0 0 d0 ++ mkL 1 d0.length []) (upL 0 d0.length) (upL d0.length 0) so s0 s1 wr := hs
      have HS := Lib.hid hs
      have z1 : wr.cell? ⟨(w.heap.size + 1 + 1), 15, none⟩ = some (.int .i64 0) := hs.box.cell 15
      have f1 := hs.box.free 15
      have ix : (Instr.index 38 (.agg #[.slice a0 d0.length c0, .slice a1 d1.length c1]) (.int .i64 1)).run Try.prog wr = .ok (.slice a1 d1.length c1) wr := ix21 _ _ _ _ _ _ _
      clear hs
      go_wp2_with fail
      obtain ⟨w3, hw3⟩ : ∃ W, W = wr.setCell ⟨(w.heap.size + 1 + 1), 15, none⟩ (.int .i64 life) := ⟨_, rfl⟩
      rw [← hw3]
      replace HS : Hid (NwI w life life (mkL 0 0 d0 ++ mkL 1 d0.length []) (upL 0 d0.length) (upL d0.length 0) so s0 s1 w3) := Lib.hid (by rw [hw3]; exact HS.out.life 15 _ rfl)
      clear hw3 z1 f1 ix
      go_loopw [42] (fun v wr => NwJ1 w life d0 d1 v wr) (fun v _ => d1.length - (intOf v).toNat)
      case atStart => exact ⟨0, by omega, rfl, _, _, _, HS.out⟩
      case round =>
        obtain ⟨k, hk, rfl, so, s0, s1, hs⟩ := hrel
        replace HS := Lib.hid hs
        by_cases hkl : k < d1.length
        · have HKL := Lib.hid hkl
          obtain ⟨b, off, ha, hb0, hc⟩ := HF1.out (by omega)
          obtain ⟨x, hx⟩ : ∃ x, d1[k]? = some x := ⟨_, List.getElem?_eq_getElem hkl⟩
          subst ha
          have e1 : wr.cell? ⟨b, off + k, none⟩ = some (.int .i64 x) := (hs.below.cell (p := ⟨b, off + k, none⟩) hb0).trans (by have := hc k x hx 0 _ rfl; simpa using this)
          obtain ⟨oa, oc', hov⟩ := hs.ob.form
          have hln : (mkL 0 0 d0 ++ mkL 1 d0.length (d1.take k)).length = d0.length + k := by rw [List.length_append, mkL_length, mkL_length, List.length_take]; omega
          have hlen0 := hln
          obtain ⟨m, hm⟩ : ∃ m, m = (mkL 0 0 d0 ++ mkL 1 d0.length (d1.take k)).length := ⟨_, rfl⟩
          rw [← hm] at hov hln
          have HM : Hid (m = d0.length + k) := Lib.hid hln
          have HOV := Lib.hid hov
          have HLN := Lib.hid hlen0
          have hm5 : m ≤ 499 := by have := HLL.out; omega
          have e0 : wr.cell? ⟨(w.heap.size + 1 + 1), 0, none⟩ = some (.slice oa m oc') := by rw [hs.box.cell 0, ← hov]; rfl
          have hP := hs.box.lt
          have q0 : decide ((0 : Int) ≤ x ∧ x ≤ 399) = true := decide_eq_true (HD1.out x (List.mem_of_getElem? hx))
          have i1 : (0 : Int) ≤ (k : Int) := by omega
          have i2 : decide ((k : Int) < (d1.length : Int)) = true := decide_eq_true (by omega)
          have HXX := Lib.hid hx
          clear hc hs hm hln hov hlen0
          go_wp2_with fail
          with_reducible refine (withinc _ _ _ _ _ q0).mono ?_
          rintro e w' ⟨rfl, rfl⟩
          go_upto_region 15 with fail
          refine rg9_15 (w0 := wr) (B := wr.heap.size) (n := wr.heap.size) (L := []) (E := fun _ => True) (F := fun _ => True) (by kernel_rfl) (by kernel_rfl) ⟨by go_grown, by go_size, (by simp [go_sem] <;> omega)⟩ trivial (fun _ _ _ _ => trivial) trivial (fun _ _ _ _ => trivial) (fun w51 K_w51 E_w51 F_w51 => ?_)
          have _ne : Nonempty (KX (wr.heap.size) wr (wr.heap.size) [] (fun _ => True)) := ⟨⟨_, K_w51, E_w51⟩⟩
          repeat (go_big_quiet_step (fail))
          refine wpQuiet_nil ?_
          have ra : ∀ s : KX (wr.heap.size) wr (wr.heap.size) [] (fun _ => True), s.val.cell? ⟨(w.heap.size + 1 + 1), 0, none⟩ = some (.slice oa m oc') := fun s => (s.kept.below.cell (p := ⟨(w.heap.size + 1 + 1), 0, none⟩) hP).trans e0
          repeat (go_big_quiet_step (fail))
          refine wpQuiet_nil ?_
          have KH_w51 := Lib.hid K_w51
          have hw_w51 := K_w51.below
          have hz_w51 := K_w51.size
          clear K_w51
          clear E_w51 F_w51
          refine ⟨fun K hK0 => ?_, trivial⟩
          have hK := Lib.hid hK0
          clear hK0
          go_wp2_with fail
          with_reducible refine (onew _ _ _ _).mono ?_
          rintro e wn ⟨rfl, hb⟩
          have HBN : Hid (Below wr.heap.size wr wn) := Lib.hid (below_via KH_w51.out.below hb)
          clear hb
          go_wp2_with fail
          first | (refine ⟨rfl, ⟨⟨_, (⟨HBN.out, HBN.out.size, by simp⟩ : Kept wr.heap.size wr wr.heap.size [] wn), trivial⟩, rfl⟩, hK.out _ _ ?_⟩; clear hK K) | (refine ⟨⟨⟨_, (⟨HBN.out, HBN.out.size, by simp⟩ : Kept wr.heap.size wr wr.heap.size [] wn), trivial⟩, rfl⟩, hK.out _ _ ?_⟩; clear hK K)
          refine ⟨fun K hK0 => ?_, trivial⟩
          have hK := Lib.hid hK0
          clear hK0
          go_wp2_with fail
          obtain ⟨wa, hwa⟩ : ∃ W, W = wn.alloc (.cells #[.int .i64 ((m : Int) + 1), .int .i64 x, .int .i64 1, .int .i64 0, .int .i64 0, .int .i64 0, .int .i64 0, .int .i64 0, .int .i64 0, .bool false, .bool false, .bool false] 79) := ⟨_, rfl⟩
          rw [← hwa]
          have hb : Below wn.heap.size wn wa := by rw [hwa]; exact (Below.refl _ _).alloc (Nat.le_refl _) _
          have HBA : Hid (Below wr.heap.size wr wa) := Lib.hid (below_via HBN.out hb)
          have HNO : Hid (Rw oc 12 wa (.slice (some ⟨wn.heap.size, 0, none⟩) 1 1) [mkO 1 m x]) := Lib.hid (by rw [hwa]; exact Rw.one2 wn 79 (mkO 1 m x) _ rfl 1 _ rfl)
          clear hwa hb
          first | (refine ⟨rfl, ⟨⟨_, (⟨HBA.out, HBA.out.size, by simp⟩ : Kept wr.heap.size wr wr.heap.size [] wa), trivial⟩, rfl⟩, hK.out _ _ ?_⟩; clear hK K) | (refine ⟨⟨⟨_, (⟨HBA.out, HBA.out.size, by simp⟩ : Kept wr.heap.size wr wr.heap.size [] wa), trivial⟩, rfl⟩, hK.out _ _ ?_⟩; clear hK K)
          refine ⟨fun K hK0 => ?_, trivial⟩
          have hK := Lib.hid hK0
          clear hK0
          go_wp2_with (at_builtin; refine wpList_append_ow (f := oc) (sz := 12) rfl _ _ 23 rfl (w.heap.size + 1 + 1 + 1) 79 _ 80 Try.underlying23 infoO rfl (by decide) _ (mkL 0 0 d0 ++ mkL 1 d0.length (d1.take k)) rfl (by rw [← HOV.out]; exact (HS.out.keep HBA.out).ob) oc_ok _ [mkO 1 m x] rfl HNO.out ?ca ?cb (HS.out.keep HBA.out).sz ?_)
          case ca => have q1 := HLL.out; have q2 := HKL.out; have q3 := HLN.out; rw [q3]; simp [maxLen]; omega
          case cb => have q1 := HLL.out; have q2 := HKL.out; have q3 := HLN.out; rw [q3]; simp; omega
          intro v1 wb hown hgrow _
          rw [HM.out, ← List.append_assoc, np_ob1 d0 hx] at hown
          rw [← HOV.out] at hgrow
          obtain ⟨pa, pc, hv1⟩ := hown.form
          obtain ⟨pn, hpn⟩ : ∃ n, n = (mkL 0 0 d0 ++ mkL 1 d0.length (d1.take (k + 1))).length := ⟨_, rfl⟩
          rw [← hpn] at hv1
          subst hv1
          have HGW := Lib.hid hgrow
          have HOW := Lib.hid hown
          clear hown hgrow hpn
          first | (refine ⟨rfl, hK.out _ _ ?_⟩; clear hK K) | (refine hK.out _ _ ?_; clear hK K)
          repeat (go_big_quiet_step (fail))
          refine wpQuiet_nil ?_
          refine ⟨fun K hK0 => ?_, trivial⟩
          have hK := Lib.hid hK0
          clear hK0
          have hbx := (HS.out.keep HBA.out).bxo HGW.out
          have c9 : wb.cell? ⟨(w.heap.size + 1 + 1), 0, none⟩ = some (.slice so.a so.n so.c) := hbx.cell 0
          have f9 := hbx.free 0
          clear hbx
          go_wp2_with fail
          obtain ⟨w4, hw4⟩ : ∃ W, W = wb.setCell ⟨(w.heap.size + 1 + 1), 0, none⟩ (.slice pa pn pc) := ⟨_, rfl⟩
          rw [← hw4]
          clear c9 f9
          first | (refine ⟨rfl, hK.out _ _ ?_⟩; clear hK K) | (refine hK.out _ _ ?_; clear hK K)
          clear ra
          clear _ne
          have HS4 : Hid (NwI w life life (mkL 0 0 d0 ++ mkL 1 d0.length (d1.take (k + 1))) (upL 0 d0.length) (upL d0.length k) ⟨pa, pn, pc⟩ s0 s1 w4) := Lib.hid (by rw [hw4]; exact (HS.out.keep HBA.out).app (so' := ⟨pa, pn, pc⟩) HOW.out HGW.out)
          clear hw4 HS HOW HGW HBA HBN HNO HOV
          obtain ⟨la, lc, hlv⟩ := HS4.out.r1.form
          have e6 : w4.cell? ⟨(w.heap.size + 1 + 1), 20, none⟩ = some (.slice la (upL d0.length k).length lc) := by rw [HS4.out.box.cell 20, ← hlv]; rfl
          have HLV := Lib.hid hlv
          have hP4 := HS4.out.box.lt
          have HUL : Hid ((upL d0.length k).length = k) := Lib.hid (upL_length _ _)
          clear hlv hP
          go_wp2_with (at_builtin; refine wpList_append_ow (f := ic) (sz := 1) rfl _ _ 26 rfl (w.heap.size + 1 + 1 + 1) 3 _ 8 Try.underlying26 infoI rfl (by decide) _ (upL d0.length k) rfl (by rw [← HLV.out]; exact (HS4.out.keep ((Below.refl _ _).alloc (Nat.le_refl _) _)).r1) ic_ok _ [(m : Int) + 1] rfl (Rw.one2 _ _ ((m : Int) + 1) _ rfl _ _ (by simp)) ?ca ?cb (HS4.out.keep ((Below.refl _ _).alloc (Nat.le_refl _) _)).sz ?_)
          case ca => have q1 := HLL.out; have q2 := HKL.out; rw [HUL.out]; simp [maxLen]; omega
          case cb => have q1 := HLL.out; have q2 := HKL.out; rw [HUL.out]; simp; omega
          intro v2 wd hown hgrow hn2
          rw [← HLV.out] at hgrow hn2
          rw [show ((m : Int) + 1) = ((d0.length + k + 1 : Nat) : Int) by rw [HM.out]; push_cast; omega, ← upL_snoc] at hown
          obtain ⟨qa, qc, hv2⟩ := hown.form
          obtain ⟨qn, hqn⟩ : ∃ n, n = (upL d0.length (k + 1)).length := ⟨_, rfl⟩
          rw [← hqn] at hv2
          subst hv2
          have hbx := (HS4.out.keep ((Below.refl _ _).alloc (Nat.le_refl _) _)).bx1 hgrow
          have c9 : wd.cell? ⟨(w.heap.size + 1 + 1), 20, none⟩ = some (.slice s1.a s1.n s1.c) := hbx.cell 20
          have f9 := hbx.free 20
          have HFIN := Lib.hid ((HS4.out.keep ((Below.refl _ _).alloc (Nat.le_refl _) _)).lib1 (s' := ⟨qa, qn, qc⟩) hown hgrow (hn2.imp id (fun h => h.trans (by simp))))
          clear hbx hown hgrow hn2 hqn HS4 HLV HUL e6 hP4
          go_wp2_with fail
          go_roundw
          case rel => exact ⟨k + 1, HKL.out, by go_num, _, _, _, HFIN.out⟩
          case measure => have hkl := HKL.out; simp [intOf]; omega
        · have hke : k = d1.length := by omega
          subst hke
          have i2 : decide (((d1.length : Nat) : Int) < (d1.length : Int)) = false := decide_eq_false (by omega)
          rw [List.take_length] at hs
          replace HS := Lib.hid hs
          clear hs
          go_wp2_with fail
          go_roundw
          case rel => exact ⟨2, by omega, rfl, so, s0, s1, HS.out⟩
          case measure => simp [intOf]
    · rw [show ((2 : Nat) : Int) = 2 from rfl]
      replace hs : NwI w life life (mkL 0 0 d0 ++ mkL 1 d0.length d1) (upL 0 d0.length) (upL d0.length d1.length) so s0 s1 wr := hs
      have HS := Lib.hid hs
      have HZ := Lib.hid hs.rz
      have HXX : Hid (Bx wr (w.heap.size + 1 + 1) (nsB so s0 s1) (newB life d0 d1)) := Lib.hid hs.box
      clear hs
      go_wp2_with (first | (refine wpList_load_bx _ rfl rfl HXX.out (by kernel_rfl) ?_) | (refine wpList_store_bh (s := nsB so s0 s1) (B := newB life d0 d1) rfl _ _ rfl rfl rfl HZ.out rfl ?_; intro w9 hw9))
      have hg9 : Bx w9 (w.heap.size + 1) (nsB so s0 s1) (newB life d0 d1) := by rw [hw9.out]; exact Bx.row HZ.out _ _
      have ho9 : Onl [(w.heap.size + 1)] wr w9 := by rw [hw9.out]; exact Onl.setRow (Onl.refl _ _) (.inl (by simp)) _
      have hb9 : Below w.heap.size w w9 := belowOnl HS.out.below ho9 (by simp) HS.out.below.size
      have HG9 := Lib.hid hg9
      have HPOST : Hid (BrA w (newB life d0 d1) (.int .i64 0) (.returned (.tuple #[bv (nsB so s0 s1) (newB life d0 d1), .int .i64 0])) w9) := Lib.hid ⟨_, rfl, (HS.out.own life d0 d1 ho9), hb9⟩
      clear hw9 hg9 ho9 hb9
      go_wp2_with fail
      exact bodyPost_ret (v := .tuple #[bv (nsB so s0 s1) (newB life d0 d1), .int .i64 0]) (results_b1 Try.results9 _ _ HG9.out rfl rfl) rfl HPOST.out
end Go.Proofs.Yteoeahmnonolmaa
