/- Does a draft look like the model. -/
import Derived.Test.YteocplabibhecaaMd
import Derived.Test.YteocplabibhecaaKn
namespace Go.Proofs.Yteocplabibhecaa
open Go.RowKit Plain
set_option linter.unusedVariables false
set_option linter.unusedSimpArgs false

theorem rg14_1 {P : Program} {B n : Nat} {w0 : World} {L : List (Nat × Nat × Value)} {E F : World → Prop} {id : Nat} {Q : Exit → Act → World → Prop} {a : Act} {w : World} {o0 o1 o2 o3 o4 o5 o6 o7 o8 o9 o10 o11 o12 o13 o14 o15 o16 o17 o18 o19 o20 o21 o22 o23 o24 o25 o26 o27 o28 o29 o30 o31 o32 o33 o34 o35 o36 o37 o38 o39 o40 o41 o42 o43 : Oper} (hm : P.follows .mixedOrders = true)
    (hB : (Region.noSelect (o0 :: o1 :: o2 :: o3 :: o4 :: o5 :: o6 :: o7 :: o8 :: o9 :: o10 :: o11 :: o12 :: o13 :: o14 :: o15 :: o16 :: o17 :: o18 :: o19 :: o20 :: o21 :: o22 :: o23 :: o24 :: o25 :: o26 :: o27 :: o28 :: o29 :: o30 :: o31 :: o32 :: o33 :: o34 :: o35 :: o36 :: o37 :: o38 :: o39 :: o40 :: o41 :: o42 :: o43 :: []).toArray && Scr.ok .any (o0 :: o1 :: o2 :: o3 :: o4 :: o5 :: o6 :: o7 :: o8 :: o9 :: o10 :: o11 :: o12 :: o13 :: o14 :: o15 :: o16 :: o17 :: o18 :: o19 :: o20 :: o21 :: o22 :: o23 :: o24 :: o25 :: o26 :: o27 :: o28 :: o29 :: o30 :: o31 :: o32 :: o33 :: o34 :: o35 :: o36 :: o37 :: o38 :: o39 :: o40 :: o41 :: o42 :: o43 :: []).toArray [8, 17, 26, 39] [0, 1, 2, 3, 5, 6, 7, 9, 10, 11, 12, 14, 15, 16, 18, 19, 20, 21, 23, 24, 25, 27, 28, 29, 30, 32, 33, 34, 35, 36, 37, 38, 40, 42, 43] (.free 0 (.free 1 (.free 2 (.free 3 (.free 5 (.free 6 (.free 7 (.read 8 (.alt 4 (.free 9 (.free 10 (.free 11 (.free 12 (.free 14 (.free 15 (.free 16 (.read 17 (.alt 13 (.free 18 (.free 19 (.free 20 (.free 21 (.free 23 (.free 24 (.free 25 (.read 26 (.alt 22 (.free 27 (.free 28 (.free 29 (.free 30 (.alt 31 (.free 32 (.free 33 (.free 34 (.free 35 (.free 36 (.free 37 (.free 38 (.read 39 (.free 40 (.alt 41 (.free 42 (.free 43 .done)) .stop)))))))))) .stop))))) .stop))))))))) .stop))))))))) .stop))))))))) true true (o0 :: o1 :: o2 :: o3 :: o4 :: o5 :: o6 :: o7 :: o8 :: o9 :: o10 :: o11 :: o12 :: o13 :: o14 :: o15 :: o16 :: o17 :: o18 :: o19 :: o20 :: o21 :: o22 :: o23 :: o24 :: o25 :: o26 :: o27 :: o28 :: o29 :: o30 :: o31 :: o32 :: o33 :: o34 :: o35 :: o36 :: o37 :: o38 :: o39 :: o40 :: o41 :: o42 :: o43 :: []).toArray.size (Array.replicate (o0 :: o1 :: o2 :: o3 :: o4 :: o5 :: o6 :: o7 :: o8 :: o9 :: o10 :: o11 :: o12 :: o13 :: o14 :: o15 :: o16 :: o17 :: o18 :: o19 :: o20 :: o21 :: o22 :: o23 :: o24 :: o25 :: o26 :: o27 :: o28 :: o29 :: o30 :: o31 :: o32 :: o33 :: o34 :: o35 :: o36 :: o37 :: o38 :: o39 :: o40 :: o41 :: o42 :: o43 :: []).toArray.size false)) = true)
    (k : Kept B w0 n L w) (he : E w) (hE : ∀ W W', E W → Below W.heap.size W W' → E W') (hf : F w) (hF : ∀ W W', F W → Below W.heap.size W W' → F W')
    (h : ∀ wk, Kept B w0 n L wk → E wk → F wk → wpQuiet P (o0 :: o1 :: o2 :: o3 :: o4 :: o5 :: o6 :: o7 :: o8 :: o9 :: o10 :: o11 :: o12 :: o13 :: o14 :: o15 :: o16 :: o17 :: o18 :: o19 :: o20 :: o21 :: o22 :: o23 :: o24 :: o25 :: o26 :: o27 :: o28 :: o29 :: o30 :: o31 :: o32 :: o33 :: o34 :: o35 :: o36 :: o37 :: o38 :: o39 :: o40 :: o41 :: o42 :: o43 :: []).toArray (fun _ => True) (fun a0 => wpQuiet P (o0 :: o1 :: o2 :: o3 :: o4 :: o5 :: o6 :: o7 :: o8 :: o9 :: o10 :: o11 :: o12 :: o13 :: o14 :: o15 :: o16 :: o17 :: o18 :: o19 :: o20 :: o21 :: o22 :: o23 :: o24 :: o25 :: o26 :: o27 :: o28 :: o29 :: o30 :: o31 :: o32 :: o33 :: o34 :: o35 :: o36 :: o37 :: o38 :: o39 :: o40 :: o41 :: o42 :: o43 :: []).toArray (fun w' => ∃ s : KX B w0 n L E, w' = s.val) (fun a1 => ((∀ K2 : Act → World → Prop, (∀ a2 w2, wpQuiet P (o0 :: o1 :: o2 :: o3 :: o4 :: o5 :: o6 :: o7 :: o8 :: o9 :: o10 :: o11 :: o12 :: o13 :: o14 :: o15 :: o16 :: o17 :: o18 :: o19 :: o20 :: o21 :: o22 :: o23 :: o24 :: o25 :: o26 :: o27 :: o28 :: o29 :: o30 :: o31 :: o32 :: o33 :: o34 :: o35 :: o36 :: o37 :: o38 :: o39 :: o40 :: o41 :: o42 :: o43 :: []).toArray (fun _ => True) (fun a3 => wpQuiet P (o0 :: o1 :: o2 :: o3 :: o4 :: o5 :: o6 :: o7 :: o8 :: o9 :: o10 :: o11 :: o12 :: o13 :: o14 :: o15 :: o16 :: o17 :: o18 :: o19 :: o20 :: o21 :: o22 :: o23 :: o24 :: o25 :: o26 :: o27 :: o28 :: o29 :: o30 :: o31 :: o32 :: o33 :: o34 :: o35 :: o36 :: o37 :: o38 :: o39 :: o40 :: o41 :: o42 :: o43 :: []).toArray (fun w' => ∃ s : KX B w0 n L E, w' = s.val) (fun a4 => ((∀ K5 : Act → World → Prop, (∀ a5 w5, wpQuiet P (o0 :: o1 :: o2 :: o3 :: o4 :: o5 :: o6 :: o7 :: o8 :: o9 :: o10 :: o11 :: o12 :: o13 :: o14 :: o15 :: o16 :: o17 :: o18 :: o19 :: o20 :: o21 :: o22 :: o23 :: o24 :: o25 :: o26 :: o27 :: o28 :: o29 :: o30 :: o31 :: o32 :: o33 :: o34 :: o35 :: o36 :: o37 :: o38 :: o39 :: o40 :: o41 :: o42 :: o43 :: []).toArray (fun _ => True) (fun a6 => wpQuiet P (o0 :: o1 :: o2 :: o3 :: o4 :: o5 :: o6 :: o7 :: o8 :: o9 :: o10 :: o11 :: o12 :: o13 :: o14 :: o15 :: o16 :: o17 :: o18 :: o19 :: o20 :: o21 :: o22 :: o23 :: o24 :: o25 :: o26 :: o27 :: o28 :: o29 :: o30 :: o31 :: o32 :: o33 :: o34 :: o35 :: o36 :: o37 :: o38 :: o39 :: o40 :: o41 :: o42 :: o43 :: []).toArray (fun w' => ∃ s : KX B w0 n L E, w' = s.val) (fun a7 => ((∀ K8 : Act → World → Prop, (∀ a8 w8, wpQuiet P (o0 :: o1 :: o2 :: o3 :: o4 :: o5 :: o6 :: o7 :: o8 :: o9 :: o10 :: o11 :: o12 :: o13 :: o14 :: o15 :: o16 :: o17 :: o18 :: o19 :: o20 :: o21 :: o22 :: o23 :: o24 :: o25 :: o26 :: o27 :: o28 :: o29 :: o30 :: o31 :: o32 :: o33 :: o34 :: o35 :: o36 :: o37 :: o38 :: o39 :: o40 :: o41 :: o42 :: o43 :: []).toArray (fun _ => True) (fun a9 => ((∀ K10 : Act → World → Prop, (∀ a10 w10, wpQuiet P (o0 :: o1 :: o2 :: o3 :: o4 :: o5 :: o6 :: o7 :: o8 :: o9 :: o10 :: o11 :: o12 :: o13 :: o14 :: o15 :: o16 :: o17 :: o18 :: o19 :: o20 :: o21 :: o22 :: o23 :: o24 :: o25 :: o26 :: o27 :: o28 :: o29 :: o30 :: o31 :: o32 :: o33 :: o34 :: o35 :: o36 :: o37 :: o38 :: o39 :: o40 :: o41 :: o42 :: o43 :: []).toArray (fun _ => True) (fun a11 => wpQuiet P (o0 :: o1 :: o2 :: o3 :: o4 :: o5 :: o6 :: o7 :: o8 :: o9 :: o10 :: o11 :: o12 :: o13 :: o14 :: o15 :: o16 :: o17 :: o18 :: o19 :: o20 :: o21 :: o22 :: o23 :: o24 :: o25 :: o26 :: o27 :: o28 :: o29 :: o30 :: o31 :: o32 :: o33 :: o34 :: o35 :: o36 :: o37 :: o38 :: o39 :: o40 :: o41 :: o42 :: o43 :: []).toArray (fun w' => ∃ s : KX B w0 n L E, w' = s.val) (fun a12 => wpQuiet P (o0 :: o1 :: o2 :: o3 :: o4 :: o5 :: o6 :: o7 :: o8 :: o9 :: o10 :: o11 :: o12 :: o13 :: o14 :: o15 :: o16 :: o17 :: o18 :: o19 :: o20 :: o21 :: o22 :: o23 :: o24 :: o25 :: o26 :: o27 :: o28 :: o29 :: o30 :: o31 :: o32 :: o33 :: o34 :: o35 :: o36 :: o37 :: o38 :: o39 :: o40 :: o41 :: o42 :: o43 :: []).toArray (fun _ => True) (fun a13 => ((∀ K14 : Act → World → Prop, (∀ a14 w14, wpQuiet P (o0 :: o1 :: o2 :: o3 :: o4 :: o5 :: o6 :: o7 :: o8 :: o9 :: o10 :: o11 :: o12 :: o13 :: o14 :: o15 :: o16 :: o17 :: o18 :: o19 :: o20 :: o21 :: o22 :: o23 :: o24 :: o25 :: o26 :: o27 :: o28 :: o29 :: o30 :: o31 :: o32 :: o33 :: o34 :: o35 :: o36 :: o37 :: o38 :: o39 :: o40 :: o41 :: o42 :: o43 :: []).toArray (fun _ => True) (fun a15 => Q .normal a15 w14) [o42, o43] a14 → K14 a14 w14) → wpList P (o0 :: o1 :: o2 :: o3 :: o4 :: o5 :: o6 :: o7 :: o8 :: o9 :: o10 :: o11 :: o12 :: o13 :: o14 :: o15 :: o16 :: o17 :: o18 :: o19 :: o20 :: o21 :: o22 :: o23 :: o24 :: o25 :: o26 :: o27 :: o28 :: o29 :: o30 :: o31 :: o32 :: o33 :: o34 :: o35 :: o36 :: o37 :: o38 :: o39 :: o40 :: o41 :: o42 :: o43 :: []).toArray (fun e a14 w14 => e = .normal ∧ (∃ s : KX B w0 n L E, w14 = s.val) ∧ K14 a14 w14) [o41] a13 w10) ∧ True)) [o40] a12) [o39] a11) [o32, o33, o34, o35, o36, o37, o38] a10 → K10 a10 w10) → wpList P (o0 :: o1 :: o2 :: o3 :: o4 :: o5 :: o6 :: o7 :: o8 :: o9 :: o10 :: o11 :: o12 :: o13 :: o14 :: o15 :: o16 :: o17 :: o18 :: o19 :: o20 :: o21 :: o22 :: o23 :: o24 :: o25 :: o26 :: o27 :: o28 :: o29 :: o30 :: o31 :: o32 :: o33 :: o34 :: o35 :: o36 :: o37 :: o38 :: o39 :: o40 :: o41 :: o42 :: o43 :: []).toArray (fun e a10 w10 => e = .normal ∧ (∃ s : KX B w0 n L E, w10 = s.val) ∧ K10 a10 w10) [o31] a9 w8) ∧ True)) [o27, o28, o29, o30] a8 → K8 a8 w8) → wpList P (o0 :: o1 :: o2 :: o3 :: o4 :: o5 :: o6 :: o7 :: o8 :: o9 :: o10 :: o11 :: o12 :: o13 :: o14 :: o15 :: o16 :: o17 :: o18 :: o19 :: o20 :: o21 :: o22 :: o23 :: o24 :: o25 :: o26 :: o27 :: o28 :: o29 :: o30 :: o31 :: o32 :: o33 :: o34 :: o35 :: o36 :: o37 :: o38 :: o39 :: o40 :: o41 :: o42 :: o43 :: []).toArray (fun e a8 w8 => e = .normal ∧ (∃ s : KX B w0 n L E, w8 = s.val) ∧ K8 a8 w8) [o22] a7 w5) ∧ True)) [o26] a6) [o18, o19, o20, o21, o23, o24, o25] a5 → K5 a5 w5) → wpList P (o0 :: o1 :: o2 :: o3 :: o4 :: o5 :: o6 :: o7 :: o8 :: o9 :: o10 :: o11 :: o12 :: o13 :: o14 :: o15 :: o16 :: o17 :: o18 :: o19 :: o20 :: o21 :: o22 :: o23 :: o24 :: o25 :: o26 :: o27 :: o28 :: o29 :: o30 :: o31 :: o32 :: o33 :: o34 :: o35 :: o36 :: o37 :: o38 :: o39 :: o40 :: o41 :: o42 :: o43 :: []).toArray (fun e a5 w5 => e = .normal ∧ (∃ s : KX B w0 n L E, w5 = s.val) ∧ K5 a5 w5) [o13] a4 w2) ∧ True)) [o17] a3) [o9, o10, o11, o12, o14, o15, o16] a2 → K2 a2 w2) → wpList P (o0 :: o1 :: o2 :: o3 :: o4 :: o5 :: o6 :: o7 :: o8 :: o9 :: o10 :: o11 :: o12 :: o13 :: o14 :: o15 :: o16 :: o17 :: o18 :: o19 :: o20 :: o21 :: o22 :: o23 :: o24 :: o25 :: o26 :: o27 :: o28 :: o29 :: o30 :: o31 :: o32 :: o33 :: o34 :: o35 :: o36 :: o37 :: o38 :: o39 :: o40 :: o41 :: o42 :: o43 :: []).toArray (fun e a2 w2 => e = .normal ∧ (∃ s : KX B w0 n L E, w2 = s.val) ∧ K2 a2 w2) [o4] a1 wk) ∧ True)) [o8] a0) [o0, o1, o2, o3, o5, o6, o7] a) : (Code.region id (o0 :: o1 :: o2 :: o3 :: o4 :: o5 :: o6 :: o7 :: o8 :: o9 :: o10 :: o11 :: o12 :: o13 :: o14 :: o15 :: o16 :: o17 :: o18 :: o19 :: o20 :: o21 :: o22 :: o23 :: o24 :: o25 :: o26 :: o27 :: o28 :: o29 :: o30 :: o31 :: o32 :: o33 :: o34 :: o35 :: o36 :: o37 :: o38 :: o39 :: o40 :: o41 :: o42 :: o43 :: []).toArray true).wp P Q a w := by
  have e1 : E w.drew := hE _ _ he ((Below.refl _ _).drew)
  have g := h _ k.drew e1 (hF _ _ hf ((Below.refl _ _).drew))
  exact wp_region_scr (U := (fun w' => ∃ s : KX B w0 n L E, w' = s.val)) (ops := (o0 :: o1 :: o2 :: o3 :: o4 :: o5 :: o6 :: o7 :: o8 :: o9 :: o10 :: o11 :: o12 :: o13 :: o14 :: o15 :: o16 :: o17 :: o18 :: o19 :: o20 :: o21 :: o22 :: o23 :: o24 :: o25 :: o26 :: o27 :: o28 :: o29 :: o30 :: o31 :: o32 :: o33 :: o34 :: o35 :: o36 :: o37 :: o38 :: o39 :: o40 :: o41 :: o42 :: o43 :: []).toArray) (.free 0 (.free 1 (.free 2 (.free 3 (.free 5 (.free 6 (.free 7 (.read 8 (.alt 4 (.free 9 (.free 10 (.free 11 (.free 12 (.free 14 (.free 15 (.free 16 (.read 17 (.alt 13 (.free 18 (.free 19 (.free 20 (.free 21 (.free 23 (.free 24 (.free 25 (.read 26 (.alt 22 (.free 27 (.free 28 (.free 29 (.free 30 (.alt 31 (.free 32 (.free 33 (.free 34 (.free 35 (.free 36 (.free 37 (.free 38 (.read 39 (.free 40 (.alt 41 (.free 42 (.free 43 .done)) .stop)))))))))) .stop))))) .stop))))))))) .stop))))))))) .stop))))))))) [8, 17, 26, 39] [0, 1, 2, 3, 5, 6, 7, 9, 10, 11, 12, 14, 15, 16, 18, 19, 20, 21, 23, 24, 25, 27, 28, 29, 30, 32, 33, 34, 35, 36, 37, 38, 40, 42, 43] hm hB ⟨⟨_, k.drew, e1⟩, rfl⟩ (Scr.of_free rfl g (fun _ g0 => Scr.of_free rfl g0 (fun _ g1 => Scr.of_free rfl g1 (fun _ g2 => Scr.of_free rfl g2 (fun _ g3 => Scr.of_free rfl g3 (fun _ g4 => Scr.of_free rfl g4 (fun _ g5 => Scr.of_free rfl g5 (fun _ g6 => Scr.of_read rfl g6 (fun _ g7 => (Scr.of_alt rfl (g7.1 _ (fun _ _ g => g)) (fun _ _ g8 => Scr.of_free rfl g8 (fun _ g9 => Scr.of_free rfl g9 (fun _ g10 => Scr.of_free rfl g10 (fun _ g11 => Scr.of_free rfl g11 (fun _ g12 => Scr.of_free rfl g12 (fun _ g13 => Scr.of_free rfl g13 (fun _ g14 => Scr.of_free rfl g14 (fun _ g15 => Scr.of_read rfl g15 (fun _ g16 => (Scr.of_alt rfl (g16.1 _ (fun _ _ g => g)) (fun _ _ g17 => Scr.of_free rfl g17 (fun _ g18 => Scr.of_free rfl g18 (fun _ g19 => Scr.of_free rfl g19 (fun _ g20 => Scr.of_free rfl g20 (fun _ g21 => Scr.of_free rfl g21 (fun _ g22 => Scr.of_free rfl g22 (fun _ g23 => Scr.of_free rfl g23 (fun _ g24 => Scr.of_read rfl g24 (fun _ g25 => (Scr.of_alt rfl (g25.1 _ (fun _ _ g => g)) (fun _ _ g26 => Scr.of_free rfl g26 (fun _ g27 => Scr.of_free rfl g27 (fun _ g28 => Scr.of_free rfl g28 (fun _ g29 => Scr.of_free rfl g29 (fun _ g30 => (Scr.of_alt rfl (g30.1 _ (fun _ _ g => g)) (fun _ _ g31 => Scr.of_free rfl g31 (fun _ g32 => Scr.of_free rfl g32 (fun _ g33 => Scr.of_free rfl g33 (fun _ g34 => Scr.of_free rfl g34 (fun _ g35 => Scr.of_free rfl g35 (fun _ g36 => Scr.of_free rfl g36 (fun _ g37 => Scr.of_free rfl g37 (fun _ g38 => Scr.of_read rfl g38 (fun _ g39 => Scr.of_free rfl g39 (fun _ g40 => (Scr.of_alt rfl (g40.1 _ (fun _ _ g => g)) (fun _ _ g41 => Scr.of_free rfl g41 (fun _ g42 => Scr.of_free rfl g42 (fun _ g43 => g43))) trivial))))))))))) trivial)))))) trivial)))))))))) trivial)))))))))) trivial))))))))))
def IncRel (wi : World) (n : Nat) (v s : Value) (wr : World) : Prop := ∃ (j : Nat) (l : List Int), j ≤ n ∧ l.length = n ∧ s = .int .i64 j ∧ Ow ic 1 3 wr wi.heap.size v l ∧ Below wi.heap.size wi wr
def AlRel (w : World) (mv : List Bool) (ov : Bool) (wt iv : Value) (wr : World) : Prop := ∃ i : Nat, i ≤ mv.length ∧ iv = .int .i64 i ∧ Ow ic 1 3 wr w.heap.size wt (if ov = true then [] else waitL (mv.take i) 0) ∧ Below w.heap.size w wr
theorem takenC (P B c : Nat) (S : List Nat) (d : Dr) (p : Int) (l : List Int) (no : Int) (w : World) (h : DrAt w B S P d) (iv : d.Inv c) (h1 : d.tkn p = l) (h2 : d.askE p = no) : Calls Try.prog 24 #[.pointer (some ⟨P, 0, none⟩), .int .i64 p] w fun e w' => ∃ a k, e = .returned (.tuple #[.slice a l.length k, .int .i64 no]) ∧ Ow ic 1 3 w' w.heap.size (.slice a l.length k) l ∧ Below w.heap.size w w' := by
  have := taken24 P B c S d p w h iv
  rw [h1, h2] at this
  refine this.mono ?_
  rintro e w' ⟨v, rfl, hv, hb2⟩
  obtain ⟨a, k, rfl⟩ := hv.form
  exact ⟨a, k, rfl, hv, hb2⟩
theorem packC (P B c : Nat) (S : List Nat) (d : Dr) (p : Int) (l : List Int) (no : Int) (w : World) (h : DrAt w B S P d) (iv : d.Inv c) (h1 : d.ask p = l) (h2 : d.askE p = no) : Calls Try.prog 21 #[.pointer (some ⟨P, 0, none⟩), .int .i64 p] w fun e w' => ∃ a k, e = .returned (.tuple #[.slice a l.length k, .int .i64 no]) ∧ Ow ic 1 3 w' w.heap.size (.slice a l.length k) l ∧ Below w.heap.size w w' := by
  have := pack21 P B c S d p w h iv
  rw [h1, h2] at this
  refine this.mono ?_
  rintro e w' ⟨v, rfl, hv, hb2⟩
  obtain ⟨a, k, rfl⟩ := hv.form
  exact ⟨a, k, rfl, hv, hb2⟩
set_option maxRecDepth 100000 in
set_option maxHeartbeats 8000000 in
theorem alike14 (P B c : Nat) (S : List Nat) (M B' : Nat) (S' : List Nat) (d : Dr) (w : World) (hd : DrAt w B S P d) (hm : MoAt w B' S' M d) (iv : d.Inv c) : Calls Try.prog 14 #[.pointer (some ⟨P, 0, none⟩), .pointer (some ⟨M, 0, none⟩)] w fun e w' => e = .returned (.bool true) ∧ Below w.heap.size w w' := by
  obtain ⟨sf, sl, st, sm, fl, vss, hm⟩ := hm
  have HD := Lib.hid hd
  have HIV := Lib.hid iv
  have HMM := Lib.hid hm
  have hM := hm.lt
  have hn8 := iv.n8
  obtain ⟨tvs, _, htl, hto⟩ := hm.tval
  have m2 : w.cell? ⟨M, 2, none⟩ = some (.slice st.a d.n st.c) := by rw [hm.cell 2, ← htl, ← oe_slice hto]; rfl
  have m3 : w.cell? ⟨M, 3, none⟩ = some (.slice sm.a d.mv.length sm.c) := by rw [hm.cell 3, ← oe_slice hm.mov]; rfl
  have m4 : w.cell? ⟨M, 4, none⟩ = some (.int .i64 d.rd) := hm.cell 4
  have m5 : w.cell? ⟨M, 5, none⟩ = some (.int .i64 d.tn) := hm.cell 5
  have m6' : w.cell? ⟨M, 6, none⟩ = some (.bool d.over) := hm.cell 6
  obtain ⟨ov, hov⟩ : ∃ b, d.over = b := ⟨_, rfl⟩
  have HOV := Lib.hid hov
  have m6 : w.cell? ⟨M, 6, none⟩ = some (.bool ov) := by rw [← hov]; exact m6'
  have AN := Lib.hid (ask_neg d (p := -1) (.inl (by decide)))
  have AM := Lib.hid (ask_neg d (p := (d.n : Int)) (.inr (Int.le_refl _)))
  have HMVL := Lib.hid iv.mv
  clear hd hm iv hto htl hov m6'
  go_enter Try.func14, Try.ntmps14
  go_wp2_with fail
  refine rg14_1 (w0 := w) (B := w.heap.size) (n := w.heap.size) (L := []) (E := fun _ => True) (F := fun _ => True) (by kernel_rfl) (by kernel_rfl) ⟨by go_grown, by go_size, (by simp [go_sem] <;> omega)⟩ trivial (fun _ _ _ _ => trivial) trivial (fun _ _ _ _ => trivial) (fun w21 K_w21 E_w21 F_w21 => ?_)
  have _ne : Nonempty (KX (w.heap.size) w (w.heap.size) [] (fun _ => True)) := ⟨⟨_, K_w21, E_w21⟩⟩
  repeat (go_big_quiet_step (fail))
  refine wpQuiet_nil ?_
  have rx2 : ∀ s : KX (w.heap.size) w (w.heap.size) [] (fun _ => True), s.val.cell? ⟨M, 2, none⟩ = some (.slice st.a d.n st.c) := fun s => (s.kept.below.cell (p := ⟨M, 2, none⟩) hM).trans m2
  have rx4 : ∀ s : KX (w.heap.size) w (w.heap.size) [] (fun _ => True), s.val.cell? ⟨M, 4, none⟩ = some (.int .i64 d.rd) := fun s => (s.kept.below.cell (p := ⟨M, 4, none⟩) hM).trans m4
  have rx5 : ∀ s : KX (w.heap.size) w (w.heap.size) [] (fun _ => True), s.val.cell? ⟨M, 5, none⟩ = some (.int .i64 d.tn) := fun s => (s.kept.below.cell (p := ⟨M, 5, none⟩) hM).trans m5
  have rx6 : ∀ s : KX (w.heap.size) w (w.heap.size) [] (fun _ => True), s.val.cell? ⟨M, 6, none⟩ = some (.bool ov) := fun s => (s.kept.below.cell (p := ⟨M, 6, none⟩) hM).trans m6
  repeat (go_big_quiet_step (fail))
  refine wpQuiet_nil ?_
  clear rx2 rx4 rx5 rx6
  have KH_w21 := Lib.hid K_w21
  have hw_w21 := K_w21.below
  have hz_w21 := K_w21.size
  clear K_w21
  clear E_w21 F_w21
  refine ⟨fun K hK0 => ?_, trivial⟩
  have hK := Lib.hid hK0
  clear hK0
  go_wp2_with fail
  with_reducible refine (round19 P B c S d _ (HD.out.below hw_w21) HIV.out).mono ?_
  rintro e w' ⟨rfl, rfl⟩
  go_wp2_with fail
  first | (refine ⟨rfl, ⟨⟨_, KH_w21.out, trivial⟩, rfl⟩, hK.out _ _ ?_⟩; clear hK K) | (refine ⟨⟨⟨_, KH_w21.out, trivial⟩, rfl⟩, hK.out _ _ ?_⟩; clear hK K)
  repeat (go_big_quiet_step (fail))
  refine wpQuiet_nil ?_
  have rx2 : ∀ s : KX (w.heap.size) w (w.heap.size) [] (fun _ => True), s.val.cell? ⟨M, 2, none⟩ = some (.slice st.a d.n st.c) := fun s => (s.kept.below.cell (p := ⟨M, 2, none⟩) hM).trans m2
  have rx4 : ∀ s : KX (w.heap.size) w (w.heap.size) [] (fun _ => True), s.val.cell? ⟨M, 4, none⟩ = some (.int .i64 d.rd) := fun s => (s.kept.below.cell (p := ⟨M, 4, none⟩) hM).trans m4
  have rx5 : ∀ s : KX (w.heap.size) w (w.heap.size) [] (fun _ => True), s.val.cell? ⟨M, 5, none⟩ = some (.int .i64 d.tn) := fun s => (s.kept.below.cell (p := ⟨M, 5, none⟩) hM).trans m5
  have rx6 : ∀ s : KX (w.heap.size) w (w.heap.size) [] (fun _ => True), s.val.cell? ⟨M, 6, none⟩ = some (.bool ov) := fun s => (s.kept.below.cell (p := ⟨M, 6, none⟩) hM).trans m6
  repeat (go_big_quiet_step (fail))
  refine wpQuiet_nil ?_
  clear rx2 rx4 rx5 rx6
  refine ⟨fun K hK0 => ?_, trivial⟩
  have hK := Lib.hid hK0
  clear hK0
  go_wp2_with fail
  with_reducible refine (turn20 P B c S d _ (HD.out.below hw_w21) HIV.out).mono ?_
  rintro e w' ⟨rfl, rfl⟩
  go_wp2_with fail
  first | (refine ⟨rfl, ⟨⟨_, KH_w21.out, trivial⟩, rfl⟩, hK.out _ _ ?_⟩; clear hK K) | (refine ⟨⟨⟨_, KH_w21.out, trivial⟩, rfl⟩, hK.out _ _ ?_⟩; clear hK K)
  repeat (go_big_quiet_step (fail))
  refine wpQuiet_nil ?_
  have rx2 : ∀ s : KX (w.heap.size) w (w.heap.size) [] (fun _ => True), s.val.cell? ⟨M, 2, none⟩ = some (.slice st.a d.n st.c) := fun s => (s.kept.below.cell (p := ⟨M, 2, none⟩) hM).trans m2
  have rx4 : ∀ s : KX (w.heap.size) w (w.heap.size) [] (fun _ => True), s.val.cell? ⟨M, 4, none⟩ = some (.int .i64 d.rd) := fun s => (s.kept.below.cell (p := ⟨M, 4, none⟩) hM).trans m4
  have rx5 : ∀ s : KX (w.heap.size) w (w.heap.size) [] (fun _ => True), s.val.cell? ⟨M, 5, none⟩ = some (.int .i64 d.tn) := fun s => (s.kept.below.cell (p := ⟨M, 5, none⟩) hM).trans m5
  have rx6 : ∀ s : KX (w.heap.size) w (w.heap.size) [] (fun _ => True), s.val.cell? ⟨M, 6, none⟩ = some (.bool ov) := fun s => (s.kept.below.cell (p := ⟨M, 6, none⟩) hM).trans m6
  repeat (go_big_quiet_step (fail))
  refine wpQuiet_nil ?_
  clear rx2 rx4 rx5 rx6
  refine ⟨fun K hK0 => ?_, trivial⟩
  have hK := Lib.hid hK0
  clear hK0
  go_wp2_with fail
  with_reducible refine (done18c P B c S d ov _ (HD.out.below hw_w21) HIV.out HOV.out).mono ?_
  rintro e w22 ⟨rfl, hb_w22⟩
  have K_w22 := KH_w21.out.step (by omega) hb_w22
  have KH_w22 := Lib.hid K_w22
  have hz_w22 := K_w22.size
  have hw_w22 := K_w22.below
  clear K_w22 hb_w22
  go_wp2_with fail
  first | (refine ⟨rfl, ⟨⟨_, KH_w22.out, trivial⟩, rfl⟩, hK.out _ _ ?_⟩; clear hK K) | (refine ⟨⟨⟨_, KH_w22.out, trivial⟩, rfl⟩, hK.out _ _ ?_⟩; clear hK K)
  repeat (go_big_quiet_step (fail))
  refine wpQuiet_nil ?_
  refine ⟨fun K hK0 => ?_, trivial⟩
  have hK := Lib.hid hK0
  clear hK0
  go_wp2_with fail
  with_reducible refine (shows26c P B c S d (-1) 2 _ [] _ (HD.out.below hw_w22) HIV.out AN.out.1 AN.out.2 (Rw.nil _)).mono ?_
  rintro e w23 ⟨rfl, hb_w23⟩
  have K_w23 := KH_w22.out.step (by omega) hb_w23
  have KH_w23 := Lib.hid K_w23
  have hz_w23 := K_w23.size
  have hw_w23 := K_w23.below
  clear K_w23 hb_w23
  go_wp2_with fail
  first | (refine ⟨rfl, ⟨⟨_, KH_w23.out, trivial⟩, rfl⟩, hK.out _ _ ?_⟩; clear hK K) | (refine ⟨⟨⟨_, KH_w23.out, trivial⟩, rfl⟩, hK.out _ _ ?_⟩; clear hK K)
  repeat (go_big_quiet_step (fail))
  refine wpQuiet_nil ?_
  have rx2 : ∀ s : KX (w.heap.size) w (w.heap.size) [] (fun _ => True), s.val.cell? ⟨M, 2, none⟩ = some (.slice st.a d.n st.c) := fun s => (s.kept.below.cell (p := ⟨M, 2, none⟩) hM).trans m2
  have rx4 : ∀ s : KX (w.heap.size) w (w.heap.size) [] (fun _ => True), s.val.cell? ⟨M, 4, none⟩ = some (.int .i64 d.rd) := fun s => (s.kept.below.cell (p := ⟨M, 4, none⟩) hM).trans m4
  have rx5 : ∀ s : KX (w.heap.size) w (w.heap.size) [] (fun _ => True), s.val.cell? ⟨M, 5, none⟩ = some (.int .i64 d.tn) := fun s => (s.kept.below.cell (p := ⟨M, 5, none⟩) hM).trans m5
  have rx6 : ∀ s : KX (w.heap.size) w (w.heap.size) [] (fun _ => True), s.val.cell? ⟨M, 6, none⟩ = some (.bool ov) := fun s => (s.kept.below.cell (p := ⟨M, 6, none⟩) hM).trans m6
  repeat (go_big_quiet_step (fail))
  refine wpQuiet_nil ?_
  clear rx2 rx4 rx5 rx6
  repeat (go_big_quiet_step (fail))
  refine wpQuiet_nil ?_
  refine ⟨fun K hK0 => ?_, trivial⟩
  have hK := Lib.hid hK0
  clear hK0
  go_wp2_with fail
  with_reducible refine (shows26c P B c S d d.n 2 _ [] _ (HD.out.below hw_w23) HIV.out AM.out.1 AM.out.2 (Rw.nil _)).mono ?_
  rintro e w24 ⟨rfl, hb_w24⟩
  have K_w24 := KH_w23.out.step (by omega) hb_w24
  have KH_w24 := Lib.hid K_w24
  have hz_w24 := K_w24.size
  have hw_w24 := K_w24.below
  clear K_w24 hb_w24
  go_wp2_with fail
  first | (refine ⟨rfl, ⟨⟨_, KH_w24.out, trivial⟩, rfl⟩, hK.out _ _ ?_⟩; clear hK K) | (refine ⟨⟨⟨_, KH_w24.out, trivial⟩, rfl⟩, hK.out _ _ ?_⟩; clear hK K)
  repeat (go_big_quiet_step (fail))
  refine wpQuiet_nil ?_
  clear _ne
  have HW1 := Lib.hid hw_w24
  have m2z := (hw_w24.cell (p := ⟨M, 2, none⟩) hM).trans m2
  have hMz : M < w24.heap.size := Nat.lt_of_lt_of_le hM hw_w24.size
  clear hw_w24 KH_w24 m4 m5
  go_wp2_with fail
  go_loopw [5, 6] (fun wt i wr => AlRel w d.mv ov wt i wr) (fun _ i _ => d.mv.length - (intOf i).toNat)
  case atStart => exact ⟨0, Nat.zero_le _, rfl, by cases ov <;> exact Ow.nil _ _ _, HW1.out⟩
  case round =>
    clear m2z hMz
    obtain ⟨i, hi, rfl, hwt, hb⟩ := hrel
    obtain ⟨aw, cw, rfl⟩ := hwt.form
    have HBW := Lib.hid hb
    have HWT := Lib.hid hwt
    have hzz := hb.size
    clear hwt
    by_cases hil : i < d.mv.length
    · have hin : i < d.n := by have := HMVL.out; omega
      have HIL := Lib.hid hil
      obtain ⟨tl, htl⟩ : ∃ t, d.tk[i]? = some t := ⟨_, List.getElem?_eq_getElem (show i < d.tk.length from hin)⟩
      have HTKN : Hid (d.tkn i = tl) := Lib.hid (by rw [tkn_in d hin, getD_lt htl])
      have HASKE : Hid (d.askE i = 0) := Lib.hid (ask_in d hin).2
      obtain ⟨t, ht, htr⟩ := HMM.out.mat.get (i := 0) (k := i) (l := tl) (at2_of rfl htl)
      obtain ⟨tvs, hv0, hvl, hvo⟩ := HMM.out.tval
      obtain ⟨r, hr, hrk⟩ := at2_row ht
      obtain rfl : tvs = r := by rw [hv0] at hr; simpa using hr
      obtain ⟨tg, hta, _, htg, htb, hte⟩ := row_cell hvo hvl hrk
      have hts := sl_len htr
      rw [hts] at hte
      have ET := Lib.hid hte
      have HTR := Lib.hid (sl_rw htr)
      have HTK := Lib.hid htl
      have M2 : Hid (w.cell? ⟨M, 2, none⟩ = Option.some (.slice (some ⟨tg, 0, none⟩) d.n st.c)) := Lib.hid (by rw [← hta]; exact m2)
      have m2r := (hb.cell (p := ⟨M, 2, none⟩) hM).trans M2.out
      have m6r := (hb.cell (p := ⟨M, 6, none⟩) hM).trans m6
      have m3r := (hb.cell (p := ⟨M, 3, none⟩) hM).trans m3
      have hMr : M < wr.heap.size := Nat.lt_of_lt_of_le hM hzz
      have i1 : (0 : Int) ≤ (i : Int) := by omega
      have i2 : (i : Int) < (d.n : Int) := by omega
      have i3 : (i : Int) < (d.mv.length : Int) := by omega
      obtain ⟨b, hbk⟩ : ∃ b, d.mv[i]? = some b := ⟨_, List.getElem?_eq_getElem hil⟩
      obtain ⟨mg, hma, _, _, hml, _, hmc, _⟩ := HMM.out.mov.cell1 bc1 hbk
      have hmcr := (hb.cell (p := ⟨mg, i, none⟩) hml).trans hmc
      rw [hma] at m3r
      have hmvd : d.mvd i = b := getD_lt hbk
      have HNX := Lib.hid (wait_next hbk)
      have HLN : Hid ((waitL (d.mv.take i) 0).length ≤ 8) := Lib.hid (by have := wait_len (d.mv.take i) 0; rw [List.length_take] at this; omega)
      clear htl ht hv0 hvl hvo hr hrk hta htb hte hts htr m2 m3 m6 hbk hma hmc
      cases ov
      · cases b
        · have HASK : Hid (d.ask i = d.pk i) := Lib.hid (by rw [(ask_in d hin).1, HOV.out, hmvd]; rfl)
          obtain ⟨pl, hpl⟩ : ∃ l, d.pk i = l := ⟨_, rfl⟩
          rw [hpl] at HASK
          obtain ⟨t, ht, htr⟩ := HMM.out.mat.get (i := 1) (k := i) (l := pl) (at2_of (r := d.fronts) (by unfold Dr.live; rw [HOV.out]; rfl) (by rw [fronts_at hin, hpl]))
          obtain ⟨fvs, hv0, hvl, hvo⟩ := HMM.out.fval HOV.out
          obtain ⟨r, hr, hrk⟩ := at2_row ht
          obtain rfl : fvs = r := by rw [hv0] at hr; simpa using hr
          obtain ⟨fg, hfa, hfn, hfg, hfb, hfe⟩ := row_cell hvo hvl hrk
          have hts := sl_len htr
          rw [hts] at hfe
          have m0r : wr.cell? ⟨M, 0, none⟩ = Option.some (.slice (some ⟨fg, 0, none⟩) d.n sf.c) := by
            rw [hb.cell (p := ⟨M, 0, none⟩) hM, HMM.out.cell 0, ← hfa, ← hfn]
            rfl
          have hfer := (hb.cell (p := ⟨fg, i, none⟩) hfg).trans hfe
          have HWAx : Hid (∀ W, Below w.heap.size w W → Rw ic 1 W (.slice t.a pl.length t.c) pl) := Lib.hid (fun W h => (sl_rw htr).below h)
          have HWT2 : Hid (Ow ic 1 3 wr w.heap.size (.slice aw (waitL (d.mv.take i) 0).length cw) (waitL (d.mv.take i) 0)) := HWT
          clear hpl ht hv0 hvl hvo hr hrk hfa hfn hfb hfe hts htr hb HWT
          go_wp2_with (at_builtin; refine wpList_append_ow (f := ic) (sz := 1) rfl _ _ 32 rfl w.heap.size 3 (.int .i64 0) 8 Try.underlying32 info3 rfl (by decide) _ (waitL (d.mv.take i) 0) rfl (HWT2.out.below (by go_grown)) ic_ok _ [(i : Int)] rfl (Rw.one2 _ _ (i : Int) _ rfl _ _ (by simp)) ?d2 ?d3 (by go_size) ?_)
          case d2 => have := HLN.out; simp [maxLen]; omega
          case d3 => have := HLN.out; simp; omega
          intro v' wa hown hgrow _
          have HBA : Hid (Below w.heap.size w wa) := Lib.hid (below_row (W := _) (HBW.out.alloc hzz _) hgrow (by simp; omega) (fun q hq => (HWT2.out.typ q ((ob_len _ _ _ _ _).trans hq)).1))
          have HGA : Hid (Ow ic 1 3 wa w.heap.size v' (waitL (d.mv.take (i + 1)) 0)) := Lib.hid (by rw [HNX.out]; exact hown)
          obtain ⟨aw2, cw2, hv'⟩ := hown.form
          obtain ⟨n', hn'⟩ : ∃ n, (waitL (d.mv.take i) 0 ++ [(i : Int)]).length = n := ⟨_, rfl⟩
          rw [hn'] at hv'
          subst hv'
          have HWAIT : Hid (Ow ic 1 3 wa w.heap.size (.slice aw2 n' cw2) (if false = true then [] else waitL (d.mv.take (i + 1)) 0)) := HGA
          have HWANT : Hid (Rw ic 1 wa (.slice t.a pl.length t.c) pl) := Lib.hid (HWAx.out _ HBA.out)
          clear hown hgrow hn' hmvd m0r hfer hmcr m2r m3r m6r hzz hMr
          as_aux_lemma =>
            go_wp2_with fail
            with_reducible refine (shows26c P B c S d i 0 _ pl _ (HD.out.below HBA.out) HIV.out HASK.out HASKE.out HWANT.out).mono ?_
            rintro e w2 ⟨rfl, hb2⟩
            have HBA2 := Lib.hid (below_via HBA.out hb2)
            have HWAIT2 := Lib.hid (HWAIT.out.below hb2)
            have htq := HTK.out
            have m2 := (HBA2.out.cell (p := ⟨M, 2, none⟩) hM).trans M2.out
            have hMw := Nat.lt_of_lt_of_le hM HBA2.out.size
            clear hb2 HWAIT HBA HWANT
            go_wp2_with fail
            with_reducible refine (takenC P B c S d i tl 0 _ (HD.out.below HBA2.out) HIV.out HTKN.out HASKE.out).mono ?_
            rintro e w3 ⟨al, cl, rfl, hl, hb3⟩
            have HL3 := Lib.hid hl
            have m2 := (hb3.cell (p := ⟨M, 2, none⟩) hMw).trans m2
            have HBA3 := Lib.hid (below_via HBA2.out hb3)
            have HB23 := Lib.hid hb3
            have et := (HBA3.out.cell (p := ⟨tg, i, none⟩) htg).trans ET.out
            have htg3 := Nat.lt_of_lt_of_le htg HBA3.out.size
            have hMw3 := Nat.lt_of_lt_of_le hM HBA3.out.size
            clear hl hb3
            go_wp2_with fail
            with_reducible refine (ints12c _ _ tl tl _ (HL3.out.rw ic_len) (HTR.out.below HBA3.out) rfl).mono ?_
            rintro e w4 ⟨rfl, hb4⟩
            have HL4 := Lib.hid (HL3.out.below hb4)
            have HBA4 := Lib.hid (below_via HBA3.out hb4)
            have HB24 := Lib.hid (below_via HB23.out hb4)
            clear hb4 HL3 HB23 HBA3 et m2 htg3 hMw3 hMw
            go_wp2_with fail
            with_reducible refine (packC P B c S d i pl 0 _ (HD.out.below HBA4.out) HIV.out HASK.out HASKE.out).mono ?_
            rintro e w5 ⟨ap, cp, rfl, hp, hb5⟩
            have HP5 := Lib.hid hp
            have HB5 := Lib.hid hb5
            clear hp hb5
            have hmx := (HP5.out).max
            unfold maxLen at hmx
            go_wp2_with fail
            go_loopw [12] (fun s wr => IncRel w4 pl.length (.slice ap pl.length cp) s wr) (fun s _ => pl.length - (intOf s).toNat)
            case atStart => exact ⟨0, pl, Nat.zero_le _, rfl, rfl, HP5.out, HB5.out⟩
            case round =>
              obtain ⟨j, l', hj, hl', rfl, hrow, hb⟩ := hrel
              have HROW := Lib.hid hrow
              have HBI := Lib.hid hb
              have hzz := hb.size
              clear hrow hb
              by_cases hjl : j < pl.length
              · obtain ⟨z, hz⟩ : ∃ z, l'[j]? = some z := ⟨_, List.getElem?_eq_getElem (show j < l'.length by omega)⟩
                obtain ⟨g, hg, _, _, hgl, hgb, hgc, _⟩ := Oe.cell1 (s := ⟨ap, pl.length, cp⟩) ic1 (Oe.of_ow HROW.out) hz
                change ap = _ at hg
                subst hg
                have hgf : wr.frozen? ⟨g, j, none⟩ = false := ty_frozen ((Oe.of_ow HROW.out).ty hgb) _
                have i1 : (0 : Int) ≤ (j : Int) := by omega
                have i2 : (j : Int) < (pl.length : Int) := by omega
                have HG : Hid (w4.heap.size ≤ g) := Lib.hid (HROW.out.typ g rfl).1
                clear hz hgb
                go_wp2_with fail
                go_roundw
                case rel => exact ⟨j + 1, l'.set j (wrap64 (z + 1)), by omega, by rw [List.length_set]; exact hl', by go_num, HROW.out.set1 (fun _ => rfl) hl'.symm j _ _ rfl, HBI.out.setCell HG.out _⟩
                case measure => simp [intOf]; omega
              · obtain rfl : j = pl.length := by omega
                clear hj hjl
                obtain ⟨wq, rfl⟩ : ∃ W, W = wr := ⟨_, rfl⟩
                have HLQ := Lib.hid (HL4.out.below HBI.out)
                have HBQ := Lib.hid (HB24.out.trans (HBI.out.mono HB24.out.size))
                have hmx := (HLQ.out).max
                unfold maxLen at hmx
                go_wp2_with fail
                go_loopw [13] (fun s wr => IncRel w2 tl.length (.slice al tl.length cl) s wr) (fun s _ => tl.length - (intOf s).toNat)
                case atStart => exact ⟨0, tl, Nat.zero_le _, rfl, rfl, HLQ.out, HBQ.out⟩
                case round =>
                  obtain ⟨j, l', hj, hl', rfl, hrow, hb⟩ := hrel
                  have HROW := Lib.hid hrow
                  have HBI := Lib.hid hb
                  have hzz := hb.size
                  clear hrow hb
                  by_cases hjl : j < tl.length
                  · obtain ⟨z, hz⟩ : ∃ z, l'[j]? = some z := ⟨_, List.getElem?_eq_getElem (show j < l'.length by omega)⟩
                    obtain ⟨g, hg, _, _, hgl, hgb, hgc, _⟩ := Oe.cell1 (s := ⟨al, tl.length, cl⟩) ic1 (Oe.of_ow HROW.out) hz
                    change al = _ at hg
                    subst hg
                    have hgf : wr.frozen? ⟨g, j, none⟩ = false := ty_frozen ((Oe.of_ow HROW.out).ty hgb) _
                    have i1 : (0 : Int) ≤ (j : Int) := by omega
                    have i2 : (j : Int) < (tl.length : Int) := by omega
                    have HG : Hid (w2.heap.size ≤ g) := Lib.hid (HROW.out.typ g rfl).1
                    clear hz hgb
                    go_wp2_with fail
                    go_roundw
                    case rel => exact ⟨j + 1, l'.set j (wrap64 (z + 1)), by omega, by rw [List.length_set]; exact hl', by go_num, HROW.out.set1 (fun _ => rfl) hl'.symm j _ _ rfl, HBI.out.setCell HG.out _⟩
                    case measure => simp [intOf]; omega
                  · obtain rfl : j = tl.length := by omega
                    clear hj hjl
                    have HB9 := Lib.hid (below_via HBA2.out HBI.out)
                    have HW9 := Lib.hid (HWAIT2.out.below HBI.out)
                    go_wp2_with fail
                    go_roundw
                    case rel => exact ⟨i + 1, by have := HIL.out; omega, by go_num, HW9.out, HB9.out⟩
                    case measure => simp [intOf]; omega
        · have HASK : Hid (d.ask i = []) := Lib.hid (by rw [(ask_in d hin).1, HOV.out, hmvd]; rfl)
          obtain ⟨pl, hpl⟩ : ∃ l : List Int, [] = l := ⟨_, rfl⟩
          have HPLE := Lib.hid hpl
          rw [hpl] at HASK
          have HWAIT : Hid (Ow ic 1 3 wr w.heap.size (.slice aw (if false = true then [] else waitL (d.mv.take i) 0).length cw) (if false = true then [] else waitL (d.mv.take (i + 1)) 0)) := Lib.hid (by
            have h := HWT.out
            have h2 := HNX.out
            simp only [if_true, List.append_nil] at h2
            rw [h2]
            exact h)
          have HWANT : Hid (Rw ic 1 wr (.slice none 0 0) pl) := Lib.hid (by rw [← hpl]; exact Rw.nil _)
          have HBA := HBW
          clear hb HWT hpl hmvd
          as_aux_lemma =>
            go_wp2_with fail
            with_reducible refine (shows26c P B c S d i 0 _ pl _ (HD.out.below HBA.out) HIV.out HASK.out HASKE.out HWANT.out).mono ?_
            rintro e w2 ⟨rfl, hb2⟩
            have HBA2 := Lib.hid (below_via HBA.out hb2)
            have HWAIT2 := Lib.hid (HWAIT.out.below hb2)
            have htq := HTK.out
            have m2 := (HBA2.out.cell (p := ⟨M, 2, none⟩) hM).trans M2.out
            have hMw := Nat.lt_of_lt_of_le hM HBA2.out.size
            clear hb2 HWAIT HBA HWANT
            go_wp2_with fail
            with_reducible refine (takenC P B c S d i tl 0 _ (HD.out.below HBA2.out) HIV.out HTKN.out HASKE.out).mono ?_
            rintro e w3 ⟨al, cl, rfl, hl, hb3⟩
            have HL3 := Lib.hid hl
            have m2 := (hb3.cell (p := ⟨M, 2, none⟩) hMw).trans m2
            have HBA3 := Lib.hid (below_via HBA2.out hb3)
            have HB23 := Lib.hid hb3
            have et := (HBA3.out.cell (p := ⟨tg, i, none⟩) htg).trans ET.out
            have htg3 := Nat.lt_of_lt_of_le htg HBA3.out.size
            have hMw3 := Nat.lt_of_lt_of_le hM HBA3.out.size
            clear hl hb3
            go_wp2_with fail
            with_reducible refine (ints12c _ _ tl tl _ (HL3.out.rw ic_len) (HTR.out.below HBA3.out) rfl).mono ?_
            rintro e w4 ⟨rfl, hb4⟩
            have HL4 := Lib.hid (HL3.out.below hb4)
            have HBA4 := Lib.hid (below_via HBA3.out hb4)
            have HB24 := Lib.hid (below_via HB23.out hb4)
            clear hb4 HL3 HB23 HBA3 et m2 htg3 hMw3 hMw
            go_wp2_with fail
            with_reducible refine (packC P B c S d i pl 0 _ (HD.out.below HBA4.out) HIV.out HASK.out HASKE.out).mono ?_
            rintro e w5 ⟨ap, cp, rfl, hp, hb5⟩
            have HP5 := Lib.hid hp
            have HB5 := Lib.hid hb5
            clear hp hb5
            have hmx := (HP5.out).max
            unfold maxLen at hmx
            go_wp2_with fail
            go_loopw [12] (fun s wr => IncRel w4 pl.length (.slice ap pl.length cp) s wr) (fun s _ => pl.length - (intOf s).toNat)
            case atStart => exact ⟨0, pl, Nat.zero_le _, rfl, rfl, HP5.out, HB5.out⟩
            case round =>
              obtain ⟨j, l', hj, hl', rfl, hrow, hb⟩ := hrel
              have HROW := Lib.hid hrow
              have HBI := Lib.hid hb
              have hzz := hb.size
              clear hrow hb
              by_cases hjl : j < pl.length
              · obtain ⟨z, hz⟩ : ∃ z, l'[j]? = some z := ⟨_, List.getElem?_eq_getElem (show j < l'.length by omega)⟩
                obtain ⟨g, hg, _, _, hgl, hgb, hgc, _⟩ := Oe.cell1 (s := ⟨ap, pl.length, cp⟩) ic1 (Oe.of_ow HROW.out) hz
                change ap = _ at hg
                subst hg
                have hgf : wr.frozen? ⟨g, j, none⟩ = false := ty_frozen ((Oe.of_ow HROW.out).ty hgb) _
                have i1 : (0 : Int) ≤ (j : Int) := by omega
                have i2 : (j : Int) < (pl.length : Int) := by omega
                have HG : Hid (w4.heap.size ≤ g) := Lib.hid (HROW.out.typ g rfl).1
                clear hz hgb
                go_wp2_with fail
                go_roundw
                case rel => exact ⟨j + 1, l'.set j (wrap64 (z + 1)), by omega, by rw [List.length_set]; exact hl', by go_num, HROW.out.set1 (fun _ => rfl) hl'.symm j _ _ rfl, HBI.out.setCell HG.out _⟩
                case measure => simp [intOf]; omega
              · obtain rfl : j = pl.length := by omega
                clear hj hjl
                obtain ⟨wq, rfl⟩ : ∃ W, W = wr := ⟨_, rfl⟩
                have HLQ := Lib.hid (HL4.out.below HBI.out)
                have HBQ := Lib.hid (HB24.out.trans (HBI.out.mono HB24.out.size))
                have hmx := (HLQ.out).max
                unfold maxLen at hmx
                go_wp2_with fail
                go_loopw [13] (fun s wr => IncRel w2 tl.length (.slice al tl.length cl) s wr) (fun s _ => tl.length - (intOf s).toNat)
                case atStart => exact ⟨0, tl, Nat.zero_le _, rfl, rfl, HLQ.out, HBQ.out⟩
                case round =>
                  obtain ⟨j, l', hj, hl', rfl, hrow, hb⟩ := hrel
                  have HROW := Lib.hid hrow
                  have HBI := Lib.hid hb
                  have hzz := hb.size
                  clear hrow hb
                  by_cases hjl : j < tl.length
                  · obtain ⟨z, hz⟩ : ∃ z, l'[j]? = some z := ⟨_, List.getElem?_eq_getElem (show j < l'.length by omega)⟩
                    obtain ⟨g, hg, _, _, hgl, hgb, hgc, _⟩ := Oe.cell1 (s := ⟨al, tl.length, cl⟩) ic1 (Oe.of_ow HROW.out) hz
                    change al = _ at hg
                    subst hg
                    have hgf : wr.frozen? ⟨g, j, none⟩ = false := ty_frozen ((Oe.of_ow HROW.out).ty hgb) _
                    have i1 : (0 : Int) ≤ (j : Int) := by omega
                    have i2 : (j : Int) < (tl.length : Int) := by omega
                    have HG : Hid (w2.heap.size ≤ g) := Lib.hid (HROW.out.typ g rfl).1
                    clear hz hgb
                    go_wp2_with fail
                    go_roundw
                    case rel => exact ⟨j + 1, l'.set j (wrap64 (z + 1)), by omega, by rw [List.length_set]; exact hl', by go_num, HROW.out.set1 (fun _ => rfl) hl'.symm j _ _ rfl, HBI.out.setCell HG.out _⟩
                    case measure => simp [intOf]; omega
                  · obtain rfl : j = tl.length := by omega
                    clear hj hjl
                    have HB9 := Lib.hid (below_via HBA2.out HBI.out)
                    have HW9 := Lib.hid (HWAIT2.out.below HBI.out)
                    go_wp2_with fail
                    go_roundw
                    case rel => exact ⟨i + 1, by have := HIL.out; omega, by go_num, HW9.out, HB9.out⟩
                    case measure => simp [intOf]; omega
      · have HASK : Hid (d.ask i = []) := Lib.hid (by rw [(ask_in d hin).1, HOV.out]; rfl)
        obtain ⟨pl, hpl⟩ : ∃ l : List Int, [] = l := ⟨_, rfl⟩
        have HPLE := Lib.hid hpl
        rw [hpl] at HASK
        have HWAIT : Hid (Ow ic 1 3 wr w.heap.size (.slice aw (if true = true then [] else waitL (d.mv.take i) 0).length cw) (if true = true then [] else waitL (d.mv.take (i + 1)) 0)) := HWT
        have HWANT : Hid (Rw ic 1 wr (.slice none 0 0) pl) := Lib.hid (by rw [← hpl]; exact Rw.nil _)
        have HBA := HBW
        clear hb HWT hpl hmvd
        as_aux_lemma =>
          go_wp2_with fail
          with_reducible refine (shows26c P B c S d i 0 _ pl _ (HD.out.below HBA.out) HIV.out HASK.out HASKE.out HWANT.out).mono ?_
          rintro e w2 ⟨rfl, hb2⟩
          have HBA2 := Lib.hid (below_via HBA.out hb2)
          have HWAIT2 := Lib.hid (HWAIT.out.below hb2)
          have htq := HTK.out
          have m2 := (HBA2.out.cell (p := ⟨M, 2, none⟩) hM).trans M2.out
          have hMw := Nat.lt_of_lt_of_le hM HBA2.out.size
          clear hb2 HWAIT HBA HWANT
          go_wp2_with fail
          with_reducible refine (takenC P B c S d i tl 0 _ (HD.out.below HBA2.out) HIV.out HTKN.out HASKE.out).mono ?_
          rintro e w3 ⟨al, cl, rfl, hl, hb3⟩
          have HL3 := Lib.hid hl
          have m2 := (hb3.cell (p := ⟨M, 2, none⟩) hMw).trans m2
          have HBA3 := Lib.hid (below_via HBA2.out hb3)
          have HB23 := Lib.hid hb3
          have et := (HBA3.out.cell (p := ⟨tg, i, none⟩) htg).trans ET.out
          have htg3 := Nat.lt_of_lt_of_le htg HBA3.out.size
          have hMw3 := Nat.lt_of_lt_of_le hM HBA3.out.size
          clear hl hb3
          go_wp2_with fail
          with_reducible refine (ints12c _ _ tl tl _ (HL3.out.rw ic_len) (HTR.out.below HBA3.out) rfl).mono ?_
          rintro e w4 ⟨rfl, hb4⟩
          have HL4 := Lib.hid (HL3.out.below hb4)
          have HBA4 := Lib.hid (below_via HBA3.out hb4)
          have HB24 := Lib.hid (below_via HB23.out hb4)
          clear hb4 HL3 HB23 HBA3 et m2 htg3 hMw3 hMw
          go_wp2_with fail
          with_reducible refine (packC P B c S d i pl 0 _ (HD.out.below HBA4.out) HIV.out HASK.out HASKE.out).mono ?_
          rintro e w5 ⟨ap, cp, rfl, hp, hb5⟩
          have HP5 := Lib.hid hp
          have HB5 := Lib.hid hb5
          clear hp hb5
          have hmx := (HP5.out).max
          unfold maxLen at hmx
          go_wp2_with fail
          go_loopw [12] (fun s wr => IncRel w4 pl.length (.slice ap pl.length cp) s wr) (fun s _ => pl.length - (intOf s).toNat)
          case atStart => exact ⟨0, pl, Nat.zero_le _, rfl, rfl, HP5.out, HB5.out⟩
          case round =>
            obtain ⟨j, l', hj, hl', rfl, hrow, hb⟩ := hrel
            have HROW := Lib.hid hrow
            have HBI := Lib.hid hb
            have hzz := hb.size
            clear hrow hb
            by_cases hjl : j < pl.length
            · obtain ⟨z, hz⟩ : ∃ z, l'[j]? = some z := ⟨_, List.getElem?_eq_getElem (show j < l'.length by omega)⟩
              obtain ⟨g, hg, _, _, hgl, hgb, hgc, _⟩ := Oe.cell1 (s := ⟨ap, pl.length, cp⟩) ic1 (Oe.of_ow HROW.out) hz
              change ap = _ at hg
              subst hg
              have hgf : wr.frozen? ⟨g, j, none⟩ = false := ty_frozen ((Oe.of_ow HROW.out).ty hgb) _
              have i1 : (0 : Int) ≤ (j : Int) := by omega
              have i2 : (j : Int) < (pl.length : Int) := by omega
              have HG : Hid (w4.heap.size ≤ g) := Lib.hid (HROW.out.typ g rfl).1
              clear hz hgb
              go_wp2_with fail
              go_roundw
              case rel => exact ⟨j + 1, l'.set j (wrap64 (z + 1)), by omega, by rw [List.length_set]; exact hl', by go_num, HROW.out.set1 (fun _ => rfl) hl'.symm j _ _ rfl, HBI.out.setCell HG.out _⟩
              case measure => simp [intOf]; omega
            · obtain rfl : j = pl.length := by omega
              clear hj hjl
              obtain ⟨wq, rfl⟩ : ∃ W, W = wr := ⟨_, rfl⟩
              have HLQ := Lib.hid (HL4.out.below HBI.out)
              have HBQ := Lib.hid (HB24.out.trans (HBI.out.mono HB24.out.size))
              have hmx := (HLQ.out).max
              unfold maxLen at hmx
              go_wp2_with fail
              go_loopw [13] (fun s wr => IncRel w2 tl.length (.slice al tl.length cl) s wr) (fun s _ => tl.length - (intOf s).toNat)
              case atStart => exact ⟨0, tl, Nat.zero_le _, rfl, rfl, HLQ.out, HBQ.out⟩
              case round =>
                obtain ⟨j, l', hj, hl', rfl, hrow, hb⟩ := hrel
                have HROW := Lib.hid hrow
                have HBI := Lib.hid hb
                have hzz := hb.size
                clear hrow hb
                by_cases hjl : j < tl.length
                · obtain ⟨z, hz⟩ : ∃ z, l'[j]? = some z := ⟨_, List.getElem?_eq_getElem (show j < l'.length by omega)⟩
                  obtain ⟨g, hg, _, _, hgl, hgb, hgc, _⟩ := Oe.cell1 (s := ⟨al, tl.length, cl⟩) ic1 (Oe.of_ow HROW.out) hz
                  change al = _ at hg
                  subst hg
                  have hgf : wr.frozen? ⟨g, j, none⟩ = false := ty_frozen ((Oe.of_ow HROW.out).ty hgb) _
                  have i1 : (0 : Int) ≤ (j : Int) := by omega
                  have i2 : (j : Int) < (tl.length : Int) := by omega
                  have HG : Hid (w2.heap.size ≤ g) := Lib.hid (HROW.out.typ g rfl).1
                  clear hz hgb
                  go_wp2_with fail
                  go_roundw
                  case rel => exact ⟨j + 1, l'.set j (wrap64 (z + 1)), by omega, by rw [List.length_set]; exact hl', by go_num, HROW.out.set1 (fun _ => rfl) hl'.symm j _ _ rfl, HBI.out.setCell HG.out _⟩
                  case measure => simp [intOf]; omega
                · obtain rfl : j = tl.length := by omega
                  clear hj hjl
                  have HB9 := Lib.hid (below_via HBA2.out HBI.out)
                  have HW9 := Lib.hid (HWAIT2.out.below HBI.out)
                  go_wp2_with fail
                  go_roundw
                  case rel => exact ⟨i + 1, by have := HIL.out; omega, by go_num, HW9.out, HB9.out⟩
                  case measure => simp [intOf]; omega
    · obtain rfl : i = d.mv.length := by omega
      have m2r := (hb.cell (p := ⟨M, 2, none⟩) hM).trans m2
      have hMr : M < wr.heap.size := Nat.lt_of_lt_of_le hM hzz
      have q1 : ¬ (d.mv.length : Int) < (d.n : Int) := by have := HMVL.out; omega
      obtain ⟨lw, hlw⟩ : ∃ l, (if ov = true then [] else waitL (d.mv.take d.mv.length) 0) = l := ⟨_, rfl⟩
      obtain ⟨nw, hnw⟩ : ∃ l, lw.length = l := ⟨_, rfl⟩
      have HWF : Hid (Rw ic 1 wr (.slice aw nw cw) d.wait) := Lib.hid (by
        have h := HWT.out.rw ic_len
        have h2 : (if ov = true then [] else waitL (d.mv.take d.mv.length) 0) = d.wait := by
          unfold Dr.wait
          rw [List.take_length, HOV.out]
        rw [← hnw, ← hlw]
        rw [h2] at h ⊢
        exact h)
      simp only [hlw, hnw]
      clear HWT hb hlw hnw
      go_wp2_with fail
      with_reducible refine (waiting27 P B c S d _ (HD.out.below HBW.out) HIV.out).mono ?_
      rintro e w2 ⟨v, rfl, hv, hb2⟩
      obtain ⟨av, cv, rfl⟩ := hv.form
      have HV := Lib.hid hv
      clear hv
      go_wp2_with fail
      with_reducible refine (ints12c _ _ d.wait d.wait _ (HV.out.rw ic_len) (HWF.out.below hb2) rfl).mono ?_
      rintro e w3 ⟨rfl, hb3⟩
      go_wp2_with fail
      go_returns
      exact ⟨rfl, below_via HBW.out (below_via hb2 hb3)⟩
end Go.Proofs.Yteocplabibhecaa
