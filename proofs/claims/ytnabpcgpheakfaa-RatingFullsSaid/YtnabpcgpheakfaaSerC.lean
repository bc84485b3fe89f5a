/- RatingSeries. -/
import Derived.Test.YtnabpcgpheakfaaSerB
import Derived.Test.YtnabpcgpheakfaaExp
import Derived.IntWalk
namespace Go.Proofs.Ytnabpcgpheakfaa
open Go.RowKit Plain
set_option linter.unusedVariables false
set_option linter.unusedSimpArgs false

def sel (b : Bool) (c d : Int) : Int := if b = true then c else d
def serNo (f : Int) (xs : List Int) (rows : List (List Int)) (scs : List Int) : Int :=
  sel (decide (rows.length ≠ scs.length) || rows.any (badR xs.length)) 2 (sel (!fB f || scs.any (fun s => !sB s)) 3 (sel (xs.any fun z => !vB z) 3 0))
/-- what Series returns where there are not too many -/
def SerAll (w : World) (f : Int) (xs : List Int) (rows : List (List Int)) (scs : List Int) (e : Ending) (w' : World) : Prop :=
  ∃ v, e = .returned (.tuple #[v, .int .i64 (serNo f xs rows scs)]) ∧ (serNo f xs rows scs ≠ 0 → v = .slice none 0 0) ∧ (serNo f xs rows scs = 0 → Out w' w.heap.size v (plK f xs rows scs rows.length)) ∧ Below w.heap.size w w'
theorem series19_all (v gv sv : Value) (f : Int) (xs : List Int) (rows : List (List Int)) (scs : List Int) (w : World) (hs : Seg w .i64 v xs) (hg : SRow [.i64, .i64] w gv rows) (hc : Seg w .i64 sv scs) (h1 : xs.length ≤ 100) (h2 : rows.length ≤ 1000) : Calls Try.prog 19 #[v, .int .i64 f, gv, sv] w (SerAll w f xs rows scs) := by
  by_cases q1 : rows.length ≠ scs.length ∨ rows.any (badR xs.length) = true
  · have e : serNo f xs rows scs = 2 := by
      unfold serNo sel
      rw [if_pos (by simpa using q1)]
    refine (series19_arg v gv sv f xs rows scs w hs hg hc h1 h2 q1).mono ?_
    rintro _ w' ⟨rfl, hb⟩
    exact ⟨_, by rw [e], fun _ => rfl, fun h => by rw [e] at h; simp at h, hb⟩
  · have n1 : rows.length = scs.length := by
      rcases Nat.decEq rows.length scs.length with h | h
      · exact absurd (Or.inl h) q1
      · exact h
    have n2 : rows.any (badR xs.length) = false := by
      cases h : rows.any (badR xs.length)
      · rfl
      · exact absurd (Or.inr h) q1
    by_cases q2 : fB f = false ∨ (xs.any fun z => !vB z) = true
    · have e : serNo f xs rows scs = 3 := by
        unfold serNo sel
        rw [if_neg (by simp [n1, n2])]
        rcases q2 with q2 | q2
        · rw [if_pos (by simp [q2])]
        · rw [if_pos q2]; split <;> rfl
      refine (series19_range v gv sv f xs rows scs w hs hg hc h1 h2 n1 n2 q2).mono ?_
      rintro _ w' ⟨rfl, hb⟩
      exact ⟨_, by rw [e], fun _ => rfl, fun h => by rw [e] at h; simp at h, hb⟩
    · have m1 : fB f = true := by
        cases h : fB f
        · exact absurd (Or.inl h) q2
        · rfl
      have m2 : (xs.any fun z => !vB z) = false := by
        cases h : (xs.any fun z => !vB z)
        · rfl
        · exact absurd (Or.inr h) q2
      refine (series19_run v gv sv f xs rows scs w hs hg hc h1 h2 n1 n2 m1 m2).mono ?_
      rintro _ w' ⟨⟨h, v, rfl, ho⟩ | ⟨h, rfl⟩, hb⟩
      · have e : serNo f xs rows scs = 0 := by
          unfold serNo sel
          rw [if_neg (by simp [n1, n2]), if_neg (by rw [m1, h]; simp), if_neg (by rw [m2]; simp)]
        exact ⟨_, by rw [e], fun h => absurd e h, fun _ => ho, hb⟩
      · have e : serNo f xs rows scs = 3 := by
          unfold serNo sel
          rw [if_neg (by simp [n1, n2]), if_pos (by rw [h]; simp)]
        exact ⟨_, by rw [e], fun _ => rfl, fun h => by rw [e] at h; simp at h, hb⟩
theorem ints20t (v u : Value) (zs ys : List Int) (w : World) (hs : Seg w .i64 v zs) (ht : Seg w .i64 u ys) (h : zs = ys) : Calls Try.prog 20 #[v, u] w fun e w' => e = .returned (.bool true) ∧ Below w.heap.size w w' := by
  refine (ints20 v u zs ys w hs ht).mono ?_
  rintro _ w' ⟨rfl, hb⟩
  exact ⟨by simp [h], hb⟩
theorem change16c (a b f s x : Int) (w : World) (ha : vB a = true) (hb : vB b = true) (hf : alB f s = true) (hx : chg a b f s = x) : Calls Try.prog 16 #[.int .i64 a, .int .i64 b, .int .i64 f, .int .i64 s] w fun e w' => e = .returned (.int .i64 x) ∧ w = w' := by
  subst hx
  exact change16 a b f s w ha hb hf
theorem Out.below {W W' : World} {base : Nat} {v : Value} {xs : List Int} (h : Out W base v xs) (hb : Below W.heap.size W W') : Out W' base v xs := by
  rcases h with h | ⟨g, cap, ex, h1, h2, h3, h4⟩
  · exact .inl h
  · exact .inr ⟨g, cap, ex, h1, h2, h3, h4.below hb⟩
theorem Out.form {W : World} {base : Nat} {v : Value} {xs : List Int} (h : Out W base v xs) : ∃ a c, v = .slice a xs.length c := by
  rcases h with ⟨rfl, rfl⟩ | ⟨g, cap, ex, h1, h2, h3, h4⟩
  · exact ⟨_, _, rfl⟩
  · exact ⟨_, _, h1⟩
theorem Out.get {W : World} {base n c : Nat} {a : Option Addr} {xs : List Int} (h : Out W base (.slice a n c) xs) (h0 : 0 < xs.length) : ∃ g ex, a = some ⟨g, 0, none⟩ ∧ base ≤ g ∧ xs.length ≤ maxLen ∧ IAt W g xs ex ∧ n = xs.length := by
  rcases h with ⟨rfl, h⟩ | ⟨g, cap, ex, h1, h2, h3, h4⟩
  · simp at h0
  · simp at h1
    exact ⟨g, ex, h1.1, h2, h3, h4, h1.2.1⟩
/-- 'append([]int(nil), l...)': a row of our own -/
theorem wpList_copy_out {w : World} {ops : Array Oper} {rest : List Oper} {o : Oper} {a : Act} {Q : Exit → Act → World → Prop} (hgd : o.guard = none) (s x : Operand)
    (ho : o.op = .call { callee := .builtin .append, args := #[s, x], argTypes := #[39, 39] }) (hs : a.eval s = .slice none 0 0) (v : Value) (zs : List Int) (hx : a.eval x = v) (hseg : Seg w .i64 v zs) (hl : zs.length ≤ 1000)
    (h : ∀ v' w', Out w' w.heap.size v' zs → Below w.heap.size w w' → wpList Try.prog ops Q rest (a.put o.dst v') w') : wpList Try.prog ops Q (o :: rest) a w := by
  obtain ⟨i3, hi3, hz3⟩ : ∃ i, Try.prog.info? 3 = some i ∧ (i.zero, i.size, i.bytes) = (some (Value.int .i64 0), 1, 8) := by
    have h := info3
    cases hi : Try.prog.info? 3 with
    | none => rw [hi] at h; simp at h
    | some i => rw [hi] at h; exact ⟨i, rfl, by simpa using h⟩
  simp only [Prod.mk.injEq] at hz3
  obtain ⟨z1, z2, z3⟩ := hz3
  rcases hseg with ⟨rfl, rfl | ⟨ad, cap, rfl⟩⟩ | ⟨h0, h1, b, off, cap, rfl, hlt, hc⟩
  · exact wpList_append_own_none hgd s x 39 ho w.heap.size 3 i3 1 Try.underlying39 hi3 (.slice none 0 0) 0 [] hs (World.ownsRow_nil _ _ _ _) hx (h _ _ (.inl ⟨rfl, rfl⟩) (Below.refl _ _))
  · refine wpList_append_own w hgd s x 39 ho w.heap.size 3 i3 (.int .i64 0) 1 8 Try.underlying39 hi3 z1 z2 z3 rfl (by omega) (.slice none 0 0) 0 [] hs (World.ownsRow_nil _ _ _ _) ad 0 cap [] hx rfl (by simp) (by simp) (by simp) (by simp) (Nat.le_refl _) ?_
    intro v' w' hown hg _
    exact h v' w' (out_of_owns (xs := []) (by simpa using hown)) ((Below.refl _ _).grown hg (Nat.le_refl _) (by simp [Value.ownBlock]))
  · refine wpList_append_own w hgd s x 39 ho w.heap.size 3 i3 (.int .i64 0) 1 8 Try.underlying39 hi3 z1 z2 z3 rfl (by omega) (.slice none 0 0) 0 [] hs (World.ownsRow_nil _ _ _ _) ⟨b, off, none⟩ zs.length cap (zs.map (Value.int .i64)) hx (by simp) ?_ (by simp [Value.oneCell']) (by unfold maxLen; simp; omega) (by simp; omega) (Nat.le_refl _) ?_
    · intro j u hj
      rw [List.getElem?_map] at hj
      cases hz : zs[j]? with
      | none => rw [hz] at hj; simp at hj
      | some z =>
        rw [hz] at hj
        simp at hj
        subst hj
        rw [WideShapes.add_plain]
        exact hc j z hz
    · intro v' w' hown hg _
      exact h v' w' (out_of_owns (by simpa using hown)) ((Below.refl _ _).grown hg (Nat.le_refl _) (by simp [Value.ownBlock]))
theorem sel_same {b b' : Bool} {c d : Int} (h : b = b') : sel b c d = sel b' c d := by rw [h]
theorem sel_true {b : Bool} {c d : Int} (h : b = true) : sel b c d = c := by rw [h]; rfl
theorem sel_false {b : Bool} {c d : Int} (h : b = false) : sel b c d = d := by rw [h]; rfl
theorem any_snoc {α : Type} {f : α → Bool} {zs : List α} {k : Nat} {z : α} (h1 : zs[k]? = some z) : (zs.take (k + 1)).any f = ((zs.take k).any f || f z) := by
  rw [List.take_add_one, h1, List.any_append]
  simp
def R1 (xs : List Int) (n i : Value) : Prop := ∃ k : Nat, k ≤ xs.length ∧ i = .int .i64 k ∧ n = .int .i64 (sel ((xs.take k).any fun z => !vB z) 3 0)
def R2 (f : Int) (scs : List Int) (N1 : Int) (n i : Value) : Prop := ∃ k : Nat, k ≤ scs.length ∧ i = .int .i64 k ∧ n = .int .i64 (sel (!fB f || (scs.take k).any fun s => !sB s) 3 N1)
def R3 (w3 : World) (b : Bool) (nx : Nat) (xs : List Int) (rows : List (List Int)) (N2 : Int) (v3 n i : Value) (wr : World) : Prop := ∃ k : Nat, k ≤ rows.length ∧ i = .int .i64 k ∧ n = .int .i64 (sel (b || (rows.take k).any (badR nx)) 2 N2) ∧ Out wr w3.heap.size v3 xs ∧ Below w3.heap.size w3 wr
def R4 (w3 : World) (f : Int) (xs : List Int) (rows : List (List Int)) (scs : List Int) (v3 i : Value) (wr : World) : Prop := ∃ k : Nat, k ≤ rows.length ∧ i = .int .i64 k ∧ Out wr w3.heap.size v3 (plK f xs rows scs k) ∧ Below w3.heap.size w3 wr
theorem rg6_35 {P : Program} {B n : Nat} {w0 : World} {L : List (Nat × Nat × Value)} {E F : World → Prop} {id : Nat} {Q : Exit → Act → World → Prop} {a : Act} {w : World} {o0 o1 o2 o3 o4 o5 o6 o7 o8 o9 o10 o11 o12 o13 o14 o15 o16 : Oper} (hm : P.follows .mixedOrders = true)
    (hB : (Region.noSelect [o0, o1, o2, o3, o4, o5, o6, o7, o8, o9, o10, o11, o12, o13, o14, o15, o16].toArray && Scr.ok .any [o0, o1, o2, o3, o4, o5, o6, o7, o8, o9, o10, o11, o12, o13, o14, o15, o16].toArray [2, 4, 7, 9, 14] [0, 1, 3, 5, 6, 8, 10, 11, 12, 13, 16] (.free 0 (.free 1 (.free 5 (.free 6 (.free 10 (.free 11 (.free 12 (.free 13 (.read 2 (.free 3 (.read 4 (.read 7 (.free 8 (.read 9 (.read 14 (.altc 15 (.free 16 .done) .stop)))))))))))))))) true true [o0, o1, o2, o3, o4, o5, o6, o7, o8, o9, o10, o11, o12, o13, o14, o15, o16].toArray.size (Array.replicate [o0, o1, o2, o3, o4, o5, o6, o7, o8, o9, o10, o11, o12, o13, o14, o15, o16].toArray.size false)) = true)
    (k : Kept B w0 n L w) (he : E w) (hE : ∀ W W', E W → Below W.heap.size W W' → E W') (hf : F w) (hF : ∀ W W', F W → Below W.heap.size W W' → F W')
    (h : ∀ wk, Kept B w0 n L wk → E wk → F wk → wpQuiet P [o0, o1, o2, o3, o4, o5, o6, o7, o8, o9, o10, o11, o12, o13, o14, o15, o16].toArray (fun _ => True) (fun a0 => wpQuiet P [o0, o1, o2, o3, o4, o5, o6, o7, o8, o9, o10, o11, o12, o13, o14, o15, o16].toArray (fun w' => ∃ s : KX B w0 n L E, w' = s.val) (fun a1 => wpQuiet P [o0, o1, o2, o3, o4, o5, o6, o7, o8, o9, o10, o11, o12, o13, o14, o15, o16].toArray (fun _ => True) (fun a2 => wpQuiet P [o0, o1, o2, o3, o4, o5, o6, o7, o8, o9, o10, o11, o12, o13, o14, o15, o16].toArray (fun w' => ∃ s : KX B w0 n L E, w' = s.val) (fun a3 => wpQuiet P [o0, o1, o2, o3, o4, o5, o6, o7, o8, o9, o10, o11, o12, o13, o14, o15, o16].toArray (fun _ => True) (fun a4 => wpQuiet P [o0, o1, o2, o3, o4, o5, o6, o7, o8, o9, o10, o11, o12, o13, o14, o15, o16].toArray (fun w' => ∃ s : KX B w0 n L E, w' = s.val) (fun a5 => ((∀ K6 : Act → World → Prop, (∀ a6 w6, wpQuiet P [o0, o1, o2, o3, o4, o5, o6, o7, o8, o9, o10, o11, o12, o13, o14, o15, o16].toArray (fun _ => True) (fun a7 => Q .normal a7 w6) [o16] a6 → K6 a6 w6) → wpList P [o0, o1, o2, o3, o4, o5, o6, o7, o8, o9, o10, o11, o12, o13, o14, o15, o16].toArray (fun e a6 w6 => e = .normal ∧ K6 a6 w6) [o15] a5 wk) ∧ True)) [o9, o14] a4) [o8] a3) [o4, o7] a2) [o3] a1) [o2] a0) [o0, o1, o5, o6, o10, o11, o12, o13] a) : (Code.region id [o0, o1, o2, o3, o4, o5, o6, o7, o8, o9, o10, o11, o12, o13, o14, o15, o16].toArray true).wp P Q a w := by
  have e1 : E w.drew := hE _ _ he ((Below.refl _ _).drew)
  have g := h _ k.drew e1 (hF _ _ hf ((Below.refl _ _).drew))
  exact wp_region_scr (U := (fun w' => ∃ s : KX B w0 n L E, w' = s.val)) (ops := [o0, o1, o2, o3, o4, o5, o6, o7, o8, o9, o10, o11, o12, o13, o14, o15, o16].toArray) (.free 0 (.free 1 (.free 5 (.free 6 (.free 10 (.free 11 (.free 12 (.free 13 (.read 2 (.free 3 (.read 4 (.read 7 (.free 8 (.read 9 (.read 14 (.altc 15 (.free 16 .done) .stop)))))))))))))))) [2, 4, 7, 9, 14] [0, 1, 3, 5, 6, 8, 10, 11, 12, 13, 16] hm hB ⟨⟨_, k.drew, e1⟩, rfl⟩ (Scr.of_free rfl g (fun _ g0 => Scr.of_free rfl g0 (fun _ g1 => Scr.of_free rfl g1 (fun _ g2 => Scr.of_free rfl g2 (fun _ g3 => Scr.of_free rfl g3 (fun _ g4 => Scr.of_free rfl g4 (fun _ g5 => Scr.of_free rfl g5 (fun _ g6 => Scr.of_free rfl g6 (fun _ g7 => Scr.of_read rfl g7 (fun _ g8 => Scr.of_free rfl g8 (fun _ g9 => Scr.of_read rfl g9 (fun _ g10 => Scr.of_read rfl g10 (fun _ g11 => Scr.of_free rfl g11 (fun _ g12 => Scr.of_read rfl g12 (fun _ g13 => Scr.of_read rfl g13 (fun _ g14 => (Scr.of_altc rfl (g14.1 _ (fun _ _ g => g)) (fun _ _ g15 => Scr.of_free rfl g15 (fun _ g16 => g16)) trivial)))))))))))))))))

theorem rg6_36 {P : Program} {B n : Nat} {w0 : World} {L : List (Nat × Nat × Value)} {E F : World → Prop} {id : Nat} {Q : Exit → Act → World → Prop} {a : Act} {w : World} {o0 o1 o2 o3 o4 o5 o6 o7 o8 o9 o10 o11 o12 o13 o14 o15 o16 o17 o18 o19 o20 o21 o22 o23 : Oper} (hm : P.follows .mixedOrders = true)
    (hB : (Region.noSelect [o0, o1, o2, o3, o4, o5, o6, o7, o8, o9, o10, o11, o12, o13, o14, o15, o16, o17, o18, o19, o20, o21, o22, o23].toArray && Scr.ok .any [o0, o1, o2, o3, o4, o5, o6, o7, o8, o9, o10, o11, o12, o13, o14, o15, o16, o17, o18, o19, o20, o21, o22, o23].toArray [2, 5, 8, 15, 17] [0, 1, 3, 4, 6, 7, 9, 11, 12, 13, 14, 16, 18, 19, 20, 22] (.free 0 (.free 1 (.free 3 (.free 4 (.free 6 (.free 7 (.free 11 (.free 13 (.free 14 (.free 18 (.read 2 (.read 5 (.read 8 (.free 9 (.read 15 (.free 16 (.read 17 (.free 19 (.alt 10 (.free 12 (.free 20 (.alt 21 (.free 22 (.altc 23 .done .stop)) .stop))) .stop))))))))))))))))))) true true [o0, o1, o2, o3, o4, o5, o6, o7, o8, o9, o10, o11, o12, o13, o14, o15, o16, o17, o18, o19, o20, o21, o22, o23].toArray.size (Array.replicate [o0, o1, o2, o3, o4, o5, o6, o7, o8, o9, o10, o11, o12, o13, o14, o15, o16, o17, o18, o19, o20, o21, o22, o23].toArray.size false)) = true)
    (k : Kept B w0 n L w) (he : E w) (hE : ∀ W W', E W → Below W.heap.size W W' → E W') (hf : F w) (hF : ∀ W W', F W → Below W.heap.size W W' → F W')
    (h : ∀ wk, Kept B w0 n L wk → E wk → F wk → wpQuiet P [o0, o1, o2, o3, o4, o5, o6, o7, o8, o9, o10, o11, o12, o13, o14, o15, o16, o17, o18, o19, o20, o21, o22, o23].toArray (fun _ => True) (fun a0 => wpQuiet P [o0, o1, o2, o3, o4, o5, o6, o7, o8, o9, o10, o11, o12, o13, o14, o15, o16, o17, o18, o19, o20, o21, o22, o23].toArray (fun w' => ∃ s : KX B w0 n L E, w' = s.val) (fun a1 => wpQuiet P [o0, o1, o2, o3, o4, o5, o6, o7, o8, o9, o10, o11, o12, o13, o14, o15, o16, o17, o18, o19, o20, o21, o22, o23].toArray (fun _ => True) (fun a2 => wpQuiet P [o0, o1, o2, o3, o4, o5, o6, o7, o8, o9, o10, o11, o12, o13, o14, o15, o16, o17, o18, o19, o20, o21, o22, o23].toArray (fun w' => ∃ s : KX B w0 n L E, w' = s.val) (fun a3 => wpQuiet P [o0, o1, o2, o3, o4, o5, o6, o7, o8, o9, o10, o11, o12, o13, o14, o15, o16, o17, o18, o19, o20, o21, o22, o23].toArray (fun _ => True) (fun a4 => wpQuiet P [o0, o1, o2, o3, o4, o5, o6, o7, o8, o9, o10, o11, o12, o13, o14, o15, o16, o17, o18, o19, o20, o21, o22, o23].toArray (fun w' => ∃ s : KX B w0 n L E, w' = s.val) (fun a5 => wpQuiet P [o0, o1, o2, o3, o4, o5, o6, o7, o8, o9, o10, o11, o12, o13, o14, o15, o16, o17, o18, o19, o20, o21, o22, o23].toArray (fun _ => True) (fun a6 => ((∀ K7 : Act → World → Prop, (∀ a7 w7, wpQuiet P [o0, o1, o2, o3, o4, o5, o6, o7, o8, o9, o10, o11, o12, o13, o14, o15, o16, o17, o18, o19, o20, o21, o22, o23].toArray (fun _ => True) (fun a8 => ((∀ K9 : Act → World → Prop, (∀ a9 w9, wpQuiet P [o0, o1, o2, o3, o4, o5, o6, o7, o8, o9, o10, o11, o12, o13, o14, o15, o16, o17, o18, o19, o20, o21, o22, o23].toArray (fun _ => True) (fun a10 => ((∀ K11 : Act → World → Prop, (∀ a11 w11, Q .normal a11 w11 → K11 a11 w11) → wpList P [o0, o1, o2, o3, o4, o5, o6, o7, o8, o9, o10, o11, o12, o13, o14, o15, o16, o17, o18, o19, o20, o21, o22, o23].toArray (fun e a11 w11 => e = .normal ∧ K11 a11 w11) [o23] a10 w9) ∧ True)) [o22] a9 → K9 a9 w9) → wpList P [o0, o1, o2, o3, o4, o5, o6, o7, o8, o9, o10, o11, o12, o13, o14, o15, o16, o17, o18, o19, o20, o21, o22, o23].toArray (fun e a9 w9 => e = .normal ∧ (∃ s : KX B w0 n L E, w9 = s.val) ∧ K9 a9 w9) [o21] a8 w7) ∧ True)) [o12, o20] a7 → K7 a7 w7) → wpList P [o0, o1, o2, o3, o4, o5, o6, o7, o8, o9, o10, o11, o12, o13, o14, o15, o16, o17, o18, o19, o20, o21, o22, o23].toArray (fun e a7 w7 => e = .normal ∧ (∃ s : KX B w0 n L E, w7 = s.val) ∧ K7 a7 w7) [o10] a6 wk) ∧ True)) [o19] a5) [o17] a4) [o16] a3) [o15] a2) [o9] a1) [o2, o5, o8] a0) [o0, o1, o3, o4, o6, o7, o11, o13, o14, o18] a) : (Code.region id [o0, o1, o2, o3, o4, o5, o6, o7, o8, o9, o10, o11, o12, o13, o14, o15, o16, o17, o18, o19, o20, o21, o22, o23].toArray true).wp P Q a w := by
  have e1 : E w.drew := hE _ _ he ((Below.refl _ _).drew)
  have g := h _ k.drew e1 (hF _ _ hf ((Below.refl _ _).drew))
  exact wp_region_scr (U := (fun w' => ∃ s : KX B w0 n L E, w' = s.val)) (ops := [o0, o1, o2, o3, o4, o5, o6, o7, o8, o9, o10, o11, o12, o13, o14, o15, o16, o17, o18, o19, o20, o21, o22, o23].toArray) (.free 0 (.free 1 (.free 3 (.free 4 (.free 6 (.free 7 (.free 11 (.free 13 (.free 14 (.free 18 (.read 2 (.read 5 (.read 8 (.free 9 (.read 15 (.free 16 (.read 17 (.free 19 (.alt 10 (.free 12 (.free 20 (.alt 21 (.free 22 (.altc 23 .done .stop)) .stop))) .stop))))))))))))))))))) [2, 5, 8, 15, 17] [0, 1, 3, 4, 6, 7, 9, 11, 12, 13, 14, 16, 18, 19, 20, 22] hm hB ⟨⟨_, k.drew, e1⟩, rfl⟩ (Scr.of_free rfl g (fun _ g0 => Scr.of_free rfl g0 (fun _ g1 => Scr.of_free rfl g1 (fun _ g2 => Scr.of_free rfl g2 (fun _ g3 => Scr.of_free rfl g3 (fun _ g4 => Scr.of_free rfl g4 (fun _ g5 => Scr.of_free rfl g5 (fun _ g6 => Scr.of_free rfl g6 (fun _ g7 => Scr.of_free rfl g7 (fun _ g8 => Scr.of_free rfl g8 (fun _ g9 => Scr.of_read rfl g9 (fun _ g10 => Scr.of_read rfl g10 (fun _ g11 => Scr.of_read rfl g11 (fun _ g12 => Scr.of_free rfl g12 (fun _ g13 => Scr.of_read rfl g13 (fun _ g14 => Scr.of_free rfl g14 (fun _ g15 => Scr.of_read rfl g15 (fun _ g16 => Scr.of_free rfl g16 (fun _ g17 => (Scr.of_alt rfl (g17.1 _ (fun _ _ g => g)) (fun _ _ g18 => Scr.of_free rfl g18 (fun _ g19 => Scr.of_free rfl g19 (fun _ g20 => (Scr.of_alt rfl (g20.1 _ (fun _ _ g => g)) (fun _ _ g21 => Scr.of_free rfl g21 (fun _ g22 => (Scr.of_altc rfl (g22.1 _ (fun _ _ g => g)) (fun _ _ g23 => g23) trivial))) trivial)))) trivial))))))))))))))))))))

end Go.Proofs.Ytnabpcgpheakfaa
