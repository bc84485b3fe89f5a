/- slices.Index at booleans; a window accepts a number. -/
import Derived.Test.YthibagfmglnejaaRd
namespace Go.Proofs.Ythibagfmglnejaa
open Go.RowKit Plain
set_option linter.unusedVariables false
set_option linter.unusedSimpArgs false

def AllT (l : List Bool) (k : Nat) : Prop := ∀ j, j < k → l[j]? = some true
theorem AllT.succ {l : List Bool} {k : Nat} (h : AllT l k) (hk : l[k]? = some true) : AllT l (k + 1) := fun j hj => by
  rcases Nat.lt_or_ge j k with h1 | h1
  · exact h j h1
  · have : j = k := by omega
    subst this
    exact hk
/-- the index of the first false -/
def idxF (l : List Bool) : Int := if gone l < l.length then (gone l : Int) else -1
set_option maxRecDepth 100000 in
set_option maxHeartbeats 2000000 in
theorem index27 (D : Nat) (l : List Bool) (cap : Nat) (ex : List Value) (w : World) (hd : DAt w D l ex) (hl1 : 1 ≤ l.length) (hl2 : l.length ≤ 1024) : Calls Try.prog 27 #[.slice (some ⟨D, 0, none⟩) l.length cap, .bool false] w fun e w' => e = .returned (.int .i64 (idxF l)) ∧ w = w' := by
  have HD := Lib.hid hd
  clear hd
  go_enter Try.func27, Try.ntmps27
  go_wp2_with fail
  go_loop [8] (fun i => ∃ k : Nat, k ≤ l.length ∧ i = .int .i64 k ∧ AllT l k) (fun i => l.length - (intOf i).toNat)
  case atStart => exact ⟨0, Nat.zero_le _, rfl, fun j hj => absurd hj (by omega)⟩
  case round =>
    obtain ⟨k, hk, rfl, ha⟩ := hrel
    by_cases hlt : k < l.length
    · obtain ⟨b, hb⟩ : ∃ b, l[k]? = some b := ⟨l[k], List.getElem?_eq_getElem hlt⟩
      have hcell := HD.out.cell hb
      have i1 : (0 : Int) ≤ (k : Int) := by omega
      have i2 : (k : Int) < (l.length : Int) := by omega
      cases b with
      | false =>
        have e1 : Hid (idxF l = (k : Int)) := Lib.hid (by unfold idxF; rw [gone_eq l k ha hb, if_pos hlt])
        clear hb
        go_wp2_with fail
        go_returns
        exact ⟨ret_int e1.out.symm, rfl⟩
      | true =>
        have ha2 := ha.succ hb
        clear hb
        go_wp2_with fail
        go_round
        case rel => exact ⟨k + 1, by omega, by go_num, ha2⟩
        case measure => simp [intOf]; omega
    · have hk2 : k = l.length := by omega
      have e1 : Hid (idxF l = -1) := Lib.hid (by unfold idxF; rw [gone_all l (hk2 ▸ ha), if_neg (by omega)])
      clear hk2
      go_wp2_with fail
      go_returns
      exact ⟨ret_int e1.out.symm, rfl⟩
theorem index27c (D : Nat) (l : List Bool) (cap : Nat) (ex : List Value) (v : Int) (w : World) (hd : DAt w D l ex) (hl1 : 1 ≤ l.length) (hl2 : l.length ≤ 1024) (hv : idxF l = v) : Calls Try.prog 27 #[.slice (some ⟨D, 0, none⟩) l.length cap, .bool false] w fun e w' => e = .returned (.int .i64 v) ∧ w = w' := by
  subst hv
  exact index27 D l cap ex w hd hl1 hl2

theorem DAt.set {W : World} {D : Nat} {l : List Bool} {ex : List Value} (h : DAt W D l ex) (i : Nat) (b : Bool) (hi : i < l.length) : DAt (W.setCell ⟨D, i, none⟩ (.bool b)) D (l.set i b) ex := by
  unfold DAt
  rw [heap_setCell_same W D i _ 4 _ h]
  congr 3
  simp [List.set_append, hi]
theorem heap_setCells (D : Nat) (t : TypeId) : ∀ (vs : List Value) (o : Nat) (X : List Value) (W : World), W.heap[D]? = some (.cells X.toArray t (0, 0)) → o + vs.length ≤ X.length → (W.setCells D o vs).heap[D]? = some (.cells (X.take o ++ (vs ++ X.drop (o + vs.length))).toArray t (0, 0))
  | [], o, X, W, h, _ => by simpa [World.setCells] using h
  | v :: r, o, X, W, h, hl => by
    simp only [List.length_cons] at hl
    have h1 : (W.setCell ⟨D, o, none⟩ v).heap[D]? = some (.cells (X.set o v).toArray t (0, 0)) := by
      rw [heap_setCell_same W D o _ t v h]
      simp
    have h2 := heap_setCells D t r (o + 1) (X.set o v) _ h1 (by simp; omega)
    rw [World.setCells, h2]
    congr 3
    rw [List.take_set, List.drop_set_of_lt (by omega)]
    have h3 : (X.take (o + 1)).set o v = X.take o ++ [v] := by
      rw [List.take_succ_eq_append_getElem (by omega), List.set_append_right _ _ (by simp; omega)]
      have h4 : o - (X.take o).length = 0 := by simp; omega
      rw [h4]
      rfl
    rw [h3]
    simp [Nat.add_assoc, Nat.add_comm 1]

theorem rg17_5 {P : Program} {B n : Nat} {w0 : World} {L : List (Nat × Nat × Value)} {E F : World → Prop} {id : Nat} {Q : Exit → Act → World → Prop} {a : Act} {w : World} {o0 o1 o2 o3 o4 o5 o6 o7 o8 o9 o10 o11 o12 : Oper} (hm : P.follows .mixedOrders = true)
    (hB : (Region.noSelect [o0, o1, o2, o3, o4, o5, o6, o7, o8, o9, o10, o11, o12].toArray && Scr.ok .any [o0, o1, o2, o3, o4, o5, o6, o7, o8, o9, o10, o11, o12].toArray [3, 9] [0, 1, 2, 4, 6, 7, 8, 10, 11, 12] (.free 0 (.free 1 (.free 2 (.free 4 (.free 6 (.free 7 (.free 8 (.read 3 (.read 9 (.free 10 (.alt 5 (.free 11 (.free 12 .done)) .stop))))))))))) true true [o0, o1, o2, o3, o4, o5, o6, o7, o8, o9, o10, o11, o12].toArray.size (Array.replicate [o0, o1, o2, o3, o4, o5, o6, o7, o8, o9, o10, o11, o12].toArray.size false)) = true)
    (k : Kept B w0 n L w) (he : E w) (hE : ∀ W W', E W → Below W.heap.size W W' → E W') (hf : F w) (hF : ∀ W W', F W → Below W.heap.size W W' → F W')
    (h : ∀ wk, Kept B w0 n L wk → E wk → F wk → wpQuiet P [o0, o1, o2, o3, o4, o5, o6, o7, o8, o9, o10, o11, o12].toArray (fun _ => True) (fun a0 => wpQuiet P [o0, o1, o2, o3, o4, o5, o6, o7, o8, o9, o10, o11, o12].toArray (fun w' => ∃ s : KX B w0 n L E, w' = s.val) (fun a1 => wpQuiet P [o0, o1, o2, o3, o4, o5, o6, o7, o8, o9, o10, o11, o12].toArray (fun _ => True) (fun a2 => ((∀ K3 : Act → World → Prop, (∀ a3 w3, wpQuiet P [o0, o1, o2, o3, o4, o5, o6, o7, o8, o9, o10, o11, o12].toArray (fun _ => True) (fun a4 => Q .normal a4 w3) [o11, o12] a3 → K3 a3 w3) → wpList P [o0, o1, o2, o3, o4, o5, o6, o7, o8, o9, o10, o11, o12].toArray (fun e a3 w3 => e = .normal ∧ (∃ s : KX B w0 n L E, w3 = s.val) ∧ K3 a3 w3) [o5] a2 wk) ∧ True)) [o10] a1) [o3, o9] a0) [o0, o1, o2, o4, o6, o7, o8] a) : (Code.region id [o0, o1, o2, o3, o4, o5, o6, o7, o8, o9, o10, o11, o12].toArray true).wp P Q a w := by
  have e1 : E w.drew := hE _ _ he ((Below.refl _ _).drew)
  have g := h _ k.drew e1 (hF _ _ hf ((Below.refl _ _).drew))
  exact wp_region_scr (U := (fun w' => ∃ s : KX B w0 n L E, w' = s.val)) (ops := [o0, o1, o2, o3, o4, o5, o6, o7, o8, o9, o10, o11, o12].toArray) (.free 0 (.free 1 (.free 2 (.free 4 (.free 6 (.free 7 (.free 8 (.read 3 (.read 9 (.free 10 (.alt 5 (.free 11 (.free 12 .done)) .stop))))))))))) [3, 9] [0, 1, 2, 4, 6, 7, 8, 10, 11, 12] hm hB ⟨⟨_, k.drew, e1⟩, rfl⟩ (Scr.of_free rfl g (fun _ g0 => Scr.of_free rfl g0 (fun _ g1 => Scr.of_free rfl g1 (fun _ g2 => Scr.of_free rfl g2 (fun _ g3 => Scr.of_free rfl g3 (fun _ g4 => Scr.of_free rfl g4 (fun _ g5 => Scr.of_free rfl g5 (fun _ g6 => Scr.of_read rfl g6 (fun _ g7 => Scr.of_read rfl g7 (fun _ g8 => Scr.of_free rfl g8 (fun _ g9 => (Scr.of_alt rfl (g9.1 _ (fun _ _ g => g)) (fun _ _ g10 => Scr.of_free rfl g10 (fun _ g11 => Scr.of_free rfl g11 (fun _ g12 => g12))) trivial))))))))))))

theorem rg17_7 {P : Program} {B n : Nat} {w0 : World} {L : List (Nat × Nat × Value)} {E F : World → Prop} {id : Nat} {Q : Exit → Act → World → Prop} {a : Act} {w : World} {o0 o1 o2 o3 o4 o5 o6 o7 o8 o9 o10 o11 : Oper} (hm : P.follows .mixedOrders = true)
    (hB : (Region.noSelect [o0, o1, o2, o3, o4, o5, o6, o7, o8, o9, o10, o11].toArray && Scr.ok .any [o0, o1, o2, o3, o4, o5, o6, o7, o8, o9, o10, o11].toArray [3, 7] [0, 1, 2, 4, 5, 6, 8, 10] (.free 0 (.free 1 (.free 2 (.free 4 (.free 5 (.free 6 (.free 8 (.read 3 (.read 7 (.alt 9 (.free 10 (.altc 11 .done .stop)) .stop)))))))))) true true [o0, o1, o2, o3, o4, o5, o6, o7, o8, o9, o10, o11].toArray.size (Array.replicate [o0, o1, o2, o3, o4, o5, o6, o7, o8, o9, o10, o11].toArray.size false)) = true)
    (k : Kept B w0 n L w) (he : E w) (hE : ∀ W W', E W → Below W.heap.size W W' → E W') (hf : F w) (hF : ∀ W W', F W → Below W.heap.size W W' → F W')
    (h : ∀ wk, Kept B w0 n L wk → E wk → F wk → wpQuiet P [o0, o1, o2, o3, o4, o5, o6, o7, o8, o9, o10, o11].toArray (fun _ => True) (fun a0 => wpQuiet P [o0, o1, o2, o3, o4, o5, o6, o7, o8, o9, o10, o11].toArray (fun w' => ∃ s : KX B w0 n L E, w' = s.val) (fun a1 => ((∀ K2 : Act → World → Prop, (∀ a2 w2, wpQuiet P [o0, o1, o2, o3, o4, o5, o6, o7, o8, o9, o10, o11].toArray (fun _ => True) (fun a3 => ((∀ K4 : Act → World → Prop, (∀ a4 w4, Q .normal a4 w4 → K4 a4 w4) → wpList P [o0, o1, o2, o3, o4, o5, o6, o7, o8, o9, o10, o11].toArray (fun e a4 w4 => e = .normal ∧ K4 a4 w4) [o11] a3 w2) ∧ True)) [o10] a2 → K2 a2 w2) → wpList P [o0, o1, o2, o3, o4, o5, o6, o7, o8, o9, o10, o11].toArray (fun e a2 w2 => e = .normal ∧ (∃ s : KX B w0 n L E, w2 = s.val) ∧ K2 a2 w2) [o9] a1 wk) ∧ True)) [o3, o7] a0) [o0, o1, o2, o4, o5, o6, o8] a) : (Code.region id [o0, o1, o2, o3, o4, o5, o6, o7, o8, o9, o10, o11].toArray true).wp P Q a w := by
  have e1 : E w.drew := hE _ _ he ((Below.refl _ _).drew)
  have g := h _ k.drew e1 (hF _ _ hf ((Below.refl _ _).drew))
  exact wp_region_scr (U := (fun w' => ∃ s : KX B w0 n L E, w' = s.val)) (ops := [o0, o1, o2, o3, o4, o5, o6, o7, o8, o9, o10, o11].toArray) (.free 0 (.free 1 (.free 2 (.free 4 (.free 5 (.free 6 (.free 8 (.read 3 (.read 7 (.alt 9 (.free 10 (.altc 11 .done .stop)) .stop)))))))))) [3, 7] [0, 1, 2, 4, 5, 6, 8, 10] hm hB ⟨⟨_, k.drew, e1⟩, rfl⟩ (Scr.of_free rfl g (fun _ g0 => Scr.of_free rfl g0 (fun _ g1 => Scr.of_free rfl g1 (fun _ g2 => Scr.of_free rfl g2 (fun _ g3 => Scr.of_free rfl g3 (fun _ g4 => Scr.of_free rfl g4 (fun _ g5 => Scr.of_free rfl g5 (fun _ g6 => Scr.of_read rfl g6 (fun _ g7 => Scr.of_read rfl g7 (fun _ g8 => (Scr.of_alt rfl (g8.1 _ (fun _ _ g => g)) (fun _ _ g9 => Scr.of_free rfl g9 (fun _ g10 => (Scr.of_altc rfl (g10.1 _ (fun _ _ g => g)) (fun _ _ g11 => g11) trivial))) trivial)))))))))))

theorem rg17_12 {P : Program} {B n : Nat} {w0 : World} {L : List (Nat × Nat × Value)} {E F : World → Prop} {id : Nat} {Q : Exit → Act → World → Prop} {a : Act} {w : World} {o0 o1 o2 o3 o4 o5 o6 o7 o8 o9 o10 : Oper} (hm : P.follows .mixedOrders = true)
    (hB : (Region.noSelect [o0, o1, o2, o3, o4, o5, o6, o7, o8, o9, o10].toArray && Scr.ok .any [o0, o1, o2, o3, o4, o5, o6, o7, o8, o9, o10].toArray [3, 7] [0, 1, 2, 4, 5, 6, 8, 9] (.free 0 (.free 1 (.free 2 (.free 4 (.free 5 (.free 6 (.free 8 (.read 3 (.read 7 (.free 9 (.altc 10 .done .stop))))))))))) true true [o0, o1, o2, o3, o4, o5, o6, o7, o8, o9, o10].toArray.size (Array.replicate [o0, o1, o2, o3, o4, o5, o6, o7, o8, o9, o10].toArray.size false)) = true)
    (k : Kept B w0 n L w) (he : E w) (hE : ∀ W W', E W → Below W.heap.size W W' → E W') (hf : F w) (hF : ∀ W W', F W → Below W.heap.size W W' → F W')
    (h : ∀ wk, Kept B w0 n L wk → E wk → F wk → wpQuiet P [o0, o1, o2, o3, o4, o5, o6, o7, o8, o9, o10].toArray (fun _ => True) (fun a0 => wpQuiet P [o0, o1, o2, o3, o4, o5, o6, o7, o8, o9, o10].toArray (fun w' => ∃ s : KX B w0 n L E, w' = s.val) (fun a1 => wpQuiet P [o0, o1, o2, o3, o4, o5, o6, o7, o8, o9, o10].toArray (fun _ => True) (fun a2 => ((∀ K3 : Act → World → Prop, (∀ a3 w3, Q .normal a3 w3 → K3 a3 w3) → wpList P [o0, o1, o2, o3, o4, o5, o6, o7, o8, o9, o10].toArray (fun e a3 w3 => e = .normal ∧ K3 a3 w3) [o10] a2 wk) ∧ True)) [o9] a1) [o3, o7] a0) [o0, o1, o2, o4, o5, o6, o8] a) : (Code.region id [o0, o1, o2, o3, o4, o5, o6, o7, o8, o9, o10].toArray true).wp P Q a w := by
  have e1 : E w.drew := hE _ _ he ((Below.refl _ _).drew)
  have g := h _ k.drew e1 (hF _ _ hf ((Below.refl _ _).drew))
  exact wp_region_scr (U := (fun w' => ∃ s : KX B w0 n L E, w' = s.val)) (ops := [o0, o1, o2, o3, o4, o5, o6, o7, o8, o9, o10].toArray) (.free 0 (.free 1 (.free 2 (.free 4 (.free 5 (.free 6 (.free 8 (.read 3 (.read 7 (.free 9 (.altc 10 .done .stop))))))))))) [3, 7] [0, 1, 2, 4, 5, 6, 8, 9] hm hB ⟨⟨_, k.drew, e1⟩, rfl⟩ (Scr.of_free rfl g (fun _ g0 => Scr.of_free rfl g0 (fun _ g1 => Scr.of_free rfl g1 (fun _ g2 => Scr.of_free rfl g2 (fun _ g3 => Scr.of_free rfl g3 (fun _ g4 => Scr.of_free rfl g4 (fun _ g5 => Scr.of_free rfl g5 (fun _ g6 => Scr.of_read rfl g6 (fun _ g7 => Scr.of_read rfl g7 (fun _ g8 => Scr.of_free rfl g8 (fun _ g9 => (Scr.of_altc rfl (g9.1 _ (fun _ _ g => g)) (fun _ _ g10 => g10) trivial))))))))))))

theorem rg17_13 {P : Program} {B n : Nat} {w0 : World} {L : List (Nat × Nat × Value)} {E F : World → Prop} {id : Nat} {Q : Exit → Act → World → Prop} {a : Act} {w : World} {o0 o1 o2 o3 o4 o5 o6 o7 o8 o9 o10 o11 o12 : Oper} (hm : P.follows .mixedOrders = true)
    (hB : (Region.noSelect [o0, o1, o2, o3, o4, o5, o6, o7, o8, o9, o10, o11, o12].toArray && Scr.ok .any [o0, o1, o2, o3, o4, o5, o6, o7, o8, o9, o10, o11, o12].toArray [3, 7] [0, 1, 2, 4, 5, 6, 8, 9, 10, 11] (.free 0 (.free 1 (.free 2 (.free 4 (.free 5 (.free 6 (.free 9 (.read 3 (.read 7 (.free 8 (.free 10 (.free 11 (.altc 12 .done .stop))))))))))))) true true [o0, o1, o2, o3, o4, o5, o6, o7, o8, o9, o10, o11, o12].toArray.size (Array.replicate [o0, o1, o2, o3, o4, o5, o6, o7, o8, o9, o10, o11, o12].toArray.size false)) = true)
    (k : Kept B w0 n L w) (he : E w) (hE : ∀ W W', E W → Below W.heap.size W W' → E W') (hf : F w) (hF : ∀ W W', F W → Below W.heap.size W W' → F W')
    (h : ∀ wk, Kept B w0 n L wk → E wk → F wk → wpQuiet P [o0, o1, o2, o3, o4, o5, o6, o7, o8, o9, o10, o11, o12].toArray (fun _ => True) (fun a0 => wpQuiet P [o0, o1, o2, o3, o4, o5, o6, o7, o8, o9, o10, o11, o12].toArray (fun w' => ∃ s : KX B w0 n L E, w' = s.val) (fun a1 => wpQuiet P [o0, o1, o2, o3, o4, o5, o6, o7, o8, o9, o10, o11, o12].toArray (fun _ => True) (fun a2 => ((∀ K3 : Act → World → Prop, (∀ a3 w3, Q .normal a3 w3 → K3 a3 w3) → wpList P [o0, o1, o2, o3, o4, o5, o6, o7, o8, o9, o10, o11, o12].toArray (fun e a3 w3 => e = .normal ∧ K3 a3 w3) [o12] a2 wk) ∧ True)) [o8, o10, o11] a1) [o3, o7] a0) [o0, o1, o2, o4, o5, o6, o9] a) : (Code.region id [o0, o1, o2, o3, o4, o5, o6, o7, o8, o9, o10, o11, o12].toArray true).wp P Q a w := by
  have e1 : E w.drew := hE _ _ he ((Below.refl _ _).drew)
  have g := h _ k.drew e1 (hF _ _ hf ((Below.refl _ _).drew))
  exact wp_region_scr (U := (fun w' => ∃ s : KX B w0 n L E, w' = s.val)) (ops := [o0, o1, o2, o3, o4, o5, o6, o7, o8, o9, o10, o11, o12].toArray) (.free 0 (.free 1 (.free 2 (.free 4 (.free 5 (.free 6 (.free 9 (.read 3 (.read 7 (.free 8 (.free 10 (.free 11 (.altc 12 .done .stop))))))))))))) [3, 7] [0, 1, 2, 4, 5, 6, 8, 9, 10, 11] hm hB ⟨⟨_, k.drew, e1⟩, rfl⟩ (Scr.of_free rfl g (fun _ g0 => Scr.of_free rfl g0 (fun _ g1 => Scr.of_free rfl g1 (fun _ g2 => Scr.of_free rfl g2 (fun _ g3 => Scr.of_free rfl g3 (fun _ g4 => Scr.of_free rfl g4 (fun _ g5 => Scr.of_free rfl g5 (fun _ g6 => Scr.of_read rfl g6 (fun _ g7 => Scr.of_read rfl g7 (fun _ g8 => Scr.of_free rfl g8 (fun _ g9 => Scr.of_free rfl g9 (fun _ g10 => Scr.of_free rfl g10 (fun _ g11 => (Scr.of_altc rfl (g11.1 _ (fun _ _ g => g)) (fun _ _ g12 => g12) trivial))))))))))))))

set_option maxRecDepth 100000 in
set_option maxHeartbeats 2000000 in
theorem accept17_stale (P D : Nat) (f : Int) (l : List Bool) (cap : Nat) (ex : List Value) (w : World) (hw : WinAt w P D f l cap ex) (n : Int) (d : Nat) (hn : U16 n) (HD : Hid (dist f n = (d : Int))) (HV : Hid (hasN l d = true)) : Calls Try.prog 17 #[.pointer (some ⟨P, 0, none⟩), .int .u16 n] w fun e w' => e = .returned (.int .i64 13) ∧ Below w.heap.size w w' := by
  have k0 := hw.cell0
  have k1 := hw.cell1
  have hl1 := hw.l1
  have hl2 := hw.l2
  have hf := hw.f0
  have HW := Lib.hid hw
  clear hw
  have fp0 := HW.out.free 0
  have fp1 := HW.out.free 1
  have hlt := HW.out.plt
  have HD0 := Lib.hid HW.out.d
  have HO := Lib.hid (Below.refl w.heap.size w)
  go_enter Try.func17, Try.ntmps17
  go_wp2_with fail
  with_reducible refine (zero26 P D l cap _ k1 hl1).mono ?_
  rintro e w' ⟨rfl, rfl⟩
  go_wp2_with fail
  with_reducible refine (has21c P D f l cap ex _ HW.out n d _ hn HD HV.out).mono ?_
  rintro e w' ⟨rfl, rfl⟩
  go_wp2_with fail
  go_returns
  exact ⟨rfl, by go_grown⟩

set_option maxRecDepth 100000 in
set_option maxHeartbeats 2000000 in
theorem accept17_range (P D : Nat) (f : Int) (l : List Bool) (cap : Nat) (ex : List Value) (w : World) (hw : WinAt w P D f l cap ex) (n : Int) (d : Nat) (hn : U16 n) (HD : Hid (dist f n = (d : Int))) (HV : Hid (hasN l d = false)) (hd : l.length ≤ d) : Calls Try.prog 17 #[.pointer (some ⟨P, 0, none⟩), .int .u16 n] w fun e w' => e = .returned (.int .i64 3) ∧ Below w.heap.size w w' := by
  have k0 := hw.cell0
  have k1 := hw.cell1
  have hl1 := hw.l1
  have hl2 := hw.l2
  have hf := hw.f0
  have HW := Lib.hid hw
  clear hw
  have fp0 := HW.out.free 0
  have fp1 := HW.out.free 1
  have hlt := HW.out.plt
  have HD0 := Lib.hid HW.out.d
  have HO := Lib.hid (Below.refl w.heap.size w)
  have q1 : decide ((l.length : Int) ≤ (d : Int)) = true := by simp; omega
  go_enter Try.func17, Try.ntmps17
  go_wp2_with fail
  with_reducible refine (zero26 P D l cap _ k1 hl1).mono ?_
  rintro e w' ⟨rfl, rfl⟩
  go_wp2_with fail
  with_reducible refine (has21c P D f l cap ex _ HW.out n d _ hn HD HV.out).mono ?_
  rintro e w' ⟨rfl, rfl⟩
  go_wp2_with fail
  refine rg17_5 (w0 := w) (B := w.heap.size) (n := w.heap.size) (L := [(P, 0, .int .u16 f), (P, 1, .slice (some ⟨D, 0, none⟩) l.length cap)]) (E := fun _ => True) (F := fun _ => True) (by kernel_rfl) (by kernel_rfl) ⟨by go_grown, by go_size, (by simp [go_sem, k0, k1, fp0, fp1] <;> omega)⟩ trivial (fun _ _ _ _ => trivial) trivial (fun _ _ _ _ => trivial) (fun w1 K_w1 E_w1 F_w1 => ?_)
  have _ne : Nonempty (KX (w.heap.size) w (w.heap.size) [(P, 0, .int .u16 f), (P, 1, .slice (some ⟨D, 0, none⟩) l.length cap)] (fun _ => True)) := ⟨⟨_, K_w1, E_w1⟩⟩
  repeat (go_big_quiet_step (fail))
  refine wpQuiet_nil ?_
  have rP0 : ∀ s : KX (w.heap.size) w (w.heap.size) [(P, 0, .int .u16 f), (P, 1, .slice (some ⟨D, 0, none⟩) l.length cap)] (fun _ => True), s.val.cell? ⟨P, 0, none⟩ = some (.int .u16 f) := fun s => s.kept.at (by simp)
  have rP1 : ∀ s : KX (w.heap.size) w (w.heap.size) [(P, 0, .int .u16 f), (P, 1, .slice (some ⟨D, 0, none⟩) l.length cap)] (fun _ => True), s.val.cell? ⟨P, 1, none⟩ = some (.slice (some ⟨D, 0, none⟩) l.length cap) := fun s => s.kept.at (by simp)
  repeat (go_big_quiet_step (fail))
  refine wpQuiet_nil ?_
  clear rP0 rP1
  repeat (go_big_quiet_step (fail))
  refine wpQuiet_nil ?_
  have KH_w1 := Lib.hid K_w1
  have hw_w1 := K_w1.below
  have hz_w1 := K_w1.size
  have lP_w1 : P < w1.heap.size := by omega
  clear k0 k1 fp0 fp1
  clear K_w1
  clear E_w1 F_w1
  refine ⟨fun K hK0 => ?_, trivial⟩
  have hK := Lib.hid hK0
  clear hK0
  go_wp2_with fail
  with_reducible refine (dist11c f n d _ hf hn HD.out).mono ?_
  rintro e w' ⟨rfl, rfl⟩
  go_wp2_with fail
  first | (refine ⟨rfl, ⟨⟨_, KH_w1.out, trivial⟩, rfl⟩, hK.out _ _ ?_⟩; clear hK K) | (refine ⟨⟨⟨_, KH_w1.out, trivial⟩, rfl⟩, hK.out _ _ ?_⟩; clear hK K)
  repeat (go_big_quiet_step (fail))
  refine wpQuiet_nil ?_
  clear _ne
  go_wp2_with fail
  go_returns
  exact ⟨rfl, hw_w1⟩

end Go.Proofs.Ythibagfmglnejaa
