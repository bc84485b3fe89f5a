/- A new draft. -/
import Derived.Test.YteocplabibhecaaCp
import Derived.Test.YteocplabibhecaaRr
import Derived.Deep.OwnRows
namespace Go.Proofs.Yteocplabibhecaa
open Go.RowKit Plain
set_option linter.unusedVariables false
set_option linter.unusedSimpArgs false

theorem rg11_4 {P : Program} {B n : Nat} {w0 : World} {L : List (Nat × Nat × Value)} {E F : World → Prop} {id : Nat} {Q : Exit → Act → World → Prop} {a : Act} {w : World} {o0 o1 o2 o3 o4 o5 o6 o7 o8 o9 : Oper} (hm : P.follows .mixedOrders = true)
    (hB : (Region.noSelect [o0, o1, o2, o3, o4, o5, o6, o7, o8, o9].toArray && Scr.ok .any [o0, o1, o2, o3, o4, o5, o6, o7, o8, o9].toArray [] [0, 2, 4, 6, 8, 9] (.free 0 (.free 2 (.free 4 (.altc 1 (.altc 3 (.altc 5 (.free 6 (.altc 7 (.free 8 (.free 9 .done)) .stop)) .stop) (.altc 5 (.altc 3 (.free 6 (.altc 7 (.free 8 (.free 9 .done)) .stop)) .stop) .stop)) (.altc 3 (.altc 1 (.altc 5 (.free 6 (.altc 7 (.free 8 (.free 9 .done)) .stop)) .stop) (.altc 5 (.altc 1 (.free 6 (.altc 7 (.free 8 (.free 9 .done)) .stop)) .stop) .stop)) (.altc 5 (.altc 1 (.altc 3 (.free 6 (.altc 7 (.free 8 (.free 9 .done)) .stop)) .stop) (.altc 3 (.altc 1 (.free 6 (.altc 7 (.free 8 (.free 9 .done)) .stop)) .stop) .stop)) .stop)))))) true true [o0, o1, o2, o3, o4, o5, o6, o7, o8, o9].toArray.size (Array.replicate [o0, o1, o2, o3, o4, o5, o6, o7, o8, o9].toArray.size false)) = true)
    (k : Kept B w0 n L w) (he : E w) (hE : ∀ W W', E W → Below W.heap.size W W' → E W') (hf : F w) (hF : ∀ W W', F W → Below W.heap.size W W' → F W')
    (h : ∀ wk, Kept B w0 n L wk → E wk → F wk → wpQuiet P [o0, o1, o2, o3, o4, o5, o6, o7, o8, o9].toArray (fun _ => True) (fun a0 => ((∀ K1 : Act → World → Prop, (∀ a1 w1, ((∀ K2 : Act → World → Prop, (∀ a2 w2, ((∀ K3 : Act → World → Prop, (∀ a3 w3, wpQuiet P [o0, o1, o2, o3, o4, o5, o6, o7, o8, o9].toArray (fun _ => True) (fun a4 => ((∀ K5 : Act → World → Prop, (∀ a5 w5, wpQuiet P [o0, o1, o2, o3, o4, o5, o6, o7, o8, o9].toArray (fun _ => True) (fun a6 => Q .normal a6 w5) [o8, o9] a5 → K5 a5 w5) → wpList P [o0, o1, o2, o3, o4, o5, o6, o7, o8, o9].toArray (fun e a5 w5 => e = .normal ∧ K5 a5 w5) [o7] a4 w3) ∧ True)) [o6] a3 → K3 a3 w3) → wpList P [o0, o1, o2, o3, o4, o5, o6, o7, o8, o9].toArray (fun e a3 w3 => e = .normal ∧ K3 a3 w3) [o5] a2 w2) ∧ True) → K2 a2 w2) → wpList P [o0, o1, o2, o3, o4, o5, o6, o7, o8, o9].toArray (fun e a2 w2 => e = .normal ∧ K2 a2 w2) [o3] a1 w1) ∧ (∀ K2 : Act → World → Prop, (∀ a2 w2, ((∀ K3 : Act → World → Prop, (∀ a3 w3, wpQuiet P [o0, o1, o2, o3, o4, o5, o6, o7, o8, o9].toArray (fun _ => True) (fun a4 => ((∀ K5 : Act → World → Prop, (∀ a5 w5, wpQuiet P [o0, o1, o2, o3, o4, o5, o6, o7, o8, o9].toArray (fun _ => True) (fun a6 => Q .normal a6 w5) [o8, o9] a5 → K5 a5 w5) → wpList P [o0, o1, o2, o3, o4, o5, o6, o7, o8, o9].toArray (fun e a5 w5 => e = .normal ∧ K5 a5 w5) [o7] a4 w3) ∧ True)) [o6] a3 → K3 a3 w3) → wpList P [o0, o1, o2, o3, o4, o5, o6, o7, o8, o9].toArray (fun e a3 w3 => e = .normal ∧ K3 a3 w3) [o3] a2 w2) ∧ True) → K2 a2 w2) → wpList P [o0, o1, o2, o3, o4, o5, o6, o7, o8, o9].toArray (fun e a2 w2 => e = .normal ∧ K2 a2 w2) [o5] a1 w1) ∧ True) → K1 a1 w1) → wpList P [o0, o1, o2, o3, o4, o5, o6, o7, o8, o9].toArray (fun e a1 w1 => e = .normal ∧ K1 a1 w1) [o1] a0 wk) ∧ (∀ K1 : Act → World → Prop, (∀ a1 w1, ((∀ K2 : Act → World → Prop, (∀ a2 w2, ((∀ K3 : Act → World → Prop, (∀ a3 w3, wpQuiet P [o0, o1, o2, o3, o4, o5, o6, o7, o8, o9].toArray (fun _ => True) (fun a4 => ((∀ K5 : Act → World → Prop, (∀ a5 w5, wpQuiet P [o0, o1, o2, o3, o4, o5, o6, o7, o8, o9].toArray (fun _ => True) (fun a6 => Q .normal a6 w5) [o8, o9] a5 → K5 a5 w5) → wpList P [o0, o1, o2, o3, o4, o5, o6, o7, o8, o9].toArray (fun e a5 w5 => e = .normal ∧ K5 a5 w5) [o7] a4 w3) ∧ True)) [o6] a3 → K3 a3 w3) → wpList P [o0, o1, o2, o3, o4, o5, o6, o7, o8, o9].toArray (fun e a3 w3 => e = .normal ∧ K3 a3 w3) [o5] a2 w2) ∧ True) → K2 a2 w2) → wpList P [o0, o1, o2, o3, o4, o5, o6, o7, o8, o9].toArray (fun e a2 w2 => e = .normal ∧ K2 a2 w2) [o1] a1 w1) ∧ (∀ K2 : Act → World → Prop, (∀ a2 w2, ((∀ K3 : Act → World → Prop, (∀ a3 w3, wpQuiet P [o0, o1, o2, o3, o4, o5, o6, o7, o8, o9].toArray (fun _ => True) (fun a4 => ((∀ K5 : Act → World → Prop, (∀ a5 w5, wpQuiet P [o0, o1, o2, o3, o4, o5, o6, o7, o8, o9].toArray (fun _ => True) (fun a6 => Q .normal a6 w5) [o8, o9] a5 → K5 a5 w5) → wpList P [o0, o1, o2, o3, o4, o5, o6, o7, o8, o9].toArray (fun e a5 w5 => e = .normal ∧ K5 a5 w5) [o7] a4 w3) ∧ True)) [o6] a3 → K3 a3 w3) → wpList P [o0, o1, o2, o3, o4, o5, o6, o7, o8, o9].toArray (fun e a3 w3 => e = .normal ∧ K3 a3 w3) [o1] a2 w2) ∧ True) → K2 a2 w2) → wpList P [o0, o1, o2, o3, o4, o5, o6, o7, o8, o9].toArray (fun e a2 w2 => e = .normal ∧ K2 a2 w2) [o5] a1 w1) ∧ True) → K1 a1 w1) → wpList P [o0, o1, o2, o3, o4, o5, o6, o7, o8, o9].toArray (fun e a1 w1 => e = .normal ∧ K1 a1 w1) [o3] a0 wk) ∧ (∀ K1 : Act → World → Prop, (∀ a1 w1, ((∀ K2 : Act → World → Prop, (∀ a2 w2, ((∀ K3 : Act → World → Prop, (∀ a3 w3, wpQuiet P [o0, o1, o2, o3, o4, o5, o6, o7, o8, o9].toArray (fun _ => True) (fun a4 => ((∀ K5 : Act → World → Prop, (∀ a5 w5, wpQuiet P [o0, o1, o2, o3, o4, o5, o6, o7, o8, o9].toArray (fun _ => True) (fun a6 => Q .normal a6 w5) [o8, o9] a5 → K5 a5 w5) → wpList P [o0, o1, o2, o3, o4, o5, o6, o7, o8, o9].toArray (fun e a5 w5 => e = .normal ∧ K5 a5 w5) [o7] a4 w3) ∧ True)) [o6] a3 → K3 a3 w3) → wpList P [o0, o1, o2, o3, o4, o5, o6, o7, o8, o9].toArray (fun e a3 w3 => e = .normal ∧ K3 a3 w3) [o3] a2 w2) ∧ True) → K2 a2 w2) → wpList P [o0, o1, o2, o3, o4, o5, o6, o7, o8, o9].toArray (fun e a2 w2 => e = .normal ∧ K2 a2 w2) [o1] a1 w1) ∧ (∀ K2 : Act → World → Prop, (∀ a2 w2, ((∀ K3 : Act → World → Prop, (∀ a3 w3, wpQuiet P [o0, o1, o2, o3, o4, o5, o6, o7, o8, o9].toArray (fun _ => True) (fun a4 => ((∀ K5 : Act → World → Prop, (∀ a5 w5, wpQuiet P [o0, o1, o2, o3, o4, o5, o6, o7, o8, o9].toArray (fun _ => True) (fun a6 => Q .normal a6 w5) [o8, o9] a5 → K5 a5 w5) → wpList P [o0, o1, o2, o3, o4, o5, o6, o7, o8, o9].toArray (fun e a5 w5 => e = .normal ∧ K5 a5 w5) [o7] a4 w3) ∧ True)) [o6] a3 → K3 a3 w3) → wpList P [o0, o1, o2, o3, o4, o5, o6, o7, o8, o9].toArray (fun e a3 w3 => e = .normal ∧ K3 a3 w3) [o1] a2 w2) ∧ True) → K2 a2 w2) → wpList P [o0, o1, o2, o3, o4, o5, o6, o7, o8, o9].toArray (fun e a2 w2 => e = .normal ∧ K2 a2 w2) [o3] a1 w1) ∧ True) → K1 a1 w1) → wpList P [o0, o1, o2, o3, o4, o5, o6, o7, o8, o9].toArray (fun e a1 w1 => e = .normal ∧ K1 a1 w1) [o5] a0 wk) ∧ True)) [o0, o2, o4] a) : (Code.region id [o0, o1, o2, o3, o4, o5, o6, o7, o8, o9].toArray true).wp P Q a w := by
  have e1 : E w.drew := hE _ _ he ((Below.refl _ _).drew)
  have g := h _ k.drew e1 (hF _ _ hf ((Below.refl _ _).drew))
  exact wp_region_scr (U := (fun w' => ∃ s : KX B w0 n L E, w' = s.val)) (ops := [o0, o1, o2, o3, o4, o5, o6, o7, o8, o9].toArray) (.free 0 (.free 2 (.free 4 (.altc 1 (.altc 3 (.altc 5 (.free 6 (.altc 7 (.free 8 (.free 9 .done)) .stop)) .stop) (.altc 5 (.altc 3 (.free 6 (.altc 7 (.free 8 (.free 9 .done)) .stop)) .stop) .stop)) (.altc 3 (.altc 1 (.altc 5 (.free 6 (.altc 7 (.free 8 (.free 9 .done)) .stop)) .stop) (.altc 5 (.altc 1 (.free 6 (.altc 7 (.free 8 (.free 9 .done)) .stop)) .stop) .stop)) (.altc 5 (.altc 1 (.altc 3 (.free 6 (.altc 7 (.free 8 (.free 9 .done)) .stop)) .stop) (.altc 3 (.altc 1 (.free 6 (.altc 7 (.free 8 (.free 9 .done)) .stop)) .stop) .stop)) .stop)))))) [] [0, 2, 4, 6, 8, 9] hm hB ⟨⟨_, k.drew, e1⟩, rfl⟩ (Scr.of_free rfl g (fun _ g0 => Scr.of_free rfl g0 (fun _ g1 => Scr.of_free rfl g1 (fun _ g2 => (Scr.of_altc rfl (g2.1 _ (fun _ _ g => g)) (fun _ _ g3 => (Scr.of_altc rfl (g3.1 _ (fun _ _ g => g)) (fun _ _ g4 => (Scr.of_altc rfl (g4.1 _ (fun _ _ g => g)) (fun _ _ g5 => Scr.of_free rfl g5 (fun _ g6 => (Scr.of_altc rfl (g6.1 _ (fun _ _ g => g)) (fun _ _ g7 => Scr.of_free rfl g7 (fun _ g8 => Scr.of_free rfl g8 (fun _ g9 => g9))) trivial))) trivial)) (Scr.of_altc rfl (g3.2.1 _ (fun _ _ g => g)) (fun _ _ g4 => (Scr.of_altc rfl (g4.1 _ (fun _ _ g => g)) (fun _ _ g5 => Scr.of_free rfl g5 (fun _ g6 => (Scr.of_altc rfl (g6.1 _ (fun _ _ g => g)) (fun _ _ g7 => Scr.of_free rfl g7 (fun _ g8 => Scr.of_free rfl g8 (fun _ g9 => g9))) trivial))) trivial)) trivial))) (Scr.of_altc rfl (g2.2.1 _ (fun _ _ g => g)) (fun _ _ g3 => (Scr.of_altc rfl (g3.1 _ (fun _ _ g => g)) (fun _ _ g4 => (Scr.of_altc rfl (g4.1 _ (fun _ _ g => g)) (fun _ _ g5 => Scr.of_free rfl g5 (fun _ g6 => (Scr.of_altc rfl (g6.1 _ (fun _ _ g => g)) (fun _ _ g7 => Scr.of_free rfl g7 (fun _ g8 => Scr.of_free rfl g8 (fun _ g9 => g9))) trivial))) trivial)) (Scr.of_altc rfl (g3.2.1 _ (fun _ _ g => g)) (fun _ _ g4 => (Scr.of_altc rfl (g4.1 _ (fun _ _ g => g)) (fun _ _ g5 => Scr.of_free rfl g5 (fun _ g6 => (Scr.of_altc rfl (g6.1 _ (fun _ _ g => g)) (fun _ _ g7 => Scr.of_free rfl g7 (fun _ g8 => Scr.of_free rfl g8 (fun _ g9 => g9))) trivial))) trivial)) trivial))) (Scr.of_altc rfl (g2.2.2.1 _ (fun _ _ g => g)) (fun _ _ g3 => (Scr.of_altc rfl (g3.1 _ (fun _ _ g => g)) (fun _ _ g4 => (Scr.of_altc rfl (g4.1 _ (fun _ _ g => g)) (fun _ _ g5 => Scr.of_free rfl g5 (fun _ g6 => (Scr.of_altc rfl (g6.1 _ (fun _ _ g => g)) (fun _ _ g7 => Scr.of_free rfl g7 (fun _ g8 => Scr.of_free rfl g8 (fun _ g9 => g9))) trivial))) trivial)) (Scr.of_altc rfl (g3.2.1 _ (fun _ _ g => g)) (fun _ _ g4 => (Scr.of_altc rfl (g4.1 _ (fun _ _ g => g)) (fun _ _ g5 => Scr.of_free rfl g5 (fun _ g6 => (Scr.of_altc rfl (g6.1 _ (fun _ _ g => g)) (fun _ _ g7 => Scr.of_free rfl g7 (fun _ g8 => Scr.of_free rfl g8 (fun _ g9 => g9))) trivial))) trivial)) trivial))) trivial)))))))
theorem Mat.nils {e : TypeId} {w : World} {vss : List (List Sl)} {lss : List (List (List Int))} (h : Mat ic e w vss lss) (n : Nat) : Mat ic e w (vss ++ [List.replicate n Sl.nil]) (lss ++ [List.replicate n []]) := by
  have key : ∀ i k v, at2 (vss ++ [List.replicate n Sl.nil]) i k = some v → at2 vss i k = some v ∧ i < vss.length ∨ v = Sl.nil ∧ vss.length ≤ i := by
    intro i k v hv
    obtain ⟨s, hs, hk⟩ := at2_row hv
    rcases Nat.lt_or_ge i vss.length with h1 | h1
    · rw [List.getElem?_append_left h1] at hs
      exact .inl ⟨at2_of hs hk, h1⟩
    · rw [List.getElem?_append_right h1] at hs
      cases hz : i - vss.length with
      | zero =>
        rw [hz] at hs
        simp at hs
        subst hs
        exact .inr ⟨List.eq_of_mem_replicate (List.mem_of_getElem? hk), h1⟩
      | succ z => rw [hz] at hs; simp at hs
  have e1 := h.len
  refine ⟨by simp [e1], fun i s t hs ht => ?_, fun i k x y hx hy => ?_, fun i k j q x y b hx hy hjk hbx hby => ?_⟩
  · rcases Nat.lt_or_ge i vss.length with h1 | h1
    · rw [List.getElem?_append_left h1] at hs
      rw [List.getElem?_append_left (by omega)] at ht
      exact h.lens i s t hs ht
    · rw [List.getElem?_append_right h1] at hs
      rw [List.getElem?_append_right (by omega), ← e1] at ht
      cases hz : i - vss.length with
      | zero => rw [hz] at hs ht; simp at hs ht; subst hs ht; simp
      | succ z => rw [hz] at hs; simp at hs
  · rcases key i k x hx with ⟨h1, h2⟩ | ⟨rfl, h2⟩
    · obtain ⟨t, ht, hk⟩ := at2_row hy
      rw [List.getElem?_append_left (by omega)] at ht
      exact h.row i k x y h1 (at2_of ht hk)
    · obtain ⟨t, ht, hk⟩ := at2_row hy
      rw [List.getElem?_append_right (by omega)] at ht
      cases hz : i - lss.length with
      | zero =>
        rw [hz] at ht
        simp at ht
        subst ht
        rw [List.eq_of_mem_replicate (List.mem_of_getElem? hk)]
        exact Oe.nil _ _
      | succ z => rw [hz] at ht; simp at ht
  · rcases key i k x hx with ⟨h1, _⟩ | ⟨rfl, _⟩
    · rcases key j q y hy with ⟨h2, _⟩ | ⟨rfl, _⟩
      · exact h.ne i k j q x y b h1 h2 hjk hbx hby
      · simp [Sl.nil, Sl.v, blk, Value.ownBlock] at hby
    · simp [Sl.nil, Sl.v, blk, Value.ownBlock] at hbx
/-- all blocks from one on -/
def since (a b : Nat) : List Nat := (List.range b).filter (fun k => decide (a ≤ k))
theorem mem_since {a b k : Nat} : k ∈ since a b ↔ a ≤ k ∧ k < b := by
  unfold since
  rw [List.mem_filter, List.mem_range, decide_eq_true_eq]
  omega
theorem newDr {w W : World} {bm gt gv : Nat} {so : Sl} {rvs : List Sl} {vss : List (List Sl)} {ls : List (List (List Int))} {r : List (List Int)} (hm : MxM W bm so rvs vss ls) (ht : Ow vc 1 32 W gt (.slice (some ⟨gt, 0, none⟩) r.length r.length) (List.replicate r.length Sl.nil)) (hv : Ow bc 1 4 W gv (.slice (some ⟨gv, 0, none⟩) r.length r.length) (List.replicate r.length false)) (hne : ∀ x ∈ rvs, ∀ b, blk x.v = some b → b ≠ gt) (h0 : ls[0]? = some r) (h1 : w.heap.size ≤ bm) (h2 : w.heap.size ≤ gt) (h3 : w.heap.size ≤ gv) (hb : Below w.heap.size w W) : DrAt (W.alloc (.cells #[so.v, .slice (some ⟨gt, 0, none⟩) r.length r.length, .slice (some ⟨gv, 0, none⟩) r.length r.length, .int .i64 0, .int .i64 0] 56)) w.heap.size (since w.heap.size (W.heap.size + 1)) W.heap.size (Dr.init ls) := by
  have ha : Below W.heap.size W (W.alloc (.cells #[so.v, .slice (some ⟨gt, 0, none⟩) r.length r.length, .slice (some ⟨gv, 0, none⟩) r.length r.length, .int .i64 0, .int .i64 0] 56)) := (Below.refl _ _).alloc (Nat.le_refl _) _
  have e0 : ls.getD 0 [] = r := getD_lt h0
  have hz := hb.size
  have hown : ∀ (a : Addr) n c b, blk (.slice (some a) n c) = some b → b = a.block := fun a n c b h => by
    have := blk_own h
    simp [Value.ownBlock] at this
    exact this.symm
  refine ⟨so, ⟨some ⟨gt, 0, none⟩, r.length, r.length⟩, ⟨some ⟨gv, 0, none⟩, r.length, r.length⟩, rvs, vss ++ [List.replicate r.length Sl.nil], ?_, hm.out.below ha, ?_, ?_, ?_, mem_since.2 ⟨hz, by omega⟩, fun b h => mem_since.2 ⟨by have := hm.bo b h; omega, by have := hm.out.lt h; omega⟩, fun b h => ?_, fun s hs b h => ?_, fun i k s b hs h => ?_, fun b h => by have := mem_since.1 h; simp; omega⟩
  · rw [heap_alloc_new]
    rfl
  · refine (hm.rows.below ha).push' _ _ ((Oe.of_ow ht).below ha) (fun b hb x hx hbx => hne x hx b hbx (hown _ _ _ _ hb))
  · have : (Dr.init ls).tk = List.replicate r.length [] := by show List.replicate (ls.getD 0 []).length _ = _; rw [e0]
    rw [this]
    exact (hm.mat.nils r.length).below ha
  · have : (Dr.init ls).mv = List.replicate r.length false := by show List.replicate (ls.getD 0 []).length _ = _; rw [e0]
    rw [this]
    exact (Oe.of_ow hv).below ha
  · have := hown _ _ _ _ h
    have h4 := (hv.typ gv rfl).2.1
    exact mem_since.2 ⟨by simp at this; omega, by simp at this; omega⟩
  · rcases List.mem_append.1 hs with h5 | h5
    · have := hm.br s h5 b h
      have := hm.rows.lt h5 h
      exact mem_since.2 ⟨by omega, by omega⟩
    · simp at h5
      subst h5
      have := hown _ _ _ _ h
      have h4 := (ht.typ gt rfl).2.1
      exact mem_since.2 ⟨by simp at this; omega, by simp at this; omega⟩
  · rcases at2_last _ _ _ _ _ hs with h5 | h5
    · have := hm.bi i k s b h5 h
      have := hm.mat.lt h5 h
      exact mem_since.2 ⟨by omega, by omega⟩
    · rw [List.eq_of_mem_replicate h5] at h
      simp [Sl.nil, Sl.v, blk, Value.ownBlock] at h
/-- a new draft, or the error -/
def NewDr (w : World) (ls : List (List (List Int))) (e : Ending) (w' : World) : Prop := ∃ P S, e = .returned (.tuple #[.pointer (some ⟨P, 0, none⟩), .int .i64 0]) ∧ DrAt w' w.heap.size S P (Dr.init ls) ∧ Below w.heap.size w w'
theorem NewDr.of {w w1 : World} {ls : List (List (List Int))} {e : Ending} {w' : World} (hb : Below w.heap.size w w1) (h : NewDr w1 ls e w') : NewDr w ls e w' := by
  obtain ⟨P, S, h1, ⟨so, st, sm, rvs, vss, h2⟩, h3⟩ := h
  exact ⟨P, S, h1, ⟨so, st, sm, rvs, vss, h2.hp, h2.out, h2.rows, h2.mat, h2.mov, h2.inP, h2.ino, h2.inm, h2.inr, h2.ini, fun b hb' => ⟨Nat.le_trans hb.size (h2.new b hb').1, (h2.new b hb').2⟩⟩, below_via hb h3⟩
set_option maxRecDepth 100000 in
set_option maxHeartbeats 4000000 in
theorem new11 (v : Value) (ls : List (List (List Int))) (w : World) (hs : Rw3 w v ls) (hr : right ls = true) : Calls Try.prog 11 #[v] w (NewDr w ls) := by
  have HRT := Lib.hid hr
  have HSM := Lib.hid (right_small hr)
  obtain ⟨r, h0, h2, h8, h1, h4⟩ := right_row0 hr
  have HR0 := Lib.hid h0
  obtain ⟨m1, a1, c1, rfl, f1⟩ := hs.at
  obtain ⟨b1, o1, rfl, hlt1, hc1⟩ := f1 (by omega)
  obtain ⟨a2, c2, e1, _⟩ := hc1 0 r h0
  rw [Nat.add_zero] at e1
  have HS := Lib.hid hs
  have hmk3 := fun w => run_make_row' (P := Try.prog) 30 32 (.slice none 0 0) 24 Try.underlying30 (by kernel_rfl) rfl .i64 .i64 r.length (by omega) (by omega) w
  have hmk5 := fun w => run_make_row' (P := Try.prog) 37 4 (.bool false) 1 Try.underlying37 (by kernel_rfl) rfl .i64 .i64 r.length (by omega) (by omega) w
  clear hs hr h0 f1 hc1
  go_enter Try.func11, Try.ntmps11
  go_wp2_with fail
  with_reducible refine (right28c _ ls true _ HS.out HRT.out).mono ?_
  rintro e w1 ⟨rfl, hb1⟩
  have HRW := Lib.hid (HS.out.below hb1)
  have e1 := (hb1.cell (p := ⟨b1, o1, none⟩) hlt1).trans e1
  have HB1 := Lib.hid hb1
  have hz1 := hb1.size
  go_wp2_with fail
  clear e1
  refine rg11_4 (w0 := w1) (B := w1.heap.size) (n := w1.heap.size) (L := []) (E := fun _ => True) (F := fun _ => True) (by kernel_rfl) (by kernel_rfl) ⟨by go_grown, by go_size, (by simp [go_sem] <;> omega)⟩ trivial (fun _ _ _ _ => trivial) trivial (fun _ _ _ _ => trivial) (fun w21 K_w21 E_w21 F_w21 => ?_)
  have _ne : Nonempty (KX (w1.heap.size) w1 (w1.heap.size) [] (fun _ => True)) := ⟨⟨_, K_w21, E_w21⟩⟩
  repeat (go_big_quiet_step (fail))
  refine wpQuiet_nil ?_
  have KH_w21 := Lib.hid K_w21
  have hw_w21 := K_w21.below
  have hz_w21 := K_w21.size
  clear K_w21
  clear E_w21 F_w21
  refine ⟨fun K hK0 => ?_, fun K hK0 => ?_, fun K hK0 => ?_, trivial⟩
  · skip
    have hK := Lib.hid hK0
    clear hK0
    go_wp2_with fail
    with_reducible refine (copied29 _ ls _ (HRW.out.below hw_w21) HSM.out).mono ?_
    rintro e w22 ⟨⟨oa, on, oc⟩, rvs, vss, he, hmx, hbn⟩
    replace he : e = .returned (.slice oa on oc) := he
    subst he
    have hgs : ∃ g, g = w21.heap.size := ⟨_, rfl⟩
    obtain ⟨bm, hbm⟩ := hgs
    rw [← hbm] at hmx
    have HBM : Hid (w1.heap.size ≤ bm) := Lib.hid (by have := hw_w21.size; omega)
    have HMX : Hid (MxM w22 bm ⟨oa, on, oc⟩ rvs vss ls) := Lib.hid (hmx)
    clear hmx
    have K_w22 := KH_w21.out.step (by omega) hbn
    have KH_w22 := Lib.hid K_w22
    have hz_w22 := K_w22.size
    have hw_w22 := K_w22.below
    clear K_w22 hbn
    clear hbm
    go_wp2_with fail
    first | (refine ⟨rfl, hK.out _ _ ?_⟩; clear hK K) | (refine hK.out _ _ ?_; clear hK K)
    refine ⟨fun K hK0 => ?_, fun K hK0 => ?_, trivial⟩
    · skip
      have hK := Lib.hid hK0
      clear hK0
      go_wp2_with fail
      obtain ⟨w23, hW⟩ : ∃ W, W = w22.alloc (.cells (madeCells #[.slice none 0 0] r.length) 32) := ⟨_, rfl⟩
      have hbn : Below w22.heap.size w22 w23 := by rw [hW]; exact (Below.refl _ _).alloc (Nat.le_refl _) _
      have hnew := made_ow (f := vc) (d := Sl.nil) (z := .slice none 0 0) (fun _ => rfl) rfl w22 32 r.length (by omega)
      rw [← hW] at hnew ⊢
      obtain ⟨gt, hg⟩ : ∃ g, g = w22.heap.size := ⟨_, rfl⟩
      rw [← hg] at hnew ⊢
      have HGT : Hid (w1.heap.size ≤ gt) := Lib.hid (by have := hw_w22.size; omega)
      have HNE : Hid (∀ x ∈ rvs, ∀ b, blk x.v = Option.some b → b ≠ gt) := Lib.hid (fun x hx b hb => by have h1 := HMX.out.rows.lt hx hb; omega)
      have HMX : Hid (MxM w23 bm ⟨oa, on, oc⟩ rvs vss ls) := Lib.hid (HMX.out.below hbn)
      have HT : Hid (Ow vc 1 32 w23 gt (.slice (some ⟨gt, 0, none⟩) r.length r.length) (List.replicate r.length Sl.nil)) := Lib.hid (hnew)
      have HGT2 : Hid (gt < w23.heap.size) := Lib.hid (by rw [hW, hg]; simp)
      clear hW hnew hg
      have K_w23 := KH_w22.out.step (by omega) hbn
      have KH_w23 := Lib.hid K_w23
      have hz_w23 := K_w23.size
      have hw_w23 := K_w23.below
      clear K_w23 hbn
      first | (refine ⟨rfl, hK.out _ _ ?_⟩; clear hK K) | (refine hK.out _ _ ?_; clear hK K)
      refine ⟨fun K hK0 => ?_, trivial⟩
      have hK := Lib.hid hK0
      clear hK0
      go_wp2_with fail
      obtain ⟨w24, hW⟩ : ∃ W, W = w23.alloc (.cells (madeCells #[.bool false] r.length) 4) := ⟨_, rfl⟩
      have hbn : Below w23.heap.size w23 w24 := by rw [hW]; exact (Below.refl _ _).alloc (Nat.le_refl _) _
      have hnew := made_ow (f := bc) (d := false) (z := .bool false) (fun _ => rfl) rfl w23 4 r.length (by omega)
      rw [← hW] at hnew ⊢
      obtain ⟨gv, hg⟩ : ∃ g, g = w23.heap.size := ⟨_, rfl⟩
      rw [← hg] at hnew ⊢
      have HGV : Hid (w1.heap.size ≤ gv) := Lib.hid (by have := hw_w23.size; omega)
      have HMX : Hid (MxM w24 bm ⟨oa, on, oc⟩ rvs vss ls) := Lib.hid (HMX.out.below hbn)
      have HT : Hid (Ow vc 1 32 w24 gt (.slice (some ⟨gt, 0, none⟩) r.length r.length) (List.replicate r.length Sl.nil)) := Lib.hid (HT.out.below hbn)
      have HGT2 : Hid (gt < w24.heap.size) := Lib.hid (Nat.lt_of_lt_of_le HGT2.out hbn.size)
      have HV : Hid (Ow bc 1 4 w24 gv (.slice (some ⟨gv, 0, none⟩) r.length r.length) (List.replicate r.length false)) := Lib.hid (hnew)
      clear hW hnew hg
      have K_w24 := KH_w23.out.step (by omega) hbn
      have KH_w24 := Lib.hid K_w24
      have hz_w24 := K_w24.size
      have hw_w24 := K_w24.below
      clear K_w24 hbn
      first | (refine ⟨rfl, hK.out _ _ ?_⟩; clear hK K) | (refine hK.out _ _ ?_; clear hK K)
      repeat (go_big_quiet_step (fail))
      refine wpQuiet_nil ?_
      refine ⟨fun K hK0 => ?_, trivial⟩
      have hK := Lib.hid hK0
      clear hK0
      go_wp2_with fail
      first | (refine ⟨rfl, hK.out _ _ ?_⟩; clear hK K) | (refine hK.out _ _ ?_; clear hK K)
      repeat (go_big_quiet_step (fail))
      refine wpQuiet_nil ?_
      clear _ne
      go_wp2_with fail
      go_returns
      exact NewDr.of HB1.out ⟨_, _, rfl, newDr HMX.out HT.out HV.out HNE.out HR0.out HBM.out HGT.out HGV.out hw_w24, hw_w24.alloc hw_w24.size _⟩
    · skip
      have hK := Lib.hid hK0
      clear hK0
      go_wp2_with fail
      obtain ⟨w23, hW⟩ : ∃ W, W = w22.alloc (.cells (madeCells #[.bool false] r.length) 4) := ⟨_, rfl⟩
      have hbn : Below w22.heap.size w22 w23 := by rw [hW]; exact (Below.refl _ _).alloc (Nat.le_refl _) _
      have hnew := made_ow (f := bc) (d := false) (z := .bool false) (fun _ => rfl) rfl w22 4 r.length (by omega)
      rw [← hW] at hnew ⊢
      obtain ⟨gv, hg⟩ : ∃ g, g = w22.heap.size := ⟨_, rfl⟩
      rw [← hg] at hnew ⊢
      have HGV : Hid (w1.heap.size ≤ gv) := Lib.hid (by have := hw_w22.size; omega)
      have HMX : Hid (MxM w23 bm ⟨oa, on, oc⟩ rvs vss ls) := Lib.hid (HMX.out.below hbn)
      have HV : Hid (Ow bc 1 4 w23 gv (.slice (some ⟨gv, 0, none⟩) r.length r.length) (List.replicate r.length false)) := Lib.hid (hnew)
      clear hW hnew hg
      have K_w23 := KH_w22.out.step (by omega) hbn
      have KH_w23 := Lib.hid K_w23
      have hz_w23 := K_w23.size
      have hw_w23 := K_w23.below
      clear K_w23 hbn
      first | (refine ⟨rfl, hK.out _ _ ?_⟩; clear hK K) | (refine hK.out _ _ ?_; clear hK K)
      refine ⟨fun K hK0 => ?_, trivial⟩
      have hK := Lib.hid hK0
      clear hK0
      go_wp2_with fail
      obtain ⟨w24, hW⟩ : ∃ W, W = w23.alloc (.cells (madeCells #[.slice none 0 0] r.length) 32) := ⟨_, rfl⟩
      have hbn : Below w23.heap.size w23 w24 := by rw [hW]; exact (Below.refl _ _).alloc (Nat.le_refl _) _
      have hnew := made_ow (f := vc) (d := Sl.nil) (z := .slice none 0 0) (fun _ => rfl) rfl w23 32 r.length (by omega)
      rw [← hW] at hnew ⊢
      obtain ⟨gt, hg⟩ : ∃ g, g = w23.heap.size := ⟨_, rfl⟩
      rw [← hg] at hnew ⊢
      have HGT : Hid (w1.heap.size ≤ gt) := Lib.hid (by have := hw_w23.size; omega)
      have HNE : Hid (∀ x ∈ rvs, ∀ b, blk x.v = Option.some b → b ≠ gt) := Lib.hid (fun x hx b hb => by have h1 := HMX.out.rows.lt hx hb; omega)
      have HMX : Hid (MxM w24 bm ⟨oa, on, oc⟩ rvs vss ls) := Lib.hid (HMX.out.below hbn)
      have HV : Hid (Ow bc 1 4 w24 gv (.slice (some ⟨gv, 0, none⟩) r.length r.length) (List.replicate r.length false)) := Lib.hid (HV.out.below hbn)
      have HT : Hid (Ow vc 1 32 w24 gt (.slice (some ⟨gt, 0, none⟩) r.length r.length) (List.replicate r.length Sl.nil)) := Lib.hid (hnew)
      have HGT2 : Hid (gt < w24.heap.size) := Lib.hid (by rw [hW, hg]; simp)
      clear hW hnew hg
      have K_w24 := KH_w23.out.step (by omega) hbn
      have KH_w24 := Lib.hid K_w24
      have hz_w24 := K_w24.size
      have hw_w24 := K_w24.below
      clear K_w24 hbn
      first | (refine ⟨rfl, hK.out _ _ ?_⟩; clear hK K) | (refine hK.out _ _ ?_; clear hK K)
      repeat (go_big_quiet_step (fail))
      refine wpQuiet_nil ?_
      refine ⟨fun K hK0 => ?_, trivial⟩
      have hK := Lib.hid hK0
      clear hK0
      go_wp2_with fail
      first | (refine ⟨rfl, hK.out _ _ ?_⟩; clear hK K) | (refine hK.out _ _ ?_; clear hK K)
      repeat (go_big_quiet_step (fail))
      refine wpQuiet_nil ?_
      clear _ne
      go_wp2_with fail
      go_returns
      exact NewDr.of HB1.out ⟨_, _, rfl, newDr HMX.out HT.out HV.out HNE.out HR0.out HBM.out HGT.out HGV.out hw_w24, hw_w24.alloc hw_w24.size _⟩
  · skip
    have hK := Lib.hid hK0
    clear hK0
    go_wp2_with fail
    obtain ⟨w22, hW⟩ : ∃ W, W = w21.alloc (.cells (madeCells #[.slice none 0 0] r.length) 32) := ⟨_, rfl⟩
    have hbn : Below w21.heap.size w21 w22 := by rw [hW]; exact (Below.refl _ _).alloc (Nat.le_refl _) _
    have hnew := made_ow (f := vc) (d := Sl.nil) (z := .slice none 0 0) (fun _ => rfl) rfl w21 32 r.length (by omega)
    rw [← hW] at hnew ⊢
    obtain ⟨gt, hg⟩ : ∃ g, g = w21.heap.size := ⟨_, rfl⟩
    rw [← hg] at hnew ⊢
    have HGT : Hid (w1.heap.size ≤ gt) := Lib.hid (by have := hw_w21.size; omega)
    have HT : Hid (Ow vc 1 32 w22 gt (.slice (some ⟨gt, 0, none⟩) r.length r.length) (List.replicate r.length Sl.nil)) := Lib.hid (hnew)
    have HGT2 : Hid (gt < w22.heap.size) := Lib.hid (by rw [hW, hg]; simp)
    clear hW hnew hg
    have K_w22 := KH_w21.out.step (by omega) hbn
    have KH_w22 := Lib.hid K_w22
    have hz_w22 := K_w22.size
    have hw_w22 := K_w22.below
    clear K_w22 hbn
    first | (refine ⟨rfl, hK.out _ _ ?_⟩; clear hK K) | (refine hK.out _ _ ?_; clear hK K)
    refine ⟨fun K hK0 => ?_, fun K hK0 => ?_, trivial⟩
    · skip
      have hK := Lib.hid hK0
      clear hK0
      go_wp2_with fail
      with_reducible refine (copied29 _ ls _ (HRW.out.below hw_w22) HSM.out).mono ?_
      rintro e w23 ⟨⟨oa, on, oc⟩, rvs, vss, he, hmx, hbn⟩
      replace he : e = .returned (.slice oa on oc) := he
      subst he
      have hgs : ∃ g, g = w22.heap.size := ⟨_, rfl⟩
      obtain ⟨bm, hbm⟩ := hgs
      rw [← hbm] at hmx
      have HBM : Hid (w1.heap.size ≤ bm) := Lib.hid (by have := hw_w22.size; omega)
      have HNE0 := HGT2.out
      have HT : Hid (Ow vc 1 32 w23 gt (.slice (some ⟨gt, 0, none⟩) r.length r.length) (List.replicate r.length Sl.nil)) := Lib.hid (HT.out.below hbn)
      have HGT2 : Hid (gt < w23.heap.size) := Lib.hid (Nat.lt_of_lt_of_le HGT2.out hbn.size)
      have HMX : Hid (MxM w23 bm ⟨oa, on, oc⟩ rvs vss ls) := Lib.hid (hmx)
      have HNE : Hid (∀ x ∈ rvs, ∀ b, blk x.v = Option.some b → b ≠ gt) := Lib.hid (fun x hx b hb => by have h1 := HMX.out.br x hx b hb; have h2 := HNE0; omega)
      clear HNE0
      clear hmx
      skip
      have K_w23 := KH_w22.out.step (by omega) hbn
      have KH_w23 := Lib.hid K_w23
      have hz_w23 := K_w23.size
      have hw_w23 := K_w23.below
      clear K_w23 hbn
      clear hbm
      go_wp2_with fail
      first | (refine ⟨rfl, hK.out _ _ ?_⟩; clear hK K) | (refine hK.out _ _ ?_; clear hK K)
      refine ⟨fun K hK0 => ?_, trivial⟩
      have hK := Lib.hid hK0
      clear hK0
      go_wp2_with fail
      obtain ⟨w24, hW⟩ : ∃ W, W = w23.alloc (.cells (madeCells #[.bool false] r.length) 4) := ⟨_, rfl⟩
      have hbn : Below w23.heap.size w23 w24 := by rw [hW]; exact (Below.refl _ _).alloc (Nat.le_refl _) _
      have hnew := made_ow (f := bc) (d := false) (z := .bool false) (fun _ => rfl) rfl w23 4 r.length (by omega)
      rw [← hW] at hnew ⊢
      obtain ⟨gv, hg⟩ : ∃ g, g = w23.heap.size := ⟨_, rfl⟩
      rw [← hg] at hnew ⊢
      have HGV : Hid (w1.heap.size ≤ gv) := Lib.hid (by have := hw_w23.size; omega)
      have HT : Hid (Ow vc 1 32 w24 gt (.slice (some ⟨gt, 0, none⟩) r.length r.length) (List.replicate r.length Sl.nil)) := Lib.hid (HT.out.below hbn)
      have HGT2 : Hid (gt < w24.heap.size) := Lib.hid (Nat.lt_of_lt_of_le HGT2.out hbn.size)
      have HMX : Hid (MxM w24 bm ⟨oa, on, oc⟩ rvs vss ls) := Lib.hid (HMX.out.below hbn)
      have HV : Hid (Ow bc 1 4 w24 gv (.slice (some ⟨gv, 0, none⟩) r.length r.length) (List.replicate r.length false)) := Lib.hid (hnew)
      clear hW hnew hg
      have K_w24 := KH_w23.out.step (by omega) hbn
      have KH_w24 := Lib.hid K_w24
      have hz_w24 := K_w24.size
      have hw_w24 := K_w24.below
      clear K_w24 hbn
      first | (refine ⟨rfl, hK.out _ _ ?_⟩; clear hK K) | (refine hK.out _ _ ?_; clear hK K)
      repeat (go_big_quiet_step (fail))
      refine wpQuiet_nil ?_
      refine ⟨fun K hK0 => ?_, trivial⟩
      have hK := Lib.hid hK0
      clear hK0
      go_wp2_with fail
      first | (refine ⟨rfl, hK.out _ _ ?_⟩; clear hK K) | (refine hK.out _ _ ?_; clear hK K)
      repeat (go_big_quiet_step (fail))
      refine wpQuiet_nil ?_
      clear _ne
      go_wp2_with fail
      go_returns
      exact NewDr.of HB1.out ⟨_, _, rfl, newDr HMX.out HT.out HV.out HNE.out HR0.out HBM.out HGT.out HGV.out hw_w24, hw_w24.alloc hw_w24.size _⟩
    · skip
      have hK := Lib.hid hK0
      clear hK0
      go_wp2_with fail
      obtain ⟨w23, hW⟩ : ∃ W, W = w22.alloc (.cells (madeCells #[.bool false] r.length) 4) := ⟨_, rfl⟩
      have hbn : Below w22.heap.size w22 w23 := by rw [hW]; exact (Below.refl _ _).alloc (Nat.le_refl _) _
      have hnew := made_ow (f := bc) (d := false) (z := .bool false) (fun _ => rfl) rfl w22 4 r.length (by omega)
      rw [← hW] at hnew ⊢
      obtain ⟨gv, hg⟩ : ∃ g, g = w22.heap.size := ⟨_, rfl⟩
      rw [← hg] at hnew ⊢
      have HGV : Hid (w1.heap.size ≤ gv) := Lib.hid (by have := hw_w22.size; omega)
      have HT : Hid (Ow vc 1 32 w23 gt (.slice (some ⟨gt, 0, none⟩) r.length r.length) (List.replicate r.length Sl.nil)) := Lib.hid (HT.out.below hbn)
      have HGT2 : Hid (gt < w23.heap.size) := Lib.hid (Nat.lt_of_lt_of_le HGT2.out hbn.size)
      have HV : Hid (Ow bc 1 4 w23 gv (.slice (some ⟨gv, 0, none⟩) r.length r.length) (List.replicate r.length false)) := Lib.hid (hnew)
      clear hW hnew hg
      have K_w23 := KH_w22.out.step (by omega) hbn
      have KH_w23 := Lib.hid K_w23
      have hz_w23 := K_w23.size
      have hw_w23 := K_w23.below
      clear K_w23 hbn
      first | (refine ⟨rfl, hK.out _ _ ?_⟩; clear hK K) | (refine hK.out _ _ ?_; clear hK K)
      refine ⟨fun K hK0 => ?_, trivial⟩
      have hK := Lib.hid hK0
      clear hK0
      go_wp2_with fail
      with_reducible refine (copied29 _ ls _ (HRW.out.below hw_w23) HSM.out).mono ?_
      rintro e w24 ⟨⟨oa, on, oc⟩, rvs, vss, he, hmx, hbn⟩
      replace he : e = .returned (.slice oa on oc) := he
      subst he
      have hgs : ∃ g, g = w23.heap.size := ⟨_, rfl⟩
      obtain ⟨bm, hbm⟩ := hgs
      rw [← hbm] at hmx
      have HBM : Hid (w1.heap.size ≤ bm) := Lib.hid (by have := hw_w23.size; omega)
      have HNE0 := HGT2.out
      have HT : Hid (Ow vc 1 32 w24 gt (.slice (some ⟨gt, 0, none⟩) r.length r.length) (List.replicate r.length Sl.nil)) := Lib.hid (HT.out.below hbn)
      have HGT2 : Hid (gt < w24.heap.size) := Lib.hid (Nat.lt_of_lt_of_le HGT2.out hbn.size)
      have HV : Hid (Ow bc 1 4 w24 gv (.slice (some ⟨gv, 0, none⟩) r.length r.length) (List.replicate r.length false)) := Lib.hid (HV.out.below hbn)
      have HMX : Hid (MxM w24 bm ⟨oa, on, oc⟩ rvs vss ls) := Lib.hid (hmx)
      have HNE : Hid (∀ x ∈ rvs, ∀ b, blk x.v = Option.some b → b ≠ gt) := Lib.hid (fun x hx b hb => by have h1 := HMX.out.br x hx b hb; have h2 := HNE0; omega)
      clear HNE0
      clear hmx
      skip
      have K_w24 := KH_w23.out.step (by omega) hbn
      have KH_w24 := Lib.hid K_w24
      have hz_w24 := K_w24.size
      have hw_w24 := K_w24.below
      clear K_w24 hbn
      clear hbm
      go_wp2_with fail
      first | (refine ⟨rfl, hK.out _ _ ?_⟩; clear hK K) | (refine hK.out _ _ ?_; clear hK K)
      repeat (go_big_quiet_step (fail))
      refine wpQuiet_nil ?_
      refine ⟨fun K hK0 => ?_, trivial⟩
      have hK := Lib.hid hK0
      clear hK0
      go_wp2_with fail
      first | (refine ⟨rfl, hK.out _ _ ?_⟩; clear hK K) | (refine hK.out _ _ ?_; clear hK K)
      repeat (go_big_quiet_step (fail))
      refine wpQuiet_nil ?_
      clear _ne
      go_wp2_with fail
      go_returns
      exact NewDr.of HB1.out ⟨_, _, rfl, newDr HMX.out HT.out HV.out HNE.out HR0.out HBM.out HGT.out HGV.out hw_w24, hw_w24.alloc hw_w24.size _⟩
  · skip
    have hK := Lib.hid hK0
    clear hK0
    go_wp2_with fail
    obtain ⟨w22, hW⟩ : ∃ W, W = w21.alloc (.cells (madeCells #[.bool false] r.length) 4) := ⟨_, rfl⟩
    have hbn : Below w21.heap.size w21 w22 := by rw [hW]; exact (Below.refl _ _).alloc (Nat.le_refl _) _
    have hnew := made_ow (f := bc) (d := false) (z := .bool false) (fun _ => rfl) rfl w21 4 r.length (by omega)
    rw [← hW] at hnew ⊢
    obtain ⟨gv, hg⟩ : ∃ g, g = w21.heap.size := ⟨_, rfl⟩
    rw [← hg] at hnew ⊢
    have HGV : Hid (w1.heap.size ≤ gv) := Lib.hid (by have := hw_w21.size; omega)
    have HV : Hid (Ow bc 1 4 w22 gv (.slice (some ⟨gv, 0, none⟩) r.length r.length) (List.replicate r.length false)) := Lib.hid (hnew)
    clear hW hnew hg
    have K_w22 := KH_w21.out.step (by omega) hbn
    have KH_w22 := Lib.hid K_w22
    have hz_w22 := K_w22.size
    have hw_w22 := K_w22.below
    clear K_w22 hbn
    first | (refine ⟨rfl, hK.out _ _ ?_⟩; clear hK K) | (refine hK.out _ _ ?_; clear hK K)
    refine ⟨fun K hK0 => ?_, fun K hK0 => ?_, trivial⟩
    · skip
      have hK := Lib.hid hK0
      clear hK0
      go_wp2_with fail
      with_reducible refine (copied29 _ ls _ (HRW.out.below hw_w22) HSM.out).mono ?_
      rintro e w23 ⟨⟨oa, on, oc⟩, rvs, vss, he, hmx, hbn⟩
      replace he : e = .returned (.slice oa on oc) := he
      subst he
      have hgs : ∃ g, g = w22.heap.size := ⟨_, rfl⟩
      obtain ⟨bm, hbm⟩ := hgs
      rw [← hbm] at hmx
      have HBM : Hid (w1.heap.size ≤ bm) := Lib.hid (by have := hw_w22.size; omega)
      have HV : Hid (Ow bc 1 4 w23 gv (.slice (some ⟨gv, 0, none⟩) r.length r.length) (List.replicate r.length false)) := Lib.hid (HV.out.below hbn)
      have HMX : Hid (MxM w23 bm ⟨oa, on, oc⟩ rvs vss ls) := Lib.hid (hmx)
      clear hmx
      have K_w23 := KH_w22.out.step (by omega) hbn
      have KH_w23 := Lib.hid K_w23
      have hz_w23 := K_w23.size
      have hw_w23 := K_w23.below
      clear K_w23 hbn
      clear hbm
      go_wp2_with fail
      first | (refine ⟨rfl, hK.out _ _ ?_⟩; clear hK K) | (refine hK.out _ _ ?_; clear hK K)
      refine ⟨fun K hK0 => ?_, trivial⟩
      have hK := Lib.hid hK0
      clear hK0
      go_wp2_with fail
      obtain ⟨w24, hW⟩ : ∃ W, W = w23.alloc (.cells (madeCells #[.slice none 0 0] r.length) 32) := ⟨_, rfl⟩
      have hbn : Below w23.heap.size w23 w24 := by rw [hW]; exact (Below.refl _ _).alloc (Nat.le_refl _) _
      have hnew := made_ow (f := vc) (d := Sl.nil) (z := .slice none 0 0) (fun _ => rfl) rfl w23 32 r.length (by omega)
      rw [← hW] at hnew ⊢
      obtain ⟨gt, hg⟩ : ∃ g, g = w23.heap.size := ⟨_, rfl⟩
      rw [← hg] at hnew ⊢
      have HGT : Hid (w1.heap.size ≤ gt) := Lib.hid (by have := hw_w23.size; omega)
      have HNE : Hid (∀ x ∈ rvs, ∀ b, blk x.v = Option.some b → b ≠ gt) := Lib.hid (fun x hx b hb => by have h1 := HMX.out.rows.lt hx hb; omega)
      have HV : Hid (Ow bc 1 4 w24 gv (.slice (some ⟨gv, 0, none⟩) r.length r.length) (List.replicate r.length false)) := Lib.hid (HV.out.below hbn)
      have HMX : Hid (MxM w24 bm ⟨oa, on, oc⟩ rvs vss ls) := Lib.hid (HMX.out.below hbn)
      have HT : Hid (Ow vc 1 32 w24 gt (.slice (some ⟨gt, 0, none⟩) r.length r.length) (List.replicate r.length Sl.nil)) := Lib.hid (hnew)
      have HGT2 : Hid (gt < w24.heap.size) := Lib.hid (by rw [hW, hg]; simp)
      clear hW hnew hg
      have K_w24 := KH_w23.out.step (by omega) hbn
      have KH_w24 := Lib.hid K_w24
      have hz_w24 := K_w24.size
      have hw_w24 := K_w24.below
      clear K_w24 hbn
      first | (refine ⟨rfl, hK.out _ _ ?_⟩; clear hK K) | (refine hK.out _ _ ?_; clear hK K)
      repeat (go_big_quiet_step (fail))
      refine wpQuiet_nil ?_
      refine ⟨fun K hK0 => ?_, trivial⟩
      have hK := Lib.hid hK0
      clear hK0
      go_wp2_with fail
      first | (refine ⟨rfl, hK.out _ _ ?_⟩; clear hK K) | (refine hK.out _ _ ?_; clear hK K)
      repeat (go_big_quiet_step (fail))
      refine wpQuiet_nil ?_
      clear _ne
      go_wp2_with fail
      go_returns
      exact NewDr.of HB1.out ⟨_, _, rfl, newDr HMX.out HT.out HV.out HNE.out HR0.out HBM.out HGT.out HGV.out hw_w24, hw_w24.alloc hw_w24.size _⟩
    · skip
      have hK := Lib.hid hK0
      clear hK0
      go_wp2_with fail
      obtain ⟨w23, hW⟩ : ∃ W, W = w22.alloc (.cells (madeCells #[.slice none 0 0] r.length) 32) := ⟨_, rfl⟩
      have hbn : Below w22.heap.size w22 w23 := by rw [hW]; exact (Below.refl _ _).alloc (Nat.le_refl _) _
      have hnew := made_ow (f := vc) (d := Sl.nil) (z := .slice none 0 0) (fun _ => rfl) rfl w22 32 r.length (by omega)
      rw [← hW] at hnew ⊢
      obtain ⟨gt, hg⟩ : ∃ g, g = w22.heap.size := ⟨_, rfl⟩
      rw [← hg] at hnew ⊢
      have HGT : Hid (w1.heap.size ≤ gt) := Lib.hid (by have := hw_w22.size; omega)
      have HV : Hid (Ow bc 1 4 w23 gv (.slice (some ⟨gv, 0, none⟩) r.length r.length) (List.replicate r.length false)) := Lib.hid (HV.out.below hbn)
      have HT : Hid (Ow vc 1 32 w23 gt (.slice (some ⟨gt, 0, none⟩) r.length r.length) (List.replicate r.length Sl.nil)) := Lib.hid (hnew)
      have HGT2 : Hid (gt < w23.heap.size) := Lib.hid (by rw [hW, hg]; simp)
      clear hW hnew hg
      have K_w23 := KH_w22.out.step (by omega) hbn
      have KH_w23 := Lib.hid K_w23
      have hz_w23 := K_w23.size
      have hw_w23 := K_w23.below
      clear K_w23 hbn
      first | (refine ⟨rfl, hK.out _ _ ?_⟩; clear hK K) | (refine hK.out _ _ ?_; clear hK K)
      refine ⟨fun K hK0 => ?_, trivial⟩
      have hK := Lib.hid hK0
      clear hK0
      go_wp2_with fail
      with_reducible refine (copied29 _ ls _ (HRW.out.below hw_w23) HSM.out).mono ?_
      rintro e w24 ⟨⟨oa, on, oc⟩, rvs, vss, he, hmx, hbn⟩
      replace he : e = .returned (.slice oa on oc) := he
      subst he
      have hgs : ∃ g, g = w23.heap.size := ⟨_, rfl⟩
      obtain ⟨bm, hbm⟩ := hgs
      rw [← hbm] at hmx
      have HBM : Hid (w1.heap.size ≤ bm) := Lib.hid (by have := hw_w23.size; omega)
      have HNE0 := HGT2.out
      have HV : Hid (Ow bc 1 4 w24 gv (.slice (some ⟨gv, 0, none⟩) r.length r.length) (List.replicate r.length false)) := Lib.hid (HV.out.below hbn)
      have HT : Hid (Ow vc 1 32 w24 gt (.slice (some ⟨gt, 0, none⟩) r.length r.length) (List.replicate r.length Sl.nil)) := Lib.hid (HT.out.below hbn)
      have HGT2 : Hid (gt < w24.heap.size) := Lib.hid (Nat.lt_of_lt_of_le HGT2.out hbn.size)
      have HMX : Hid (MxM w24 bm ⟨oa, on, oc⟩ rvs vss ls) := Lib.hid (hmx)
      have HNE : Hid (∀ x ∈ rvs, ∀ b, blk x.v = Option.some b → b ≠ gt) := Lib.hid (fun x hx b hb => by have h1 := HMX.out.br x hx b hb; have h2 := HNE0; omega)
      clear HNE0
      clear hmx
      skip
      have K_w24 := KH_w23.out.step (by omega) hbn
      have KH_w24 := Lib.hid K_w24
      have hz_w24 := K_w24.size
      have hw_w24 := K_w24.below
      clear K_w24 hbn
      clear hbm
      go_wp2_with fail
      first | (refine ⟨rfl, hK.out _ _ ?_⟩; clear hK K) | (refine hK.out _ _ ?_; clear hK K)
      repeat (go_big_quiet_step (fail))
      refine wpQuiet_nil ?_
      refine ⟨fun K hK0 => ?_, trivial⟩
      have hK := Lib.hid hK0
      clear hK0
      go_wp2_with fail
      first | (refine ⟨rfl, hK.out _ _ ?_⟩; clear hK K) | (refine hK.out _ _ ?_; clear hK K)
      repeat (go_big_quiet_step (fail))
      refine wpQuiet_nil ?_
      clear _ne
      go_wp2_with fail
      go_returns
      exact NewDr.of HB1.out ⟨_, _, rfl, newDr HMX.out HT.out HV.out HNE.out HR0.out HBM.out HGT.out HGV.out hw_w24, hw_w24.alloc hw_w24.size _⟩

set_option maxRecDepth 100000 in
set_option maxHeartbeats 2000000 in
theorem new11_bad (v : Value) (ls : List (List (List Int))) (w : World) (hs : Rw3 w v ls) (hr : right ls = false) : Calls Try.prog 11 #[v] w fun e w' => e = .returned (.tuple #[.pointer none, .int .i64 2]) ∧ Below w.heap.size w w' := by
  have HRT := Lib.hid hr
  clear hr
  go_enter Try.func11, Try.ntmps11
  go_wp2_with fail
  with_reducible refine (right28c _ ls false _ hs HRT.out).mono ?_
  rintro e w1 ⟨rfl, hb1⟩
  go_wp2_with fail
  go_returns
  exact ⟨rfl, hb1⟩
end Go.Proofs.Yteocplabibhecaa
