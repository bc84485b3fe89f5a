/- Pure steps, by a law each. Items that are equal, by the law. Boards that look alike, by the law. -/
import Derived.Test.YteoeahmnonolmaaOnl
import Derived.Test.YteoeahmnonolmaaPlain
import Derived.WalkKit
import Derived.LoopTactic
import Derived.Test.YteoeahmnonolmaaSE1
import Derived.Deep.DeepCutAuto
import Derived.Deep.MidRow
import Derived.Test.YteoeahmnonolmaaSPs
namespace Go.Proofs.Yteoeahmnonolmaa
open Go.RowKit Plain
set_option linter.unusedVariables false
set_option linter.unusedSimpArgs false

section
variable {P : Program} {ops : Array Oper} {rest : List Oper} {op : Oper} {a : Act} {w : World} {Q : Exit → Act → World → Prop}
theorem wpList_val (v : Value) (hr : (execOp a.eval op).run P w = .ok (.value v) w) (hw : Region.wanted op (yielded ops a.tmps) = true) (hK : wpList P ops Q rest (a.put op.dst v) w) : wpList P ops Q (op :: rest) a w := by
  unfold wpList
  rw [if_pos hw]
  exact .inl (by unfold Oper.wp; rw [hr]; exact hK)
theorem wanted_none (h : op.guard = none) (y : Nat → Option Bool) : Region.wanted op y = true := by unfold Region.wanted; rw [h]
/-- a pick of what is true already -/
theorem wpList_pk {c y : Operand} (ho : op.op = .pick c (.const (.bool true)) y) (hg : op.guard = none) (hc : a.eval c = .bool true) (hK : wpList P ops Q rest (a.put op.dst (.bool true)) w) : wpList P ops Q (op :: rest) a w :=
  wpList_val (.bool true) (by unfold execOp; simp only [ho, hc]; rfl) (wanted_none hg _) hK
theorem wpList_pn (b : Bool) {c x y : Operand} (ho : op.op = .pick c x y) (hg : op.guard = none) (hc : a.eval c = .bool false) (hy : a.eval y = .bool b) (hK : wpList P ops Q rest (a.put op.dst (.bool b)) w) : wpList P ops Q (op :: rest) a w :=
  wpList_val (.bool b) (by unfold execOp; simp only [ho, hc, hy]; rfl) (wanted_none hg _) hK
/-- a pick of what is false already -/
theorem wpList_pf {c y : Operand} (ho : op.op = .pick c y (.const (.bool false))) (hg : op.guard = none) (hc : a.eval c = .bool false) (hK : wpList P ops Q rest (a.put op.dst (.bool false)) w) : wpList P ops Q (op :: rest) a w :=
  wpList_val (.bool false) (by unfold execOp; simp only [ho, hc]; rfl) (wanted_none hg _) hK
theorem wpList_mv (b : Bool) {x : Operand} (ho : op.op = .move x) (hg : op.guard = none) (hx : a.eval x = .bool b) (hK : wpList P ops Q rest (a.put op.dst (.bool b)) w) : wpList P ops Q (op :: rest) a w :=
  wpList_val (.bool b) (by unfold execOp; simp only [ho, hx]; rfl) (wanted_none hg _) hK
theorem wpList_no (b c : Bool) {x : Operand} {t : TypeId} (ho : op.op = .unOp .not t x) (hx : a.eval x = .bool b) (hb : (!b) = c) (hw : Region.wanted op (yielded ops a.tmps) = true) (hK : wpList P ops Q rest (a.put op.dst (.bool c)) w) : wpList P ops Q (op :: rest) a w := by
  subst hb
  exact wpList_val (.bool !b) (by unfold execOp; simp only [ho, hx]; rfl) hw hK
/-- the rest of a region in which nothing is done any more: what is skipped, moved, picked -/
def runS (ops : Array Oper) : List Oper → Act → Option Act
  | [], a => some a
  | o :: r, a =>
    if Region.wanted o (yielded ops a.tmps) then
      match o.op with
      | .move x => runS ops r (a.put o.dst (a.eval x))
      | .pick c x y => match a.eval c with
        | .bool b => runS ops r (a.put o.dst (if b then a.eval x else a.eval y))
        | _ => none
      | .unOp .not _ x => match a.eval x with
        | .bool b => runS ops r (a.put o.dst (.bool !b))
        | _ => none
      | _ => none
    else runS ops r (a.put o.dst undef)
theorem wpList_run : ∀ (l : List Oper) (a a' : Act) (w : World), runS ops l a = some a' → Q .normal a' w → wpList P ops Q l a w
  | [], a, a', w, h, hK => by
    simp only [runS, Option.some.injEq] at h
    subst h
    exact hK
  | o :: r, a, a', w, h, hK => by
    rw [runS] at h
    split at h
    · rename_i hw
      split at h
      · rename_i x ho
        exact wpList_val _ (by unfold execOp; simp only [ho]; rfl) hw (wpList_run r _ a' w h hK)
      · rename_i c x y ho
        split at h
        · rename_i b hc
          exact wpList_val _ (by unfold execOp; simp only [ho, hc]; rfl) hw (wpList_run r _ a' w h hK)
        · cases h
      · rename_i t x ho
        split at h
        · rename_i b hc
          exact wpList_val _ (by unfold execOp; simp only [ho, hc]; rfl) hw (wpList_run r _ a' w h hK)
        · cases h
      · cases h
    · rename_i hw
      unfold wpList
      rw [if_neg hw]
      exact wpList_run r _ a' w h hK
def setL (t : Array Value) (L : List (Nat × Value)) : Array Value := L.foldl (fun t p => t.setIfInBounds p.1 p.2) t
theorem wpList_end {t : Array Value} {d : List Deferred} {o : Oper} {r : List Oper} (n : Nat) (L : List (Nat × Value)) (hn : o.dst = some n) (h : runS ops (o :: r) ⟨t, d⟩ = some ⟨setL t L, d⟩) (hK : Q .normal ⟨setL t L, d⟩ w) : wpList P ops Q (o :: r) ⟨t, d⟩ w :=
  wpList_run _ _ _ _ h hK
end
end Go.Proofs.Yteoeahmnonolmaa
namespace Go.Proofs.Yteoeahmnonolmaa
open Go.RowKit Plain
set_option linter.unusedVariables false
set_option linter.unusedSimpArgs false

theorem rg57_6 {P : Program} {B n : Nat} {w0 : World} {L : List (Nat × Nat × Value)} {E F : World → Prop} {id : Nat} {Q : Exit → Act → World → Prop} {a : Act} {w : World} {o0 o1 o2 o3 o4 o5 o6 o7 o8 o9 o10 o11 : Oper} (hm : P.follows .mixedOrders = true)
    (hB : (Region.noSelect [o0, o1, o2, o3, o4, o5, o6, o7, o8, o9, o10, o11].toArray && Scr.ok .any [o0, o1, o2, o3, o4, o5, o6, o7, o8, o9, o10, o11].toArray [3, 7] [0, 1, 2, 4, 5, 6] (.free 0 (.free 1 (.free 2 (.free 4 (.free 5 (.free 6 (.read 3 (.read 7 (.alt 8 (.alt 9 (.alt 10 (.alt 11 .done .stop) .stop) .stop) (.alt 9 (.alt 8 (.alt 10 (.alt 11 .done .stop) .stop) .stop) .stop)))))))))) true true [o0, o1, o2, o3, o4, o5, o6, o7, o8, o9, o10, o11].toArray.size (Array.replicate [o0, o1, o2, o3, o4, o5, o6, o7, o8, o9, o10, o11].toArray.size false)) = true)
    (k : Kept B w0 n L w) (he : E w) (hE : ∀ W W', E W → Below W.heap.size W W' → E W') (hf : F w) (hF : ∀ W W', F W → Below W.heap.size W W' → F W')
    (h : ∀ wk, Kept B w0 n L wk → E wk → F wk → wpQuiet P [o0, o1, o2, o3, o4, o5, o6, o7, o8, o9, o10, o11].toArray (fun _ => True) (fun a0 => wpQuiet P [o0, o1, o2, o3, o4, o5, o6, o7, o8, o9, o10, o11].toArray (fun w' => ∃ s : KX B w0 n L E, w' = s.val) (fun a1 => ((∀ K2 : Act → World → Prop, (∀ a2 w2, ((∀ K3 : Act → World → Prop, (∀ a3 w3, ((∀ K4 : Act → World → Prop, (∀ a4 w4, ((∀ K5 : Act → World → Prop, (∀ a5 w5, Q .normal a5 w5 → K5 a5 w5) → wpList P [o0, o1, o2, o3, o4, o5, o6, o7, o8, o9, o10, o11].toArray (fun e a5 w5 => e = .normal ∧ (∃ s : KX B w0 n L E, w5 = s.val) ∧ K5 a5 w5) [o11] a4 w4) ∧ True) → K4 a4 w4) → wpList P [o0, o1, o2, o3, o4, o5, o6, o7, o8, o9, o10, o11].toArray (fun e a4 w4 => e = .normal ∧ (∃ s : KX B w0 n L E, w4 = s.val) ∧ K4 a4 w4) [o10] a3 w3) ∧ True) → K3 a3 w3) → wpList P [o0, o1, o2, o3, o4, o5, o6, o7, o8, o9, o10, o11].toArray (fun e a3 w3 => e = .normal ∧ (∃ s : KX B w0 n L E, w3 = s.val) ∧ K3 a3 w3) [o9] a2 w2) ∧ True) → K2 a2 w2) → wpList P [o0, o1, o2, o3, o4, o5, o6, o7, o8, o9, o10, o11].toArray (fun e a2 w2 => e = .normal ∧ (∃ s : KX B w0 n L E, w2 = s.val) ∧ K2 a2 w2) [o8] a1 wk) ∧ (∀ K2 : Act → World → Prop, (∀ a2 w2, ((∀ K3 : Act → World → Prop, (∀ a3 w3, ((∀ K4 : Act → World → Prop, (∀ a4 w4, ((∀ K5 : Act → World → Prop, (∀ a5 w5, Q .normal a5 w5 → K5 a5 w5) → wpList P [o0, o1, o2, o3, o4, o5, o6, o7, o8, o9, o10, o11].toArray (fun e a5 w5 => e = .normal ∧ (∃ s : KX B w0 n L E, w5 = s.val) ∧ K5 a5 w5) [o11] a4 w4) ∧ True) → K4 a4 w4) → wpList P [o0, o1, o2, o3, o4, o5, o6, o7, o8, o9, o10, o11].toArray (fun e a4 w4 => e = .normal ∧ (∃ s : KX B w0 n L E, w4 = s.val) ∧ K4 a4 w4) [o10] a3 w3) ∧ True) → K3 a3 w3) → wpList P [o0, o1, o2, o3, o4, o5, o6, o7, o8, o9, o10, o11].toArray (fun e a3 w3 => e = .normal ∧ (∃ s : KX B w0 n L E, w3 = s.val) ∧ K3 a3 w3) [o8] a2 w2) ∧ True) → K2 a2 w2) → wpList P [o0, o1, o2, o3, o4, o5, o6, o7, o8, o9, o10, o11].toArray (fun e a2 w2 => e = .normal ∧ (∃ s : KX B w0 n L E, w2 = s.val) ∧ K2 a2 w2) [o9] a1 wk) ∧ True)) [o3, o7] a0) [o0, o1, o2, o4, o5, o6] a) : (Code.region id [o0, o1, o2, o3, o4, o5, o6, o7, o8, o9, o10, o11].toArray true).wp P Q a w := by
  have e1 : E w.drew := hE _ _ he ((Below.refl _ _).drew)
  have g := h _ k.drew e1 (hF _ _ hf ((Below.refl _ _).drew))
  exact wp_region_scr (U := (fun w' => ∃ s : KX B w0 n L E, w' = s.val)) (ops := [o0, o1, o2, o3, o4, o5, o6, o7, o8, o9, o10, o11].toArray) (.free 0 (.free 1 (.free 2 (.free 4 (.free 5 (.free 6 (.read 3 (.read 7 (.alt 8 (.alt 9 (.alt 10 (.alt 11 .done .stop) .stop) .stop) (.alt 9 (.alt 8 (.alt 10 (.alt 11 .done .stop) .stop) .stop) .stop)))))))))) [3, 7] [0, 1, 2, 4, 5, 6] hm hB ⟨⟨_, k.drew, e1⟩, rfl⟩ (Scr.of_free rfl g (fun _ g0 => Scr.of_free rfl g0 (fun _ g1 => Scr.of_free rfl g1 (fun _ g2 => Scr.of_free rfl g2 (fun _ g3 => Scr.of_free rfl g3 (fun _ g4 => Scr.of_free rfl g4 (fun _ g5 => Scr.of_read rfl g5 (fun _ g6 => Scr.of_read rfl g6 (fun _ g7 => (Scr.of_alt rfl (g7.1 _ (fun _ _ g => g)) (fun _ _ g8 => (Scr.of_alt rfl (g8.1 _ (fun _ _ g => g)) (fun _ _ g9 => (Scr.of_alt rfl (g9.1 _ (fun _ _ g => g)) (fun _ _ g10 => (Scr.of_alt rfl (g10.1 _ (fun _ _ g => g)) (fun _ _ g11 => g11) trivial)) trivial)) trivial)) (Scr.of_alt rfl (g7.2.1 _ (fun _ _ g => g)) (fun _ _ g8 => (Scr.of_alt rfl (g8.1 _ (fun _ _ g => g)) (fun _ _ g9 => (Scr.of_alt rfl (g9.1 _ (fun _ _ g => g)) (fun _ _ g10 => (Scr.of_alt rfl (g10.1 _ (fun _ _ g => g)) (fun _ _ g11 => g11) trivial)) trivial)) trivial)) trivial)))))))))))
theorem rg57_12 {P : Program} {B n : Nat} {w0 : World} {L : List (Nat × Nat × Value)} {E F : World → Prop} {id : Nat} {Q : Exit → Act → World → Prop} {a : Act} {w : World} {o0 o1 o2 o3 o4 o5 o6 o7 o8 o9 o10 : Oper} (hm : P.follows .mixedOrders = true)
    (hB : (Region.noSelect [o0, o1, o2, o3, o4, o5, o6, o7, o8, o9, o10].toArray && Scr.ok .any [o0, o1, o2, o3, o4, o5, o6, o7, o8, o9, o10].toArray [1, 4, 6, 9] [0, 2, 3, 5, 7, 8, 10] (.free 0 (.free 2 (.free 5 (.free 7 (.read 1 (.free 3 (.read 4 (.read 6 (.free 8 (.read 9 (.free 10 .done))))))))))) true true [o0, o1, o2, o3, o4, o5, o6, o7, o8, o9, o10].toArray.size (Array.replicate [o0, o1, o2, o3, o4, o5, o6, o7, o8, o9, o10].toArray.size false)) = true)
    (k : Kept B w0 n L w) (he : E w) (hE : ∀ W W', E W → Below W.heap.size W W' → E W') (hf : F w) (hF : ∀ W W', F W → Below W.heap.size W W' → F W')
    (h : ∀ wk, Kept B w0 n L wk → E wk → F wk → wpQuiet P [o0, o1, o2, o3, o4, o5, o6, o7, o8, o9, o10].toArray (fun _ => True) (fun a0 => wpQuiet P [o0, o1, o2, o3, o4, o5, o6, o7, o8, o9, o10].toArray (fun w' => ∃ s : KX B w0 n L E, w' = s.val) (fun a1 => wpQuiet P [o0, o1, o2, o3, o4, o5, o6, o7, o8, o9, o10].toArray (fun _ => True) (fun a2 => wpQuiet P [o0, o1, o2, o3, o4, o5, o6, o7, o8, o9, o10].toArray (fun w' => ∃ s : KX B w0 n L E, w' = s.val) (fun a3 => wpQuiet P [o0, o1, o2, o3, o4, o5, o6, o7, o8, o9, o10].toArray (fun _ => True) (fun a4 => wpQuiet P [o0, o1, o2, o3, o4, o5, o6, o7, o8, o9, o10].toArray (fun w' => ∃ s : KX B w0 n L E, w' = s.val) (fun a5 => wpQuiet P [o0, o1, o2, o3, o4, o5, o6, o7, o8, o9, o10].toArray (fun _ => True) (fun a6 => Q .normal a6 wk) [o10] a5) [o9] a4) [o8] a3) [o4, o6] a2) [o3] a1) [o1] a0) [o0, o2, o5, o7] a) : (Code.region id [o0, o1, o2, o3, o4, o5, o6, o7, o8, o9, o10].toArray true).wp P Q a w := by
  have e1 : E w.drew := hE _ _ he ((Below.refl _ _).drew)
  have g := h _ k.drew e1 (hF _ _ hf ((Below.refl _ _).drew))
  exact wp_region_scr (U := (fun w' => ∃ s : KX B w0 n L E, w' = s.val)) (ops := [o0, o1, o2, o3, o4, o5, o6, o7, o8, o9, o10].toArray) (.free 0 (.free 2 (.free 5 (.free 7 (.read 1 (.free 3 (.read 4 (.read 6 (.free 8 (.read 9 (.free 10 .done))))))))))) [1, 4, 6, 9] [0, 2, 3, 5, 7, 8, 10] hm hB ⟨⟨_, k.drew, e1⟩, rfl⟩ (Scr.of_free rfl g (fun _ g0 => Scr.of_free rfl g0 (fun _ g1 => Scr.of_free rfl g1 (fun _ g2 => Scr.of_free rfl g2 (fun _ g3 => Scr.of_read rfl g3 (fun _ g4 => Scr.of_free rfl g4 (fun _ g5 => Scr.of_read rfl g5 (fun _ g6 => Scr.of_read rfl g6 (fun _ g7 => Scr.of_free rfl g7 (fun _ g8 => Scr.of_read rfl g8 (fun _ g9 => Scr.of_free rfl g9 (fun _ g10 => g10))))))))))))
def EiL (w : World) (l m : List Tg) (bX bY : Nat) (C D : Array Value) (i : Value) (wr : World) : Prop := ∃ k : Nat, k ≤ l.length ∧ i = .int .i64 k ∧ l.take k = m.take k ∧ Below w.heap.size w wr ∧ Ro wr bX C 100 ∧ Ro wr bY D 100
set_option maxRecDepth 100000 in
set_option maxHeartbeats 4000000 in
theorem lqItems (v1 v2 : Value) (l m : List It) (w : World) (h1 : ItR w v1 l) (h2 : ItR w v2 m) : Calls Try.prog 57 #[v1, v2] w (EqA w (l = m)) := by
  obtain ⟨m1, hm1, h1, ht1⟩ := h1
  obtain ⟨m2, hm2, h2, ht2⟩ := h2
  obtain ⟨hm, a1, c1, rfl, hf1⟩ := h1.form
  obtain ⟨_, a2, c2, rfl, hf2⟩ := h2.form
  have en1 : m1.length = l.length := by rw [← hm1, List.length_map]
  have en2 : m2.length = m.length := by rw [← hm2, List.length_map]
  rw [en1] at hm hf1 ⊢
  rw [en2] at hf2 ⊢
  have HF1 := Lib.hid hf1
  have HF2 := Lib.hid hf2
  have HM1 := Lib.hid hm1
  have HM2 := Lib.hid hm2
  have HE1 := Lib.hid en1
  have HE2 := Lib.hid en2
  have HU1 := Lib.hid ht1
  have HU2 := Lib.hid ht2
  clear h1 h2 hf1 hf2 hm1 hm2 en1 en2 ht1 ht2
  by_cases hl : l.length = m.length
  case neg =>
    have t1 : (l.length != m.length) = true := by simpa using hl
    have t2 : ((l.length : Int) != (m.length : Int)) = true := by simp only [bne_iff_ne, ne_eq, Int.natCast_inj]; exact hl
    have HNE := Lib.hid (ne_len hl)
    clear hl
    go_enter Try.func57, Try.ntmps57
    go_wp2_with fail
    go_returns
    exact EqA.no HNE.out (Below.refl _ _)
  rw [← hl] at HF2 HE2 ⊢
  have HL := Lib.hid hl
  clear hl
  have hne : (l.length != l.length) = false := by simp
  have hne2 : ((l.length : Int) != (l.length : Int)) = false := by simp
  go_enter Try.func57, Try.ntmps57
  go_wp2_with fail
  go_loopw [5] (fun i wr => EqL w l m i wr) (fun i _ => l.length - (intOf i).toNat)
  case atStart => exact ⟨0, by omega, rfl, rfl, Below.refl _ _⟩
  case round =>
    obtain ⟨k, hk, rfl, ht, hb⟩ := hrel
    have HB := Lib.hid hb
    have HT := Lib.hid ht
    clear ht
    by_cases hkl : k < l.length
    · have HKL := Lib.hid hkl
      obtain ⟨b1, o1, rfl, hlt1, hc1⟩ := HF1.out (by omega)
      obtain ⟨b2, o2, rfl, hlt2, hc2⟩ := HF2.out (by omega)
      obtain ⟨y1, hy1⟩ : ∃ x, m1[k]? = some x := ⟨_, List.getElem?_eq_getElem (by have := HE1.out; omega)⟩
      obtain ⟨y2, hy2⟩ : ∃ x, m2[k]? = some x := ⟨_, List.getElem?_eq_getElem (by have := HE2.out; omega)⟩
      have HX : Hid (l[k]? = some y1.1) := Lib.hid (by rw [← HM1.out, List.getElem?_map, hy1]; rfl)
      have HY : Hid (m[k]? = some y2.1) := Lib.hid (by rw [← HM2.out, List.getElem?_map, hy2]; rfl)
      have ht1 := HU1.out y1 (List.mem_of_getElem? hy1)
      have ht2 := HU2.out y2 (List.mem_of_getElem? hy2)
      obtain ⟨x, ⟨pa, pn, pc⟩⟩ := y1
      obtain ⟨y, ⟨qa, qn, qc⟩⟩ := y2
      have ez1 : pn = x.tg.length := it_len ht1
      have ez2 : qn = y.tg.length := it_len ht2
      subst ez1 ez2
      have HT1 : Hid (Rw tc 2 w (.slice pa x.tg.length pc) x.tg) := Lib.hid ht1
      have HT2 : Hid (Rw tc 2 w (.slice qa y.tg.length qc) y.tg) := Lib.hid ht2
      replace HX : Hid (l[k]? = some x) := HX
      replace HY : Hid (m[k]? = some y) := HY
      have hd : ∀ (j : Nat) (u : Value), (itc (x, ⟨pa, x.tg.length, pc⟩))[j]? = some u → wr.cell? ⟨b1, o1 + (k * 5 + j), none⟩ = some u := fun j u hu => (hb.cell (p := ⟨b1, o1 + (k * 5 + j), none⟩) hlt1).trans (hc1 k _ hy1 j u hu)
      have d0 : wr.cell? ⟨b1, o1 + k * 5, none⟩ = some (.int .i64 x.pl) := hd 0 _ rfl
      have d1 : wr.cell? ⟨b1, o1 + k * 5 + 1, none⟩ = some (.int .i64 x.id) := by rw [Nat.add_assoc]; exact hd 1 _ rfl
      have d2 : wr.cell? ⟨b1, o1 + k * 5 + 2, none⟩ = some (.int .i64 x.cd) := by rw [Nat.add_assoc]; exact hd 2 _ rfl
      have d3 : wr.cell? ⟨b1, o1 + k * 5 + 3, none⟩ = some (.int .i64 x.tr) := by rw [Nat.add_assoc]; exact hd 3 _ rfl
      have d4 : wr.cell? ⟨b1, o1 + k * 5 + 4, none⟩ = some (.slice pa x.tg.length pc) := by rw [Nat.add_assoc]; exact hd 4 _ rfl
      have he : ∀ (j : Nat) (u : Value), (itc (y, ⟨qa, y.tg.length, qc⟩))[j]? = some u → wr.cell? ⟨b2, o2 + (k * 5 + j), none⟩ = some u := fun j u hu => (hb.cell (p := ⟨b2, o2 + (k * 5 + j), none⟩) hlt2).trans (hc2 k _ hy2 j u hu)
      have e0 : wr.cell? ⟨b2, o2 + k * 5, none⟩ = some (.int .i64 y.pl) := he 0 _ rfl
      have e1 : wr.cell? ⟨b2, o2 + k * 5 + 1, none⟩ = some (.int .i64 y.id) := by rw [Nat.add_assoc]; exact he 1 _ rfl
      have e2 : wr.cell? ⟨b2, o2 + k * 5 + 2, none⟩ = some (.int .i64 y.cd) := by rw [Nat.add_assoc]; exact he 2 _ rfl
      have e3 : wr.cell? ⟨b2, o2 + k * 5 + 3, none⟩ = some (.int .i64 y.tr) := by rw [Nat.add_assoc]; exact he 3 _ rfl
      have e4 : wr.cell? ⟨b2, o2 + k * 5 + 4, none⟩ = some (.slice qa y.tg.length qc) := by rw [Nat.add_assoc]; exact he 4 _ rfl
      have g1 : b1 < wr.heap.size := Nat.lt_of_lt_of_le hlt1 hb.size
      have g2 : b2 < wr.heap.size := Nat.lt_of_lt_of_le hlt2 hb.size
      have i1 : (0 : Int) ≤ (k : Int) := by omega
      have i2 : (k : Int) < (l.length : Int) := by omega
      clear hc1 hc2 hy1 hy2 hb hd he ht1 ht2
      go_upto_region 6 with fail
      go_cut [6, 7] (fun s6 s7 wx => ∃ X Y, s6 = .pointer (some ⟨X, 0, none⟩) ∧ s7 = .pointer (some ⟨Y, 0, none⟩) ∧ Ro wx X #[.int .i64 x.pl, .int .i64 x.id, .int .i64 x.cd, .int .i64 x.tr, .slice pa x.tg.length pc] 100 ∧ Ro wx Y #[.int .i64 y.pl, .int .i64 y.id, .int .i64 y.cd, .int .i64 y.tr, .slice qa y.tg.length qc] 100 ∧ Below wr.heap.size wr wx)
      case first =>
        refine rg57_6 (w0 := wr) (B := wr.heap.size) (n := wr.heap.size) (L := []) (E := fun _ => True) (F := fun _ => True) (by kernel_rfl) (by kernel_rfl) ⟨by go_grown, by go_size, (by simp [go_sem] <;> omega)⟩ trivial (fun _ _ _ _ => trivial) trivial (fun _ _ _ _ => trivial) (fun w41 K_w41 E_w41 F_w41 => ?_)
        have _ne : Nonempty (KX (wr.heap.size) wr (wr.heap.size) [] (fun _ => True)) := ⟨⟨_, K_w41, E_w41⟩⟩
        repeat (go_big_quiet_step (fail))
        refine wpQuiet_nil ?_
        have rd0 : ∀ s : KX (wr.heap.size) wr (wr.heap.size) [] (fun _ => True), s.val.cell? ⟨b1, o1 + k * 5, none⟩ = some (.int .i64 x.pl) := fun s => (s.kept.below.cell (p := ⟨b1, o1 + k * 5, none⟩) g1).trans d0
        have rd1 : ∀ s : KX (wr.heap.size) wr (wr.heap.size) [] (fun _ => True), s.val.cell? ⟨b1, o1 + k * 5 + 1, none⟩ = some (.int .i64 x.id) := fun s => (s.kept.below.cell (p := ⟨b1, o1 + k * 5 + 1, none⟩) g1).trans d1
        have rd2 : ∀ s : KX (wr.heap.size) wr (wr.heap.size) [] (fun _ => True), s.val.cell? ⟨b1, o1 + k * 5 + 2, none⟩ = some (.int .i64 x.cd) := fun s => (s.kept.below.cell (p := ⟨b1, o1 + k * 5 + 2, none⟩) g1).trans d2
        have rd3 : ∀ s : KX (wr.heap.size) wr (wr.heap.size) [] (fun _ => True), s.val.cell? ⟨b1, o1 + k * 5 + 3, none⟩ = some (.int .i64 x.tr) := fun s => (s.kept.below.cell (p := ⟨b1, o1 + k * 5 + 3, none⟩) g1).trans d3
        have rd4 : ∀ s : KX (wr.heap.size) wr (wr.heap.size) [] (fun _ => True), s.val.cell? ⟨b1, o1 + k * 5 + 4, none⟩ = some (.slice pa x.tg.length pc) := fun s => (s.kept.below.cell (p := ⟨b1, o1 + k * 5 + 4, none⟩) g1).trans d4
        have re0 : ∀ s : KX (wr.heap.size) wr (wr.heap.size) [] (fun _ => True), s.val.cell? ⟨b2, o2 + k * 5, none⟩ = some (.int .i64 y.pl) := fun s => (s.kept.below.cell (p := ⟨b2, o2 + k * 5, none⟩) g2).trans e0
        have re1 : ∀ s : KX (wr.heap.size) wr (wr.heap.size) [] (fun _ => True), s.val.cell? ⟨b2, o2 + k * 5 + 1, none⟩ = some (.int .i64 y.id) := fun s => (s.kept.below.cell (p := ⟨b2, o2 + k * 5 + 1, none⟩) g2).trans e1
        have re2 : ∀ s : KX (wr.heap.size) wr (wr.heap.size) [] (fun _ => True), s.val.cell? ⟨b2, o2 + k * 5 + 2, none⟩ = some (.int .i64 y.cd) := fun s => (s.kept.below.cell (p := ⟨b2, o2 + k * 5 + 2, none⟩) g2).trans e2
        have re3 : ∀ s : KX (wr.heap.size) wr (wr.heap.size) [] (fun _ => True), s.val.cell? ⟨b2, o2 + k * 5 + 3, none⟩ = some (.int .i64 y.tr) := fun s => (s.kept.below.cell (p := ⟨b2, o2 + k * 5 + 3, none⟩) g2).trans e3
        have re4 : ∀ s : KX (wr.heap.size) wr (wr.heap.size) [] (fun _ => True), s.val.cell? ⟨b2, o2 + k * 5 + 4, none⟩ = some (.slice qa y.tg.length qc) := fun s => (s.kept.below.cell (p := ⟨b2, o2 + k * 5 + 4, none⟩) g2).trans e4
        repeat (go_big_quiet_step (fail))
        refine wpQuiet_nil ?_
        clear rd0 rd1 rd2 rd3 rd4 re0 re1 re2 re3 re4
        have KH_w41 := Lib.hid K_w41
        have hw_w41 := K_w41.below
        have hz_w41 := K_w41.size
        clear K_w41
        clear E_w41 F_w41
        refine ⟨fun K hK0 => ?_, fun K hK0 => ?_, trivial⟩
        · skip
          have hK := Lib.hid hK0
          clear hK0
          have HW := Lib.hid hw_w41
          clear hw_w41 hz_w41 KH_w41
          go_wp2_with fail
          first | (refine ⟨rfl, ⟨⟨_, ⟨HW.out.alloc HW.out.size _, Nat.le_trans HW.out.size (by simp), by simp⟩, trivial⟩, rfl⟩, hK.out _ _ ?_⟩; clear hK K) | (refine ⟨⟨⟨_, ⟨HW.out.alloc HW.out.size _, Nat.le_trans HW.out.size (by simp), by simp⟩, trivial⟩, rfl⟩, hK.out _ _ ?_⟩; clear hK K)
          refine ⟨fun K hK0 => ?_, trivial⟩
          have hK := Lib.hid hK0
          clear hK0
          obtain ⟨w42, hw42⟩ : ∃ X, X = w41.alloc (.cells #[.int .i64 0, .int .i64 0, .int .i64 0, .int .i64 0, .slice none 0 0] 100) := ⟨_, rfl⟩
          rw [← hw42]
          have hb : Below w41.heap.size w41 w42 := by rw [hw42]; exact (Below.refl _ _).alloc (Nat.le_refl _) _
          have X0 : Ro w42 w41.heap.size #[.int .i64 0, .int .i64 0, .int .i64 0, .int .i64 0, .slice none 0 0] 100 := by rw [hw42]; exact Ro.new _ _ _
          obtain ⟨bX, hbX⟩ : ∃ n, n = w41.heap.size := ⟨_, rfl⟩
          rw [← hbX] at X0 ⊢
          have HGX : Hid (wr.heap.size ≤ bX) := Lib.hid (by rw [hbX]; exact HW.out.size)
          replace HW := Lib.hid (HW.out.trans (hb.mono HW.out.size))
          have X := Lib.hid X0
          clear hw42 hb X0 hbX
          go_wp2_with fail
          first | (refine ⟨rfl, ⟨⟨_, ⟨HW.out.alloc HW.out.size _, Nat.le_trans HW.out.size (by simp), by simp⟩, trivial⟩, rfl⟩, hK.out _ _ ?_⟩; clear hK K) | (refine ⟨⟨⟨_, ⟨HW.out.alloc HW.out.size _, Nat.le_trans HW.out.size (by simp), by simp⟩, trivial⟩, rfl⟩, hK.out _ _ ?_⟩; clear hK K)
          refine ⟨fun K hK0 => ?_, trivial⟩
          have hK := Lib.hid hK0
          clear hK0
          obtain ⟨w43, hw43⟩ : ∃ X, X = w42.alloc (.cells #[.int .i64 0, .int .i64 0, .int .i64 0, .int .i64 0, .slice none 0 0] 100) := ⟨_, rfl⟩
          rw [← hw43]
          have hb : Below w42.heap.size w42 w43 := by rw [hw43]; exact (Below.refl _ _).alloc (Nat.le_refl _) _
          have Y0 : Ro w43 w42.heap.size #[.int .i64 0, .int .i64 0, .int .i64 0, .int .i64 0, .slice none 0 0] 100 := by rw [hw43]; exact Ro.new _ _ _
          obtain ⟨bY, hbY⟩ : ∃ n, n = w42.heap.size := ⟨_, rfl⟩
          rw [← hbY] at Y0 ⊢
          have HGY : Hid (wr.heap.size ≤ bY) := Lib.hid (by rw [hbY]; exact HW.out.size)
          have HEYX : Hid (bX ≠ bY) := Lib.hid (by rw [hbY]; exact Nat.ne_of_lt X.out.lt)
          replace X := Lib.hid (X.out.below hb)
          replace HW := Lib.hid (HW.out.trans (hb.mono HW.out.size))
          have Y := Lib.hid Y0
          clear hw43 hb Y0 hbY
          go_wp2_with (refine wpList_store_ro 100 rfl _ _ rfl rfl rfl X.out rfl rfl (by simp [Value.oneCell']) ?_)
          obtain ⟨w44, hw44⟩ : ∃ X, X = w43.setRow bX #[.int .i64 x.pl, .int .i64 x.id, .int .i64 x.cd, .int .i64 x.tr, .slice pa x.tg.length pc] := ⟨_, rfl⟩
          rw [← hw44]
          have ho : Onl [bX] w43 w44 := by rw [hw44]; exact Onl.setRow (Onl.refl _ _) (.inl (by simp)) _
          replace X : Hid (Ro w44 bX #[.int .i64 x.pl, .int .i64 x.id, .int .i64 x.cd, .int .i64 x.tr, .slice pa x.tg.length pc] 100) := Lib.hid (by rw [hw44]; exact setRow_heap _ _ _ _ _ _ X.out)
          replace Y := Lib.hid (Y.out.onl ho (by simpa using HEYX.out.symm))
          replace HW := Lib.hid (belowOnl HW.out ho (by simpa using HGX.out) HW.out.size)
          clear ho hw44
          go_wp2_with fail
          first | (refine ⟨rfl, ⟨⟨_, ⟨HW.out, HW.out.size, by simp⟩, trivial⟩, rfl⟩, hK.out _ _ ?_⟩; clear hK K) | (refine ⟨⟨⟨_, ⟨HW.out, HW.out.size, by simp⟩, trivial⟩, rfl⟩, hK.out _ _ ?_⟩; clear hK K)
          refine ⟨fun K hK0 => ?_, trivial⟩
          have hK := Lib.hid hK0
          clear hK0
          go_wp2_with (refine wpList_store_ro 100 rfl _ _ rfl rfl rfl Y.out rfl rfl (by simp [Value.oneCell']) ?_)
          obtain ⟨w45, hw45⟩ : ∃ X, X = w44.setRow bY #[.int .i64 y.pl, .int .i64 y.id, .int .i64 y.cd, .int .i64 y.tr, .slice qa y.tg.length qc] := ⟨_, rfl⟩
          rw [← hw45]
          have ho : Onl [bY] w44 w45 := by rw [hw45]; exact Onl.setRow (Onl.refl _ _) (.inl (by simp)) _
          replace Y : Hid (Ro w45 bY #[.int .i64 y.pl, .int .i64 y.id, .int .i64 y.cd, .int .i64 y.tr, .slice qa y.tg.length qc] 100) := Lib.hid (by rw [hw45]; exact setRow_heap _ _ _ _ _ _ Y.out)
          replace X := Lib.hid (X.out.onl ho (by simpa using HEYX.out))
          replace HW := Lib.hid (belowOnl HW.out ho (by simpa using HGY.out) HW.out.size)
          clear ho hw45
          go_wp2_with fail
          first | (refine ⟨rfl, ⟨⟨_, ⟨HW.out, HW.out.size, by simp⟩, trivial⟩, rfl⟩, hK.out _ _ ?_⟩; clear hK K) | (refine ⟨⟨⟨_, ⟨HW.out, HW.out.size, by simp⟩, trivial⟩, rfl⟩, hK.out _ _ ?_⟩; clear hK K)
          clear _ne
          go_wp2_with fail
          go_meet
          case rel => exact ⟨bX, bY, rfl, rfl, X.out, Y.out, HW.out⟩
        · skip
          have hK := Lib.hid hK0
          clear hK0
          have HW := Lib.hid hw_w41
          clear hw_w41 hz_w41 KH_w41
          go_wp2_with fail
          first | (refine ⟨rfl, ⟨⟨_, ⟨HW.out.alloc HW.out.size _, Nat.le_trans HW.out.size (by simp), by simp⟩, trivial⟩, rfl⟩, hK.out _ _ ?_⟩; clear hK K) | (refine ⟨⟨⟨_, ⟨HW.out.alloc HW.out.size _, Nat.le_trans HW.out.size (by simp), by simp⟩, trivial⟩, rfl⟩, hK.out _ _ ?_⟩; clear hK K)
          refine ⟨fun K hK0 => ?_, trivial⟩
          have hK := Lib.hid hK0
          clear hK0
          obtain ⟨w42, hw42⟩ : ∃ X, X = w41.alloc (.cells #[.int .i64 0, .int .i64 0, .int .i64 0, .int .i64 0, .slice none 0 0] 100) := ⟨_, rfl⟩
          rw [← hw42]
          have hb : Below w41.heap.size w41 w42 := by rw [hw42]; exact (Below.refl _ _).alloc (Nat.le_refl _) _
          have Y0 : Ro w42 w41.heap.size #[.int .i64 0, .int .i64 0, .int .i64 0, .int .i64 0, .slice none 0 0] 100 := by rw [hw42]; exact Ro.new _ _ _
          obtain ⟨bY, hbY⟩ : ∃ n, n = w41.heap.size := ⟨_, rfl⟩
          rw [← hbY] at Y0 ⊢
          have HGY : Hid (wr.heap.size ≤ bY) := Lib.hid (by rw [hbY]; exact HW.out.size)
          replace HW := Lib.hid (HW.out.trans (hb.mono HW.out.size))
          have Y := Lib.hid Y0
          clear hw42 hb Y0 hbY
          go_wp2_with fail
          first | (refine ⟨rfl, ⟨⟨_, ⟨HW.out.alloc HW.out.size _, Nat.le_trans HW.out.size (by simp), by simp⟩, trivial⟩, rfl⟩, hK.out _ _ ?_⟩; clear hK K) | (refine ⟨⟨⟨_, ⟨HW.out.alloc HW.out.size _, Nat.le_trans HW.out.size (by simp), by simp⟩, trivial⟩, rfl⟩, hK.out _ _ ?_⟩; clear hK K)
          refine ⟨fun K hK0 => ?_, trivial⟩
          have hK := Lib.hid hK0
          clear hK0
          obtain ⟨w43, hw43⟩ : ∃ X, X = w42.alloc (.cells #[.int .i64 0, .int .i64 0, .int .i64 0, .int .i64 0, .slice none 0 0] 100) := ⟨_, rfl⟩
          rw [← hw43]
          have hb : Below w42.heap.size w42 w43 := by rw [hw43]; exact (Below.refl _ _).alloc (Nat.le_refl _) _
          have X0 : Ro w43 w42.heap.size #[.int .i64 0, .int .i64 0, .int .i64 0, .int .i64 0, .slice none 0 0] 100 := by rw [hw43]; exact Ro.new _ _ _
          obtain ⟨bX, hbX⟩ : ∃ n, n = w42.heap.size := ⟨_, rfl⟩
          rw [← hbX] at X0 ⊢
          have HGX : Hid (wr.heap.size ≤ bX) := Lib.hid (by rw [hbX]; exact HW.out.size)
          have HEXY : Hid (bY ≠ bX) := Lib.hid (by rw [hbX]; exact Nat.ne_of_lt Y.out.lt)
          replace Y := Lib.hid (Y.out.below hb)
          replace HW := Lib.hid (HW.out.trans (hb.mono HW.out.size))
          have X := Lib.hid X0
          clear hw43 hb X0 hbX
          go_wp2_with (refine wpList_store_ro 100 rfl _ _ rfl rfl rfl X.out rfl rfl (by simp [Value.oneCell']) ?_)
          obtain ⟨w44, hw44⟩ : ∃ X, X = w43.setRow bX #[.int .i64 x.pl, .int .i64 x.id, .int .i64 x.cd, .int .i64 x.tr, .slice pa x.tg.length pc] := ⟨_, rfl⟩
          rw [← hw44]
          have ho : Onl [bX] w43 w44 := by rw [hw44]; exact Onl.setRow (Onl.refl _ _) (.inl (by simp)) _
          replace X : Hid (Ro w44 bX #[.int .i64 x.pl, .int .i64 x.id, .int .i64 x.cd, .int .i64 x.tr, .slice pa x.tg.length pc] 100) := Lib.hid (by rw [hw44]; exact setRow_heap _ _ _ _ _ _ X.out)
          replace Y := Lib.hid (Y.out.onl ho (by simpa using HEXY.out))
          replace HW := Lib.hid (belowOnl HW.out ho (by simpa using HGX.out) HW.out.size)
          clear ho hw44
          go_wp2_with fail
          first | (refine ⟨rfl, ⟨⟨_, ⟨HW.out, HW.out.size, by simp⟩, trivial⟩, rfl⟩, hK.out _ _ ?_⟩; clear hK K) | (refine ⟨⟨⟨_, ⟨HW.out, HW.out.size, by simp⟩, trivial⟩, rfl⟩, hK.out _ _ ?_⟩; clear hK K)
          refine ⟨fun K hK0 => ?_, trivial⟩
          have hK := Lib.hid hK0
          clear hK0
          go_wp2_with (refine wpList_store_ro 100 rfl _ _ rfl rfl rfl Y.out rfl rfl (by simp [Value.oneCell']) ?_)
          obtain ⟨w45, hw45⟩ : ∃ X, X = w44.setRow bY #[.int .i64 y.pl, .int .i64 y.id, .int .i64 y.cd, .int .i64 y.tr, .slice qa y.tg.length qc] := ⟨_, rfl⟩
          rw [← hw45]
          have ho : Onl [bY] w44 w45 := by rw [hw45]; exact Onl.setRow (Onl.refl _ _) (.inl (by simp)) _
          replace Y : Hid (Ro w45 bY #[.int .i64 y.pl, .int .i64 y.id, .int .i64 y.cd, .int .i64 y.tr, .slice qa y.tg.length qc] 100) := Lib.hid (by rw [hw45]; exact setRow_heap _ _ _ _ _ _ Y.out)
          replace X := Lib.hid (X.out.onl ho (by simpa using HEXY.out.symm))
          replace HW := Lib.hid (belowOnl HW.out ho (by simpa using HGY.out) HW.out.size)
          clear ho hw45
          go_wp2_with fail
          first | (refine ⟨rfl, ⟨⟨_, ⟨HW.out, HW.out.size, by simp⟩, trivial⟩, rfl⟩, hK.out _ _ ?_⟩; clear hK K) | (refine ⟨⟨⟨_, ⟨HW.out, HW.out.size, by simp⟩, trivial⟩, rfl⟩, hK.out _ _ ?_⟩; clear hK K)
          clear _ne
          go_wp2_with fail
          go_meet
          case rel => exact ⟨bX, bY, rfl, rfl, X.out, Y.out, HW.out⟩
      case rest =>
        obtain ⟨bX, bY, rfl, rfl, hX, hY, hW⟩ := hcut
        replace HB := Lib.hid (below_via HB.out hW)
        have HRX := Lib.hid hX
        have HRY := Lib.hid hY
        have k0 : wc.cell? ⟨bX, 0, none⟩ = some (.int .i64 x.pl) := HRX.out.cell 0
        have l0 : wc.cell? ⟨bY, 0, none⟩ = some (.int .i64 y.pl) := HRY.out.cell 0
        have k1 : wc.cell? ⟨bX, 1, none⟩ = some (.int .i64 x.id) := HRX.out.cell 1
        have l1 : wc.cell? ⟨bY, 1, none⟩ = some (.int .i64 y.id) := HRY.out.cell 1
        have k2 : wc.cell? ⟨bX, 2, none⟩ = some (.int .i64 x.cd) := HRX.out.cell 2
        have l2 : wc.cell? ⟨bY, 2, none⟩ = some (.int .i64 y.cd) := HRY.out.cell 2
        have k3 : wc.cell? ⟨bX, 3, none⟩ = some (.int .i64 x.tr) := HRX.out.cell 3
        have l3 : wc.cell? ⟨bY, 3, none⟩ = some (.int .i64 y.tr) := HRY.out.cell 3
        have k4 : wc.cell? ⟨bX, 4, none⟩ = some (.slice pa x.tg.length pc) := HRX.out.cell 4
        have l4 : wc.cell? ⟨bY, 4, none⟩ = some (.slice qa y.tg.length qc) := HRY.out.cell 4
        have p1 := hX.lt
        have p2 := hY.lt
        clear d0 d1 d2 d3 d4 e0 e1 e2 e3 e4 g1 g2 hX hY hW
        cases h0 : (x.pl != y.pl)
        case true =>
          have HNE := Lib.hid (show x ≠ y from fun e => by rw [e] at h0; simp at h0)
          go_wp2_with fail
          go_returns
          exact EqA.no (ne_at HX.out HY.out HNE.out) HB.out
        cases h1 : (x.id != y.id)
        case true =>
          have HNE := Lib.hid (show x ≠ y from fun e => by rw [e] at h1; simp at h1)
          go_wp2_with fail
          go_returns
          exact EqA.no (ne_at HX.out HY.out HNE.out) HB.out
        cases h2 : (x.cd != y.cd)
        case true =>
          have HNE := Lib.hid (show x ≠ y from fun e => by rw [e] at h2; simp at h2)
          go_wp2_with fail
          go_returns
          exact EqA.no (ne_at HX.out HY.out HNE.out) HB.out
        cases h3 : (x.tr != y.tr)
        case true =>
          have HNE := Lib.hid (show x ≠ y from fun e => by rw [e] at h3; simp at h3)
          go_wp2_with fail
          go_returns
          exact EqA.no (ne_at HX.out HY.out HNE.out) HB.out
        by_cases hlt : x.tg.length = y.tg.length
        case neg =>
          have t1 : (x.tg.length != y.tg.length) = true := by simpa using hlt
          have t2 : ((x.tg.length : Int) != (y.tg.length : Int)) = true := by simp only [bne_iff_ne, ne_eq, Int.natCast_inj]; exact hlt
          have HNE : Hid (x ≠ y) := Lib.hid (fun e => hlt (by rw [e]))
          clear hlt
          go_wp2_with fail
          go_returns
          exact EqA.no (ne_at HX.out HY.out HNE.out) HB.out
        have HTE := Lib.hid hlt
        rw [← hlt] at HT2 l4 HRY
        clear hlt
        have t1 : (x.tg.length != x.tg.length) = false := by simp
        have t2 : ((x.tg.length : Int) != (x.tg.length : Int)) = false := by simp
        have HEX : Hid (x.tg = y.tg → x = y) := Lib.hid (fun h => (it_tg (by simpa using h0) (by simpa using h1) (by simpa using h2) (by simpa using h3)).1 h)
        obtain ⟨hmx, b3', c3', hv1, hf3⟩ := HT1.out.form
        obtain ⟨_, b4', c4', hv2, hf4⟩ := HT2.out.form
        simp only [Value.slice.injEq] at hv1 hv2
        obtain ⟨rfl, hz1, rfl⟩ := hv1
        obtain ⟨rfl, hz2, rfl⟩ := hv2
        clear hz1 hz2
        have HF3 := Lib.hid hf3
        have HF4 := Lib.hid hf4
        clear hf3 hf4
        go_wp2_with fail
        clear h0 h1 h2 h3 k0 k1 k2 k3 k4 l0 l1 l2 l3 l4 p1 p2
        obtain ⟨wo, rfl⟩ : ∃ W, W = wc := ⟨_, rfl⟩
        go_loopw [8] (fun v wr => EiL w x.tg y.tg bX bY #[.int .i64 x.pl, .int .i64 x.id, .int .i64 x.cd, .int .i64 x.tr, .slice pa x.tg.length pc] #[.int .i64 y.pl, .int .i64 y.id, .int .i64 y.cd, .int .i64 y.tr, .slice qa x.tg.length qc] v wr) (fun v _ => x.tg.length - (intOf v).toNat)
        case atStart => exact ⟨0, by omega, rfl, rfl, HB.out, HRX.out, HRY.out⟩
        case round =>
          obtain ⟨i, hi, rfl, htt, hb, hrx, hry⟩ := hrel
          replace HB := Lib.hid hb
          replace HRX := Lib.hid hrx
          replace HRY := Lib.hid hry
          have HTT := Lib.hid htt
          have k4 : wr.cell? ⟨bX, 4, none⟩ = some (.slice pa x.tg.length pc) := hrx.cell 4
          have l4 : wr.cell? ⟨bY, 4, none⟩ = some (.slice qa x.tg.length qc) := hry.cell 4
          have p1 := hrx.lt
          have p2 := hry.lt
          clear hrx hry htt
          by_cases hil : i < x.tg.length
          · obtain ⟨b3, o3, rfl, hlt3, hc3⟩ := HF3.out (by omega)
            obtain ⟨b4, o4, rfl, hlt4, hc4⟩ := HF4.out (by have := HTE.out; omega)
            obtain ⟨t, ht⟩ : ∃ t, x.tg[i]? = some t := ⟨_, List.getElem?_eq_getElem hil⟩
            obtain ⟨s, hs⟩ : ∃ t, y.tg[i]? = some t := ⟨_, List.getElem?_eq_getElem (by have := HTE.out; omega)⟩
            have D1 : Hid (∀ (j : Nat) (u : Value), (tc t)[j]? = some u → wr.cell? ⟨b3, o3 + (i * 2 + j), none⟩ = some u) := Lib.hid (fun j u hu => (hb.cell (p := ⟨b3, o3 + (i * 2 + j), none⟩) hlt3).trans (hc3 i t ht j u hu))
            have D2 : Hid (∀ (j : Nat) (u : Value), (tc s)[j]? = some u → wr.cell? ⟨b4, o4 + (i * 2 + j), none⟩ = some u) := Lib.hid (fun j u hu => (hb.cell (p := ⟨b4, o4 + (i * 2 + j), none⟩) hlt4).trans (hc4 i s hs j u hu))
            have g3 : b3 < wr.heap.size := Nat.lt_of_lt_of_le hlt3 hb.size
            have g4 : b4 < wr.heap.size := Nat.lt_of_lt_of_le hlt4 hb.size
            have j1 : (0 : Int) ≤ (i : Int) := by omega
            have j2 : (i : Int) < (x.tg.length : Int) := by omega
            have HS1 := Lib.hid ht
            have HS2 := Lib.hid hs
            clear hc3 hc4 ht hs hb
            by_cases hts : t = s
            · have HRR : Hid (false = true ↔ t ≠ s) := Lib.hid (by simpa using hts)
              have HN := Lib.hid (eq_step HTT.out HS1.out (by rw [hts]; exact HS2.out))
              clear HTT HS1 HS2 hts
              go_upto_region 12 with fail
              refine rg57_12 (w0 := wr) (B := wr.heap.size) (n := wr.heap.size) (L := []) (E := fun _ => True) (F := fun _ => True) (by kernel_rfl) (by kernel_rfl) ⟨by go_grown, by go_size, (by simp [go_sem] <;> omega)⟩ trivial (fun _ _ _ _ => trivial) trivial (fun _ _ _ _ => trivial) (fun w81 K_w81 E_w81 F_w81 => ?_)
              have _ne : Nonempty (KX (wr.heap.size) wr (wr.heap.size) [] (fun _ => True)) := ⟨⟨_, K_w81, E_w81⟩⟩
              have q1 : ∀ W', (∃ s' : KX (wr.heap.size) wr (wr.heap.size) [] (fun _ => True), W' = s'.val) → W'.rangeAt b3 (o3 + i * 2) (tc t) := by rintro _ ⟨s', rfl⟩; exact fun j u hu => by rw [Nat.add_assoc]; exact (s'.kept.below.cell (p := ⟨b3, _, none⟩) g3).trans (D1.out j u hu)
              have q2 : ∀ W', (∃ s' : KX (wr.heap.size) wr (wr.heap.size) [] (fun _ => True), W' = s'.val) → W'.rangeAt b4 (o4 + i * 2) (tc s) := by rintro _ ⟨s', rfl⟩; exact fun j u hu => by rw [Nat.add_assoc]; exact (s'.kept.below.cell (p := ⟨b4, _, none⟩) g4).trans (D2.out j u hu)
              repeat (first | (go_big_quiet_want; (first | apply quiet_load_Tg _ rfl rfl q1 | apply quiet_load_Tg _ rfl rfl q2 | apply quiet_neq_Tg HRR _ _ rfl rfl rfl); (focus (simp [go_sem]; rfl)); go_big_quiet_on) | go_big_quiet_step (fail))
              refine wpQuiet_nil ?_
              have rk : ∀ s : KX (wr.heap.size) wr (wr.heap.size) [] (fun _ => True), s.val.cell? ⟨bX, 4, none⟩ = some (.slice (some ⟨b3, o3, none⟩) x.tg.length pc) := fun s => (s.kept.below.cell (p := ⟨bX, 4, none⟩) p1).trans k4
              have rl : ∀ s : KX (wr.heap.size) wr (wr.heap.size) [] (fun _ => True), s.val.cell? ⟨bY, 4, none⟩ = some (.slice (some ⟨b4, o4, none⟩) x.tg.length qc) := fun s => (s.kept.below.cell (p := ⟨bY, 4, none⟩) p2).trans l4
              repeat (first | (go_big_quiet_want; (first | apply quiet_load_Tg _ rfl rfl q1 | apply quiet_load_Tg _ rfl rfl q2 | apply quiet_neq_Tg HRR _ _ rfl rfl rfl); (focus (simp [go_sem]; rfl)); go_big_quiet_on) | go_big_quiet_step (fail))
              refine wpQuiet_nil ?_
              repeat (first | (go_big_quiet_want; (first | apply quiet_load_Tg _ rfl rfl q1 | apply quiet_load_Tg _ rfl rfl q2 | apply quiet_neq_Tg HRR _ _ rfl rfl rfl); (focus (simp [go_sem]; rfl)); go_big_quiet_on) | go_big_quiet_step (fail))
              refine wpQuiet_nil ?_
              repeat (first | (go_big_quiet_want; (first | apply quiet_load_Tg _ rfl rfl q1 | apply quiet_load_Tg _ rfl rfl q2 | apply quiet_neq_Tg HRR _ _ rfl rfl rfl); (focus (simp [go_sem]; rfl)); go_big_quiet_on) | go_big_quiet_step (fail))
              refine wpQuiet_nil ?_
              repeat (first | (go_big_quiet_want; (first | apply quiet_load_Tg _ rfl rfl q1 | apply quiet_load_Tg _ rfl rfl q2 | apply quiet_neq_Tg HRR _ _ rfl rfl rfl); (focus (simp [go_sem]; rfl)); go_big_quiet_on) | go_big_quiet_step (fail))
              refine wpQuiet_nil ?_
              repeat (first | (go_big_quiet_want; (first | apply quiet_load_Tg _ rfl rfl q1 | apply quiet_load_Tg _ rfl rfl q2 | apply quiet_neq_Tg HRR _ _ rfl rfl rfl); (focus (simp [go_sem]; rfl)); go_big_quiet_on) | go_big_quiet_step (fail))
              refine wpQuiet_nil ?_
              repeat (first | (go_big_quiet_want; (first | apply quiet_load_Tg _ rfl rfl q1 | apply quiet_load_Tg _ rfl rfl q2 | apply quiet_neq_Tg HRR _ _ rfl rfl rfl); (focus (simp [go_sem]; rfl)); go_big_quiet_on) | go_big_quiet_step (fail))
              refine wpQuiet_nil ?_
              clear rk rl
              clear _ne
              have KH_w81 := Lib.hid K_w81
              have hw_w81 := K_w81.below
              have hz_w81 := K_w81.size
              clear K_w81
              clear E_w81 F_w81
              replace HB := Lib.hid (below_via HB.out KH_w81.out.below)
              replace HRX := Lib.hid (HRX.out.below KH_w81.out.below)
              replace HRY := Lib.hid (HRY.out.below KH_w81.out.below)
              go_wp2_with fail
              go_roundw
              case rel => exact ⟨i + 1, by omega, by go_num, HN.out, HB.out, HRX.out, HRY.out⟩
              case measure => simp [intOf]; omega
            · have HRR : Hid (true = true ↔ t ≠ s) := Lib.hid (by simpa using hts)
              have HNT := Lib.hid (ne_at HS1.out HS2.out hts)
              have HN : Hid (l ≠ m) := Lib.hid (ne_at HX.out HY.out (fun e => HNT.out (by rw [e])))
              clear HTT HS1 HS2 hts
              go_upto_region 12 with fail
              refine rg57_12 (w0 := wr) (B := wr.heap.size) (n := wr.heap.size) (L := []) (E := fun _ => True) (F := fun _ => True) (by kernel_rfl) (by kernel_rfl) ⟨by go_grown, by go_size, (by simp [go_sem] <;> omega)⟩ trivial (fun _ _ _ _ => trivial) trivial (fun _ _ _ _ => trivial) (fun w81 K_w81 E_w81 F_w81 => ?_)
              have _ne : Nonempty (KX (wr.heap.size) wr (wr.heap.size) [] (fun _ => True)) := ⟨⟨_, K_w81, E_w81⟩⟩
              have q1 : ∀ W', (∃ s' : KX (wr.heap.size) wr (wr.heap.size) [] (fun _ => True), W' = s'.val) → W'.rangeAt b3 (o3 + i * 2) (tc t) := by rintro _ ⟨s', rfl⟩; exact fun j u hu => by rw [Nat.add_assoc]; exact (s'.kept.below.cell (p := ⟨b3, _, none⟩) g3).trans (D1.out j u hu)
              have q2 : ∀ W', (∃ s' : KX (wr.heap.size) wr (wr.heap.size) [] (fun _ => True), W' = s'.val) → W'.rangeAt b4 (o4 + i * 2) (tc s) := by rintro _ ⟨s', rfl⟩; exact fun j u hu => by rw [Nat.add_assoc]; exact (s'.kept.below.cell (p := ⟨b4, _, none⟩) g4).trans (D2.out j u hu)
              repeat (first | (go_big_quiet_want; (first | apply quiet_load_Tg _ rfl rfl q1 | apply quiet_load_Tg _ rfl rfl q2 | apply quiet_neq_Tg HRR _ _ rfl rfl rfl); (focus (simp [go_sem]; rfl)); go_big_quiet_on) | go_big_quiet_step (fail))
              refine wpQuiet_nil ?_
              have rk : ∀ s : KX (wr.heap.size) wr (wr.heap.size) [] (fun _ => True), s.val.cell? ⟨bX, 4, none⟩ = some (.slice (some ⟨b3, o3, none⟩) x.tg.length pc) := fun s => (s.kept.below.cell (p := ⟨bX, 4, none⟩) p1).trans k4
              have rl : ∀ s : KX (wr.heap.size) wr (wr.heap.size) [] (fun _ => True), s.val.cell? ⟨bY, 4, none⟩ = some (.slice (some ⟨b4, o4, none⟩) x.tg.length qc) := fun s => (s.kept.below.cell (p := ⟨bY, 4, none⟩) p2).trans l4
              repeat (first | (go_big_quiet_want; (first | apply quiet_load_Tg _ rfl rfl q1 | apply quiet_load_Tg _ rfl rfl q2 | apply quiet_neq_Tg HRR _ _ rfl rfl rfl); (focus (simp [go_sem]; rfl)); go_big_quiet_on) | go_big_quiet_step (fail))
              refine wpQuiet_nil ?_
              repeat (first | (go_big_quiet_want; (first | apply quiet_load_Tg _ rfl rfl q1 | apply quiet_load_Tg _ rfl rfl q2 | apply quiet_neq_Tg HRR _ _ rfl rfl rfl); (focus (simp [go_sem]; rfl)); go_big_quiet_on) | go_big_quiet_step (fail))
              refine wpQuiet_nil ?_
              repeat (first | (go_big_quiet_want; (first | apply quiet_load_Tg _ rfl rfl q1 | apply quiet_load_Tg _ rfl rfl q2 | apply quiet_neq_Tg HRR _ _ rfl rfl rfl); (focus (simp [go_sem]; rfl)); go_big_quiet_on) | go_big_quiet_step (fail))
              refine wpQuiet_nil ?_
              repeat (first | (go_big_quiet_want; (first | apply quiet_load_Tg _ rfl rfl q1 | apply quiet_load_Tg _ rfl rfl q2 | apply quiet_neq_Tg HRR _ _ rfl rfl rfl); (focus (simp [go_sem]; rfl)); go_big_quiet_on) | go_big_quiet_step (fail))
              refine wpQuiet_nil ?_
              repeat (first | (go_big_quiet_want; (first | apply quiet_load_Tg _ rfl rfl q1 | apply quiet_load_Tg _ rfl rfl q2 | apply quiet_neq_Tg HRR _ _ rfl rfl rfl); (focus (simp [go_sem]; rfl)); go_big_quiet_on) | go_big_quiet_step (fail))
              refine wpQuiet_nil ?_
              repeat (first | (go_big_quiet_want; (first | apply quiet_load_Tg _ rfl rfl q1 | apply quiet_load_Tg _ rfl rfl q2 | apply quiet_neq_Tg HRR _ _ rfl rfl rfl); (focus (simp [go_sem]; rfl)); go_big_quiet_on) | go_big_quiet_step (fail))
              refine wpQuiet_nil ?_
              clear rk rl
              clear _ne
              have KH_w81 := Lib.hid K_w81
              have hw_w81 := K_w81.below
              have hz_w81 := K_w81.size
              clear K_w81
              clear E_w81 F_w81
              replace HB := Lib.hid (below_via HB.out KH_w81.out.below)
              replace HRX := Lib.hid (HRX.out.below KH_w81.out.below)
              replace HRY := Lib.hid (HRY.out.below KH_w81.out.below)
              go_wp2_with fail
              go_returns
              exact EqA.no HN.out HB.out
          · obtain rfl : i = x.tg.length := by omega
            have HN := Lib.hid (eq_step HT.out HX.out (by rw [HEX.out (by have h := HTT.out; rw [List.take_length, HTE.out, List.take_length] at h; exact h)]; exact HY.out))
            clear hb
            go_wp2_with fail
            go_roundw
            case rel => exact ⟨k + 1, by have := HKL.out; omega, by have := HKL.out; go_num, HN.out, HB.out⟩
            case measure => have := HKL.out; simp [intOf]; omega
    · obtain rfl : k = l.length := by omega
      have HN : Hid (l = m) := Lib.hid (by have h := HT.out; rw [List.take_length, HL.out, List.take_length] at h; exact h)
      clear hb HT
      go_wp2_with fail
      go_returns
      exact EqA.yes HN.out HB.out
end Go.Proofs.Yteoeahmnonolmaa
namespace Go.Proofs.Yteoeahmnonolmaa
open Go.RowKit Plain
set_option linter.unusedVariables false
set_option linter.unusedSimpArgs false

theorem rg26_4 {P : Program} {B n : Nat} {w0 : World} {L : List (Nat × Nat × Value)} {E F : World → Prop} {id : Nat} {Q : Exit → Act → World → Prop} {a : Act} {w : World} {o0 o1 o2 o3 o4 o5 o6 o7 o8 o9 o10 o11 : Oper} (hm : P.follows .mixedOrders = true)
    (hB : (Region.noSelect [o0, o1, o2, o3, o4, o5, o6, o7, o8, o9, o10, o11].toArray && Scr.ok .any [o0, o1, o2, o3, o4, o5, o6, o7, o8, o9, o10, o11].toArray [3, 7] [0, 1, 2, 4, 5, 6] (.free 0 (.free 1 (.free 2 (.free 4 (.free 5 (.free 6 (.read 3 (.read 7 (.alt 8 (.alt 9 (.alt 10 (.alt 11 .done .stop) .stop) .stop) (.alt 9 (.alt 8 (.alt 10 (.alt 11 .done .stop) .stop) .stop) .stop)))))))))) true true [o0, o1, o2, o3, o4, o5, o6, o7, o8, o9, o10, o11].toArray.size (Array.replicate [o0, o1, o2, o3, o4, o5, o6, o7, o8, o9, o10, o11].toArray.size false)) = true)
    (k : Kept B w0 n L w) (he : E w) (hE : ∀ W W', E W → Below W.heap.size W W' → E W') (hf : F w) (hF : ∀ W W', F W → Below W.heap.size W W' → F W')
    (h : ∀ wk, Kept B w0 n L wk → E wk → F wk → wpQuiet P [o0, o1, o2, o3, o4, o5, o6, o7, o8, o9, o10, o11].toArray (fun _ => True) (fun a0 => wpQuiet P [o0, o1, o2, o3, o4, o5, o6, o7, o8, o9, o10, o11].toArray (fun w' => ∃ s : KX B w0 n L E, w' = s.val) (fun a1 => ((∀ K2 : Act → World → Prop, (∀ a2 w2, ((∀ K3 : Act → World → Prop, (∀ a3 w3, ((∀ K4 : Act → World → Prop, (∀ a4 w4, ((∀ K5 : Act → World → Prop, (∀ a5 w5, Q .normal a5 w5 → K5 a5 w5) → wpList P [o0, o1, o2, o3, o4, o5, o6, o7, o8, o9, o10, o11].toArray (fun e a5 w5 => e = .normal ∧ (∃ s : KX B w0 n L E, w5 = s.val) ∧ K5 a5 w5) [o11] a4 w4) ∧ True) → K4 a4 w4) → wpList P [o0, o1, o2, o3, o4, o5, o6, o7, o8, o9, o10, o11].toArray (fun e a4 w4 => e = .normal ∧ (∃ s : KX B w0 n L E, w4 = s.val) ∧ K4 a4 w4) [o10] a3 w3) ∧ True) → K3 a3 w3) → wpList P [o0, o1, o2, o3, o4, o5, o6, o7, o8, o9, o10, o11].toArray (fun e a3 w3 => e = .normal ∧ (∃ s : KX B w0 n L E, w3 = s.val) ∧ K3 a3 w3) [o9] a2 w2) ∧ True) → K2 a2 w2) → wpList P [o0, o1, o2, o3, o4, o5, o6, o7, o8, o9, o10, o11].toArray (fun e a2 w2 => e = .normal ∧ (∃ s : KX B w0 n L E, w2 = s.val) ∧ K2 a2 w2) [o8] a1 wk) ∧ (∀ K2 : Act → World → Prop, (∀ a2 w2, ((∀ K3 : Act → World → Prop, (∀ a3 w3, ((∀ K4 : Act → World → Prop, (∀ a4 w4, ((∀ K5 : Act → World → Prop, (∀ a5 w5, Q .normal a5 w5 → K5 a5 w5) → wpList P [o0, o1, o2, o3, o4, o5, o6, o7, o8, o9, o10, o11].toArray (fun e a5 w5 => e = .normal ∧ (∃ s : KX B w0 n L E, w5 = s.val) ∧ K5 a5 w5) [o11] a4 w4) ∧ True) → K4 a4 w4) → wpList P [o0, o1, o2, o3, o4, o5, o6, o7, o8, o9, o10, o11].toArray (fun e a4 w4 => e = .normal ∧ (∃ s : KX B w0 n L E, w4 = s.val) ∧ K4 a4 w4) [o10] a3 w3) ∧ True) → K3 a3 w3) → wpList P [o0, o1, o2, o3, o4, o5, o6, o7, o8, o9, o10, o11].toArray (fun e a3 w3 => e = .normal ∧ (∃ s : KX B w0 n L E, w3 = s.val) ∧ K3 a3 w3) [o8] a2 w2) ∧ True) → K2 a2 w2) → wpList P [o0, o1, o2, o3, o4, o5, o6, o7, o8, o9, o10, o11].toArray (fun e a2 w2 => e = .normal ∧ (∃ s : KX B w0 n L E, w2 = s.val) ∧ K2 a2 w2) [o9] a1 wk) ∧ True)) [o3, o7] a0) [o0, o1, o2, o4, o5, o6] a) : (Code.region id [o0, o1, o2, o3, o4, o5, o6, o7, o8, o9, o10, o11].toArray true).wp P Q a w := by
  have e1 : E w.drew := hE _ _ he ((Below.refl _ _).drew)
  have g := h _ k.drew e1 (hF _ _ hf ((Below.refl _ _).drew))
  exact wp_region_scr (U := (fun w' => ∃ s : KX B w0 n L E, w' = s.val)) (ops := [o0, o1, o2, o3, o4, o5, o6, o7, o8, o9, o10, o11].toArray) (.free 0 (.free 1 (.free 2 (.free 4 (.free 5 (.free 6 (.read 3 (.read 7 (.alt 8 (.alt 9 (.alt 10 (.alt 11 .done .stop) .stop) .stop) (.alt 9 (.alt 8 (.alt 10 (.alt 11 .done .stop) .stop) .stop) .stop)))))))))) [3, 7] [0, 1, 2, 4, 5, 6] hm hB ⟨⟨_, k.drew, e1⟩, rfl⟩ (Scr.of_free rfl g (fun _ g0 => Scr.of_free rfl g0 (fun _ g1 => Scr.of_free rfl g1 (fun _ g2 => Scr.of_free rfl g2 (fun _ g3 => Scr.of_free rfl g3 (fun _ g4 => Scr.of_free rfl g4 (fun _ g5 => Scr.of_read rfl g5 (fun _ g6 => Scr.of_read rfl g6 (fun _ g7 => (Scr.of_alt rfl (g7.1 _ (fun _ _ g => g)) (fun _ _ g8 => (Scr.of_alt rfl (g8.1 _ (fun _ _ g => g)) (fun _ _ g9 => (Scr.of_alt rfl (g9.1 _ (fun _ _ g => g)) (fun _ _ g10 => (Scr.of_alt rfl (g10.1 _ (fun _ _ g => g)) (fun _ _ g11 => g11) trivial)) trivial)) trivial)) (Scr.of_alt rfl (g7.2.1 _ (fun _ _ g => g)) (fun _ _ g8 => (Scr.of_alt rfl (g8.1 _ (fun _ _ g => g)) (fun _ _ g9 => (Scr.of_alt rfl (g9.1 _ (fun _ _ g => g)) (fun _ _ g10 => (Scr.of_alt rfl (g10.1 _ (fun _ _ g => g)) (fun _ _ g11 => g11) trivial)) trivial)) trivial)) trivial)))))))))))
theorem rg26_12 {P : Program} {B n : Nat} {w0 : World} {L : List (Nat × Nat × Value)} {E F : World → Prop} {id : Nat} {Q : Exit → Act → World → Prop} {a : Act} {w : World} {o0 o1 o2 o3 o4 o5 o6 o7 o8 o9 o10 : Oper} (hm : P.follows .mixedOrders = true)
    (hB : (Region.noSelect [o0, o1, o2, o3, o4, o5, o6, o7, o8, o9, o10].toArray && Scr.ok .any [o0, o1, o2, o3, o4, o5, o6, o7, o8, o9, o10].toArray [1, 4, 6, 9] [0, 2, 3, 5, 7, 8, 10] (.free 0 (.free 2 (.free 5 (.free 7 (.read 1 (.free 3 (.read 4 (.read 6 (.free 8 (.read 9 (.free 10 .done))))))))))) true true [o0, o1, o2, o3, o4, o5, o6, o7, o8, o9, o10].toArray.size (Array.replicate [o0, o1, o2, o3, o4, o5, o6, o7, o8, o9, o10].toArray.size false)) = true)
    (k : Kept B w0 n L w) (he : E w) (hE : ∀ W W', E W → Below W.heap.size W W' → E W') (hf : F w) (hF : ∀ W W', F W → Below W.heap.size W W' → F W')
    (h : ∀ wk, Kept B w0 n L wk → E wk → F wk → wpQuiet P [o0, o1, o2, o3, o4, o5, o6, o7, o8, o9, o10].toArray (fun _ => True) (fun a0 => wpQuiet P [o0, o1, o2, o3, o4, o5, o6, o7, o8, o9, o10].toArray (fun w' => ∃ s : KX B w0 n L E, w' = s.val) (fun a1 => wpQuiet P [o0, o1, o2, o3, o4, o5, o6, o7, o8, o9, o10].toArray (fun _ => True) (fun a2 => wpQuiet P [o0, o1, o2, o3, o4, o5, o6, o7, o8, o9, o10].toArray (fun w' => ∃ s : KX B w0 n L E, w' = s.val) (fun a3 => wpQuiet P [o0, o1, o2, o3, o4, o5, o6, o7, o8, o9, o10].toArray (fun _ => True) (fun a4 => wpQuiet P [o0, o1, o2, o3, o4, o5, o6, o7, o8, o9, o10].toArray (fun w' => ∃ s : KX B w0 n L E, w' = s.val) (fun a5 => wpQuiet P [o0, o1, o2, o3, o4, o5, o6, o7, o8, o9, o10].toArray (fun _ => True) (fun a6 => Q .normal a6 wk) [o10] a5) [o9] a4) [o8] a3) [o4, o6] a2) [o3] a1) [o1] a0) [o0, o2, o5, o7] a) : (Code.region id [o0, o1, o2, o3, o4, o5, o6, o7, o8, o9, o10].toArray true).wp P Q a w := by
  have e1 : E w.drew := hE _ _ he ((Below.refl _ _).drew)
  have g := h _ k.drew e1 (hF _ _ hf ((Below.refl _ _).drew))
  exact wp_region_scr (U := (fun w' => ∃ s : KX B w0 n L E, w' = s.val)) (ops := [o0, o1, o2, o3, o4, o5, o6, o7, o8, o9, o10].toArray) (.free 0 (.free 2 (.free 5 (.free 7 (.read 1 (.free 3 (.read 4 (.read 6 (.free 8 (.read 9 (.free 10 .done))))))))))) [1, 4, 6, 9] [0, 2, 3, 5, 7, 8, 10] hm hB ⟨⟨_, k.drew, e1⟩, rfl⟩ (Scr.of_free rfl g (fun _ g0 => Scr.of_free rfl g0 (fun _ g1 => Scr.of_free rfl g1 (fun _ g2 => Scr.of_free rfl g2 (fun _ g3 => Scr.of_read rfl g3 (fun _ g4 => Scr.of_free rfl g4 (fun _ g5 => Scr.of_read rfl g5 (fun _ g6 => Scr.of_read rfl g6 (fun _ g7 => Scr.of_free rfl g7 (fun _ g8 => Scr.of_read rfl g8 (fun _ g9 => Scr.of_free rfl g9 (fun _ g10 => g10))))))))))))
theorem rg26_17 {P : Program} {B n : Nat} {w0 : World} {L : List (Nat × Nat × Value)} {E F : World → Prop} {id : Nat} {Q : Exit → Act → World → Prop} {a : Act} {w : World} {o0 o1 o2 o3 o4 o5 o6 o7 o8 o9 o10 : Oper} (hm : P.follows .mixedOrders = true)
    (hB : (Region.noSelect [o0, o1, o2, o3, o4, o5, o6, o7, o8, o9, o10].toArray && Scr.ok .any [o0, o1, o2, o3, o4, o5, o6, o7, o8, o9, o10].toArray [1, 4, 6, 9] [0, 2, 3, 5, 7, 8, 10] (.free 0 (.free 2 (.free 5 (.free 7 (.read 1 (.free 3 (.read 4 (.read 6 (.free 8 (.read 9 (.free 10 .done))))))))))) true true [o0, o1, o2, o3, o4, o5, o6, o7, o8, o9, o10].toArray.size (Array.replicate [o0, o1, o2, o3, o4, o5, o6, o7, o8, o9, o10].toArray.size false)) = true)
    (k : Kept B w0 n L w) (he : E w) (hE : ∀ W W', E W → Below W.heap.size W W' → E W') (hf : F w) (hF : ∀ W W', F W → Below W.heap.size W W' → F W')
    (h : ∀ wk, Kept B w0 n L wk → E wk → F wk → wpQuiet P [o0, o1, o2, o3, o4, o5, o6, o7, o8, o9, o10].toArray (fun _ => True) (fun a0 => wpQuiet P [o0, o1, o2, o3, o4, o5, o6, o7, o8, o9, o10].toArray (fun w' => ∃ s : KX B w0 n L E, w' = s.val) (fun a1 => wpQuiet P [o0, o1, o2, o3, o4, o5, o6, o7, o8, o9, o10].toArray (fun _ => True) (fun a2 => wpQuiet P [o0, o1, o2, o3, o4, o5, o6, o7, o8, o9, o10].toArray (fun w' => ∃ s : KX B w0 n L E, w' = s.val) (fun a3 => wpQuiet P [o0, o1, o2, o3, o4, o5, o6, o7, o8, o9, o10].toArray (fun _ => True) (fun a4 => wpQuiet P [o0, o1, o2, o3, o4, o5, o6, o7, o8, o9, o10].toArray (fun w' => ∃ s : KX B w0 n L E, w' = s.val) (fun a5 => wpQuiet P [o0, o1, o2, o3, o4, o5, o6, o7, o8, o9, o10].toArray (fun _ => True) (fun a6 => Q .normal a6 wk) [o10] a5) [o9] a4) [o8] a3) [o4, o6] a2) [o3] a1) [o1] a0) [o0, o2, o5, o7] a) : (Code.region id [o0, o1, o2, o3, o4, o5, o6, o7, o8, o9, o10].toArray true).wp P Q a w := by
  have e1 : E w.drew := hE _ _ he ((Below.refl _ _).drew)
  have g := h _ k.drew e1 (hF _ _ hf ((Below.refl _ _).drew))
  exact wp_region_scr (U := (fun w' => ∃ s : KX B w0 n L E, w' = s.val)) (ops := [o0, o1, o2, o3, o4, o5, o6, o7, o8, o9, o10].toArray) (.free 0 (.free 2 (.free 5 (.free 7 (.read 1 (.free 3 (.read 4 (.read 6 (.free 8 (.read 9 (.free 10 .done))))))))))) [1, 4, 6, 9] [0, 2, 3, 5, 7, 8, 10] hm hB ⟨⟨_, k.drew, e1⟩, rfl⟩ (Scr.of_free rfl g (fun _ g0 => Scr.of_free rfl g0 (fun _ g1 => Scr.of_free rfl g1 (fun _ g2 => Scr.of_free rfl g2 (fun _ g3 => Scr.of_read rfl g3 (fun _ g4 => Scr.of_free rfl g4 (fun _ g5 => Scr.of_read rfl g5 (fun _ g6 => Scr.of_read rfl g6 (fun _ g7 => Scr.of_free rfl g7 (fun _ g8 => Scr.of_read rfl g8 (fun _ g9 => Scr.of_free rfl g9 (fun _ g10 => g10))))))))))))
def LsL2 (w : World) (s : Ps) (P : Pu) (t : Ps) (Q : Pu) (i : Value) (wr : World) : Prop := ∃ n : Nat, n ≤ 2 ∧ i = .int .i64 n ∧ SeQ P Q n ∧ Below w.heap.size w wr ∧ Px wr w.heap.size s P ∧ Px wr (w.heap.size + 1) t Q
def EpL (w : World) {α : Type} (l m : List α) (s : Ps) (P : Pu) (t : Ps) (Q : Pu) (i : Value) (wr : World) : Prop := ∃ k : Nat, k ≤ l.length ∧ i = .int .i64 k ∧ l.take k = m.take k ∧ Below w.heap.size w wr ∧ Px wr w.heap.size s P ∧ Px wr (w.heap.size + 1) t Q
theorem seat_eqs {P Q : Pu} (h : P.s0 = Q.s0 ∧ P.s1 = Q.s1) (n : Nat) : P.seat n = Q.seat n := by
  unfold Pu.seat
  rw [h.1, h.2]
set_option maxRecDepth 100000 in
set_option maxHeartbeats 20000000 in
theorem lsame_a (s t : Ps) (P Q : Pu) (w : World) (h1 : PuR w s P) (h2 : PuR w t Q) (hse : ¬ (P.s0 = Q.s0 ∧ P.s1 = Q.s1)) : Calls Try.prog 26 #[pv s P, pv t Q] w (EqA w (P = Q)) := by
  obtain ⟨⟨x0a, x0n, x0c⟩, ⟨x1a, x1n, x1c⟩, ⟨x2a, x2n, x2c⟩, ⟨x3a, x3n, x3c⟩, ⟨x4a, x4n, x4c⟩, ⟨x5a, x5n, x5c⟩, ⟨x6a, x6n, x6c⟩, ⟨x7a, x7n, x7c⟩⟩ := s
  have e0 : x0n = P.s0.fld.length := rw_len h1.f0
  have e1 : x1n = P.s0.grv.length := rw_len h1.g0
  have e2 : x2n = P.s1.fld.length := rw_len h1.f1
  have e3 : x3n = P.s1.grv.length := rw_len h1.g1
  have e4 : x4n = P.st.length := itr_len h1.st
  have e5 : x5n = P.qu.length := itr_len h1.qu
  have e6 : x6n = P.att.length := rw_len h1.att
  have e7 : x7n = P.bl.length := rw_len h1.bl
  subst e0 e1 e2 e3 e4 e5 e6 e7
  obtain ⟨⟨y0a, y0n, y0c⟩, ⟨y1a, y1n, y1c⟩, ⟨y2a, y2n, y2c⟩, ⟨y3a, y3n, y3c⟩, ⟨y4a, y4n, y4c⟩, ⟨y5a, y5n, y5c⟩, ⟨y6a, y6n, y6c⟩, ⟨y7a, y7n, y7c⟩⟩ := t
  have e0 : y0n = Q.s0.fld.length := rw_len h2.f0
  have e1 : y1n = Q.s0.grv.length := rw_len h2.g0
  have e2 : y2n = Q.s1.fld.length := rw_len h2.f1
  have e3 : y3n = Q.s1.grv.length := rw_len h2.g1
  have e4 : y4n = Q.st.length := itr_len h2.st
  have e5 : y5n = Q.qu.length := itr_len h2.qu
  have e6 : y6n = Q.att.length := rw_len h2.att
  have e7 : y7n = Q.bl.length := rw_len h2.bl
  subst e0 e1 e2 e3 e4 e5 e6 e7
  have HP1 := Lib.hid h1
  have HP2 := Lib.hid h2
  have HX0 : Hid (Rw oc 12 w (.slice x0a P.s0.fld.length x0c) P.s0.fld) := Lib.hid h1.f0
  have HX1 : Hid (Rw oc 12 w (.slice x1a P.s0.grv.length x1c) P.s0.grv) := Lib.hid h1.g0
  have HX2 : Hid (Rw oc 12 w (.slice x2a P.s1.fld.length x2c) P.s1.fld) := Lib.hid h1.f1
  have HX3 : Hid (Rw oc 12 w (.slice x3a P.s1.grv.length x3c) P.s1.grv) := Lib.hid h1.g1
  have HX4 : Hid (ItR w (.slice x4a P.st.length x4c) P.st) := Lib.hid h1.st
  have HX5 : Hid (ItR w (.slice x5a P.qu.length x5c) P.qu) := Lib.hid h1.qu
  have HX6 : Hid (Rw ic 1 w (.slice x6a P.att.length x6c) P.att) := Lib.hid h1.att
  have HX7 : Hid (Rw kc 2 w (.slice x7a P.bl.length x7c) P.bl) := Lib.hid h1.bl
  have HY0 : Hid (Rw oc 12 w (.slice y0a Q.s0.fld.length y0c) Q.s0.fld) := Lib.hid h2.f0
  have HY1 : Hid (Rw oc 12 w (.slice y1a Q.s0.grv.length y1c) Q.s0.grv) := Lib.hid h2.g0
  have HY2 : Hid (Rw oc 12 w (.slice y2a Q.s1.fld.length y2c) Q.s1.fld) := Lib.hid h2.f1
  have HY3 : Hid (Rw oc 12 w (.slice y3a Q.s1.grv.length y3c) Q.s1.grv) := Lib.hid h2.g1
  have HY4 : Hid (ItR w (.slice y4a Q.st.length y4c) Q.st) := Lib.hid h2.st
  have HY5 : Hid (ItR w (.slice y5a Q.qu.length y5c) Q.qu) := Lib.hid h2.qu
  have HY6 : Hid (Rw ic 1 w (.slice y6a Q.att.length y6c) Q.att) := Lib.hid h2.att
  have HY7 : Hid (Rw kc 2 w (.slice y7a Q.bl.length y7c) Q.bl) := Lib.hid h2.bl
  have HSE := Lib.hid hse
  clear h1 h2 hse
  go_enter Try.func26, Try.ntmps26
  go_upto_region 1 with fail
  change Code.wp Try.prog _ _ _ ((w.alloc (.cells (pcells ⟨⟨x0a, P.s0.fld.length, x0c⟩, ⟨x1a, P.s0.grv.length, x1c⟩, ⟨x2a, P.s1.fld.length, x2c⟩, ⟨x3a, P.s1.grv.length, x3c⟩, ⟨x4a, P.st.length, x4c⟩, ⟨x5a, P.qu.length, x5c⟩, ⟨x6a, P.att.length, x6c⟩, ⟨x7a, P.bl.length, x7c⟩⟩ P) 49)).alloc (.cells (pcells ⟨⟨y0a, Q.s0.fld.length, y0c⟩, ⟨y1a, Q.s0.grv.length, y1c⟩, ⟨y2a, Q.s1.fld.length, y2c⟩, ⟨y3a, Q.s1.grv.length, y3c⟩, ⟨y4a, Q.st.length, y4c⟩, ⟨y5a, Q.qu.length, y5c⟩, ⟨y6a, Q.att.length, y6c⟩, ⟨y7a, Q.bl.length, y7c⟩⟩ Q) 49))
  obtain ⟨wz, hwz⟩ : ∃ W, W = (w.alloc (.cells (pcells ⟨⟨x0a, P.s0.fld.length, x0c⟩, ⟨x1a, P.s0.grv.length, x1c⟩, ⟨x2a, P.s1.fld.length, x2c⟩, ⟨x3a, P.s1.grv.length, x3c⟩, ⟨x4a, P.st.length, x4c⟩, ⟨x5a, P.qu.length, x5c⟩, ⟨x6a, P.att.length, x6c⟩, ⟨x7a, P.bl.length, x7c⟩⟩ P) 49)).alloc (.cells (pcells ⟨⟨y0a, Q.s0.fld.length, y0c⟩, ⟨y1a, Q.s0.grv.length, y1c⟩, ⟨y2a, Q.s1.fld.length, y2c⟩, ⟨y3a, Q.s1.grv.length, y3c⟩, ⟨y4a, Q.st.length, y4c⟩, ⟨y5a, Q.qu.length, y5c⟩, ⟨y6a, Q.att.length, y6c⟩, ⟨y7a, Q.bl.length, y7c⟩⟩ Q) 49) := ⟨_, rfl⟩
  rw [← hwz]
  have b1' : Below w.heap.size w (w.alloc (.cells (pcells ⟨⟨x0a, P.s0.fld.length, x0c⟩, ⟨x1a, P.s0.grv.length, x1c⟩, ⟨x2a, P.s1.fld.length, x2c⟩, ⟨x3a, P.s1.grv.length, x3c⟩, ⟨x4a, P.st.length, x4c⟩, ⟨x5a, P.qu.length, x5c⟩, ⟨x6a, P.att.length, x6c⟩, ⟨x7a, P.bl.length, x7c⟩⟩ P) 49)) := (Below.refl _ _).alloc (Nat.le_refl _) _
  have b2' : Below (w.alloc (.cells (pcells ⟨⟨x0a, P.s0.fld.length, x0c⟩, ⟨x1a, P.s0.grv.length, x1c⟩, ⟨x2a, P.s1.fld.length, x2c⟩, ⟨x3a, P.s1.grv.length, x3c⟩, ⟨x4a, P.st.length, x4c⟩, ⟨x5a, P.qu.length, x5c⟩, ⟨x6a, P.att.length, x6c⟩, ⟨x7a, P.bl.length, x7c⟩⟩ P) 49)).heap.size (w.alloc (.cells (pcells ⟨⟨x0a, P.s0.fld.length, x0c⟩, ⟨x1a, P.s0.grv.length, x1c⟩, ⟨x2a, P.s1.fld.length, x2c⟩, ⟨x3a, P.s1.grv.length, x3c⟩, ⟨x4a, P.st.length, x4c⟩, ⟨x5a, P.qu.length, x5c⟩, ⟨x6a, P.att.length, x6c⟩, ⟨x7a, P.bl.length, x7c⟩⟩ P) 49)) wz := by rw [hwz]; exact (Below.refl _ _).alloc (Nat.le_refl _) _
  have HPX : Hid (Px wz w.heap.size ⟨⟨x0a, P.s0.fld.length, x0c⟩, ⟨x1a, P.s0.grv.length, x1c⟩, ⟨x2a, P.s1.fld.length, x2c⟩, ⟨x3a, P.s1.grv.length, x3c⟩, ⟨x4a, P.st.length, x4c⟩, ⟨x5a, P.qu.length, x5c⟩, ⟨x6a, P.att.length, x6c⟩, ⟨x7a, P.bl.length, x7c⟩⟩ P) := Lib.hid (Px.below (w := w.alloc (.cells (pcells ⟨⟨x0a, P.s0.fld.length, x0c⟩, ⟨x1a, P.s0.grv.length, x1c⟩, ⟨x2a, P.s1.fld.length, x2c⟩, ⟨x3a, P.s1.grv.length, x3c⟩, ⟨x4a, P.st.length, x4c⟩, ⟨x5a, P.qu.length, x5c⟩, ⟨x6a, P.att.length, x6c⟩, ⟨x7a, P.bl.length, x7c⟩⟩ P) 49)) (heap_alloc_new _ _) b2')
  have HPY : Hid (Px wz (w.heap.size + 1) ⟨⟨y0a, Q.s0.fld.length, y0c⟩, ⟨y1a, Q.s0.grv.length, y1c⟩, ⟨y2a, Q.s1.fld.length, y2c⟩, ⟨y3a, Q.s1.grv.length, y3c⟩, ⟨y4a, Q.st.length, y4c⟩, ⟨y5a, Q.qu.length, y5c⟩, ⟨y6a, Q.att.length, y6c⟩, ⟨y7a, Q.bl.length, y7c⟩⟩ Q) := Lib.hid (by rw [hwz, show w.heap.size + 1 = (w.alloc (.cells (pcells ⟨⟨x0a, P.s0.fld.length, x0c⟩, ⟨x1a, P.s0.grv.length, x1c⟩, ⟨x2a, P.s1.fld.length, x2c⟩, ⟨x3a, P.s1.grv.length, x3c⟩, ⟨x4a, P.st.length, x4c⟩, ⟨x5a, P.qu.length, x5c⟩, ⟨x6a, P.att.length, x6c⟩, ⟨x7a, P.bl.length, x7c⟩⟩ P) 49)).heap.size by simp]; exact heap_alloc_new _ _)
  have HB : Hid (Below w.heap.size w wz) := Lib.hid (below_via b1' b2')
  clear hwz b1' b2'
  go_wp2_with fail
  go_loopw [5] (fun i wr => LsL2 w ⟨⟨x0a, P.s0.fld.length, x0c⟩, ⟨x1a, P.s0.grv.length, x1c⟩, ⟨x2a, P.s1.fld.length, x2c⟩, ⟨x3a, P.s1.grv.length, x3c⟩, ⟨x4a, P.st.length, x4c⟩, ⟨x5a, P.qu.length, x5c⟩, ⟨x6a, P.att.length, x6c⟩, ⟨x7a, P.bl.length, x7c⟩⟩ P ⟨⟨y0a, Q.s0.fld.length, y0c⟩, ⟨y1a, Q.s0.grv.length, y1c⟩, ⟨y2a, Q.s1.fld.length, y2c⟩, ⟨y3a, Q.s1.grv.length, y3c⟩, ⟨y4a, Q.st.length, y4c⟩, ⟨y5a, Q.qu.length, y5c⟩, ⟨y6a, Q.att.length, y6c⟩, ⟨y7a, Q.bl.length, y7c⟩⟩ Q i wr) (fun i _ => 2 - (intOf i).toNat)
  case atStart => exact ⟨0, by omega, rfl, fun q h => by omega, HB.out, HPX.out, HPY.out⟩
  case round =>
    obtain ⟨n, hn, rfl, hsq, hb, hpx, hpy⟩ := hrel
    replace HB := Lib.hid hb
    replace HPX := Lib.hid hpx
    replace HPY := Lib.hid hpy
    have HSQ := Lib.hid hsq
    clear hsq hb
    by_cases hn2 : n < 2
    · obtain ⟨x, hx⟩ : ∃ x, P.seat n = x := ⟨_, rfl⟩
      obtain ⟨y, hy⟩ : ∃ y, Q.seat n = y := ⟨_, rfl⟩
      obtain ⟨⟨pa, pn, pc⟩, ep⟩ : ∃ q, Ps.fs ⟨⟨x0a, P.s0.fld.length, x0c⟩, ⟨x1a, P.s0.grv.length, x1c⟩, ⟨x2a, P.s1.fld.length, x2c⟩, ⟨x3a, P.s1.grv.length, x3c⟩, ⟨x4a, P.st.length, x4c⟩, ⟨x5a, P.qu.length, x5c⟩, ⟨x6a, P.att.length, x6c⟩, ⟨x7a, P.bl.length, x7c⟩⟩ n = q := ⟨_, rfl⟩
      obtain ⟨⟨qa, qn, qc⟩, eq⟩ : ∃ q, Ps.gs ⟨⟨x0a, P.s0.fld.length, x0c⟩, ⟨x1a, P.s0.grv.length, x1c⟩, ⟨x2a, P.s1.fld.length, x2c⟩, ⟨x3a, P.s1.grv.length, x3c⟩, ⟨x4a, P.st.length, x4c⟩, ⟨x5a, P.qu.length, x5c⟩, ⟨x6a, P.att.length, x6c⟩, ⟨x7a, P.bl.length, x7c⟩⟩ n = q := ⟨_, rfl⟩
      obtain ⟨⟨ra, rn, rc⟩, er⟩ : ∃ q, Ps.fs ⟨⟨y0a, Q.s0.fld.length, y0c⟩, ⟨y1a, Q.s0.grv.length, y1c⟩, ⟨y2a, Q.s1.fld.length, y2c⟩, ⟨y3a, Q.s1.grv.length, y3c⟩, ⟨y4a, Q.st.length, y4c⟩, ⟨y5a, Q.qu.length, y5c⟩, ⟨y6a, Q.att.length, y6c⟩, ⟨y7a, Q.bl.length, y7c⟩⟩ n = q := ⟨_, rfl⟩
      obtain ⟨⟨sa, sn, sc⟩, es⟩ : ∃ q, Ps.gs ⟨⟨y0a, Q.s0.fld.length, y0c⟩, ⟨y1a, Q.s0.grv.length, y1c⟩, ⟨y2a, Q.s1.fld.length, y2c⟩, ⟨y3a, Q.s1.grv.length, y3c⟩, ⟨y4a, Q.st.length, y4c⟩, ⟨y5a, Q.qu.length, y5c⟩, ⟨y6a, Q.att.length, y6c⟩, ⟨y7a, Q.bl.length, y7c⟩⟩ n = q := ⟨_, rfl⟩
      have hs1 := HP1.out.seat n
      have hs2 := HP2.out.seat n
      rw [ep, eq, hx] at hs1
      rw [er, es, hy] at hs2
      have z1 : pn = x.fld.length := rw_len hs1.1
      have z2 : qn = x.grv.length := rw_len hs1.2
      have z3 : rn = y.fld.length := rw_len hs2.1
      have z4 : sn = y.grv.length := rw_len hs2.2
      subst z1 z2 z3 z4
      have HT1 : Hid (Rw oc 12 w (.slice pa x.fld.length pc) x.fld) := Lib.hid hs1.1
      have HT2 : Hid (Rw oc 12 w (.slice qa x.grv.length qc) x.grv) := Lib.hid hs1.2
      have HT3 : Hid (Rw oc 12 w (.slice ra y.fld.length rc) y.fld) := Lib.hid hs2.1
      have HT4 : Hid (Rw oc 12 w (.slice sa y.grv.length sc) y.grv) := Lib.hid hs2.2
      have rx := hpx.seatAt hn2 hx ep eq
      have ry := hpy.seatAt hn2 hy er es
      have d0 : wr.cell? ⟨w.heap.size, n * 14, none⟩ = some (.int .i64 x.li) := rx 0 _ rfl
      have d1 : wr.cell? ⟨w.heap.size, n * 14 + 1, none⟩ = some (.int .i64 x.p0) := rx 1 _ rfl
      have d2 : wr.cell? ⟨w.heap.size, n * 14 + 2, none⟩ = some (.int .i64 x.p1) := rx 2 _ rfl
      have d3 : wr.cell? ⟨w.heap.size, n * 14 + 3, none⟩ = some (.int .i64 x.p2) := rx 3 _ rfl
      have d4 : wr.cell? ⟨w.heap.size, n * 14 + 4, none⟩ = some (.int .i64 x.p3) := rx 4 _ rfl
      have d5 : wr.cell? ⟨w.heap.size, n * 14 + 5, none⟩ = some (.int .i64 x.lib) := rx 5 _ rfl
      have d6 : wr.cell? ⟨w.heap.size, n * 14 + 6, none⟩ = some (.int .i64 x.hand) := rx 6 _ rfl
      have d7 : wr.cell? ⟨w.heap.size, n * 14 + 7, none⟩ = some (.slice pa x.fld.length pc) := rx 7 _ rfl
      have d8 : wr.cell? ⟨w.heap.size, n * 14 + 8, none⟩ = some (.slice qa x.grv.length qc) := rx 8 _ rfl
      have d9 : wr.cell? ⟨w.heap.size, n * 14 + 9, none⟩ = some (.bool x.em) := rx 9 _ rfl
      have d10 : wr.cell? ⟨w.heap.size, n * 14 + 10, none⟩ = some (.bool x.py) := rx 10 _ rfl
      have d11 : wr.cell? ⟨w.heap.size, n * 14 + 11, none⟩ = some (.bool x.kp) := rx 11 _ rfl
      have d12 : wr.cell? ⟨w.heap.size, n * 14 + 12, none⟩ = some (.int .i64 x.mu) := rx 12 _ rfl
      have d13 : wr.cell? ⟨w.heap.size, n * 14 + 13, none⟩ = some (.int .i64 x.ac) := rx 13 _ rfl
      have e0 : wr.cell? ⟨w.heap.size + 1, n * 14, none⟩ = some (.int .i64 y.li) := ry 0 _ rfl
      have e1 : wr.cell? ⟨w.heap.size + 1, n * 14 + 1, none⟩ = some (.int .i64 y.p0) := ry 1 _ rfl
      have e2 : wr.cell? ⟨w.heap.size + 1, n * 14 + 2, none⟩ = some (.int .i64 y.p1) := ry 2 _ rfl
      have e3 : wr.cell? ⟨w.heap.size + 1, n * 14 + 3, none⟩ = some (.int .i64 y.p2) := ry 3 _ rfl
      have e4 : wr.cell? ⟨w.heap.size + 1, n * 14 + 4, none⟩ = some (.int .i64 y.p3) := ry 4 _ rfl
      have e5 : wr.cell? ⟨w.heap.size + 1, n * 14 + 5, none⟩ = some (.int .i64 y.lib) := ry 5 _ rfl
      have e6 : wr.cell? ⟨w.heap.size + 1, n * 14 + 6, none⟩ = some (.int .i64 y.hand) := ry 6 _ rfl
      have e7 : wr.cell? ⟨w.heap.size + 1, n * 14 + 7, none⟩ = some (.slice ra y.fld.length rc) := ry 7 _ rfl
      have e8 : wr.cell? ⟨w.heap.size + 1, n * 14 + 8, none⟩ = some (.slice sa y.grv.length sc) := ry 8 _ rfl
      have e9 : wr.cell? ⟨w.heap.size + 1, n * 14 + 9, none⟩ = some (.bool y.em) := ry 9 _ rfl
      have e10 : wr.cell? ⟨w.heap.size + 1, n * 14 + 10, none⟩ = some (.bool y.py) := ry 10 _ rfl
      have e11 : wr.cell? ⟨w.heap.size + 1, n * 14 + 11, none⟩ = some (.bool y.kp) := ry 11 _ rfl
      have e12 : wr.cell? ⟨w.heap.size + 1, n * 14 + 12, none⟩ = some (.int .i64 y.mu) := ry 12 _ rfl
      have e13 : wr.cell? ⟨w.heap.size + 1, n * 14 + 13, none⟩ = some (.int .i64 y.ac) := ry 13 _ rfl
      have g1 := hpx.lt
      have g2 := hpy.lt
      have HSX := Lib.hid hx
      have HSY := Lib.hid hy
      have i1 : (0 : Int) ≤ (n : Int) := by omega
      have i2 : (n : Int) < 2 := by omega
      clear hs1 hs2 rx ry hx hy ep eq er es hpx hpy
      go_upto_region 4 with fail
      go_cut [6, 7] (fun s6 s7 wx => ∃ X Y, s6 = .pointer (some ⟨X, 0, none⟩) ∧ s7 = .pointer (some ⟨Y, 0, none⟩) ∧ Ro wx X #[.int .i64 x.li, .int .i64 x.p0, .int .i64 x.p1, .int .i64 x.p2, .int .i64 x.p3, .int .i64 x.lib, .int .i64 x.hand, .slice pa x.fld.length pc, .slice qa x.grv.length qc, .bool x.em, .bool x.py, .bool x.kp, .int .i64 x.mu, .int .i64 x.ac] 46 ∧ Ro wx Y #[.int .i64 y.li, .int .i64 y.p0, .int .i64 y.p1, .int .i64 y.p2, .int .i64 y.p3, .int .i64 y.lib, .int .i64 y.hand, .slice ra y.fld.length rc, .slice sa y.grv.length sc, .bool y.em, .bool y.py, .bool y.kp, .int .i64 y.mu, .int .i64 y.ac] 46 ∧ Below wr.heap.size wr wx)
      case first =>
        refine rg26_4 (w0 := wr) (B := wr.heap.size) (n := wr.heap.size) (L := []) (E := fun _ => True) (F := fun _ => True) (by kernel_rfl) (by kernel_rfl) ⟨by go_grown, by go_size, (by simp [go_sem] <;> omega)⟩ trivial (fun _ _ _ _ => trivial) trivial (fun _ _ _ _ => trivial) (fun w41 K_w41 E_w41 F_w41 => ?_)
        have _ne : Nonempty (KX (wr.heap.size) wr (wr.heap.size) [] (fun _ => True)) := ⟨⟨_, K_w41, E_w41⟩⟩
        repeat (go_big_quiet_step (fail))
        refine wpQuiet_nil ?_
        have rd0 : ∀ s : KX (wr.heap.size) wr (wr.heap.size) [] (fun _ => True), s.val.cell? ⟨w.heap.size, n * 14, none⟩ = some (.int .i64 x.li) := fun s => (s.kept.below.cell (p := ⟨w.heap.size, n * 14, none⟩) g1).trans d0
        have rd1 : ∀ s : KX (wr.heap.size) wr (wr.heap.size) [] (fun _ => True), s.val.cell? ⟨w.heap.size, n * 14 + 1, none⟩ = some (.int .i64 x.p0) := fun s => (s.kept.below.cell (p := ⟨w.heap.size, n * 14 + 1, none⟩) g1).trans d1
        have rd2 : ∀ s : KX (wr.heap.size) wr (wr.heap.size) [] (fun _ => True), s.val.cell? ⟨w.heap.size, n * 14 + 2, none⟩ = some (.int .i64 x.p1) := fun s => (s.kept.below.cell (p := ⟨w.heap.size, n * 14 + 2, none⟩) g1).trans d2
        have rd3 : ∀ s : KX (wr.heap.size) wr (wr.heap.size) [] (fun _ => True), s.val.cell? ⟨w.heap.size, n * 14 + 3, none⟩ = some (.int .i64 x.p2) := fun s => (s.kept.below.cell (p := ⟨w.heap.size, n * 14 + 3, none⟩) g1).trans d3
        have rd4 : ∀ s : KX (wr.heap.size) wr (wr.heap.size) [] (fun _ => True), s.val.cell? ⟨w.heap.size, n * 14 + 4, none⟩ = some (.int .i64 x.p3) := fun s => (s.kept.below.cell (p := ⟨w.heap.size, n * 14 + 4, none⟩) g1).trans d4
        have rd5 : ∀ s : KX (wr.heap.size) wr (wr.heap.size) [] (fun _ => True), s.val.cell? ⟨w.heap.size, n * 14 + 5, none⟩ = some (.int .i64 x.lib) := fun s => (s.kept.below.cell (p := ⟨w.heap.size, n * 14 + 5, none⟩) g1).trans d5
        have rd6 : ∀ s : KX (wr.heap.size) wr (wr.heap.size) [] (fun _ => True), s.val.cell? ⟨w.heap.size, n * 14 + 6, none⟩ = some (.int .i64 x.hand) := fun s => (s.kept.below.cell (p := ⟨w.heap.size, n * 14 + 6, none⟩) g1).trans d6
        have rd7 : ∀ s : KX (wr.heap.size) wr (wr.heap.size) [] (fun _ => True), s.val.cell? ⟨w.heap.size, n * 14 + 7, none⟩ = some (.slice pa x.fld.length pc) := fun s => (s.kept.below.cell (p := ⟨w.heap.size, n * 14 + 7, none⟩) g1).trans d7
        have rd8 : ∀ s : KX (wr.heap.size) wr (wr.heap.size) [] (fun _ => True), s.val.cell? ⟨w.heap.size, n * 14 + 8, none⟩ = some (.slice qa x.grv.length qc) := fun s => (s.kept.below.cell (p := ⟨w.heap.size, n * 14 + 8, none⟩) g1).trans d8
        have rd9 : ∀ s : KX (wr.heap.size) wr (wr.heap.size) [] (fun _ => True), s.val.cell? ⟨w.heap.size, n * 14 + 9, none⟩ = some (.bool x.em) := fun s => (s.kept.below.cell (p := ⟨w.heap.size, n * 14 + 9, none⟩) g1).trans d9
        have rd10 : ∀ s : KX (wr.heap.size) wr (wr.heap.size) [] (fun _ => True), s.val.cell? ⟨w.heap.size, n * 14 + 10, none⟩ = some (.bool x.py) := fun s => (s.kept.below.cell (p := ⟨w.heap.size, n * 14 + 10, none⟩) g1).trans d10
        have rd11 : ∀ s : KX (wr.heap.size) wr (wr.heap.size) [] (fun _ => True), s.val.cell? ⟨w.heap.size, n * 14 + 11, none⟩ = some (.bool x.kp) := fun s => (s.kept.below.cell (p := ⟨w.heap.size, n * 14 + 11, none⟩) g1).trans d11
        have rd12 : ∀ s : KX (wr.heap.size) wr (wr.heap.size) [] (fun _ => True), s.val.cell? ⟨w.heap.size, n * 14 + 12, none⟩ = some (.int .i64 x.mu) := fun s => (s.kept.below.cell (p := ⟨w.heap.size, n * 14 + 12, none⟩) g1).trans d12
        have rd13 : ∀ s : KX (wr.heap.size) wr (wr.heap.size) [] (fun _ => True), s.val.cell? ⟨w.heap.size, n * 14 + 13, none⟩ = some (.int .i64 x.ac) := fun s => (s.kept.below.cell (p := ⟨w.heap.size, n * 14 + 13, none⟩) g1).trans d13
        have re0 : ∀ s : KX (wr.heap.size) wr (wr.heap.size) [] (fun _ => True), s.val.cell? ⟨w.heap.size + 1, n * 14, none⟩ = some (.int .i64 y.li) := fun s => (s.kept.below.cell (p := ⟨w.heap.size + 1, n * 14, none⟩) g2).trans e0
        have re1 : ∀ s : KX (wr.heap.size) wr (wr.heap.size) [] (fun _ => True), s.val.cell? ⟨w.heap.size + 1, n * 14 + 1, none⟩ = some (.int .i64 y.p0) := fun s => (s.kept.below.cell (p := ⟨w.heap.size + 1, n * 14 + 1, none⟩) g2).trans e1
        have re2 : ∀ s : KX (wr.heap.size) wr (wr.heap.size) [] (fun _ => True), s.val.cell? ⟨w.heap.size + 1, n * 14 + 2, none⟩ = some (.int .i64 y.p1) := fun s => (s.kept.below.cell (p := ⟨w.heap.size + 1, n * 14 + 2, none⟩) g2).trans e2
        have re3 : ∀ s : KX (wr.heap.size) wr (wr.heap.size) [] (fun _ => True), s.val.cell? ⟨w.heap.size + 1, n * 14 + 3, none⟩ = some (.int .i64 y.p2) := fun s => (s.kept.below.cell (p := ⟨w.heap.size + 1, n * 14 + 3, none⟩) g2).trans e3
        have re4 : ∀ s : KX (wr.heap.size) wr (wr.heap.size) [] (fun _ => True), s.val.cell? ⟨w.heap.size + 1, n * 14 + 4, none⟩ = some (.int .i64 y.p3) := fun s => (s.kept.below.cell (p := ⟨w.heap.size + 1, n * 14 + 4, none⟩) g2).trans e4
        have re5 : ∀ s : KX (wr.heap.size) wr (wr.heap.size) [] (fun _ => True), s.val.cell? ⟨w.heap.size + 1, n * 14 + 5, none⟩ = some (.int .i64 y.lib) := fun s => (s.kept.below.cell (p := ⟨w.heap.size + 1, n * 14 + 5, none⟩) g2).trans e5
        have re6 : ∀ s : KX (wr.heap.size) wr (wr.heap.size) [] (fun _ => True), s.val.cell? ⟨w.heap.size + 1, n * 14 + 6, none⟩ = some (.int .i64 y.hand) := fun s => (s.kept.below.cell (p := ⟨w.heap.size + 1, n * 14 + 6, none⟩) g2).trans e6
        have re7 : ∀ s : KX (wr.heap.size) wr (wr.heap.size) [] (fun _ => True), s.val.cell? ⟨w.heap.size + 1, n * 14 + 7, none⟩ = some (.slice ra y.fld.length rc) := fun s => (s.kept.below.cell (p := ⟨w.heap.size + 1, n * 14 + 7, none⟩) g2).trans e7
        have re8 : ∀ s : KX (wr.heap.size) wr (wr.heap.size) [] (fun _ => True), s.val.cell? ⟨w.heap.size + 1, n * 14 + 8, none⟩ = some (.slice sa y.grv.length sc) := fun s => (s.kept.below.cell (p := ⟨w.heap.size + 1, n * 14 + 8, none⟩) g2).trans e8
        have re9 : ∀ s : KX (wr.heap.size) wr (wr.heap.size) [] (fun _ => True), s.val.cell? ⟨w.heap.size + 1, n * 14 + 9, none⟩ = some (.bool y.em) := fun s => (s.kept.below.cell (p := ⟨w.heap.size + 1, n * 14 + 9, none⟩) g2).trans e9
        have re10 : ∀ s : KX (wr.heap.size) wr (wr.heap.size) [] (fun _ => True), s.val.cell? ⟨w.heap.size + 1, n * 14 + 10, none⟩ = some (.bool y.py) := fun s => (s.kept.below.cell (p := ⟨w.heap.size + 1, n * 14 + 10, none⟩) g2).trans e10
        have re11 : ∀ s : KX (wr.heap.size) wr (wr.heap.size) [] (fun _ => True), s.val.cell? ⟨w.heap.size + 1, n * 14 + 11, none⟩ = some (.bool y.kp) := fun s => (s.kept.below.cell (p := ⟨w.heap.size + 1, n * 14 + 11, none⟩) g2).trans e11
        have re12 : ∀ s : KX (wr.heap.size) wr (wr.heap.size) [] (fun _ => True), s.val.cell? ⟨w.heap.size + 1, n * 14 + 12, none⟩ = some (.int .i64 y.mu) := fun s => (s.kept.below.cell (p := ⟨w.heap.size + 1, n * 14 + 12, none⟩) g2).trans e12
        have re13 : ∀ s : KX (wr.heap.size) wr (wr.heap.size) [] (fun _ => True), s.val.cell? ⟨w.heap.size + 1, n * 14 + 13, none⟩ = some (.int .i64 y.ac) := fun s => (s.kept.below.cell (p := ⟨w.heap.size + 1, n * 14 + 13, none⟩) g2).trans e13
        repeat (go_big_quiet_step (fail))
        refine wpQuiet_nil ?_
        clear rd0 rd1 rd2 rd3 rd4 rd5 rd6 rd7 rd8 rd9 rd10 rd11 rd12 rd13 re0 re1 re2 re3 re4 re5 re6 re7 re8 re9 re10 re11 re12 re13
        have KH_w41 := Lib.hid K_w41
        have hw_w41 := K_w41.below
        have hz_w41 := K_w41.size
        clear K_w41
        clear E_w41 F_w41
        refine ⟨fun K hK0 => ?_, fun K hK0 => ?_, trivial⟩
        · skip
          have hK := Lib.hid hK0
          clear hK0
          have HW := Lib.hid hw_w41
          clear hw_w41 hz_w41 KH_w41
          go_wp2_with fail
          first | (refine ⟨rfl, ⟨⟨_, ⟨HW.out.alloc HW.out.size _, Nat.le_trans HW.out.size (by simp), by simp⟩, trivial⟩, rfl⟩, hK.out _ _ ?_⟩; clear hK K) | (refine ⟨⟨⟨_, ⟨HW.out.alloc HW.out.size _, Nat.le_trans HW.out.size (by simp), by simp⟩, trivial⟩, rfl⟩, hK.out _ _ ?_⟩; clear hK K)
          refine ⟨fun K hK0 => ?_, trivial⟩
          have hK := Lib.hid hK0
          clear hK0
          obtain ⟨w42, hw42⟩ : ∃ X, X = w41.alloc (.cells #[.int .i64 0, .int .i64 0, .int .i64 0, .int .i64 0, .int .i64 0, .int .i64 0, .int .i64 0, .slice none 0 0, .slice none 0 0, .bool false, .bool false, .bool false, .int .i64 0, .int .i64 0] 46) := ⟨_, rfl⟩
          rw [← hw42]
          have hb : Below w41.heap.size w41 w42 := by rw [hw42]; exact (Below.refl _ _).alloc (Nat.le_refl _) _
          have X0 : Ro w42 w41.heap.size #[.int .i64 0, .int .i64 0, .int .i64 0, .int .i64 0, .int .i64 0, .int .i64 0, .int .i64 0, .slice none 0 0, .slice none 0 0, .bool false, .bool false, .bool false, .int .i64 0, .int .i64 0] 46 := by rw [hw42]; exact Ro.new _ _ _
          obtain ⟨bX, hbX⟩ : ∃ n, n = w41.heap.size := ⟨_, rfl⟩
          rw [← hbX] at X0 ⊢
          have HGX : Hid (wr.heap.size ≤ bX) := Lib.hid (by rw [hbX]; exact HW.out.size)
          replace HW := Lib.hid (HW.out.trans (hb.mono HW.out.size))
          have X := Lib.hid X0
          clear hw42 hb X0 hbX
          go_wp2_with fail
          first | (refine ⟨rfl, ⟨⟨_, ⟨HW.out.alloc HW.out.size _, Nat.le_trans HW.out.size (by simp), by simp⟩, trivial⟩, rfl⟩, hK.out _ _ ?_⟩; clear hK K) | (refine ⟨⟨⟨_, ⟨HW.out.alloc HW.out.size _, Nat.le_trans HW.out.size (by simp), by simp⟩, trivial⟩, rfl⟩, hK.out _ _ ?_⟩; clear hK K)
          refine ⟨fun K hK0 => ?_, trivial⟩
          have hK := Lib.hid hK0
          clear hK0
          obtain ⟨w43, hw43⟩ : ∃ X, X = w42.alloc (.cells #[.int .i64 0, .int .i64 0, .int .i64 0, .int .i64 0, .int .i64 0, .int .i64 0, .int .i64 0, .slice none 0 0, .slice none 0 0, .bool false, .bool false, .bool false, .int .i64 0, .int .i64 0] 46) := ⟨_, rfl⟩
          rw [← hw43]
          have hb : Below w42.heap.size w42 w43 := by rw [hw43]; exact (Below.refl _ _).alloc (Nat.le_refl _) _
          have Y0 : Ro w43 w42.heap.size #[.int .i64 0, .int .i64 0, .int .i64 0, .int .i64 0, .int .i64 0, .int .i64 0, .int .i64 0, .slice none 0 0, .slice none 0 0, .bool false, .bool false, .bool false, .int .i64 0, .int .i64 0] 46 := by rw [hw43]; exact Ro.new _ _ _
          obtain ⟨bY, hbY⟩ : ∃ n, n = w42.heap.size := ⟨_, rfl⟩
          rw [← hbY] at Y0 ⊢
          have HGY : Hid (wr.heap.size ≤ bY) := Lib.hid (by rw [hbY]; exact HW.out.size)
          have HEYX : Hid (bX ≠ bY) := Lib.hid (by rw [hbY]; exact Nat.ne_of_lt X.out.lt)
          replace X := Lib.hid (X.out.below hb)
          replace HW := Lib.hid (HW.out.trans (hb.mono HW.out.size))
          have Y := Lib.hid Y0
          clear hw43 hb Y0 hbY
          go_wp2_with (refine wpList_store_ro 46 rfl _ _ rfl rfl rfl X.out rfl rfl (by simp [Value.oneCell']) ?_)
          obtain ⟨w44, hw44⟩ : ∃ X, X = w43.setRow bX #[.int .i64 x.li, .int .i64 x.p0, .int .i64 x.p1, .int .i64 x.p2, .int .i64 x.p3, .int .i64 x.lib, .int .i64 x.hand, .slice pa x.fld.length pc, .slice qa x.grv.length qc, .bool x.em, .bool x.py, .bool x.kp, .int .i64 x.mu, .int .i64 x.ac] := ⟨_, rfl⟩
          rw [← hw44]
          have ho : Onl [bX] w43 w44 := by rw [hw44]; exact Onl.setRow (Onl.refl _ _) (.inl (by simp)) _
          replace X : Hid (Ro w44 bX #[.int .i64 x.li, .int .i64 x.p0, .int .i64 x.p1, .int .i64 x.p2, .int .i64 x.p3, .int .i64 x.lib, .int .i64 x.hand, .slice pa x.fld.length pc, .slice qa x.grv.length qc, .bool x.em, .bool x.py, .bool x.kp, .int .i64 x.mu, .int .i64 x.ac] 46) := Lib.hid (by rw [hw44]; exact setRow_heap _ _ _ _ _ _ X.out)
          replace Y := Lib.hid (Y.out.onl ho (by simpa using HEYX.out.symm))
          replace HW := Lib.hid (belowOnl HW.out ho (by simpa using HGX.out) HW.out.size)
          clear ho hw44
          go_wp2_with fail
          first | (refine ⟨rfl, ⟨⟨_, ⟨HW.out, HW.out.size, by simp⟩, trivial⟩, rfl⟩, hK.out _ _ ?_⟩; clear hK K) | (refine ⟨⟨⟨_, ⟨HW.out, HW.out.size, by simp⟩, trivial⟩, rfl⟩, hK.out _ _ ?_⟩; clear hK K)
          refine ⟨fun K hK0 => ?_, trivial⟩
          have hK := Lib.hid hK0
          clear hK0
          go_wp2_with (refine wpList_store_ro 46 rfl _ _ rfl rfl rfl Y.out rfl rfl (by simp [Value.oneCell']) ?_)
          obtain ⟨w45, hw45⟩ : ∃ X, X = w44.setRow bY #[.int .i64 y.li, .int .i64 y.p0, .int .i64 y.p1, .int .i64 y.p2, .int .i64 y.p3, .int .i64 y.lib, .int .i64 y.hand, .slice ra y.fld.length rc, .slice sa y.grv.length sc, .bool y.em, .bool y.py, .bool y.kp, .int .i64 y.mu, .int .i64 y.ac] := ⟨_, rfl⟩
          rw [← hw45]
          have ho : Onl [bY] w44 w45 := by rw [hw45]; exact Onl.setRow (Onl.refl _ _) (.inl (by simp)) _
          replace Y : Hid (Ro w45 bY #[.int .i64 y.li, .int .i64 y.p0, .int .i64 y.p1, .int .i64 y.p2, .int .i64 y.p3, .int .i64 y.lib, .int .i64 y.hand, .slice ra y.fld.length rc, .slice sa y.grv.length sc, .bool y.em, .bool y.py, .bool y.kp, .int .i64 y.mu, .int .i64 y.ac] 46) := Lib.hid (by rw [hw45]; exact setRow_heap _ _ _ _ _ _ Y.out)
          replace X := Lib.hid (X.out.onl ho (by simpa using HEYX.out))
          replace HW := Lib.hid (belowOnl HW.out ho (by simpa using HGY.out) HW.out.size)
          clear ho hw45
          go_wp2_with fail
          first | (refine ⟨rfl, ⟨⟨_, ⟨HW.out, HW.out.size, by simp⟩, trivial⟩, rfl⟩, hK.out _ _ ?_⟩; clear hK K) | (refine ⟨⟨⟨_, ⟨HW.out, HW.out.size, by simp⟩, trivial⟩, rfl⟩, hK.out _ _ ?_⟩; clear hK K)
          clear _ne
          go_wp2_with fail
          go_meet
          case rel => exact ⟨bX, bY, rfl, rfl, X.out, Y.out, HW.out⟩
        · skip
          have hK := Lib.hid hK0
          clear hK0
          have HW := Lib.hid hw_w41
          clear hw_w41 hz_w41 KH_w41
          go_wp2_with fail
          first | (refine ⟨rfl, ⟨⟨_, ⟨HW.out.alloc HW.out.size _, Nat.le_trans HW.out.size (by simp), by simp⟩, trivial⟩, rfl⟩, hK.out _ _ ?_⟩; clear hK K) | (refine ⟨⟨⟨_, ⟨HW.out.alloc HW.out.size _, Nat.le_trans HW.out.size (by simp), by simp⟩, trivial⟩, rfl⟩, hK.out _ _ ?_⟩; clear hK K)
          refine ⟨fun K hK0 => ?_, trivial⟩
          have hK := Lib.hid hK0
          clear hK0
          obtain ⟨w42, hw42⟩ : ∃ X, X = w41.alloc (.cells #[.int .i64 0, .int .i64 0, .int .i64 0, .int .i64 0, .int .i64 0, .int .i64 0, .int .i64 0, .slice none 0 0, .slice none 0 0, .bool false, .bool false, .bool false, .int .i64 0, .int .i64 0] 46) := ⟨_, rfl⟩
          rw [← hw42]
          have hb : Below w41.heap.size w41 w42 := by rw [hw42]; exact (Below.refl _ _).alloc (Nat.le_refl _) _
          have Y0 : Ro w42 w41.heap.size #[.int .i64 0, .int .i64 0, .int .i64 0, .int .i64 0, .int .i64 0, .int .i64 0, .int .i64 0, .slice none 0 0, .slice none 0 0, .bool false, .bool false, .bool false, .int .i64 0, .int .i64 0] 46 := by rw [hw42]; exact Ro.new _ _ _
          obtain ⟨bY, hbY⟩ : ∃ n, n = w41.heap.size := ⟨_, rfl⟩
          rw [← hbY] at Y0 ⊢
          have HGY : Hid (wr.heap.size ≤ bY) := Lib.hid (by rw [hbY]; exact HW.out.size)
          replace HW := Lib.hid (HW.out.trans (hb.mono HW.out.size))
          have Y := Lib.hid Y0
          clear hw42 hb Y0 hbY
          go_wp2_with fail
          first | (refine ⟨rfl, ⟨⟨_, ⟨HW.out.alloc HW.out.size _, Nat.le_trans HW.out.size (by simp), by simp⟩, trivial⟩, rfl⟩, hK.out _ _ ?_⟩; clear hK K) | (refine ⟨⟨⟨_, ⟨HW.out.alloc HW.out.size _, Nat.le_trans HW.out.size (by simp), by simp⟩, trivial⟩, rfl⟩, hK.out _ _ ?_⟩; clear hK K)
          refine ⟨fun K hK0 => ?_, trivial⟩
          have hK := Lib.hid hK0
          clear hK0
          obtain ⟨w43, hw43⟩ : ∃ X, X = w42.alloc (.cells #[.int .i64 0, .int .i64 0, .int .i64 0, .int .i64 0, .int .i64 0, .int .i64 0, .int .i64 0, .slice none 0 0, .slice none 0 0, .bool false, .bool false, .bool false, .int .i64 0, .int .i64 0] 46) := ⟨_, rfl⟩
          rw [← hw43]
          have hb : Below w42.heap.size w42 w43 := by rw [hw43]; exact (Below.refl _ _).alloc (Nat.le_refl _) _
          have X0 : Ro w43 w42.heap.size #[.int .i64 0, .int .i64 0, .int .i64 0, .int .i64 0, .int .i64 0, .int .i64 0, .int .i64 0, .slice none 0 0, .slice none 0 0, .bool false, .bool false, .bool false, .int .i64 0, .int .i64 0] 46 := by rw [hw43]; exact Ro.new _ _ _
          obtain ⟨bX, hbX⟩ : ∃ n, n = w42.heap.size := ⟨_, rfl⟩
          rw [← hbX] at X0 ⊢
          have HGX : Hid (wr.heap.size ≤ bX) := Lib.hid (by rw [hbX]; exact HW.out.size)
          have HEXY : Hid (bY ≠ bX) := Lib.hid (by rw [hbX]; exact Nat.ne_of_lt Y.out.lt)
          replace Y := Lib.hid (Y.out.below hb)
          replace HW := Lib.hid (HW.out.trans (hb.mono HW.out.size))
          have X := Lib.hid X0
          clear hw43 hb X0 hbX
          go_wp2_with (refine wpList_store_ro 46 rfl _ _ rfl rfl rfl X.out rfl rfl (by simp [Value.oneCell']) ?_)
          obtain ⟨w44, hw44⟩ : ∃ X, X = w43.setRow bX #[.int .i64 x.li, .int .i64 x.p0, .int .i64 x.p1, .int .i64 x.p2, .int .i64 x.p3, .int .i64 x.lib, .int .i64 x.hand, .slice pa x.fld.length pc, .slice qa x.grv.length qc, .bool x.em, .bool x.py, .bool x.kp, .int .i64 x.mu, .int .i64 x.ac] := ⟨_, rfl⟩
          rw [← hw44]
          have ho : Onl [bX] w43 w44 := by rw [hw44]; exact Onl.setRow (Onl.refl _ _) (.inl (by simp)) _
          replace X : Hid (Ro w44 bX #[.int .i64 x.li, .int .i64 x.p0, .int .i64 x.p1, .int .i64 x.p2, .int .i64 x.p3, .int .i64 x.lib, .int .i64 x.hand, .slice pa x.fld.length pc, .slice qa x.grv.length qc, .bool x.em, .bool x.py, .bool x.kp, .int .i64 x.mu, .int .i64 x.ac] 46) := Lib.hid (by rw [hw44]; exact setRow_heap _ _ _ _ _ _ X.out)
          replace Y := Lib.hid (Y.out.onl ho (by simpa using HEXY.out))
          replace HW := Lib.hid (belowOnl HW.out ho (by simpa using HGX.out) HW.out.size)
          clear ho hw44
          go_wp2_with fail
          first | (refine ⟨rfl, ⟨⟨_, ⟨HW.out, HW.out.size, by simp⟩, trivial⟩, rfl⟩, hK.out _ _ ?_⟩; clear hK K) | (refine ⟨⟨⟨_, ⟨HW.out, HW.out.size, by simp⟩, trivial⟩, rfl⟩, hK.out _ _ ?_⟩; clear hK K)
          refine ⟨fun K hK0 => ?_, trivial⟩
          have hK := Lib.hid hK0
          clear hK0
          go_wp2_with (refine wpList_store_ro 46 rfl _ _ rfl rfl rfl Y.out rfl rfl (by simp [Value.oneCell']) ?_)
          obtain ⟨w45, hw45⟩ : ∃ X, X = w44.setRow bY #[.int .i64 y.li, .int .i64 y.p0, .int .i64 y.p1, .int .i64 y.p2, .int .i64 y.p3, .int .i64 y.lib, .int .i64 y.hand, .slice ra y.fld.length rc, .slice sa y.grv.length sc, .bool y.em, .bool y.py, .bool y.kp, .int .i64 y.mu, .int .i64 y.ac] := ⟨_, rfl⟩
          rw [← hw45]
          have ho : Onl [bY] w44 w45 := by rw [hw45]; exact Onl.setRow (Onl.refl _ _) (.inl (by simp)) _
          replace Y : Hid (Ro w45 bY #[.int .i64 y.li, .int .i64 y.p0, .int .i64 y.p1, .int .i64 y.p2, .int .i64 y.p3, .int .i64 y.lib, .int .i64 y.hand, .slice ra y.fld.length rc, .slice sa y.grv.length sc, .bool y.em, .bool y.py, .bool y.kp, .int .i64 y.mu, .int .i64 y.ac] 46) := Lib.hid (by rw [hw45]; exact setRow_heap _ _ _ _ _ _ Y.out)
          replace X := Lib.hid (X.out.onl ho (by simpa using HEXY.out.symm))
          replace HW := Lib.hid (belowOnl HW.out ho (by simpa using HGY.out) HW.out.size)
          clear ho hw45
          go_wp2_with fail
          first | (refine ⟨rfl, ⟨⟨_, ⟨HW.out, HW.out.size, by simp⟩, trivial⟩, rfl⟩, hK.out _ _ ?_⟩; clear hK K) | (refine ⟨⟨⟨_, ⟨HW.out, HW.out.size, by simp⟩, trivial⟩, rfl⟩, hK.out _ _ ?_⟩; clear hK K)
          clear _ne
          go_wp2_with fail
          go_meet
          case rel => exact ⟨bX, bY, rfl, rfl, X.out, Y.out, HW.out⟩
      case rest =>
        obtain ⟨bX, bY, rfl, rfl, hX, hY, hW⟩ := hcut
        replace HB := Lib.hid (below_via HB.out hW)
        replace HPX := Lib.hid (HPX.out.below hW)
        replace HPY := Lib.hid (HPY.out.below hW)
        have HRX := Lib.hid hX
        have HRY := Lib.hid hY
        clear d0 e0 d1 e1 d2 e2 d3 e3 d4 e4 d5 e5 d6 e6 d7 e7 d8 e8 d9 e9 d10 e10 d11 e11 d12 e12 d13 e13 g1 g2 hX hY hW
        have k0 : wc.cell? ⟨bX, 0, none⟩ = some (.int .i64 x.li) := HRX.out.cell 0
        have l0 : wc.cell? ⟨bY, 0, none⟩ = some (.int .i64 y.li) := HRY.out.cell 0
        have k1 : wc.cell? ⟨bX, 1, none⟩ = some (.int .i64 x.p0) := HRX.out.cell 1
        have l1 : wc.cell? ⟨bY, 1, none⟩ = some (.int .i64 y.p0) := HRY.out.cell 1
        have k2 : wc.cell? ⟨bX, 2, none⟩ = some (.int .i64 x.p1) := HRX.out.cell 2
        have l2 : wc.cell? ⟨bY, 2, none⟩ = some (.int .i64 y.p1) := HRY.out.cell 2
        have k3 : wc.cell? ⟨bX, 3, none⟩ = some (.int .i64 x.p2) := HRX.out.cell 3
        have l3 : wc.cell? ⟨bY, 3, none⟩ = some (.int .i64 y.p2) := HRY.out.cell 3
        have k4 : wc.cell? ⟨bX, 4, none⟩ = some (.int .i64 x.p3) := HRX.out.cell 4
        have l4 : wc.cell? ⟨bY, 4, none⟩ = some (.int .i64 y.p3) := HRY.out.cell 4
        have k5 : wc.cell? ⟨bX, 5, none⟩ = some (.int .i64 x.lib) := HRX.out.cell 5
        have l5 : wc.cell? ⟨bY, 5, none⟩ = some (.int .i64 y.lib) := HRY.out.cell 5
        have k6 : wc.cell? ⟨bX, 6, none⟩ = some (.int .i64 x.hand) := HRX.out.cell 6
        have l6 : wc.cell? ⟨bY, 6, none⟩ = some (.int .i64 y.hand) := HRY.out.cell 6
        have k7 : wc.cell? ⟨bX, 7, none⟩ = some (.slice pa x.fld.length pc) := HRX.out.cell 7
        have l7 : wc.cell? ⟨bY, 7, none⟩ = some (.slice ra y.fld.length rc) := HRY.out.cell 7
        have k8 : wc.cell? ⟨bX, 8, none⟩ = some (.slice qa x.grv.length qc) := HRX.out.cell 8
        have l8 : wc.cell? ⟨bY, 8, none⟩ = some (.slice sa y.grv.length sc) := HRY.out.cell 8
        have k9 : wc.cell? ⟨bX, 9, none⟩ = some (.bool x.em) := HRX.out.cell 9
        have l9 : wc.cell? ⟨bY, 9, none⟩ = some (.bool y.em) := HRY.out.cell 9
        have k10 : wc.cell? ⟨bX, 10, none⟩ = some (.bool x.py) := HRX.out.cell 10
        have l10 : wc.cell? ⟨bY, 10, none⟩ = some (.bool y.py) := HRY.out.cell 10
        have k11 : wc.cell? ⟨bX, 11, none⟩ = some (.bool x.kp) := HRX.out.cell 11
        have l11 : wc.cell? ⟨bY, 11, none⟩ = some (.bool y.kp) := HRY.out.cell 11
        have k12 : wc.cell? ⟨bX, 12, none⟩ = some (.int .i64 x.mu) := HRX.out.cell 12
        have l12 : wc.cell? ⟨bY, 12, none⟩ = some (.int .i64 y.mu) := HRY.out.cell 12
        have k13 : wc.cell? ⟨bX, 13, none⟩ = some (.int .i64 x.ac) := HRX.out.cell 13
        have l13 : wc.cell? ⟨bY, 13, none⟩ = some (.int .i64 y.ac) := HRY.out.cell 13
        cases hhli : (x.li != y.li)
        case true =>
          have HNE : Hid (x ≠ y) := Lib.hid (fun e => by rw [e] at hhli; simp at hhli)
          go_upto_if 98 with (refine no_implicit_lambda% (wpList_end 27 [(27, .bool true), (28, undef), (29, undef), (30, undef), (31, undef), (32, undef), (33, .bool true), (34, .bool true), (35, undef), (36, undef), (37, undef), (38, undef), (39, undef), (40, .bool true), (41, .bool true), (42, undef), (43, undef), (44, undef), (45, undef), (46, undef), (47, .bool true), (48, .bool true), (49, undef), (50, undef), (51, undef), (52, undef), (53, undef), (54, undef), (55, .bool true), (56, .bool true), (57, undef), (58, undef), (59, undef), (60, undef), (61, undef), (62, undef), (63, .bool true), (64, .bool true), (65, undef), (66, undef), (67, undef), (68, undef), (69, undef), (70, .bool true), (71, .bool true), (72, undef), (73, undef), (74, undef), (75, undef), (76, undef), (77, .bool true), (78, .bool true), (79, undef), (80, undef), (81, undef), (82, undef), (83, undef), (84, .bool true), (85, .bool true), (86, undef), (87, undef), (88, undef), (89, undef), (90, undef), (91, .bool true), (92, .bool true), (93, undef), (94, undef), (95, undef), (96, undef), (97, undef), (98, .bool true)] rfl (by kernel_rfl) ?_); simp only [setL, List.foldl, List.setIfInBounds_toArray, List.set_cons_zero, List.set_cons_succ])
          go_wp2_with fail
          go_returns
          exact EqA.no (fun e => HNE.out (by rw [← HSX.out, ← HSY.out, e])) HB.out
        have hman := manaEqG x.p0 x.p1 x.p2 x.p3 y.p0 y.p1 y.p2 y.p3 wc
        cases hhp : (x.p0 == y.p0 && (x.p1 == y.p1 && (x.p2 == y.p2 && x.p3 == y.p3)))
        · have HNE : Hid (x ≠ y) := Lib.hid (fun e => by rw [e] at hhp; simp at hhp)
          rw [hhp] at hman
          go_upto_if 98 with (refine no_implicit_lambda% (wpList_end 33 [(33, .bool true), (34, .bool true), (35, undef), (36, undef), (37, undef), (38, undef), (39, undef), (40, .bool true), (41, .bool true), (42, undef), (43, undef), (44, undef), (45, undef), (46, undef), (47, .bool true), (48, .bool true), (49, undef), (50, undef), (51, undef), (52, undef), (53, undef), (54, undef), (55, .bool true), (56, .bool true), (57, undef), (58, undef), (59, undef), (60, undef), (61, undef), (62, undef), (63, .bool true), (64, .bool true), (65, undef), (66, undef), (67, undef), (68, undef), (69, undef), (70, .bool true), (71, .bool true), (72, undef), (73, undef), (74, undef), (75, undef), (76, undef), (77, .bool true), (78, .bool true), (79, undef), (80, undef), (81, undef), (82, undef), (83, undef), (84, .bool true), (85, .bool true), (86, undef), (87, undef), (88, undef), (89, undef), (90, undef), (91, .bool true), (92, .bool true), (93, undef), (94, undef), (95, undef), (96, undef), (97, undef), (98, .bool true)] rfl (by kernel_rfl) ?_); simp only [setL, List.foldl, List.setIfInBounds_toArray, List.set_cons_zero, List.set_cons_succ])
          go_wp2_with fail
          go_returns
          exact EqA.no (fun e => HNE.out (by rw [← HSX.out, ← HSY.out, e])) HB.out
        rw [hhp] at hman
        cases hhlib : (x.lib != y.lib)
        case true =>
          have HNE : Hid (x ≠ y) := Lib.hid (fun e => by rw [e] at hhlib; simp at hhlib)
          go_upto_if 98 with (refine no_implicit_lambda% (wpList_end 40 [(40, .bool true), (41, .bool true), (42, undef), (43, undef), (44, undef), (45, undef), (46, undef), (47, .bool true), (48, .bool true), (49, undef), (50, undef), (51, undef), (52, undef), (53, undef), (54, undef), (55, .bool true), (56, .bool true), (57, undef), (58, undef), (59, undef), (60, undef), (61, undef), (62, undef), (63, .bool true), (64, .bool true), (65, undef), (66, undef), (67, undef), (68, undef), (69, undef), (70, .bool true), (71, .bool true), (72, undef), (73, undef), (74, undef), (75, undef), (76, undef), (77, .bool true), (78, .bool true), (79, undef), (80, undef), (81, undef), (82, undef), (83, undef), (84, .bool true), (85, .bool true), (86, undef), (87, undef), (88, undef), (89, undef), (90, undef), (91, .bool true), (92, .bool true), (93, undef), (94, undef), (95, undef), (96, undef), (97, undef), (98, .bool true)] rfl (by kernel_rfl) ?_); simp only [setL, List.foldl, List.setIfInBounds_toArray, List.set_cons_zero, List.set_cons_succ])
          go_wp2_with fail
          go_returns
          exact EqA.no (fun e => HNE.out (by rw [← HSX.out, ← HSY.out, e])) HB.out
        cases hhhand : (x.hand != y.hand)
        case true =>
          have HNE : Hid (x ≠ y) := Lib.hid (fun e => by rw [e] at hhhand; simp at hhhand)
          go_upto_if 98 with (refine no_implicit_lambda% (wpList_end 47 [(47, .bool true), (48, .bool true), (49, undef), (50, undef), (51, undef), (52, undef), (53, undef), (54, undef), (55, .bool true), (56, .bool true), (57, undef), (58, undef), (59, undef), (60, undef), (61, undef), (62, undef), (63, .bool true), (64, .bool true), (65, undef), (66, undef), (67, undef), (68, undef), (69, undef), (70, .bool true), (71, .bool true), (72, undef), (73, undef), (74, undef), (75, undef), (76, undef), (77, .bool true), (78, .bool true), (79, undef), (80, undef), (81, undef), (82, undef), (83, undef), (84, .bool true), (85, .bool true), (86, undef), (87, undef), (88, undef), (89, undef), (90, undef), (91, .bool true), (92, .bool true), (93, undef), (94, undef), (95, undef), (96, undef), (97, undef), (98, .bool true)] rfl (by kernel_rfl) ?_); simp only [setL, List.foldl, List.setIfInBounds_toArray, List.set_cons_zero, List.set_cons_succ])
          go_wp2_with fail
          go_returns
          exact EqA.no (fun e => HNE.out (by rw [← HSX.out, ← HSY.out, e])) HB.out
        go_wp2_with fail
        with_reducible refine (lqO _ _ _ _ _ (HT1.out.below HB.out) (HT3.out.below HB.out)).mono ?_
        rintro e wcx ⟨r, rfl, hr, hb⟩
        replace HB := Lib.hid (below_via HB.out hb)
        replace HRX := Lib.hid (HRX.out.below hb)
        replace HRY := Lib.hid (HRY.out.below hb)
        replace HPX := Lib.hid (HPX.out.below hb)
        replace HPY := Lib.hid (HPY.out.below hb)
        clear hb
        clear k0 l0 k1 l1 k2 l2 k3 l3 k4 l4 k5 l5 k6 l6 k7 l7 k8 l8 k9 l9 k10 l10 k11 l11 k12 l12 k13 l13
        cases r
        · have HNE : Hid (x ≠ y) := Lib.hid (fun e => by have := hr.2 (by rw [e]); cases this)
          clear hr
          go_upto_if 98 with (refine no_implicit_lambda% (wpList_end 55 [(55, .bool true), (56, .bool true), (57, undef), (58, undef), (59, undef), (60, undef), (61, undef), (62, undef), (63, .bool true), (64, .bool true), (65, undef), (66, undef), (67, undef), (68, undef), (69, undef), (70, .bool true), (71, .bool true), (72, undef), (73, undef), (74, undef), (75, undef), (76, undef), (77, .bool true), (78, .bool true), (79, undef), (80, undef), (81, undef), (82, undef), (83, undef), (84, .bool true), (85, .bool true), (86, undef), (87, undef), (88, undef), (89, undef), (90, undef), (91, .bool true), (92, .bool true), (93, undef), (94, undef), (95, undef), (96, undef), (97, undef), (98, .bool true)] rfl (by kernel_rfl) ?_); simp only [setL, List.foldl, List.setIfInBounds_toArray, List.set_cons_zero, List.set_cons_succ])
          go_wp2_with fail
          go_returns
          exact EqA.no (fun e => HNE.out (by rw [← HSX.out, ← HSY.out, e])) HB.out
        have HF := Lib.hid (hr.1 rfl)
        clear hr
        have k0 : wcx.cell? ⟨bX, 0, none⟩ = some (.int .i64 x.li) := HRX.out.cell 0
        have l0 : wcx.cell? ⟨bY, 0, none⟩ = some (.int .i64 y.li) := HRY.out.cell 0
        have k1 : wcx.cell? ⟨bX, 1, none⟩ = some (.int .i64 x.p0) := HRX.out.cell 1
        have l1 : wcx.cell? ⟨bY, 1, none⟩ = some (.int .i64 y.p0) := HRY.out.cell 1
        have k2 : wcx.cell? ⟨bX, 2, none⟩ = some (.int .i64 x.p1) := HRX.out.cell 2
        have l2 : wcx.cell? ⟨bY, 2, none⟩ = some (.int .i64 y.p1) := HRY.out.cell 2
        have k3 : wcx.cell? ⟨bX, 3, none⟩ = some (.int .i64 x.p2) := HRX.out.cell 3
        have l3 : wcx.cell? ⟨bY, 3, none⟩ = some (.int .i64 y.p2) := HRY.out.cell 3
        have k4 : wcx.cell? ⟨bX, 4, none⟩ = some (.int .i64 x.p3) := HRX.out.cell 4
        have l4 : wcx.cell? ⟨bY, 4, none⟩ = some (.int .i64 y.p3) := HRY.out.cell 4
        have k5 : wcx.cell? ⟨bX, 5, none⟩ = some (.int .i64 x.lib) := HRX.out.cell 5
        have l5 : wcx.cell? ⟨bY, 5, none⟩ = some (.int .i64 y.lib) := HRY.out.cell 5
        have k6 : wcx.cell? ⟨bX, 6, none⟩ = some (.int .i64 x.hand) := HRX.out.cell 6
        have l6 : wcx.cell? ⟨bY, 6, none⟩ = some (.int .i64 y.hand) := HRY.out.cell 6
        have k7 : wcx.cell? ⟨bX, 7, none⟩ = some (.slice pa x.fld.length pc) := HRX.out.cell 7
        have l7 : wcx.cell? ⟨bY, 7, none⟩ = some (.slice ra y.fld.length rc) := HRY.out.cell 7
        have k8 : wcx.cell? ⟨bX, 8, none⟩ = some (.slice qa x.grv.length qc) := HRX.out.cell 8
        have l8 : wcx.cell? ⟨bY, 8, none⟩ = some (.slice sa y.grv.length sc) := HRY.out.cell 8
        have k9 : wcx.cell? ⟨bX, 9, none⟩ = some (.bool x.em) := HRX.out.cell 9
        have l9 : wcx.cell? ⟨bY, 9, none⟩ = some (.bool y.em) := HRY.out.cell 9
        have k10 : wcx.cell? ⟨bX, 10, none⟩ = some (.bool x.py) := HRX.out.cell 10
        have l10 : wcx.cell? ⟨bY, 10, none⟩ = some (.bool y.py) := HRY.out.cell 10
        have k11 : wcx.cell? ⟨bX, 11, none⟩ = some (.bool x.kp) := HRX.out.cell 11
        have l11 : wcx.cell? ⟨bY, 11, none⟩ = some (.bool y.kp) := HRY.out.cell 11
        have k12 : wcx.cell? ⟨bX, 12, none⟩ = some (.int .i64 x.mu) := HRX.out.cell 12
        have l12 : wcx.cell? ⟨bY, 12, none⟩ = some (.int .i64 y.mu) := HRY.out.cell 12
        have k13 : wcx.cell? ⟨bX, 13, none⟩ = some (.int .i64 x.ac) := HRX.out.cell 13
        have l13 : wcx.cell? ⟨bY, 13, none⟩ = some (.int .i64 y.ac) := HRY.out.cell 13
        go_wp2_with fail
        with_reducible refine (lqO _ _ _ _ _ (HT2.out.below HB.out) (HT4.out.below HB.out)).mono ?_
        rintro e wcxx ⟨r, rfl, hr, hb⟩
        replace HB := Lib.hid (below_via HB.out hb)
        replace HRX := Lib.hid (HRX.out.below hb)
        replace HRY := Lib.hid (HRY.out.below hb)
        replace HPX := Lib.hid (HPX.out.below hb)
        replace HPY := Lib.hid (HPY.out.below hb)
        clear hb
        clear k0 l0 k1 l1 k2 l2 k3 l3 k4 l4 k5 l5 k6 l6 k7 l7 k8 l8 k9 l9 k10 l10 k11 l11 k12 l12 k13 l13
        cases r
        · have HNE : Hid (x ≠ y) := Lib.hid (fun e => by have := hr.2 (by rw [e]); cases this)
          clear hr
          go_upto_if 98 with (refine no_implicit_lambda% (wpList_end 63 [(63, .bool true), (64, .bool true), (65, undef), (66, undef), (67, undef), (68, undef), (69, undef), (70, .bool true), (71, .bool true), (72, undef), (73, undef), (74, undef), (75, undef), (76, undef), (77, .bool true), (78, .bool true), (79, undef), (80, undef), (81, undef), (82, undef), (83, undef), (84, .bool true), (85, .bool true), (86, undef), (87, undef), (88, undef), (89, undef), (90, undef), (91, .bool true), (92, .bool true), (93, undef), (94, undef), (95, undef), (96, undef), (97, undef), (98, .bool true)] rfl (by kernel_rfl) ?_); simp only [setL, List.foldl, List.setIfInBounds_toArray, List.set_cons_zero, List.set_cons_succ])
          go_wp2_with fail
          go_returns
          exact EqA.no (fun e => HNE.out (by rw [← HSX.out, ← HSY.out, e])) HB.out
        have HG := Lib.hid (hr.1 rfl)
        clear hr
        have k0 : wcxx.cell? ⟨bX, 0, none⟩ = some (.int .i64 x.li) := HRX.out.cell 0
        have l0 : wcxx.cell? ⟨bY, 0, none⟩ = some (.int .i64 y.li) := HRY.out.cell 0
        have k1 : wcxx.cell? ⟨bX, 1, none⟩ = some (.int .i64 x.p0) := HRX.out.cell 1
        have l1 : wcxx.cell? ⟨bY, 1, none⟩ = some (.int .i64 y.p0) := HRY.out.cell 1
        have k2 : wcxx.cell? ⟨bX, 2, none⟩ = some (.int .i64 x.p1) := HRX.out.cell 2
        have l2 : wcxx.cell? ⟨bY, 2, none⟩ = some (.int .i64 y.p1) := HRY.out.cell 2
        have k3 : wcxx.cell? ⟨bX, 3, none⟩ = some (.int .i64 x.p2) := HRX.out.cell 3
        have l3 : wcxx.cell? ⟨bY, 3, none⟩ = some (.int .i64 y.p2) := HRY.out.cell 3
        have k4 : wcxx.cell? ⟨bX, 4, none⟩ = some (.int .i64 x.p3) := HRX.out.cell 4
        have l4 : wcxx.cell? ⟨bY, 4, none⟩ = some (.int .i64 y.p3) := HRY.out.cell 4
        have k5 : wcxx.cell? ⟨bX, 5, none⟩ = some (.int .i64 x.lib) := HRX.out.cell 5
        have l5 : wcxx.cell? ⟨bY, 5, none⟩ = some (.int .i64 y.lib) := HRY.out.cell 5
        have k6 : wcxx.cell? ⟨bX, 6, none⟩ = some (.int .i64 x.hand) := HRX.out.cell 6
        have l6 : wcxx.cell? ⟨bY, 6, none⟩ = some (.int .i64 y.hand) := HRY.out.cell 6
        have k7 : wcxx.cell? ⟨bX, 7, none⟩ = some (.slice pa x.fld.length pc) := HRX.out.cell 7
        have l7 : wcxx.cell? ⟨bY, 7, none⟩ = some (.slice ra y.fld.length rc) := HRY.out.cell 7
        have k8 : wcxx.cell? ⟨bX, 8, none⟩ = some (.slice qa x.grv.length qc) := HRX.out.cell 8
        have l8 : wcxx.cell? ⟨bY, 8, none⟩ = some (.slice sa y.grv.length sc) := HRY.out.cell 8
        have k9 : wcxx.cell? ⟨bX, 9, none⟩ = some (.bool x.em) := HRX.out.cell 9
        have l9 : wcxx.cell? ⟨bY, 9, none⟩ = some (.bool y.em) := HRY.out.cell 9
        have k10 : wcxx.cell? ⟨bX, 10, none⟩ = some (.bool x.py) := HRX.out.cell 10
        have l10 : wcxx.cell? ⟨bY, 10, none⟩ = some (.bool y.py) := HRY.out.cell 10
        have k11 : wcxx.cell? ⟨bX, 11, none⟩ = some (.bool x.kp) := HRX.out.cell 11
        have l11 : wcxx.cell? ⟨bY, 11, none⟩ = some (.bool y.kp) := HRY.out.cell 11
        have k12 : wcxx.cell? ⟨bX, 12, none⟩ = some (.int .i64 x.mu) := HRX.out.cell 12
        have l12 : wcxx.cell? ⟨bY, 12, none⟩ = some (.int .i64 y.mu) := HRY.out.cell 12
        have k13 : wcxx.cell? ⟨bX, 13, none⟩ = some (.int .i64 x.ac) := HRX.out.cell 13
        have l13 : wcxx.cell? ⟨bY, 13, none⟩ = some (.int .i64 y.ac) := HRY.out.cell 13
        cases hhem : (x.em == y.em)
        case false =>
          have HNE : Hid (x ≠ y) := Lib.hid (fun e => by rw [e] at hhem; simp at hhem)
          go_upto_if 98 with (refine no_implicit_lambda% (wpList_end 70 [(70, .bool true), (71, .bool true), (72, undef), (73, undef), (74, undef), (75, undef), (76, undef), (77, .bool true), (78, .bool true), (79, undef), (80, undef), (81, undef), (82, undef), (83, undef), (84, .bool true), (85, .bool true), (86, undef), (87, undef), (88, undef), (89, undef), (90, undef), (91, .bool true), (92, .bool true), (93, undef), (94, undef), (95, undef), (96, undef), (97, undef), (98, .bool true)] rfl (by kernel_rfl) ?_); simp only [setL, List.foldl, List.setIfInBounds_toArray, List.set_cons_zero, List.set_cons_succ])
          go_wp2_with fail
          go_returns
          exact EqA.no (fun e => HNE.out (by rw [← HSX.out, ← HSY.out, e])) HB.out
        cases hhpy : (x.py == y.py)
        case false =>
          have HNE : Hid (x ≠ y) := Lib.hid (fun e => by rw [e] at hhpy; simp at hhpy)
          go_upto_if 98 with (refine no_implicit_lambda% (wpList_end 77 [(77, .bool true), (78, .bool true), (79, undef), (80, undef), (81, undef), (82, undef), (83, undef), (84, .bool true), (85, .bool true), (86, undef), (87, undef), (88, undef), (89, undef), (90, undef), (91, .bool true), (92, .bool true), (93, undef), (94, undef), (95, undef), (96, undef), (97, undef), (98, .bool true)] rfl (by kernel_rfl) ?_); simp only [setL, List.foldl, List.setIfInBounds_toArray, List.set_cons_zero, List.set_cons_succ])
          go_wp2_with fail
          go_returns
          exact EqA.no (fun e => HNE.out (by rw [← HSX.out, ← HSY.out, e])) HB.out
        cases hhkp : (x.kp == y.kp)
        case false =>
          have HNE : Hid (x ≠ y) := Lib.hid (fun e => by rw [e] at hhkp; simp at hhkp)
          go_upto_if 98 with (refine no_implicit_lambda% (wpList_end 84 [(84, .bool true), (85, .bool true), (86, undef), (87, undef), (88, undef), (89, undef), (90, undef), (91, .bool true), (92, .bool true), (93, undef), (94, undef), (95, undef), (96, undef), (97, undef), (98, .bool true)] rfl (by kernel_rfl) ?_); simp only [setL, List.foldl, List.setIfInBounds_toArray, List.set_cons_zero, List.set_cons_succ])
          go_wp2_with fail
          go_returns
          exact EqA.no (fun e => HNE.out (by rw [← HSX.out, ← HSY.out, e])) HB.out
        cases hhmu : (x.mu != y.mu)
        case true =>
          have HNE : Hid (x ≠ y) := Lib.hid (fun e => by rw [e] at hhmu; simp at hhmu)
          go_upto_if 98 with (refine no_implicit_lambda% (wpList_end 91 [(91, .bool true), (92, .bool true), (93, undef), (94, undef), (95, undef), (96, undef), (97, undef), (98, .bool true)] rfl (by kernel_rfl) ?_); simp only [setL, List.foldl, List.setIfInBounds_toArray, List.set_cons_zero, List.set_cons_succ])
          go_wp2_with fail
          go_returns
          exact EqA.no (fun e => HNE.out (by rw [← HSX.out, ← HSY.out, e])) HB.out
        cases hhac : (x.ac != y.ac)
        case true =>
          have HNE : Hid (x ≠ y) := Lib.hid (fun e => by rw [e] at hhac; simp at hhac)
          go_upto_if 98 with (refine no_implicit_lambda% (wpList_end 98 [(98, .bool true)] rfl (by kernel_rfl) ?_); simp only [setL, List.foldl, List.setIfInBounds_toArray, List.set_cons_zero, List.set_cons_succ])
          go_wp2_with fail
          go_returns
          exact EqA.no (fun e => HNE.out (by rw [← HSX.out, ← HSY.out, e])) HB.out
        have HEQ : Hid (x = y) := Lib.hid (vs_eq HF.out HG.out (by simpa using hhli) hhp (by simpa using hhlib) (by simpa using hhhand) (by simpa using hhem) (by simpa using hhpy) (by simpa using hhkp) (by simpa using hhmu) (by simpa using hhac))
        go_wp2_with fail
        clear hman hhli hhp hhlib hhhand hhem hhpy hhkp hhmu hhac
        clear k0 l0 k1 l1 k2 l2 k3 l3 k4 l4 k5 l5 k6 l6 k7 l7 k8 l8 k9 l9 k10 l10 k11 l11 k12 l12 k13 l13
        go_roundw
        case rel => exact ⟨n + 1, by omega, by go_num, seats_next HSQ.out (by rw [HSX.out, HSY.out, HEQ.out]) , HB.out, HPX.out, HPY.out⟩
        case measure => simp [intOf]; omega
    · obtain rfl : n = 2 := by omega
      have HS0 : Hid (P.s0 = Q.s0) := Lib.hid (HSQ.out 0 (by omega))
      have HS1 : Hid (P.s1 = Q.s1) := Lib.hid (HSQ.out 1 (by omega))
      rw [show ((2 : Nat) : Int) = 2 from rfl]
      clear hpx hpy hn hn2 HSQ
      exact absurd ⟨HS0.out, HS1.out⟩ HSE.out
end Go.Proofs.Yteoeahmnonolmaa
