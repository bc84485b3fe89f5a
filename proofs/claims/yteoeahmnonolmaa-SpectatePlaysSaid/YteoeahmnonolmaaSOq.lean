/- The model of a stand in memory; what is seen, how many are kept, by the law. What See returned lies apart from the stand. The law about any calls of a stand: the walk. What the reading of boards and of calls, as arguments, says. -/
import Derived.Test.YteoeahmnonolmaaSPy
import Derived.Test.YteoeahmnonolmaaSE1
import Derived.Test.YteoeahmnonolmaaBOw
import Derived.Test.YteoeahmnonolmaaSOf
import Derived.Deep.DeepCutAuto
import Derived.LoopTactic
import Derived.Deep.MidRow
import Derived.Test.YteoeahmnonolmaaSW
import Derived.Test.YteoeahmnonolmaaSNo
import Derived.Test.YteoeahmnonolmaaBCr
import Derived.Deep.CutBlock
import Derived.ArgAppend
import Derived.Great.BuildSlice
import Derived.Test.YteoeahmnonolmaaBOp
import Derived.Deep.Slices
import Derived.Deep.Fields
import Derived.OpenShut
import Derived.WideShapes
namespace Go.Proofs.Yteoeahmnonolmaa
open Go.RowKit Plain
set_option linter.unusedVariables false
set_option linter.unusedSimpArgs false

theorem rg16_6 {P : Program} {B n : Nat} {w0 : World} {L : List (Nat × Nat × Value)} {E F : World → Prop} {id : Nat} {Q : Exit → Act → World → Prop} {a : Act} {w : World} {o0 o1 o2 o3 o4 o5 o6 o7 o8 o9 o10 o11 o12 o13 o14 o15 o16 o17 o18 o19 o20 o21 o22 o23 o24 o25 o26 o27 o28 o29 : Oper} (hm : P.follows .mixedOrders = true)
    (hB : (Region.noSelect [o0, o1, o2, o3, o4, o5, o6, o7, o8, o9, o10, o11, o12, o13, o14, o15, o16, o17, o18, o19, o20, o21, o22, o23, o24, o25, o26, o27, o28, o29].toArray && Scr.ok .any [o0, o1, o2, o3, o4, o5, o6, o7, o8, o9, o10, o11, o12, o13, o14, o15, o16, o17, o18, o19, o20, o21, o22, o23, o24, o25, o26, o27, o28, o29].toArray [3, 9, 16, 25] [0, 1, 2, 4, 5, 6, 7, 8, 10, 11, 12, 13, 14, 15, 17, 18, 19, 20, 21, 22, 23, 24, 26, 27, 28, 29] (.free 0 (.free 1 (.free 2 (.free 4 (.free 6 (.free 7 (.free 8 (.read 3 (.free 5 (.read 9 (.free 10 (.free 11 (.free 12 (.free 13 (.free 14 (.free 15 (.read 16 (.free 17 (.free 18 (.free 19 (.free 20 (.free 21 (.free 22 (.free 23 (.free 24 (.free 27 (.read 25 (.free 26 (.free 28 (.free 29 .done)))))))))))))))))))))))))))))) true true [o0, o1, o2, o3, o4, o5, o6, o7, o8, o9, o10, o11, o12, o13, o14, o15, o16, o17, o18, o19, o20, o21, o22, o23, o24, o25, o26, o27, o28, o29].toArray.size (Array.replicate [o0, o1, o2, o3, o4, o5, o6, o7, o8, o9, o10, o11, o12, o13, o14, o15, o16, o17, o18, o19, o20, o21, o22, o23, o24, o25, o26, o27, o28, o29].toArray.size false)) = true)
    (k : Kept B w0 n L w) (he : E w) (hE : ∀ W W', E W → Below W.heap.size W W' → E W') (hf : F w) (hF : ∀ W W', F W → Below W.heap.size W W' → F W')
    (h : ∀ wk, Kept B w0 n L wk → E wk → F wk → wpQuiet P [o0, o1, o2, o3, o4, o5, o6, o7, o8, o9, o10, o11, o12, o13, o14, o15, o16, o17, o18, o19, o20, o21, o22, o23, o24, o25, o26, o27, o28, o29].toArray (fun _ => True) (fun a0 => wpQuiet P [o0, o1, o2, o3, o4, o5, o6, o7, o8, o9, o10, o11, o12, o13, o14, o15, o16, o17, o18, o19, o20, o21, o22, o23, o24, o25, o26, o27, o28, o29].toArray (fun w' => ∃ s : KX B w0 n L E, w' = s.val) (fun a1 => wpQuiet P [o0, o1, o2, o3, o4, o5, o6, o7, o8, o9, o10, o11, o12, o13, o14, o15, o16, o17, o18, o19, o20, o21, o22, o23, o24, o25, o26, o27, o28, o29].toArray (fun _ => True) (fun a2 => wpQuiet P [o0, o1, o2, o3, o4, o5, o6, o7, o8, o9, o10, o11, o12, o13, o14, o15, o16, o17, o18, o19, o20, o21, o22, o23, o24, o25, o26, o27, o28, o29].toArray (fun w' => ∃ s : KX B w0 n L E, w' = s.val) (fun a3 => wpQuiet P [o0, o1, o2, o3, o4, o5, o6, o7, o8, o9, o10, o11, o12, o13, o14, o15, o16, o17, o18, o19, o20, o21, o22, o23, o24, o25, o26, o27, o28, o29].toArray (fun _ => True) (fun a4 => wpQuiet P [o0, o1, o2, o3, o4, o5, o6, o7, o8, o9, o10, o11, o12, o13, o14, o15, o16, o17, o18, o19, o20, o21, o22, o23, o24, o25, o26, o27, o28, o29].toArray (fun w' => ∃ s : KX B w0 n L E, w' = s.val) (fun a5 => wpQuiet P [o0, o1, o2, o3, o4, o5, o6, o7, o8, o9, o10, o11, o12, o13, o14, o15, o16, o17, o18, o19, o20, o21, o22, o23, o24, o25, o26, o27, o28, o29].toArray (fun _ => True) (fun a6 => wpQuiet P [o0, o1, o2, o3, o4, o5, o6, o7, o8, o9, o10, o11, o12, o13, o14, o15, o16, o17, o18, o19, o20, o21, o22, o23, o24, o25, o26, o27, o28, o29].toArray (fun w' => ∃ s : KX B w0 n L E, w' = s.val) (fun a7 => wpQuiet P [o0, o1, o2, o3, o4, o5, o6, o7, o8, o9, o10, o11, o12, o13, o14, o15, o16, o17, o18, o19, o20, o21, o22, o23, o24, o25, o26, o27, o28, o29].toArray (fun _ => True) (fun a8 => Q .normal a8 wk) [o26, o28, o29] a7) [o25] a6) [o17, o18, o19, o20, o21, o22, o23, o24, o27] a5) [o16] a4) [o10, o11, o12, o13, o14, o15] a3) [o9] a2) [o5] a1) [o3] a0) [o0, o1, o2, o4, o6, o7, o8] a) : (Code.region id [o0, o1, o2, o3, o4, o5, o6, o7, o8, o9, o10, o11, o12, o13, o14, o15, o16, o17, o18, o19, o20, o21, o22, o23, o24, o25, o26, o27, o28, o29].toArray true).wp P Q a w := by
  have e1 : E w.drew := hE _ _ he ((Below.refl _ _).drew)
  have g := h _ k.drew e1 (hF _ _ hf ((Below.refl _ _).drew))
  exact wp_region_scr (U := (fun w' => ∃ s : KX B w0 n L E, w' = s.val)) (ops := [o0, o1, o2, o3, o4, o5, o6, o7, o8, o9, o10, o11, o12, o13, o14, o15, o16, o17, o18, o19, o20, o21, o22, o23, o24, o25, o26, o27, o28, o29].toArray) (.free 0 (.free 1 (.free 2 (.free 4 (.free 6 (.free 7 (.free 8 (.read 3 (.free 5 (.read 9 (.free 10 (.free 11 (.free 12 (.free 13 (.free 14 (.free 15 (.read 16 (.free 17 (.free 18 (.free 19 (.free 20 (.free 21 (.free 22 (.free 23 (.free 24 (.free 27 (.read 25 (.free 26 (.free 28 (.free 29 .done)))))))))))))))))))))))))))))) [3, 9, 16, 25] [0, 1, 2, 4, 5, 6, 7, 8, 10, 11, 12, 13, 14, 15, 17, 18, 19, 20, 21, 22, 23, 24, 26, 27, 28, 29] hm hB ⟨⟨_, k.drew, e1⟩, rfl⟩ (Scr.of_free rfl g (fun _ g0 => Scr.of_free rfl g0 (fun _ g1 => Scr.of_free rfl g1 (fun _ g2 => Scr.of_free rfl g2 (fun _ g3 => Scr.of_free rfl g3 (fun _ g4 => Scr.of_free rfl g4 (fun _ g5 => Scr.of_free rfl g5 (fun _ g6 => Scr.of_read rfl g6 (fun _ g7 => Scr.of_free rfl g7 (fun _ g8 => Scr.of_read rfl g8 (fun _ g9 => Scr.of_free rfl g9 (fun _ g10 => Scr.of_free rfl g10 (fun _ g11 => Scr.of_free rfl g11 (fun _ g12 => Scr.of_free rfl g12 (fun _ g13 => Scr.of_free rfl g13 (fun _ g14 => Scr.of_free rfl g14 (fun _ g15 => Scr.of_read rfl g15 (fun _ g16 => Scr.of_free rfl g16 (fun _ g17 => Scr.of_free rfl g17 (fun _ g18 => Scr.of_free rfl g18 (fun _ g19 => Scr.of_free rfl g19 (fun _ g20 => Scr.of_free rfl g20 (fun _ g21 => Scr.of_free rfl g21 (fun _ g22 => Scr.of_free rfl g22 (fun _ g23 => Scr.of_free rfl g23 (fun _ g24 => Scr.of_free rfl g24 (fun _ g25 => Scr.of_read rfl g25 (fun _ g26 => Scr.of_free rfl g26 (fun _ g27 => Scr.of_free rfl g27 (fun _ g28 => Scr.of_free rfl g28 (fun _ g29 => g29)))))))))))))))))))))))))))))))
theorem rg21_1 {P : Program} {B n : Nat} {w0 : World} {L : List (Nat × Nat × Value)} {E F : World → Prop} {id : Nat} {Q : Exit → Act → World → Prop} {a : Act} {w : World} {o0 o1 o2 o3 o4 o5 o6 o7 o8 o9 : Oper} (hm : P.follows .mixedOrders = true)
    (hB : (Region.noSelect [o0, o1, o2, o3, o4, o5, o6, o7, o8, o9].toArray && Scr.ok .any [o0, o1, o2, o3, o4, o5, o6, o7, o8, o9].toArray [3] [0, 1, 2, 4, 5, 7, 8, 9] (.free 0 (.free 1 (.free 2 (.free 5 (.read 3 (.free 4 (.alt 6 (.free 7 (.free 8 (.free 9 .done))) .stop))))))) true true [o0, o1, o2, o3, o4, o5, o6, o7, o8, o9].toArray.size (Array.replicate [o0, o1, o2, o3, o4, o5, o6, o7, o8, o9].toArray.size false)) = true)
    (k : Kept B w0 n L w) (he : E w) (hE : ∀ W W', E W → Below W.heap.size W W' → E W') (hf : F w) (hF : ∀ W W', F W → Below W.heap.size W W' → F W')
    (h : ∀ wk, Kept B w0 n L wk → E wk → F wk → wpQuiet P [o0, o1, o2, o3, o4, o5, o6, o7, o8, o9].toArray (fun _ => True) (fun a0 => wpQuiet P [o0, o1, o2, o3, o4, o5, o6, o7, o8, o9].toArray (fun w' => ∃ s : KX B w0 n L E, w' = s.val) (fun a1 => wpQuiet P [o0, o1, o2, o3, o4, o5, o6, o7, o8, o9].toArray (fun _ => True) (fun a2 => ((∀ K3 : Act → World → Prop, (∀ a3 w3, wpQuiet P [o0, o1, o2, o3, o4, o5, o6, o7, o8, o9].toArray (fun _ => True) (fun a4 => Q .normal a4 w3) [o7, o8, o9] a3 → K3 a3 w3) → wpList P [o0, o1, o2, o3, o4, o5, o6, o7, o8, o9].toArray (fun e a3 w3 => e = .normal ∧ (∃ s : KX B w0 n L E, w3 = s.val) ∧ K3 a3 w3) [o6] a2 wk) ∧ True)) [o4] a1) [o3] a0) [o0, o1, o2, o5] a) : (Code.region id [o0, o1, o2, o3, o4, o5, o6, o7, o8, o9].toArray true).wp P Q a w := by
  have e1 : E w.drew := hE _ _ he ((Below.refl _ _).drew)
  have g := h _ k.drew e1 (hF _ _ hf ((Below.refl _ _).drew))
  exact wp_region_scr (U := (fun w' => ∃ s : KX B w0 n L E, w' = s.val)) (ops := [o0, o1, o2, o3, o4, o5, o6, o7, o8, o9].toArray) (.free 0 (.free 1 (.free 2 (.free 5 (.read 3 (.free 4 (.alt 6 (.free 7 (.free 8 (.free 9 .done))) .stop))))))) [3] [0, 1, 2, 4, 5, 7, 8, 9] hm hB ⟨⟨_, k.drew, e1⟩, rfl⟩ (Scr.of_free rfl g (fun _ g0 => Scr.of_free rfl g0 (fun _ g1 => Scr.of_free rfl g1 (fun _ g2 => Scr.of_free rfl g2 (fun _ g3 => Scr.of_read rfl g3 (fun _ g4 => Scr.of_free rfl g4 (fun _ g5 => (Scr.of_alt rfl (g5.1 _ (fun _ _ g => g)) (fun _ _ g6 => Scr.of_free rfl g6 (fun _ g7 => Scr.of_free rfl g7 (fun _ g8 => Scr.of_free rfl g8 (fun _ g9 => g9)))) trivial))))))))
/-- the cells of what was shown, of the model -/
def shb (x : (Bs × Bd) × Int) : List Value := (bcells x.1.1 x.1.2).toList ++ [.int .u64 x.2]
theorem shb_ok : ∀ z : (Bs × Bd) × Int, (shb z).length = 39 ∧ ∀ u ∈ shb z, u.oneCell' = true := fun z => ⟨by simp [shb, bcells], fun u hu => by
  rcases List.mem_append.1 hu with h | h
  · exact Array.all_eq_true_iff_forall_mem.1 (bcells_one z.1.1 z.1.2) u (by simpa using h)
  · simp at h; subst h; rfl⟩
def MdC (D N : Int) (v : Value) : Array Value := #[.int .u64 D, .int .u64 N, v]
def SnL (w : World) (D N : Int) {α : Type} (L : List (α × Int)) (v3 v4 : Value) (wr : World) : Prop := ∃ i : Nat, i ≤ L.length ∧ v4 = .int .i64 i ∧ ∃ b : Int, v3 = .int .i64 b ∧ Bst D N (L.take i) b ∧ Below w.heap.size w wr
set_option maxRecDepth 100000 in
set_option maxHeartbeats 4000000 in
theorem lseen (M : Nat) (D N b : Int) (a : Option Addr) (c : Nat) (L : List ((Bs × Bd) × Int)) (w : World) (hm : Ro w M (MdC D N (.slice a L.length c)) 59) (hr : Rw shb 39 w (.slice a L.length c) L) (hd : 0 ≤ D ∧ D ≤ 100000) (hn : U N) (hus : ∀ x ∈ L, U x.2 ∧ x.2 ≤ N) (hl : L.length ≤ 1000) (hb : Bst D N L b) : Calls Try.prog 16 #[.pointer (some ⟨M, 0, none⟩)] w fun e w' => e = .returned (.int .i64 b) ∧ Below w.heap.size w w' := by
  have HM := Lib.hid hm
  have HF := Lib.hid hr.form.2
  have HD := Lib.hid hd
  have HNU := Lib.hid hn
  have HUS := Lib.hid hus
  have HBB := Lib.hid hb
  clear hm hr hd hn hus hb
  go_enter Try.func16, Try.ntmps16
  go_wp2_with fail
  go_loopw [3, 4] (fun v3 v4 wr => SnL w D N L v3 v4 wr) (fun _ v _ => L.length - (intOf v).toNat)
  case atStart => exact ⟨0, by omega, rfl, -1, rfl, Bst.nil _ _, Below.refl _ _⟩
  case round =>
    obtain ⟨i, hi, rfl, b', rfl, hbi, hbw⟩ := hrel
    have HB := Lib.hid hbw
    have HBI := Lib.hid hbi
    have hmr := HM.out.below hbw
    have m0 : wr.cell? ⟨M, 0, none⟩ = some (.int .u64 D) := hmr.cell 0
    have m1 : wr.cell? ⟨M, 1, none⟩ = some (.int .u64 N) := hmr.cell 1
    have m2 : wr.cell? ⟨M, 2, none⟩ = some (.slice a L.length c) := hmr.cell 2
    have g0 : M < wr.heap.size := hmr.lt
    clear hmr hbi
    by_cases hil : i < L.length
    · obtain ⟨a2, c2, he, hc⟩ := HF.out
      simp only [Value.slice.injEq] at he
      obtain ⟨rfl, _, rfl⟩ := he
      obtain ⟨bk, off, rfl, hlt, hc⟩ := hc (by omega)
      obtain ⟨x, hx⟩ : ∃ x, L[i]? = some x := ⟨_, List.getElem?_eq_getElem hil⟩
      have d : wr.cell? ⟨bk, off + i * 39 + 38, none⟩ = some (.int .u64 x.2) := by
        rw [Nat.add_assoc]
        exact (hbw.cell (p := ⟨bk, off + (i * 39 + 38), none⟩) hlt).trans (hc i x hx 38 _ rfl)
      obtain ⟨⟨a0, _⟩, a1⟩ := HUS.out x (List.mem_of_getElem? hx)
      obtain ⟨y, at'⟩ := x
      replace d : wr.cell? ⟨bk, off + i * 39 + 38, none⟩ = some (.int .u64 at') := d
      replace a0 : 0 ≤ at' := a0
      replace a1 : at' ≤ N := a1
      obtain ⟨d0, d1⟩ := HD.out
      obtain ⟨_, n1⟩ := HNU.out
      have i1 : (0 : Int) ≤ (i : Int) := by omega
      have i2 : (i : Int) < (L.length : Int) := by omega
      have hdi := due_iff (N := N) (show U at' from ⟨a0, by omega⟩) (show U D from ⟨d0, by omega⟩)
      have HX := Lib.hid hx
      clear hc hx hbw
      cases hdue : dueT D N at'
      · have HBN : Hid (Bst D N (L.take (i + 1)) b') := Lib.hid (Bst.snoc_no HBI.out HX.out hdue)
        have hnd : ¬ (at' + D < 18446744073709551615 ∧ at' + D ≤ N) := fun h => by have := hdi.2 h; rw [hdue] at this; cases this
        clear hdi hdue
        by_cases hle : at' + D ≤ N
        · have ea : at' + D = 18446744073709551615 := by omega
          have t1 : decide (N - at' ≥ D) = true := decide_eq_true (by omega)
          clear hnd hle
          go_upto_region 6 with fail
          clear d m2
          refine rg16_6 (w0 := wr) (B := wr.heap.size) (n := wr.heap.size) (L := []) (E := fun _ => True) (F := fun _ => True) (by kernel_rfl) (by kernel_rfl) ⟨by go_grown, by go_size, (by simp [go_sem] <;> omega)⟩ trivial (fun _ _ _ _ => trivial) trivial (fun _ _ _ _ => trivial) (fun w41 K_w41 E_w41 F_w41 => ?_)
          have _ne : Nonempty (KX (wr.heap.size) wr (wr.heap.size) [] (fun _ => True)) := ⟨⟨_, K_w41, E_w41⟩⟩
          repeat (go_big_quiet_step (fail))
          refine wpQuiet_nil ?_
          have r0 : ∀ s : KX (wr.heap.size) wr (wr.heap.size) [] (fun _ => True), s.val.cell? ⟨M, 0, none⟩ = some (.int .u64 D) := fun s => (s.kept.below.cell (p := ⟨M, 0, none⟩) g0).trans m0
          have r1 : ∀ s : KX (wr.heap.size) wr (wr.heap.size) [] (fun _ => True), s.val.cell? ⟨M, 1, none⟩ = some (.int .u64 N) := fun s => (s.kept.below.cell (p := ⟨M, 1, none⟩) g0).trans m1
          repeat (go_big_quiet_step (fail))
          refine wpQuiet_nil ?_
          repeat (go_big_quiet_step (fail))
          refine wpQuiet_nil ?_
          repeat (go_big_quiet_step (fail))
          refine wpQuiet_nil ?_
          repeat (go_big_quiet_step (fail))
          refine wpQuiet_nil ?_
          repeat (go_big_quiet_step (fail))
          refine wpQuiet_nil ?_
          repeat (go_big_quiet_step (fail))
          refine wpQuiet_nil ?_
          repeat (go_big_quiet_step (fail))
          refine wpQuiet_nil ?_
          repeat (go_big_quiet_step (fail))
          refine wpQuiet_nil ?_
          clear r0 r1
          clear _ne
          have KH_w41 := Lib.hid K_w41
          have hw_w41 := K_w41.below
          have hz_w41 := K_w41.size
          clear K_w41
          clear E_w41 F_w41
          replace HB := Lib.hid (below_via HB.out KH_w41.out.below)
          clear m0 m1 g0
          go_wp2_with fail
          go_roundw
          case rel => exact ⟨i + 1, by omega, by go_num, b', rfl, HBN.out, HB.out⟩
          case measure => simp [intOf]; omega
        · have t1 : decide (N - at' ≥ D) = false := decide_eq_false (by omega)
          clear hnd hle
          go_upto_region 6 with fail
          clear d m2
          refine rg16_6 (w0 := wr) (B := wr.heap.size) (n := wr.heap.size) (L := []) (E := fun _ => True) (F := fun _ => True) (by kernel_rfl) (by kernel_rfl) ⟨by go_grown, by go_size, (by simp [go_sem] <;> omega)⟩ trivial (fun _ _ _ _ => trivial) trivial (fun _ _ _ _ => trivial) (fun w41 K_w41 E_w41 F_w41 => ?_)
          have _ne : Nonempty (KX (wr.heap.size) wr (wr.heap.size) [] (fun _ => True)) := ⟨⟨_, K_w41, E_w41⟩⟩
          repeat (go_big_quiet_step (fail))
          refine wpQuiet_nil ?_
          have r0 : ∀ s : KX (wr.heap.size) wr (wr.heap.size) [] (fun _ => True), s.val.cell? ⟨M, 0, none⟩ = some (.int .u64 D) := fun s => (s.kept.below.cell (p := ⟨M, 0, none⟩) g0).trans m0
          have r1 : ∀ s : KX (wr.heap.size) wr (wr.heap.size) [] (fun _ => True), s.val.cell? ⟨M, 1, none⟩ = some (.int .u64 N) := fun s => (s.kept.below.cell (p := ⟨M, 1, none⟩) g0).trans m1
          repeat (go_big_quiet_step (fail))
          refine wpQuiet_nil ?_
          repeat (go_big_quiet_step (fail))
          refine wpQuiet_nil ?_
          repeat (go_big_quiet_step (fail))
          refine wpQuiet_nil ?_
          repeat (go_big_quiet_step (fail))
          refine wpQuiet_nil ?_
          repeat (go_big_quiet_step (fail))
          refine wpQuiet_nil ?_
          repeat (go_big_quiet_step (fail))
          refine wpQuiet_nil ?_
          repeat (go_big_quiet_step (fail))
          refine wpQuiet_nil ?_
          repeat (go_big_quiet_step (fail))
          refine wpQuiet_nil ?_
          clear r0 r1
          clear _ne
          have KH_w41 := Lib.hid K_w41
          have hw_w41 := K_w41.below
          have hz_w41 := K_w41.size
          clear K_w41
          clear E_w41 F_w41
          replace HB := Lib.hid (below_via HB.out KH_w41.out.below)
          clear m0 m1 g0
          go_wp2_with fail
          go_roundw
          case rel => exact ⟨i + 1, by omega, by go_num, b', rfl, HBN.out, HB.out⟩
          case measure => simp [intOf]; omega
      · have HBN : Hid (Bst D N (L.take (i + 1)) (i : Int)) := Lib.hid (Bst.snoc_yes HX.out hdue)
        obtain ⟨e1, e2⟩ := hdi.1 hdue
        have t1 : decide (N - at' ≥ D) = true := decide_eq_true (by omega)
        have t2 : (at' + D != 18446744073709551615) = true := by simp only [bne_iff_ne, ne_eq]; omega
        have t3 : decide (at' + D ≥ at') = true := decide_eq_true (by omega)
        clear hdi hdue
        go_upto_region 6 with fail
        clear d m2
        refine rg16_6 (w0 := wr) (B := wr.heap.size) (n := wr.heap.size) (L := []) (E := fun _ => True) (F := fun _ => True) (by kernel_rfl) (by kernel_rfl) ⟨by go_grown, by go_size, (by simp [go_sem] <;> omega)⟩ trivial (fun _ _ _ _ => trivial) trivial (fun _ _ _ _ => trivial) (fun w41 K_w41 E_w41 F_w41 => ?_)
        have _ne : Nonempty (KX (wr.heap.size) wr (wr.heap.size) [] (fun _ => True)) := ⟨⟨_, K_w41, E_w41⟩⟩
        repeat (go_big_quiet_step (fail))
        refine wpQuiet_nil ?_
        have r0 : ∀ s : KX (wr.heap.size) wr (wr.heap.size) [] (fun _ => True), s.val.cell? ⟨M, 0, none⟩ = some (.int .u64 D) := fun s => (s.kept.below.cell (p := ⟨M, 0, none⟩) g0).trans m0
        have r1 : ∀ s : KX (wr.heap.size) wr (wr.heap.size) [] (fun _ => True), s.val.cell? ⟨M, 1, none⟩ = some (.int .u64 N) := fun s => (s.kept.below.cell (p := ⟨M, 1, none⟩) g0).trans m1
        repeat (go_big_quiet_step (fail))
        refine wpQuiet_nil ?_
        repeat (go_big_quiet_step (fail))
        refine wpQuiet_nil ?_
        repeat (go_big_quiet_step (fail))
        refine wpQuiet_nil ?_
        repeat (go_big_quiet_step (fail))
        refine wpQuiet_nil ?_
        repeat (go_big_quiet_step (fail))
        refine wpQuiet_nil ?_
        repeat (go_big_quiet_step (fail))
        refine wpQuiet_nil ?_
        repeat (go_big_quiet_step (fail))
        refine wpQuiet_nil ?_
        repeat (go_big_quiet_step (fail))
        refine wpQuiet_nil ?_
        clear r0 r1
        clear _ne
        have KH_w41 := Lib.hid K_w41
        have hw_w41 := K_w41.below
        have hz_w41 := K_w41.size
        clear K_w41
        clear E_w41 F_w41
        replace HB := Lib.hid (below_via HB.out KH_w41.out.below)
        clear m0 m1 g0
        go_wp2_with fail
        go_roundw
        case rel => exact ⟨i + 1, by omega, by go_num, i, by go_num, HBN.out, HB.out⟩
        case measure => simp [intOf]; omega
    · obtain rfl : i = L.length := by omega
      have hb2 := HBI.out
      rw [List.take_length] at hb2
      have hbb : b' = b := hb2.uniq HBB.out
      clear hb2
      go_wp2_with fail
      go_returns
      exact ⟨ret_int hbb, HB.out⟩
set_option maxRecDepth 100000 in
set_option maxHeartbeats 4000000 in
theorem lkept (M : Nat) (D N b : Int) (a : Option Addr) (c : Nat) (L : List ((Bs × Bd) × Int)) (w : World) (hm : Ro w M (MdC D N (.slice a L.length c)) 59) (hr : Rw shb 39 w (.slice a L.length c) L) (hd : 0 ≤ D ∧ D ≤ 100000) (hn : U N) (hus : ∀ x ∈ L, U x.2 ∧ x.2 ≤ N) (hl : L.length ≤ 1000) (hb : Bst D N L b) : Calls Try.prog 21 #[.pointer (some ⟨M, 0, none⟩)] w fun e w' => e = .returned (.int .i64 (L.length - max 0 b)) ∧ Below w.heap.size w w' := by
  have HM := Lib.hid hm
  have HR := Lib.hid hr
  have HD := Lib.hid hd
  have HNU := Lib.hid hn
  have HUS := Lib.hid hus
  have HBB := Lib.hid hb
  have m2 : w.cell? ⟨M, 2, none⟩ = some (.slice a L.length c) := hm.cell 2
  have g0 : M < w.heap.size := hm.lt
  have hbl := hb.lt
  clear hm hr hd hn hus hb
  by_cases hb0 : 0 < b
  · go_enter Try.func21, Try.ntmps21
    go_upto_region 1 with fail
    refine rg21_1 (w0 := w) (B := w.heap.size) (n := w.heap.size) (L := []) (E := fun _ => True) (F := fun _ => True) (by kernel_rfl) (by kernel_rfl) ⟨by go_grown, by go_size, (by simp [go_sem] <;> omega)⟩ trivial (fun _ _ _ _ => trivial) trivial (fun _ _ _ _ => trivial) (fun w41 K_w41 E_w41 F_w41 => ?_)
    have _ne : Nonempty (KX (w.heap.size) w (w.heap.size) [] (fun _ => True)) := ⟨⟨_, K_w41, E_w41⟩⟩
    repeat (go_big_quiet_step (fail))
    refine wpQuiet_nil ?_
    have r2 : ∀ s : KX (w.heap.size) w (w.heap.size) [] (fun _ => True), s.val.cell? ⟨M, 2, none⟩ = some (.slice a L.length c) := fun s => (s.kept.below.cell (p := ⟨M, 2, none⟩) g0).trans m2
    repeat (go_big_quiet_step (fail))
    refine wpQuiet_nil ?_
    repeat (go_big_quiet_step (fail))
    refine wpQuiet_nil ?_
    have KH_w41 := Lib.hid K_w41
    have hw_w41 := K_w41.below
    have hz_w41 := K_w41.size
    clear K_w41
    clear E_w41 F_w41
    refine ⟨fun K hK0 => ?_, trivial⟩
    have hK := Lib.hid hK0
    clear hK0
    have HB : Hid (Below w.heap.size w w41) := Lib.hid KH_w41.out.below
    go_wp2_with fail
    with_reducible refine (lseen M D N b a c L _ (HM.out.below HB.out) (HR.out.below HB.out) HD.out HNU.out HUS.out (by omega) HBB.out).mono ?_
    rintro e w2 ⟨rfl, hb2⟩
    replace HB := Lib.hid (below_via HB.out hb2)
    clear hb2
    go_wp2_with fail
    first | (refine ⟨rfl, ⟨⟨_, (⟨HB.out, HB.out.size, by simp⟩ : Kept w.heap.size w (w.heap.size) [] w2), trivial⟩, rfl⟩, hK.out _ _ ?_⟩; clear hK K) | (refine ⟨⟨⟨_, (⟨HB.out, HB.out.size, by simp⟩ : Kept w.heap.size w (w.heap.size) [] w2), trivial⟩, rfl⟩, hK.out _ _ ?_⟩; clear hK K)
    repeat (go_big_quiet_step (fail))
    refine wpQuiet_nil ?_
    clear r2
    clear _ne
    go_wp2_with fail
    go_returns
    exact ⟨ret_int (by omega), HB.out⟩
  · go_enter Try.func21, Try.ntmps21
    go_upto_region 1 with fail
    refine rg21_1 (w0 := w) (B := w.heap.size) (n := w.heap.size) (L := []) (E := fun _ => True) (F := fun _ => True) (by kernel_rfl) (by kernel_rfl) ⟨by go_grown, by go_size, (by simp [go_sem] <;> omega)⟩ trivial (fun _ _ _ _ => trivial) trivial (fun _ _ _ _ => trivial) (fun w41 K_w41 E_w41 F_w41 => ?_)
    have _ne : Nonempty (KX (w.heap.size) w (w.heap.size) [] (fun _ => True)) := ⟨⟨_, K_w41, E_w41⟩⟩
    repeat (go_big_quiet_step (fail))
    refine wpQuiet_nil ?_
    have r2 : ∀ s : KX (w.heap.size) w (w.heap.size) [] (fun _ => True), s.val.cell? ⟨M, 2, none⟩ = some (.slice a L.length c) := fun s => (s.kept.below.cell (p := ⟨M, 2, none⟩) g0).trans m2
    repeat (go_big_quiet_step (fail))
    refine wpQuiet_nil ?_
    repeat (go_big_quiet_step (fail))
    refine wpQuiet_nil ?_
    have KH_w41 := Lib.hid K_w41
    have hw_w41 := K_w41.below
    have hz_w41 := K_w41.size
    clear K_w41
    clear E_w41 F_w41
    refine ⟨fun K hK0 => ?_, trivial⟩
    have hK := Lib.hid hK0
    clear hK0
    have HB : Hid (Below w.heap.size w w41) := Lib.hid KH_w41.out.below
    go_wp2_with fail
    with_reducible refine (lseen M D N b a c L _ (HM.out.below HB.out) (HR.out.below HB.out) HD.out HNU.out HUS.out (by omega) HBB.out).mono ?_
    rintro e w2 ⟨rfl, hb2⟩
    replace HB := Lib.hid (below_via HB.out hb2)
    clear hb2
    go_wp2_with fail
    first | (refine ⟨rfl, ⟨⟨_, (⟨HB.out, HB.out.size, by simp⟩ : Kept w.heap.size w (w.heap.size) [] w2), trivial⟩, rfl⟩, hK.out _ _ ?_⟩; clear hK K) | (refine ⟨⟨⟨_, (⟨HB.out, HB.out.size, by simp⟩ : Kept w.heap.size w (w.heap.size) [] w2), trivial⟩, rfl⟩, hK.out _ _ ?_⟩; clear hK K)
    repeat (go_big_quiet_step (fail))
    refine wpQuiet_nil ?_
    clear r2
    clear _ne
    go_wp2_with fail
    go_returns
    exact ⟨ret_int (by omega), HB.out⟩
end Go.Proofs.Yteoeahmnonolmaa
namespace Go.Proofs.Yteoeahmnonolmaa
open Go.RowKit Plain
set_option linter.unusedVariables false
set_option linter.unusedSimpArgs false

set_option maxRecDepth 100000 in
set_option maxHeartbeats 4000000 in
theorem see_ok2 (P : Nat) (s : Sd) (v : Sl) (t : Int) (w : World) (h : SdAt w P s v) (hu : U t) (x : Pu × Int) (hse : (s.go t).see = some x) (hsm : x.1.Sm) : Calls Try.prog 12 #[.pointer (some ⟨P, 0, none⟩), .int .u64 t] w fun e w' => ∃ W5 v' s', e = .returned (.tuple #[pv s' x.1, .int .u64 x.2, .int .i64 0]) ∧ PuO W5.heap.size w'.heap.size w' s' x.1 ∧ Onl [P] w w' ∧ SdAt W5 P (s.go t) v' ∧ Onl [w.heap.size] W5 w' ∧ (∃ cur, W5.heap[w.heap.size]? = some (.cells cur 49 (0, 0))) ∧ w.heap.size ≤ W5.heap.size := by
  have HS := Lib.hid h
  have HU : Hid (U t) := Lib.hid hu
  have HP0 : Hid (P < w.heap.size) := Lib.hid h.lt
  clear h hu
  go_enter Try.func12, Try.ntmps12
  go_upto_region 1 with fail
  change Code.wp Try.prog _ _ _ (w.alloc (.cells (pcells nilPs zeroPu) 49))
  obtain ⟨wz, hwz⟩ : ∃ W, W = w.alloc (.cells (pcells nilPs zeroPu) 49) := ⟨_, rfl⟩
  have hb : Below w.heap.size w wz := by rw [hwz]; exact (Below.refl _ _).alloc (Nat.le_refl _) _
  have HB := Lib.hid hb
  have HZP : Hid (Px wz w.heap.size nilPs zeroPu) := Lib.hid (by rw [hwz]; exact heap_alloc_new _ _)
  replace HS := Lib.hid (HS.out.below hb)
  rw [← hwz]
  clear hwz hb
  go_wp2_with fail
  with_reducible refine (none_ok P s v _ HS.out).mono ?_
  rintro e w2 ⟨rfl, rfl⟩
  go_wp2_with fail
  with_reducible refine (goOn P s v t _ HS.out HU.out).mono ?_
  rintro e w4 ⟨rfl, v4, hs4, ho4⟩
  have HON : Hid (Onl [P] w w4) := Lib.hid ((Onl.of HB.out).trans ho4)
  replace HZP : Hid (Px w4 w.heap.size nilPs zeroPu) := Lib.hid (HZP.out.onl ho4 (by have := HP0.out; simp; omega))
  obtain ⟨g, hg⟩ : ∃ g, s.go t = g := ⟨_, rfl⟩
  rw [hg] at hs4 hse
  have HG := Lib.hid hg
  replace HS := Lib.hid hs4
  have hlen := hs4.len
  obtain ⟨va, vn, vc⟩ := v4
  change vn = g.l.length at hlen
  subst hlen
  have HS4 := HS
  have c3 : w4.cell? ⟨P, 3, none⟩ = some (.slice va g.l.length vc) := cell_of_row _ _ 3 _ 73 (0, 0) hs4.blk
  clear hg ho4 hs4 HB
  obtain ⟨xs, hgl, hdx⟩ := see_some hse
  clear hse
  obtain ⟨l', hl', hrw, hpu, hty, _⟩ := HS.out.list
  replace hl' : l'.map (fun x => (x.1.1, x.2)) = g.l := hl'
  replace hrw : Rw shc 38 w4 (.slice va g.l.length vc) l' := hrw
  have hll : l'.length = g.l.length := by rw [← hl', List.length_map]
  obtain ⟨y, r, hlr⟩ : ∃ y r, l' = y :: r := by
    cases l' with
    | nil => simp at hll; rw [hgl] at hll; simp at hll
    | cons y r => exact ⟨y, r, rfl⟩
  subst hlr
  have hy : (y.1.1, y.2) = x ∧ r.map (fun x => (x.1.1, x.2)) = xs := by
    rw [hgl] at hl'
    simpa using hl'
  have HY := Lib.hid hy.1
  have hpos : 0 < g.l.length := by rw [hgl]; simp
  obtain ⟨_, _, _, hv, hc⟩ := hrw.form
  rw [hll] at hv
  obtain ⟨b, off, rfl, hb, hc2⟩ := hc (by simp)
  simp only [Value.slice.injEq] at hv
  obtain ⟨rfl, hz1, rfl⟩ := hv
  clear hz1
  have HQ : Hid (w4.rangeAt b off (shc y)) := Lib.hid (fun j u hu => by
    have := hc2 0 y rfl j u hu
    rwa [Nat.zero_mul, Nat.zero_add] at this)
  have HUY : Hid (U y.2 ∧ U g.dl) := Lib.hid ⟨HS.out.at' (y.1.1, y.2) (by rw [hgl, hy.1]; simp), HS.out.dl⟩
  have HPU : Hid (PuO 0 w4.heap.size w4 y.1.2 y.1.1) := Lib.hid (hpu y (by simp))
  have HT5 : Hid (∃ cur, w4.heap[b]? = some (.cells cur 93 (0, 0))) := Lib.hid (hty b rfl)
  have HLB : Hid (b < w4.heap.size) := Lib.hid hb
  have te : ((g.l.length : Int) == 0) = false := by simp only [beq_eq_false_iff_ne, ne_eq]; omega
  have i0 : (0 : Int) < (g.l.length : Int) := by omega
  have lp := HS.out.lt
  have c1 : w4.cell? ⟨P, 1, none⟩ = some (.int .u64 g.dl) := cell_of_row _ _ 1 _ 73 (0, 0) HS.out.blk
  have c2 : w4.cell? ⟨P, 2, none⟩ = some (.int .u64 g.nw) := cell_of_row _ _ 2 _ 73 (0, 0) HS.out.blk
  clear hrw hpu hty hc hc2 hl' hll hy hpos hb hgl
  go_wp2_with (refine wpList_load_g _ rfl rfl HQ.out Try.underlying93 rfl rfl (by kernel_rfl) ?_)
  with_reducible refine (sdue P g.dl g.nw y _ lp c1 c2 HUY.out.1 HUY.out.2).mono ?_
  rintro e w5 ⟨rfl, hb5⟩
  replace HZP := Lib.hid (HZP.out.below hb5)
  replace HS := Lib.hid (HS.out.below hb5)
  replace HON := Lib.hid (HON.out.grow hb5)
  have HS5 := HS
  have HZ5 := HZP
  clear c1 c2 lp
  have hd : dueT g.dl g.nw y.2 = true := by have := HY.out; rw [← hdx, ← this]
  rw [hd]
  have HSE : Hid (SeE P g ⟨some ⟨b, off, none⟩, g.l.length, vc⟩ b off y w5) := Lib.hid (SeE.below ⟨HS4.out, HQ.out, HT5.out⟩ hb5)
  have hyx : y.1.1 = x.1 ∧ y.2 = x.2 := by have := HY.out; rw [← this]; exact ⟨rfl, rfl⟩
  have HSM : Hid (y.1.1.Sm) := Lib.hid (by rw [hyx.1]; exact hsm)
  have HYX := Lib.hid hyx
  replace HPU : Hid (PuO 0 w5.heap.size w5 y.1.2 y.1.1) := Lib.hid ((HPU.out.below hb5).mono (Nat.le_refl _) hb5.size)
  have HSZ : Hid (w.heap.size ≤ w5.heap.size) := Lib.hid HON.out.size
  have KH0 := Lib.hid (⟨Below.refl _ _, HSZ.out, by simp⟩ : Kept w.heap.size w5 (w.heap.size) [] w5)
  clear hd hdx hb5 hyx hsm HS HQ HT5 HLB
  go_upto_region 6 with fail
  clear c3 te
  refine rg12_6 (w0 := w5) (B := w.heap.size) (n := w.heap.size) (L := []) (E := SeE P g ⟨some ⟨b, off, none⟩, g.l.length, vc⟩ b off y) (F := fun W => Px W w.heap.size nilPs zeroPu ∧ Below w5.heap.size w5 W) (by kernel_rfl) (by kernel_rfl) (KH0.out.step (by omega) (by go_grown)) HSE.out (fun _ _ h hb => h.below hb) ⟨HZP.out, Below.refl _ _⟩ (fun _ _ h hb => ⟨h.1.below hb, below_via h.2 hb⟩) (fun w31 K_w31 E_w31 F_w31 => ?_)
  have _ne : Nonempty (KX (w.heap.size) w5 (w.heap.size) [] (SeE P g ⟨some ⟨b, off, none⟩, g.l.length, vc⟩ b off y)) := ⟨⟨_, K_w31, E_w31⟩⟩
  have qp : ∀ W', (∃ s' : KX (w.heap.size) w5 (w.heap.size) [] (SeE P g ⟨some ⟨b, off, none⟩, g.l.length, vc⟩ b off y), W' = s'.val) → W'.rangeAt b off (pcells y.1.2 y.1.1).toList := by rintro _ ⟨s', rfl⟩; exact fun j u hu => s'.ex.2.1 j u (shc_pub hu)
  repeat (first | (go_big_quiet_want; apply quiet_load_g _ rfl rfl qp Try.underlying49 rfl (by kernel_rfl); (focus (simp only [Array.toArray_toList]; simp [go_sem]; rfl)); go_big_quiet_on) | go_big_quiet_step (fail))
  refine wpQuiet_nil ?_
  have r3 : ∀ s : KX (w.heap.size) w5 (w.heap.size) [] (SeE P g ⟨some ⟨b, off, none⟩, g.l.length, vc⟩ b off y), s.val.cell? ⟨P, 3, none⟩ = some (.slice (some ⟨b, off, none⟩) g.l.length vc) := fun s => cell_of_row _ _ 3 _ 73 (0, 0) s.ex.1.blk
  have r37 : ∀ s : KX (w.heap.size) w5 (w.heap.size) [] (SeE P g ⟨some ⟨b, off, none⟩, g.l.length, vc⟩ b off y), s.val.cell? ⟨b, off + 37, none⟩ = some (.int .u64 y.2) := fun s => s.ex.2.1 37 _ (shc_at y)
  repeat (first | (go_big_quiet_want; apply quiet_load_g _ rfl rfl qp Try.underlying49 rfl (by kernel_rfl); (focus (simp only [Array.toArray_toList]; simp [go_sem]; rfl)); go_big_quiet_on) | go_big_quiet_step (fail))
  refine wpQuiet_nil ?_
  repeat (first | (go_big_quiet_want; apply quiet_load_g _ rfl rfl qp Try.underlying49 rfl (by kernel_rfl); (focus (simp only [Array.toArray_toList]; simp [go_sem]; rfl)); go_big_quiet_on) | go_big_quiet_step (fail))
  refine wpQuiet_nil ?_
  repeat (first | (go_big_quiet_want; apply quiet_load_g _ rfl rfl qp Try.underlying49 rfl (by kernel_rfl); (focus (simp only [Array.toArray_toList]; simp [go_sem]; rfl)); go_big_quiet_on) | go_big_quiet_step (fail))
  refine wpQuiet_nil ?_
  repeat (first | (go_big_quiet_want; apply quiet_load_g _ rfl rfl qp Try.underlying49 rfl (by kernel_rfl); (focus (simp only [Array.toArray_toList]; simp [go_sem]; rfl)); go_big_quiet_on) | go_big_quiet_step (fail))
  refine wpQuiet_nil ?_
  repeat (first | (go_big_quiet_want; apply quiet_load_g _ rfl rfl qp Try.underlying49 rfl (by kernel_rfl); (focus (simp only [Array.toArray_toList]; simp [go_sem]; rfl)); go_big_quiet_on) | go_big_quiet_step (fail))
  refine wpQuiet_nil ?_
  have KH_w31 := Lib.hid K_w31
  have hw_w31 := K_w31.below
  have hz_w31 := K_w31.size
  clear K_w31
  have HE1 := Lib.hid E_w31
  have HF1 := Lib.hid (F_w31.1)
  have HG1 := Lib.hid (F_w31.2)
  clear E_w31 F_w31
  refine ⟨fun K hK0 => ?_, trivial⟩
  have hK := Lib.hid hK0
  clear hK0
  replace HZP := HF1
  replace HSE := HE1
  have HBW : Hid (Below w5.heap.size w5 w31) := HG1
  clear HE1 HF1 HG1
  go_wp2_with fail
  with_reducible refine (scopiedA y.1.2 y.1.1 w31 ((HPU.out.below HBW.out).rd) HSM.out).mono ?_
  rintro e u1 ⟨s', rfl, ho, hb⟩
  have HO : Hid (PuO w5.heap.size u1.heap.size u1 s' y.1.1) := Lib.hid (ho.mono HBW.out.size (Nat.le_refl _))
  replace HSE := Lib.hid (HSE.out.below hb)
  replace HZP := Lib.hid (HZP.out.below hb)
  replace HBW := Lib.hid (below_via HBW.out hb)
  clear ho hb
  go_wp2_with fail
  first | (refine ⟨rfl, ⟨⟨_, (⟨HBW.out.mono HSZ.out, Nat.le_trans HSZ.out HBW.out.size, by simp⟩ : Kept w.heap.size w5 (w.heap.size) [] u1), HSE.out⟩, rfl⟩, hK.out _ _ ?_⟩; clear hK K) | (refine ⟨⟨⟨_, (⟨HBW.out.mono HSZ.out, Nat.le_trans HSZ.out HBW.out.size, by simp⟩ : Kept w.heap.size w5 (w.heap.size) [] u1), HSE.out⟩, rfl⟩, hK.out _ _ ?_⟩; clear hK K)
  refine ⟨fun K hK0 => ?_, trivial⟩
  have hK := Lib.hid hK0
  clear hK0
  go_wp2_with (refine wpList_store_ph (s := s') (P := y.1.1) rfl _ _ rfl rfl rfl HZP.out rfl ?_)
  intro u2 hw0
  have ho : Onl [w.heap.size] u1 u2 := by rw [hw0.out]; exact Onl.setRow (Onl.refl _ _) (.inl (by simp)) _
  have HG9 : Hid (Px u2 w.heap.size s' y.1.1) := Lib.hid (by rw [hw0.out]; exact Px.row HZP.out _ _)
  replace HSE := Lib.hid (HSE.out.put ho HZP.out (by have := HP0.out; omega))
  replace HO : Hid (PuO w5.heap.size u2.heap.size u2 s' y.1.1) := Lib.hid ((PuO.onlT HO.out ho HZP.out (by decide)).mono (Nat.le_refl _) ho.size)
  have HBX : Hid (Below w.heap.size w5 u2) := Lib.hid (belowOnl (HBW.out.mono HSZ.out) ho (by simp) (Nat.le_trans HSZ.out HBW.out.size))
  have HOX : Hid (Onl [P] w u2) := Lib.hid ⟨HBX.out.os.trans HON.out.os, HBX.out.tape.trans HON.out.tape, HBX.out.output.trans HON.out.output, Nat.le_trans HON.out.size HBX.out.size, fun k hk hn => (HBX.out.block k hk).trans (HON.out.block k hk hn)⟩
  have HO5 : Hid (Onl [w.heap.size] w5 u2) := Lib.hid ((Onl.of HBW.out).trans ho)
  clear hw0 ho
  go_wp2_with fail
  first | (refine ⟨rfl, ⟨⟨_, (⟨HBX.out, Nat.le_trans HSZ.out HBX.out.size, by simp⟩ : Kept w.heap.size w5 (w.heap.size) [] u2), HSE.out⟩, rfl⟩, hK.out _ _ ?_⟩; clear hK K) | (refine ⟨⟨⟨_, (⟨HBX.out, Nat.le_trans HSZ.out HBX.out.size, by simp⟩ : Kept w.heap.size w5 (w.heap.size) [] u2), HSE.out⟩, rfl⟩, hK.out _ _ ?_⟩; clear hK K)
  repeat (first | (go_big_quiet_want; apply quiet_load_g _ rfl rfl qp Try.underlying49 rfl (by kernel_rfl); (focus (simp only [Array.toArray_toList]; simp [go_sem]; rfl)); go_big_quiet_on) | go_big_quiet_step (fail))
  refine wpQuiet_nil ?_
  clear r3 r37
  clear _ne
  have HPOST : Hid (∃ W5 v' s2, (Ending.returned (.tuple #[pv s' y.1.1, .int .u64 y.2, .int .i64 0])) = .returned (.tuple #[pv s2 x.1, .int .u64 x.2, .int .i64 0]) ∧ PuO W5.heap.size u2.heap.size u2 s2 x.1 ∧ Onl [P] w u2 ∧ SdAt W5 P (s.go t) v' ∧ Onl [w.heap.size] W5 u2 ∧ (∃ cur, W5.heap[w.heap.size]? = some (.cells cur 49 (0, 0))) ∧ w.heap.size ≤ W5.heap.size) := Lib.hid ⟨w5, _, s', by rw [HYX.out.2, HYX.out.1], by rw [← HYX.out.1]; exact HO.out, HOX.out, by rw [HG.out]; exact HS5.out, HO5.out, ⟨_, HZ5.out⟩, HSZ.out⟩
  go_wp2_with fail
  exact bodyPost_ret (v := .tuple #[pv s' y.1.1, .int .u64 y.2, .int .i64 0]) (results_p2 Try.results12 _ _ HG9.out rfl rfl rfl) rfl HPOST.out
/-- a block of another kind changes -/
theorem SdAt.onl1 {w W : World} {P g : Nat} {s : Sd} {v : Sl} {cur : Array Value} {T : TypeId} (h : SdAt w P s v) (ho : Onl [g] w W) (hg : w.heap[g]? = some (.cells cur T (0, 0))) (hT : T ≠ 73 ∧ T ≠ 93 ∧ (T ≠ 79 ∧ T ≠ 3 ∧ T ≠ 107 ∧ T ≠ 100 ∧ T ≠ 105)) : SdAt W P s v := by
  have hne : P ≠ g := fun e => by
    subst e
    rw [h.blk] at hg
    simp at hg
    exact hT.1 hg.2.symm
  obtain ⟨l', h1, h2, h3, h4, h5⟩ := h.list
  have ne : ∀ b, v.v.ownBlock = some b → b ∉ [g] := fun b hv hm => by
    obtain ⟨c, hc⟩ := h4 b hv
    simp at hm
    subst hm
    rw [hg] at hc
    simp at hc
    exact hT.2.1 hc.2
  exact ⟨(ho.block P h.lt (by simpa using hne)).trans h.blk, ⟨l', h1, h2.onl ho ne, fun x hx => (PuO.onlT (h3 x hx) ho hg hT.2.2).mono (Nat.le_refl _) ho.size, fun b hv => by
    obtain ⟨c, hc⟩ := h4 b hv
    exact ⟨c, (ho.block b (Array.getElem?_eq_some_iff.1 hc).1 (ne b hv)).trans hc⟩, h5⟩, h.dl, h.nw, h.at'⟩
end Go.Proofs.Yteoeahmnonolmaa
namespace Go.Proofs.Yteoeahmnonolmaa
open Go.RowKit Plain
set_option linter.unusedVariables false
set_option linter.unusedSimpArgs false

theorem rg4_26 {P : Program} {B n : Nat} {w0 : World} {L : List (Nat × Nat × Value)} {E F : World → Prop} {id : Nat} {Q : Exit → Act → World → Prop} {a : Act} {w : World} {o0 o1 o2 o3 o4 o5 o6 o7 o8 o9 o10 : Oper} (hm : P.follows .mixedOrders = true)
    (hB : (Region.noSelect [o0, o1, o2, o3, o4, o5, o6, o7, o8, o9, o10].toArray && Scr.ok .any [o0, o1, o2, o3, o4, o5, o6, o7, o8, o9, o10].toArray [4, 6] [0, 1, 2, 3, 5, 7, 8, 9] (.free 0 (.free 1 (.free 2 (.free 3 (.free 5 (.read 4 (.read 6 (.free 7 (.free 8 (.free 9 (.altc 10 .done .stop))))))))))) true true [o0, o1, o2, o3, o4, o5, o6, o7, o8, o9, o10].toArray.size (Array.replicate [o0, o1, o2, o3, o4, o5, o6, o7, o8, o9, o10].toArray.size false)) = true)
    (k : Kept B w0 n L w) (he : E w) (hE : ∀ W W', E W → Below W.heap.size W W' → E W') (hf : F w) (hF : ∀ W W', F W → Below W.heap.size W W' → F W')
    (h : ∀ wk, Kept B w0 n L wk → E wk → F wk → wpQuiet P [o0, o1, o2, o3, o4, o5, o6, o7, o8, o9, o10].toArray (fun _ => True) (fun a0 => wpQuiet P [o0, o1, o2, o3, o4, o5, o6, o7, o8, o9, o10].toArray (fun w' => ∃ s : KX B w0 n L E, w' = s.val) (fun a1 => wpQuiet P [o0, o1, o2, o3, o4, o5, o6, o7, o8, o9, o10].toArray (fun _ => True) (fun a2 => ((∀ K3 : Act → World → Prop, (∀ a3 w3, Q .normal a3 w3 → K3 a3 w3) → wpList P [o0, o1, o2, o3, o4, o5, o6, o7, o8, o9, o10].toArray (fun e a3 w3 => e = .normal ∧ K3 a3 w3) [o10] a2 wk) ∧ True)) [o7, o8, o9] a1) [o4, o6] a0) [o0, o1, o2, o3, o5] a) : (Code.region id [o0, o1, o2, o3, o4, o5, o6, o7, o8, o9, o10].toArray true).wp P Q a w := by
  have e1 : E w.drew := hE _ _ he ((Below.refl _ _).drew)
  have g := h _ k.drew e1 (hF _ _ hf ((Below.refl _ _).drew))
  exact wp_region_scr (U := (fun w' => ∃ s : KX B w0 n L E, w' = s.val)) (ops := [o0, o1, o2, o3, o4, o5, o6, o7, o8, o9, o10].toArray) (.free 0 (.free 1 (.free 2 (.free 3 (.free 5 (.read 4 (.read 6 (.free 7 (.free 8 (.free 9 (.altc 10 .done .stop))))))))))) [4, 6] [0, 1, 2, 3, 5, 7, 8, 9] hm hB ⟨⟨_, k.drew, e1⟩, rfl⟩ (Scr.of_free rfl g (fun _ g0 => Scr.of_free rfl g0 (fun _ g1 => Scr.of_free rfl g1 (fun _ g2 => Scr.of_free rfl g2 (fun _ g3 => Scr.of_free rfl g3 (fun _ g4 => Scr.of_read rfl g4 (fun _ g5 => Scr.of_read rfl g5 (fun _ g6 => Scr.of_free rfl g6 (fun _ g7 => Scr.of_free rfl g7 (fun _ g8 => Scr.of_free rfl g8 (fun _ g9 => (Scr.of_altc rfl (g9.1 _ (fun _ _ g => g)) (fun _ _ g10 => g10) trivial))))))))))))
theorem rg4_27 {P : Program} {B n : Nat} {w0 : World} {L : List (Nat × Nat × Value)} {E F : World → Prop} {id : Nat} {Q : Exit → Act → World → Prop} {a : Act} {w : World} {o0 o1 o2 o3 o4 o5 o6 o7 o8 o9 o10 o11 o12 o13 o14 o15 o16 : Oper} (hm : P.follows .mixedOrders = true)
    (hB : (Region.noSelect [o0, o1, o2, o3, o4, o5, o6, o7, o8, o9, o10, o11, o12, o13, o14, o15, o16].toArray && Scr.ok .any [o0, o1, o2, o3, o4, o5, o6, o7, o8, o9, o10, o11, o12, o13, o14, o15, o16].toArray [4, 6, 10] [0, 1, 2, 3, 7, 8, 9, 11, 14, 15] (.free 0 (.free 1 (.free 2 (.free 3 (.free 7 (.free 8 (.free 9 (.read 4 (.read 6 (.read 10 (.free 11 (.alt 5 (.alt 12 (.altc 13 (.free 14 (.free 15 (.altc 16 .done .stop))) .stop) .stop) (.alt 12 (.alt 5 (.altc 13 (.free 14 (.free 15 (.altc 16 .done .stop))) .stop) .stop) .stop))))))))))))) true true [o0, o1, o2, o3, o4, o5, o6, o7, o8, o9, o10, o11, o12, o13, o14, o15, o16].toArray.size (Array.replicate [o0, o1, o2, o3, o4, o5, o6, o7, o8, o9, o10, o11, o12, o13, o14, o15, o16].toArray.size false)) = true)
    (k : Kept B w0 n L w) (he : E w) (hE : ∀ W W', E W → Below W.heap.size W W' → E W') (hf : F w) (hF : ∀ W W', F W → Below W.heap.size W W' → F W')
    (h : ∀ wk, Kept B w0 n L wk → E wk → F wk → wpQuiet P [o0, o1, o2, o3, o4, o5, o6, o7, o8, o9, o10, o11, o12, o13, o14, o15, o16].toArray (fun _ => True) (fun a0 => wpQuiet P [o0, o1, o2, o3, o4, o5, o6, o7, o8, o9, o10, o11, o12, o13, o14, o15, o16].toArray (fun w' => ∃ s : KX B w0 n L E, w' = s.val) (fun a1 => wpQuiet P [o0, o1, o2, o3, o4, o5, o6, o7, o8, o9, o10, o11, o12, o13, o14, o15, o16].toArray (fun _ => True) (fun a2 => ((∀ K3 : Act → World → Prop, (∀ a3 w3, ((∀ K4 : Act → World → Prop, (∀ a4 w4, ((∀ K5 : Act → World → Prop, (∀ a5 w5, wpQuiet P [o0, o1, o2, o3, o4, o5, o6, o7, o8, o9, o10, o11, o12, o13, o14, o15, o16].toArray (fun _ => True) (fun a6 => ((∀ K7 : Act → World → Prop, (∀ a7 w7, Q .normal a7 w7 → K7 a7 w7) → wpList P [o0, o1, o2, o3, o4, o5, o6, o7, o8, o9, o10, o11, o12, o13, o14, o15, o16].toArray (fun e a7 w7 => e = .normal ∧ K7 a7 w7) [o16] a6 w5) ∧ True)) [o14, o15] a5 → K5 a5 w5) → wpList P [o0, o1, o2, o3, o4, o5, o6, o7, o8, o9, o10, o11, o12, o13, o14, o15, o16].toArray (fun e a5 w5 => e = .normal ∧ K5 a5 w5) [o13] a4 w4) ∧ True) → K4 a4 w4) → wpList P [o0, o1, o2, o3, o4, o5, o6, o7, o8, o9, o10, o11, o12, o13, o14, o15, o16].toArray (fun e a4 w4 => e = .normal ∧ (∃ s : KX B w0 n L E, w4 = s.val) ∧ K4 a4 w4) [o12] a3 w3) ∧ True) → K3 a3 w3) → wpList P [o0, o1, o2, o3, o4, o5, o6, o7, o8, o9, o10, o11, o12, o13, o14, o15, o16].toArray (fun e a3 w3 => e = .normal ∧ (∃ s : KX B w0 n L E, w3 = s.val) ∧ K3 a3 w3) [o5] a2 wk) ∧ (∀ K3 : Act → World → Prop, (∀ a3 w3, ((∀ K4 : Act → World → Prop, (∀ a4 w4, ((∀ K5 : Act → World → Prop, (∀ a5 w5, wpQuiet P [o0, o1, o2, o3, o4, o5, o6, o7, o8, o9, o10, o11, o12, o13, o14, o15, o16].toArray (fun _ => True) (fun a6 => ((∀ K7 : Act → World → Prop, (∀ a7 w7, Q .normal a7 w7 → K7 a7 w7) → wpList P [o0, o1, o2, o3, o4, o5, o6, o7, o8, o9, o10, o11, o12, o13, o14, o15, o16].toArray (fun e a7 w7 => e = .normal ∧ K7 a7 w7) [o16] a6 w5) ∧ True)) [o14, o15] a5 → K5 a5 w5) → wpList P [o0, o1, o2, o3, o4, o5, o6, o7, o8, o9, o10, o11, o12, o13, o14, o15, o16].toArray (fun e a5 w5 => e = .normal ∧ K5 a5 w5) [o13] a4 w4) ∧ True) → K4 a4 w4) → wpList P [o0, o1, o2, o3, o4, o5, o6, o7, o8, o9, o10, o11, o12, o13, o14, o15, o16].toArray (fun e a4 w4 => e = .normal ∧ (∃ s : KX B w0 n L E, w4 = s.val) ∧ K4 a4 w4) [o5] a3 w3) ∧ True) → K3 a3 w3) → wpList P [o0, o1, o2, o3, o4, o5, o6, o7, o8, o9, o10, o11, o12, o13, o14, o15, o16].toArray (fun e a3 w3 => e = .normal ∧ (∃ s : KX B w0 n L E, w3 = s.val) ∧ K3 a3 w3) [o12] a2 wk) ∧ True)) [o11] a1) [o4, o6, o10] a0) [o0, o1, o2, o3, o7, o8, o9] a) : (Code.region id [o0, o1, o2, o3, o4, o5, o6, o7, o8, o9, o10, o11, o12, o13, o14, o15, o16].toArray true).wp P Q a w := by
  have e1 : E w.drew := hE _ _ he ((Below.refl _ _).drew)
  have g := h _ k.drew e1 (hF _ _ hf ((Below.refl _ _).drew))
  exact wp_region_scr (U := (fun w' => ∃ s : KX B w0 n L E, w' = s.val)) (ops := [o0, o1, o2, o3, o4, o5, o6, o7, o8, o9, o10, o11, o12, o13, o14, o15, o16].toArray) (.free 0 (.free 1 (.free 2 (.free 3 (.free 7 (.free 8 (.free 9 (.read 4 (.read 6 (.read 10 (.free 11 (.alt 5 (.alt 12 (.altc 13 (.free 14 (.free 15 (.altc 16 .done .stop))) .stop) .stop) (.alt 12 (.alt 5 (.altc 13 (.free 14 (.free 15 (.altc 16 .done .stop))) .stop) .stop) .stop))))))))))))) [4, 6, 10] [0, 1, 2, 3, 7, 8, 9, 11, 14, 15] hm hB ⟨⟨_, k.drew, e1⟩, rfl⟩ (Scr.of_free rfl g (fun _ g0 => Scr.of_free rfl g0 (fun _ g1 => Scr.of_free rfl g1 (fun _ g2 => Scr.of_free rfl g2 (fun _ g3 => Scr.of_free rfl g3 (fun _ g4 => Scr.of_free rfl g4 (fun _ g5 => Scr.of_free rfl g5 (fun _ g6 => Scr.of_read rfl g6 (fun _ g7 => Scr.of_read rfl g7 (fun _ g8 => Scr.of_read rfl g8 (fun _ g9 => Scr.of_free rfl g9 (fun _ g10 => (Scr.of_alt rfl (g10.1 _ (fun _ _ g => g)) (fun _ _ g11 => (Scr.of_alt rfl (g11.1 _ (fun _ _ g => g)) (fun _ _ g12 => (Scr.of_altc rfl (g12.1 _ (fun _ _ g => g)) (fun _ _ g13 => Scr.of_free rfl g13 (fun _ g14 => Scr.of_free rfl g14 (fun _ g15 => (Scr.of_altc rfl (g15.1 _ (fun _ _ g => g)) (fun _ _ g16 => g16) trivial)))) trivial)) trivial)) (Scr.of_alt rfl (g10.2.1 _ (fun _ _ g => g)) (fun _ _ g11 => (Scr.of_alt rfl (g11.1 _ (fun _ _ g => g)) (fun _ _ g12 => (Scr.of_altc rfl (g12.1 _ (fun _ _ g => g)) (fun _ _ g13 => Scr.of_free rfl g13 (fun _ g14 => Scr.of_free rfl g14 (fun _ g15 => (Scr.of_altc rfl (g15.1 _ (fun _ _ g => g)) (fun _ _ g16 => g16) trivial)))) trivial)) trivial)) trivial))))))))))))))
theorem rg4_31 {P : Program} {B n : Nat} {w0 : World} {L : List (Nat × Nat × Value)} {E F : World → Prop} {id : Nat} {Q : Exit → Act → World → Prop} {a : Act} {w : World} {o0 o1 o2 o3 o4 o5 o6 o7 o8 o9 o10 : Oper} (hm : P.follows .mixedOrders = true)
    (hB : (Region.noSelect [o0, o1, o2, o3, o4, o5, o6, o7, o8, o9, o10].toArray && Scr.ok .any [o0, o1, o2, o3, o4, o5, o6, o7, o8, o9, o10].toArray [4, 6] [0, 1, 2, 3, 5, 7, 8, 9] (.free 0 (.free 1 (.free 2 (.free 3 (.free 5 (.read 4 (.read 6 (.free 7 (.free 8 (.free 9 (.altc 10 .done .stop))))))))))) true true [o0, o1, o2, o3, o4, o5, o6, o7, o8, o9, o10].toArray.size (Array.replicate [o0, o1, o2, o3, o4, o5, o6, o7, o8, o9, o10].toArray.size false)) = true)
    (k : Kept B w0 n L w) (he : E w) (hE : ∀ W W', E W → Below W.heap.size W W' → E W') (hf : F w) (hF : ∀ W W', F W → Below W.heap.size W W' → F W')
    (h : ∀ wk, Kept B w0 n L wk → E wk → F wk → wpQuiet P [o0, o1, o2, o3, o4, o5, o6, o7, o8, o9, o10].toArray (fun _ => True) (fun a0 => wpQuiet P [o0, o1, o2, o3, o4, o5, o6, o7, o8, o9, o10].toArray (fun w' => ∃ s : KX B w0 n L E, w' = s.val) (fun a1 => wpQuiet P [o0, o1, o2, o3, o4, o5, o6, o7, o8, o9, o10].toArray (fun _ => True) (fun a2 => ((∀ K3 : Act → World → Prop, (∀ a3 w3, Q .normal a3 w3 → K3 a3 w3) → wpList P [o0, o1, o2, o3, o4, o5, o6, o7, o8, o9, o10].toArray (fun e a3 w3 => e = .normal ∧ K3 a3 w3) [o10] a2 wk) ∧ True)) [o7, o8, o9] a1) [o4, o6] a0) [o0, o1, o2, o3, o5] a) : (Code.region id [o0, o1, o2, o3, o4, o5, o6, o7, o8, o9, o10].toArray true).wp P Q a w := by
  have e1 : E w.drew := hE _ _ he ((Below.refl _ _).drew)
  have g := h _ k.drew e1 (hF _ _ hf ((Below.refl _ _).drew))
  exact wp_region_scr (U := (fun w' => ∃ s : KX B w0 n L E, w' = s.val)) (ops := [o0, o1, o2, o3, o4, o5, o6, o7, o8, o9, o10].toArray) (.free 0 (.free 1 (.free 2 (.free 3 (.free 5 (.read 4 (.read 6 (.free 7 (.free 8 (.free 9 (.altc 10 .done .stop))))))))))) [4, 6] [0, 1, 2, 3, 5, 7, 8, 9] hm hB ⟨⟨_, k.drew, e1⟩, rfl⟩ (Scr.of_free rfl g (fun _ g0 => Scr.of_free rfl g0 (fun _ g1 => Scr.of_free rfl g1 (fun _ g2 => Scr.of_free rfl g2 (fun _ g3 => Scr.of_free rfl g3 (fun _ g4 => Scr.of_read rfl g4 (fun _ g5 => Scr.of_read rfl g5 (fun _ g6 => Scr.of_free rfl g6 (fun _ g7 => Scr.of_free rfl g7 (fun _ g8 => Scr.of_free rfl g8 (fun _ g9 => (Scr.of_altc rfl (g9.1 _ (fun _ _ g => g)) (fun _ _ g10 => g10) trivial))))))))))))
theorem rg4_36 {P : Program} {B n : Nat} {w0 : World} {L : List (Nat × Nat × Value)} {E F : World → Prop} {id : Nat} {Q : Exit → Act → World → Prop} {a : Act} {w : World} {o0 o1 o2 o3 o4 o5 o6 o7 o8 o9 o10 o11 o12 o13 o14 o15 o16 o17 o18 o19 o20 : Oper} (hm : P.follows .mixedOrders = true)
    (hB : (Region.noSelect [o0, o1, o2, o3, o4, o5, o6, o7, o8, o9, o10, o11, o12, o13, o14, o15, o16, o17, o18, o19, o20].toArray && Scr.ok .any [o0, o1, o2, o3, o4, o5, o6, o7, o8, o9, o10, o11, o12, o13, o14, o15, o16, o17, o18, o19, o20].toArray [2, 6, 10, 14, 18] [0, 1, 3, 4, 5, 7, 8, 9, 11, 12, 13, 15, 16, 17, 20] (.free 0 (.free 1 (.free 3 (.free 4 (.free 5 (.free 7 (.free 11 (.free 12 (.free 13 (.free 15 (.read 2 (.read 6 (.free 8 (.free 9 (.read 10 (.read 14 (.free 16 (.free 17 (.read 18 (.alt 19 (.free 20 .done) .stop)))))))))))))))))))) true true [o0, o1, o2, o3, o4, o5, o6, o7, o8, o9, o10, o11, o12, o13, o14, o15, o16, o17, o18, o19, o20].toArray.size (Array.replicate [o0, o1, o2, o3, o4, o5, o6, o7, o8, o9, o10, o11, o12, o13, o14, o15, o16, o17, o18, o19, o20].toArray.size false)) = true)
    (k : Kept B w0 n L w) (he : E w) (hE : ∀ W W', E W → Below W.heap.size W W' → E W') (hf : F w) (hF : ∀ W W', F W → Below W.heap.size W W' → F W')
    (h : ∀ wk, Kept B w0 n L wk → E wk → F wk → wpQuiet P [o0, o1, o2, o3, o4, o5, o6, o7, o8, o9, o10, o11, o12, o13, o14, o15, o16, o17, o18, o19, o20].toArray (fun _ => True) (fun a0 => wpQuiet P [o0, o1, o2, o3, o4, o5, o6, o7, o8, o9, o10, o11, o12, o13, o14, o15, o16, o17, o18, o19, o20].toArray (fun w' => ∃ s : KX B w0 n L E, w' = s.val) (fun a1 => wpQuiet P [o0, o1, o2, o3, o4, o5, o6, o7, o8, o9, o10, o11, o12, o13, o14, o15, o16, o17, o18, o19, o20].toArray (fun _ => True) (fun a2 => wpQuiet P [o0, o1, o2, o3, o4, o5, o6, o7, o8, o9, o10, o11, o12, o13, o14, o15, o16, o17, o18, o19, o20].toArray (fun w' => ∃ s : KX B w0 n L E, w' = s.val) (fun a3 => wpQuiet P [o0, o1, o2, o3, o4, o5, o6, o7, o8, o9, o10, o11, o12, o13, o14, o15, o16, o17, o18, o19, o20].toArray (fun _ => True) (fun a4 => wpQuiet P [o0, o1, o2, o3, o4, o5, o6, o7, o8, o9, o10, o11, o12, o13, o14, o15, o16, o17, o18, o19, o20].toArray (fun w' => ∃ s : KX B w0 n L E, w' = s.val) (fun a5 => ((∀ K6 : Act → World → Prop, (∀ a6 w6, wpQuiet P [o0, o1, o2, o3, o4, o5, o6, o7, o8, o9, o10, o11, o12, o13, o14, o15, o16, o17, o18, o19, o20].toArray (fun _ => True) (fun a7 => Q .normal a7 w6) [o20] a6 → K6 a6 w6) → wpList P [o0, o1, o2, o3, o4, o5, o6, o7, o8, o9, o10, o11, o12, o13, o14, o15, o16, o17, o18, o19, o20].toArray (fun e a6 w6 => e = .normal ∧ (∃ s : KX B w0 n L E, w6 = s.val) ∧ K6 a6 w6) [o19] a5 wk) ∧ True)) [o18] a4) [o16, o17] a3) [o10, o14] a2) [o8, o9] a1) [o2, o6] a0) [o0, o1, o3, o4, o5, o7, o11, o12, o13, o15] a) : (Code.region id [o0, o1, o2, o3, o4, o5, o6, o7, o8, o9, o10, o11, o12, o13, o14, o15, o16, o17, o18, o19, o20].toArray true).wp P Q a w := by
  have e1 : E w.drew := hE _ _ he ((Below.refl _ _).drew)
  have g := h _ k.drew e1 (hF _ _ hf ((Below.refl _ _).drew))
  exact wp_region_scr (U := (fun w' => ∃ s : KX B w0 n L E, w' = s.val)) (ops := [o0, o1, o2, o3, o4, o5, o6, o7, o8, o9, o10, o11, o12, o13, o14, o15, o16, o17, o18, o19, o20].toArray) (.free 0 (.free 1 (.free 3 (.free 4 (.free 5 (.free 7 (.free 11 (.free 12 (.free 13 (.free 15 (.read 2 (.read 6 (.free 8 (.free 9 (.read 10 (.read 14 (.free 16 (.free 17 (.read 18 (.alt 19 (.free 20 .done) .stop)))))))))))))))))))) [2, 6, 10, 14, 18] [0, 1, 3, 4, 5, 7, 8, 9, 11, 12, 13, 15, 16, 17, 20] hm hB ⟨⟨_, k.drew, e1⟩, rfl⟩ (Scr.of_free rfl g (fun _ g0 => Scr.of_free rfl g0 (fun _ g1 => Scr.of_free rfl g1 (fun _ g2 => Scr.of_free rfl g2 (fun _ g3 => Scr.of_free rfl g3 (fun _ g4 => Scr.of_free rfl g4 (fun _ g5 => Scr.of_free rfl g5 (fun _ g6 => Scr.of_free rfl g6 (fun _ g7 => Scr.of_free rfl g7 (fun _ g8 => Scr.of_free rfl g8 (fun _ g9 => Scr.of_read rfl g9 (fun _ g10 => Scr.of_read rfl g10 (fun _ g11 => Scr.of_free rfl g11 (fun _ g12 => Scr.of_free rfl g12 (fun _ g13 => Scr.of_read rfl g13 (fun _ g14 => Scr.of_read rfl g14 (fun _ g15 => Scr.of_free rfl g15 (fun _ g16 => Scr.of_free rfl g16 (fun _ g17 => Scr.of_read rfl g17 (fun _ g18 => (Scr.of_alt rfl (g18.1 _ (fun _ _ g => g)) (fun _ _ g19 => Scr.of_free rfl g19 (fun _ g20 => g20)) trivial)))))))))))))))))))))
theorem rg4_18 {P : Program} {B n : Nat} {w0 : World} {L : List (Nat × Nat × Value)} {E F : World → Prop} {id : Nat} {Q : Exit → Act → World → Prop} {a : Act} {w : World} {o0 o1 o2 o3 o4 o5 o6 : Oper} (hm : P.follows .mixedOrders = true)
    (hB : (Region.noSelect [o0, o1, o2, o3, o4, o5, o6].toArray && Scr.ok .any [o0, o1, o2, o3, o4, o5, o6].toArray [4, 5] [0, 1, 2, 3] (.free 0 (.free 1 (.free 2 (.free 3 (.read 4 (.read 5 (.altc 6 .done .stop))))))) true true [o0, o1, o2, o3, o4, o5, o6].toArray.size (Array.replicate [o0, o1, o2, o3, o4, o5, o6].toArray.size false)) = true)
    (k : Kept B w0 n L w) (he : E w) (hE : ∀ W W', E W → Below W.heap.size W W' → E W') (hf : F w) (hF : ∀ W W', F W → Below W.heap.size W W' → F W')
    (h : ∀ wk, Kept B w0 n L wk → E wk → F wk → wpQuiet P [o0, o1, o2, o3, o4, o5, o6].toArray (fun _ => True) (fun a0 => wpQuiet P [o0, o1, o2, o3, o4, o5, o6].toArray (fun w' => ∃ s : KX B w0 n L E, w' = s.val) (fun a1 => ((∀ K2 : Act → World → Prop, (∀ a2 w2, Q .normal a2 w2 → K2 a2 w2) → wpList P [o0, o1, o2, o3, o4, o5, o6].toArray (fun e a2 w2 => e = .normal ∧ K2 a2 w2) [o6] a1 wk) ∧ True)) [o4, o5] a0) [o0, o1, o2, o3] a) : (Code.region id [o0, o1, o2, o3, o4, o5, o6].toArray true).wp P Q a w := by
  have e1 : E w.drew := hE _ _ he ((Below.refl _ _).drew)
  have g := h _ k.drew e1 (hF _ _ hf ((Below.refl _ _).drew))
  exact wp_region_scr (U := (fun w' => ∃ s : KX B w0 n L E, w' = s.val)) (ops := [o0, o1, o2, o3, o4, o5, o6].toArray) (.free 0 (.free 1 (.free 2 (.free 3 (.read 4 (.read 5 (.altc 6 .done .stop))))))) [4, 5] [0, 1, 2, 3] hm hB ⟨⟨_, k.drew, e1⟩, rfl⟩ (Scr.of_free rfl g (fun _ g0 => Scr.of_free rfl g0 (fun _ g1 => Scr.of_free rfl g1 (fun _ g2 => Scr.of_free rfl g2 (fun _ g3 => Scr.of_read rfl g3 (fun _ g4 => Scr.of_read rfl g4 (fun _ g5 => (Scr.of_altc rfl (g5.1 _ (fun _ _ g => g)) (fun _ _ g6 => g6) trivial))))))))
theorem rg4_19 {P : Program} {B n : Nat} {w0 : World} {L : List (Nat × Nat × Value)} {E F : World → Prop} {id : Nat} {Q : Exit → Act → World → Prop} {a : Act} {w : World} {o0 o1 o2 o3 o4 o5 o6 o7 o8 o9 o10 o11 o12 : Oper} (hm : P.follows .mixedOrders = true)
    (hB : (Region.noSelect [o0, o1, o2, o3, o4, o5, o6, o7, o8, o9, o10, o11, o12].toArray && Scr.ok .any [o0, o1, o2, o3, o4, o5, o6, o7, o8, o9, o10, o11, o12].toArray [4, 8] [0, 1, 2, 3, 5, 6, 7, 9, 10, 11] (.free 0 (.free 1 (.free 2 (.free 3 (.free 5 (.free 6 (.free 7 (.read 4 (.read 8 (.free 9 (.free 10 (.free 11 (.altc 12 .done .stop))))))))))))) true true [o0, o1, o2, o3, o4, o5, o6, o7, o8, o9, o10, o11, o12].toArray.size (Array.replicate [o0, o1, o2, o3, o4, o5, o6, o7, o8, o9, o10, o11, o12].toArray.size false)) = true)
    (k : Kept B w0 n L w) (he : E w) (hE : ∀ W W', E W → Below W.heap.size W W' → E W') (hf : F w) (hF : ∀ W W', F W → Below W.heap.size W W' → F W')
    (h : ∀ wk, Kept B w0 n L wk → E wk → F wk → wpQuiet P [o0, o1, o2, o3, o4, o5, o6, o7, o8, o9, o10, o11, o12].toArray (fun _ => True) (fun a0 => wpQuiet P [o0, o1, o2, o3, o4, o5, o6, o7, o8, o9, o10, o11, o12].toArray (fun w' => ∃ s : KX B w0 n L E, w' = s.val) (fun a1 => wpQuiet P [o0, o1, o2, o3, o4, o5, o6, o7, o8, o9, o10, o11, o12].toArray (fun _ => True) (fun a2 => ((∀ K3 : Act → World → Prop, (∀ a3 w3, Q .normal a3 w3 → K3 a3 w3) → wpList P [o0, o1, o2, o3, o4, o5, o6, o7, o8, o9, o10, o11, o12].toArray (fun e a3 w3 => e = .normal ∧ K3 a3 w3) [o12] a2 wk) ∧ True)) [o9, o10, o11] a1) [o4, o8] a0) [o0, o1, o2, o3, o5, o6, o7] a) : (Code.region id [o0, o1, o2, o3, o4, o5, o6, o7, o8, o9, o10, o11, o12].toArray true).wp P Q a w := by
  have e1 : E w.drew := hE _ _ he ((Below.refl _ _).drew)
  have g := h _ k.drew e1 (hF _ _ hf ((Below.refl _ _).drew))
  exact wp_region_scr (U := (fun w' => ∃ s : KX B w0 n L E, w' = s.val)) (ops := [o0, o1, o2, o3, o4, o5, o6, o7, o8, o9, o10, o11, o12].toArray) (.free 0 (.free 1 (.free 2 (.free 3 (.free 5 (.free 6 (.free 7 (.read 4 (.read 8 (.free 9 (.free 10 (.free 11 (.altc 12 .done .stop))))))))))))) [4, 8] [0, 1, 2, 3, 5, 6, 7, 9, 10, 11] hm hB ⟨⟨_, k.drew, e1⟩, rfl⟩ (Scr.of_free rfl g (fun _ g0 => Scr.of_free rfl g0 (fun _ g1 => Scr.of_free rfl g1 (fun _ g2 => Scr.of_free rfl g2 (fun _ g3 => Scr.of_free rfl g3 (fun _ g4 => Scr.of_free rfl g4 (fun _ g5 => Scr.of_free rfl g5 (fun _ g6 => Scr.of_read rfl g6 (fun _ g7 => Scr.of_read rfl g7 (fun _ g8 => Scr.of_free rfl g8 (fun _ g9 => Scr.of_free rfl g9 (fun _ g10 => Scr.of_free rfl g10 (fun _ g11 => (Scr.of_altc rfl (g11.1 _ (fun _ _ g => g)) (fun _ _ g12 => g12) trivial))))))))))))))
theorem rg4_40 {P : Program} {B n : Nat} {w0 : World} {L : List (Nat × Nat × Value)} {E F : World → Prop} {id : Nat} {Q : Exit → Act → World → Prop} {a : Act} {w : World} {o0 o1 o2 o3 o4 o5 o6 o7 o8 o9 o10 o11 o12 o13 o14 o15 o16 o17 : Oper} (hm : P.follows .mixedOrders = true)
    (hB : (Region.noSelect [o0, o1, o2, o3, o4, o5, o6, o7, o8, o9, o10, o11, o12, o13, o14, o15, o16, o17].toArray && Scr.ok .any [o0, o1, o2, o3, o4, o5, o6, o7, o8, o9, o10, o11, o12, o13, o14, o15, o16, o17].toArray [8] [0, 1, 2, 3, 5, 6, 7, 9, 10, 11, 12, 14, 16, 17] (.free 0 (.free 1 (.free 2 (.free 3 (.free 5 (.free 6 (.free 7 (.read 8 (.alt 4 (.free 9 (.free 10 (.free 11 (.free 12 (.free 14 (.alt 13 (.alt 15 (.free 16 (.free 17 .done)) .stop) .stop)))))) .stop))))))))) true true [o0, o1, o2, o3, o4, o5, o6, o7, o8, o9, o10, o11, o12, o13, o14, o15, o16, o17].toArray.size (Array.replicate [o0, o1, o2, o3, o4, o5, o6, o7, o8, o9, o10, o11, o12, o13, o14, o15, o16, o17].toArray.size false)) = true)
    (k : Kept B w0 n L w) (he : E w) (hE : ∀ W W', E W → Below W.heap.size W W' → E W') (hf : F w) (hF : ∀ W W', F W → Below W.heap.size W W' → F W')
    (h : ∀ wk, Kept B w0 n L wk → E wk → F wk → wpQuiet P [o0, o1, o2, o3, o4, o5, o6, o7, o8, o9, o10, o11, o12, o13, o14, o15, o16, o17].toArray (fun _ => True) (fun a0 => wpQuiet P [o0, o1, o2, o3, o4, o5, o6, o7, o8, o9, o10, o11, o12, o13, o14, o15, o16, o17].toArray (fun w' => ∃ s : KX B w0 n L E, w' = s.val) (fun a1 => ((∀ K2 : Act → World → Prop, (∀ a2 w2, wpQuiet P [o0, o1, o2, o3, o4, o5, o6, o7, o8, o9, o10, o11, o12, o13, o14, o15, o16, o17].toArray (fun _ => True) (fun a3 => ((∀ K4 : Act → World → Prop, (∀ a4 w4, ((∀ K5 : Act → World → Prop, (∀ a5 w5, wpQuiet P [o0, o1, o2, o3, o4, o5, o6, o7, o8, o9, o10, o11, o12, o13, o14, o15, o16, o17].toArray (fun _ => True) (fun a6 => Q .normal a6 w5) [o16, o17] a5 → K5 a5 w5) → wpList P [o0, o1, o2, o3, o4, o5, o6, o7, o8, o9, o10, o11, o12, o13, o14, o15, o16, o17].toArray (fun e a5 w5 => e = .normal ∧ (∃ s : KX B w0 n L E, w5 = s.val) ∧ K5 a5 w5) [o15] a4 w4) ∧ True) → K4 a4 w4) → wpList P [o0, o1, o2, o3, o4, o5, o6, o7, o8, o9, o10, o11, o12, o13, o14, o15, o16, o17].toArray (fun e a4 w4 => e = .normal ∧ (∃ s : KX B w0 n L E, w4 = s.val) ∧ K4 a4 w4) [o13] a3 w2) ∧ True)) [o9, o10, o11, o12, o14] a2 → K2 a2 w2) → wpList P [o0, o1, o2, o3, o4, o5, o6, o7, o8, o9, o10, o11, o12, o13, o14, o15, o16, o17].toArray (fun e a2 w2 => e = .normal ∧ (∃ s : KX B w0 n L E, w2 = s.val) ∧ K2 a2 w2) [o4] a1 wk) ∧ True)) [o8] a0) [o0, o1, o2, o3, o5, o6, o7] a) : (Code.region id [o0, o1, o2, o3, o4, o5, o6, o7, o8, o9, o10, o11, o12, o13, o14, o15, o16, o17].toArray true).wp P Q a w := by
  have e1 : E w.drew := hE _ _ he ((Below.refl _ _).drew)
  have g := h _ k.drew e1 (hF _ _ hf ((Below.refl _ _).drew))
  exact wp_region_scr (U := (fun w' => ∃ s : KX B w0 n L E, w' = s.val)) (ops := [o0, o1, o2, o3, o4, o5, o6, o7, o8, o9, o10, o11, o12, o13, o14, o15, o16, o17].toArray) (.free 0 (.free 1 (.free 2 (.free 3 (.free 5 (.free 6 (.free 7 (.read 8 (.alt 4 (.free 9 (.free 10 (.free 11 (.free 12 (.free 14 (.alt 13 (.alt 15 (.free 16 (.free 17 .done)) .stop) .stop)))))) .stop))))))))) [8] [0, 1, 2, 3, 5, 6, 7, 9, 10, 11, 12, 14, 16, 17] hm hB ⟨⟨_, k.drew, e1⟩, rfl⟩ (Scr.of_free rfl g (fun _ g0 => Scr.of_free rfl g0 (fun _ g1 => Scr.of_free rfl g1 (fun _ g2 => Scr.of_free rfl g2 (fun _ g3 => Scr.of_free rfl g3 (fun _ g4 => Scr.of_free rfl g4 (fun _ g5 => Scr.of_free rfl g5 (fun _ g6 => Scr.of_read rfl g6 (fun _ g7 => (Scr.of_alt rfl (g7.1 _ (fun _ _ g => g)) (fun _ _ g8 => Scr.of_free rfl g8 (fun _ g9 => Scr.of_free rfl g9 (fun _ g10 => Scr.of_free rfl g10 (fun _ g11 => Scr.of_free rfl g11 (fun _ g12 => Scr.of_free rfl g12 (fun _ g13 => (Scr.of_alt rfl (g13.1 _ (fun _ _ g => g)) (fun _ _ g14 => (Scr.of_alt rfl (g14.1 _ (fun _ _ g => g)) (fun _ _ g15 => Scr.of_free rfl g15 (fun _ g16 => Scr.of_free rfl g16 (fun _ g17 => g17))) trivial)) trivial))))))) trivial))))))))))
structure Plain.Ac where
  wh : Int
  bd : Int
  t : Int
def acl (a : Ac) : List Value := [.int .i64 a.wh, .int .i64 a.bd, .int .u64 a.t]
def bdl (x : Bs × Bd) : List Value := (bcells x.1 x.2).toList
def pf (x : Bs × Bd) : Pu := puB x.2
structure PyI (w : World) (D : Int) (M P : Nat) (N : Int) (L : List ((Bs × Bd) × Int)) (wr : World) : Prop where
  below : Below w.heap.size w wr
  hM : w.heap.size ≤ M
  hP : w.heap.size ≤ P
  md : ∃ lv : Sl, lv.n = L.length ∧ Ro wr M (MdC D N lv.v) 59 ∧ Ox shb 39 65 w.heap.size wr.heap.size wr lv.v L
  sd : ∃ s v, SdAt wr P s v ∧ Mdl s pf D N L
  ok : ∀ x ∈ L, BdR w x.1.1 x.1.2 ∧ x.1.2.I ∧ x.1.2.S60 ∧ VB x.1.2
def PyL (w : World) (D : Int) (M n : Nat) (v7 v10 : Value) (wr : World) : Prop := ∃ i : Nat, i ≤ n ∧ v10 = .int .i64 i ∧ ∃ P N L, v7 = .pointer (some ⟨P, 0, none⟩) ∧ L.length ≤ i ∧ PyI w D M P N L wr
theorem idx_mod (z : Int) (n : Nat) (h1 : 1 ≤ n) (h2 : n ≤ 3) : ∃ k : Nat, k < n ∧ wrap64 ((IntKind.u64.wrap z).tmod (n : Int)) = (k : Int) := by
  have hz : 0 ≤ IntKind.u64.wrap z := by
    unfold IntKind.wrap
    simp only [IntKind.signed, IntKind.bits, Bool.false_and, Bool.false_eq_true, if_false]
    omega
  generalize IntKind.u64.wrap z = u at hz
  rw [Int.tmod_eq_emod_of_nonneg hz]
  have h3 := Int.emod_lt_of_pos u (show (0 : Int) < n by omega)
  have h4 := Int.emod_nonneg u (show (n : Int) ≠ 0 by omega)
  refine ⟨(u % n).toNat, by omega, ?_⟩
  unfold wrap64
  omega
theorem wpList_load_bd {ops : Array Oper} {rest : List Oper} {op : Oper} {a : Act} {w : World} {Q : Exit → Act → World → Prop} {b o : Nat} {s : Bs} {B : Bd} (x : Operand) (ho : op.op = .load 34 x) (hx : a.eval x = .pointer (some ⟨b, o, none⟩)) (h : w.rangeAt b o (bcells s B).toList) (hw : Region.wanted op (yielded ops a.tmps) = true)
    (hK : wpList Try.prog ops Q rest (a.put op.dst (bv s B)) w) : wpList Try.prog ops Q (op :: rest) a w := by
  unfold wpList
  rw [if_pos hw]
  exact .inl (wp_load_mid 34 x ho b o hx (bcells s B).toList _ h Try.underlying34 rfl (by kernel_rfl) (by rw [Array.toArray_toList]; exact hK))
theorem PyI.step {w : World} {D : Int} {M P : Nat} {N : Int} {L : List ((Bs × Bd) × Int)} {wr W : World} (h : PyI w D M P N L wr) (hb : Below wr.heap.size wr W) : PyI w D M P N L W := by
  obtain ⟨lv, h1, h2, h3⟩ := h.md
  obtain ⟨s, v, h4, h5⟩ := h.sd
  exact ⟨below_via h.below hb, h.hM, h.hP, ⟨lv, h1, h2.below hb, (h3.below hb).mono (Nat.le_refl _) hb.size⟩, ⟨s, v, h4.below hb, h5⟩, h.ok⟩
theorem infoW : (Try.prog.info? 65).map (fun i => (i.zero, i.size, i.bytes)) = some (some (.agg #[.slice none 0 0, .int .i64 0, .int .i64 0, .int .i64 0, .int .i64 0, .int .i64 0, .slice none 0 0, .slice none 0 0, .slice none 0 0, .slice none 0 0, .bool false, .bool false, .bool false, .int .i64 0, .int .i64 0, .int .i64 0, .int .i64 0, .int .i64 0, .int .i64 0, .int .i64 0, .slice none 0 0, .slice none 0 0, .slice none 0 0, .slice none 0 0, .bool false, .bool false, .bool false, .int .i64 0, .int .i64 0, .slice none 0 0, .slice none 0 0, .slice none 0 0, .slice none 0 0, .int .i64 0, .int .i64 0, .int .i64 0, .int .i64 0, .int .i64 0, .int .u64 0]), 39, 488) := by kernel_rfl
theorem grownB {w W W' : World} {v : Value} (hb : Below w.heap.size w W) (hg : W.grownBy W' v.ownBlock) (hl : ∀ b, v.ownBlock = some b → w.heap.size ≤ b) : Below w.heap.size w W' :=
  ⟨hg.os.trans hb.os, hg.tape.trans hb.tape, hg.output.trans hb.output, Nat.le_trans hb.size hg.size, fun k hk => (hg.block k (Nat.lt_of_lt_of_le hk hb.size) (fun e => by
    have := hl k e.symm
    omega)).trans (hb.block k hk)⟩
set_option maxRecDepth 100000 in
set_option maxHeartbeats 4000000 in
theorem wpList_bs_bd {ops : Array Oper} {rest : List Oper} {op : Oper} {a : Act} {w : World} {Q : Exit → Act → World → Prop} (hgd : op.guard = none) (s : Bs) (B : Bd) (n : Int) (y : Operand) (ho : op.op = .buildSlice 57 1 #[(0, y)]) (hy : a.eval y = .agg (shb ((s, B), n)).toArray)
    (hK : ∀ w', Hid (w' = w.alloc (.cells (shb ((s, B), n)).toArray 65)) → wpList Try.prog ops Q rest (a.put op.dst (.slice (some ⟨w.heap.size, 0, none⟩) 1 1)) w') : wpList Try.prog ops Q (op :: rest) a w := by
  obtain ⟨i, hi2, hz, hsize, hby⟩ : ∃ i, Try.prog.info? 65 = some i ∧ i.zero = some (.agg #[.slice none 0 0, .int .i64 0, .int .i64 0, .int .i64 0, .int .i64 0, .int .i64 0, .slice none 0 0, .slice none 0 0, .slice none 0 0, .slice none 0 0, .bool false, .bool false, .bool false, .int .i64 0, .int .i64 0, .int .i64 0, .int .i64 0, .int .i64 0, .int .i64 0, .int .i64 0, .slice none 0 0, .slice none 0 0, .slice none 0 0, .slice none 0 0, .bool false, .bool false, .bool false, .int .i64 0, .int .i64 0, .slice none 0 0, .slice none 0 0, .slice none 0 0, .slice none 0 0, .int .i64 0, .int .i64 0, .int .i64 0, .int .i64 0, .int .i64 0, .int .u64 0]) ∧ i.size = 39 ∧ i.bytes = 488 := by
    have hi := infoW
    cases hi0 : Try.prog.info? 65 with
    | none => rw [hi0] at hi; simp at hi
    | some i =>
      rw [hi0] at hi
      simp at hi
      exact ⟨i, rfl, hi.1, hi.2.1, hi.2.2⟩
  refine wpList_buildSlice hgd 57 65 1 #[(0, y)] ho (shb ((s, B), n)).toArray i _ Try.underlying57 hi2 hz (by rw [hsize]; decide) (by rw [hsize]; decide) ?_ (hK _ (Lib.hid rfl))
  rw [hsize]
  have e : (#[(0, y)].map fun (i, x) => (i, a.eval x)).toList = [(0, .agg (shb ((s, B), n)).toArray)] := by simp [hy]
  rw [e]
  have hl : (shb ((s, B), n)).length = 39 := (shb_ok _).1
  have := Great.fill_whole (s := 39) (by omega) [.agg (shb ((s, B), n)).toArray] ((Array.range (1 * 39)).map fun k => ((.agg #[.slice none 0 0, .int .i64 0, .int .i64 0, .int .i64 0, .int .i64 0, .int .i64 0, .slice none 0 0, .slice none 0 0, .slice none 0 0, .slice none 0 0, .bool false, .bool false, .bool false, .int .i64 0, .int .i64 0, .int .i64 0, .int .i64 0, .int .i64 0, .int .i64 0, .int .i64 0, .slice none 0 0, .slice none 0 0, .slice none 0 0, .slice none 0 0, .bool false, .bool false, .bool false, .int .i64 0, .int .i64 0, .slice none 0 0, .slice none 0 0, .slice none 0 0, .slice none 0 0, .int .i64 0, .int .i64 0, .int .i64 0, .int .i64 0, .int .i64 0, .int .u64 0] : Value).cells[k % (.agg #[.slice none 0 0, .int .i64 0, .int .i64 0, .int .i64 0, .int .i64 0, .int .i64 0, .slice none 0 0, .slice none 0 0, .slice none 0 0, .slice none 0 0, .bool false, .bool false, .bool false, .int .i64 0, .int .i64 0, .int .i64 0, .int .i64 0, .int .i64 0, .int .i64 0, .int .i64 0, .slice none 0 0, .slice none 0 0, .slice none 0 0, .slice none 0 0, .bool false, .bool false, .bool false, .int .i64 0, .int .i64 0, .slice none 0 0, .slice none 0 0, .slice none 0 0, .slice none 0 0, .int .i64 0, .int .i64 0, .int .i64 0, .int .i64 0, .int .i64 0, .int .u64 0] : Value).cells.size]!)) (fun v hv => by simp at hv; subst hv; simpa [Value.cells] using hl) (by simp)
  have e2 : (([.agg (shb ((s, B), n)).toArray] : List Value).flatMap fun v => v.cells.toList).toArray = (shb ((s, B), n)).toArray := by simp [Value.cells]
  rw [e2] at this
  exact this
set_option maxRecDepth 100000 in
theorem build_bd (s : Bs) (B : Bd) (n : Int) (w : World) : (Instr.build 65 #[(0, bv s B), (1, .int .u64 n)]).run Try.prog w = .ok (.agg (shb ((s, B), n)).toArray) w := run_build w 65 _ _ (by kernel_rfl)
theorem quiet_build_bd {C : World → Prop} {K : Act → Prop} {a a' : Act} {op : Oper} {s : Bs} {B : Bd} {n : Int} (x y : Operand) (ho : op.op = .build 65 #[(0, x), (1, y)]) (hx : a.eval x = bv s B) (hy : a.eval y = .int .u64 n) (ha : a.put op.dst (.agg (shb ((s, B), n)).toArray) = a') (hk : K a') : op.quiet Try.prog a C K := by
  subst ha
  refine ⟨.agg (shb ((s, B), n)).toArray, fun w hw => ?_, hk⟩
  have r : (execOp a.eval op).run Try.prog w = .ok (.value (.agg (shb ((s, B), n)).toArray)) w := by
    unfold execOp
    rw [ho]
    have e : (#[(0, x), (1, y)].map fun (i, x) => (i, a.eval x)) = #[(0, bv s B), (1, .int .u64 n)] := by simp [hx, hy]
    show (Bind.bind (Instr.build 65 (#[(0, x), (1, y)].map fun (i, x) => (i, a.eval x))) (fun v => pure (Next.value v)) : Sem Next).run Try.prog w = _
    rw [e, Sem.run_bind, build_bd]
    rfl
  unfold Oper.quietAt
  rw [r]
  exact ⟨rfl, rfl⟩
theorem quiet_load_bd {C : World → Prop} {K : Act → Prop} {a a' : Act} {op : Oper} {b o : Nat} {s : Bs} {B : Bd} (p : Operand) (ho : op.op = .load 34 p) (hx : a.eval p = .pointer (some ⟨b, o, none⟩)) (h : ∀ w, C w → w.rangeAt b o (bcells s B).toList) (ha : a.put op.dst (bv s B) = a') (hk : K a') : op.quiet Try.prog a C K :=
  quiet_load_g (cs := (bcells s B).toList) p ho hx h Try.underlying34 rfl (by kernel_rfl) (by rw [Array.toArray_toList]; exact ha) hk
theorem see_of_no {s : Sd} {D N : Int} (h : s.l = [] ∨ ∃ x xs, s.l = x :: xs ∧ dueT D N x.2 = false) (hd : s.dl = D) (hn : s.nw = N) : s.see = none := by
  unfold Plain.Sd.see
  rcases h with h | ⟨x, xs, h, h2⟩
  · rw [h]
  · rw [h, hd, hn]
    simp [h2]
theorem see_of_yes {s : Sd} {D N : Int} {x : Pu × Int} {xs : List (Pu × Int)} (h : s.l = x :: xs) (hd : s.dl = D) (hn : s.nw = N) (h2 : dueT D N x.2 = true) : s.see = some x := by
  unfold Plain.Sd.see
  rw [h, hd, hn]
  simp [h2]
theorem pf_sm {x : Bs × Bd} (hv : VB x.2) (h : x.2.S60) : (pf x).Sm := pub_sm hv h
theorem ne_blk {w : World} {a b : Nat} {c c' : Array Value} {t t' : TypeId} {f f' : Nat × Nat} (h : w.heap[a]? = some (.cells c t f)) (h' : w.heap[b]? = some (.cells c' t' f')) (ht : t ≠ t') : a ≠ b := by
  rintro rfl
  rw [h] at h'
  simp at h'
  exact ht h'.2.1
theorem drp_mem {α : Type} {D N : Int} {x : α × Int} : ∀ {l : List (α × Int)}, x ∈ drp D N l → x ∈ l
  | [], h => h
  | [a], h => h
  | a :: b :: l, h => by
    rw [drp] at h
    split at h
    · exact List.mem_cons_of_mem _ (drp_mem h)
    · exact h
theorem mdl_sm {s : Sd} {D N : Int} {L : List ((Bs × Bd) × Int)} {w : World} (h : Mdl s pf D N L) (ok : ∀ x ∈ L, BdR w x.1.1 x.1.2 ∧ x.1.2.I ∧ x.1.2.S60 ∧ VB x.1.2) : ∀ x ∈ s.l, x.1.Sm := fun x hx => by
  obtain ⟨b, _, hl⟩ := h.l
  rw [hl] at hx
  obtain ⟨y, hy, rfl⟩ := List.mem_map.1 hx
  have h1 := ok y (List.mem_of_mem_drop hy)
  exact pub_sm h1.2.2.2 h1.2.2.1
/-- whatever the board -/
theorem show_any (P : Nat) (s : Sd) (v : Sl) (s' : Bs) (B : Bd) (t : Int) (w : World) (h : SdAt w P s v) (hr : BdR w s' B) (hi : B.I) (hsm : B.S60) (hu : U t) (hln : (s.go t).l.length < 100) (hss : ∀ x ∈ s.l, x.1.Sm) : Calls Try.prog 11 #[.pointer (some ⟨P, 0, none⟩), .int .u64 t, bv s' B] w fun e w' => ∃ no s2, e = .returned (.int .i64 no) ∧ (∃ v', SdAt w' P s2 v') ∧ (∀ x ∈ s2.l, x.1.Sm) ∧ Onl [P] w w' := by
  by_cases hv : VB B
  · refine (show_ok P s v s' B t w h hr hi hsm.sm hv hu hln).mono ?_
    rintro e w' ⟨rfl, hs, ho⟩
    refine ⟨0, _, rfl, hs, fun x hx => ?_, ho⟩
    have h1 := drp_mem (show x ∈ drp _ _ ((s.go t).l ++ [(puB B, (s.go t).nw)]) from hx)
    rcases List.mem_append.1 h1 with h2 | h2
    · exact hss x (drp_mem (show x ∈ drp _ _ s.l from h2))
    · simp at h2; subst h2; exact pub_sm hv hsm
  · refine (show_bad P s v s' B t w h hr hi hsm.sm hv).mono ?_
    rintro e w' ⟨rfl, hb⟩
    exact ⟨2, s, rfl, ⟨v, h.below hb⟩, hss, Onl.of hb⟩
theorem see_any (P : Nat) (s : Sd) (v : Sl) (t : Int) (w : World) (h : SdAt w P s v) (hu : U t) (hss : ∀ x ∈ s.l, x.1.Sm) : Calls Try.prog 12 #[.pointer (some ⟨P, 0, none⟩), .int .u64 t] w fun e w' => ∃ X at' no sp, e = .returned (.tuple #[pv sp X, .int .u64 at', .int .i64 no]) ∧ Onl [P] w w' := by
  cases hse : (s.go t).see with
  | none =>
    refine (see_none P s v t w h hu hse).mono ?_
    rintro e w' ⟨⟨sp, rfl, _, ho⟩, _⟩
    exact ⟨_, _, _, sp, rfl, ho⟩
  | some x =>
    refine (see_ok P s v t w h hu x hse ?_).mono ?_
    · obtain ⟨xs, hl, _⟩ := see_some hse
      exact hss x (drp_mem (show x ∈ drp _ _ s.l by rw [show drp _ _ s.l = (s.go t).l from rfl, hl]; simp))
    · rintro e w' ⟨⟨sp, rfl, _, ho⟩, _⟩
      exact ⟨_, _, _, sp, rfl, ho⟩
theorem lkeptc (M : Nat) (D N b K : Int) (a : Option Addr) (c : Nat) (L : List ((Bs × Bd) × Int)) (w : World) (hm : Ro w M (MdC D N (.slice a L.length c)) 59) (hr : Rw shb 39 w (.slice a L.length c) L) (hd : 0 ≤ D ∧ D ≤ 100000) (hn : U N) (hus : ∀ x ∈ L, U x.2 ∧ x.2 ≤ N) (hl : L.length ≤ 1000) (hb : Bst D N L b) (hK : (L.length : Int) - max 0 b = K) : Calls Try.prog 21 #[.pointer (some ⟨M, 0, none⟩)] w fun e w' => e = .returned (.int .i64 K) ∧ Below w.heap.size w w' := by
  subst hK
  exact lkept M D N b a c L w hm hr hd hn hus hl hb
set_option maxRecDepth 100000 in
set_option maxHeartbeats 4000000 in
theorem splays (D : Int) (ba : Option Addr) (bc : Nat) (bs : List (Bs × Bd)) (aa : Option Addr) (ac : Nat) (ls : List Ac) (w : World) (h1 : Rw bdl 38 w (.slice ba bs.length bc) bs) (h2 : ∀ x ∈ bs, BdR w x.1 x.2 ∧ x.2.I) (h3 : Rw acl 3 w (.slice aa ls.length ac) ls) (h4 : ∀ a ∈ ls, Plain.I a.wh ∧ Plain.I a.bd ∧ U a.t) (hD : U D) : Calls Try.prog 4 #[.int .u64 D, .slice ba bs.length bc, .slice aa ls.length ac] w fun e w' => e = .returned (.bool true) ∧ Below w.heap.size w w' := by
  have HBS := Lib.hid h1.form.2
  have HBK := Lib.hid h2
  have HAS := Lib.hid h3.form.2
  have HAK := Lib.hid h4
  clear h1 h2 h3 h4
  by_cases n1 : bs.length < 1
  · have t1 : decide ((bs.length : Int) < 1) = true := decide_eq_true (by omega)
    clear n1
    have HB : Hid (Below w.heap.size w w) := Lib.hid (Below.refl _ _)
    go_enter Try.func4, Try.ntmps4
    go_wp2_with fail
    with_reducible refine (known _).mono ?_
    rintro e w99 ⟨rfl, hb⟩
    replace HB := Lib.hid (below_via HB.out hb)
    clear hb
    go_wp2_with fail
    go_returns
    exact ⟨rfl, HB.out⟩
  have t1 : decide ((bs.length : Int) < 1) = false := decide_eq_false (by omega)
  by_cases n2 : bs.length > 3
  · have t2 : decide ((bs.length : Int) > 3) = true := decide_eq_true (by omega)
    clear n1 n2
    have HB : Hid (Below w.heap.size w w) := Lib.hid (Below.refl _ _)
    go_enter Try.func4, Try.ntmps4
    go_wp2_with fail
    with_reducible refine (known _).mono ?_
    rintro e w99 ⟨rfl, hb⟩
    replace HB := Lib.hid (below_via HB.out hb)
    clear hb
    go_wp2_with fail
    go_returns
    exact ⟨rfl, HB.out⟩
  have t2 : decide ((bs.length : Int) > 3) = false := decide_eq_false (by omega)
  by_cases n3 : ls.length > 60
  · have t3 : decide ((ls.length : Int) > 60) = true := decide_eq_true (by omega)
    clear n1 n2 n3
    have HB : Hid (Below w.heap.size w w) := Lib.hid (Below.refl _ _)
    go_enter Try.func4, Try.ntmps4
    go_wp2_with fail
    with_reducible refine (known _).mono ?_
    rintro e w99 ⟨rfl, hb⟩
    replace HB := Lib.hid (below_via HB.out hb)
    clear hb
    go_wp2_with fail
    go_returns
    exact ⟨rfl, HB.out⟩
  have t3 : decide ((ls.length : Int) > 60) = false := decide_eq_false (by omega)
  have HNN : Hid (1 ≤ bs.length ∧ bs.length ≤ 3 ∧ ls.length ≤ 60) := Lib.hid ⟨by omega, by omega, by omega⟩
  by_cases hd : D > 100000
  · have td : decide (D > 100000) = true := decide_eq_true hd
    have HDB := Lib.hid hd
    clear n1 n2 n3 hd
    have HB : Hid (Below w.heap.size w w) := Lib.hid (Below.refl _ _)
    go_enter Try.func4, Try.ntmps4
    go_wp2_with fail
    with_reducible refine (snew_bad D _ HDB.out).mono ?_
    rintro e w1 ⟨rfl, rfl⟩
    go_wp2_with fail
    with_reducible refine (known _).mono ?_
    rintro e w99 ⟨rfl, hb⟩
    replace HB := Lib.hid (below_via HB.out hb)
    clear hb
    go_wp2_with fail
    go_returns
    exact ⟨rfl, HB.out⟩
  have td : decide (D > 100000) = false := decide_eq_false hd
  have HDB : Hid (0 ≤ D ∧ D ≤ 100000) := Lib.hid ⟨hD.1, by omega⟩
  clear n1 n2 n3 hd hD
  go_enter Try.func4, Try.ntmps4
  go_wp2_with fail
  with_reducible refine (snew_ok D _ HDB.out.1 HDB.out.2).mono ?_
  rintro e w1 ⟨P, rfl, hP, hS, hb⟩
  have HB := Lib.hid hb
  have HS := Lib.hid hS
  have HPP := Lib.hid hP
  clear hb hS hP
  go_upto_region 9 with fail
  clear t1 t2 t3 td
  obtain ⟨w2, hw2⟩ : ∃ W, W = w1.alloc (.cells #[.int .u64 D, .int .u64 0, .slice none 0 0] 59) := ⟨_, rfl⟩
  have hb : Below w1.heap.size w1 w2 := by rw [hw2]; exact (Below.refl _ _).alloc (Nat.le_refl _) _
  have hm : Ro w2 w1.heap.size (MdC D 0 (.slice none 0 0)) 59 := by rw [hw2]; exact Ro.new _ _ _
  have hmw := HB.out.size
  obtain ⟨M, hM⟩ : ∃ n, n = w1.heap.size := ⟨_, rfl⟩
  rw [← hw2]
  rw [← hM] at hm hmw ⊢
  have HPY : Hid (PyI w D M P 0 [] w2) := Lib.hid ⟨below_via HB.out hb, hmw, HPP.out, ⟨nilSl, rfl, hm, Ox.nil _ _ _ _⟩, ⟨_, _, HS.out.below hb, Mdl.new pf (show U D by have := HDB.out; unfold U; omega)⟩, by simp⟩
  clear hw2 hb hm hmw hM HB HS HPP
  go_wp2_with fail
  go_loopw [7, 10] (fun v7 v10 wr => PyL w D M ls.length v7 v10 wr) (fun _ v _ => ls.length - (intOf v).toNat)
  case atStart => exact ⟨0, by omega, rfl, P, 0, [], rfl, by simp, HPY.out⟩
  case round =>
    clear HPY
    obtain ⟨i, hi, rfl, P, N, L, rfl, hLi, hpy⟩ := hrel
    have HP := Lib.hid hpy
    clear hpy
    by_cases hil : i < ls.length
    · obtain ⟨a2, c2, he, hc⟩ := HAS.out
      simp only [Value.slice.injEq] at he
      obtain ⟨rfl, _, rfl⟩ := he
      obtain ⟨ab, ao, rfl, hlt, hc⟩ := hc (by omega)
      obtain ⟨x, hx⟩ : ∃ x, ls[i]? = some x := ⟨_, List.getElem?_eq_getElem hil⟩
      obtain ⟨hI1, hI2, hUt⟩ := HAK.out x (List.mem_of_getElem? hx)
      have hbw := HP.out.below
      have da : ∀ (j : Nat) (u : Value), (acl x)[j]? = some u → wr.cell? ⟨ab, ao + (i * 3 + j), none⟩ = some u := fun j u hu => (hbw.cell (p := ⟨ab, ao + (i * 3 + j), none⟩) hlt).trans (hc i x hx j u hu)
      obtain ⟨wh, bd, t⟩ := x
      replace hI1 : Plain.I wh := hI1
      replace hI2 : Plain.I bd := hI2
      replace hUt : U t := hUt
      have d0 : wr.cell? ⟨ab, ao + i * 3, none⟩ = some (.int .i64 wh) := da 0 _ rfl
      have d1 : wr.cell? ⟨ab, ao + i * 3 + 1, none⟩ = some (.int .i64 bd) := by rw [Nat.add_assoc]; exact da 1 _ rfl
      have d2 : wr.cell? ⟨ab, ao + i * 3 + 2, none⟩ = some (.int .u64 t) := by rw [Nat.add_assoc]; exact da 2 _ rfl
      have HUT := Lib.hid hUt
      have i1 : (0 : Int) ≤ (i : Int) := by omega
      have i2 : (i : Int) < (ls.length : Int) := by omega
      clear da hc hx hbw hI1 hUt
      go_upto_region 13 with fail
      obtain ⟨wq, hwq⟩ : ∃ W, W = wr.alloc (.cells #[.int .i64 wh, .int .i64 bd, .int .u64 t] 61) := ⟨_, rfl⟩
      rw [← hwq]
      have hb : Below wr.heap.size wr wq := by rw [hwq]; exact (Below.refl _ _).alloc (Nat.le_refl _) _
      have hra : Ro wq wr.heap.size #[.int .i64 wh, .int .i64 bd, .int .u64 t] 61 := by rw [hwq]; exact Ro.new _ _ _
      obtain ⟨A, hA⟩ : ∃ n, n = wr.heap.size := ⟨_, rfl⟩
      have hAw := HP.out.below.size
      rw [← hA] at hra hAw ⊢
      have HA := Lib.hid hra
      have HAW : Hid (w.heap.size ≤ A) := Lib.hid hAw
      replace HP := Lib.hid (HP.out.step hb)
      have c1 : wq.cell? ⟨A, 1, none⟩ = some (.int .i64 bd) := hra.cell 1
      have gA := hra.lt
      clear hwq hb hra hA hAw d0 d1 d2
      have hnn := HNN.out
      unfold Plain.I at hI2
      obtain ⟨k, hk, ek⟩ := idx_mod bd bs.length (by omega) (by omega)
      obtain ⟨a3, c3, he, hcb⟩ := HBS.out
      simp only [Value.slice.injEq] at he
      obtain ⟨rfl, _, rfl⟩ := he
      obtain ⟨bb, bo, rfl, hlb, hcb⟩ := hcb (by omega)
      obtain ⟨⟨sb, B⟩, hy⟩ : ∃ x, bs[k]? = some x := ⟨_, List.getElem?_eq_getElem hk⟩
      have HRB : Hid (wq.rangeAt bb (bo + k * 38) (bcells sb B).toList) := Lib.hid (fun j u hu => by
        rw [Nat.add_assoc]
        exact (HP.out.below.cell (p := ⟨bb, bo + (k * 38 + j), none⟩) hlb).trans (hcb k (sb, B) hy j u hu))
      have HRD : Hid (BdR w sb B) := Lib.hid (HBK.out (sb, B) (List.mem_of_getElem? hy)).1
      have HIB : Hid (B.I) := Lib.hid (HBK.out (sb, B) (List.mem_of_getElem? hy)).2
      have k1 : (0 : Int) ≤ (k : Int) := by omega
      have k2 : (k : Int) < (bs.length : Int) := by omega
      obtain ⟨hn1, hn2, _⟩ := hnn
      clear hcb hy hk hlb hI2
      go_wp2_with (first | (refine wpList_load_bd _ rfl rfl HRB.out (by kernel_rfl) ?_) | (refine wpList_store_bh (s := sb) (B := B) rfl _ _ rfl rfl rfl (heap_alloc_new _ _) rfl ?_))
      intro w3 hw0
      have hbx := boxed hw0.out
      have hb := hbx.1
      replace HP := Lib.hid (HP.out.step hb)
      replace HA := Lib.hid (HA.out.below hb)
      obtain ⟨E, hE⟩ : ∃ n, n = wq.heap.size := ⟨_, rfl⟩
      rw [← hE] at hbx ⊢
      have HE := Lib.hid hbx.2
      have HAE : Hid (A < E) := Lib.hid (by rw [hE]; exact gA)
      clear hw0 hbx hb hE HRB k1 k2 ek hn1 hn2 c1 gA
      go_wp2_with (refine wpList_load_bx _ rfl rfl HE.out (by kernel_rfl) ?_)
      with_reducible refine (lsmall sb B _ (HRD.out.below HP.out.below)).mono ?_
      rintro e w4 ⟨r, rfl, hr, hb⟩
      replace HP := Lib.hid (HP.out.step hb)
      replace HA := Lib.hid (HA.out.below hb)
      replace HE := Lib.hid (HE.out.below hb)
      clear hb
      cases r
      · have HB := Lib.hid HP.out.below
        go_wp2_with fail
        with_reducible refine (known _).mono ?_
        rintro e w99 ⟨rfl, hb⟩
        replace HB := Lib.hid (below_via HB.out hb)
        clear hb
        go_wp2_with fail
        go_returns
        exact ⟨rfl, HB.out⟩
      have HSM := Lib.hid (hr rfl)
      clear hr
      have a0 : w4.cell? ⟨A, 0, none⟩ = some (.int .i64 wh) := HA.out.cell 0
      go_upto_block 2 with fail
      clear a0
      go_cut [7] (fun s7 wx => ∃ P N L, s7 = .pointer (some ⟨P, 0, none⟩) ∧ L.length ≤ i + 1 ∧ PyI w D M P N L wx)
      case first =>
        obtain ⟨⟨la, ln, lc⟩, hlv, hm, hlx⟩ := HP.out.md
        replace hlv : ln = L.length := hlv
        subst hlv
        obtain ⟨s, v, hsd, hmd⟩ := HP.out.sd
        have HB := Lib.hid HP.out.below
        have HW : Hid (w.heap.size ≤ M ∧ w.heap.size ≤ P) := Lib.hid ⟨HP.out.hM, HP.out.hP⟩
        have HM : Hid (Ro w4 M (MdC D N (.slice la L.length lc)) 59) := Lib.hid hm
        have HL : Hid (Ox shb 39 65 w.heap.size w4.heap.size w4 (.slice la L.length lc) L) := Lib.hid hlx
        have HS := Lib.hid hsd
        have HD := Lib.hid hmd
        have HOK := Lib.hid HP.out.ok
        have HNE : Hid (P ≠ M ∧ P ≠ A ∧ P ≠ E ∧ M ≠ A ∧ M ≠ E) := Lib.hid ⟨ne_blk hsd.blk hm (by decide), ne_blk hsd.blk HA.out (by decide), ne_blk hsd.blk HE.out (by decide), ne_blk hm HA.out (by decide), ne_blk hm HE.out (by decide)⟩
        have HLI : Hid (L.length ≤ i ∧ i < 60) := Lib.hid ⟨hLi, by have := HNN.out; omega⟩
        clear hm hlx hsd hmd HP hLi
        by_cases hw0 : wh = 0
        case pos =>
          subst hw0
          as_aux_lemma =>
            have tw0 : ((0 : Int) == 0) = true := rfl
            have a2 : w4.cell? ⟨A, 2, none⟩ = some (.int .u64 t) := HA.out.cell 2
            by_cases hv : VB B
            case neg =>
              have HV := Lib.hid hv
              clear hv
              go_wp2_with (refine wpList_load_bx _ rfl rfl HE.out (by kernel_rfl) ?_)
              clear a2 tw0
              with_reducible refine (show_bad P s v sb B t _ HS.out (HRD.out.below HB.out) HIB.out HSM.out.sm HV.out).mono ?_
              rintro e w5 ⟨rfl, hb⟩
              replace HB := Lib.hid (below_via HB.out hb)
              replace HM := Lib.hid (HM.out.below hb)
              replace HL := Lib.hid ((HL.out.below hb).mono (Nat.le_refl _) hb.size)
              replace HS := Lib.hid (HS.out.below hb)
              replace HA := Lib.hid (HA.out.below hb)
              replace HE := Lib.hid (HE.out.below hb)
              clear hb
              go_wp2_with (refine wpList_load_bx _ rfl rfl HE.out (by kernel_rfl) ?_)
              with_reducible refine (bvalid sb B _ (HRD.out.below HB.out) HIB.out HSM.out.sm).mono ?_
              rintro e w6 ⟨⟨r, rfl, hr⟩, hb⟩
              obtain rfl : r = false := by cases r with | false => rfl | true => exact absurd (hr.1 rfl) HV.out
              replace HB := Lib.hid (below_via HB.out hb)
              replace HM := Lib.hid (HM.out.below hb)
              replace HL := Lib.hid ((HL.out.below hb).mono (Nat.le_refl _) hb.size)
              replace HS := Lib.hid (HS.out.below hb)
              replace HA := Lib.hid (HA.out.below hb)
              replace HE := Lib.hid (HE.out.below hb)
              clear hb hr
              go_wp2_with fail
              go_meet
              case rel => exact ⟨P, N, L, rfl, by have := HLI.out; omega, ⟨HB.out, HW.out.1, HW.out.2, ⟨⟨la, L.length, lc⟩, rfl, HM.out, HL.out⟩, ⟨s, v, HS.out, HD.out⟩, HOK.out⟩⟩
            have HV := Lib.hid hv
            clear hv
            have hbl := HS.out.blk
            go_wp2_with (refine wpList_load_bx _ rfl rfl HE.out (by kernel_rfl) ?_)
            clear a2 tw0
            with_reducible refine (show_ok P s v sb B t _ HS.out (HRD.out.below HB.out) HIB.out HSM.out.sm HV.out HUT.out (by have h2 := (HD.out.go HUT.out).len_le; have h3 := HLI.out; omega)).mono ?_
            rintro e w5 ⟨rfl, hs, ho⟩
            replace HB := Lib.hid (belowOnl HB.out ho (by have := HW.out; simp; omega) HB.out.size)
            replace HL := Lib.hid ((HL.out.onlT ho hbl (by decide)).mono (Nat.le_refl _) ho.size)
            replace HM := Lib.hid (HM.out.onl ho (by have := HNE.out; simp; exact fun e => this.1 e.symm))
            replace HA := Lib.hid (HA.out.onl ho (by have := HNE.out; simp; exact fun e => this.2.1 e.symm))
            replace HE := Lib.hid (HE.out.onl ho (by have := HNE.out; simp; exact fun e => this.2.2.1 e.symm))
            obtain ⟨v5, hs5⟩ := hs
            replace HS := Lib.hid hs5
            clear ho hbl hs5
            go_wp2_with (refine wpList_load_bx _ rfl rfl HE.out (by kernel_rfl) ?_)
            with_reducible refine (bvalid sb B _ (HRD.out.below HB.out) HIB.out HSM.out.sm).mono ?_
            rintro e w6 ⟨⟨r, rfl, hr⟩, hb⟩
            obtain rfl : r = true := hr.2 HV.out
            replace HB := Lib.hid (below_via HB.out hb)
            replace HM := Lib.hid (HM.out.below hb)
            replace HL := Lib.hid ((HL.out.below hb).mono (Nat.le_refl _) hb.size)
            replace HS := Lib.hid (HS.out.below hb)
            replace HA := Lib.hid (HA.out.below hb)
            replace HE := Lib.hid (HE.out.below hb)
            clear hb hr
            go_upto_region 26 with fail
            go_cut [9] (fun s9 wx => s9 = .pointer (some ⟨M, 0, none⟩) ∧ Onl [M] w6 wx ∧ Ro wx M (MdC D (max N t) (.slice la L.length lc)) 59)
            case first =>
              have hut := HUT.out
              have hun := HD.out.un
              unfold U at hut hun
              obtain ⟨ut0, ut1⟩ := hut
              obtain ⟨un0, un1⟩ := hun
              by_cases hle : N < t
              case pos =>
                have em : max N t = t := by omega
                have KH0 := Lib.hid (⟨HB.out, HB.out.size, by simp⟩ : Kept w.heap.size w (w.heap.size) [] w6)
                refine rg4_26 (w0 := w) (B := w.heap.size) (n := w.heap.size) (L := []) (E := fun W => Ro W M (MdC D N (.slice la L.length lc)) 59 ∧ Ro W A #[.int .i64 0, .int .i64 bd, .int .u64 t] 61 ∧ Below w6.heap.size w6 W) (F := fun _ => True) (by kernel_rfl) (by kernel_rfl) (KH0.out.step (by omega) (by go_grown)) ⟨HM.out, HA.out, Below.refl _ _⟩ (fun _ _ h hb => ⟨h.1.below hb, h.2.1.below hb, below_via h.2.2 hb⟩) trivial (fun _ _ _ _ => trivial) (fun w101 K_w101 E_w101 F_w101 => ?_)
                have _ne : Nonempty (KX (w.heap.size) w (w.heap.size) [] (fun W => Ro W M (MdC D N (.slice la L.length lc)) 59 ∧ Ro W A #[.int .i64 0, .int .i64 bd, .int .u64 t] 61 ∧ Below w6.heap.size w6 W)) := ⟨⟨_, K_w101, E_w101⟩⟩
                repeat (go_big_quiet_step (fail))
                refine wpQuiet_nil ?_
                have r1 : ∀ s : KX (w.heap.size) w (w.heap.size) [] (fun W => Ro W M (MdC D N (.slice la L.length lc)) 59 ∧ Ro W A #[.int .i64 0, .int .i64 bd, .int .u64 t] 61 ∧ Below w6.heap.size w6 W), s.val.cell? ⟨M, 1, none⟩ = some (.int .u64 N) := fun s => s.ex.1.cell 1
                have r2 : ∀ s : KX (w.heap.size) w (w.heap.size) [] (fun W => Ro W M (MdC D N (.slice la L.length lc)) 59 ∧ Ro W A #[.int .i64 0, .int .i64 bd, .int .u64 t] 61 ∧ Below w6.heap.size w6 W), s.val.cell? ⟨A, 2, none⟩ = some (.int .u64 t) := fun s => s.ex.2.1.cell 2
                repeat (go_big_quiet_step (fail))
                refine wpQuiet_nil ?_
                repeat (go_big_quiet_step (fail))
                refine wpQuiet_nil ?_
                have KH_w101 := Lib.hid K_w101
                have hw_w101 := K_w101.below
                have hz_w101 := K_w101.size
                clear K_w101
                have HE1 := Lib.hid E_w101
                clear E_w101 F_w101
                refine ⟨fun K hK0 => ?_, trivial⟩
                have hK := Lib.hid hK0
                clear hK0
                have hq1 : Ro w101 M (MdC D N (.slice la L.length lc)) 59 := HE1.out.1
                have cq : w101.cell? ⟨M, 1, none⟩ = some (.int .u64 N) := hq1.cell 1
                have fq : w101.frozen? ⟨M, 1, none⟩ = false := by unfold World.frozen?; rw [show w101.heap[M]? = _ from hq1]; simp
                go_wp2_with fail
                obtain ⟨x1, hx1⟩ : ∃ W, W = w101.setCell ⟨M, 1, none⟩ (.int .u64 (t)) := ⟨_, rfl⟩
                rw [← hx1]
                have ho1 : Onl [M] w6 x1 := (Onl.of HE1.out.2.2).trans (by rw [hx1]; exact (Onl.refl _ _).setCell (.inl (by simp)) _)
                have hm1 : Ro x1 M (MdC D (max N t) (.slice la L.length lc)) 59 := by rw [hx1, em]; exact heap_setCell_same w101 M 1 _ 59 _ hq1
                have HO1 := Lib.hid ho1
                have HM1 := Lib.hid hm1
                clear cq fq hx1 ho1 hm1 hq1 HE1
                first | (refine ⟨rfl, hK.out _ _ ?_⟩; clear hK K) | (refine hK.out _ _ ?_; clear hK K)
                clear r1 r2
                clear _ne
                go_wp2_with fail
                go_meet
                case rel => exact ⟨rfl, HO1.out, HM1.out⟩
              case neg =>
                have em : max N t = N := by omega
                have hle2 : t ≤ N := by omega
                have KH0 := Lib.hid (⟨HB.out, HB.out.size, by simp⟩ : Kept w.heap.size w (w.heap.size) [] w6)
                refine rg4_26 (w0 := w) (B := w.heap.size) (n := w.heap.size) (L := []) (E := fun W => Ro W M (MdC D N (.slice la L.length lc)) 59 ∧ Ro W A #[.int .i64 0, .int .i64 bd, .int .u64 t] 61 ∧ Below w6.heap.size w6 W) (F := fun _ => True) (by kernel_rfl) (by kernel_rfl) (KH0.out.step (by omega) (by go_grown)) ⟨HM.out, HA.out, Below.refl _ _⟩ (fun _ _ h hb => ⟨h.1.below hb, h.2.1.below hb, below_via h.2.2 hb⟩) trivial (fun _ _ _ _ => trivial) (fun w101 K_w101 E_w101 F_w101 => ?_)
                have _ne : Nonempty (KX (w.heap.size) w (w.heap.size) [] (fun W => Ro W M (MdC D N (.slice la L.length lc)) 59 ∧ Ro W A #[.int .i64 0, .int .i64 bd, .int .u64 t] 61 ∧ Below w6.heap.size w6 W)) := ⟨⟨_, K_w101, E_w101⟩⟩
                repeat (go_big_quiet_step (fail))
                refine wpQuiet_nil ?_
                have r1 : ∀ s : KX (w.heap.size) w (w.heap.size) [] (fun W => Ro W M (MdC D N (.slice la L.length lc)) 59 ∧ Ro W A #[.int .i64 0, .int .i64 bd, .int .u64 t] 61 ∧ Below w6.heap.size w6 W), s.val.cell? ⟨M, 1, none⟩ = some (.int .u64 N) := fun s => s.ex.1.cell 1
                have r2 : ∀ s : KX (w.heap.size) w (w.heap.size) [] (fun W => Ro W M (MdC D N (.slice la L.length lc)) 59 ∧ Ro W A #[.int .i64 0, .int .i64 bd, .int .u64 t] 61 ∧ Below w6.heap.size w6 W), s.val.cell? ⟨A, 2, none⟩ = some (.int .u64 t) := fun s => s.ex.2.1.cell 2
                repeat (go_big_quiet_step (fail))
                refine wpQuiet_nil ?_
                repeat (go_big_quiet_step (fail))
                refine wpQuiet_nil ?_
                have KH_w101 := Lib.hid K_w101
                have hw_w101 := K_w101.below
                have hz_w101 := K_w101.size
                clear K_w101
                have HE1 := Lib.hid E_w101
                clear E_w101 F_w101
                refine ⟨fun K hK0 => ?_, trivial⟩
                have hK := Lib.hid hK0
                clear hK0
                have hq1 : Ro w101 M (MdC D N (.slice la L.length lc)) 59 := HE1.out.1
                have cq : w101.cell? ⟨M, 1, none⟩ = some (.int .u64 N) := hq1.cell 1
                have fq : w101.frozen? ⟨M, 1, none⟩ = false := by unfold World.frozen?; rw [show w101.heap[M]? = _ from hq1]; simp
                go_wp2_with fail
                obtain ⟨x1, hx1⟩ : ∃ W, W = w101.setCell ⟨M, 1, none⟩ (.int .u64 (N)) := ⟨_, rfl⟩
                rw [← hx1]
                have ho1 : Onl [M] w6 x1 := (Onl.of HE1.out.2.2).trans (by rw [hx1]; exact (Onl.refl _ _).setCell (.inl (by simp)) _)
                have hm1 : Ro x1 M (MdC D (max N t) (.slice la L.length lc)) 59 := by rw [hx1, em]; exact heap_setCell_same w101 M 1 _ 59 _ hq1
                have HO1 := Lib.hid ho1
                have HM1 := Lib.hid hm1
                clear cq fq hx1 ho1 hm1 hq1 HE1
                first | (refine ⟨rfl, hK.out _ _ ?_⟩; clear hK K) | (refine hK.out _ _ ?_; clear hK K)
                clear r1 r2
                clear _ne
                go_wp2_with fail
                go_meet
                case rel => exact ⟨rfl, HO1.out, HM1.out⟩
            case rest =>
            obtain ⟨rfl, ho, hm⟩ := hcut
            obtain ⟨N', hN'⟩ : ∃ n, max N t = n := ⟨_, rfl⟩
            rw [hN'] at hm
            have HN' := Lib.hid hN'
            have hbm := HM.out
            have hne := HNE.out
            replace HB := Lib.hid (belowOnl HB.out ho (by have := HW.out; simp; omega) HB.out.size)
            replace HL := Lib.hid ((HL.out.onlT ho hbm (by decide)).mono (Nat.le_refl _) ho.size)
            replace HS := Lib.hid (HS.out.onl1 ho hbm (by decide))
            replace HA := Lib.hid (HA.out.onl ho (by simp; exact fun e => hne.2.2.2.1 e.symm))
            replace HE := Lib.hid (HE.out.onl ho (by simp; exact fun e => hne.2.2.2.2 e.symm))
            replace HM := Lib.hid hm
            clear ho hm hN' hbm hne
            have HDS : Hid (Mdl (s.shw t (puB B)) pf D N' (L ++ [((sb, B), N')])) := Lib.hid (by have := HD.out.shw HUT.out (sb, B); rw [HN'.out] at this; exact this)
            have HLR : Hid (Rw shb 39 wc (.slice la L.length lc) L) := Lib.hid (HL.out.rw (fun x _ => (shb_ok x).1))
            clear HA HL
            go_upto_region 27 with fail
            have HB0 : Hid (w.heap.size ≤ wc.heap.size) := Lib.hid HB.out.size
            have HMC : Hid (M < wc.heap.size) := Lib.hid HM.out.lt
            have HMC2 := HM
            have HSC := HS
            refine rg4_27 (w0 := wc) (B := wc.heap.size) (n := wc.heap.size) (L := []) (E := fun W => Ro W M (MdC D N' (.slice la L.length lc)) 59 ∧ Bx W E sb B) (F := fun _ => True) (by kernel_rfl) (by kernel_rfl) ⟨by go_grown, by go_size, (by simp [go_sem] <;> omega)⟩ ⟨HM.out, HE.out⟩ (fun _ _ h hb => ⟨h.1.below hb, h.2.below hb⟩) trivial (fun _ _ _ _ => trivial) (fun w141 K_w141 E_w141 F_w141 => ?_)
            have _ne : Nonempty (KX (wc.heap.size) wc (wc.heap.size) [] (fun W => Ro W M (MdC D N' (.slice la L.length lc)) 59 ∧ Bx W E sb B)) := ⟨⟨_, K_w141, E_w141⟩⟩
            have qb : ∀ W', (∃ s' : KX (wc.heap.size) wc (wc.heap.size) [] (fun W => Ro W M (MdC D N' (.slice la L.length lc)) 59 ∧ Bx W E sb B), W' = s'.val) → Bx W' E sb B := by rintro _ ⟨s', rfl⟩; exact s'.ex.2
            repeat (first | (go_big_quiet_want; (first | apply quiet_load_bx _ rfl rfl qb | apply quiet_build_bd _ _ rfl rfl rfl); (focus (simp [go_sem]; rfl)); go_big_quiet_on) | go_big_quiet_step (fail))
            refine wpQuiet_nil ?_
            have r2 : ∀ s : KX (wc.heap.size) wc (wc.heap.size) [] (fun W => Ro W M (MdC D N' (.slice la L.length lc)) 59 ∧ Bx W E sb B), s.val.cell? ⟨M, 2, none⟩ = some (.slice la L.length lc) := fun s => s.ex.1.cell 2
            have r1 : ∀ s : KX (wc.heap.size) wc (wc.heap.size) [] (fun W => Ro W M (MdC D N' (.slice la L.length lc)) 59 ∧ Bx W E sb B), s.val.cell? ⟨M, 1, none⟩ = some (.int .u64 N') := fun s => s.ex.1.cell 1
            repeat (first | (go_big_quiet_want; (first | apply quiet_load_bx _ rfl rfl qb | apply quiet_build_bd _ _ rfl rfl rfl); (focus (simp [go_sem]; rfl)); go_big_quiet_on) | go_big_quiet_step (fail))
            refine wpQuiet_nil ?_
            clear r2 r1
            repeat (first | (go_big_quiet_want; (first | apply quiet_load_bx _ rfl rfl qb | apply quiet_build_bd _ _ rfl rfl rfl); (focus (simp [go_sem]; rfl)); go_big_quiet_on) | go_big_quiet_step (fail))
            refine wpQuiet_nil ?_
            have KH_w141 := Lib.hid K_w141
            have hw_w141 := K_w141.below
            have hz_w141 := K_w141.size
            clear K_w141
            have HE1 := Lib.hid E_w141
            clear E_w141 F_w141
            refine ⟨fun K hK0 => ?_, fun K hK0 => ?_, trivial⟩
            · skip
              have hK := Lib.hid hK0
              clear hK0
              have HBW : Hid (Below wc.heap.size wc w141) := Lib.hid KH_w141.out.below
              replace HM := Lib.hid HE1.out.1
              replace HE := Lib.hid HE1.out.2
              replace HS := Lib.hid (HS.out.below HBW.out)
              replace HLR := Lib.hid (HLR.out.below HBW.out)
              clear HE1
              go_wp2_with (at_builtin; refine wpList_append_nil (f := shb) (sz := 39) rfl _ _ 57 rfl 65 (.agg #[.slice none 0 0, .int .i64 0, .int .i64 0, .int .i64 0, .int .i64 0, .int .i64 0, .slice none 0 0, .slice none 0 0, .slice none 0 0, .slice none 0 0, .bool false, .bool false, .bool false, .int .i64 0, .int .i64 0, .int .i64 0, .int .i64 0, .int .i64 0, .int .i64 0, .int .i64 0, .slice none 0 0, .slice none 0 0, .slice none 0 0, .slice none 0 0, .bool false, .bool false, .bool false, .int .i64 0, .int .i64 0, .slice none 0 0, .slice none 0 0, .slice none 0 0, .slice none 0 0, .int .i64 0, .int .i64 0, .int .i64 0, .int .i64 0, .int .i64 0, .int .u64 0]) 488 Try.underlying57 infoW rfl (by decide) rfl shb_ok _ L rfl HLR.out (by have := HLI.out; omega) (by omega) ?_)
              intro ua uc q5 hox hb
              have HOL : Hid (Ow shb 39 65 q5 wc.heap.size (.slice ua L.length uc) L) := Lib.hid (hox.mono (lo' := wc.heap.size) HBW.out.size (Nat.le_refl _)).1
              replace HBW := Lib.hid (below_via HBW.out hb)
              replace HM := Lib.hid (HM.out.below hb)
              replace HE := Lib.hid (HE.out.below hb)
              replace HS := Lib.hid (HS.out.below hb)
              replace HLR := Lib.hid (HLR.out.below hb)
              clear hox hb
              go_wp2_with fail
              first | (refine ⟨rfl, ⟨⟨_, (⟨HBW.out, HBW.out.size, by simp⟩ : Kept wc.heap.size wc (wc.heap.size) [] q5), HM.out, HE.out⟩, rfl⟩, hK.out _ _ ?_⟩; clear hK K) | (refine ⟨⟨⟨_, (⟨HBW.out, HBW.out.size, by simp⟩ : Kept wc.heap.size wc (wc.heap.size) [] q5), HM.out, HE.out⟩, rfl⟩, hK.out _ _ ?_⟩; clear hK K)
              refine ⟨fun K hK0 => ?_, trivial⟩
              have hK := Lib.hid hK0
              clear hK0
              go_wp2_with (refine wpList_bs_bd rfl sb B N' _ rfl rfl ?_)
              intro q12 hw0
              have hb : Below q5.heap.size q5 q12 := by rw [hw0.out]; exact (Below.refl _ _).alloc (Nat.le_refl _) _
              have hro : q12.heap[q5.heap.size]? = some (.cells (shb ((sb, B), N')).toArray 65 (0, 0)) := by rw [hw0.out]; exact heap_alloc_new _ _
              obtain ⟨rb, hrb⟩ : ∃ n, n = q5.heap.size := ⟨_, rfl⟩
              rw [← hrb] at hro ⊢
              have HR1 : Hid (Rw shb 39 q12 (.slice (some ⟨rb, 0, none⟩) 1 1) [((sb, B), N')]) := Lib.hid (.inr ⟨by simp, by simp [maxLen], rb, 0, 1, rfl, (Array.getElem?_eq_some_iff.1 hro).1, fun i y hi j u hu => by
                have hi0 : i = 0 := by have := (List.getElem?_eq_some_iff.1 hi).1; simp at this; omega
                subst hi0
                simp at hi
                subst hi
                rw [show 0 + (0 * 39 + j) = j by omega, cell_of_row _ _ j _ 65 (0, 0) hro, ← Array.getElem?_toList]
                exact hu⟩)
              replace HBW := Lib.hid (below_via HBW.out hb)
              replace HM := Lib.hid (HM.out.below hb)
              replace HE := Lib.hid (HE.out.below hb)
              replace HS := Lib.hid (HS.out.below hb)
              replace HLR := Lib.hid (HLR.out.below hb)
              replace HOL := Lib.hid (HOL.out.below hb)
              clear hw0 hb hrb hro
              go_wp2_with fail
              first | (refine ⟨rfl, ⟨⟨_, (⟨HBW.out, HBW.out.size, by simp⟩ : Kept wc.heap.size wc (wc.heap.size) [] q12), HM.out, HE.out⟩, rfl⟩, hK.out _ _ ?_⟩; clear hK K) | (refine ⟨⟨⟨_, (⟨HBW.out, HBW.out.size, by simp⟩ : Kept wc.heap.size wc (wc.heap.size) [] q12), HM.out, HE.out⟩, rfl⟩, hK.out _ _ ?_⟩; clear hK K)
              refine ⟨fun K hK0 => ?_, trivial⟩
              have hK := Lib.hid hK0
              clear hK0
              go_wp2_with (at_builtin; refine wpList_append_ow (f := shb) (sz := 39) rfl _ _ 57 rfl wc.heap.size 65 (.agg #[.slice none 0 0, .int .i64 0, .int .i64 0, .int .i64 0, .int .i64 0, .int .i64 0, .slice none 0 0, .slice none 0 0, .slice none 0 0, .slice none 0 0, .bool false, .bool false, .bool false, .int .i64 0, .int .i64 0, .int .i64 0, .int .i64 0, .int .i64 0, .int .i64 0, .int .i64 0, .slice none 0 0, .slice none 0 0, .slice none 0 0, .slice none 0 0, .bool false, .bool false, .bool false, .int .i64 0, .int .i64 0, .slice none 0 0, .slice none 0 0, .slice none 0 0, .slice none 0 0, .int .i64 0, .int .i64 0, .int .i64 0, .int .i64 0, .int .i64 0, .int .u64 0]) 488 Try.underlying57 infoW rfl (by decide) _ L rfl HOL.out shb_ok _ [((sb, B), N')] rfl HR1.out (by have := HLI.out; simp [maxLen]; omega) (by have := HLI.out; simp; omega) HBW.out.size ?_)
              intro vv q13 hown hgr _
              obtain ⟨na, nc, rfl⟩ := hown.form
              rw [show (L ++ [((sb, B), N')]).length = L.length + 1 by simp] at hown ⊢
              have hb : Below wc.heap.size wc q13 := grownB HBW.out hgr (fun q hq => (HOL.out.typ q hq).1)
              have HLN : Hid (Ox shb 39 65 wc.heap.size q13.heap.size q13 (.slice na (L.length + 1) nc) (L ++ [((sb, B), N')])) := Lib.hid (Ox.of hown)
              replace HM : Hid (Ro q13 M (MdC D N' (.slice la L.length lc)) 59) := Lib.hid ((hb.block M HMC.out).trans HMC2.out)
              replace HS := Lib.hid (HSC.out.below hb)
              replace HBW := Lib.hid hb
              clear hown hgr hb HOL HR1 HLR HE
              go_wp2_with fail
              first | (refine ⟨rfl, hK.out _ _ ?_⟩; clear hK K) | (refine hK.out _ _ ?_; clear hK K)
              repeat (first | (go_big_quiet_want; (first | apply quiet_load_bx _ rfl rfl qb | apply quiet_build_bd _ _ rfl rfl rfl); (focus (simp [go_sem]; rfl)); go_big_quiet_on) | go_big_quiet_step (fail))
              refine wpQuiet_nil ?_
              refine ⟨fun K hK0 => ?_, trivial⟩
              have hK := Lib.hid hK0
              clear hK0
              have cq : q13.cell? ⟨M, 2, none⟩ = some (.slice la L.length lc) := HM.out.cell 2
              have fq : q13.frozen? ⟨M, 2, none⟩ = false := by unfold World.frozen?; rw [show q13.heap[M]? = _ from HM.out]; simp
              go_wp2_with fail
              obtain ⟨q16, hx⟩ : ∃ X, X = q13.setCell ⟨M, 2, none⟩ (.slice na (L.length + 1) nc) := ⟨_, rfl⟩
              rw [← hx]
              have ho : Onl [M] q13 q16 := by rw [hx]; exact (Onl.refl _ _).setCell (.inl (by simp)) _
              have hm : Ro q16 M (MdC D N' (.slice na (L.length + 1) nc)) 59 := by rw [hx]; exact heap_setCell_same q13 M 2 _ 59 _ HM.out
              have hbm := HM.out
              replace HB := Lib.hid (belowOnl (below_via HB.out HBW.out) ho (by have := HW.out; simp; omega) (below_via HB.out HBW.out).size)
              replace HLN := Lib.hid ((HLN.out.onlT ho hbm (by decide)).mono HB0.out ho.size)
              replace HS := Lib.hid (HS.out.onl1 ho hbm (by decide))
              replace HM := Lib.hid hm
              clear cq fq hx ho hm hbm HBW
              first | (refine ⟨rfl, hK.out _ _ ?_⟩; clear hK K) | (refine hK.out _ _ ?_; clear hK K)
              clear _ne
              go_wp2_with fail
              go_meet
              case rel =>
                exact ⟨P, N', L ++ [((sb, B), N')], rfl, by have := HLI.out; simp; omega, ⟨HB.out, HW.out.1, HW.out.2, ⟨⟨na, L.length + 1, nc⟩, by simp, HM.out, HLN.out⟩, ⟨_, v5, HS.out, HDS.out⟩, fun x hx => by
                  rcases List.mem_append.1 hx with h | h
                  · exact HOK.out x h
                  · simp at h
                    subst h
                    exact ⟨HRD.out, HIB.out, HSM.out, HV.out⟩⟩⟩
            · skip
              have hK := Lib.hid hK0
              clear hK0
              have HBW : Hid (Below wc.heap.size wc w141) := Lib.hid KH_w141.out.below
              replace HM := Lib.hid HE1.out.1
              replace HE := Lib.hid HE1.out.2
              replace HS := Lib.hid (HS.out.below HBW.out)
              replace HLR := Lib.hid (HLR.out.below HBW.out)
              clear HE1
              go_wp2_with (refine wpList_bs_bd rfl sb B N' _ rfl rfl ?_)
              intro q12 hw0
              have hb : Below w141.heap.size w141 q12 := by rw [hw0.out]; exact (Below.refl _ _).alloc (Nat.le_refl _) _
              have hro : q12.heap[w141.heap.size]? = some (.cells (shb ((sb, B), N')).toArray 65 (0, 0)) := by rw [hw0.out]; exact heap_alloc_new _ _
              obtain ⟨rb, hrb⟩ : ∃ n, n = w141.heap.size := ⟨_, rfl⟩
              rw [← hrb] at hro ⊢
              have HR1 : Hid (Rw shb 39 q12 (.slice (some ⟨rb, 0, none⟩) 1 1) [((sb, B), N')]) := Lib.hid (.inr ⟨by simp, by simp [maxLen], rb, 0, 1, rfl, (Array.getElem?_eq_some_iff.1 hro).1, fun i y hi j u hu => by
                have hi0 : i = 0 := by have := (List.getElem?_eq_some_iff.1 hi).1; simp at this; omega
                subst hi0
                simp at hi
                subst hi
                rw [show 0 + (0 * 39 + j) = j by omega, cell_of_row _ _ j _ 65 (0, 0) hro, ← Array.getElem?_toList]
                exact hu⟩)
              replace HBW := Lib.hid (below_via HBW.out hb)
              replace HM := Lib.hid (HM.out.below hb)
              replace HE := Lib.hid (HE.out.below hb)
              replace HS := Lib.hid (HS.out.below hb)
              replace HLR := Lib.hid (HLR.out.below hb)
              clear hw0 hb hrb hro
              go_wp2_with fail
              first | (refine ⟨rfl, ⟨⟨_, (⟨HBW.out, HBW.out.size, by simp⟩ : Kept wc.heap.size wc (wc.heap.size) [] q12), HM.out, HE.out⟩, rfl⟩, hK.out _ _ ?_⟩; clear hK K) | (refine ⟨⟨⟨_, (⟨HBW.out, HBW.out.size, by simp⟩ : Kept wc.heap.size wc (wc.heap.size) [] q12), HM.out, HE.out⟩, rfl⟩, hK.out _ _ ?_⟩; clear hK K)
              refine ⟨fun K hK0 => ?_, trivial⟩
              have hK := Lib.hid hK0
              clear hK0
              go_wp2_with (at_builtin; refine wpList_append_nil (f := shb) (sz := 39) rfl _ _ 57 rfl 65 (.agg #[.slice none 0 0, .int .i64 0, .int .i64 0, .int .i64 0, .int .i64 0, .int .i64 0, .slice none 0 0, .slice none 0 0, .slice none 0 0, .slice none 0 0, .bool false, .bool false, .bool false, .int .i64 0, .int .i64 0, .int .i64 0, .int .i64 0, .int .i64 0, .int .i64 0, .int .i64 0, .slice none 0 0, .slice none 0 0, .slice none 0 0, .slice none 0 0, .bool false, .bool false, .bool false, .int .i64 0, .int .i64 0, .slice none 0 0, .slice none 0 0, .slice none 0 0, .slice none 0 0, .int .i64 0, .int .i64 0, .int .i64 0, .int .i64 0, .int .i64 0, .int .u64 0]) 488 Try.underlying57 infoW rfl (by decide) rfl shb_ok _ L rfl HLR.out (by have := HLI.out; omega) (by omega) ?_)
              intro ua uc q5 hox hb
              have HOL : Hid (Ow shb 39 65 q5 wc.heap.size (.slice ua L.length uc) L) := Lib.hid (hox.mono (lo' := wc.heap.size) HBW.out.size (Nat.le_refl _)).1
              replace HBW := Lib.hid (below_via HBW.out hb)
              replace HM := Lib.hid (HM.out.below hb)
              replace HE := Lib.hid (HE.out.below hb)
              replace HS := Lib.hid (HS.out.below hb)
              replace HLR := Lib.hid (HLR.out.below hb)
              replace HR1 := Lib.hid (HR1.out.below hb)
              clear hox hb
              go_wp2_with fail
              first | (refine ⟨rfl, ⟨⟨_, (⟨HBW.out, HBW.out.size, by simp⟩ : Kept wc.heap.size wc (wc.heap.size) [] q5), HM.out, HE.out⟩, rfl⟩, hK.out _ _ ?_⟩; clear hK K) | (refine ⟨⟨⟨_, (⟨HBW.out, HBW.out.size, by simp⟩ : Kept wc.heap.size wc (wc.heap.size) [] q5), HM.out, HE.out⟩, rfl⟩, hK.out _ _ ?_⟩; clear hK K)
              refine ⟨fun K hK0 => ?_, trivial⟩
              have hK := Lib.hid hK0
              clear hK0
              go_wp2_with (at_builtin; refine wpList_append_ow (f := shb) (sz := 39) rfl _ _ 57 rfl wc.heap.size 65 (.agg #[.slice none 0 0, .int .i64 0, .int .i64 0, .int .i64 0, .int .i64 0, .int .i64 0, .slice none 0 0, .slice none 0 0, .slice none 0 0, .slice none 0 0, .bool false, .bool false, .bool false, .int .i64 0, .int .i64 0, .int .i64 0, .int .i64 0, .int .i64 0, .int .i64 0, .int .i64 0, .slice none 0 0, .slice none 0 0, .slice none 0 0, .slice none 0 0, .bool false, .bool false, .bool false, .int .i64 0, .int .i64 0, .slice none 0 0, .slice none 0 0, .slice none 0 0, .slice none 0 0, .int .i64 0, .int .i64 0, .int .i64 0, .int .i64 0, .int .i64 0, .int .u64 0]) 488 Try.underlying57 infoW rfl (by decide) _ L rfl HOL.out shb_ok _ [((sb, B), N')] rfl HR1.out (by have := HLI.out; simp [maxLen]; omega) (by have := HLI.out; simp; omega) HBW.out.size ?_)
              intro vv q13 hown hgr _
              obtain ⟨na, nc, rfl⟩ := hown.form
              rw [show (L ++ [((sb, B), N')]).length = L.length + 1 by simp] at hown ⊢
              have hb : Below wc.heap.size wc q13 := grownB HBW.out hgr (fun q hq => (HOL.out.typ q hq).1)
              have HLN : Hid (Ox shb 39 65 wc.heap.size q13.heap.size q13 (.slice na (L.length + 1) nc) (L ++ [((sb, B), N')])) := Lib.hid (Ox.of hown)
              replace HM : Hid (Ro q13 M (MdC D N' (.slice la L.length lc)) 59) := Lib.hid ((hb.block M HMC.out).trans HMC2.out)
              replace HS := Lib.hid (HSC.out.below hb)
              replace HBW := Lib.hid hb
              clear hown hgr hb HOL HR1 HLR HE
              go_wp2_with fail
              first | (refine ⟨rfl, hK.out _ _ ?_⟩; clear hK K) | (refine hK.out _ _ ?_; clear hK K)
              repeat (first | (go_big_quiet_want; (first | apply quiet_load_bx _ rfl rfl qb | apply quiet_build_bd _ _ rfl rfl rfl); (focus (simp [go_sem]; rfl)); go_big_quiet_on) | go_big_quiet_step (fail))
              refine wpQuiet_nil ?_
              refine ⟨fun K hK0 => ?_, trivial⟩
              have hK := Lib.hid hK0
              clear hK0
              have cq : q13.cell? ⟨M, 2, none⟩ = some (.slice la L.length lc) := HM.out.cell 2
              have fq : q13.frozen? ⟨M, 2, none⟩ = false := by unfold World.frozen?; rw [show q13.heap[M]? = _ from HM.out]; simp
              go_wp2_with fail
              obtain ⟨q16, hx⟩ : ∃ X, X = q13.setCell ⟨M, 2, none⟩ (.slice na (L.length + 1) nc) := ⟨_, rfl⟩
              rw [← hx]
              have ho : Onl [M] q13 q16 := by rw [hx]; exact (Onl.refl _ _).setCell (.inl (by simp)) _
              have hm : Ro q16 M (MdC D N' (.slice na (L.length + 1) nc)) 59 := by rw [hx]; exact heap_setCell_same q13 M 2 _ 59 _ HM.out
              have hbm := HM.out
              replace HB := Lib.hid (belowOnl (below_via HB.out HBW.out) ho (by have := HW.out; simp; omega) (below_via HB.out HBW.out).size)
              replace HLN := Lib.hid ((HLN.out.onlT ho hbm (by decide)).mono HB0.out ho.size)
              replace HS := Lib.hid (HS.out.onl1 ho hbm (by decide))
              replace HM := Lib.hid hm
              clear cq fq hx ho hm hbm HBW
              first | (refine ⟨rfl, hK.out _ _ ?_⟩; clear hK K) | (refine hK.out _ _ ?_; clear hK K)
              clear _ne
              go_wp2_with fail
              go_meet
              case rel =>
                exact ⟨P, N', L ++ [((sb, B), N')], rfl, by have := HLI.out; simp; omega, ⟨HB.out, HW.out.1, HW.out.2, ⟨⟨na, L.length + 1, nc⟩, by simp, HM.out, HLN.out⟩, ⟨_, v5, HS.out, HDS.out⟩, fun x hx => by
                  rcases List.mem_append.1 hx with h | h
                  · exact HOK.out x h
                  · simp at h
                    subst h
                    exact ⟨HRD.out, HIB.out, HSM.out, HV.out⟩⟩⟩
        case neg =>
        have tw0 : (wh == 0) = false := by simpa using hw0
        by_cases hw1 : wh = 1
        case pos =>
          subst hw1
          as_aux_lemma =>
            have tw1 : ((1 : Int) == 1) = true := rfl
            go_upto_region 31 with fail
            clear tw0 tw1 hw0
            go_cut [9] (fun s9 wx => s9 = .pointer (some ⟨M, 0, none⟩) ∧ Onl [M] w4 wx ∧ Ro wx M (MdC D (max N t) (.slice la L.length lc)) 59)
            case first =>
              have hut := HUT.out
              have hun := HD.out.un
              unfold U at hut hun
              obtain ⟨ut0, ut1⟩ := hut
              obtain ⟨un0, un1⟩ := hun
              by_cases hle : N < t
              case pos =>
                have em : max N t = t := by omega
                have KH0 := Lib.hid (⟨HB.out, HB.out.size, by simp⟩ : Kept w.heap.size w (w.heap.size) [] w4)
                refine rg4_31 (w0 := w) (B := w.heap.size) (n := w.heap.size) (L := []) (E := fun W => Ro W M (MdC D N (.slice la L.length lc)) 59 ∧ Ro W A #[.int .i64 1, .int .i64 bd, .int .u64 t] 61 ∧ Below w4.heap.size w4 W) (F := fun _ => True) (by kernel_rfl) (by kernel_rfl) (KH0.out.step (by omega) (by go_grown)) ⟨HM.out, HA.out, Below.refl _ _⟩ (fun _ _ h hb => ⟨h.1.below hb, h.2.1.below hb, below_via h.2.2 hb⟩) trivial (fun _ _ _ _ => trivial) (fun w101 K_w101 E_w101 F_w101 => ?_)
                have _ne : Nonempty (KX (w.heap.size) w (w.heap.size) [] (fun W => Ro W M (MdC D N (.slice la L.length lc)) 59 ∧ Ro W A #[.int .i64 1, .int .i64 bd, .int .u64 t] 61 ∧ Below w4.heap.size w4 W)) := ⟨⟨_, K_w101, E_w101⟩⟩
                repeat (go_big_quiet_step (fail))
                refine wpQuiet_nil ?_
                have r1 : ∀ s : KX (w.heap.size) w (w.heap.size) [] (fun W => Ro W M (MdC D N (.slice la L.length lc)) 59 ∧ Ro W A #[.int .i64 1, .int .i64 bd, .int .u64 t] 61 ∧ Below w4.heap.size w4 W), s.val.cell? ⟨M, 1, none⟩ = some (.int .u64 N) := fun s => s.ex.1.cell 1
                have r2 : ∀ s : KX (w.heap.size) w (w.heap.size) [] (fun W => Ro W M (MdC D N (.slice la L.length lc)) 59 ∧ Ro W A #[.int .i64 1, .int .i64 bd, .int .u64 t] 61 ∧ Below w4.heap.size w4 W), s.val.cell? ⟨A, 2, none⟩ = some (.int .u64 t) := fun s => s.ex.2.1.cell 2
                repeat (go_big_quiet_step (fail))
                refine wpQuiet_nil ?_
                repeat (go_big_quiet_step (fail))
                refine wpQuiet_nil ?_
                have KH_w101 := Lib.hid K_w101
                have hw_w101 := K_w101.below
                have hz_w101 := K_w101.size
                clear K_w101
                have HE1 := Lib.hid E_w101
                clear E_w101 F_w101
                refine ⟨fun K hK0 => ?_, trivial⟩
                have hK := Lib.hid hK0
                clear hK0
                have hq1 : Ro w101 M (MdC D N (.slice la L.length lc)) 59 := HE1.out.1
                have cq : w101.cell? ⟨M, 1, none⟩ = some (.int .u64 N) := hq1.cell 1
                have fq : w101.frozen? ⟨M, 1, none⟩ = false := by unfold World.frozen?; rw [show w101.heap[M]? = _ from hq1]; simp
                go_wp2_with fail
                obtain ⟨x1, hx1⟩ : ∃ W, W = w101.setCell ⟨M, 1, none⟩ (.int .u64 (t)) := ⟨_, rfl⟩
                rw [← hx1]
                have ho1 : Onl [M] w4 x1 := (Onl.of HE1.out.2.2).trans (by rw [hx1]; exact (Onl.refl _ _).setCell (.inl (by simp)) _)
                have hm1 : Ro x1 M (MdC D (max N t) (.slice la L.length lc)) 59 := by rw [hx1, em]; exact heap_setCell_same w101 M 1 _ 59 _ hq1
                have HO1 := Lib.hid ho1
                have HM1 := Lib.hid hm1
                clear cq fq hx1 ho1 hm1 hq1 HE1
                first | (refine ⟨rfl, hK.out _ _ ?_⟩; clear hK K) | (refine hK.out _ _ ?_; clear hK K)
                clear r1 r2
                clear _ne
                go_wp2_with fail
                go_meet
                case rel => exact ⟨rfl, HO1.out, HM1.out⟩
              case neg =>
                have em : max N t = N := by omega
                have hle2 : t ≤ N := by omega
                have KH0 := Lib.hid (⟨HB.out, HB.out.size, by simp⟩ : Kept w.heap.size w (w.heap.size) [] w4)
                refine rg4_31 (w0 := w) (B := w.heap.size) (n := w.heap.size) (L := []) (E := fun W => Ro W M (MdC D N (.slice la L.length lc)) 59 ∧ Ro W A #[.int .i64 1, .int .i64 bd, .int .u64 t] 61 ∧ Below w4.heap.size w4 W) (F := fun _ => True) (by kernel_rfl) (by kernel_rfl) (KH0.out.step (by omega) (by go_grown)) ⟨HM.out, HA.out, Below.refl _ _⟩ (fun _ _ h hb => ⟨h.1.below hb, h.2.1.below hb, below_via h.2.2 hb⟩) trivial (fun _ _ _ _ => trivial) (fun w101 K_w101 E_w101 F_w101 => ?_)
                have _ne : Nonempty (KX (w.heap.size) w (w.heap.size) [] (fun W => Ro W M (MdC D N (.slice la L.length lc)) 59 ∧ Ro W A #[.int .i64 1, .int .i64 bd, .int .u64 t] 61 ∧ Below w4.heap.size w4 W)) := ⟨⟨_, K_w101, E_w101⟩⟩
                repeat (go_big_quiet_step (fail))
                refine wpQuiet_nil ?_
                have r1 : ∀ s : KX (w.heap.size) w (w.heap.size) [] (fun W => Ro W M (MdC D N (.slice la L.length lc)) 59 ∧ Ro W A #[.int .i64 1, .int .i64 bd, .int .u64 t] 61 ∧ Below w4.heap.size w4 W), s.val.cell? ⟨M, 1, none⟩ = some (.int .u64 N) := fun s => s.ex.1.cell 1
                have r2 : ∀ s : KX (w.heap.size) w (w.heap.size) [] (fun W => Ro W M (MdC D N (.slice la L.length lc)) 59 ∧ Ro W A #[.int .i64 1, .int .i64 bd, .int .u64 t] 61 ∧ Below w4.heap.size w4 W), s.val.cell? ⟨A, 2, none⟩ = some (.int .u64 t) := fun s => s.ex.2.1.cell 2
                repeat (go_big_quiet_step (fail))
                refine wpQuiet_nil ?_
                repeat (go_big_quiet_step (fail))
                refine wpQuiet_nil ?_
                have KH_w101 := Lib.hid K_w101
                have hw_w101 := K_w101.below
                have hz_w101 := K_w101.size
                clear K_w101
                have HE1 := Lib.hid E_w101
                clear E_w101 F_w101
                refine ⟨fun K hK0 => ?_, trivial⟩
                have hK := Lib.hid hK0
                clear hK0
                have hq1 : Ro w101 M (MdC D N (.slice la L.length lc)) 59 := HE1.out.1
                have cq : w101.cell? ⟨M, 1, none⟩ = some (.int .u64 N) := hq1.cell 1
                have fq : w101.frozen? ⟨M, 1, none⟩ = false := by unfold World.frozen?; rw [show w101.heap[M]? = _ from hq1]; simp
                go_wp2_with fail
                obtain ⟨x1, hx1⟩ : ∃ W, W = w101.setCell ⟨M, 1, none⟩ (.int .u64 (N)) := ⟨_, rfl⟩
                rw [← hx1]
                have ho1 : Onl [M] w4 x1 := (Onl.of HE1.out.2.2).trans (by rw [hx1]; exact (Onl.refl _ _).setCell (.inl (by simp)) _)
                have hm1 : Ro x1 M (MdC D (max N t) (.slice la L.length lc)) 59 := by rw [hx1, em]; exact heap_setCell_same w101 M 1 _ 59 _ hq1
                have HO1 := Lib.hid ho1
                have HM1 := Lib.hid hm1
                clear cq fq hx1 ho1 hm1 hq1 HE1
                first | (refine ⟨rfl, hK.out _ _ ?_⟩; clear hK K) | (refine hK.out _ _ ?_; clear hK K)
                clear r1 r2
                clear _ne
                go_wp2_with fail
                go_meet
                case rel => exact ⟨rfl, HO1.out, HM1.out⟩
            case rest =>
            obtain ⟨rfl, ho, hm⟩ := hcut
            obtain ⟨N', hN'⟩ : ∃ n, max N t = n := ⟨_, rfl⟩
            rw [hN'] at hm
            have HN' := Lib.hid hN'
            have hbm := HM.out
            have hne := HNE.out
            replace HB := Lib.hid (belowOnl HB.out ho (by have := HW.out; simp; omega) HB.out.size)
            replace HL := Lib.hid ((HL.out.onlT ho hbm (by decide)).mono (Nat.le_refl _) ho.size)
            replace HS := Lib.hid (HS.out.onl1 ho hbm (by decide))
            replace HA := Lib.hid (HA.out.onl ho (by simp; exact fun e => hne.2.2.2.1 e.symm))
            replace HE := Lib.hid (HE.out.onl ho (by simp; exact fun e => hne.2.2.2.2 e.symm))
            replace HM := Lib.hid hm
            clear ho hm hN' hbm hne
            have a2 : wc.cell? ⟨A, 2, none⟩ = some (.int .u64 t) := HA.out.cell 2
            have gA := HA.out.lt
            clear gA
            obtain ⟨b, hbst⟩ := Bst.ex D N' L
            have HBT := Lib.hid hbst
            have HDG : Hid (Mdl (s.go t) pf D N' L) := Lib.hid (by rw [← HN'.out]; exact HD.out.go HUT.out)
            have hblt := hbst.lt
            clear hbst
            go_wp2_with fail
            with_reducible refine (lseen M D N' b la lc L _ HM.out (HL.out.rw (fun x _ => (shb_ok x).1)) HDB.out HDG.out.un HDG.out.us (by have := HLI.out; omega) HBT.out).mono ?_
            rintro e w5 ⟨rfl, hb⟩
            replace a2 := (hb.cell (p := ⟨A, 2, none⟩) HA.out.lt).trans a2
            replace HB := Lib.hid (below_via HB.out hb)
            replace HM := Lib.hid (HM.out.below hb)
            replace HL := Lib.hid ((HL.out.below hb).mono (Nat.le_refl _) hb.size)
            replace HS := Lib.hid (HS.out.below hb)
            replace HA := Lib.hid (HA.out.below hb)
            replace HE := Lib.hid (HE.out.below hb)
            clear hb
            by_cases hb0 : b < 0
            case pos =>
              have tb : decide (b < 0) = true := decide_eq_true hb0
              have eb : b = -1 := by omega
              subst eb
              clear hb0 hblt
              go_wp2_with fail
              clear tb a2
              obtain ⟨z5, hz5⟩ : ∃ n, n = w5.heap.size := ⟨_, rfl⟩
              have hbl := HS.out.blk
              with_reducible refine (sees_zero _ (by with_unfolding_all rfl) (.pointer (some ⟨P, 0, none⟩)) [P] (fun W => ∃ v, SdAt W P (s.go t) v) (fun _ _ h hb => (by obtain ⟨v, h⟩ := h; exact ⟨v, h.below hb⟩)) t 0 9 _ (by omega) (by have := HS.out.lt; simpa using this) (fun W hb => see_none P s v t W (HS.out.below hb) HUT.out (see_of_no (HDG.out.no HBT.out) HDG.out.dl HDG.out.nw))).mono ?_
              rintro e w6 ⟨rfl, ho, hs⟩
              replace HB := Lib.hid (belowOnl HB.out ho (by have := HW.out; simp; omega) HB.out.size)
              replace HL := Lib.hid ((HL.out.onlT ho hbl (by decide)).mono (Nat.le_refl _) ho.size)
              replace HM := Lib.hid (HM.out.onl ho (by have := HNE.out; simp; exact fun e => this.1 e.symm))
              replace HA := Lib.hid (HA.out.onl ho (by have := HNE.out; simp; exact fun e => this.2.1 e.symm))
              replace HE := Lib.hid (HE.out.onl ho (by have := HNE.out; simp; exact fun e => this.2.2.1 e.symm))
              have HS6 := Lib.hid hs
              clear ho hs hbl HS hz5
              go_wp2_with fail
              go_meet
              case rel =>
                obtain ⟨v6, hs6⟩ := HS6.out
                exact ⟨P, N', L, rfl, by have := HLI.out; omega, ⟨HB.out, HW.out.1, HW.out.2, ⟨⟨la, L.length, lc⟩, rfl, HM.out, HL.out⟩, ⟨s.go t, v6, hs6, HDG.out⟩, HOK.out⟩⟩
            case neg =>
            have tb : decide (b < 0) = false := decide_eq_false hb0
            obtain ⟨k, rfl⟩ : ∃ k : Nat, b = k := ⟨b.toNat, by omega⟩
            have hkl : k < L.length := by omega
            obtain ⟨x, xs, hx, hsl, hdue⟩ := HDG.out.yes HBT.out
            have HSEE : Hid ((s.go t).see = some (puB x.1.2, x.2)) := Lib.hid (see_of_yes hsl HDG.out.dl HDG.out.nw hdue)
            obtain ⟨lb, lcap, hle, hl1, hl2, hl3⟩ := HL.out.pos (by omega)
            simp only [Value.slice.injEq] at hle
            obtain ⟨rfl, _, rfl⟩ := hle
            have HX := Lib.hid hx
            have hxo := HOK.out x (List.mem_of_getElem? hx)
            have HXO := Lib.hid hxo
            have lx : ∀ (j : Nat) (u : Value), (shb x)[j]? = some u → w5.cell? ⟨lb, k * 39 + j, none⟩ = some u := fun j u hu => (HL.out.at (fun x _ => (shb_ok x).1) hx hu (k * 39 + j) rfl).1
            have d38 : w5.cell? ⟨lb, k * 39 + 38, none⟩ = some (.int .u64 x.2) := lx 38 _ rfl
            have HLX : Hid (∀ (j : Nat) (u : Value), (bcells x.1.1 x.1.2).toList[j]? = some u → w5.cell? ⟨lb, k * 39 + j, none⟩ = some u) := Lib.hid (fun j u hu => lx j u (by unfold shb; rw [List.getElem?_append_left (List.getElem?_eq_some_iff.1 hu).1]; exact hu))
            have m2 : w5.cell? ⟨M, 2, none⟩ = some (.slice (some ⟨lb, 0, none⟩) L.length lc) := HM.out.cell 2
            have gM := HM.out.lt
            have gA := HA.out.lt
            have i3 : (0 : Int) ≤ (k : Int) := by omega
            have i4 : (k : Int) < (L.length : Int) := by omega
            clear hb0 hblt hx hxo hsl hdue lx hkl hl1 hl2
            go_upto_region 36 with fail
            clear tb
            have KH0 := Lib.hid (⟨HB.out, HB.out.size, by simp⟩ : Kept w.heap.size w (w.heap.size) [] w5)
            refine rg4_36 (w0 := w) (B := w.heap.size) (n := w.heap.size) (L := []) (E := fun W => Ro W M (MdC D N' (.slice (some ⟨lb, 0, none⟩) L.length lc)) 59 ∧ Ro W A #[.int .i64 1, .int .i64 bd, .int .u64 t] 61 ∧ Ox shb 39 65 w.heap.size W.heap.size W (.slice (some ⟨lb, 0, none⟩) L.length lc) L) (F := fun W => Below w5.heap.size w5 W) (by kernel_rfl) (by kernel_rfl) (KH0.out.step (by omega) (by go_grown)) ⟨HM.out, HA.out, HL.out⟩ (fun _ _ h hb => ⟨h.1.below hb, h.2.1.below hb, (h.2.2.below hb).mono (Nat.le_refl _) hb.size⟩) (Below.refl _ _) (fun _ _ h hb => below_via h hb) (fun w121 K_w121 E_w121 F_w121 => ?_)
            have _ne : Nonempty (KX (w.heap.size) w (w.heap.size) [] (fun W => Ro W M (MdC D N' (.slice (some ⟨lb, 0, none⟩) L.length lc)) 59 ∧ Ro W A #[.int .i64 1, .int .i64 bd, .int .u64 t] 61 ∧ Ox shb 39 65 w.heap.size W.heap.size W (.slice (some ⟨lb, 0, none⟩) L.length lc) L)) := ⟨⟨_, K_w121, E_w121⟩⟩
            have qb : ∀ W', (∃ s' : KX (w.heap.size) w (w.heap.size) [] (fun W => Ro W M (MdC D N' (.slice (some ⟨lb, 0, none⟩) L.length lc)) 59 ∧ Ro W A #[.int .i64 1, .int .i64 bd, .int .u64 t] 61 ∧ Ox shb 39 65 w.heap.size W.heap.size W (.slice (some ⟨lb, 0, none⟩) L.length lc) L), W' = s'.val) → W'.rangeAt lb (k * 39) (bcells x.1.1 x.1.2).toList := by rintro _ ⟨s', rfl⟩; exact fun j u hu => (s'.ex.2.2.at (fun x _ => (shb_ok x).1) HX.out (u := u) (by unfold shb; rw [List.getElem?_append_left (List.getElem?_eq_some_iff.1 hu).1]; exact hu) (k * 39 + j) rfl).1
            repeat (first | (go_big_quiet_want; apply quiet_load_bd _ rfl rfl qb; (focus (simp [go_sem]; rfl)); go_big_quiet_on) | go_big_quiet_step (fail))
            refine wpQuiet_nil ?_
            have r2 : ∀ s : KX (w.heap.size) w (w.heap.size) [] (fun W => Ro W M (MdC D N' (.slice (some ⟨lb, 0, none⟩) L.length lc)) 59 ∧ Ro W A #[.int .i64 1, .int .i64 bd, .int .u64 t] 61 ∧ Ox shb 39 65 w.heap.size W.heap.size W (.slice (some ⟨lb, 0, none⟩) L.length lc) L), s.val.cell? ⟨A, 2, none⟩ = some (.int .u64 t) := fun s => s.ex.2.1.cell 2
            have r3 : ∀ s : KX (w.heap.size) w (w.heap.size) [] (fun W => Ro W M (MdC D N' (.slice (some ⟨lb, 0, none⟩) L.length lc)) 59 ∧ Ro W A #[.int .i64 1, .int .i64 bd, .int .u64 t] 61 ∧ Ox shb 39 65 w.heap.size W.heap.size W (.slice (some ⟨lb, 0, none⟩) L.length lc) L), s.val.cell? ⟨M, 2, none⟩ = some ((.slice (some ⟨lb, 0, none⟩) L.length lc)) := fun s => s.ex.1.cell 2
            have r38 : ∀ s : KX (w.heap.size) w (w.heap.size) [] (fun W => Ro W M (MdC D N' (.slice (some ⟨lb, 0, none⟩) L.length lc)) 59 ∧ Ro W A #[.int .i64 1, .int .i64 bd, .int .u64 t] 61 ∧ Ox shb 39 65 w.heap.size W.heap.size W (.slice (some ⟨lb, 0, none⟩) L.length lc) L), s.val.cell? ⟨lb, k * 39 + 38, none⟩ = some (.int .u64 x.2) := fun s => (s.ex.2.2.at (fun x _ => (shb_ok x).1) HX.out (j := 38) rfl (k * 39 + 38) rfl).1
            repeat (first | (go_big_quiet_want; apply quiet_load_bd _ rfl rfl qb; (focus (simp [go_sem]; rfl)); go_big_quiet_on) | go_big_quiet_step (fail))
            refine wpQuiet_nil ?_
            repeat (first | (go_big_quiet_want; apply quiet_load_bd _ rfl rfl qb; (focus (simp [go_sem]; rfl)); go_big_quiet_on) | go_big_quiet_step (fail))
            refine wpQuiet_nil ?_
            repeat (first | (go_big_quiet_want; apply quiet_load_bd _ rfl rfl qb; (focus (simp [go_sem]; rfl)); go_big_quiet_on) | go_big_quiet_step (fail))
            refine wpQuiet_nil ?_
            repeat (first | (go_big_quiet_want; apply quiet_load_bd _ rfl rfl qb; (focus (simp [go_sem]; rfl)); go_big_quiet_on) | go_big_quiet_step (fail))
            refine wpQuiet_nil ?_
            repeat (first | (go_big_quiet_want; apply quiet_load_bd _ rfl rfl qb; (focus (simp [go_sem]; rfl)); go_big_quiet_on) | go_big_quiet_step (fail))
            refine wpQuiet_nil ?_
            have KH_w121 := Lib.hid K_w121
            have hw_w121 := K_w121.below
            have hz_w121 := K_w121.size
            clear K_w121
            have HE1 := Lib.hid E_w121
            have HF1 := Lib.hid (F_w121)
            clear E_w121 F_w121
            refine ⟨fun K hK0 => ?_, trivial⟩
            have hK := Lib.hid hK0
            clear hK0
            have hb := HF1.out
            replace HB := Lib.hid (below_via HB.out hb)
            replace HM := Lib.hid (HM.out.below hb)
            replace HL := Lib.hid ((HL.out.below hb).mono (Nat.le_refl _) hb.size)
            replace HS := Lib.hid (HS.out.below hb)
            replace HA := Lib.hid (HA.out.below hb)
            replace HE := Lib.hid (HE.out.below hb)
            clear hb HF1 HE1
            have hbl := HS.out.blk
            have hpl := HS.out.lt
            go_wp2_with fail
            with_reducible refine (sees_ok (.pointer (some ⟨P, 0, none⟩)) [P] (fun W => ∃ v, SdAt W P (s.go t) v) (fun _ _ h hb => (by obtain ⟨v, h⟩ := h; exact ⟨v, h.below hb⟩)) x.1.1 x.1.2 t x.2 0 _ (HXO.out.1.below HB.out) HXO.out.2.1 HXO.out.2.2.1.sm HXO.out.2.2.2 rfl (by simpa using hpl) (fun W ho => HXO.out.1.below (belowOnl HB.out ho (by have := HW.out; simp; omega) HB.out.size)) (fun W hb => see_ok P s v t W (HS.out.below hb) HUT.out (puB x.1.2, x.2) HSEE.out (pub_sm HXO.out.2.2.2 HXO.out.2.2.1))).mono ?_
            rintro e w6 ⟨rfl, ho, hs⟩
            replace HB := Lib.hid (belowOnl HB.out ho (by have := HW.out; simp; omega) HB.out.size)
            replace HL := Lib.hid ((HL.out.onlT ho hbl (by decide)).mono (Nat.le_refl _) ho.size)
            replace HM := Lib.hid (HM.out.onl ho (by have := HNE.out; simp; exact fun e => this.1 e.symm))
            replace HA := Lib.hid (HA.out.onl ho (by have := HNE.out; simp; exact fun e => this.2.1 e.symm))
            replace HE := Lib.hid (HE.out.onl ho (by have := HNE.out; simp; exact fun e => this.2.2.1 e.symm))
            have HS6 := Lib.hid hs
            have HN6 : Hid (M < w6.heap.size ∧ A < w6.heap.size ∧ E < w6.heap.size ∧ w.heap.size ≤ w6.heap.size ∧ lb < w6.heap.size) := Lib.hid ⟨HM.out.lt, HA.out.lt, HE.out.lt, HB.out.size, (HL.out.blk rfl).2.2⟩
            clear ho hs hbl hpl
            go_wp2_with fail
            first | (refine ⟨rfl, ⟨⟨_, (⟨HB.out, HB.out.size, by simp⟩ : Kept w.heap.size w (w.heap.size) [] w6), HM.out, HA.out, HL.out⟩, rfl⟩, hK.out _ _ ?_⟩; clear hK K) | (refine ⟨⟨⟨_, (⟨HB.out, HB.out.size, by simp⟩ : Kept w.heap.size w (w.heap.size) [] w6), HM.out, HA.out, HL.out⟩, rfl⟩, hK.out _ _ ?_⟩; clear hK K)
            repeat (first | (go_big_quiet_want; apply quiet_load_bd _ rfl rfl qb; (focus (simp [go_sem]; rfl)); go_big_quiet_on) | go_big_quiet_step (fail))
            refine wpQuiet_nil ?_
            clear r2 r3 r38
            clear _ne
            clear m2 d38 hl3 gM gA
            go_upto_region 38 with fail
            have a2 : w6.cell? ⟨A, 2, none⟩ = some (.int .u64 t) := HA.out.cell 2
            obtain ⟨v6, hs6⟩ := HS6.out
            have HSS := Lib.hid hs6
            have HUN : Hid (t ≤ N') := Lib.hid (by rw [← HN'.out]; omega)
            have HDG2 : Hid (Mdl ((s.go t).go t) pf D N' L) := Lib.hid (HDG.out.go_same HUT.out HUN.out)
            have HSEE2 : Hid (((s.go t).go t).see = some (pf x.1, x.2)) := Lib.hid (by
              obtain ⟨y, ys, hy, hyl, hyd⟩ := HDG2.out.yes HBT.out
              have hxy : y = x := by have := HX.out; rw [hy] at this; exact Option.some.inj this
              subst hxy
              exact see_of_yes hyl HDG2.out.dl HDG2.out.nw hyd)
            clear hs6
            have hbl := HSS.out.blk
            go_wp2_with fail
            clear a2
            obtain ⟨n6, hn6⟩ : ∃ n, n = w6.heap.size := ⟨_, rfl⟩
            with_reducible refine (see_ok2 P (s.go t) v6 t _ HSS.out HUT.out (pf x.1, x.2) HSEE2.out (pf_sm HXO.out.2.2.2 HXO.out.2.2.1)).mono ?_
            rintro e w7 ⟨W5, v7, sp, rfl, hpo, ho, hs5, ho5, ⟨cur5, hc5⟩, hw5⟩
            rw [← hn6] at ho5 hc5 hw5
            replace HB := Lib.hid (belowOnl HB.out ho (by have := HW.out; simp; omega) HB.out.size)
            replace HL := Lib.hid ((HL.out.onlT ho hbl (by decide)).mono (Nat.le_refl _) ho.size)
            replace HM := Lib.hid (HM.out.onl ho (by have := HNE.out; simp; exact fun e => this.1 e.symm))
            replace HA := Lib.hid (HA.out.onl ho (by have := HNE.out; simp; exact fun e => this.2.1 e.symm))
            replace HE := Lib.hid (HE.out.onl ho (by have := HNE.out; simp; exact fun e => this.2.2.1 e.symm))
            have HS7 := Lib.hid hs5
            have HO5 := Lib.hid ho5
            have HC5 := Lib.hid hc5
            have HPO := Lib.hid hpo
            have HL5 : Hid (M < W5.heap.size ∧ A < W5.heap.size ∧ E < W5.heap.size ∧ w.heap.size ≤ W5.heap.size ∧ lb < W5.heap.size) := Lib.hid (by
              have h1 := HN6.out
              omega)
            clear hpo ho hs5 ho5 hc5 hw5 hbl HSS HS6
            go_wp2_with (refine wpList_store_ph (s := sp) (P := pf x.1) rfl _ _ rfl rfl rfl (heap_alloc_new _ _) rfl ?_)
            intro w8 hw8
            have hbx := pboxed hw8.out
            have hb := hbx.1
            replace HB := Lib.hid (below_via HB.out hb)
            replace HM := Lib.hid (HM.out.below hb)
            replace HL := Lib.hid ((HL.out.below hb).mono (Nat.le_refl _) hb.size)
            replace HO5 := Lib.hid (HO5.out.trans (Onl.of hb))
            have HPO8 := Lib.hid (HPO.out.below hb)
            have hhi : w7.heap.size ≤ w8.heap.size := hb.size
            have HQ8 := Lib.hid hbx.2
            clear hw8 hbx hb HPO HA HE
            go_wp2_with (refine wpList_load_px _ rfl rfl HQ8.out (by kernel_rfl) ?_)
            with_reducible refine (spoil sp (pf x.1) W5.heap.size w7.heap.size _ HPO8.out hhi).mono ?_
            rintro e w9 ⟨rfl, hr⟩
            have hl5 := HL5.out
            replace HB := Lib.hid (Rng.below HB.out hr hl5.2.2.2.1 HB.out.size)
            replace HM : Hid (Ro w9 M (MdC D N' (.slice (some ⟨lb, 0, none⟩) L.length lc)) 59) := Lib.hid ((hr.block M HM.out.lt (by omega)).trans HM.out)
            replace HL : Hid (Ox shb 39 65 w.heap.size w9.heap.size w9 (.slice (some ⟨lb, 0, none⟩) L.length lc) L) := Lib.hid ((HL.out.keep (fun q _ _ hq => hr.block q (HL.out.blk hq).2.2 (by have e : lb = q := (by simpa [Value.ownBlock] using hq); omega))).mono (Nat.le_refl _) hr.size)
            have HS9 : Hid (SdAt w9 P ((s.go t).go t) v7) := Lib.hid (HS7.out.onl1 ⟨hr.os.trans HO5.out.os, hr.tape.trans HO5.out.tape, hr.output.trans HO5.out.output, Nat.le_trans HO5.out.size hr.size, fun q hq hn => (hr.block q (Nat.lt_of_lt_of_le hq HO5.out.size) (by omega)).trans (HO5.out.block q hq hn)⟩ HC5.out (by decide))
            clear hr hl5 hhi HPO8 HQ8 HO5 HC5 HS7
            go_wp2_with fail
            go_meet
            case rel => exact ⟨P, N', L, rfl, by have := HLI.out; omega, ⟨HB.out, HW.out.1, HW.out.2, ⟨⟨some ⟨lb, 0, none⟩, L.length, lc⟩, rfl, HM.out, HL.out⟩, ⟨(s.go t).go t, v7, HS9.out, HDG2.out⟩, HOK.out⟩⟩
        case neg =>
        have tw1 : (wh == 1) = false := by simpa using hw1
        clear hw0 hw1
        go_wp2_with fail
        clear tw0 tw1
        with_reducible refine (scopy_ok P s v _ HS.out (by have h1 := HD.out.len_le; have h2 := HLI.out; omega)).mono ?_
        rintro e w5 ⟨Q, vq, rfl, hQ, hsq, hb⟩
        have HSQ := Lib.hid hsq
        have HQW : Hid (w.heap.size ≤ Q ∧ Q ≠ P) := Lib.hid ⟨by have := HB.out.size; omega, by have := HS.out.lt; omega⟩
        replace HB := Lib.hid (below_via HB.out hb)
        replace HM := Lib.hid (HM.out.below hb)
        replace HL := Lib.hid ((HL.out.below hb).mono (Nat.le_refl _) hb.size)
        replace HS := Lib.hid (HS.out.below hb)
        replace HA := Lib.hid (HA.out.below hb)
        replace HE := Lib.hid (HE.out.below hb)
        clear hb hQ hsq
        have m1 : w5.cell? ⟨M, 1, none⟩ = some (.int .u64 N) := HM.out.cell 1
        have gM := HM.out.lt
        go_upto_region 18 with fail
        refine rg4_18 (w0 := w5) (B := w5.heap.size) (n := w5.heap.size) (L := []) (E := fun W => Bx W E sb B) (F := fun _ => True) (by kernel_rfl) (by kernel_rfl) ⟨by go_grown, by go_size, (by simp [go_sem] <;> omega)⟩ HE.out (fun _ _ h hb => h.below hb) trivial (fun _ _ _ _ => trivial) (fun w51 K_w51 E_w51 F_w51 => ?_)
        have _ne : Nonempty (KX (w5.heap.size) w5 (w5.heap.size) [] (fun W => Bx W E sb B)) := ⟨⟨_, K_w51, E_w51⟩⟩
        have qb : ∀ W', (∃ s' : KX (w5.heap.size) w5 (w5.heap.size) [] (fun W => Bx W E sb B), W' = s'.val) → Bx W' E sb B := by rintro _ ⟨s', rfl⟩; exact s'.ex
        repeat (first | (go_big_quiet_want; apply quiet_load_bx _ rfl rfl qb; (focus (simp [go_sem]; rfl)); go_big_quiet_on) | go_big_quiet_step (fail))
        refine wpQuiet_nil ?_
        have r1 : ∀ s : KX (w5.heap.size) w5 (w5.heap.size) [] (fun W => Bx W E sb B), s.val.cell? ⟨M, 1, none⟩ = some (.int .u64 N) := fun s => (s.kept.below.cell (p := ⟨M, 1, none⟩) gM).trans m1
        repeat (first | (go_big_quiet_want; apply quiet_load_bx _ rfl rfl qb; (focus (simp [go_sem]; rfl)); go_big_quiet_on) | go_big_quiet_step (fail))
        refine wpQuiet_nil ?_
        have KH_w51 := Lib.hid K_w51
        have hw_w51 := K_w51.below
        have hz_w51 := K_w51.size
        clear K_w51
        have HE1 := Lib.hid E_w51
        clear E_w51 F_w51
        refine ⟨fun K hK0 => ?_, trivial⟩
        have hK := Lib.hid hK0
        clear hK0
        have hb := KH_w51.out.below
        replace HB := Lib.hid (below_via HB.out hb)
        replace HM := Lib.hid (HM.out.below hb)
        replace HL := Lib.hid ((HL.out.below hb).mono (Nat.le_refl _) hb.size)
        replace HS := Lib.hid (HS.out.below hb)
        replace HA := Lib.hid (HA.out.below hb)
        replace HE := Lib.hid (HE.out.below hb)
        replace HSQ := Lib.hid (HSQ.out.below hb)
        clear hb HE1
        go_wp2_with fail
        with_reducible refine (show_any P s v sb B N _ HS.out (HRD.out.below HB.out) HIB.out HSM.out HD.out.un (by have h1 := HD.out.go HD.out.un; have h2 := h1.len_le; have h3 := HLI.out; omega) (mdl_sm HD.out HOK.out)).mono ?_
        rintro e w6 ⟨no, s6, rfl, hs6, hsm6, ho⟩
        have hbl := HS.out.blk
        replace HB := Lib.hid (belowOnl HB.out ho (by have := HW.out; simp; omega) HB.out.size)
        replace HL := Lib.hid ((HL.out.onlT ho hbl (by decide)).mono (Nat.le_refl _) ho.size)
        replace HM := Lib.hid (HM.out.onl ho (by have := HNE.out; simp; exact fun e => this.1 e.symm))
        replace HA := Lib.hid (HA.out.onl ho (by have := HNE.out; simp; exact fun e => this.2.1 e.symm))
        replace HE := Lib.hid (HE.out.onl ho (by have := HNE.out; simp; exact fun e => this.2.2.1 e.symm))
        replace HSQ := Lib.hid (HSQ.out.other ho hbl HQW.out.2)
        obtain ⟨v6, hs6⟩ := hs6
        replace HS := Lib.hid hs6
        have HSM6 := Lib.hid hsm6
        clear ho hbl hs6 hsm6
        go_wp2_with fail
        first | (refine ⟨rfl, hK.out _ _ ?_⟩; clear hK K) | (refine hK.out _ _ ?_; clear hK K)
        clear r1
        clear _ne
        clear m1 gM
        have m1 : w6.cell? ⟨M, 1, none⟩ = some (.int .u64 N) := HM.out.cell 1
        have gM := HM.out.lt
        obtain ⟨un0, un1⟩ := HD.out.un
        by_cases hmin : 5 ≤ 18446744073709551615 - N
        all_goals
          go_upto_region 19 with fail
          refine rg4_19 (w0 := w6) (B := w6.heap.size) (n := w6.heap.size) (L := []) (E := fun _ => True) (F := fun _ => True) (by kernel_rfl) (by kernel_rfl) ⟨by go_grown, by go_size, (by simp [go_sem] <;> omega)⟩ trivial (fun _ _ _ _ => trivial) trivial (fun _ _ _ _ => trivial) (fun w61 K_w61 E_w61 F_w61 => ?_)
          have _ne : Nonempty (KX (w6.heap.size) w6 (w6.heap.size) [] (fun _ => True)) := ⟨⟨_, K_w61, E_w61⟩⟩
          repeat (go_big_quiet_step (fail))
          refine wpQuiet_nil ?_
          have r1 : ∀ s : KX (w6.heap.size) w6 (w6.heap.size) [] (fun _ => True), s.val.cell? ⟨M, 1, none⟩ = some (.int .u64 N) := fun s => (s.kept.below.cell (p := ⟨M, 1, none⟩) gM).trans m1
          repeat (go_big_quiet_step (fail))
          refine wpQuiet_nil ?_
          repeat (go_big_quiet_step (fail))
          refine wpQuiet_nil ?_
          have KH_w61 := Lib.hid K_w61
          have hw_w61 := K_w61.below
          have hz_w61 := K_w61.size
          clear K_w61
          clear E_w61 F_w61
          refine ⟨fun K hK0 => ?_, trivial⟩
          have hK := Lib.hid hK0
          clear hK0
          have hb := KH_w61.out.below
          replace HB := Lib.hid (below_via HB.out hb)
          replace HM := Lib.hid (HM.out.below hb)
          replace HL := Lib.hid ((HL.out.below hb).mono (Nat.le_refl _) hb.size)
          replace HS := Lib.hid (HS.out.below hb)
          replace HA := Lib.hid (HA.out.below hb)
          replace HE := Lib.hid (HE.out.below hb)
          replace HSQ := Lib.hid (HSQ.out.below hb)
          clear hb
          go_wp2_with fail
          with_reducible refine (see_any P s6 v6 _ _ HS.out (by unfold U; omega) HSM6.out).mono ?_
          rintro e w7 ⟨X, at', no7, sp, rfl, ho⟩
          have hbl := HS.out.blk
          replace HB := Lib.hid (belowOnl HB.out ho (by have := HW.out; simp; omega) HB.out.size)
          replace HL := Lib.hid ((HL.out.onlT ho hbl (by decide)).mono (Nat.le_refl _) ho.size)
          replace HM := Lib.hid (HM.out.onl ho (by have := HNE.out; simp; exact fun e => this.1 e.symm))
          replace HA := Lib.hid (HA.out.onl ho (by have := HNE.out; simp; exact fun e => this.2.1 e.symm))
          replace HE := Lib.hid (HE.out.onl ho (by have := HNE.out; simp; exact fun e => this.2.2.1 e.symm))
          replace HSQ := Lib.hid (HSQ.out.other ho hbl HQW.out.2)
          clear ho hbl HS
          go_wp2_with fail
          first | (refine ⟨rfl, hK.out _ _ ?_⟩; clear hK K) | (refine hK.out _ _ ?_; clear hK K)
          clear r1
          clear _ne
          go_wp2_with fail
          go_meet
          case rel => exact ⟨Q, N, L, rfl, by have := HLI.out; omega, ⟨HB.out, HW.out.1, HQW.out.1, ⟨⟨la, L.length, lc⟩, rfl, HM.out, HL.out⟩, ⟨s, vq, HSQ.out, HD.out⟩, HOK.out⟩⟩
      case rest =>
        obtain ⟨P2, N2, L2, rfl, hL2, hP2⟩ := hcut
        have HL2 := Lib.hid hL2
        replace HP := Lib.hid hP2
        obtain ⟨⟨la, ln, lc⟩, hlv, hm, hlx⟩ := HP.out.md
        replace hlv : ln = L2.length := hlv
        subst hlv
        obtain ⟨s, v, hsd, hmd⟩ := HP.out.sd
        obtain ⟨b, hbst⟩ := Bst.ex D N2 L2
        obtain ⟨Kc, hK⟩ : ∃ K : Int, (L2.length : Int) - max 0 b = K := ⟨_, rfl⟩
        have HSS := Lib.hid hsd
        have HD := Lib.hid hmd
        have HBT := Lib.hid hbst
        have HKK := Lib.hid hK
        have HMM : Hid (Ro wc M (MdC D N2 (.slice la L2.length lc)) 59) := Lib.hid hm
        have HLL : Hid (Rw shb 39 wc (.slice la L2.length lc) L2) := Lib.hid (hlx.rw (fun x _ => (shb_ok x).1))
        have u1 : (s.nw != N2) = false := by rw [hmd.nw]; simp
        have u2 : ((s.l.length : Int) != Kc) = false := by rw [hmd.len hbst, hK]; simp
        have m1 : wc.cell? ⟨M, 1, none⟩ = some (.int .u64 N2) := hm.cell 1
        have gM : M < wc.heap.size := hm.lt
        have h60 : L2.length ≤ 1000 := by have := HNN.out; omega
        clear hL2 hP2 hsd hmd hbst hK hm hlx HA HE
        go_upto_region 40 with fail
        refine rg4_40 (w0 := wc) (B := wc.heap.size) (n := wc.heap.size) (L := []) (E := fun _ => True) (F := fun _ => True) (by kernel_rfl) (by kernel_rfl) ⟨by go_grown, by go_size, (by simp [go_sem] <;> omega)⟩ trivial (fun _ _ _ _ => trivial) trivial (fun _ _ _ _ => trivial) (fun w81 K_w81 E_w81 F_w81 => ?_)
        have _ne : Nonempty (KX (wc.heap.size) wc (wc.heap.size) [] (fun _ => True)) := ⟨⟨_, K_w81, E_w81⟩⟩
        repeat (go_big_quiet_step (fail))
        refine wpQuiet_nil ?_
        have r1 : ∀ s : KX (wc.heap.size) wc (wc.heap.size) [] (fun _ => True), s.val.cell? ⟨M, 1, none⟩ = some (.int .u64 N2) := fun s => (s.kept.below.cell (p := ⟨M, 1, none⟩) gM).trans m1
        repeat (go_big_quiet_step (fail))
        refine wpQuiet_nil ?_
        have KH_w81 := Lib.hid K_w81
        have hw_w81 := K_w81.below
        have hz_w81 := K_w81.size
        clear K_w81
        clear E_w81 F_w81
        refine ⟨fun K hK0 => ?_, trivial⟩
        have hK := Lib.hid hK0
        clear hK0
        have HW40 : Hid (Below wc.heap.size wc w81) := Lib.hid KH_w81.out.below
        go_wp2_with fail
        with_reducible refine (now_ok P2 s v _ (HSS.out.below HW40.out)).mono ?_
        rintro e w99 ⟨rfl, rfl⟩
        go_wp2_with fail
        first | (refine ⟨rfl, ⟨⟨_, (⟨HW40.out, HW40.out.size, by simp⟩ : Kept wc.heap.size wc (wc.heap.size) [] w81), trivial⟩, rfl⟩, hK.out _ _ ?_⟩; clear hK K) | (refine ⟨⟨⟨_, (⟨HW40.out, HW40.out.size, by simp⟩ : Kept wc.heap.size wc (wc.heap.size) [] w81), trivial⟩, rfl⟩, hK.out _ _ ?_⟩; clear hK K)
        repeat (go_big_quiet_step (fail))
        refine wpQuiet_nil ?_
        refine ⟨fun K hK0 => ?_, trivial⟩
        have hK := Lib.hid hK0
        clear hK0
        go_wp2_with fail
        with_reducible refine (kept_ok P2 s v _ (HSS.out.below HW40.out)).mono ?_
        rintro e w99 ⟨rfl, rfl⟩
        go_wp2_with fail
        first | (refine ⟨rfl, ⟨⟨_, (⟨HW40.out, HW40.out.size, by simp⟩ : Kept wc.heap.size wc (wc.heap.size) [] w81), trivial⟩, rfl⟩, hK.out _ _ ?_⟩; clear hK K) | (refine ⟨⟨⟨_, (⟨HW40.out, HW40.out.size, by simp⟩ : Kept wc.heap.size wc (wc.heap.size) [] w81), trivial⟩, rfl⟩, hK.out _ _ ?_⟩; clear hK K)
        refine ⟨fun K hK0 => ?_, trivial⟩
        have hK := Lib.hid hK0
        clear hK0
        go_wp2_with fail
        with_reducible refine (lkeptc M D N2 b Kc la lc L2 _ (HMM.out.below HW40.out) (HLL.out.below HW40.out) HDB.out HD.out.un HD.out.us h60 HBT.out HKK.out).mono ?_
        rintro e w98 ⟨rfl, hb⟩
        replace HW40 := Lib.hid (below_via HW40.out hb)
        clear hb
        go_wp2_with fail
        first | (refine ⟨rfl, ⟨⟨_, (⟨HW40.out, HW40.out.size, by simp⟩ : Kept wc.heap.size wc (wc.heap.size) [] w98), trivial⟩, rfl⟩, hK.out _ _ ?_⟩; clear hK K) | (refine ⟨⟨⟨_, (⟨HW40.out, HW40.out.size, by simp⟩ : Kept wc.heap.size wc (wc.heap.size) [] w98), trivial⟩, rfl⟩, hK.out _ _ ?_⟩; clear hK K)
        repeat (go_big_quiet_step (fail))
        refine wpQuiet_nil ?_
        clear r1
        clear _ne
        replace HP := Lib.hid (HP.out.step HW40.out)
        clear u1 u2 m1 gM
        go_wp2_with fail
        go_roundw
        case rel => exact ⟨i + 1, by omega, by go_num, P2, N2, L2, rfl, HL2.out, HP.out⟩
        case measure => simp [intOf]; omega
    · obtain rfl : i = ls.length := by omega
      have HB := Lib.hid HP.out.below
      go_wp2_with fail
      with_reducible refine (known _).mono ?_
      rintro e w99 ⟨rfl, hb⟩
      replace HB := Lib.hid (below_via HB.out hb)
      clear hb
      go_wp2_with fail
      go_returns
      exact ⟨rfl, HB.out⟩
end Go.Proofs.Yteoeahmnonolmaa
namespace Go.Proofs.Yteoeahmnonolmaa
open Go.RowKit Plain Go.ChangeShapes Go.WideShapes Go.ChangeAt Go.WideMaps Go.WideElems
set_option linter.unusedVariables false
set_option linter.unusedSimpArgs false

section
variable {H : Type} {enc : TypeId × Value → H} {w : World} {base : Nat} {spare : Nat → Bool} {held : Bool}
theorem u64_at {m o T : Nat} {cs : List Value} (ht : Try.prog.underlying T = some (.int .u64)) (hc : Try.prog.cellsOf T = 1) (h : ∃ y, DataW.trod enc Try.prog w base spare held m T (List.take (Try.prog.cellsOf T) (List.drop o cs)) = some y) : ∃ z, cs[o]? = some (.int .u64 z) ∧ U z := by
  obtain ⟨y, h⟩ := h
  obtain ⟨z, e, _, hw⟩ := DataW.trod_int ht h
  rw [hc] at e
  refine ⟨z, by have := cut_at e (show 0 < 1 by decide); simpa using this, ?_⟩
  simp [Lit.wf, IntKind.min, IntKind.max, IntKind.signed, IntKind.bits] at hw
  unfold U
  omega
set_option maxRecDepth 100000 in
theorem ac_cs {m : Nat} {cs : List Value} {x : DataW H × List MemPlace} (h : DataW.trod enc Try.prog w base spare held m 61 cs = some x) : ∃ a : Ac, cs = acl a ∧ (Plain.I a.wh ∧ Plain.I a.bd ∧ U a.t) := by
  obtain ⟨hl, m, hf⟩ := sfld Try.underlying61 h
  obtain ⟨z0, e0, i0⟩ := int_at Try.underlying3 (by kernel_rfl) (hf 0 _ rfl)
  obtain ⟨z1, e1, i1⟩ := int_at Try.underlying3 (by kernel_rfl) (hf 1 _ rfl)
  obtain ⟨z2, e2, i2⟩ := u64_at Try.underlying43 (by kernel_rfl) (hf 2 _ rfl)
  exact ⟨⟨z0, z1, z2⟩, eq_of_at (hl.trans (by kernel_rfl)) (fun i hi => by
    match i, hi with
    | 0, _ => exact e0
    | 1, _ => exact e1
    | 2, _ => exact e2
    | (q + 3), h => exact absurd (show q + 3 < 3 from h) (by omega)), i0, i1, i2⟩
theorem bdl_len (x : Bs × Bd) : (bdl x).length = 38 := rfl
theorem open_boards {a : Option Addr} {len cap : Nat} {d : DataW H} {p : List MemPlace} (h : DataW.Trod enc Try.prog w base spare held 54 (.slice a len cap) d p) : ∃ l : List (Bs × Bd), (Rw bdl 38 w (.slice a l.length cap) l ∧ ∀ x ∈ l, BdR w x.1 x.2 ∧ x.2.I) ∧ l.length = len := by
  obtain ⟨fuel, hf⟩ := h
  obtain ⟨s, l, e, r, q⟩ := rows_at (f := bdl) (sz := 38) (Q := fun x => BdR w x.1 x.2 ∧ x.2.I) (o := 0) (cs := [.slice a len cap]) Try.underlying54 (by kernel_rfl) (by kernel_rfl) (by decide) bdl_len (fun m cs y h => by
    obtain ⟨x, e, h1⟩ := bd_cs h
    exact ⟨x, e, h1⟩) ⟨_, by rw [show Try.prog.cellsOf 54 = 1 by kernel_rfl]; exact hf⟩
  have es : s.v = .slice a len cap := by simpa using e.symm
  rw [es] at r
  obtain ⟨_, a2, c2, e2, _⟩ := r.form
  have hl : l.length = len := by simp at e2; exact e2.2.1.symm
  exact ⟨l, ⟨by rw [hl]; exact r, q⟩, hl⟩
theorem open_acts {a : Option Addr} {len cap : Nat} {d : DataW H} {p : List MemPlace} (h : DataW.Trod enc Try.prog w base spare held 55 (.slice a len cap) d p) : ∃ l : List Ac, (Rw acl 3 w (.slice a l.length cap) l ∧ ∀ x ∈ l, Plain.I x.wh ∧ Plain.I x.bd ∧ U x.t) ∧ l.length = len := by
  obtain ⟨fuel, hf⟩ := h
  obtain ⟨s, l, e, r, q⟩ := rows_at (f := acl) (sz := 3) (Q := fun x => Plain.I x.wh ∧ Plain.I x.bd ∧ U x.t) (o := 0) (cs := [.slice a len cap]) Try.underlying55 (by kernel_rfl) (by kernel_rfl) (by decide) (fun _ => rfl) (fun m cs y h => ac_cs h) ⟨_, by rw [show Try.prog.cellsOf 55 = 1 by kernel_rfl]; exact hf⟩
  have es : s.v = .slice a len cap := by simpa using e.symm
  rw [es] at r
  obtain ⟨_, a2, c2, e2, _⟩ := r.form
  have hl : l.length = len := by simp at e2; exact e2.2.1.symm
  exact ⟨l, ⟨by rw [hl]; exact r, q⟩, hl⟩
end
end Go.Proofs.Yteoeahmnonolmaa
