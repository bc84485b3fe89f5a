/- The zones of a seat in memory; what a place has. -/
import Derived.Test.YteoeahmnonolmaaBMp
import Derived.Deep.DeepCutAuto
import Derived.LoopTactic
namespace Go.Proofs.Yteoeahmnonolmaa
open Go.RowKit Plain
set_option linter.unusedVariables false
set_option linter.unusedSimpArgs false

def ptr4 (P off : Nat) : Value := .agg #[.pointer (some ⟨P, off + 5, none⟩), .pointer (some ⟨P, off + 6, none⟩), .pointer (some ⟨P, off + 7, none⟩), .pointer (some ⟨P, off + 8, none⟩)]
theorem idx4 (P off : Nat) {z : Nat} (h : z < 4) (w : World) : (Instr.index 113 (ptr4 P off) (.int .i64 (z : Nat))).run Try.prog w = .ok (.pointer (some ⟨P, off + 5 + z, none⟩)) w := by
  have : z = 0 ∨ z = 1 ∨ z = 2 ∨ z = 3 := by omega
  rcases this with rfl | rfl | rfl | rfl
  · have e : (Instr.index 113 (ptr4 P off) (.int .i64 0)).run Try.prog w = .ok (.pointer (some ⟨P, off + 5, none⟩)) w := by kernel_rfl
    exact e
  · have e : (Instr.index 113 (ptr4 P off) (.int .i64 1)).run Try.prog w = .ok (.pointer (some ⟨P, off + 6, none⟩)) w := by kernel_rfl
    exact e
  · have e : (Instr.index 113 (ptr4 P off) (.int .i64 2)).run Try.prog w = .ok (.pointer (some ⟨P, off + 7, none⟩)) w := by kernel_rfl
    exact e
  · have e : (Instr.index 113 (ptr4 P off) (.int .i64 3)).run Try.prog w = .ok (.pointer (some ⟨P, off + 8, none⟩)) w := by kernel_rfl
    exact e
/-- the slices of the zones -/
def Bs.zl (s : Bs) (p z : Nat) : Sl := if p = 0 then (if z = 0 then s.l0 else if z = 1 then s.h0 else if z = 2 then s.f0 else s.g0) else (if z = 0 then s.l1 else if z = 1 then s.h1 else if z = 2 then s.f1 else s.g1)
theorem Bx.zone {w : World} {P : Nat} {s : Bs} {B : Bd} (h : Bx w P s B) {p z : Nat} (hp : p < 2) (hz : z < 4) : w.cell? ⟨P, 1 + p * 14 + 5 + z, none⟩ = some (.slice (s.zl p z).a (s.zl p z).n (s.zl p z).c) := by
  rw [h.cell]
  have h1 : p = 0 ∨ p = 1 := by omega
  have h2 : z = 0 ∨ z = 1 ∨ z = 2 ∨ z = 3 := by omega
  rcases h1 with rfl | rfl <;> rcases h2 with rfl | rfl | rfl | rfl <;> rfl
theorem BdR.zone {w : World} {s : Bs} {B : Bd} (h : BdR w s B) (p z : Nat) : Rw ic 1 w (s.zl p z).v ((B.seat p).zs z) := by
  unfold Bs.zl Bd.seat Se.zs
  split <;> (split; rotate_left; split; rotate_left; split)
  · exact h.s0.f
  · exact h.s0.g
  · exact h.s0.l
  · exact h.s0.h
  · exact h.s1.f
  · exact h.s1.g
  · exact h.s1.l
  · exact h.s1.h
theorem rg47_1 {P : Program} {B n : Nat} {w0 : World} {L : List (Nat × Nat × Value)} {E F : World → Prop} {id : Nat} {Q : Exit → Act → World → Prop} {a : Act} {w : World} {o0 o1 o2 o3 o4 o5 o6 o7 o8 o9 o10 o11 o12 o13 : Oper} (hm : P.follows .mixedOrders = true)
    (hB : (Region.noSelect [o0, o1, o2, o3, o4, o5, o6, o7, o8, o9, o10, o11, o12, o13].toArray && Scr.ok .any [o0, o1, o2, o3, o4, o5, o6, o7, o8, o9, o10, o11, o12, o13].toArray [] [0, 1, 2, 3, 4, 5, 6, 7, 8, 9, 10, 11, 12] (.free 0 (.free 1 (.free 2 (.free 3 (.free 4 (.free 5 (.free 6 (.free 7 (.free 8 (.free 9 (.free 10 (.free 11 (.free 12 (.altc 13 .done .stop)))))))))))))) true true [o0, o1, o2, o3, o4, o5, o6, o7, o8, o9, o10, o11, o12, o13].toArray.size (Array.replicate [o0, o1, o2, o3, o4, o5, o6, o7, o8, o9, o10, o11, o12, o13].toArray.size false)) = true)
    (k : Kept B w0 n L w) (he : E w) (hE : ∀ W W', E W → Below W.heap.size W W' → E W') (hf : F w) (hF : ∀ W W', F W → Below W.heap.size W W' → F W')
    (h : ∀ wk, Kept B w0 n L wk → E wk → F wk → wpQuiet P [o0, o1, o2, o3, o4, o5, o6, o7, o8, o9, o10, o11, o12, o13].toArray (fun _ => True) (fun a0 => ((∀ K1 : Act → World → Prop, (∀ a1 w1, Q .normal a1 w1 → K1 a1 w1) → wpList P [o0, o1, o2, o3, o4, o5, o6, o7, o8, o9, o10, o11, o12, o13].toArray (fun e a1 w1 => e = .normal ∧ K1 a1 w1) [o13] a0 wk) ∧ True)) [o0, o1, o2, o3, o4, o5, o6, o7, o8, o9, o10, o11, o12] a) : (Code.region id [o0, o1, o2, o3, o4, o5, o6, o7, o8, o9, o10, o11, o12, o13].toArray true).wp P Q a w := by
  have e1 : E w.drew := hE _ _ he ((Below.refl _ _).drew)
  have g := h _ k.drew e1 (hF _ _ hf ((Below.refl _ _).drew))
  exact wp_region_scr (U := (fun w' => ∃ s : KX B w0 n L E, w' = s.val)) (ops := [o0, o1, o2, o3, o4, o5, o6, o7, o8, o9, o10, o11, o12, o13].toArray) (.free 0 (.free 1 (.free 2 (.free 3 (.free 4 (.free 5 (.free 6 (.free 7 (.free 8 (.free 9 (.free 10 (.free 11 (.free 12 (.altc 13 .done .stop)))))))))))))) [] [0, 1, 2, 3, 4, 5, 6, 7, 8, 9, 10, 11, 12] hm hB ⟨⟨_, k.drew, e1⟩, rfl⟩ (Scr.of_free rfl g (fun _ g0 => Scr.of_free rfl g0 (fun _ g1 => Scr.of_free rfl g1 (fun _ g2 => Scr.of_free rfl g2 (fun _ g3 => Scr.of_free rfl g3 (fun _ g4 => Scr.of_free rfl g4 (fun _ g5 => Scr.of_free rfl g5 (fun _ g6 => Scr.of_free rfl g6 (fun _ g7 => Scr.of_free rfl g7 (fun _ g8 => Scr.of_free rfl g8 (fun _ g9 => Scr.of_free rfl g9 (fun _ g10 => Scr.of_free rfl g10 (fun _ g11 => Scr.of_free rfl g11 (fun _ g12 => (Scr.of_altc rfl (g12.1 _ (fun _ _ g => g)) (fun _ _ g13 => g13) trivial)))))))))))))))
set_option maxRecDepth 100000 in
set_option maxHeartbeats 4000000 in
theorem lists (P off : Nat) (w : World) : Calls Try.prog 47 #[.pointer (some ⟨P, off, none⟩)] w fun e w' => e = .returned (ptr4 P off) ∧ Below w.heap.size w w' := by
  go_enter Try.func47, Try.ntmps47
  go_wp2_with fail
  refine rg47_1 (w0 := w) (B := w.heap.size) (n := w.heap.size + 1) (L := [(w.heap.size, 0, .pointer none), (w.heap.size, 1, .pointer none), (w.heap.size, 2, .pointer none), (w.heap.size, 3, .pointer none)]) (E := fun _ => True) (F := fun _ => True) (by kernel_rfl) (by kernel_rfl) ⟨by go_grown, by go_size, (by simp [go_sem] <;> omega)⟩ trivial (fun _ _ _ _ => trivial) trivial (fun _ _ _ _ => trivial) (fun w1 K_w1 E_w1 F_w1 => ?_)
  have _ne : Nonempty (KX (w.heap.size) w (w.heap.size + 1) [(w.heap.size, 0, .pointer none), (w.heap.size, 1, .pointer none), (w.heap.size, 2, .pointer none), (w.heap.size, 3, .pointer none)] (fun _ => True)) := ⟨⟨_, K_w1, E_w1⟩⟩
  repeat (go_big_quiet_step (fail))
  refine wpQuiet_nil ?_
  have KH_w1 := Lib.hid K_w1
  have hw_w1 := K_w1.below
  have hz_w1 := K_w1.size
  have lR_w1 : w.heap.size < w1.heap.size := by omega
  clear K_w1
  clear E_w1 F_w1
  refine ⟨fun K hK0 => ?_, trivial⟩
  have hK := Lib.hid hK0
  clear hK0
  have cR0_w1 := KH_w1.out.at (b := w.heap.size) (o := 0) (v := .pointer none) (by simp)
  have fR0_w1 := KH_w1.out.free (b := w.heap.size) (o := 0) (v := .pointer none) (by simp)
  have cR1_w1 := KH_w1.out.at (b := w.heap.size) (o := 1) (v := .pointer none) (by simp)
  have fR1_w1 := KH_w1.out.free (b := w.heap.size) (o := 1) (v := .pointer none) (by simp)
  have cR2_w1 := KH_w1.out.at (b := w.heap.size) (o := 2) (v := .pointer none) (by simp)
  have fR2_w1 := KH_w1.out.free (b := w.heap.size) (o := 2) (v := .pointer none) (by simp)
  have cR3_w1 := KH_w1.out.at (b := w.heap.size) (o := 3) (v := .pointer none) (by simp)
  have fR3_w1 := KH_w1.out.free (b := w.heap.size) (o := 3) (v := .pointer none) (by simp)
  go_wp2_with fail
  first | (refine ⟨rfl, hK.out _ _ ?_⟩; clear hK K) | (refine hK.out _ _ ?_; clear hK K)
  clear _ne
  go_wp2_with fail
  exact bodyPost_ret (v := ptr4 P off) (by simp [results, Try.results47, go_sem, ptr4, lR_w1, cR0_w1, fR0_w1, cR1_w1, fR1_w1, cR2_w1, fR2_w1, cR3_w1, fR3_w1]) rfl ⟨rfl, by go_grown⟩

end Go.Proofs.Yteoeahmnonolmaa
