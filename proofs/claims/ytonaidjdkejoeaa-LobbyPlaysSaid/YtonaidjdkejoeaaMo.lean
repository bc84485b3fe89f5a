/- The model of a lobby; a lobby that looks like it. -/
import Derived.Test.YtonaidjdkejoeaaKn
import Derived.Test.YtonaidjdkejoeaaPlB
import Derived.LoopTactic
namespace Go.Proofs.Ytonaidjdkejoeaa
open Go.RowKit Plain
set_option linter.unusedVariables false
set_option linter.unusedSimpArgs false

/-- block M is the model x, whose players lie in the slice v -/
structure ModAt (w : World) (M : Nat) (x : Lb) (v : Value) : Prop where
  blk : w.heap[M]? = some (.cells (lbc x v) 43 (0, 0))
  row : Ow plc 3 76 w 0 v x.l
theorem ModAt.rw {W : World} {P : Nat} {x : Lb} {v : Value} (h : ModAt W P x v) : Rw plc 3 W v x.l := h.row.rw (fun p _ => (plc_ok p).1)
theorem ModAt.lt {W : World} {P : Nat} {x : Lb} {v : Value} (h : ModAt W P x v) : P < W.heap.size := (Array.getElem?_eq_some_iff.1 h.blk).1
theorem ModAt.cell {W : World} {P : Nat} {x : Lb} {v : Value} (h : ModAt W P x v) (i : Nat) : W.cell? ⟨P, i, none⟩ = (lbc x v)[i]? := cell_of_row W P i _ 43 (0, 0) h.blk
theorem ModAt.free {W : World} {P : Nat} {x : Lb} {v : Value} (h : ModAt W P x v) (i : Nat) : W.frozen? ⟨P, i, none⟩ = false := frozen_of_row W P i _ 43 h.blk
theorem ModAt.below {W W' : World} {P : Nat} {x : Lb} {v : Value} (h : ModAt W P x v) (hb : Below W.heap.size W W') : ModAt W' P x v := ⟨(hb.block P h.lt).trans h.blk, h.row.below hb⟩
theorem ModAt.onl {W W' : World} {S : List Nat} {P : Nat} {x : Lb} {v : Value} (h : ModAt W P x v) (ho : Onl S W W') (hP : P ∉ S) (hv : ∀ b, v.ownBlock = some b → b ∉ S) : ModAt W' P x v := ⟨(ho.block P h.lt hP).trans h.blk, h.row.onl ho hv⟩
theorem rg28_3 {P : Program} {B n : Nat} {w0 : World} {L : List (Nat × Nat × Value)} {E F : World → Prop} {id : Nat} {Q : Exit → Act → World → Prop} {a : Act} {w : World} {o0 o1 o2 o3 o4 o5 o6 o7 o8 o9 o10 o11 o12 o13 o14 o15 o16 o17 o18 o19 o20 : Oper} (hm : P.follows .mixedOrders = true)
    (hB : (Region.noSelect [o0, o1, o2, o3, o4, o5, o6, o7, o8, o9, o10, o11, o12, o13, o14, o15, o16, o17, o18, o19, o20].toArray && Scr.ok .any [o0, o1, o2, o3, o4, o5, o6, o7, o8, o9, o10, o11, o12, o13, o14, o15, o16, o17, o18, o19, o20].toArray [4, 6, 18] [0, 1, 2, 3, 5, 7, 8, 9, 10, 11, 12, 13, 14, 15, 16, 17, 19, 20] (.free 0 (.free 1 (.free 2 (.free 3 (.free 5 (.read 4 (.read 6 (.free 7 (.free 8 (.free 9 (.free 10 (.free 11 (.free 12 (.free 13 (.free 14 (.free 15 (.free 16 (.free 17 (.read 18 (.free 19 (.free 20 .done))))))))))))))))))))) true true [o0, o1, o2, o3, o4, o5, o6, o7, o8, o9, o10, o11, o12, o13, o14, o15, o16, o17, o18, o19, o20].toArray.size (Array.replicate [o0, o1, o2, o3, o4, o5, o6, o7, o8, o9, o10, o11, o12, o13, o14, o15, o16, o17, o18, o19, o20].toArray.size false)) = true)
    (k : Kept B w0 n L w) (he : E w) (hE : ∀ W W', E W → Below W.heap.size W W' → E W') (hf : F w) (hF : ∀ W W', F W → Below W.heap.size W W' → F W')
    (h : ∀ wk, Kept B w0 n L wk → E wk → F wk → wpQuiet P [o0, o1, o2, o3, o4, o5, o6, o7, o8, o9, o10, o11, o12, o13, o14, o15, o16, o17, o18, o19, o20].toArray (fun _ => True) (fun a0 => wpQuiet P [o0, o1, o2, o3, o4, o5, o6, o7, o8, o9, o10, o11, o12, o13, o14, o15, o16, o17, o18, o19, o20].toArray (fun w' => ∃ s : KX B w0 n L E, w' = s.val) (fun a1 => wpQuiet P [o0, o1, o2, o3, o4, o5, o6, o7, o8, o9, o10, o11, o12, o13, o14, o15, o16, o17, o18, o19, o20].toArray (fun _ => True) (fun a2 => wpQuiet P [o0, o1, o2, o3, o4, o5, o6, o7, o8, o9, o10, o11, o12, o13, o14, o15, o16, o17, o18, o19, o20].toArray (fun w' => ∃ s : KX B w0 n L E, w' = s.val) (fun a3 => wpQuiet P [o0, o1, o2, o3, o4, o5, o6, o7, o8, o9, o10, o11, o12, o13, o14, o15, o16, o17, o18, o19, o20].toArray (fun _ => True) (fun a4 => Q .normal a4 wk) [o19, o20] a3) [o18] a2) [o7, o8, o9, o10, o11, o12, o13, o14, o15, o16, o17] a1) [o4, o6] a0) [o0, o1, o2, o3, o5] a) : (Code.region id [o0, o1, o2, o3, o4, o5, o6, o7, o8, o9, o10, o11, o12, o13, o14, o15, o16, o17, o18, o19, o20].toArray true).wp P Q a w := by
  have e1 : E w.drew := hE _ _ he ((Below.refl _ _).drew)
  have g := h _ k.drew e1 (hF _ _ hf ((Below.refl _ _).drew))
  exact wp_region_scr (U := (fun w' => ∃ s : KX B w0 n L E, w' = s.val)) (ops := [o0, o1, o2, o3, o4, o5, o6, o7, o8, o9, o10, o11, o12, o13, o14, o15, o16, o17, o18, o19, o20].toArray) (.free 0 (.free 1 (.free 2 (.free 3 (.free 5 (.read 4 (.read 6 (.free 7 (.free 8 (.free 9 (.free 10 (.free 11 (.free 12 (.free 13 (.free 14 (.free 15 (.free 16 (.free 17 (.read 18 (.free 19 (.free 20 .done))))))))))))))))))))) [4, 6, 18] [0, 1, 2, 3, 5, 7, 8, 9, 10, 11, 12, 13, 14, 15, 16, 17, 19, 20] hm hB ⟨⟨_, k.drew, e1⟩, rfl⟩ (Scr.of_free rfl g (fun _ g0 => Scr.of_free rfl g0 (fun _ g1 => Scr.of_free rfl g1 (fun _ g2 => Scr.of_free rfl g2 (fun _ g3 => Scr.of_free rfl g3 (fun _ g4 => Scr.of_read rfl g4 (fun _ g5 => Scr.of_read rfl g5 (fun _ g6 => Scr.of_free rfl g6 (fun _ g7 => Scr.of_free rfl g7 (fun _ g8 => Scr.of_free rfl g8 (fun _ g9 => Scr.of_free rfl g9 (fun _ g10 => Scr.of_free rfl g10 (fun _ g11 => Scr.of_free rfl g11 (fun _ g12 => Scr.of_free rfl g12 (fun _ g13 => Scr.of_free rfl g13 (fun _ g14 => Scr.of_free rfl g14 (fun _ g15 => Scr.of_free rfl g15 (fun _ g16 => Scr.of_free rfl g16 (fun _ g17 => Scr.of_read rfl g17 (fun _ g18 => Scr.of_free rfl g18 (fun _ g19 => Scr.of_free rfl g19 (fun _ g20 => g20))))))))))))))))))))))
def MwRel (w : World) (x : Lb) (p : Pl) (d : Nat) (n t : Value) (wr : World) : Prop := ∃ k : Nat, t = .int .u64 k ∧ n = .int .i64 (x.ba + x.st * k) ∧ k ≤ d ∧ (k = 0 ∨ (1 ≤ x.st ∧ x.ba + x.st * ((k : Int) - 1) < 4000)) ∧ Kept w.heap.size w (w.heap.size + 1) [(w.heap.size, 0, .int .i64 p.id), (w.heap.size, 1, .int .i64 p.ra), (w.heap.size, 2, .int .u64 p.si)] wr
set_option maxRecDepth 100000 in
set_option maxHeartbeats 4000000 in
theorem mwindow28 (M : Nat) (x : Lb) (v : Value) (p : Pl) (w : World) (hl : ModAt w M x v) (ok : x.Ok) (hp : p.Ok x.now) : Calls Try.prog 28 #[.pointer (some ⟨M, 0, none⟩), .agg #[.int .i64 p.id, .int .i64 p.ra, .int .u64 p.si]] w fun e w' => e = .returned (.int .i64 (x.w p)) ∧ Below w.heap.size w w' := by
  have hM := hl.lt
  have C0 : w.cell? ⟨M, 0, none⟩ = some (.int .i64 x.ba) := hl.cell 0
  have C1 : w.cell? ⟨M, 1, none⟩ = some (.int .i64 x.st) := hl.cell 1
  have C3 : w.cell? ⟨M, 3, none⟩ = some (.int .u64 x.now) := hl.cell 3
  obtain ⟨d, hd⟩ : ∃ d : Nat, (d : Int) = x.now - p.si := ⟨(x.now - p.si).toNat, by have := hp.s1; omega⟩
  have hdb : (d : Int) ≤ 18446744073709551615 := by have := hp.s0; have := ok.n.2; omega
  have b0 := ok.b0
  have b1 := ok.b1
  have s0 := ok.t0
  have s1 := ok.t1
  have q1 : IntKind.u64.wrap (x.now - p.si) = (d : Int) := by
    rw [← hd]
    simp [IntKind.wrap, IntKind.signed, IntKind.bits]
    omega
  have HD : Hid (since x.now p.si = d) := Lib.hid (by rw [hd]; unfold since; have := hp.s1; omega)
  have hsi : p.si ≤ x.now := hp.s1
  clear hl hp hd
  go_enter Try.func28, Try.ntmps28
  go_wp2_with fail
  go_loopw [5, 6] (fun n t wr => MwRel w x p d n t wr) (fun _ t _ => 4001 - (intOf t).toNat)
  case atStart => exact ⟨0, rfl, by simp, Nat.zero_le _, .inl rfl, ⟨by go_grown, by go_size, by simp [go_sem]⟩⟩
  case round =>
    obtain ⟨k, rfl, rfl, hk, hinv, hK⟩ := hrel
    have KH_wr := Lib.hid hK
    have hw_wr := hK.below
    have hz_wr := hK.size
    have HW : Hid (d ≤ k ∨ 4000 ≤ x.ba + x.st * k ∨ x.st ≤ 0 → min (x.ba + x.st * k) 4000 = x.w p) := Lib.hid (fun h => by
      unfold Lb.w wnd
      rw [HD.out]
      exact wnd_end b0 s0 hk hinv h)
    obtain ⟨m, hm⟩ : ∃ m, x.st * (k : Int) = m := ⟨_, rfl⟩
    have hkb : k = 0 ∨ (k : Int) - 1 < 4000 := by
      rcases hinv with h | ⟨h1, h2⟩
      · exact .inl h
      · rcases Nat.eq_zero_or_pos k with h3 | h3
        · exact .inl h3
        · have h4 : 1 * ((k : Int) - 1) ≤ x.st * ((k : Int) - 1) := Int.mul_le_mul_of_nonneg_right h1 (by omega)
          exact .inr (by omega)
    have hmb : 0 ≤ m ∧ m ≤ 400100 := by
      rw [← hm]
      refine ⟨Int.mul_nonneg s0 (by omega), ?_⟩
      have h4 : x.st * (k : Int) ≤ 100 * (k : Int) := Int.mul_le_mul_of_nonneg_right s1 (by omega)
      omega
    obtain ⟨hm0, hm1⟩ := hmb
    have HM1 : Hid (x.st * ((k + 1 : Nat) : Int) = m + x.st) := Lib.hid (by rw [show ((k + 1 : Nat) : Int) = (k : Int) + 1 by omega, Int.mul_add, hm, Int.mul_one])
    have HME := Lib.hid hm
    rw [hm]
    rw [hm] at HW
    have HM2 : Hid (x.ba + m < 4000 → x.ba + x.st * (((k + 1 : Nat) : Int) - 1) < 4000) := Lib.hid (fun h => by
      have e : (((k + 1 : Nat) : Int) - 1) = k := by omega
      rw [e, hm]
      exact h)
    clear hK hinv hm
    by_cases c1 : k < d
    · have t1 : decide ((k : Int) < (d : Int)) = true := by simpa using c1
      by_cases c2 : x.ba + m < 4000
      · have t2 : decide (x.ba + m < 4000) = true := by simpa using c2
        by_cases c3 : 0 < x.st
        · have t3 : decide (0 < x.st) = true := by simpa using c3
          go_wp2_with fail
          refine rg28_3 (w0 := w) (B := w.heap.size) (n := w.heap.size + 1) (L := [(w.heap.size, 0, .int .i64 p.id), (w.heap.size, 1, .int .i64 p.ra), (w.heap.size, 2, .int .u64 p.si)]) (E := fun _ => True) (F := fun _ => True) (by kernel_rfl) (by kernel_rfl) (KH_wr.out.step (by omega) (by go_grown)) trivial (fun _ _ _ _ => trivial) trivial (fun _ _ _ _ => trivial) (fun w21 K_w21 E_w21 F_w21 => ?_)
          have _ne : Nonempty (KX (w.heap.size) w (w.heap.size + 1) [(w.heap.size, 0, .int .i64 p.id), (w.heap.size, 1, .int .i64 p.ra), (w.heap.size, 2, .int .u64 p.si)] (fun _ => True)) := ⟨⟨_, K_w21, E_w21⟩⟩
          repeat (go_big_quiet_step (fail))
          refine wpQuiet_nil ?_
          have rB0 : ∀ s : KX (w.heap.size) w (w.heap.size + 1) [(w.heap.size, 0, .int .i64 p.id), (w.heap.size, 1, .int .i64 p.ra), (w.heap.size, 2, .int .u64 p.si)] (fun _ => True), s.val.cell? ⟨w.heap.size, 0, none⟩ = some (.int .i64 p.id) := fun s => s.kept.at (by simp)
          have rB1 : ∀ s : KX (w.heap.size) w (w.heap.size + 1) [(w.heap.size, 0, .int .i64 p.id), (w.heap.size, 1, .int .i64 p.ra), (w.heap.size, 2, .int .u64 p.si)] (fun _ => True), s.val.cell? ⟨w.heap.size, 1, none⟩ = some (.int .i64 p.ra) := fun s => s.kept.at (by simp)
          have rB2 : ∀ s : KX (w.heap.size) w (w.heap.size + 1) [(w.heap.size, 0, .int .i64 p.id), (w.heap.size, 1, .int .i64 p.ra), (w.heap.size, 2, .int .u64 p.si)] (fun _ => True), s.val.cell? ⟨w.heap.size, 2, none⟩ = some (.int .u64 p.si) := fun s => s.kept.at (by simp)
          have rp1 : ∀ s : KX (w.heap.size) w (w.heap.size + 1) [(w.heap.size, 0, .int .i64 p.id), (w.heap.size, 1, .int .i64 p.ra), (w.heap.size, 2, .int .u64 p.si)] (fun _ => True), s.val.cell? ⟨M, 1, none⟩ = some (.int .i64 x.st) := fun s => (s.kept.below.cell (p := ⟨M, 1, none⟩) hM).trans C1
          have rp3 : ∀ s : KX (w.heap.size) w (w.heap.size + 1) [(w.heap.size, 0, .int .i64 p.id), (w.heap.size, 1, .int .i64 p.ra), (w.heap.size, 2, .int .u64 p.si)] (fun _ => True), s.val.cell? ⟨M, 3, none⟩ = some (.int .u64 x.now) := fun s => (s.kept.below.cell (p := ⟨M, 3, none⟩) hM).trans C3
          repeat (go_big_quiet_step (fail))
          refine wpQuiet_nil ?_
          clear rB0 rB1 rB2 rp1 rp3
          repeat (go_big_quiet_step (fail))
          refine wpQuiet_nil ?_
          have rB0 : ∀ s : KX (w.heap.size) w (w.heap.size + 1) [(w.heap.size, 0, .int .i64 p.id), (w.heap.size, 1, .int .i64 p.ra), (w.heap.size, 2, .int .u64 p.si)] (fun _ => True), s.val.cell? ⟨w.heap.size, 0, none⟩ = some (.int .i64 p.id) := fun s => s.kept.at (by simp)
          have rB1 : ∀ s : KX (w.heap.size) w (w.heap.size + 1) [(w.heap.size, 0, .int .i64 p.id), (w.heap.size, 1, .int .i64 p.ra), (w.heap.size, 2, .int .u64 p.si)] (fun _ => True), s.val.cell? ⟨w.heap.size, 1, none⟩ = some (.int .i64 p.ra) := fun s => s.kept.at (by simp)
          have rB2 : ∀ s : KX (w.heap.size) w (w.heap.size + 1) [(w.heap.size, 0, .int .i64 p.id), (w.heap.size, 1, .int .i64 p.ra), (w.heap.size, 2, .int .u64 p.si)] (fun _ => True), s.val.cell? ⟨w.heap.size, 2, none⟩ = some (.int .u64 p.si) := fun s => s.kept.at (by simp)
          have rp1 : ∀ s : KX (w.heap.size) w (w.heap.size + 1) [(w.heap.size, 0, .int .i64 p.id), (w.heap.size, 1, .int .i64 p.ra), (w.heap.size, 2, .int .u64 p.si)] (fun _ => True), s.val.cell? ⟨M, 1, none⟩ = some (.int .i64 x.st) := fun s => (s.kept.below.cell (p := ⟨M, 1, none⟩) hM).trans C1
          have rp3 : ∀ s : KX (w.heap.size) w (w.heap.size + 1) [(w.heap.size, 0, .int .i64 p.id), (w.heap.size, 1, .int .i64 p.ra), (w.heap.size, 2, .int .u64 p.si)] (fun _ => True), s.val.cell? ⟨M, 3, none⟩ = some (.int .u64 x.now) := fun s => (s.kept.below.cell (p := ⟨M, 3, none⟩) hM).trans C3
          repeat (go_big_quiet_step (fail))
          refine wpQuiet_nil ?_
          clear rB0 rB1 rB2 rp1 rp3
          repeat (go_big_quiet_step (fail))
          refine wpQuiet_nil ?_
          clear _ne
          have KH_w21 := Lib.hid K_w21
          have hw_w21 := K_w21.below
          have hz_w21 := K_w21.size
          have lB_w21 : w.heap.size < w21.heap.size := by omega
          clear K_w21
          clear E_w21 F_w21
          have g1 : w21.cell? ⟨M, 1, none⟩ = Option.some (.int .i64 x.st) := (hw_w21.cell (p := ⟨M, 1, none⟩) hM).trans C1
          go_wp2_with fail
          go_roundw
          case rel => exact ⟨k + 1, by go_num, by rw [HM1.out, Int.add_assoc], by omega, .inr ⟨by omega, HM2.out (by omega)⟩, KH_w21.out⟩
          case measure => simp [intOf]; omega
        · have t3 : decide (0 < x.st) = false := by simpa using c3
          go_wp2_with fail
          refine rg28_3 (w0 := w) (B := w.heap.size) (n := w.heap.size + 1) (L := [(w.heap.size, 0, .int .i64 p.id), (w.heap.size, 1, .int .i64 p.ra), (w.heap.size, 2, .int .u64 p.si)]) (E := fun _ => True) (F := fun _ => True) (by kernel_rfl) (by kernel_rfl) (KH_wr.out.step (by omega) (by go_grown)) trivial (fun _ _ _ _ => trivial) trivial (fun _ _ _ _ => trivial) (fun w21 K_w21 E_w21 F_w21 => ?_)
          have _ne : Nonempty (KX (w.heap.size) w (w.heap.size + 1) [(w.heap.size, 0, .int .i64 p.id), (w.heap.size, 1, .int .i64 p.ra), (w.heap.size, 2, .int .u64 p.si)] (fun _ => True)) := ⟨⟨_, K_w21, E_w21⟩⟩
          repeat (go_big_quiet_step (fail))
          refine wpQuiet_nil ?_
          have rB0 : ∀ s : KX (w.heap.size) w (w.heap.size + 1) [(w.heap.size, 0, .int .i64 p.id), (w.heap.size, 1, .int .i64 p.ra), (w.heap.size, 2, .int .u64 p.si)] (fun _ => True), s.val.cell? ⟨w.heap.size, 0, none⟩ = some (.int .i64 p.id) := fun s => s.kept.at (by simp)
          have rB1 : ∀ s : KX (w.heap.size) w (w.heap.size + 1) [(w.heap.size, 0, .int .i64 p.id), (w.heap.size, 1, .int .i64 p.ra), (w.heap.size, 2, .int .u64 p.si)] (fun _ => True), s.val.cell? ⟨w.heap.size, 1, none⟩ = some (.int .i64 p.ra) := fun s => s.kept.at (by simp)
          have rB2 : ∀ s : KX (w.heap.size) w (w.heap.size + 1) [(w.heap.size, 0, .int .i64 p.id), (w.heap.size, 1, .int .i64 p.ra), (w.heap.size, 2, .int .u64 p.si)] (fun _ => True), s.val.cell? ⟨w.heap.size, 2, none⟩ = some (.int .u64 p.si) := fun s => s.kept.at (by simp)
          have rp1 : ∀ s : KX (w.heap.size) w (w.heap.size + 1) [(w.heap.size, 0, .int .i64 p.id), (w.heap.size, 1, .int .i64 p.ra), (w.heap.size, 2, .int .u64 p.si)] (fun _ => True), s.val.cell? ⟨M, 1, none⟩ = some (.int .i64 x.st) := fun s => (s.kept.below.cell (p := ⟨M, 1, none⟩) hM).trans C1
          have rp3 : ∀ s : KX (w.heap.size) w (w.heap.size + 1) [(w.heap.size, 0, .int .i64 p.id), (w.heap.size, 1, .int .i64 p.ra), (w.heap.size, 2, .int .u64 p.si)] (fun _ => True), s.val.cell? ⟨M, 3, none⟩ = some (.int .u64 x.now) := fun s => (s.kept.below.cell (p := ⟨M, 3, none⟩) hM).trans C3
          repeat (go_big_quiet_step (fail))
          refine wpQuiet_nil ?_
          clear rB0 rB1 rB2 rp1 rp3
          repeat (go_big_quiet_step (fail))
          refine wpQuiet_nil ?_
          have rB0 : ∀ s : KX (w.heap.size) w (w.heap.size + 1) [(w.heap.size, 0, .int .i64 p.id), (w.heap.size, 1, .int .i64 p.ra), (w.heap.size, 2, .int .u64 p.si)] (fun _ => True), s.val.cell? ⟨w.heap.size, 0, none⟩ = some (.int .i64 p.id) := fun s => s.kept.at (by simp)
          have rB1 : ∀ s : KX (w.heap.size) w (w.heap.size + 1) [(w.heap.size, 0, .int .i64 p.id), (w.heap.size, 1, .int .i64 p.ra), (w.heap.size, 2, .int .u64 p.si)] (fun _ => True), s.val.cell? ⟨w.heap.size, 1, none⟩ = some (.int .i64 p.ra) := fun s => s.kept.at (by simp)
          have rB2 : ∀ s : KX (w.heap.size) w (w.heap.size + 1) [(w.heap.size, 0, .int .i64 p.id), (w.heap.size, 1, .int .i64 p.ra), (w.heap.size, 2, .int .u64 p.si)] (fun _ => True), s.val.cell? ⟨w.heap.size, 2, none⟩ = some (.int .u64 p.si) := fun s => s.kept.at (by simp)
          have rp1 : ∀ s : KX (w.heap.size) w (w.heap.size + 1) [(w.heap.size, 0, .int .i64 p.id), (w.heap.size, 1, .int .i64 p.ra), (w.heap.size, 2, .int .u64 p.si)] (fun _ => True), s.val.cell? ⟨M, 1, none⟩ = some (.int .i64 x.st) := fun s => (s.kept.below.cell (p := ⟨M, 1, none⟩) hM).trans C1
          have rp3 : ∀ s : KX (w.heap.size) w (w.heap.size + 1) [(w.heap.size, 0, .int .i64 p.id), (w.heap.size, 1, .int .i64 p.ra), (w.heap.size, 2, .int .u64 p.si)] (fun _ => True), s.val.cell? ⟨M, 3, none⟩ = some (.int .u64 x.now) := fun s => (s.kept.below.cell (p := ⟨M, 3, none⟩) hM).trans C3
          repeat (go_big_quiet_step (fail))
          refine wpQuiet_nil ?_
          clear rB0 rB1 rB2 rp1 rp3
          repeat (go_big_quiet_step (fail))
          refine wpQuiet_nil ?_
          clear _ne
          have KH_w21 := Lib.hid K_w21
          have hw_w21 := K_w21.below
          have hz_w21 := K_w21.size
          have lB_w21 : w.heap.size < w21.heap.size := by omega
          clear K_w21
          clear E_w21 F_w21
          go_wp2_with fail
          all_goals
            go_returns
            exact ⟨ret_int (by have h := HW.out (.inr (.inr (by omega))); omega), hw_w21⟩
      · have t2 : decide (x.ba + m < 4000) = false := by simpa using c2
        go_wp2_with fail
        refine rg28_3 (w0 := w) (B := w.heap.size) (n := w.heap.size + 1) (L := [(w.heap.size, 0, .int .i64 p.id), (w.heap.size, 1, .int .i64 p.ra), (w.heap.size, 2, .int .u64 p.si)]) (E := fun _ => True) (F := fun _ => True) (by kernel_rfl) (by kernel_rfl) (KH_wr.out.step (by omega) (by go_grown)) trivial (fun _ _ _ _ => trivial) trivial (fun _ _ _ _ => trivial) (fun w21 K_w21 E_w21 F_w21 => ?_)
        have _ne : Nonempty (KX (w.heap.size) w (w.heap.size + 1) [(w.heap.size, 0, .int .i64 p.id), (w.heap.size, 1, .int .i64 p.ra), (w.heap.size, 2, .int .u64 p.si)] (fun _ => True)) := ⟨⟨_, K_w21, E_w21⟩⟩
        repeat (go_big_quiet_step (fail))
        refine wpQuiet_nil ?_
        have rB0 : ∀ s : KX (w.heap.size) w (w.heap.size + 1) [(w.heap.size, 0, .int .i64 p.id), (w.heap.size, 1, .int .i64 p.ra), (w.heap.size, 2, .int .u64 p.si)] (fun _ => True), s.val.cell? ⟨w.heap.size, 0, none⟩ = some (.int .i64 p.id) := fun s => s.kept.at (by simp)
        have rB1 : ∀ s : KX (w.heap.size) w (w.heap.size + 1) [(w.heap.size, 0, .int .i64 p.id), (w.heap.size, 1, .int .i64 p.ra), (w.heap.size, 2, .int .u64 p.si)] (fun _ => True), s.val.cell? ⟨w.heap.size, 1, none⟩ = some (.int .i64 p.ra) := fun s => s.kept.at (by simp)
        have rB2 : ∀ s : KX (w.heap.size) w (w.heap.size + 1) [(w.heap.size, 0, .int .i64 p.id), (w.heap.size, 1, .int .i64 p.ra), (w.heap.size, 2, .int .u64 p.si)] (fun _ => True), s.val.cell? ⟨w.heap.size, 2, none⟩ = some (.int .u64 p.si) := fun s => s.kept.at (by simp)
        have rp1 : ∀ s : KX (w.heap.size) w (w.heap.size + 1) [(w.heap.size, 0, .int .i64 p.id), (w.heap.size, 1, .int .i64 p.ra), (w.heap.size, 2, .int .u64 p.si)] (fun _ => True), s.val.cell? ⟨M, 1, none⟩ = some (.int .i64 x.st) := fun s => (s.kept.below.cell (p := ⟨M, 1, none⟩) hM).trans C1
        have rp3 : ∀ s : KX (w.heap.size) w (w.heap.size + 1) [(w.heap.size, 0, .int .i64 p.id), (w.heap.size, 1, .int .i64 p.ra), (w.heap.size, 2, .int .u64 p.si)] (fun _ => True), s.val.cell? ⟨M, 3, none⟩ = some (.int .u64 x.now) := fun s => (s.kept.below.cell (p := ⟨M, 3, none⟩) hM).trans C3
        repeat (go_big_quiet_step (fail))
        refine wpQuiet_nil ?_
        clear rB0 rB1 rB2 rp1 rp3
        repeat (go_big_quiet_step (fail))
        refine wpQuiet_nil ?_
        have rB0 : ∀ s : KX (w.heap.size) w (w.heap.size + 1) [(w.heap.size, 0, .int .i64 p.id), (w.heap.size, 1, .int .i64 p.ra), (w.heap.size, 2, .int .u64 p.si)] (fun _ => True), s.val.cell? ⟨w.heap.size, 0, none⟩ = some (.int .i64 p.id) := fun s => s.kept.at (by simp)
        have rB1 : ∀ s : KX (w.heap.size) w (w.heap.size + 1) [(w.heap.size, 0, .int .i64 p.id), (w.heap.size, 1, .int .i64 p.ra), (w.heap.size, 2, .int .u64 p.si)] (fun _ => True), s.val.cell? ⟨w.heap.size, 1, none⟩ = some (.int .i64 p.ra) := fun s => s.kept.at (by simp)
        have rB2 : ∀ s : KX (w.heap.size) w (w.heap.size + 1) [(w.heap.size, 0, .int .i64 p.id), (w.heap.size, 1, .int .i64 p.ra), (w.heap.size, 2, .int .u64 p.si)] (fun _ => True), s.val.cell? ⟨w.heap.size, 2, none⟩ = some (.int .u64 p.si) := fun s => s.kept.at (by simp)
        have rp1 : ∀ s : KX (w.heap.size) w (w.heap.size + 1) [(w.heap.size, 0, .int .i64 p.id), (w.heap.size, 1, .int .i64 p.ra), (w.heap.size, 2, .int .u64 p.si)] (fun _ => True), s.val.cell? ⟨M, 1, none⟩ = some (.int .i64 x.st) := fun s => (s.kept.below.cell (p := ⟨M, 1, none⟩) hM).trans C1
        have rp3 : ∀ s : KX (w.heap.size) w (w.heap.size + 1) [(w.heap.size, 0, .int .i64 p.id), (w.heap.size, 1, .int .i64 p.ra), (w.heap.size, 2, .int .u64 p.si)] (fun _ => True), s.val.cell? ⟨M, 3, none⟩ = some (.int .u64 x.now) := fun s => (s.kept.below.cell (p := ⟨M, 3, none⟩) hM).trans C3
        repeat (go_big_quiet_step (fail))
        refine wpQuiet_nil ?_
        clear rB0 rB1 rB2 rp1 rp3
        repeat (go_big_quiet_step (fail))
        refine wpQuiet_nil ?_
        clear _ne
        have KH_w21 := Lib.hid K_w21
        have hw_w21 := K_w21.below
        have hz_w21 := K_w21.size
        have lB_w21 : w.heap.size < w21.heap.size := by omega
        clear K_w21
        clear E_w21 F_w21
        go_wp2_with fail
        all_goals
          go_returns
          exact ⟨ret_int (by have h := HW.out (.inr (.inl (by omega))); omega), hw_w21⟩
    · have t1 : decide ((k : Int) < (d : Int)) = false := by simp; omega
      go_wp2_with fail
      refine rg28_3 (w0 := w) (B := w.heap.size) (n := w.heap.size + 1) (L := [(w.heap.size, 0, .int .i64 p.id), (w.heap.size, 1, .int .i64 p.ra), (w.heap.size, 2, .int .u64 p.si)]) (E := fun _ => True) (F := fun _ => True) (by kernel_rfl) (by kernel_rfl) (KH_wr.out.step (by omega) (by go_grown)) trivial (fun _ _ _ _ => trivial) trivial (fun _ _ _ _ => trivial) (fun w21 K_w21 E_w21 F_w21 => ?_)
      have _ne : Nonempty (KX (w.heap.size) w (w.heap.size + 1) [(w.heap.size, 0, .int .i64 p.id), (w.heap.size, 1, .int .i64 p.ra), (w.heap.size, 2, .int .u64 p.si)] (fun _ => True)) := ⟨⟨_, K_w21, E_w21⟩⟩
      repeat (go_big_quiet_step (fail))
      refine wpQuiet_nil ?_
      have rB0 : ∀ s : KX (w.heap.size) w (w.heap.size + 1) [(w.heap.size, 0, .int .i64 p.id), (w.heap.size, 1, .int .i64 p.ra), (w.heap.size, 2, .int .u64 p.si)] (fun _ => True), s.val.cell? ⟨w.heap.size, 0, none⟩ = some (.int .i64 p.id) := fun s => s.kept.at (by simp)
      have rB1 : ∀ s : KX (w.heap.size) w (w.heap.size + 1) [(w.heap.size, 0, .int .i64 p.id), (w.heap.size, 1, .int .i64 p.ra), (w.heap.size, 2, .int .u64 p.si)] (fun _ => True), s.val.cell? ⟨w.heap.size, 1, none⟩ = some (.int .i64 p.ra) := fun s => s.kept.at (by simp)
      have rB2 : ∀ s : KX (w.heap.size) w (w.heap.size + 1) [(w.heap.size, 0, .int .i64 p.id), (w.heap.size, 1, .int .i64 p.ra), (w.heap.size, 2, .int .u64 p.si)] (fun _ => True), s.val.cell? ⟨w.heap.size, 2, none⟩ = some (.int .u64 p.si) := fun s => s.kept.at (by simp)
      have rp1 : ∀ s : KX (w.heap.size) w (w.heap.size + 1) [(w.heap.size, 0, .int .i64 p.id), (w.heap.size, 1, .int .i64 p.ra), (w.heap.size, 2, .int .u64 p.si)] (fun _ => True), s.val.cell? ⟨M, 1, none⟩ = some (.int .i64 x.st) := fun s => (s.kept.below.cell (p := ⟨M, 1, none⟩) hM).trans C1
      have rp3 : ∀ s : KX (w.heap.size) w (w.heap.size + 1) [(w.heap.size, 0, .int .i64 p.id), (w.heap.size, 1, .int .i64 p.ra), (w.heap.size, 2, .int .u64 p.si)] (fun _ => True), s.val.cell? ⟨M, 3, none⟩ = some (.int .u64 x.now) := fun s => (s.kept.below.cell (p := ⟨M, 3, none⟩) hM).trans C3
      repeat (go_big_quiet_step (fail))
      refine wpQuiet_nil ?_
      clear rB0 rB1 rB2 rp1 rp3
      repeat (go_big_quiet_step (fail))
      refine wpQuiet_nil ?_
      have rB0 : ∀ s : KX (w.heap.size) w (w.heap.size + 1) [(w.heap.size, 0, .int .i64 p.id), (w.heap.size, 1, .int .i64 p.ra), (w.heap.size, 2, .int .u64 p.si)] (fun _ => True), s.val.cell? ⟨w.heap.size, 0, none⟩ = some (.int .i64 p.id) := fun s => s.kept.at (by simp)
      have rB1 : ∀ s : KX (w.heap.size) w (w.heap.size + 1) [(w.heap.size, 0, .int .i64 p.id), (w.heap.size, 1, .int .i64 p.ra), (w.heap.size, 2, .int .u64 p.si)] (fun _ => True), s.val.cell? ⟨w.heap.size, 1, none⟩ = some (.int .i64 p.ra) := fun s => s.kept.at (by simp)
      have rB2 : ∀ s : KX (w.heap.size) w (w.heap.size + 1) [(w.heap.size, 0, .int .i64 p.id), (w.heap.size, 1, .int .i64 p.ra), (w.heap.size, 2, .int .u64 p.si)] (fun _ => True), s.val.cell? ⟨w.heap.size, 2, none⟩ = some (.int .u64 p.si) := fun s => s.kept.at (by simp)
      have rp1 : ∀ s : KX (w.heap.size) w (w.heap.size + 1) [(w.heap.size, 0, .int .i64 p.id), (w.heap.size, 1, .int .i64 p.ra), (w.heap.size, 2, .int .u64 p.si)] (fun _ => True), s.val.cell? ⟨M, 1, none⟩ = some (.int .i64 x.st) := fun s => (s.kept.below.cell (p := ⟨M, 1, none⟩) hM).trans C1
      have rp3 : ∀ s : KX (w.heap.size) w (w.heap.size + 1) [(w.heap.size, 0, .int .i64 p.id), (w.heap.size, 1, .int .i64 p.ra), (w.heap.size, 2, .int .u64 p.si)] (fun _ => True), s.val.cell? ⟨M, 3, none⟩ = some (.int .u64 x.now) := fun s => (s.kept.below.cell (p := ⟨M, 3, none⟩) hM).trans C3
      repeat (go_big_quiet_step (fail))
      refine wpQuiet_nil ?_
      clear rB0 rB1 rB2 rp1 rp3
      repeat (go_big_quiet_step (fail))
      refine wpQuiet_nil ?_
      clear _ne
      have KH_w21 := Lib.hid K_w21
      have hw_w21 := K_w21.below
      have hz_w21 := K_w21.size
      have lB_w21 : w.heap.size < w21.heap.size := by omega
      clear K_w21
      clear E_w21 F_w21
      go_wp2_with fail
      all_goals
        go_returns
        exact ⟨ret_int (by have h := HW.out (.inl (by omega)); omega), hw_w21⟩
theorem rg14_2 {P : Program} {B n : Nat} {w0 : World} {L : List (Nat × Nat × Value)} {E F : World → Prop} {id : Nat} {Q : Exit → Act → World → Prop} {a : Act} {w : World} {o0 o1 o2 o3 o4 o5 o6 o7 o8 o9 o10 o11 o12 o13 o14 o15 o16 o17 o18 o19 o20 o21 : Oper} (hm : P.follows .mixedOrders = true)
    (hB : (Region.noSelect [o0, o1, o2, o3, o4, o5, o6, o7, o8, o9, o10, o11, o12, o13, o14, o15, o16, o17, o18, o19, o20, o21].toArray && Scr.ok .any [o0, o1, o2, o3, o4, o5, o6, o7, o8, o9, o10, o11, o12, o13, o14, o15, o16, o17, o18, o19, o20, o21].toArray [5, 14] [0, 1, 2, 3, 4, 6, 7, 8, 9, 11, 12, 13, 15, 16, 17, 18, 20, 21] (.free 0 (.free 1 (.free 2 (.free 3 (.free 4 (.read 5 (.free 6 (.free 7 (.free 8 (.free 9 (.free 11 (.free 12 (.free 13 (.read 14 (.alt 10 (.free 15 (.free 16 (.free 17 (.free 18 (.altc 19 (.free 20 (.free 21 .done)) .stop))))) .stop))))))))))))))) true true [o0, o1, o2, o3, o4, o5, o6, o7, o8, o9, o10, o11, o12, o13, o14, o15, o16, o17, o18, o19, o20, o21].toArray.size (Array.replicate [o0, o1, o2, o3, o4, o5, o6, o7, o8, o9, o10, o11, o12, o13, o14, o15, o16, o17, o18, o19, o20, o21].toArray.size false)) = true)
    (k : Kept B w0 n L w) (he : E w) (hE : ∀ W W', E W → Below W.heap.size W W' → E W') (hf : F w) (hF : ∀ W W', F W → Below W.heap.size W W' → F W')
    (h : ∀ wk, Kept B w0 n L wk → E wk → F wk → wpQuiet P [o0, o1, o2, o3, o4, o5, o6, o7, o8, o9, o10, o11, o12, o13, o14, o15, o16, o17, o18, o19, o20, o21].toArray (fun _ => True) (fun a0 => wpQuiet P [o0, o1, o2, o3, o4, o5, o6, o7, o8, o9, o10, o11, o12, o13, o14, o15, o16, o17, o18, o19, o20, o21].toArray (fun w' => ∃ s : KX B w0 n L E, w' = s.val) (fun a1 => wpQuiet P [o0, o1, o2, o3, o4, o5, o6, o7, o8, o9, o10, o11, o12, o13, o14, o15, o16, o17, o18, o19, o20, o21].toArray (fun _ => True) (fun a2 => wpQuiet P [o0, o1, o2, o3, o4, o5, o6, o7, o8, o9, o10, o11, o12, o13, o14, o15, o16, o17, o18, o19, o20, o21].toArray (fun w' => ∃ s : KX B w0 n L E, w' = s.val) (fun a3 => ((∀ K4 : Act → World → Prop, (∀ a4 w4, wpQuiet P [o0, o1, o2, o3, o4, o5, o6, o7, o8, o9, o10, o11, o12, o13, o14, o15, o16, o17, o18, o19, o20, o21].toArray (fun _ => True) (fun a5 => ((∀ K6 : Act → World → Prop, (∀ a6 w6, wpQuiet P [o0, o1, o2, o3, o4, o5, o6, o7, o8, o9, o10, o11, o12, o13, o14, o15, o16, o17, o18, o19, o20, o21].toArray (fun _ => True) (fun a7 => Q .normal a7 w6) [o20, o21] a6 → K6 a6 w6) → wpList P [o0, o1, o2, o3, o4, o5, o6, o7, o8, o9, o10, o11, o12, o13, o14, o15, o16, o17, o18, o19, o20, o21].toArray (fun e a6 w6 => e = .normal ∧ K6 a6 w6) [o19] a5 w4) ∧ True)) [o15, o16, o17, o18] a4 → K4 a4 w4) → wpList P [o0, o1, o2, o3, o4, o5, o6, o7, o8, o9, o10, o11, o12, o13, o14, o15, o16, o17, o18, o19, o20, o21].toArray (fun e a4 w4 => e = .normal ∧ (∃ s : KX B w0 n L E, w4 = s.val) ∧ K4 a4 w4) [o10] a3 wk) ∧ True)) [o14] a2) [o6, o7, o8, o9, o11, o12, o13] a1) [o5] a0) [o0, o1, o2, o3, o4] a) : (Code.region id [o0, o1, o2, o3, o4, o5, o6, o7, o8, o9, o10, o11, o12, o13, o14, o15, o16, o17, o18, o19, o20, o21].toArray true).wp P Q a w := by
  have e1 : E w.drew := hE _ _ he ((Below.refl _ _).drew)
  have g := h _ k.drew e1 (hF _ _ hf ((Below.refl _ _).drew))
  exact wp_region_scr (U := (fun w' => ∃ s : KX B w0 n L E, w' = s.val)) (ops := [o0, o1, o2, o3, o4, o5, o6, o7, o8, o9, o10, o11, o12, o13, o14, o15, o16, o17, o18, o19, o20, o21].toArray) (.free 0 (.free 1 (.free 2 (.free 3 (.free 4 (.read 5 (.free 6 (.free 7 (.free 8 (.free 9 (.free 11 (.free 12 (.free 13 (.read 14 (.alt 10 (.free 15 (.free 16 (.free 17 (.free 18 (.altc 19 (.free 20 (.free 21 .done)) .stop))))) .stop))))))))))))))) [5, 14] [0, 1, 2, 3, 4, 6, 7, 8, 9, 11, 12, 13, 15, 16, 17, 18, 20, 21] hm hB ⟨⟨_, k.drew, e1⟩, rfl⟩ (Scr.of_free rfl g (fun _ g0 => Scr.of_free rfl g0 (fun _ g1 => Scr.of_free rfl g1 (fun _ g2 => Scr.of_free rfl g2 (fun _ g3 => Scr.of_free rfl g3 (fun _ g4 => Scr.of_read rfl g4 (fun _ g5 => Scr.of_free rfl g5 (fun _ g6 => Scr.of_free rfl g6 (fun _ g7 => Scr.of_free rfl g7 (fun _ g8 => Scr.of_free rfl g8 (fun _ g9 => Scr.of_free rfl g9 (fun _ g10 => Scr.of_free rfl g10 (fun _ g11 => Scr.of_free rfl g11 (fun _ g12 => Scr.of_read rfl g12 (fun _ g13 => (Scr.of_alt rfl (g13.1 _ (fun _ _ g => g)) (fun _ _ g14 => Scr.of_free rfl g14 (fun _ g15 => Scr.of_free rfl g15 (fun _ g16 => Scr.of_free rfl g16 (fun _ g17 => Scr.of_free rfl g17 (fun _ g18 => (Scr.of_altc rfl (g18.1 _ (fun _ _ g => g)) (fun _ _ g19 => Scr.of_free rfl g19 (fun _ g20 => Scr.of_free rfl g20 (fun _ g21 => g21))) trivial)))))) trivial))))))))))))))))
theorem rg14_7 {P : Program} {B n : Nat} {w0 : World} {L : List (Nat × Nat × Value)} {E F : World → Prop} {id : Nat} {Q : Exit → Act → World → Prop} {a : Act} {w : World} {o0 o1 o2 o3 o4 o5 o6 o7 o8 o9 o10 o11 o12 o13 o14 o15 o16 o17 o18 o19 o20 o21 o22 o23 o24 o25 o26 o27 o28 o29 o30 : Oper} (hm : P.follows .mixedOrders = true)
    (hB : (Region.noSelect (o0 :: o1 :: o2 :: o3 :: o4 :: o5 :: o6 :: o7 :: o8 :: o9 :: o10 :: o11 :: o12 :: o13 :: o14 :: o15 :: o16 :: o17 :: o18 :: o19 :: o20 :: o21 :: o22 :: o23 :: o24 :: o25 :: o26 :: o27 :: o28 :: o29 :: o30 :: []).toArray && Scr.ok .any (o0 :: o1 :: o2 :: o3 :: o4 :: o5 :: o6 :: o7 :: o8 :: o9 :: o10 :: o11 :: o12 :: o13 :: o14 :: o15 :: o16 :: o17 :: o18 :: o19 :: o20 :: o21 :: o22 :: o23 :: o24 :: o25 :: o26 :: o27 :: o28 :: o29 :: o30 :: []).toArray [3, 7, 11, 18, 23, 26] [0, 1, 2, 4, 5, 6, 8, 9, 10, 12, 13, 14, 15, 16, 17, 19, 20, 21, 22, 24, 25, 29, 30] (.free 0 (.free 1 (.free 2 (.free 4 (.free 5 (.free 6 (.free 8 (.read 3 (.read 7 (.free 9 (.free 10 (.read 11 (.free 12 (.free 13 (.free 14 (.free 15 (.free 16 (.free 17 (.free 19 (.free 20 (.free 21 (.free 22 (.free 24 (.read 18 (.read 23 (.free 25 (.read 26 (.alt 27 (.altc 28 (.free 29 (.free 30 .done)) .stop) .stop)))))))))))))))))))))))))))) true true (o0 :: o1 :: o2 :: o3 :: o4 :: o5 :: o6 :: o7 :: o8 :: o9 :: o10 :: o11 :: o12 :: o13 :: o14 :: o15 :: o16 :: o17 :: o18 :: o19 :: o20 :: o21 :: o22 :: o23 :: o24 :: o25 :: o26 :: o27 :: o28 :: o29 :: o30 :: []).toArray.size (Array.replicate (o0 :: o1 :: o2 :: o3 :: o4 :: o5 :: o6 :: o7 :: o8 :: o9 :: o10 :: o11 :: o12 :: o13 :: o14 :: o15 :: o16 :: o17 :: o18 :: o19 :: o20 :: o21 :: o22 :: o23 :: o24 :: o25 :: o26 :: o27 :: o28 :: o29 :: o30 :: []).toArray.size false)) = true)
    (k : Kept B w0 n L w) (he : E w) (hE : ∀ W W', E W → Below W.heap.size W W' → E W') (hf : F w) (hF : ∀ W W', F W → Below W.heap.size W W' → F W')
    (h : ∀ wk, Kept B w0 n L wk → E wk → F wk → wpQuiet P (o0 :: o1 :: o2 :: o3 :: o4 :: o5 :: o6 :: o7 :: o8 :: o9 :: o10 :: o11 :: o12 :: o13 :: o14 :: o15 :: o16 :: o17 :: o18 :: o19 :: o20 :: o21 :: o22 :: o23 :: o24 :: o25 :: o26 :: o27 :: o28 :: o29 :: o30 :: []).toArray (fun _ => True) (fun a0 => wpQuiet P (o0 :: o1 :: o2 :: o3 :: o4 :: o5 :: o6 :: o7 :: o8 :: o9 :: o10 :: o11 :: o12 :: o13 :: o14 :: o15 :: o16 :: o17 :: o18 :: o19 :: o20 :: o21 :: o22 :: o23 :: o24 :: o25 :: o26 :: o27 :: o28 :: o29 :: o30 :: []).toArray (fun w' => ∃ s : KX B w0 n L E, w' = s.val) (fun a1 => wpQuiet P (o0 :: o1 :: o2 :: o3 :: o4 :: o5 :: o6 :: o7 :: o8 :: o9 :: o10 :: o11 :: o12 :: o13 :: o14 :: o15 :: o16 :: o17 :: o18 :: o19 :: o20 :: o21 :: o22 :: o23 :: o24 :: o25 :: o26 :: o27 :: o28 :: o29 :: o30 :: []).toArray (fun _ => True) (fun a2 => wpQuiet P (o0 :: o1 :: o2 :: o3 :: o4 :: o5 :: o6 :: o7 :: o8 :: o9 :: o10 :: o11 :: o12 :: o13 :: o14 :: o15 :: o16 :: o17 :: o18 :: o19 :: o20 :: o21 :: o22 :: o23 :: o24 :: o25 :: o26 :: o27 :: o28 :: o29 :: o30 :: []).toArray (fun w' => ∃ s : KX B w0 n L E, w' = s.val) (fun a3 => wpQuiet P (o0 :: o1 :: o2 :: o3 :: o4 :: o5 :: o6 :: o7 :: o8 :: o9 :: o10 :: o11 :: o12 :: o13 :: o14 :: o15 :: o16 :: o17 :: o18 :: o19 :: o20 :: o21 :: o22 :: o23 :: o24 :: o25 :: o26 :: o27 :: o28 :: o29 :: o30 :: []).toArray (fun _ => True) (fun a4 => wpQuiet P (o0 :: o1 :: o2 :: o3 :: o4 :: o5 :: o6 :: o7 :: o8 :: o9 :: o10 :: o11 :: o12 :: o13 :: o14 :: o15 :: o16 :: o17 :: o18 :: o19 :: o20 :: o21 :: o22 :: o23 :: o24 :: o25 :: o26 :: o27 :: o28 :: o29 :: o30 :: []).toArray (fun w' => ∃ s : KX B w0 n L E, w' = s.val) (fun a5 => wpQuiet P (o0 :: o1 :: o2 :: o3 :: o4 :: o5 :: o6 :: o7 :: o8 :: o9 :: o10 :: o11 :: o12 :: o13 :: o14 :: o15 :: o16 :: o17 :: o18 :: o19 :: o20 :: o21 :: o22 :: o23 :: o24 :: o25 :: o26 :: o27 :: o28 :: o29 :: o30 :: []).toArray (fun _ => True) (fun a6 => wpQuiet P (o0 :: o1 :: o2 :: o3 :: o4 :: o5 :: o6 :: o7 :: o8 :: o9 :: o10 :: o11 :: o12 :: o13 :: o14 :: o15 :: o16 :: o17 :: o18 :: o19 :: o20 :: o21 :: o22 :: o23 :: o24 :: o25 :: o26 :: o27 :: o28 :: o29 :: o30 :: []).toArray (fun w' => ∃ s : KX B w0 n L E, w' = s.val) (fun a7 => ((∀ K8 : Act → World → Prop, (∀ a8 w8, ((∀ K9 : Act → World → Prop, (∀ a9 w9, wpQuiet P (o0 :: o1 :: o2 :: o3 :: o4 :: o5 :: o6 :: o7 :: o8 :: o9 :: o10 :: o11 :: o12 :: o13 :: o14 :: o15 :: o16 :: o17 :: o18 :: o19 :: o20 :: o21 :: o22 :: o23 :: o24 :: o25 :: o26 :: o27 :: o28 :: o29 :: o30 :: []).toArray (fun _ => True) (fun a10 => Q .normal a10 w9) [o29, o30] a9 → K9 a9 w9) → wpList P (o0 :: o1 :: o2 :: o3 :: o4 :: o5 :: o6 :: o7 :: o8 :: o9 :: o10 :: o11 :: o12 :: o13 :: o14 :: o15 :: o16 :: o17 :: o18 :: o19 :: o20 :: o21 :: o22 :: o23 :: o24 :: o25 :: o26 :: o27 :: o28 :: o29 :: o30 :: []).toArray (fun e a9 w9 => e = .normal ∧ K9 a9 w9) [o28] a8 w8) ∧ True) → K8 a8 w8) → wpList P (o0 :: o1 :: o2 :: o3 :: o4 :: o5 :: o6 :: o7 :: o8 :: o9 :: o10 :: o11 :: o12 :: o13 :: o14 :: o15 :: o16 :: o17 :: o18 :: o19 :: o20 :: o21 :: o22 :: o23 :: o24 :: o25 :: o26 :: o27 :: o28 :: o29 :: o30 :: []).toArray (fun e a8 w8 => e = .normal ∧ (∃ s : KX B w0 n L E, w8 = s.val) ∧ K8 a8 w8) [o27] a7 wk) ∧ True)) [o26] a6) [o25] a5) [o18, o23] a4) [o12, o13, o14, o15, o16, o17, o19, o20, o21, o22, o24] a3) [o11] a2) [o9, o10] a1) [o3, o7] a0) [o0, o1, o2, o4, o5, o6, o8] a) : (Code.region id (o0 :: o1 :: o2 :: o3 :: o4 :: o5 :: o6 :: o7 :: o8 :: o9 :: o10 :: o11 :: o12 :: o13 :: o14 :: o15 :: o16 :: o17 :: o18 :: o19 :: o20 :: o21 :: o22 :: o23 :: o24 :: o25 :: o26 :: o27 :: o28 :: o29 :: o30 :: []).toArray true).wp P Q a w := by
  have e1 : E w.drew := hE _ _ he ((Below.refl _ _).drew)
  have g := h _ k.drew e1 (hF _ _ hf ((Below.refl _ _).drew))
  exact wp_region_scr (U := (fun w' => ∃ s : KX B w0 n L E, w' = s.val)) (ops := (o0 :: o1 :: o2 :: o3 :: o4 :: o5 :: o6 :: o7 :: o8 :: o9 :: o10 :: o11 :: o12 :: o13 :: o14 :: o15 :: o16 :: o17 :: o18 :: o19 :: o20 :: o21 :: o22 :: o23 :: o24 :: o25 :: o26 :: o27 :: o28 :: o29 :: o30 :: []).toArray) (.free 0 (.free 1 (.free 2 (.free 4 (.free 5 (.free 6 (.free 8 (.read 3 (.read 7 (.free 9 (.free 10 (.read 11 (.free 12 (.free 13 (.free 14 (.free 15 (.free 16 (.free 17 (.free 19 (.free 20 (.free 21 (.free 22 (.free 24 (.read 18 (.read 23 (.free 25 (.read 26 (.alt 27 (.altc 28 (.free 29 (.free 30 .done)) .stop) .stop)))))))))))))))))))))))))))) [3, 7, 11, 18, 23, 26] [0, 1, 2, 4, 5, 6, 8, 9, 10, 12, 13, 14, 15, 16, 17, 19, 20, 21, 22, 24, 25, 29, 30] hm hB ⟨⟨_, k.drew, e1⟩, rfl⟩ (Scr.of_free rfl g (fun _ g0 => Scr.of_free rfl g0 (fun _ g1 => Scr.of_free rfl g1 (fun _ g2 => Scr.of_free rfl g2 (fun _ g3 => Scr.of_free rfl g3 (fun _ g4 => Scr.of_free rfl g4 (fun _ g5 => Scr.of_free rfl g5 (fun _ g6 => Scr.of_read rfl g6 (fun _ g7 => Scr.of_read rfl g7 (fun _ g8 => Scr.of_free rfl g8 (fun _ g9 => Scr.of_free rfl g9 (fun _ g10 => Scr.of_read rfl g10 (fun _ g11 => Scr.of_free rfl g11 (fun _ g12 => Scr.of_free rfl g12 (fun _ g13 => Scr.of_free rfl g13 (fun _ g14 => Scr.of_free rfl g14 (fun _ g15 => Scr.of_free rfl g15 (fun _ g16 => Scr.of_free rfl g16 (fun _ g17 => Scr.of_free rfl g17 (fun _ g18 => Scr.of_free rfl g18 (fun _ g19 => Scr.of_free rfl g19 (fun _ g20 => Scr.of_free rfl g20 (fun _ g21 => Scr.of_free rfl g21 (fun _ g22 => Scr.of_read rfl g22 (fun _ g23 => Scr.of_read rfl g23 (fun _ g24 => Scr.of_free rfl g24 (fun _ g25 => Scr.of_read rfl g25 (fun _ g26 => (Scr.of_alt rfl (g26.1 _ (fun _ _ g => g)) (fun _ _ g27 => (Scr.of_altc rfl (g27.1 _ (fun _ _ g => g)) (fun _ _ g28 => Scr.of_free rfl g28 (fun _ g29 => Scr.of_free rfl g29 (fun _ g30 => g30))) trivial)) trivial)))))))))))))))))))))))))))))
theorem mwindow28c (M : Nat) (x : Lb) (v : Value) (p : Pl) (d : Int) (w : World) (hl : ModAt w M x v) (ok : x.Ok) (hp : p.Ok x.now) (hd : x.w p = d) : Calls Try.prog 28 #[.pointer (some ⟨M, 0, none⟩), .agg #[.int .i64 p.id, .int .i64 p.ra, .int .u64 p.si]] w fun e w' => e = .returned (.int .i64 d) ∧ Below w.heap.size w w' := by
  subst hd
  exact mwindow28 M x v p w hl ok hp
theorem fnd_neg {x : Lb} (ok : x.Ok) : fnd x.l (-1) = -1 := by
  have h := fnd_bd x.l (-1)
  by_cases h0 : 0 ≤ fnd x.l (-1)
  · obtain ⟨p, hp, hid⟩ := h.2.2 h0
    have := (ok.p p (List.mem_of_getElem? hp)).i0
    omega
  · omega
theorem ICELL {w : World} {base g n cap : Nat} {l : List Int} (h : Ow ic 1 3 w base (.slice (some ⟨g, 0, none⟩) n cap) l) {i : Nat} {b : Int} (hb : l[i]? = some b) : w.cell? ⟨g, i, none⟩ = some (.int .i64 b) := by
  have hl := (List.getElem?_eq_some_iff.1 hb).1
  obtain ⟨a, c, e⟩ := h.form
  simp only [Value.slice.injEq] at e
  obtain ⟨_, rfl, _⟩ := e
  have h1 := World.ownsRow.cellAt h i (by omega)
  have h2 := flat_at (f := ic) (sz := 1) (fun _ _ => rfl) hb (j := 0) (u := .int .i64 b) rfl
  rw [Nat.mul_one, Nat.add_zero] at h2
  rw [h1, h2]
def AkRel (w : World) (x : Lb) (wv i : Value) (wr : World) : Prop := ∃ (k : Nat) (ys : List Int), k ≤ x.l.length ∧ i = .int .i64 k ∧ ys.length = x.l.length ∧ Ow ic 1 3 wr w.heap.size wv ys ∧ (∀ j, k ≤ j → ys[j]? = (x.l.map Pl.id)[j]?) ∧ Below w.heap.size w wr
set_option maxRecDepth 100000 in
set_option maxHeartbeats 4000000 in
theorem alike14 (P M : Nat) (x : Lb) (v lv : Value) (w : World) (hl : LobAt w P x v) (hm : ModAt w M x lv) (ok : x.Ok) (nd : x.Nd) : Calls Try.prog 14 #[.pointer (some ⟨P, 0, none⟩), .pointer (some ⟨M, 0, none⟩)] w fun e w' => e = .returned (.bool true) ∧ Below w.heap.size w w' := by
  have h1 := ok.o0
  have HL := Lib.hid hl
  have hM := hm.lt
  have C3 : w.cell? ⟨M, 3, none⟩ = some (.int .u64 x.now) := hm.cell 3
  obtain ⟨la, lc, hlv⟩ := hm.row.form
  subst hlv
  have C4 : w.cell? ⟨M, 4, none⟩ = some (.slice la x.l.length lc) := hm.cell 4
  have HM := Lib.hid hm
  have HN1 : Hid (winN x (-1) = 0) := Lib.hid (by unfold winN; rw [fnd_neg ok]; rfl)
  have HE1 : Hid (winE x (-1) = 9) := Lib.hid (by unfold winE; rw [fnd_neg ok]; rfl)
  clear hl hm
  go_enter Try.func14, Try.ntmps14
  go_wp2_with fail
  with_reducible refine (waiting12 P x v _ HL.out h1 ok.len).mono ?_
  rintro e w1 ⟨wv, rfl, hown, hb1⟩
  obtain ⟨wa, wc, hwv⟩ := hown.form
  rw [List.length_map] at hwv
  have HOW := Lib.hid hown
  subst hwv
  clear hown
  have HL1 := Lib.hid (HL.out.below hb1)
  have hM1 : M < w1.heap.size := by have := hb1.size; omega
  have E3 := (hb1.cell (p := ⟨M, 3, none⟩) hM).trans C3
  have E4 := (hb1.cell (p := ⟨M, 4, none⟩) hM).trans C4
  go_wp2_with fail
  refine rg14_2 (w0 := w1) (B := w1.heap.size) (n := w1.heap.size) (L := []) (E := fun _ => True) (F := fun _ => True) (by kernel_rfl) (by kernel_rfl) ⟨by go_grown, by go_size, (by simp [go_sem] <;> omega)⟩ trivial (fun _ _ _ _ => trivial) trivial (fun _ _ _ _ => trivial) (fun w2 K_w2 E_w2 F_w2 => ?_)
  have _ne : Nonempty (KX (w1.heap.size) w1 (w1.heap.size) [] (fun _ => True)) := ⟨⟨_, K_w2, E_w2⟩⟩
  repeat (go_big_quiet_step (fail))
  refine wpQuiet_nil ?_
  have r3 : ∀ s : KX (w1.heap.size) w1 (w1.heap.size) [] (fun _ => True), s.val.cell? ⟨M, 3, none⟩ = some (.int .u64 x.now) := fun s => (s.kept.below.cell (p := ⟨M, 3, none⟩) hM1).trans E3
  have r4 : ∀ s : KX (w1.heap.size) w1 (w1.heap.size) [] (fun _ => True), s.val.cell? ⟨M, 4, none⟩ = some (.slice la x.l.length lc) := fun s => (s.kept.below.cell (p := ⟨M, 4, none⟩) hM1).trans E4
  repeat (go_big_quiet_step (fail))
  refine wpQuiet_nil ?_
  clear r3 r4
  repeat (go_big_quiet_step (fail))
  refine wpQuiet_nil ?_
  have r3 : ∀ s : KX (w1.heap.size) w1 (w1.heap.size) [] (fun _ => True), s.val.cell? ⟨M, 3, none⟩ = some (.int .u64 x.now) := fun s => (s.kept.below.cell (p := ⟨M, 3, none⟩) hM1).trans E3
  have r4 : ∀ s : KX (w1.heap.size) w1 (w1.heap.size) [] (fun _ => True), s.val.cell? ⟨M, 4, none⟩ = some (.slice la x.l.length lc) := fun s => (s.kept.below.cell (p := ⟨M, 4, none⟩) hM1).trans E4
  repeat (go_big_quiet_step (fail))
  refine wpQuiet_nil ?_
  clear r3 r4
  have KH_w2 := Lib.hid K_w2
  have hw_w2 := K_w2.below
  have hz_w2 := K_w2.size
  clear K_w2
  clear E_w2 F_w2
  refine ⟨fun K hK0 => ?_, trivial⟩
  have hK := Lib.hid hK0
  clear hK0
  go_wp2_with fail
  with_reducible refine (now15 P x v _ (HL1.out.below (by go_grown)) h1).mono ?_
  rintro e w3 ⟨rfl, hb_w3⟩
  have K_w3 := (KH_w2.out.step (by omega) (by go_grown)).step (by omega) hb_w3
  clear hb_w3
  have KH_w3 := Lib.hid K_w3
  have hw_w3 := K_w3.below
  have hz_w3 := K_w3.size
  clear K_w3
  go_wp2_with fail
  first | (refine ⟨rfl, ⟨⟨_, KH_w3.out, trivial⟩, rfl⟩, hK.out _ _ ?_⟩; clear hK K) | (refine ⟨⟨⟨_, KH_w3.out, trivial⟩, rfl⟩, hK.out _ _ ?_⟩; clear hK K)
  repeat (go_big_quiet_step (fail))
  refine wpQuiet_nil ?_
  refine ⟨fun K hK0 => ?_, trivial⟩
  have hK := Lib.hid hK0
  clear hK0
  go_wp2_with fail
  with_reducible refine (windows20 P x v (-1) 0 9 _ (HL1.out.below (by go_grown)) ok HN1.out HE1.out).mono ?_
  rintro e w4 ⟨rfl, hb_w4⟩
  have K_w4 := (KH_w3.out.step (by omega) (by go_grown)).step (by omega) hb_w4
  clear hb_w4
  have KH_w4 := Lib.hid K_w4
  have hw_w4 := K_w4.below
  have hz_w4 := K_w4.size
  clear K_w4
  go_wp2_with fail
  first | (refine ⟨rfl, hK.out _ _ ?_⟩; clear hK K) | (refine hK.out _ _ ?_; clear hK K)
  repeat (go_big_quiet_step (fail))
  refine wpQuiet_nil ?_
  clear _ne
  have hbW : Below w.heap.size w w4 := below_via hb1 hw_w4
  have HOW2 := Lib.hid (HOW.out.below hw_w4)
  go_wp2_with fail
  go_loopw [6] (fun i wr => AkRel w x (.slice wa x.l.length wc) i wr) (fun i _ => x.l.length - (intOf i).toNat)
  case atStart => exact ⟨0, _, Nat.zero_le _, rfl, by simp, HOW2.out, fun _ _ => rfl, hbW⟩
  case round =>
    obtain ⟨k, ys, hk, rfl, hyl, ho, hys, hb⟩ := hrel
    have HO := Lib.hid ho
    have HYL := Lib.hid hyl
    have HYS := Lib.hid hys
    have hzz := hb.size
    clear hyl ho hys
    by_cases hkl : k < x.l.length
    · obtain ⟨p, hp⟩ : ∃ p, x.l[k]? = Option.some p := ⟨x.l[k], List.getElem?_eq_getElem hkl⟩
      have hyk : ys[k]? = Option.some p.id := by rw [HYS.out k (Nat.le_refl _), List.getElem?_map, hp]; rfl
      obtain ⟨g, cg, hgv⟩ : ∃ g cg, wa = Option.some ⟨g, 0, none⟩ ∧ wc = cg := by
        rcases HO.out.2 with ⟨_, h2⟩ | ⟨g, cap, _, h2, _⟩
        · rw [HYL.out] at h2; omega
        · simp only [Value.slice.injEq] at h2; exact ⟨g, wc, h2.1, rfl⟩
      obtain ⟨rfl, rfl⟩ := hgv
      have eg := ICELL HO.out hyk
      have ef : wr.frozen? ⟨g, k, none⟩ = false := HO.out.frozenAt k
      have hgr : g < wr.heap.size := (HO.out.typ g rfl).2.1
      have hgw : w.heap.size ≤ g := (HO.out.typ g rfl).1
      have HMR := Lib.hid (HM.out.below hb)
      have HLR := Lib.hid (HL.out.below hb)
      have hMr := HMR.out.lt
      obtain ⟨_, a1, c1, hv, hf⟩ := HMR.out.rw.form
      obtain ⟨b1, o1, rfl, hb1r, hc1⟩ := hf (by omega)
      simp only [Value.slice.injEq] at hv
      obtain ⟨rfl, hsl, rfl⟩ := hv
      clear hsl
      have e4 : wr.cell? ⟨M, 4, none⟩ = Option.some (.slice (some ⟨b1, o1, none⟩) x.l.length lc) := HMR.out.cell 4
      have OKP := Lib.hid (ok.p p (List.mem_of_getElem? hp))
      obtain ⟨d, hd⟩ : ∃ d, x.w p = d := ⟨_, rfl⟩
      have HD := Lib.hid hd
      have hwn := winN_at nd hp
      have HWN : Hid (winN x p.id = d) := Lib.hid (by unfold winN; rw [if_pos hwn.1, hwn.2]; exact hd)
      have HWE : Hid (winE x p.id = 0) := Lib.hid (by unfold winE; rw [if_pos hwn.1])
      have i1 : (0 : Int) ≤ (k : Int) := by omega
      have i2 : (k : Int) < (x.l.length : Int) := by omega
      have q0 : wr.cell? ⟨b1, o1 + k * 3, none⟩ = Option.some (.int .i64 p.id) := hc1 k p hp 0 _ rfl
      have q1 : wr.cell? ⟨b1, o1 + k * 3 + 1, none⟩ = Option.some (.int .i64 p.ra) := hc1 k p hp 1 _ rfl
      have q2 : wr.cell? ⟨b1, o1 + k * 3 + 2, none⟩ = Option.some (.int .u64 p.si) := hc1 k p hp 2 _ rfl
      clear hf hc1 hp hyk hd hwn
      go_wp2_with fail
      refine rg14_7 (w0 := wr) (B := wr.heap.size) (n := wr.heap.size) (L := []) (E := fun _ => True) (F := fun _ => True) (by kernel_rfl) (by kernel_rfl) ⟨by go_grown, by go_size, (by simp [go_sem] <;> omega)⟩ trivial (fun _ _ _ _ => trivial) trivial (fun _ _ _ _ => trivial) (fun w21 K_w21 E_w21 F_w21 => ?_)
      have _ne : Nonempty (KX (wr.heap.size) wr (wr.heap.size) [] (fun _ => True)) := ⟨⟨_, K_w21, E_w21⟩⟩
      repeat (go_big_quiet_step (fail))
      refine wpQuiet_nil ?_
      have rg : ∀ s : KX (wr.heap.size) wr (wr.heap.size) [] (fun _ => True), s.val.cell? ⟨g, k, none⟩ = some (.int .i64 p.id) := fun s => (s.kept.below.cell (p := ⟨g, k, none⟩) hgr).trans eg
      have r4 : ∀ s : KX (wr.heap.size) wr (wr.heap.size) [] (fun _ => True), s.val.cell? ⟨M, 4, none⟩ = some (.slice (some ⟨b1, o1, none⟩) x.l.length lc) := fun s => (s.kept.below.cell (p := ⟨M, 4, none⟩) hMr).trans e4
      have rq0 : ∀ s : KX (wr.heap.size) wr (wr.heap.size) [] (fun _ => True), s.val.cell? ⟨b1, o1 + k * 3, none⟩ = some (.int .i64 p.id) := fun s => (s.kept.below.cell (p := ⟨b1, o1 + k * 3, none⟩) hb1r).trans q0
      have rq1 : ∀ s : KX (wr.heap.size) wr (wr.heap.size) [] (fun _ => True), s.val.cell? ⟨b1, o1 + k * 3 + 1, none⟩ = some (.int .i64 p.ra) := fun s => (s.kept.below.cell (p := ⟨b1, o1 + k * 3 + 1, none⟩) hb1r).trans q1
      have rq2 : ∀ s : KX (wr.heap.size) wr (wr.heap.size) [] (fun _ => True), s.val.cell? ⟨b1, o1 + k * 3 + 2, none⟩ = some (.int .u64 p.si) := fun s => (s.kept.below.cell (p := ⟨b1, o1 + k * 3 + 2, none⟩) hb1r).trans q2
      repeat (go_big_quiet_step (fail))
      refine wpQuiet_nil ?_
      clear rg r4 rq0 rq1 rq2
      repeat (go_big_quiet_step (fail))
      refine wpQuiet_nil ?_
      have rg : ∀ s : KX (wr.heap.size) wr (wr.heap.size) [] (fun _ => True), s.val.cell? ⟨g, k, none⟩ = some (.int .i64 p.id) := fun s => (s.kept.below.cell (p := ⟨g, k, none⟩) hgr).trans eg
      have r4 : ∀ s : KX (wr.heap.size) wr (wr.heap.size) [] (fun _ => True), s.val.cell? ⟨M, 4, none⟩ = some (.slice (some ⟨b1, o1, none⟩) x.l.length lc) := fun s => (s.kept.below.cell (p := ⟨M, 4, none⟩) hMr).trans e4
      have rq0 : ∀ s : KX (wr.heap.size) wr (wr.heap.size) [] (fun _ => True), s.val.cell? ⟨b1, o1 + k * 3, none⟩ = some (.int .i64 p.id) := fun s => (s.kept.below.cell (p := ⟨b1, o1 + k * 3, none⟩) hb1r).trans q0
      have rq1 : ∀ s : KX (wr.heap.size) wr (wr.heap.size) [] (fun _ => True), s.val.cell? ⟨b1, o1 + k * 3 + 1, none⟩ = some (.int .i64 p.ra) := fun s => (s.kept.below.cell (p := ⟨b1, o1 + k * 3 + 1, none⟩) hb1r).trans q1
      have rq2 : ∀ s : KX (wr.heap.size) wr (wr.heap.size) [] (fun _ => True), s.val.cell? ⟨b1, o1 + k * 3 + 2, none⟩ = some (.int .u64 p.si) := fun s => (s.kept.below.cell (p := ⟨b1, o1 + k * 3 + 2, none⟩) hb1r).trans q2
      repeat (go_big_quiet_step (fail))
      refine wpQuiet_nil ?_
      clear rg r4 rq0 rq1 rq2
      repeat (go_big_quiet_step (fail))
      refine wpQuiet_nil ?_
      have rg : ∀ s : KX (wr.heap.size) wr (wr.heap.size) [] (fun _ => True), s.val.cell? ⟨g, k, none⟩ = some (.int .i64 p.id) := fun s => (s.kept.below.cell (p := ⟨g, k, none⟩) hgr).trans eg
      have r4 : ∀ s : KX (wr.heap.size) wr (wr.heap.size) [] (fun _ => True), s.val.cell? ⟨M, 4, none⟩ = some (.slice (some ⟨b1, o1, none⟩) x.l.length lc) := fun s => (s.kept.below.cell (p := ⟨M, 4, none⟩) hMr).trans e4
      have rq0 : ∀ s : KX (wr.heap.size) wr (wr.heap.size) [] (fun _ => True), s.val.cell? ⟨b1, o1 + k * 3, none⟩ = some (.int .i64 p.id) := fun s => (s.kept.below.cell (p := ⟨b1, o1 + k * 3, none⟩) hb1r).trans q0
      have rq1 : ∀ s : KX (wr.heap.size) wr (wr.heap.size) [] (fun _ => True), s.val.cell? ⟨b1, o1 + k * 3 + 1, none⟩ = some (.int .i64 p.ra) := fun s => (s.kept.below.cell (p := ⟨b1, o1 + k * 3 + 1, none⟩) hb1r).trans q1
      have rq2 : ∀ s : KX (wr.heap.size) wr (wr.heap.size) [] (fun _ => True), s.val.cell? ⟨b1, o1 + k * 3 + 2, none⟩ = some (.int .u64 p.si) := fun s => (s.kept.below.cell (p := ⟨b1, o1 + k * 3 + 2, none⟩) hb1r).trans q2
      repeat (go_big_quiet_step (fail))
      refine wpQuiet_nil ?_
      clear rg r4 rq0 rq1 rq2
      repeat (go_big_quiet_step (fail))
      refine wpQuiet_nil ?_
      have rg : ∀ s : KX (wr.heap.size) wr (wr.heap.size) [] (fun _ => True), s.val.cell? ⟨g, k, none⟩ = some (.int .i64 p.id) := fun s => (s.kept.below.cell (p := ⟨g, k, none⟩) hgr).trans eg
      have r4 : ∀ s : KX (wr.heap.size) wr (wr.heap.size) [] (fun _ => True), s.val.cell? ⟨M, 4, none⟩ = some (.slice (some ⟨b1, o1, none⟩) x.l.length lc) := fun s => (s.kept.below.cell (p := ⟨M, 4, none⟩) hMr).trans e4
      have rq0 : ∀ s : KX (wr.heap.size) wr (wr.heap.size) [] (fun _ => True), s.val.cell? ⟨b1, o1 + k * 3, none⟩ = some (.int .i64 p.id) := fun s => (s.kept.below.cell (p := ⟨b1, o1 + k * 3, none⟩) hb1r).trans q0
      have rq1 : ∀ s : KX (wr.heap.size) wr (wr.heap.size) [] (fun _ => True), s.val.cell? ⟨b1, o1 + k * 3 + 1, none⟩ = some (.int .i64 p.ra) := fun s => (s.kept.below.cell (p := ⟨b1, o1 + k * 3 + 1, none⟩) hb1r).trans q1
      have rq2 : ∀ s : KX (wr.heap.size) wr (wr.heap.size) [] (fun _ => True), s.val.cell? ⟨b1, o1 + k * 3 + 2, none⟩ = some (.int .u64 p.si) := fun s => (s.kept.below.cell (p := ⟨b1, o1 + k * 3 + 2, none⟩) hb1r).trans q2
      repeat (go_big_quiet_step (fail))
      refine wpQuiet_nil ?_
      clear rg r4 rq0 rq1 rq2
      have KH_w21 := Lib.hid K_w21
      have hw_w21 := K_w21.below
      have hz_w21 := K_w21.size
      clear K_w21
      clear E_w21 F_w21
      refine ⟨fun K hK0 => ?_, trivial⟩
      have hK := Lib.hid hK0
      clear hK0
      go_wp2_with fail
      with_reducible refine (mwindow28c M x _ p d _ (HMR.out.below (by go_grown)) ok OKP.out HD.out).mono ?_
      rintro e w22 ⟨rfl, hb_w22⟩
      have K_w22 := (KH_w21.out.step (by omega) (by go_grown)).step (by omega) hb_w22
      clear hb_w22
      have KH_w22 := Lib.hid K_w22
      have hw_w22 := K_w22.below
      have hz_w22 := K_w22.size
      clear K_w22
      go_wp2_with fail
      first | (refine ⟨rfl, ⟨⟨_, KH_w22.out, trivial⟩, rfl⟩, hK.out _ _ ?_⟩; clear hK K) | (refine ⟨⟨⟨_, KH_w22.out, trivial⟩, rfl⟩, hK.out _ _ ?_⟩; clear hK K)
      refine ⟨fun K hK0 => ?_, trivial⟩
      have hK := Lib.hid hK0
      clear hK0
      go_wp2_with fail
      with_reducible refine (windows20 P x v p.id d 0 _ (HLR.out.below (by go_grown)) ok HWN.out HWE.out).mono ?_
      rintro e w23 ⟨rfl, hb_w23⟩
      have K_w23 := (KH_w22.out.step (by omega) (by go_grown)).step (by omega) hb_w23
      clear hb_w23
      have KH_w23 := Lib.hid K_w23
      have hw_w23 := K_w23.below
      have hz_w23 := K_w23.size
      clear K_w23
      go_wp2_with fail
      first | (refine ⟨rfl, hK.out _ _ ?_⟩; clear hK K) | (refine hK.out _ _ ?_; clear hK K)
      repeat (go_big_quiet_step (fail))
      refine wpQuiet_nil ?_
      clear _ne
      have gc : w23.cell? ⟨g, k, none⟩ = Option.some (.int .i64 p.id) := (hw_w23.cell (p := ⟨g, k, none⟩) hgr).trans eg
      have gf : w23.frozen? ⟨g, k, none⟩ = false := (hw_w23.frozen (p := ⟨g, k, none⟩) hgr).trans ef
      go_wp2_with fail
      go_roundw
      case rel => exact ⟨k + 1, ys.set k (-5), by omega, by go_num, by simpa using HYL.out, (HO.out.below hw_w23).set1 (fun _ => rfl) HYL.out.symm k (-5) _ rfl, fun j hj => by rw [List.getElem?_set_ne (by omega)]; exact HYS.out j (by omega), (below_via hb hw_w23).setCell (by show w.heap.size ≤ g; exact hgw) _⟩
      case measure => simp [intOf]; omega
    · obtain rfl : k = x.l.length := by omega
      go_wp2_with fail
      go_returns
      exact ⟨rfl, hb⟩

end Go.Proofs.Ytonaidjdkejoeaa
