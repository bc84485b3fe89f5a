/- Enter. -/
import Derived.Test.YtonaidjdkejoeaaRd
import Derived.LoopTactic
import Derived.Laws.AppendOwn
namespace Go.Proofs.Ytonaidjdkejoeaa
open Go.RowKit Plain
set_option linter.unusedVariables false
set_option linter.unusedSimpArgs false

/-- a call that changes the lobby in block P, whose players lay in v, into x' -/
def MutAt (P : Nat) (v : Value) (w : World) (r : Ending) (x' : Lb) (e : Ending) (w' : World) : Prop := ∃ v', e = r ∧ LobAt w' P x' v' ∧ (∀ b, v'.ownBlock = some b → v.ownBlock = some b ∨ w.heap.size ≤ b) ∧ Onl (foot P v) w w'
theorem MutAt.same {P : Nat} {v : Value} {w w' : World} {r : Ending} {x : Lb} (h : LobAt w P x v) (hb : Below w.heap.size w w') : MutAt P v w r x r w' := ⟨v, rfl, h.below hb, fun b hb => .inl hb, .of hb⟩
theorem LobAt.ne {w : World} {P : Nat} {x : Lb} {v v' : Value} {l : List Pl} (h : w.heap[P]? = some (.cells (lbc x v) 61 (0, 0))) (hr : Ow plc 3 71 w 0 v' l) : ∀ b, v'.ownBlock = some b → b ≠ P := by
  rintro b hb rfl
  obtain ⟨_, _, cur, hc⟩ := hr.typ b hb
  rw [h] at hc
  simp at hc
theorem lob_put {w : World} {P : Nat} {x : Lb} {v v' : Value} {l : List Pl} (h : w.heap[P]? = some (.cells (lbc x v) 61 (0, 0))) (hr : Ow plc 3 71 w 0 v' l) : LobAt (w.setCell ⟨P, 4, none⟩ v') P { x with l := l } v' := by
  refine ⟨?_, hr.onl ((Onl.refl [P] w).setCell (q := ⟨P, 4, none⟩) (.inl (by simp)) v') (fun b hb => by simpa using LobAt.ne h hr b hb)⟩
  rw [heap_setCell_same w P 4 _ 61 v' h]
  rfl
theorem lob_now {w : World} {P : Nat} {x : Lb} {v : Value} (h : LobAt w P x v) (m : Int) : LobAt (w.setCell ⟨P, 3, none⟩ (.int .u64 m)) P { x with now := m } v := by
  refine ⟨?_, h.row.onl ((Onl.refl [P] w).setCell (q := ⟨P, 3, none⟩) (.inl (by simp)) _) (fun b hb => by simpa using LobAt.ne h.blk h.row b hb)⟩
  rw [heap_setCell_same w P 3 _ 61 _ h.blk]
  rfl
theorem lob_grown {w w' : World} {P : Nat} {x : Lb} {v v' : Value} {l : List Pl} (h : w.heap[P]? = some (.cells (lbc x v) 61 (0, 0))) (hr : Ow plc 3 71 w 0 v' l) (hg : w.grownBy w' v'.ownBlock) : w'.heap[P]? = some (.cells (lbc x v) 61 (0, 0)) :=
  (hg.block P (Array.getElem?_eq_some_iff.1 h).1 (fun e => LobAt.ne h hr P e.symm rfl)).trans h
theorem info71 : (Try.prog.info? 71).map (fun i => (i.zero, i.size, i.bytes)) = some (some (.agg #[.int .i64 0, .int .i64 0, .int .u64 0]), 3, 24) := by kernel_rfl
theorem rw_one {w : World} {b cap : Nat} {T : TypeId} (p : Pl) : Rw plc 3 (w.alloc (.cells #[.int .i64 p.id, .int .i64 p.ra, .int .u64 p.si] T)) (.slice (some ⟨w.heap.size, 0, none⟩) 1 cap) [p] :=
  .inr ⟨by simp, by simp [maxLen], _, 0, cap, rfl, by simp, fun i y hi j u hu => by
    have hi0 : i = 0 := by have := (List.getElem?_eq_some_iff.1 hi).1; simp at this; omega
    subst hi0
    simp at hi
    subst hi
    have hj0 : j < 3 := by have := (List.getElem?_eq_some_iff.1 hu).1; simpa [plc] using this
    have h3 : j = 0 ∨ j = 1 ∨ j = 2 := by omega
    rcases h3 with rfl | rfl | rfl <;> (simp [plc] at hu; subst hu; simp)⟩
theorem rg10_10 {P : Program} {B n : Nat} {w0 : World} {L : List (Nat × Nat × Value)} {E F : World → Prop} {id : Nat} {Q : Exit → Act → World → Prop} {a : Act} {w : World} {o0 o1 o2 o3 o4 o5 o6 o7 o8 o9 o10 o11 o12 o13 o14 o15 o16 : Oper} (hm : P.follows .mixedOrders = true)
    (hB : (Region.noSelect [o0, o1, o2, o3, o4, o5, o6, o7, o8, o9, o10, o11, o12, o13, o14, o15, o16].toArray && Scr.ok .any [o0, o1, o2, o3, o4, o5, o6, o7, o8, o9, o10, o11, o12, o13, o14, o15, o16].toArray [4, 10] [0, 1, 2, 3, 5, 6, 7, 8, 9, 11, 14, 15] (.free 0 (.free 1 (.free 2 (.free 3 (.free 5 (.free 6 (.free 7 (.free 8 (.free 9 (.read 4 (.read 10 (.free 11 (.alt 12 (.altc 13 (.free 14 (.free 15 (.altc 16 .done .stop))) .stop) .stop))))))))))))) true true [o0, o1, o2, o3, o4, o5, o6, o7, o8, o9, o10, o11, o12, o13, o14, o15, o16].toArray.size (Array.replicate [o0, o1, o2, o3, o4, o5, o6, o7, o8, o9, o10, o11, o12, o13, o14, o15, o16].toArray.size false)) = true)
    (k : Kept B w0 n L w) (he : E w) (hE : ∀ W W', E W → Below W.heap.size W W' → E W') (hf : F w) (hF : ∀ W W', F W → Below W.heap.size W W' → F W')
    (h : ∀ wk, Kept B w0 n L wk → E wk → F wk → wpQuiet P [o0, o1, o2, o3, o4, o5, o6, o7, o8, o9, o10, o11, o12, o13, o14, o15, o16].toArray (fun _ => True) (fun a0 => wpQuiet P [o0, o1, o2, o3, o4, o5, o6, o7, o8, o9, o10, o11, o12, o13, o14, o15, o16].toArray (fun w' => ∃ s : KX B w0 n L E, w' = s.val) (fun a1 => wpQuiet P [o0, o1, o2, o3, o4, o5, o6, o7, o8, o9, o10, o11, o12, o13, o14, o15, o16].toArray (fun _ => True) (fun a2 => ((∀ K3 : Act → World → Prop, (∀ a3 w3, ((∀ K4 : Act → World → Prop, (∀ a4 w4, wpQuiet P [o0, o1, o2, o3, o4, o5, o6, o7, o8, o9, o10, o11, o12, o13, o14, o15, o16].toArray (fun _ => True) (fun a5 => ((∀ K6 : Act → World → Prop, (∀ a6 w6, Q .normal a6 w6 → K6 a6 w6) → wpList P [o0, o1, o2, o3, o4, o5, o6, o7, o8, o9, o10, o11, o12, o13, o14, o15, o16].toArray (fun e a6 w6 => e = .normal ∧ K6 a6 w6) [o16] a5 w4) ∧ True)) [o14, o15] a4 → K4 a4 w4) → wpList P [o0, o1, o2, o3, o4, o5, o6, o7, o8, o9, o10, o11, o12, o13, o14, o15, o16].toArray (fun e a4 w4 => e = .normal ∧ K4 a4 w4) [o13] a3 w3) ∧ True) → K3 a3 w3) → wpList P [o0, o1, o2, o3, o4, o5, o6, o7, o8, o9, o10, o11, o12, o13, o14, o15, o16].toArray (fun e a3 w3 => e = .normal ∧ (∃ s : KX B w0 n L E, w3 = s.val) ∧ K3 a3 w3) [o12] a2 wk) ∧ True)) [o11] a1) [o4, o10] a0) [o0, o1, o2, o3, o5, o6, o7, o8, o9] a) : (Code.region id [o0, o1, o2, o3, o4, o5, o6, o7, o8, o9, o10, o11, o12, o13, o14, o15, o16].toArray true).wp P Q a w := by
  have e1 : E w.drew := hE _ _ he ((Below.refl _ _).drew)
  have g := h _ k.drew e1 (hF _ _ hf ((Below.refl _ _).drew))
  exact wp_region_scr (U := (fun w' => ∃ s : KX B w0 n L E, w' = s.val)) (ops := [o0, o1, o2, o3, o4, o5, o6, o7, o8, o9, o10, o11, o12, o13, o14, o15, o16].toArray) (.free 0 (.free 1 (.free 2 (.free 3 (.free 5 (.free 6 (.free 7 (.free 8 (.free 9 (.read 4 (.read 10 (.free 11 (.alt 12 (.altc 13 (.free 14 (.free 15 (.altc 16 .done .stop))) .stop) .stop))))))))))))) [4, 10] [0, 1, 2, 3, 5, 6, 7, 8, 9, 11, 14, 15] hm hB ⟨⟨_, k.drew, e1⟩, rfl⟩ (Scr.of_free rfl g (fun _ g0 => Scr.of_free rfl g0 (fun _ g1 => Scr.of_free rfl g1 (fun _ g2 => Scr.of_free rfl g2 (fun _ g3 => Scr.of_free rfl g3 (fun _ g4 => Scr.of_free rfl g4 (fun _ g5 => Scr.of_free rfl g5 (fun _ g6 => Scr.of_free rfl g6 (fun _ g7 => Scr.of_free rfl g7 (fun _ g8 => Scr.of_read rfl g8 (fun _ g9 => Scr.of_read rfl g9 (fun _ g10 => Scr.of_free rfl g10 (fun _ g11 => (Scr.of_alt rfl (g11.1 _ (fun _ _ g => g)) (fun _ _ g12 => (Scr.of_altc rfl (g12.1 _ (fun _ _ g => g)) (fun _ _ g13 => Scr.of_free rfl g13 (fun _ g14 => Scr.of_free rfl g14 (fun _ g15 => (Scr.of_altc rfl (g15.1 _ (fun _ _ g => g)) (fun _ _ g16 => g16) trivial)))) trivial)) trivial))))))))))))))
set_option maxRecDepth 100000 in
set_option maxHeartbeats 2000000 in
theorem enter10 (P : Nat) (x : Lb) (v : Value) (t id ra : Int) (w : World) (hl : LobAt w P x v) (ok : x.Ok) (ht : U t) : Calls Try.prog 10 #[.pointer (some ⟨P, 0, none⟩), .int .u64 t, .int .i64 id, .int .i64 ra] w (MutAt P v w (.returned (.int .i64 (enE x id ra))) (enX x t id ra)) := by
  have h1 := ok.o0
  have hlen := ok.len
  have HL := Lib.hid hl
  obtain ⟨av, cv, v_eq⟩ := hl.row.form
  have c4 := hl.row
  have X1 : ∀ e, enE x id ra = e → e ≠ 0 → enX x t id ra = x := fun e h1 h2 => by unfold enX; rw [if_neg (by omega)]
  have c4 : w.cell? ⟨P, 4, none⟩ = Option.some v := hl.cell 4
  clear hl
  by_cases g1 : id < 0
  · have E0 : Hid (enE x id ra = 2) := Lib.hid (by unfold enE; rw [if_pos (.inl g1)])
    have X0 := Lib.hid (X1 _ E0.out (by decide))
    clear X1 v_eq c4
    go_enter Try.func10, Try.ntmps10
    go_wp2_with fail
    with_reducible refine (none_ok P x v _ HL.out h1).mono ?_
    rintro e w' ⟨rfl, rfl⟩
    go_wp2_with fail
    go_returns
    rw [E0.out, X0.out]
    exact MutAt.same HL.out (by go_grown)
  by_cases g2 : 1000000 < id
  · have E0 : Hid (enE x id ra = 2) := Lib.hid (by unfold enE; rw [if_pos (.inr (.inl g2))])
    have X0 := Lib.hid (X1 _ E0.out (by decide))
    clear X1 v_eq c4
    go_enter Try.func10, Try.ntmps10
    go_wp2_with fail
    with_reducible refine (none_ok P x v _ HL.out h1).mono ?_
    rintro e w' ⟨rfl, rfl⟩
    go_wp2_with fail
    go_returns
    rw [E0.out, X0.out]
    exact MutAt.same HL.out (by go_grown)
  by_cases g3 : 0 ≤ ra ∧ ra ≤ 4000
  case neg =>
    have E0 : Hid (enE x id ra = 2) := Lib.hid (by unfold enE; rw [if_pos (.inr (.inr g3))])
    have HR : Hid (rB ra = false) := Lib.hid (by unfold rB; exact decide_eq_false g3)
    have X0 := Lib.hid (X1 _ E0.out (by decide))
    clear X1 v_eq c4 g3
    go_enter Try.func10, Try.ntmps10
    go_wp2_with fail
    with_reducible refine (none_ok P x v _ HL.out h1).mono ?_
    rintro e w' ⟨rfl, rfl⟩
    go_wp2_with fail
    with_reducible refine (rvalidc ra false _ HR.out).mono ?_
    rintro e w' ⟨rfl, rfl⟩
    go_wp2_with fail
    go_returns
    rw [E0.out, X0.out]
    exact MutAt.same HL.out (by go_grown)
  have HR : Hid (rB ra = true) := Lib.hid (by unfold rB; exact decide_eq_true g3)
  obtain ⟨n, hn⟩ : ∃ n, fnd x.l id = n := ⟨_, rfl⟩
  have HN := Lib.hid hn
  have hnb := fnd_bd x.l id
  rw [hn] at hnb
  obtain ⟨hn1, hn2, _⟩ := hnb
  by_cases g4 : 0 ≤ n
  · have E0 : Hid (enE x id ra = 11) := Lib.hid (by unfold enE; rw [if_neg (by omega), hn, if_pos g4])
    have X0 := Lib.hid (X1 _ E0.out (by decide))
    clear X1 hn g3
    go_enter Try.func10, Try.ntmps10
    go_wp2_with fail
    with_reducible refine (none_ok P x v _ HL.out h1).mono ?_
    rintro e w' ⟨rfl, rfl⟩
    go_wp2_with fail
    with_reducible refine (rvalidc ra true _ HR.out).mono ?_
    rintro e w' ⟨rfl, rfl⟩
    go_wp2_with fail
    with_reducible refine (find25c P x v id n _ HL.out HN.out).mono ?_
    rintro e w1 ⟨rfl, hb⟩
    have HL1 := Lib.hid (HL.out.below hb)
    have hP1 : P < w1.heap.size := HL1.out.lt
    have c3_1 : w1.cell? ⟨P, 3, none⟩ = Option.some (.int .u64 x.now) := HL1.out.cell 3
    have c4_1 : w1.cell? ⟨P, 4, none⟩ = Option.some v := HL1.out.cell 4
    have f3_1 : w1.frozen? ⟨P, 3, none⟩ = false := HL1.out.free 3
    have f4_1 : w1.frozen? ⟨P, 4, none⟩ = false := HL1.out.free 4
    rw [v_eq] at c4_1
    go_wp2_with fail
    go_returns
    rw [E0.out, X0.out]
    exact MutAt.same HL.out (by go_grown)
  by_cases g5 : 200 ≤ x.l.length
  · have E0 : Hid (enE x id ra = 7) := Lib.hid (by unfold enE; rw [if_neg (by omega), hn, if_neg g4, if_pos g5])
    have X0 := Lib.hid (X1 _ E0.out (by decide))
    have q5 : decide ((200 : Int) ≤ (x.l.length : Int)) = true := by simp; omega
    clear X1 hn g3
    go_enter Try.func10, Try.ntmps10
    go_wp2_with fail
    with_reducible refine (none_ok P x v _ HL.out h1).mono ?_
    rintro e w' ⟨rfl, rfl⟩
    go_wp2_with fail
    with_reducible refine (rvalidc ra true _ HR.out).mono ?_
    rintro e w' ⟨rfl, rfl⟩
    go_wp2_with fail
    with_reducible refine (find25c P x v id n _ HL.out HN.out).mono ?_
    rintro e w1 ⟨rfl, hb⟩
    have HL1 := Lib.hid (HL.out.below hb)
    have hP1 : P < w1.heap.size := HL1.out.lt
    have c3_1 : w1.cell? ⟨P, 3, none⟩ = Option.some (.int .u64 x.now) := HL1.out.cell 3
    have c4_1 : w1.cell? ⟨P, 4, none⟩ = Option.some v := HL1.out.cell 4
    have f3_1 : w1.frozen? ⟨P, 3, none⟩ = false := HL1.out.free 3
    have f4_1 : w1.frozen? ⟨P, 4, none⟩ = false := HL1.out.free 4
    rw [v_eq] at c4_1
    go_wp2_with fail
    go_returns
    rw [E0.out, X0.out]
    exact MutAt.same HL.out (by go_grown)
  have e0 : enE x id ra = 0 := by unfold enE; rw [if_neg (by omega), hn, if_neg g4, if_neg g5]
  have E0 := Lib.hid e0
  have q5 : decide ((200 : Int) ≤ (x.l.length : Int)) = false := by simp; omega
  by_cases g6 : t ≤ x.now
  · have X0 : Hid (enX x t id ra = { x with now := x.now, l := x.l ++ [⟨id, ra, x.now⟩] }) := Lib.hid (by unfold enX; rw [if_pos e0, show max x.now t = x.now from by omega])
    clear X1 hn g3 e0
    subst v_eq
    go_enter Try.func10, Try.ntmps10
    go_wp2_with fail
    with_reducible refine (none_ok P x _ _ HL.out h1).mono ?_
    rintro e w' ⟨rfl, rfl⟩
    go_wp2_with fail
    with_reducible refine (rvalidc ra true _ HR.out).mono ?_
    rintro e w' ⟨rfl, rfl⟩
    go_wp2_with fail
    with_reducible refine (find25c P x _ id n _ HL.out HN.out).mono ?_
    rintro e w1 ⟨rfl, hb⟩
    have hb1 := hb
    have HL1 := Lib.hid (HL.out.below hb)
    have hP1 : P < w1.heap.size := HL1.out.lt
    have c3_1 : w1.cell? ⟨P, 3, none⟩ = Option.some (.int .u64 x.now) := HL1.out.cell 3
    have c4_1 : w1.cell? ⟨P, 4, none⟩ = Option.some (.slice av x.l.length cv) := HL1.out.cell 4
    have f3_1 : w1.frozen? ⟨P, 3, none⟩ = false := HL1.out.free 3
    have f4_1 : w1.frozen? ⟨P, 4, none⟩ = false := HL1.out.free 4
    go_wp2_with fail
    have c0_1 : w1.cell? ⟨P, 0, none⟩ = Option.some (.int .i64 x.ba) := HL1.out.cell 0
    have c1_1 : w1.cell? ⟨P, 1, none⟩ = Option.some (.int .i64 x.st) := HL1.out.cell 1
    have c2_1 : w1.cell? ⟨P, 2, none⟩ = Option.some (.int .u64 x.to) := HL1.out.cell 2
    have f0_1 : w1.frozen? ⟨P, 0, none⟩ = false := HL1.out.free 0
    have f1_1 : w1.frozen? ⟨P, 1, none⟩ = false := HL1.out.free 1
    have f2_1 : w1.frozen? ⟨P, 2, none⟩ = false := HL1.out.free 2
    refine rg10_10 (w0 := w1) (B := 0) (n := w1.heap.size) (L := [(P, 0, .int .i64 x.ba), (P, 1, .int .i64 x.st), (P, 2, .int .u64 x.to), (P, 3, .int .u64 x.now), (P, 4, (.slice av x.l.length cv))]) (E := fun W => LobAt W P { x with now := x.now } (.slice av x.l.length cv) ∧ Onl (foot P (.slice av x.l.length cv)) w1 W) (F := fun _ => True) (by kernel_rfl) (by kernel_rfl) ⟨by go_grown, by go_size, (by simp [go_sem, c0_1, c1_1, c2_1, c3_1, c4_1, f0_1, f1_1, f2_1, f3_1, f4_1] <;> omega)⟩ ⟨lob_now HL1.out _, Onl.setCell (q := ⟨P, 3, none⟩) (Onl.refl _ _) (.inl (mem_foot.2 (.inl rfl))) _⟩ (fun _ _ h hb => ⟨h.1.below hb, h.2.grow hb⟩) trivial (fun _ _ _ _ => trivial) (fun w11 K_w11 E_w11 F_w11 => ?_)
    have _ne : Nonempty (KX (0) w1 (w1.heap.size) [(P, 0, .int .i64 x.ba), (P, 1, .int .i64 x.st), (P, 2, .int .u64 x.to), (P, 3, .int .u64 x.now), (P, 4, (.slice av x.l.length cv))] (fun W => LobAt W P { x with now := x.now } (.slice av x.l.length cv) ∧ Onl (foot P (.slice av x.l.length cv)) w1 W)) := ⟨⟨_, K_w11, E_w11⟩⟩
    repeat (go_big_quiet_step (fail))
    refine wpQuiet_nil ?_
    have rP0 : ∀ s : KX (0) w1 (w1.heap.size) [(P, 0, .int .i64 x.ba), (P, 1, .int .i64 x.st), (P, 2, .int .u64 x.to), (P, 3, .int .u64 x.now), (P, 4, (.slice av x.l.length cv))] (fun W => LobAt W P { x with now := x.now } (.slice av x.l.length cv) ∧ Onl (foot P (.slice av x.l.length cv)) w1 W), s.val.cell? ⟨P, 0, none⟩ = some (.int .i64 x.ba) := fun s => s.kept.at (by simp)
    have rP1 : ∀ s : KX (0) w1 (w1.heap.size) [(P, 0, .int .i64 x.ba), (P, 1, .int .i64 x.st), (P, 2, .int .u64 x.to), (P, 3, .int .u64 x.now), (P, 4, (.slice av x.l.length cv))] (fun W => LobAt W P { x with now := x.now } (.slice av x.l.length cv) ∧ Onl (foot P (.slice av x.l.length cv)) w1 W), s.val.cell? ⟨P, 1, none⟩ = some (.int .i64 x.st) := fun s => s.kept.at (by simp)
    have rP2 : ∀ s : KX (0) w1 (w1.heap.size) [(P, 0, .int .i64 x.ba), (P, 1, .int .i64 x.st), (P, 2, .int .u64 x.to), (P, 3, .int .u64 x.now), (P, 4, (.slice av x.l.length cv))] (fun W => LobAt W P { x with now := x.now } (.slice av x.l.length cv) ∧ Onl (foot P (.slice av x.l.length cv)) w1 W), s.val.cell? ⟨P, 2, none⟩ = some (.int .u64 x.to) := fun s => s.kept.at (by simp)
    have rP3 : ∀ s : KX (0) w1 (w1.heap.size) [(P, 0, .int .i64 x.ba), (P, 1, .int .i64 x.st), (P, 2, .int .u64 x.to), (P, 3, .int .u64 x.now), (P, 4, (.slice av x.l.length cv))] (fun W => LobAt W P { x with now := x.now } (.slice av x.l.length cv) ∧ Onl (foot P (.slice av x.l.length cv)) w1 W), s.val.cell? ⟨P, 3, none⟩ = some (.int .u64 x.now) := fun s => s.kept.at (by simp)
    have rP4 : ∀ s : KX (0) w1 (w1.heap.size) [(P, 0, .int .i64 x.ba), (P, 1, .int .i64 x.st), (P, 2, .int .u64 x.to), (P, 3, .int .u64 x.now), (P, 4, (.slice av x.l.length cv))] (fun W => LobAt W P { x with now := x.now } (.slice av x.l.length cv) ∧ Onl (foot P (.slice av x.l.length cv)) w1 W), s.val.cell? ⟨P, 4, none⟩ = some ((.slice av x.l.length cv)) := fun s => s.kept.at (by simp)
    repeat (go_big_quiet_step (fail))
    refine wpQuiet_nil ?_
    clear rP0 rP1 rP2 rP3 rP4
    repeat (go_big_quiet_step (fail))
    refine wpQuiet_nil ?_
    have KH_w11 := Lib.hid K_w11
    have hw_w11 := K_w11.below
    have hz_w11 := K_w11.size
    have lP_w11 : P < w11.heap.size := by omega
    clear c0_1 c1_1 c2_1 c3_1 c4_1 f0_1 f1_1 f2_1 f3_1 f4_1
    clear K_w11
    have HE := Lib.hid E_w11
    clear E_w11 F_w11
    refine ⟨fun K hK0 => ?_, trivial⟩
    have hK := Lib.hid hK0
    clear hK0
    go_wp2_with fail
    first | (refine ⟨rfl, ⟨⟨_, KH_w11.out.step (by omega) ((Below.refl _ _).alloc (Nat.le_refl _) _), ⟨HE.out.1.below ((Below.refl _ _).alloc (Nat.le_refl _) _), HE.out.2.grow ((Below.refl _ _).alloc (Nat.le_refl _) _)⟩⟩, rfl⟩, hK.out _ _ ?_⟩; clear hK K) | (refine ⟨⟨⟨_, KH_w11.out.step (by omega) ((Below.refl _ _).alloc (Nat.le_refl _) _), ⟨HE.out.1.below ((Below.refl _ _).alloc (Nat.le_refl _) _), HE.out.2.grow ((Below.refl _ _).alloc (Nat.le_refl _) _)⟩⟩, rfl⟩, hK.out _ _ ?_⟩; clear hK K)
    refine ⟨fun K hK0 => ?_, trivial⟩
    have hK := Lib.hid hK0
    clear hK0
    have cP0_w11 := KH_w11.out.at (b := P) (o := 0) (v := .int .i64 x.ba) (by simp)
    have fP0_w11 := KH_w11.out.free (b := P) (o := 0) (v := .int .i64 x.ba) (by simp)
    have cP1_w11 := KH_w11.out.at (b := P) (o := 1) (v := .int .i64 x.st) (by simp)
    have fP1_w11 := KH_w11.out.free (b := P) (o := 1) (v := .int .i64 x.st) (by simp)
    have cP2_w11 := KH_w11.out.at (b := P) (o := 2) (v := .int .u64 x.to) (by simp)
    have fP2_w11 := KH_w11.out.free (b := P) (o := 2) (v := .int .u64 x.to) (by simp)
    have cP3_w11 := KH_w11.out.at (b := P) (o := 3) (v := .int .u64 x.now) (by simp)
    have fP3_w11 := KH_w11.out.free (b := P) (o := 3) (v := .int .u64 x.now) (by simp)
    have cP4_w11 := KH_w11.out.at (b := P) (o := 4) (v := (.slice av x.l.length cv)) (by simp)
    have fP4_w11 := KH_w11.out.free (b := P) (o := 4) (v := (.slice av x.l.length cv)) (by simp)
    go_wp2_with (at_builtin; refine wpList_append_ow (f := plc) (sz := 3) rfl _ _ 59 rfl 0 71 (.agg #[.int .i64 0, .int .i64 0, .int .u64 0]) 24 Try.underlying59 info71 rfl (by decide) _ x.l rfl (HE.out.1.row.below ((Below.refl _ _).alloc (Nat.le_refl _) _)) plc_ok _ [⟨id, ra, x.now⟩] rfl (rw_one (b := 0) (⟨id, ra, x.now⟩ : Pl)) ?c2 ?c3 (Nat.zero_le _) ?_)
    case c2 => simp [maxLen]; omega
    case c3 => simp; omega
    intro v' wA hown hgrow hwh
    have hbA := lob_grown (HE.out.1.below ((Below.refl _ _).alloc (Nat.le_refl _) _)).blk (HE.out.1.row.below ((Below.refl _ _).alloc (Nat.le_refl _) _)) hgrow
    have hOA : Onl (foot P (.slice av x.l.length cv)) w1 wA := (HE.out.2.grow ((Below.refl _ _).alloc (Nat.le_refl _) _)).grown hgrow (fun q hq => .inl (mem_foot.2 (.inr hq)))
    have hfA : wA.frozen? ⟨P, 4, none⟩ = false := frozen_of_row wA P 4 _ 61 hbA
    have hcA : wA.cell? ⟨P, 4, none⟩ = Option.some (.slice av x.l.length cv) := cell_of_row wA P 4 _ 61 (0, 0) hbA
    obtain ⟨a', c', hv'⟩ := hown.form
    rw [List.length_append, List.length_singleton] at hv'
    subst hv'
    have HA := Lib.hid (lob_put hbA hown)
    have HOA := Lib.hid hOA
    have HW : Hid (∀ b, (Value.slice a' (x.l.length + 1) c').ownBlock = Option.some b → (Value.slice av x.l.length cv).ownBlock = Option.some b ∨ w1.heap.size ≤ b) := Lib.hid (fun b hb => by
      rcases hwh with h | h
      · exact .inl (h ▸ hb)
      · rw [h] at hb
        simp at hb
        right
        omega)
    clear hbA hown hgrow hwh hOA
    go_wp2_with fail
    first | (refine ⟨rfl, hK.out _ _ ?_⟩; clear hK K) | (refine hK.out _ _ ?_; clear hK K)
    repeat (go_big_quiet_step (fail))
    refine wpQuiet_nil ?_
    refine ⟨fun K hK0 => ?_, trivial⟩
    have hK := Lib.hid hK0
    clear hK0
    go_wp2_with fail
    first | (refine ⟨rfl, hK.out _ _ ?_⟩; clear hK K) | (refine hK.out _ _ ?_; clear hK K)
    clear _ne
    go_wp2_with fail
    go_returns
    rw [E0.out, X0.out]
    exact ⟨_, rfl, HA.out, fun b hb => (HW.out b hb).imp (fun h => h) (fun h => Nat.le_trans hb1.size h), (Onl.of hb1).trans (HOA.out.setCell (q := ⟨P, 4, none⟩) (.inl (mem_foot.2 (.inl rfl))) _)⟩
  · have X0 : Hid (enX x t id ra = { x with now := t, l := x.l ++ [⟨id, ra, t⟩] }) := Lib.hid (by unfold enX; rw [if_pos e0, show max x.now t = t from by omega])
    have g7 : x.now < t := by omega
    clear X1 hn g3 e0
    subst v_eq
    go_enter Try.func10, Try.ntmps10
    go_wp2_with fail
    with_reducible refine (none_ok P x _ _ HL.out h1).mono ?_
    rintro e w' ⟨rfl, rfl⟩
    go_wp2_with fail
    with_reducible refine (rvalidc ra true _ HR.out).mono ?_
    rintro e w' ⟨rfl, rfl⟩
    go_wp2_with fail
    with_reducible refine (find25c P x _ id n _ HL.out HN.out).mono ?_
    rintro e w1 ⟨rfl, hb⟩
    have hb1 := hb
    have HL1 := Lib.hid (HL.out.below hb)
    have hP1 : P < w1.heap.size := HL1.out.lt
    have c3_1 : w1.cell? ⟨P, 3, none⟩ = Option.some (.int .u64 x.now) := HL1.out.cell 3
    have c4_1 : w1.cell? ⟨P, 4, none⟩ = Option.some (.slice av x.l.length cv) := HL1.out.cell 4
    have f3_1 : w1.frozen? ⟨P, 3, none⟩ = false := HL1.out.free 3
    have f4_1 : w1.frozen? ⟨P, 4, none⟩ = false := HL1.out.free 4
    go_wp2_with fail
    have c0_1 : w1.cell? ⟨P, 0, none⟩ = Option.some (.int .i64 x.ba) := HL1.out.cell 0
    have c1_1 : w1.cell? ⟨P, 1, none⟩ = Option.some (.int .i64 x.st) := HL1.out.cell 1
    have c2_1 : w1.cell? ⟨P, 2, none⟩ = Option.some (.int .u64 x.to) := HL1.out.cell 2
    have f0_1 : w1.frozen? ⟨P, 0, none⟩ = false := HL1.out.free 0
    have f1_1 : w1.frozen? ⟨P, 1, none⟩ = false := HL1.out.free 1
    have f2_1 : w1.frozen? ⟨P, 2, none⟩ = false := HL1.out.free 2
    refine rg10_10 (w0 := w1) (B := 0) (n := w1.heap.size) (L := [(P, 0, .int .i64 x.ba), (P, 1, .int .i64 x.st), (P, 2, .int .u64 x.to), (P, 3, .int .u64 t), (P, 4, (.slice av x.l.length cv))]) (E := fun W => LobAt W P { x with now := t } (.slice av x.l.length cv) ∧ Onl (foot P (.slice av x.l.length cv)) w1 W) (F := fun _ => True) (by kernel_rfl) (by kernel_rfl) ⟨by go_grown, by go_size, (by simp [go_sem, c0_1, c1_1, c2_1, c3_1, c4_1, f0_1, f1_1, f2_1, f3_1, f4_1] <;> omega)⟩ ⟨lob_now HL1.out _, Onl.setCell (q := ⟨P, 3, none⟩) (Onl.refl _ _) (.inl (mem_foot.2 (.inl rfl))) _⟩ (fun _ _ h hb => ⟨h.1.below hb, h.2.grow hb⟩) trivial (fun _ _ _ _ => trivial) (fun w11 K_w11 E_w11 F_w11 => ?_)
    have _ne : Nonempty (KX (0) w1 (w1.heap.size) [(P, 0, .int .i64 x.ba), (P, 1, .int .i64 x.st), (P, 2, .int .u64 x.to), (P, 3, .int .u64 t), (P, 4, (.slice av x.l.length cv))] (fun W => LobAt W P { x with now := t } (.slice av x.l.length cv) ∧ Onl (foot P (.slice av x.l.length cv)) w1 W)) := ⟨⟨_, K_w11, E_w11⟩⟩
    repeat (go_big_quiet_step (fail))
    refine wpQuiet_nil ?_
    have rP0 : ∀ s : KX (0) w1 (w1.heap.size) [(P, 0, .int .i64 x.ba), (P, 1, .int .i64 x.st), (P, 2, .int .u64 x.to), (P, 3, .int .u64 t), (P, 4, (.slice av x.l.length cv))] (fun W => LobAt W P { x with now := t } (.slice av x.l.length cv) ∧ Onl (foot P (.slice av x.l.length cv)) w1 W), s.val.cell? ⟨P, 0, none⟩ = some (.int .i64 x.ba) := fun s => s.kept.at (by simp)
    have rP1 : ∀ s : KX (0) w1 (w1.heap.size) [(P, 0, .int .i64 x.ba), (P, 1, .int .i64 x.st), (P, 2, .int .u64 x.to), (P, 3, .int .u64 t), (P, 4, (.slice av x.l.length cv))] (fun W => LobAt W P { x with now := t } (.slice av x.l.length cv) ∧ Onl (foot P (.slice av x.l.length cv)) w1 W), s.val.cell? ⟨P, 1, none⟩ = some (.int .i64 x.st) := fun s => s.kept.at (by simp)
    have rP2 : ∀ s : KX (0) w1 (w1.heap.size) [(P, 0, .int .i64 x.ba), (P, 1, .int .i64 x.st), (P, 2, .int .u64 x.to), (P, 3, .int .u64 t), (P, 4, (.slice av x.l.length cv))] (fun W => LobAt W P { x with now := t } (.slice av x.l.length cv) ∧ Onl (foot P (.slice av x.l.length cv)) w1 W), s.val.cell? ⟨P, 2, none⟩ = some (.int .u64 x.to) := fun s => s.kept.at (by simp)
    have rP3 : ∀ s : KX (0) w1 (w1.heap.size) [(P, 0, .int .i64 x.ba), (P, 1, .int .i64 x.st), (P, 2, .int .u64 x.to), (P, 3, .int .u64 t), (P, 4, (.slice av x.l.length cv))] (fun W => LobAt W P { x with now := t } (.slice av x.l.length cv) ∧ Onl (foot P (.slice av x.l.length cv)) w1 W), s.val.cell? ⟨P, 3, none⟩ = some (.int .u64 t) := fun s => s.kept.at (by simp)
    have rP4 : ∀ s : KX (0) w1 (w1.heap.size) [(P, 0, .int .i64 x.ba), (P, 1, .int .i64 x.st), (P, 2, .int .u64 x.to), (P, 3, .int .u64 t), (P, 4, (.slice av x.l.length cv))] (fun W => LobAt W P { x with now := t } (.slice av x.l.length cv) ∧ Onl (foot P (.slice av x.l.length cv)) w1 W), s.val.cell? ⟨P, 4, none⟩ = some ((.slice av x.l.length cv)) := fun s => s.kept.at (by simp)
    repeat (go_big_quiet_step (fail))
    refine wpQuiet_nil ?_
    clear rP0 rP1 rP2 rP3 rP4
    repeat (go_big_quiet_step (fail))
    refine wpQuiet_nil ?_
    have KH_w11 := Lib.hid K_w11
    have hw_w11 := K_w11.below
    have hz_w11 := K_w11.size
    have lP_w11 : P < w11.heap.size := by omega
    clear c0_1 c1_1 c2_1 c3_1 c4_1 f0_1 f1_1 f2_1 f3_1 f4_1
    clear K_w11
    have HE := Lib.hid E_w11
    clear E_w11 F_w11
    refine ⟨fun K hK0 => ?_, trivial⟩
    have hK := Lib.hid hK0
    clear hK0
    go_wp2_with fail
    first | (refine ⟨rfl, ⟨⟨_, KH_w11.out.step (by omega) ((Below.refl _ _).alloc (Nat.le_refl _) _), ⟨HE.out.1.below ((Below.refl _ _).alloc (Nat.le_refl _) _), HE.out.2.grow ((Below.refl _ _).alloc (Nat.le_refl _) _)⟩⟩, rfl⟩, hK.out _ _ ?_⟩; clear hK K) | (refine ⟨⟨⟨_, KH_w11.out.step (by omega) ((Below.refl _ _).alloc (Nat.le_refl _) _), ⟨HE.out.1.below ((Below.refl _ _).alloc (Nat.le_refl _) _), HE.out.2.grow ((Below.refl _ _).alloc (Nat.le_refl _) _)⟩⟩, rfl⟩, hK.out _ _ ?_⟩; clear hK K)
    refine ⟨fun K hK0 => ?_, trivial⟩
    have hK := Lib.hid hK0
    clear hK0
    have cP0_w11 := KH_w11.out.at (b := P) (o := 0) (v := .int .i64 x.ba) (by simp)
    have fP0_w11 := KH_w11.out.free (b := P) (o := 0) (v := .int .i64 x.ba) (by simp)
    have cP1_w11 := KH_w11.out.at (b := P) (o := 1) (v := .int .i64 x.st) (by simp)
    have fP1_w11 := KH_w11.out.free (b := P) (o := 1) (v := .int .i64 x.st) (by simp)
    have cP2_w11 := KH_w11.out.at (b := P) (o := 2) (v := .int .u64 x.to) (by simp)
    have fP2_w11 := KH_w11.out.free (b := P) (o := 2) (v := .int .u64 x.to) (by simp)
    have cP3_w11 := KH_w11.out.at (b := P) (o := 3) (v := .int .u64 t) (by simp)
    have fP3_w11 := KH_w11.out.free (b := P) (o := 3) (v := .int .u64 t) (by simp)
    have cP4_w11 := KH_w11.out.at (b := P) (o := 4) (v := (.slice av x.l.length cv)) (by simp)
    have fP4_w11 := KH_w11.out.free (b := P) (o := 4) (v := (.slice av x.l.length cv)) (by simp)
    go_wp2_with (at_builtin; refine wpList_append_ow (f := plc) (sz := 3) rfl _ _ 59 rfl 0 71 (.agg #[.int .i64 0, .int .i64 0, .int .u64 0]) 24 Try.underlying59 info71 rfl (by decide) _ x.l rfl (HE.out.1.row.below ((Below.refl _ _).alloc (Nat.le_refl _) _)) plc_ok _ [⟨id, ra, t⟩] rfl (rw_one (b := 0) (⟨id, ra, t⟩ : Pl)) ?c2 ?c3 (Nat.zero_le _) ?_)
    case c2 => simp [maxLen]; omega
    case c3 => simp; omega
    intro v' wA hown hgrow hwh
    have hbA := lob_grown (HE.out.1.below ((Below.refl _ _).alloc (Nat.le_refl _) _)).blk (HE.out.1.row.below ((Below.refl _ _).alloc (Nat.le_refl _) _)) hgrow
    have hOA : Onl (foot P (.slice av x.l.length cv)) w1 wA := (HE.out.2.grow ((Below.refl _ _).alloc (Nat.le_refl _) _)).grown hgrow (fun q hq => .inl (mem_foot.2 (.inr hq)))
    have hfA : wA.frozen? ⟨P, 4, none⟩ = false := frozen_of_row wA P 4 _ 61 hbA
    have hcA : wA.cell? ⟨P, 4, none⟩ = Option.some (.slice av x.l.length cv) := cell_of_row wA P 4 _ 61 (0, 0) hbA
    obtain ⟨a', c', hv'⟩ := hown.form
    rw [List.length_append, List.length_singleton] at hv'
    subst hv'
    have HA := Lib.hid (lob_put hbA hown)
    have HOA := Lib.hid hOA
    have HW : Hid (∀ b, (Value.slice a' (x.l.length + 1) c').ownBlock = Option.some b → (Value.slice av x.l.length cv).ownBlock = Option.some b ∨ w1.heap.size ≤ b) := Lib.hid (fun b hb => by
      rcases hwh with h | h
      · exact .inl (h ▸ hb)
      · rw [h] at hb
        simp at hb
        right
        omega)
    clear hbA hown hgrow hwh hOA
    go_wp2_with fail
    first | (refine ⟨rfl, hK.out _ _ ?_⟩; clear hK K) | (refine hK.out _ _ ?_; clear hK K)
    repeat (go_big_quiet_step (fail))
    refine wpQuiet_nil ?_
    refine ⟨fun K hK0 => ?_, trivial⟩
    have hK := Lib.hid hK0
    clear hK0
    go_wp2_with fail
    first | (refine ⟨rfl, hK.out _ _ ?_⟩; clear hK K) | (refine hK.out _ _ ?_; clear hK K)
    clear _ne
    go_wp2_with fail
    go_returns
    rw [E0.out, X0.out]
    exact ⟨_, rfl, HA.out, fun b hb => (HW.out b hb).imp (fun h => h) (fun h => Nat.le_trans hb1.size h), (Onl.of hb1).trans (HOA.out.setCell (q := ⟨P, 4, none⟩) (.inl (mem_foot.2 (.inl rfl))) _)⟩

end Go.Proofs.Ytonaidjdkejoeaa
