/- Leave, Clone, Copy. -/
import Derived.Test.YtonaidjdkejoeaaLe
import Derived.LoopTactic
namespace Go.Proofs.Ytonaidjdkejoeaa
open Go.RowKit Plain
set_option linter.unusedVariables false
set_option linter.unusedSimpArgs false

set_option maxRecDepth 100000 in
set_option maxHeartbeats 2000000 in
theorem leave18 (P : Nat) (x : Lb) (v : Value) (id : Int) (w : World) (hl : LobAt w P x v) (ok : x.Ok) : Calls Try.prog 18 #[.pointer (some ⟨P, 0, none⟩), .int .i64 id] w (MutAt P v w (.returned (.int .i64 (leE x id))) (leX x id)) := by
  have h1 := ok.o0
  have HL := Lib.hid hl
  obtain ⟨n, hn⟩ : ∃ n, fnd x.l id = n := ⟨_, rfl⟩
  have HN := Lib.hid hn
  have hbd := fnd_bd x.l id
  rw [hn] at hbd
  obtain ⟨hb1, hb2, _⟩ := hbd
  by_cases h0 : n < 0
  · have E0 : Hid (leE x id = 9) := Lib.hid (by unfold leE; rw [hn, if_neg (by omega)])
    have X0 : Hid (leX x id = x) := Lib.hid (by unfold leX; rw [hn, if_neg (by omega)])
    clear hl hn
    go_enter Try.func18, Try.ntmps18
    go_wp2_with fail
    with_reducible refine (none_ok P x _ _ HL.out h1).mono ?_
    rintro e w' ⟨rfl, rfl⟩
    go_wp2_with fail
    with_reducible refine (find25c P x _ id _ _ HL.out HN.out).mono ?_
    rintro e w1 ⟨rfl, hb⟩
    have HL1 := Lib.hid (HL.out.below hb)
    go_wp2_with fail
    go_returns
    rw [E0.out, X0.out]
    exact MutAt.same HL.out (by go_grown)
  · have E0 : Hid (leE x id = 0) := Lib.hid (by unfold leE; rw [hn, if_pos (by omega)])
    have X1 : leX x id = { x with l := x.l.eraseIdx n.toNat } := by unfold leX; rw [hn, if_pos (by omega)]
    obtain ⟨k, rfl⟩ : ∃ k : Nat, n = k := ⟨n.toNat, by omega⟩
    rw [Int.toNat_natCast] at X1
    have X0 := Lib.hid X1
    obtain ⟨m, hm⟩ : ∃ m, x.l.length = k + m + 1 := ⟨x.l.length - k - 1, by omega⟩
    have HLEN := Lib.hid hm
    obtain ⟨g, cap, hv⟩ : ∃ g cap, v = .slice (some ⟨g, 0, none⟩) x.l.length cap := by
      rcases hl.row.2 with ⟨_, h2⟩ | ⟨g, cap, _, h2, _⟩
      · omega
      · exact ⟨g, cap, h2⟩
    subst hv
    have hk200 : k + m + 1 ≤ 200 := by have := ok.len; omega
    clear X1 hl hn hm hb1 hb2 h0
    go_enter Try.func18, Try.ntmps18
    go_wp2_with fail
    with_reducible refine (none_ok P x _ _ HL.out h1).mono ?_
    rintro e w' ⟨rfl, rfl⟩
    go_wp2_with fail
    with_reducible refine (find25c P x _ id _ _ HL.out HN.out).mono ?_
    rintro e w1 ⟨rfl, hb⟩
    have HL1 := Lib.hid (HL.out.below hb)
    have c4_1 : w1.cell? ⟨P, 4, none⟩ = Option.some (.slice (some ⟨g, 0, none⟩) (k + m + 1) cap) := by have := HL1.out.cell 4; rw [HLEN.out] at this; exact this
    have f4_1 : w1.frozen? ⟨P, 4, none⟩ = false := HL1.out.free 4
    go_wp2_with fail
    with_reducible refine (delete33 g cap k m x.l _ HL1.out.row HLEN.out ok.len).mono ?_
    rintro e w2 ⟨rfl, hr2, ho2⟩
    have hgP : P ≠ g := fun e => LobAt.ne HL1.out.blk HL1.out.row g rfl e.symm
    have hb2 : w2.heap[P]? = Option.some (.cells (lbc x (.slice (some ⟨g, 0, none⟩) x.l.length cap)) 61 (0, 0)) := (ho2.block P HL1.out.lt (by simpa using hgP)).trans HL1.out.blk
    have HB2 := Lib.hid (lob_put hb2 hr2)
    have c4_2 : w2.cell? ⟨P, 4, none⟩ = Option.some (.slice (some ⟨g, 0, none⟩) (k + m + 1) cap) := by have := cell_of_row w2 P 4 _ 61 (0, 0) hb2; rw [HLEN.out] at this; exact this
    have f4_2 : w2.frozen? ⟨P, 4, none⟩ = false := frozen_of_row w2 P 4 _ 61 hb2
    have HO2 := Lib.hid ho2
    clear hb2 hr2 ho2
    go_wp2_with fail
    go_returns
    rw [E0.out, X0.out]
    exact ⟨_, rfl, HB2.out, fun b hb => .inl hb, ((Onl.of hb).trans (HO2.out.less (fun q hq => .inl (mem_foot.2 (.inr (by simp at hq; rw [hq]; rfl)))))).setCell (q := ⟨P, 4, none⟩) (.inl (mem_foot.2 (.inl rfl))) _⟩

/-- a copy of the players in a row of our own -/
def CloneAt (w : World) (l : List Pl) (e : Ending) (w' : World) : Prop := ∃ v, e = .returned v ∧ Ow plc 3 71 w' w.heap.size v l ∧ Below w.heap.size w w'
set_option maxRecDepth 100000 in
set_option maxHeartbeats 2000000 in
theorem clone34 (v : Value) (l : List Pl) (w : World) (hs : Rw plc 3 w v l) (h200 : l.length ≤ 200) : Calls Try.prog 34 #[v] w (CloneAt w l) := by
  have qT : ∀ (w : World) (a : Option Addr) (n c : Nat), (binOp .eql 59 (.slice a n c) (.slice none 0 0)).run Try.prog w = .ok (.bool a.isNone) w := fun w a n c => Lib.run_eql_slice_nil w 59 71 a n c 0 0 Try.underlying59
  have HS := Lib.hid hs
  obtain ⟨m1, a1, c1, rfl, _⟩ := hs.form
  clear hs
  cases a1 with
  | none =>
    have h0 : l = [] := by
      rcases HS.out with ⟨h, _⟩ | ⟨_, _, _, _, _, h, _⟩
      · exact h
      · cases h
    subst h0
    go_enter Try.func34, Try.ntmps34
    go_wp2_with fail
    go_returns
    exact ⟨_, rfl, Ow.nil _ _ _, Below.refl _ _⟩
  | some a1 =>
    go_enter Try.func34, Try.ntmps34
    go_wp2_with (at_builtin; refine wpList_append_ow (f := plc) (sz := 3) rfl _ _ 59 rfl w.heap.size 71 (.agg #[.int .i64 0, .int .i64 0, .int .u64 0]) 24 Try.underlying59 info71 rfl (by decide) _ [] rfl (Ow.lit w 71 [] #[] rfl (by simp) _ (Nat.le_refl _) (by simp)) plc_ok _ l rfl (HS.out.below (by go_grown)) ?c2 ?c3 (by simp) ?_)
    case c2 => simp [maxLen]; omega
    case c3 => simp; omega
    intro v' w1 hown hgrow _
    have hb1 : Below w.heap.size w w1 := ((Below.refl _ w).alloc (Nat.le_refl _) _).grown hgrow (by simp) (fun k hk => by simp [Value.ownBlock] at hk; omega)
    obtain ⟨a', c', rfl⟩ := hown.form
    have HO : Hid (Ow plc 3 71 w1 w.heap.size (.slice a' ([] ++ l).length c') l) := Lib.hid hown
    clear hown hgrow
    go_wp2_with fail
    go_returns
    exact ⟨_, rfl, HO.out, hb1⟩
theorem rg21_3 {P : Program} {B n : Nat} {w0 : World} {L : List (Nat × Nat × Value)} {E F : World → Prop} {id : Nat} {Q : Exit → Act → World → Prop} {a : Act} {w : World} {o0 o1 o2 o3 o4 o5 o6 o7 o8 o9 o10 o11 o12 o13 o14 o15 : Oper} (hm : P.follows .mixedOrders = true)
    (hB : (Region.noSelect [o0, o1, o2, o3, o4, o5, o6, o7, o8, o9, o10, o11, o12, o13, o14, o15].toArray && Scr.ok .any [o0, o1, o2, o3, o4, o5, o6, o7, o8, o9, o10, o11, o12, o13, o14, o15].toArray [3, 7, 11] [0, 1, 2, 4, 5, 6, 8, 9, 10, 13, 15] (.free 0 (.free 1 (.free 2 (.free 4 (.free 5 (.free 6 (.free 8 (.free 9 (.free 10 (.read 3 (.read 7 (.read 11 (.alt 12 (.free 13 (.altc 14 (.free 15 .done) .stop)) .stop))))))))))))) true true [o0, o1, o2, o3, o4, o5, o6, o7, o8, o9, o10, o11, o12, o13, o14, o15].toArray.size (Array.replicate [o0, o1, o2, o3, o4, o5, o6, o7, o8, o9, o10, o11, o12, o13, o14, o15].toArray.size false)) = true)
    (k : Kept B w0 n L w) (he : E w) (hE : ∀ W W', E W → Below W.heap.size W W' → E W') (hf : F w) (hF : ∀ W W', F W → Below W.heap.size W W' → F W')
    (h : ∀ wk, Kept B w0 n L wk → E wk → F wk → wpQuiet P [o0, o1, o2, o3, o4, o5, o6, o7, o8, o9, o10, o11, o12, o13, o14, o15].toArray (fun _ => True) (fun a0 => wpQuiet P [o0, o1, o2, o3, o4, o5, o6, o7, o8, o9, o10, o11, o12, o13, o14, o15].toArray (fun w' => ∃ s : KX B w0 n L E, w' = s.val) (fun a1 => ((∀ K2 : Act → World → Prop, (∀ a2 w2, wpQuiet P [o0, o1, o2, o3, o4, o5, o6, o7, o8, o9, o10, o11, o12, o13, o14, o15].toArray (fun _ => True) (fun a3 => ((∀ K4 : Act → World → Prop, (∀ a4 w4, wpQuiet P [o0, o1, o2, o3, o4, o5, o6, o7, o8, o9, o10, o11, o12, o13, o14, o15].toArray (fun _ => True) (fun a5 => Q .normal a5 w4) [o15] a4 → K4 a4 w4) → wpList P [o0, o1, o2, o3, o4, o5, o6, o7, o8, o9, o10, o11, o12, o13, o14, o15].toArray (fun e a4 w4 => e = .normal ∧ K4 a4 w4) [o14] a3 w2) ∧ True)) [o13] a2 → K2 a2 w2) → wpList P [o0, o1, o2, o3, o4, o5, o6, o7, o8, o9, o10, o11, o12, o13, o14, o15].toArray (fun e a2 w2 => e = .normal ∧ (∃ s : KX B w0 n L E, w2 = s.val) ∧ K2 a2 w2) [o12] a1 wk) ∧ True)) [o3, o7, o11] a0) [o0, o1, o2, o4, o5, o6, o8, o9, o10] a) : (Code.region id [o0, o1, o2, o3, o4, o5, o6, o7, o8, o9, o10, o11, o12, o13, o14, o15].toArray true).wp P Q a w := by
  have e1 : E w.drew := hE _ _ he ((Below.refl _ _).drew)
  have g := h _ k.drew e1 (hF _ _ hf ((Below.refl _ _).drew))
  exact wp_region_scr (U := (fun w' => ∃ s : KX B w0 n L E, w' = s.val)) (ops := [o0, o1, o2, o3, o4, o5, o6, o7, o8, o9, o10, o11, o12, o13, o14, o15].toArray) (.free 0 (.free 1 (.free 2 (.free 4 (.free 5 (.free 6 (.free 8 (.free 9 (.free 10 (.read 3 (.read 7 (.read 11 (.alt 12 (.free 13 (.altc 14 (.free 15 .done) .stop)) .stop))))))))))))) [3, 7, 11] [0, 1, 2, 4, 5, 6, 8, 9, 10, 13, 15] hm hB ⟨⟨_, k.drew, e1⟩, rfl⟩ (Scr.of_free rfl g (fun _ g0 => Scr.of_free rfl g0 (fun _ g1 => Scr.of_free rfl g1 (fun _ g2 => Scr.of_free rfl g2 (fun _ g3 => Scr.of_free rfl g3 (fun _ g4 => Scr.of_free rfl g4 (fun _ g5 => Scr.of_free rfl g5 (fun _ g6 => Scr.of_free rfl g6 (fun _ g7 => Scr.of_free rfl g7 (fun _ g8 => Scr.of_read rfl g8 (fun _ g9 => Scr.of_read rfl g9 (fun _ g10 => Scr.of_read rfl g10 (fun _ g11 => (Scr.of_alt rfl (g11.1 _ (fun _ _ g => g)) (fun _ _ g12 => Scr.of_free rfl g12 (fun _ g13 => (Scr.of_altc rfl (g13.1 _ (fun _ _ g => g)) (fun _ _ g14 => Scr.of_free rfl g14 (fun _ g15 => g15)) trivial))) trivial))))))))))))))
/-- a new lobby, which nothing else knows -/
def NewAt (w : World) (x : Lb) (e : Ending) (w' : World) : Prop := ∃ P v, e = .returned (.pointer (some ⟨P, 0, none⟩)) ∧ w.heap.size ≤ P ∧ LobAt w' P x v ∧ (∀ b, v.ownBlock = some b → w.heap.size ≤ b) ∧ Below w.heap.size w w'
set_option maxRecDepth 100000 in
set_option maxHeartbeats 2000000 in
theorem copy21 (P : Nat) (x : Lb) (v : Value) (w : World) (hl : LobAt w P x v) (ok : x.Ok) : Calls Try.prog 21 #[.pointer (some ⟨P, 0, none⟩)] w (NewAt w x) := by
  have h1 := ok.o0
  have hP := hl.lt
  have HL := Lib.hid hl
  obtain ⟨av, cv, rfl⟩ := hl.row.form
  have c0 : w.cell? ⟨P, 0, none⟩ = Option.some (.int .i64 x.ba) := hl.cell 0
  have f0 : w.frozen? ⟨P, 0, none⟩ = false := hl.free 0
  have c1 : w.cell? ⟨P, 1, none⟩ = Option.some (.int .i64 x.st) := hl.cell 1
  have f1 : w.frozen? ⟨P, 1, none⟩ = false := hl.free 1
  have c2 : w.cell? ⟨P, 2, none⟩ = Option.some (.int .u64 x.to) := hl.cell 2
  have f2 : w.frozen? ⟨P, 2, none⟩ = false := hl.free 2
  have c3 : w.cell? ⟨P, 3, none⟩ = Option.some (.int .u64 x.now) := hl.cell 3
  have f3 : w.frozen? ⟨P, 3, none⟩ = false := hl.free 3
  have c4 : w.cell? ⟨P, 4, none⟩ = Option.some (.slice av x.l.length cv) := hl.cell 4
  have f4 : w.frozen? ⟨P, 4, none⟩ = false := hl.free 4
  clear hl
  go_enter Try.func21, Try.ntmps21
  go_wp2_with fail
  with_reducible refine (none_ok P x (.slice av x.l.length cv) _ HL.out h1).mono ?_
  rintro e w' ⟨rfl, rfl⟩
  go_wp2_with fail
  refine rg21_3 (w0 := w) (B := 0) (n := P + 1) (L := [(P, 0, .int .i64 x.ba), (P, 1, .int .i64 x.st), (P, 2, .int .u64 x.to), (P, 3, .int .u64 x.now), (P, 4, .slice av x.l.length cv)]) (E := fun W => LobAt W P x (.slice av x.l.length cv)) (F := fun W => Below w.heap.size w W) (by kernel_rfl) (by kernel_rfl) ⟨by go_grown, by go_size, (by simp [go_sem, c0, c1, c2, c3, c4, f0, f1, f2, f3, f4] <;> omega)⟩ HL.out (fun _ _ h hb => h.below hb) (Below.refl _ _) (fun _ _ h hb => h.trans (hb.mono h.size)) (fun w1 K_w1 E_w1 F_w1 => ?_)
  have _ne : Nonempty (KX (0) w (P + 1) [(P, 0, .int .i64 x.ba), (P, 1, .int .i64 x.st), (P, 2, .int .u64 x.to), (P, 3, .int .u64 x.now), (P, 4, .slice av x.l.length cv)] (fun W => LobAt W P x (.slice av x.l.length cv))) := ⟨⟨_, K_w1, E_w1⟩⟩
  repeat (go_big_quiet_step (fail))
  refine wpQuiet_nil ?_
  have rP0 : ∀ s : KX (0) w (P + 1) [(P, 0, .int .i64 x.ba), (P, 1, .int .i64 x.st), (P, 2, .int .u64 x.to), (P, 3, .int .u64 x.now), (P, 4, .slice av x.l.length cv)] (fun W => LobAt W P x (.slice av x.l.length cv)), s.val.cell? ⟨P, 0, none⟩ = some (.int .i64 x.ba) := fun s => s.kept.at (by simp)
  have rP1 : ∀ s : KX (0) w (P + 1) [(P, 0, .int .i64 x.ba), (P, 1, .int .i64 x.st), (P, 2, .int .u64 x.to), (P, 3, .int .u64 x.now), (P, 4, .slice av x.l.length cv)] (fun W => LobAt W P x (.slice av x.l.length cv)), s.val.cell? ⟨P, 1, none⟩ = some (.int .i64 x.st) := fun s => s.kept.at (by simp)
  have rP2 : ∀ s : KX (0) w (P + 1) [(P, 0, .int .i64 x.ba), (P, 1, .int .i64 x.st), (P, 2, .int .u64 x.to), (P, 3, .int .u64 x.now), (P, 4, .slice av x.l.length cv)] (fun W => LobAt W P x (.slice av x.l.length cv)), s.val.cell? ⟨P, 2, none⟩ = some (.int .u64 x.to) := fun s => s.kept.at (by simp)
  have rP3 : ∀ s : KX (0) w (P + 1) [(P, 0, .int .i64 x.ba), (P, 1, .int .i64 x.st), (P, 2, .int .u64 x.to), (P, 3, .int .u64 x.now), (P, 4, .slice av x.l.length cv)] (fun W => LobAt W P x (.slice av x.l.length cv)), s.val.cell? ⟨P, 3, none⟩ = some (.int .u64 x.now) := fun s => s.kept.at (by simp)
  have rP4 : ∀ s : KX (0) w (P + 1) [(P, 0, .int .i64 x.ba), (P, 1, .int .i64 x.st), (P, 2, .int .u64 x.to), (P, 3, .int .u64 x.now), (P, 4, .slice av x.l.length cv)] (fun W => LobAt W P x (.slice av x.l.length cv)), s.val.cell? ⟨P, 4, none⟩ = some (.slice av x.l.length cv) := fun s => s.kept.at (by simp)
  repeat (go_big_quiet_step (fail))
  refine wpQuiet_nil ?_
  clear rP0 rP1 rP2 rP3 rP4
  have KH_w1 := Lib.hid K_w1
  have hw_w1 := K_w1.below
  have hz_w1 := K_w1.size
  have lP_w1 : P < w1.heap.size := by omega
  clear c0 c1 c2 c3 c4 f0 f1 f2 f3 f4
  clear K_w1
  have HE := Lib.hid E_w1
  have HF := Lib.hid (F_w1)
  clear E_w1 F_w1
  refine ⟨fun K hK0 => ?_, trivial⟩
  have hK := Lib.hid hK0
  clear hK0
  go_wp2_with fail
  with_reducible refine (clone34 _ x.l _ HE.out.rw ok.len).mono ?_
  rintro e w2 ⟨v', rfl, hown, hb_w2⟩
  obtain ⟨a', c', rfl⟩ := hown.form
  have HO := Lib.hid hown
  have HE2 := Lib.hid (HE.out.below hb_w2)
  have HF2 := Lib.hid (HF.out.trans (hb_w2.mono HF.out.size))
  have HF1 := Lib.hid HF.out.size
  have K_w2 := (KH_w1.out.step (by omega) (by go_grown)).step (by omega) hb_w2
  have KH_w2 := Lib.hid K_w2
  have hz_w2 := K_w2.size
  have hw_w2 := K_w2.below
  have hbb := hb_w2.size
  clear K_w2 hb_w2 hown
  go_wp2_with fail
  first | (refine ⟨rfl, ⟨⟨_, KH_w2.out, HE2.out⟩, rfl⟩, hK.out _ _ ?_⟩; clear hK K) | (refine ⟨⟨⟨_, KH_w2.out, HE2.out⟩, rfl⟩, hK.out _ _ ?_⟩; clear hK K)
  repeat (go_big_quiet_step (fail))
  refine wpQuiet_nil ?_
  refine ⟨fun K hK0 => ?_, trivial⟩
  have hK := Lib.hid hK0
  clear hK0
  go_wp2_with fail
  first | (refine ⟨rfl, hK.out _ _ ?_⟩; clear hK K) | (refine hK.out _ _ ?_; clear hK K)
  repeat (go_big_quiet_step (fail))
  refine wpQuiet_nil ?_
  clear _ne
  go_wp2_with fail
  go_returns
  exact ⟨_, _, rfl, HF2.out.size, ⟨heap_alloc_new _ _, (HO.out.base (fun b _ => Nat.zero_le b)).below ((Below.refl _ _).alloc (Nat.le_refl _) _)⟩, fun b hb => Nat.le_trans HF1.out (HO.out.typ b hb).1, HF2.out.alloc HF2.out.size _⟩

end Go.Proofs.Ytonaidjdkejoeaa
