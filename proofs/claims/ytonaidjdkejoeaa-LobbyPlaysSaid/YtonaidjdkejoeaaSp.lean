/- One call of the law. -/
import Derived.Test.YtonaidjdkejoeaaMm
namespace Go.Proofs.Ytonaidjdkejoeaa
open Go.RowKit Plain
set_option linter.unusedVariables false
set_option linter.unusedSimpArgs false

theorem mod_mut {w w' : World} {P M : Nat} {x y : Lb} {v lv : Value} (hl : LobAt w P x v) (hm : ModAt w M y lv) (ho : Onl (foot P v) w w') : ModAt w' M y lv := by
  refine hm.onl ho (fun h => ?_) (fun b hb h => ?_)
  · rcases mem_foot.1 h with rfl | h2
    · have h3 := hl.blk.symm.trans hm.blk
      simp at h3
    · exact MNOT hm.blk hl.row (by decide) M h2 rfl
  · rcases mem_foot.1 h with rfl | h2
    · exact hl.notP hm.row (by decide) hb
    · exact hm.row.ne hl.row (by decide) b hb h2
theorem lob_mut {w w' : World} {P M : Nat} {x y : Lb} {v lv : Value} (hl : LobAt w P x v) (hm : ModAt w M y lv) (ho : Onl [M] w w') : LobAt w' P x v := by
  refine hl.onl ho (fun h => ?_) (fun b hb h => ?_)
  · obtain rfl : P = M := by simpa using h
    have h3 := hl.blk.symm.trans hm.blk
    simp at h3
  · obtain rfl : b = M := by simpa using h
    exact MNOT hm.blk hl.row (by decide) b hb rfl
/-- another lobby goes on, and this one stays -/
theorem lob_other {w w' : World} {P Q : Nat} {x y : Lb} {v u : Value} (hl : LobAt w P x v) (hq : LobAt w Q y u) (hne : Q ≠ P) (hr : ∀ b, u.ownBlock = some b → v.ownBlock ≠ some b) (ho : Onl (foot P v) w w') : LobAt w' Q y u := by
  refine hq.onl ho (fun h => ?_) (fun b hb h => ?_)
  · rcases mem_foot.1 h with h2 | h2
    · exact hne h2
    · exact hq.notP hl.row (by decide) h2
  · rcases mem_foot.1 h with rfl | h2
    · exact hl.notP hq.row (by decide) hb
    · exact hr b hb h2
/-- what a step returns -/
def StepAt (P M : Nat) (v : Value) (w : World) (e : Ending) (w' : World) : Prop := ∃ P' x' v' lv', e = .returned (.tuple #[.pointer (some ⟨P', 0, none⟩), .bool true]) ∧ LobAt w' P' x' v' ∧ ModAt w' M x' lv' ∧ x'.Ok ∧ x'.Nd ∧ (P' = P ∨ w.heap.size ≤ P') ∧ (∀ b, v'.ownBlock = some b → v.ownBlock = some b ∨ w.heap.size ≤ b) ∧ Onl (M :: foot P v) w w'
theorem onl_more {S S' : List Nat} {w w' : World} (h : Onl S w w') (hs : ∀ k ∈ S, k ∈ S') : Onl S' w w' := h.less (fun k hk => .inl (hs k hk))
theorem rg17_3 {P : Program} {B n : Nat} {w0 : World} {L : List (Nat × Nat × Value)} {E F : World → Prop} {id : Nat} {Q : Exit → Act → World → Prop} {a : Act} {w : World} {o0 o1 o2 o3 o4 o5 o6 o7 o8 o9 o10 o11 o12 o13 o14 o15 o16 o17 o18 o19 : Oper} (hm : P.follows .mixedOrders = true)
    (hB : (Region.noSelect [o0, o1, o2, o3, o4, o5, o6, o7, o8, o9, o10, o11, o12, o13, o14, o15, o16, o17, o18, o19].toArray && Scr.ok .any [o0, o1, o2, o3, o4, o5, o6, o7, o8, o9, o10, o11, o12, o13, o14, o15, o16, o17, o18, o19].toArray [3, 5, 7, 11, 13, 15] [0, 1, 2, 4, 6, 9, 10, 12, 14, 17, 18, 19] (.free 0 (.free 1 (.free 2 (.free 4 (.free 6 (.free 9 (.free 10 (.free 12 (.free 14 (.read 3 (.read 5 (.read 7 (.read 11 (.read 13 (.read 15 (.alt 8 (.altc 16 (.free 17 (.free 18 (.free 19 .done))) .stop) .stop)))))))))))))))) true true [o0, o1, o2, o3, o4, o5, o6, o7, o8, o9, o10, o11, o12, o13, o14, o15, o16, o17, o18, o19].toArray.size (Array.replicate [o0, o1, o2, o3, o4, o5, o6, o7, o8, o9, o10, o11, o12, o13, o14, o15, o16, o17, o18, o19].toArray.size false)) = true)
    (k : Kept B w0 n L w) (he : E w) (hE : ∀ W W', E W → Below W.heap.size W W' → E W') (hf : F w) (hF : ∀ W W', F W → Below W.heap.size W W' → F W')
    (h : ∀ wk, Kept B w0 n L wk → E wk → F wk → wpQuiet P [o0, o1, o2, o3, o4, o5, o6, o7, o8, o9, o10, o11, o12, o13, o14, o15, o16, o17, o18, o19].toArray (fun _ => True) (fun a0 => wpQuiet P [o0, o1, o2, o3, o4, o5, o6, o7, o8, o9, o10, o11, o12, o13, o14, o15, o16, o17, o18, o19].toArray (fun w' => ∃ s : KX B w0 n L E, w' = s.val) (fun a1 => ((∀ K2 : Act → World → Prop, (∀ a2 w2, ((∀ K3 : Act → World → Prop, (∀ a3 w3, wpQuiet P [o0, o1, o2, o3, o4, o5, o6, o7, o8, o9, o10, o11, o12, o13, o14, o15, o16, o17, o18, o19].toArray (fun _ => True) (fun a4 => Q .normal a4 w3) [o17, o18, o19] a3 → K3 a3 w3) → wpList P [o0, o1, o2, o3, o4, o5, o6, o7, o8, o9, o10, o11, o12, o13, o14, o15, o16, o17, o18, o19].toArray (fun e a3 w3 => e = .normal ∧ K3 a3 w3) [o16] a2 w2) ∧ True) → K2 a2 w2) → wpList P [o0, o1, o2, o3, o4, o5, o6, o7, o8, o9, o10, o11, o12, o13, o14, o15, o16, o17, o18, o19].toArray (fun e a2 w2 => e = .normal ∧ (∃ s : KX B w0 n L E, w2 = s.val) ∧ K2 a2 w2) [o8] a1 wk) ∧ True)) [o3, o5, o7, o11, o13, o15] a0) [o0, o1, o2, o4, o6, o9, o10, o12, o14] a) : (Code.region id [o0, o1, o2, o3, o4, o5, o6, o7, o8, o9, o10, o11, o12, o13, o14, o15, o16, o17, o18, o19].toArray true).wp P Q a w := by
  have e1 : E w.drew := hE _ _ he ((Below.refl _ _).drew)
  have g := h _ k.drew e1 (hF _ _ hf ((Below.refl _ _).drew))
  exact wp_region_scr (U := (fun w' => ∃ s : KX B w0 n L E, w' = s.val)) (ops := [o0, o1, o2, o3, o4, o5, o6, o7, o8, o9, o10, o11, o12, o13, o14, o15, o16, o17, o18, o19].toArray) (.free 0 (.free 1 (.free 2 (.free 4 (.free 6 (.free 9 (.free 10 (.free 12 (.free 14 (.read 3 (.read 5 (.read 7 (.read 11 (.read 13 (.read 15 (.alt 8 (.altc 16 (.free 17 (.free 18 (.free 19 .done))) .stop) .stop)))))))))))))))) [3, 5, 7, 11, 13, 15] [0, 1, 2, 4, 6, 9, 10, 12, 14, 17, 18, 19] hm hB ⟨⟨_, k.drew, e1⟩, rfl⟩ (Scr.of_free rfl g (fun _ g0 => Scr.of_free rfl g0 (fun _ g1 => Scr.of_free rfl g1 (fun _ g2 => Scr.of_free rfl g2 (fun _ g3 => Scr.of_free rfl g3 (fun _ g4 => Scr.of_free rfl g4 (fun _ g5 => Scr.of_free rfl g5 (fun _ g6 => Scr.of_free rfl g6 (fun _ g7 => Scr.of_free rfl g7 (fun _ g8 => Scr.of_read rfl g8 (fun _ g9 => Scr.of_read rfl g9 (fun _ g10 => Scr.of_read rfl g10 (fun _ g11 => Scr.of_read rfl g11 (fun _ g12 => Scr.of_read rfl g12 (fun _ g13 => Scr.of_read rfl g13 (fun _ g14 => (Scr.of_alt rfl (g14.1 _ (fun _ _ g => g)) (fun _ _ g15 => (Scr.of_altc rfl (g15.1 _ (fun _ _ g => g)) (fun _ _ g16 => Scr.of_free rfl g16 (fun _ g17 => Scr.of_free rfl g17 (fun _ g18 => Scr.of_free rfl g18 (fun _ g19 => g19)))) trivial)) trivial)))))))))))))))))
theorem rg17_5 {P : Program} {B n : Nat} {w0 : World} {L : List (Nat × Nat × Value)} {E F : World → Prop} {id : Nat} {Q : Exit → Act → World → Prop} {a : Act} {w : World} {o0 o1 o2 o3 o4 o5 o6 o7 o8 o9 o10 o11 : Oper} (hm : P.follows .mixedOrders = true)
    (hB : (Region.noSelect [o0, o1, o2, o3, o4, o5, o6, o7, o8, o9, o10, o11].toArray && Scr.ok .any [o0, o1, o2, o3, o4, o5, o6, o7, o8, o9, o10, o11].toArray [3, 7] [0, 1, 2, 5, 6, 9, 10, 11] (.free 0 (.free 1 (.free 2 (.free 5 (.free 6 (.read 3 (.read 7 (.alt 4 (.altc 8 (.free 9 (.free 10 (.free 11 .done))) .stop) .stop)))))))) true true [o0, o1, o2, o3, o4, o5, o6, o7, o8, o9, o10, o11].toArray.size (Array.replicate [o0, o1, o2, o3, o4, o5, o6, o7, o8, o9, o10, o11].toArray.size false)) = true)
    (k : Kept B w0 n L w) (he : E w) (hE : ∀ W W', E W → Below W.heap.size W W' → E W') (hf : F w) (hF : ∀ W W', F W → Below W.heap.size W W' → F W')
    (h : ∀ wk, Kept B w0 n L wk → E wk → F wk → wpQuiet P [o0, o1, o2, o3, o4, o5, o6, o7, o8, o9, o10, o11].toArray (fun _ => True) (fun a0 => wpQuiet P [o0, o1, o2, o3, o4, o5, o6, o7, o8, o9, o10, o11].toArray (fun w' => ∃ s : KX B w0 n L E, w' = s.val) (fun a1 => ((∀ K2 : Act → World → Prop, (∀ a2 w2, ((∀ K3 : Act → World → Prop, (∀ a3 w3, wpQuiet P [o0, o1, o2, o3, o4, o5, o6, o7, o8, o9, o10, o11].toArray (fun _ => True) (fun a4 => Q .normal a4 w3) [o9, o10, o11] a3 → K3 a3 w3) → wpList P [o0, o1, o2, o3, o4, o5, o6, o7, o8, o9, o10, o11].toArray (fun e a3 w3 => e = .normal ∧ K3 a3 w3) [o8] a2 w2) ∧ True) → K2 a2 w2) → wpList P [o0, o1, o2, o3, o4, o5, o6, o7, o8, o9, o10, o11].toArray (fun e a2 w2 => e = .normal ∧ (∃ s : KX B w0 n L E, w2 = s.val) ∧ K2 a2 w2) [o4] a1 wk) ∧ True)) [o3, o7] a0) [o0, o1, o2, o5, o6] a) : (Code.region id [o0, o1, o2, o3, o4, o5, o6, o7, o8, o9, o10, o11].toArray true).wp P Q a w := by
  have e1 : E w.drew := hE _ _ he ((Below.refl _ _).drew)
  have g := h _ k.drew e1 (hF _ _ hf ((Below.refl _ _).drew))
  exact wp_region_scr (U := (fun w' => ∃ s : KX B w0 n L E, w' = s.val)) (ops := [o0, o1, o2, o3, o4, o5, o6, o7, o8, o9, o10, o11].toArray) (.free 0 (.free 1 (.free 2 (.free 5 (.free 6 (.read 3 (.read 7 (.alt 4 (.altc 8 (.free 9 (.free 10 (.free 11 .done))) .stop) .stop)))))))) [3, 7] [0, 1, 2, 5, 6, 9, 10, 11] hm hB ⟨⟨_, k.drew, e1⟩, rfl⟩ (Scr.of_free rfl g (fun _ g0 => Scr.of_free rfl g0 (fun _ g1 => Scr.of_free rfl g1 (fun _ g2 => Scr.of_free rfl g2 (fun _ g3 => Scr.of_free rfl g3 (fun _ g4 => Scr.of_read rfl g4 (fun _ g5 => Scr.of_read rfl g5 (fun _ g6 => (Scr.of_alt rfl (g6.1 _ (fun _ _ g => g)) (fun _ _ g7 => (Scr.of_altc rfl (g7.1 _ (fun _ _ g => g)) (fun _ _ g8 => Scr.of_free rfl g8 (fun _ g9 => Scr.of_free rfl g9 (fun _ g10 => Scr.of_free rfl g10 (fun _ g11 => g11)))) trivial)) trivial)))))))))
set_option maxRecDepth 100000 in
set_option maxHeartbeats 4000000 in
theorem step17_0 (P M : Nat) (x : Lb) (v lv : Value) (wh id ra t : Int) (w : World) (hl : LobAt w P x v) (hm : ModAt w M x lv) (ok : x.Ok) (nd : x.Nd) (ht : U t) (h0 : wh = 0) : Calls Try.prog 17 #[.pointer (some ⟨P, 0, none⟩), .pointer (some ⟨M, 0, none⟩), .agg #[.int .i64 wh, .int .i64 id, .int .i64 ra, .int .u64 t]] w (StepAt P M v w) := by
  have hP := hl.lt
  have hM := hm.lt
  have HNA : Hid (w.heap.size ∉ foot P v) := Lib.hid (fun h => by
    rcases mem_foot.1 h with h2 | h2
    · omega
    · have := (hl.row.typ _ h2).2.1; omega)
  subst h0
  go_enter Try.func17, Try.ntmps17
  go_wp2_with fail
  refine rg17_3 (w0 := w) (B := 0) (n := w.heap.size + 1) (L := [(w.heap.size, 0, .int .i64 0), (w.heap.size, 1, .int .i64 id), (w.heap.size, 2, .int .i64 ra), (w.heap.size, 3, .int .u64 t)]) (E := fun _ => True) (F := fun W => LobAt W P x v ∧ ModAt W M x lv ∧ Below w.heap.size w W) (by kernel_rfl) (by kernel_rfl) ⟨by go_grown, by go_size, (by simp [go_sem] <;> omega)⟩ trivial (fun _ _ _ _ => trivial) ⟨hl.below ((Below.refl _ _).alloc (Nat.le_refl _) _), hm.below ((Below.refl _ _).alloc (Nat.le_refl _) _), ((Below.refl _ _).alloc (Nat.le_refl _) _)⟩ (fun _ _ h hb => ⟨h.1.below hb, h.2.1.below hb, below_via h.2.2 hb⟩) (fun w1 K_w1 E_w1 F_w1 => ?_)
  have _ne : Nonempty (KX (0) w (w.heap.size + 1) [(w.heap.size, 0, .int .i64 0), (w.heap.size, 1, .int .i64 id), (w.heap.size, 2, .int .i64 ra), (w.heap.size, 3, .int .u64 t)] (fun _ => True)) := ⟨⟨_, K_w1, E_w1⟩⟩
  repeat (go_big_quiet_step (fail))
  refine wpQuiet_nil ?_
  have rA0 : ∀ s : KX (0) w (w.heap.size + 1) [(w.heap.size, 0, .int .i64 0), (w.heap.size, 1, .int .i64 id), (w.heap.size, 2, .int .i64 ra), (w.heap.size, 3, .int .u64 t)] (fun _ => True), s.val.cell? ⟨w.heap.size, 0, none⟩ = some (.int .i64 0) := fun s => s.kept.at (by simp)
  have rA1 : ∀ s : KX (0) w (w.heap.size + 1) [(w.heap.size, 0, .int .i64 0), (w.heap.size, 1, .int .i64 id), (w.heap.size, 2, .int .i64 ra), (w.heap.size, 3, .int .u64 t)] (fun _ => True), s.val.cell? ⟨w.heap.size, 1, none⟩ = some (.int .i64 id) := fun s => s.kept.at (by simp)
  have rA2 : ∀ s : KX (0) w (w.heap.size + 1) [(w.heap.size, 0, .int .i64 0), (w.heap.size, 1, .int .i64 id), (w.heap.size, 2, .int .i64 ra), (w.heap.size, 3, .int .u64 t)] (fun _ => True), s.val.cell? ⟨w.heap.size, 2, none⟩ = some (.int .i64 ra) := fun s => s.kept.at (by simp)
  have rA3 : ∀ s : KX (0) w (w.heap.size + 1) [(w.heap.size, 0, .int .i64 0), (w.heap.size, 1, .int .i64 id), (w.heap.size, 2, .int .i64 ra), (w.heap.size, 3, .int .u64 t)] (fun _ => True), s.val.cell? ⟨w.heap.size, 3, none⟩ = some (.int .u64 t) := fun s => s.kept.at (by simp)
  repeat (go_big_quiet_step (fail))
  refine wpQuiet_nil ?_
  clear rA0 rA1 rA2 rA3
  have KH_w1 := Lib.hid K_w1
  have hw_w1 := K_w1.below
  have hz_w1 := K_w1.size
  have lA_w1 : w.heap.size < w1.heap.size := by omega
  have cA0_w1 := K_w1.at (b := w.heap.size) (o := 0) (v := .int .i64 0) (by simp)
  have fA0_w1 := K_w1.free (b := w.heap.size) (o := 0) (v := .int .i64 0) (by simp)
  have cA1_w1 := K_w1.at (b := w.heap.size) (o := 1) (v := .int .i64 id) (by simp)
  have fA1_w1 := K_w1.free (b := w.heap.size) (o := 1) (v := .int .i64 id) (by simp)
  have cA2_w1 := K_w1.at (b := w.heap.size) (o := 2) (v := .int .i64 ra) (by simp)
  have fA2_w1 := K_w1.free (b := w.heap.size) (o := 2) (v := .int .i64 ra) (by simp)
  have cA3_w1 := K_w1.at (b := w.heap.size) (o := 3) (v := .int .u64 t) (by simp)
  have fA3_w1 := K_w1.free (b := w.heap.size) (o := 3) (v := .int .u64 t) (by simp)
  clear K_w1
  have HF := Lib.hid (F_w1)
  clear E_w1 F_w1
  refine ⟨fun K hK0 => ?_, trivial⟩
  have hK := Lib.hid hK0
  clear hK0
  go_wp2_with fail
  with_reducible refine (enter10 P x v t id ra _ HF.out.1 ok ht).mono ?_
  rintro e w2 ⟨v', rfl, hl2, hv2, ho2⟩
  have HM2 := Lib.hid (mod_mut HF.out.1 HF.out.2.1 ho2)
  have HL2 := Lib.hid hl2
  have HV2 := Lib.hid hv2
  have HO2 := Lib.hid ((Onl.of HF.out.2.2 : Onl (foot P v) w _).trans ho2)
  have K_w2 := Kept.onl KH_w1.out ho2 (Nat.zero_le _) (fun _ _ => Nat.zero_le _) (by simp only [List.mem_cons, List.not_mem_nil, or_false, forall_eq_or_imp, forall_eq]; exact ⟨HNA.out, HNA.out, HNA.out, HNA.out⟩)
  have KH_w2 := Lib.hid K_w2
  have hw_w2 := K_w2.below
  have hz_w2 := K_w2.size
  have HSZ := Lib.hid ho2.size
  clear hl2 hv2 ho2
  have hw_w2 := K_w2.below
  have hz_w2 := K_w2.size
  have lA_w2 : w.heap.size < w2.heap.size := by omega
  have cA0_w2 := K_w2.at (b := w.heap.size) (o := 0) (v := .int .i64 0) (by simp)
  have fA0_w2 := K_w2.free (b := w.heap.size) (o := 0) (v := .int .i64 0) (by simp)
  have cA1_w2 := K_w2.at (b := w.heap.size) (o := 1) (v := .int .i64 id) (by simp)
  have fA1_w2 := K_w2.free (b := w.heap.size) (o := 1) (v := .int .i64 id) (by simp)
  have cA2_w2 := K_w2.at (b := w.heap.size) (o := 2) (v := .int .i64 ra) (by simp)
  have fA2_w2 := K_w2.free (b := w.heap.size) (o := 2) (v := .int .i64 ra) (by simp)
  have cA3_w2 := K_w2.at (b := w.heap.size) (o := 3) (v := .int .u64 t) (by simp)
  have fA3_w2 := K_w2.free (b := w.heap.size) (o := 3) (v := .int .u64 t) (by simp)
  clear lA_w1 cA0_w1 fA0_w1 cA1_w1 fA1_w1 cA2_w1 fA2_w1 cA3_w1 fA3_w1
  clear K_w2
  go_wp2_with fail
  first | (refine ⟨rfl, ⟨⟨_, KH_w2.out, trivial⟩, rfl⟩, hK.out _ _ ?_⟩; clear hK K) | (refine ⟨⟨⟨_, KH_w2.out, trivial⟩, rfl⟩, hK.out _ _ ?_⟩; clear hK K)
  refine ⟨fun K hK0 => ?_, trivial⟩
  have hK := Lib.hid hK0
  clear hK0
  go_wp2_with fail
  with_reducible refine (menter30 M x lv t id ra _ HM2.out ok ht).mono ?_
  rintro e w3 ⟨lv', rfl, hm3, ho3⟩
  have HL3 := Lib.hid (lob_mut HL2.out HM2.out ho3)
  have HM3 := Lib.hid hm3
  have HO3 := Lib.hid ((onl_more (S' := M :: foot P v) HO2.out (fun k hk => List.mem_cons_of_mem _ hk)).trans (onl_more (S' := M :: foot P v) ho3 (fun k hk => by simp at hk; simp [hk])))
  clear hm3 ho3
  go_wp2_with fail
  first | (refine ⟨rfl, hK.out _ _ ?_⟩; clear hK K) | (refine hK.out _ _ ?_; clear hK K)
  repeat (go_big_quiet_step (fail))
  refine wpQuiet_nil ?_
  clear _ne
  go_wp2_with fail
  refine bodyPost_ret (v := .tuple #[.pointer (some ⟨P, 0, none⟩), .bool true]) (by simp [results, Try.results17, go_sem]) rfl ⟨P, enX x t id ra, v', lv', rfl, HL3.out, HM3.out, enX_ok ok ht id ra, enX_nd nd t id ra, .inl rfl, fun b hb => (HV2.out b hb).imp (fun h => h) (fun h => Nat.le_trans HF.out.2.2.size h), HO3.out⟩

set_option maxRecDepth 100000 in
set_option maxHeartbeats 4000000 in
theorem step17_1 (P M : Nat) (x : Lb) (v lv : Value) (wh id ra t : Int) (w : World) (hl : LobAt w P x v) (hm : ModAt w M x lv) (ok : x.Ok) (nd : x.Nd) (ht : U t) (h0 : wh = 1) : Calls Try.prog 17 #[.pointer (some ⟨P, 0, none⟩), .pointer (some ⟨M, 0, none⟩), .agg #[.int .i64 wh, .int .i64 id, .int .i64 ra, .int .u64 t]] w (StepAt P M v w) := by
  have hP := hl.lt
  have hM := hm.lt
  have HNA : Hid (w.heap.size ∉ foot P v) := Lib.hid (fun h => by
    rcases mem_foot.1 h with h2 | h2
    · omega
    · have := (hl.row.typ _ h2).2.1; omega)
  subst h0
  go_enter Try.func17, Try.ntmps17
  go_wp2_with fail
  refine rg17_5 (w0 := w) (B := 0) (n := w.heap.size + 1) (L := [(w.heap.size, 0, .int .i64 1), (w.heap.size, 1, .int .i64 id), (w.heap.size, 2, .int .i64 ra), (w.heap.size, 3, .int .u64 t)]) (E := fun _ => True) (F := fun W => LobAt W P x v ∧ ModAt W M x lv ∧ Below w.heap.size w W) (by kernel_rfl) (by kernel_rfl) ⟨by go_grown, by go_size, (by simp [go_sem] <;> omega)⟩ trivial (fun _ _ _ _ => trivial) ⟨hl.below ((Below.refl _ _).alloc (Nat.le_refl _) _), hm.below ((Below.refl _ _).alloc (Nat.le_refl _) _), ((Below.refl _ _).alloc (Nat.le_refl _) _)⟩ (fun _ _ h hb => ⟨h.1.below hb, h.2.1.below hb, below_via h.2.2 hb⟩) (fun w1 K_w1 E_w1 F_w1 => ?_)
  have _ne : Nonempty (KX (0) w (w.heap.size + 1) [(w.heap.size, 0, .int .i64 1), (w.heap.size, 1, .int .i64 id), (w.heap.size, 2, .int .i64 ra), (w.heap.size, 3, .int .u64 t)] (fun _ => True)) := ⟨⟨_, K_w1, E_w1⟩⟩
  repeat (go_big_quiet_step (fail))
  refine wpQuiet_nil ?_
  have rA0 : ∀ s : KX (0) w (w.heap.size + 1) [(w.heap.size, 0, .int .i64 1), (w.heap.size, 1, .int .i64 id), (w.heap.size, 2, .int .i64 ra), (w.heap.size, 3, .int .u64 t)] (fun _ => True), s.val.cell? ⟨w.heap.size, 0, none⟩ = some (.int .i64 1) := fun s => s.kept.at (by simp)
  have rA1 : ∀ s : KX (0) w (w.heap.size + 1) [(w.heap.size, 0, .int .i64 1), (w.heap.size, 1, .int .i64 id), (w.heap.size, 2, .int .i64 ra), (w.heap.size, 3, .int .u64 t)] (fun _ => True), s.val.cell? ⟨w.heap.size, 1, none⟩ = some (.int .i64 id) := fun s => s.kept.at (by simp)
  have rA2 : ∀ s : KX (0) w (w.heap.size + 1) [(w.heap.size, 0, .int .i64 1), (w.heap.size, 1, .int .i64 id), (w.heap.size, 2, .int .i64 ra), (w.heap.size, 3, .int .u64 t)] (fun _ => True), s.val.cell? ⟨w.heap.size, 2, none⟩ = some (.int .i64 ra) := fun s => s.kept.at (by simp)
  have rA3 : ∀ s : KX (0) w (w.heap.size + 1) [(w.heap.size, 0, .int .i64 1), (w.heap.size, 1, .int .i64 id), (w.heap.size, 2, .int .i64 ra), (w.heap.size, 3, .int .u64 t)] (fun _ => True), s.val.cell? ⟨w.heap.size, 3, none⟩ = some (.int .u64 t) := fun s => s.kept.at (by simp)
  repeat (go_big_quiet_step (fail))
  refine wpQuiet_nil ?_
  clear rA0 rA1 rA2 rA3
  have KH_w1 := Lib.hid K_w1
  have hw_w1 := K_w1.below
  have hz_w1 := K_w1.size
  have lA_w1 : w.heap.size < w1.heap.size := by omega
  have cA0_w1 := K_w1.at (b := w.heap.size) (o := 0) (v := .int .i64 1) (by simp)
  have fA0_w1 := K_w1.free (b := w.heap.size) (o := 0) (v := .int .i64 1) (by simp)
  have cA1_w1 := K_w1.at (b := w.heap.size) (o := 1) (v := .int .i64 id) (by simp)
  have fA1_w1 := K_w1.free (b := w.heap.size) (o := 1) (v := .int .i64 id) (by simp)
  have cA2_w1 := K_w1.at (b := w.heap.size) (o := 2) (v := .int .i64 ra) (by simp)
  have fA2_w1 := K_w1.free (b := w.heap.size) (o := 2) (v := .int .i64 ra) (by simp)
  have cA3_w1 := K_w1.at (b := w.heap.size) (o := 3) (v := .int .u64 t) (by simp)
  have fA3_w1 := K_w1.free (b := w.heap.size) (o := 3) (v := .int .u64 t) (by simp)
  clear K_w1
  have HF := Lib.hid (F_w1)
  clear E_w1 F_w1
  refine ⟨fun K hK0 => ?_, trivial⟩
  have hK := Lib.hid hK0
  clear hK0
  go_wp2_with fail
  with_reducible refine (leave18 P x v id _ HF.out.1 ok).mono ?_
  rintro e w2 ⟨v', rfl, hl2, hv2, ho2⟩
  have HM2 := Lib.hid (mod_mut HF.out.1 HF.out.2.1 ho2)
  have HL2 := Lib.hid hl2
  have HV2 := Lib.hid hv2
  have HO2 := Lib.hid ((Onl.of HF.out.2.2 : Onl (foot P v) w _).trans ho2)
  have K_w2 := Kept.onl KH_w1.out ho2 (Nat.zero_le _) (fun _ _ => Nat.zero_le _) (by simp only [List.mem_cons, List.not_mem_nil, or_false, forall_eq_or_imp, forall_eq]; exact ⟨HNA.out, HNA.out, HNA.out, HNA.out⟩)
  have KH_w2 := Lib.hid K_w2
  have hw_w2 := K_w2.below
  have hz_w2 := K_w2.size
  have HSZ := Lib.hid ho2.size
  clear hl2 hv2 ho2
  have hw_w2 := K_w2.below
  have hz_w2 := K_w2.size
  have lA_w2 : w.heap.size < w2.heap.size := by omega
  have cA0_w2 := K_w2.at (b := w.heap.size) (o := 0) (v := .int .i64 1) (by simp)
  have fA0_w2 := K_w2.free (b := w.heap.size) (o := 0) (v := .int .i64 1) (by simp)
  have cA1_w2 := K_w2.at (b := w.heap.size) (o := 1) (v := .int .i64 id) (by simp)
  have fA1_w2 := K_w2.free (b := w.heap.size) (o := 1) (v := .int .i64 id) (by simp)
  have cA2_w2 := K_w2.at (b := w.heap.size) (o := 2) (v := .int .i64 ra) (by simp)
  have fA2_w2 := K_w2.free (b := w.heap.size) (o := 2) (v := .int .i64 ra) (by simp)
  have cA3_w2 := K_w2.at (b := w.heap.size) (o := 3) (v := .int .u64 t) (by simp)
  have fA3_w2 := K_w2.free (b := w.heap.size) (o := 3) (v := .int .u64 t) (by simp)
  clear lA_w1 cA0_w1 fA0_w1 cA1_w1 fA1_w1 cA2_w1 fA2_w1 cA3_w1 fA3_w1
  clear K_w2
  go_wp2_with fail
  first | (refine ⟨rfl, ⟨⟨_, KH_w2.out, trivial⟩, rfl⟩, hK.out _ _ ?_⟩; clear hK K) | (refine ⟨⟨⟨_, KH_w2.out, trivial⟩, rfl⟩, hK.out _ _ ?_⟩; clear hK K)
  refine ⟨fun K hK0 => ?_, trivial⟩
  have hK := Lib.hid hK0
  clear hK0
  go_wp2_with fail
  with_reducible refine (mleave31 M x lv id _ HM2.out ok).mono ?_
  rintro e w3 ⟨lv', rfl, hm3, ho3⟩
  have HL3 := Lib.hid (lob_mut HL2.out HM2.out ho3)
  have HM3 := Lib.hid hm3
  have HO3 := Lib.hid ((onl_more (S' := M :: foot P v) HO2.out (fun k hk => List.mem_cons_of_mem _ hk)).trans (onl_more (S' := M :: foot P v) ho3 (fun k hk => by simp at hk; simp [hk])))
  clear hm3 ho3
  go_wp2_with fail
  first | (refine ⟨rfl, hK.out _ _ ?_⟩; clear hK K) | (refine hK.out _ _ ?_; clear hK K)
  repeat (go_big_quiet_step (fail))
  refine wpQuiet_nil ?_
  clear _ne
  go_wp2_with fail
  refine bodyPost_ret (v := .tuple #[.pointer (some ⟨P, 0, none⟩), .bool true]) (by simp [results, Try.results17, go_sem]) rfl ⟨P, leX x id, v', lv', rfl, HL3.out, HM3.out, leX_ok ok id, leX_nd nd id, .inl rfl, fun b hb => (HV2.out b hb).imp (fun h => h) (fun h => Nat.le_trans HF.out.2.2.size h), HO3.out⟩

set_option maxRecDepth 100000 in
set_option maxHeartbeats 4000000 in
theorem step17_2 (P M : Nat) (x : Lb) (v lv : Value) (wh id ra t : Int) (w : World) (hl : LobAt w P x v) (hm : ModAt w M x lv) (ok : x.Ok) (nd : x.Nd) (ht : U t) (h0 : wh = 2) : Calls Try.prog 17 #[.pointer (some ⟨P, 0, none⟩), .pointer (some ⟨M, 0, none⟩), .agg #[.int .i64 wh, .int .i64 id, .int .i64 ra, .int .u64 t]] w (StepAt P M v w) := by
  have hP := hl.lt
  have hM := hm.lt
  have HNA : Hid (w.heap.size ∉ foot P v) := Lib.hid (fun h => by
    rcases mem_foot.1 h with h2 | h2
    · omega
    · have := (hl.row.typ _ h2).2.1; omega)
  subst h0
  go_enter Try.func17, Try.ntmps17
  go_wp2_with fail
  with_reducible refine (mmatch32 M x lv t _ (hm.below ((Below.refl _ _).alloc (Nat.le_refl _) _)) ok ht).mono ?_
  rintro e w1 ⟨pv, gv, lv', rfl, hp, hg, hm1, ho1⟩
  have HL1 := Lib.hid (lob_mut (hl.below ((Below.refl _ _).alloc (Nat.le_refl _) _)) (hm.below ((Below.refl _ _).alloc (Nat.le_refl _) _)) ho1)
  have HP := Lib.hid hp
  have HG := Lib.hid hg
  have HM1 := Lib.hid hm1
  have HO1 := Lib.hid ho1
  obtain ⟨ap1, cp1, epv⟩ := hp.form
  obtain ⟨ag1, cg1, egv⟩ := hg.form
  obtain ⟨np, hnp⟩ : ∃ n, (mtP x t).length = n := ⟨_, rfl⟩
  obtain ⟨ng, hng⟩ : ∃ n, (mtG x t).length = n := ⟨_, rfl⟩
  rw [hnp] at epv
  rw [hng] at egv
  subst epv egv
  have hMA : w.heap.size ∉ [M] := by simp; omega
  have a3 : w1.cell? ⟨w.heap.size, 3, none⟩ = Option.some (.int .u64 t) := (ho1.cell (b := w.heap.size) (by simp) hMA).trans (by simp)
  clear hp hg hm1 ho1 hnp hng
  go_wp2_with fail
  with_reducible refine (matches19 P x v t _ _ (mtP x t) (mtG x t) _ HL1.out ok ht (HP.out.rw (fun _ _ => rfl)) (HG.out.rw (fun _ _ => rfl)) (fun b hb e => absurd (by rw [← e]; exact hb) (HL1.out.notP HP.out (by decide))) (fun b hb e => absurd (by rw [← e]; exact hb) (HL1.out.notP HG.out (by decide))) rfl rfl).mono ?_
  rintro e w2 ⟨v', rfl, hl2, hv2, ho2⟩
  have HM2 := Lib.hid (mod_mut HL1.out HM1.out ho2)
  have HL2 := Lib.hid hl2
  have HV2 := Lib.hid hv2
  have HO2 := Lib.hid ((onl_more (S' := M :: foot P v) ((Onl.of ((Below.refl _ w).alloc (Nat.le_refl _) _)).trans (⟨HO1.out.os, HO1.out.tape, HO1.out.output, HO1.out.size, HO1.out.block⟩ : Onl [M] _ _)) (fun k hk => by simp at hk; simp [hk])).trans (onl_more (S' := M :: foot P v) ho2 (fun k hk => List.mem_cons_of_mem _ hk)))
  have hsz : w.heap.size ≤ w1.heap.size := by have := HO1.out.size; simp at this; omega
  clear hl2 hv2 ho2
  go_wp2_with fail
  refine bodyPost_ret (v := .tuple #[.pointer (some ⟨P, 0, none⟩), .bool true]) (by simp [results, Try.results17, go_sem]) rfl ⟨P, mtX x t, v', lv', rfl, HL2.out, HM2.out, mtX_ok ok ht, mtX_nd nd t, .inl rfl, fun b hb => (HV2.out b hb).imp (fun h => h) (fun h => Nat.le_trans hsz h), HO2.out⟩

set_option maxRecDepth 100000 in
set_option maxHeartbeats 4000000 in
theorem step17_3 (P M : Nat) (x : Lb) (v lv : Value) (wh id ra t : Int) (w : World) (hl : LobAt w P x v) (hm : ModAt w M x lv) (ok : x.Ok) (nd : x.Nd) (ht : U t) (h0 : wh ≠ 0) (h1 : wh ≠ 1) (h2 : wh ≠ 2) : Calls Try.prog 17 #[.pointer (some ⟨P, 0, none⟩), .pointer (some ⟨M, 0, none⟩), .agg #[.int .i64 wh, .int .i64 id, .int .i64 ra, .int .u64 t]] w (StepAt P M v w) := by
  have hP := hl.lt
  have hM := hm.lt
  have HNA : Hid (w.heap.size ∉ foot P v) := Lib.hid (fun h => by
    rcases mem_foot.1 h with h2 | h2
    · omega
    · have := (hl.row.typ _ h2).2.1; omega)
  have q0 : (wh == 0) = false := by simpa using h0
  have q1 : (wh == 1) = false := by simpa using h1
  have q2 : (wh == 2) = false := by simpa using h2
  clear h0 h1 h2
  go_enter Try.func17, Try.ntmps17
  go_wp2_with fail
  with_reducible refine (copy21 P x v _ (hl.below ((Below.refl _ _).alloc (Nat.le_refl _) _)) ok).mono ?_
  rintro e w1 ⟨Q, u, rfl, hQ, hq, hu, hb1⟩
  simp at hQ
  have hbw : Below w.heap.size w w1 := below_via ((Below.refl _ _).alloc (Nat.le_refl _) _) hb1
  have HQ1 := Lib.hid hq
  have HL1 := Lib.hid (hl.below hbw)
  have HM1 := Lib.hid (hm.below hbw)
  have HU1 : Hid (∀ b, u.ownBlock = Option.some b → w.heap.size < b) := Lib.hid (fun b hb => by have := hu b hb; simp at this; omega)
  have HQP : Hid (Q ≠ P) := Lib.hid (by omega)
  have HVW : Hid (∀ b, v.ownBlock = Option.some b → b < w.heap.size) := Lib.hid (fun b hb => (hl.row.typ b hb).2.1)
  have HR1 : Hid (∀ b, u.ownBlock = Option.some b → v.ownBlock ≠ Option.some b) := Lib.hid (fun b hb h => by have := HU1.out b hb; have := HVW.out b h; omega)
  have hz1 : w.heap.size < w1.heap.size := by have := hb1.size; simp at this; omega
  have HB1 := Lib.hid hbw
  have a0_w1 : w1.cell? ⟨w.heap.size, 0, none⟩ = Option.some (.int .i64 wh) := (hb1.cell (p := ⟨w.heap.size, 0, none⟩) (by simp)).trans (by simp)
  have a1_w1 : w1.cell? ⟨w.heap.size, 1, none⟩ = Option.some (.int .i64 id) := (hb1.cell (p := ⟨w.heap.size, 1, none⟩) (by simp)).trans (by simp)
  have a2_w1 : w1.cell? ⟨w.heap.size, 2, none⟩ = Option.some (.int .i64 ra) := (hb1.cell (p := ⟨w.heap.size, 2, none⟩) (by simp)).trans (by simp)
  have a3_w1 : w1.cell? ⟨w.heap.size, 3, none⟩ = Option.some (.int .u64 t) := (hb1.cell (p := ⟨w.heap.size, 3, none⟩) (by simp)).trans (by simp)
  clear hq hu hb1 hbw
  go_wp2_with fail
  with_reducible refine (enter10 P x v t 999999 1000 _ HL1.out ok ht).mono ?_
  rintro e w2 ⟨v2, rfl, hl2, hv2, ho2⟩
  have HQ2 := Lib.hid (lob_other HL1.out HQ1.out HQP.out HR1.out ho2)
  have HM2 := Lib.hid (mod_mut HL1.out HM1.out ho2)
  have HL2 := Lib.hid hl2
  have HR2 : Hid (∀ b, u.ownBlock = Option.some b → v2.ownBlock ≠ Option.some b) := Lib.hid (fun b hb h => by
    rcases hv2 b h with h3 | h3
    · exact HR1.out b hb h3
    · have := (HQ1.out.row.typ b hb).2.1; omega)
  have HO2 := Lib.hid ((Onl.of HB1.out : Onl (foot P v) w _).trans ho2)
  have hz2 : w.heap.size < w2.heap.size := Nat.lt_of_lt_of_le hz1 ho2.size
  have HV2 : Hid (∀ b, v2.ownBlock = Option.some b → v.ownBlock = Option.some b ∨ w.heap.size < b) := Lib.hid (fun b hb => (hv2 b hb).imp (fun h => h) (fun h => by omega))
  have a0_w2 : w2.cell? ⟨w.heap.size, 0, none⟩ = Option.some (.int .i64 wh) := (ho2.cell (b := w.heap.size) hz1 HNA.out).trans a0_w1
  have a1_w2 : w2.cell? ⟨w.heap.size, 1, none⟩ = Option.some (.int .i64 id) := (ho2.cell (b := w.heap.size) hz1 HNA.out).trans a1_w1
  have a2_w2 : w2.cell? ⟨w.heap.size, 2, none⟩ = Option.some (.int .i64 ra) := (ho2.cell (b := w.heap.size) hz1 HNA.out).trans a2_w1
  have a3_w2 : w2.cell? ⟨w.heap.size, 3, none⟩ = Option.some (.int .u64 t) := (ho2.cell (b := w.heap.size) hz1 HNA.out).trans a3_w1
  clear hl2 hv2 ho2 a0_w1 a1_w1 a2_w1 a3_w1
  go_wp2_with fail
  with_reducible refine (match11 P (enX x t 999999 1000) v2 t _ HL2.out (enX_ok ok ht _ _) ht).mono ?_
  rintro e w3 ⟨pv, gv, v3, rfl, _, _, hl3, hv3, ho3⟩
  have ho3' : Onl (foot P v2) w2 w3 := onl_foot ho3
  have HQ3 := Lib.hid (lob_other HL2.out HQ2.out HQP.out HR2.out ho3')
  have HM3 := Lib.hid (mod_mut HL2.out HM2.out ho3')
  have HL3 := Lib.hid hl3
  have HR3 : Hid (∀ b, u.ownBlock = Option.some b → v3.ownBlock ≠ Option.some b) := Lib.hid (fun b hb h => by have := hv3 b h; have := (HQ2.out.row.typ b hb).2.1; omega)
  have HO3 := Lib.hid (HO2.out.trans (onl_foot (v := v) ho3))
  have hz3 : w.heap.size < w3.heap.size := Nat.lt_of_lt_of_le hz2 ho3.size
  have HV3 : Hid (∀ b, v3.ownBlock = Option.some b → w.heap.size < b) := Lib.hid (fun b hb => by have := hv3 b hb; omega)
  have a0_w3 : w3.cell? ⟨w.heap.size, 0, none⟩ = Option.some (.int .i64 wh) := (ho3.cell (b := w.heap.size) hz2 (by simp; omega)).trans a0_w2
  have a1_w3 : w3.cell? ⟨w.heap.size, 1, none⟩ = Option.some (.int .i64 id) := (ho3.cell (b := w.heap.size) hz2 (by simp; omega)).trans a1_w2
  have a2_w3 : w3.cell? ⟨w.heap.size, 2, none⟩ = Option.some (.int .i64 ra) := (ho3.cell (b := w.heap.size) hz2 (by simp; omega)).trans a2_w2
  have a3_w3 : w3.cell? ⟨w.heap.size, 3, none⟩ = Option.some (.int .u64 t) := (ho3.cell (b := w.heap.size) hz2 (by simp; omega)).trans a3_w2
  clear hl3 hv3 ho3 ho3' a0_w2 a1_w2 a2_w2 a3_w2
  go_wp2_with fail
  with_reducible refine (leave18 P (mtX (enX x t 999999 1000) t) v3 id _ HL3.out (mtX_ok (enX_ok ok ht _ _) ht)).mono ?_
  rintro e w4 ⟨v4, rfl, hl4, hv4, ho4⟩
  have HQ4 := Lib.hid (lob_other HL3.out HQ3.out HQP.out HR3.out ho4)
  have HM4 := Lib.hid (mod_mut HL3.out HM3.out ho4)
  have HO4 : Hid (Onl (M :: foot P v) w w4) := Lib.hid (((onl_more (S' := foot P v ++ foot P v3) HO3.out (fun k hk => by simp [hk])).trans (onl_more (S' := foot P v ++ foot P v3) ho4 (fun k hk => by simp [hk]))).less (fun k hk => by
    rcases List.mem_append.1 hk with h | h
    · exact .inl (List.mem_cons_of_mem _ h)
    · rcases mem_foot.1 h with h | h
      · exact .inl (List.mem_cons_of_mem _ (mem_foot.2 (.inl h)))
      · exact .inr (Nat.le_of_lt (HV3.out k h))))
  clear hl4 hv4 ho4
  go_wp2_with fail
  refine bodyPost_ret (v := .tuple #[.pointer (some ⟨Q, 0, none⟩), .bool true]) (by simp [results, Try.results17, go_sem]) rfl ⟨Q, x, u, lv, rfl, HQ4.out, HM4.out, ok, nd, .inr (by omega), fun b hb => .inr (Nat.le_of_lt (HU1.out b hb)), HO4.out⟩

theorem step17 (P M : Nat) (x : Lb) (v lv : Value) (wh id ra t : Int) (w : World) (hl : LobAt w P x v) (hm : ModAt w M x lv) (ok : x.Ok) (nd : x.Nd) (ht : U t) : Calls Try.prog 17 #[.pointer (some ⟨P, 0, none⟩), .pointer (some ⟨M, 0, none⟩), .agg #[.int .i64 wh, .int .i64 id, .int .i64 ra, .int .u64 t]] w (StepAt P M v w) := by
  by_cases h0 : wh = 0
  · exact step17_0 P M x v lv wh id ra t w hl hm ok nd ht h0
  · by_cases h1 : wh = 1
    · exact step17_1 P M x v lv wh id ra t w hl hm ok nd ht h1
    · by_cases h2 : wh = 2
      · exact step17_2 P M x v lv wh id ra t w hl hm ok nd ht h2
      · exact step17_3 P M x v lv wh id ra t w hl hm ok nd ht h0 h1 h2
end Go.Proofs.Ytonaidjdkejoeaa
