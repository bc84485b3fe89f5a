/- Times; stands in memory. Is a board to be seen. A new stand; how many boards are kept, and the time. -/
import Derived.Test.YteoeahmnonolmaaSM
import Derived.Test.YteoeahmnonolmaaSTp
import Derived.Deep.DeepCutAuto
import Derived.LoopTactic
import Derived.Deep.MidRow
namespace Go.Proofs.Yteoeahmnonolmaa
open Go.RowKit Plain
set_option linter.unusedVariables false
set_option linter.unusedSimpArgs false

set_option maxRecDepth 100000 in
set_option maxHeartbeats 4000000 in
theorem tadd (a b : Int) (w : World) (ha : U a) (hb : U b) : Calls Try.prog 61 #[.int .u64 a, .int .u64 b] w fun e w' => e = .returned (.int .u64 (addN a b)) ∧ w = w' := by
  obtain ⟨a0, a1⟩ := ha
  obtain ⟨b0, b1⟩ := hb
  by_cases h1 : 18446744073709551615 - a < b
  all_goals
    go_enter Try.func61, Try.ntmps61
    go_wp2
    go_returns
    exact ⟨ret_int (by unfold addN; split <;> omega), rfl⟩
set_option maxRecDepth 100000 in
set_option maxHeartbeats 4000000 in
theorem tdue (d t : Int) (w : World) : Calls Try.prog 60 #[.int .u64 d, .int .u64 t] w fun e w' => e = .returned (.bool (over d t)) ∧ w = w' := by
  cases h1 : (d != 18446744073709551615)
  · have e : Hid (over d t = false) := Lib.hid (by simp [over, h1])
    go_enter Try.func60, Try.ntmps60
    go_wp2
    go_returns
    exact ⟨ret_bool e.out.symm, rfl⟩
  · by_cases h2 : d ≤ t
    · have e : Hid (over d t = true) := Lib.hid (by simp [over, h1, h2])
      go_enter Try.func60, Try.ntmps60
      go_wp2
      go_returns
      exact ⟨ret_bool e.out.symm, rfl⟩
    · have e : Hid (over d t = false) := Lib.hid (by simp [over, h1, h2])
      go_enter Try.func60, Try.ntmps60
      go_wp2
      go_returns
      exact ⟨ret_bool e.out.symm, rfl⟩
/-- the cells of what was shown -/
def shc (x : (Pu × Ps) × Int) : List Value := (pcells x.1.2 x.1.1).toList ++ [.int .u64 x.2]
theorem shc_ok : ∀ z : (Pu × Ps) × Int, (shc z).length = 38 ∧ ∀ u ∈ shc z, u.oneCell' = true := fun z => ⟨by simp [shc, pcells], fun u hu => by
  rcases List.mem_append.1 hu with h | h
  · exact Array.all_eq_true_iff_forall_mem.1 (pcells_one z.1.2 z.1.1) u (by simpa using h)
  · simp at h; subst h; rfl⟩
/-- the boards that were shown, in memory: a row of its type, and what is public in rows of our own -/
def ShR (w : World) (v : Value) (l : List (Pu × Int)) : Prop := ∃ l' : List ((Pu × Ps) × Int), l'.map (fun x => (x.1.1, x.2)) = l ∧ Rw shc 38 w v l' ∧ (∀ x ∈ l', PuO 0 w.heap.size w x.1.2 x.1.1) ∧ (∀ b, v.ownBlock = some b → ∃ cur, w.heap[b]? = some (.cells cur 93 (0, 0))) ∧ ∀ a n c, v = .slice a n c → n ≤ c
theorem ShR.below {w w' : World} {v : Value} {l : List (Pu × Int)} (h : ShR w v l) (hb : Below w.heap.size w w') : ShR w' v l := by
  obtain ⟨l', h1, h2, h3, h4, h5⟩ := h
  exact ⟨l', h1, h2.below hb, fun x hx => ((h3 x hx).below hb).mono (Nat.le_refl _) hb.size, fun b hv => by
    obtain ⟨cur, hc⟩ := h4 b hv
    exact ⟨cur, (hb.block b (Array.getElem?_eq_some_iff.1 hc).1).trans hc⟩, h5⟩
/-- a stand in its block -/
structure SdAt (w : World) (P : Nat) (s : Sd) (v : Sl) : Prop where
  blk : w.heap[P]? = some (.cells #[.bool true, .int .u64 s.dl, .int .u64 s.nw, v.v] 73 (0, 0))
  list : ShR w v.v s.l
  dl : U s.dl
  nw : U s.nw
  at' : ∀ x ∈ s.l, U x.2
/-- none, of a nil stand and of a zero one -/
def ZeroAt (w : World) (P : Nat) : Prop := w.heap[P]? = some (.cells #[.bool false, .int .u64 0, .int .u64 0, .slice none 0 0] 73 (0, 0))
set_option maxRecDepth 100000 in
set_option maxHeartbeats 4000000 in
theorem none_nil (w : World) : Calls Try.prog 30 #[.pointer none] w fun e w' => e = .returned (.bool true) ∧ w = w' := by
  go_enter Try.func30, Try.ntmps30
  go_wp2
  go_returns
  exact ⟨rfl, rfl⟩
set_option maxRecDepth 100000 in
set_option maxHeartbeats 4000000 in
theorem none_zero (P : Nat) (w : World) (h : ZeroAt w P) : Calls Try.prog 30 #[.pointer (some ⟨P, 0, none⟩)] w fun e w' => e = .returned (.bool true) ∧ w = w' := by
  have c0 : w.cell? ⟨P, 0, none⟩ = some (.bool false) := cell_of_row _ _ 0 _ 73 (0, 0) h
  go_enter Try.func30, Try.ntmps30
  go_wp2
  go_returns
  exact ⟨rfl, rfl⟩
set_option maxRecDepth 100000 in
set_option maxHeartbeats 4000000 in
theorem none_ok (P : Nat) (s : Sd) (v : Sl) (w : World) (h : SdAt w P s v) : Calls Try.prog 30 #[.pointer (some ⟨P, 0, none⟩)] w fun e w' => e = .returned (.bool false) ∧ w = w' := by
  have c0 : w.cell? ⟨P, 0, none⟩ = some (.bool true) := cell_of_row _ _ 0 _ 73 (0, 0) h.blk
  clear h
  go_enter Try.func30, Try.ntmps30
  go_wp2
  go_returns
  exact ⟨rfl, rfl⟩
set_option maxRecDepth 100000 in
set_option maxHeartbeats 4000000 in
theorem kept_nil (w : World) : Calls Try.prog 13 #[.pointer none] w fun e w' => e = .returned (.int .i64 0) ∧ w = w' := by
  go_enter Try.func13, Try.ntmps13
  go_wp2_with fail
  with_reducible refine (none_nil _).mono ?_
  rintro e w2 ⟨rfl, rfl⟩
  go_wp2_with fail
  go_returns
  exact ⟨rfl, rfl⟩
set_option maxRecDepth 100000 in
set_option maxHeartbeats 4000000 in
theorem kept_zero (P : Nat) (w : World) (h : ZeroAt w P) : Calls Try.prog 13 #[.pointer (some ⟨P, 0, none⟩)] w fun e w' => e = .returned (.int .i64 0) ∧ w = w' := by
  have HZ := Lib.hid h
  clear h
  go_enter Try.func13, Try.ntmps13
  go_wp2_with fail
  with_reducible refine (none_zero P _ HZ.out).mono ?_
  rintro e w2 ⟨rfl, rfl⟩
  go_wp2_with fail
  go_returns
  exact ⟨rfl, rfl⟩
set_option maxRecDepth 100000 in
set_option maxHeartbeats 4000000 in
theorem now_nil (w : World) : Calls Try.prog 20 #[.pointer none] w fun e w' => e = .returned (.int .u64 0) ∧ w = w' := by
  go_enter Try.func20, Try.ntmps20
  go_wp2_with fail
  with_reducible refine (none_nil _).mono ?_
  rintro e w2 ⟨rfl, rfl⟩
  go_wp2_with fail
  go_returns
  exact ⟨rfl, rfl⟩
set_option maxRecDepth 100000 in
set_option maxHeartbeats 4000000 in
theorem now_zero (P : Nat) (w : World) (h : ZeroAt w P) : Calls Try.prog 20 #[.pointer (some ⟨P, 0, none⟩)] w fun e w' => e = .returned (.int .u64 0) ∧ w = w' := by
  have HZ := Lib.hid h
  clear h
  go_enter Try.func20, Try.ntmps20
  go_wp2_with fail
  with_reducible refine (none_zero P _ HZ.out).mono ?_
  rintro e w2 ⟨rfl, rfl⟩
  go_wp2_with fail
  go_returns
  exact ⟨rfl, rfl⟩
set_option maxRecDepth 100000 in
set_option maxHeartbeats 4000000 in
theorem scopy_nil (w : World) : Calls Try.prog 19 #[.pointer none] w fun e w' => e = .returned (.pointer none) ∧ w = w' := by
  go_enter Try.func19, Try.ntmps19
  go_wp2_with fail
  with_reducible refine (none_nil _).mono ?_
  rintro e w2 ⟨rfl, rfl⟩
  go_wp2_with fail
  go_returns
  exact ⟨rfl, rfl⟩
set_option maxRecDepth 100000 in
set_option maxHeartbeats 4000000 in
theorem scopy_zero (P : Nat) (w : World) (h : ZeroAt w P) : Calls Try.prog 19 #[.pointer (some ⟨P, 0, none⟩)] w fun e w' => e = .returned (.pointer none) ∧ w = w' := by
  have HZ := Lib.hid h
  clear h
  go_enter Try.func19, Try.ntmps19
  go_wp2_with fail
  with_reducible refine (none_zero P _ HZ.out).mono ?_
  rintro e w2 ⟨rfl, rfl⟩
  go_wp2_with fail
  go_returns
  exact ⟨rfl, rfl⟩
end Go.Proofs.Yteoeahmnonolmaa
namespace Go.Proofs.Yteoeahmnonolmaa
open Go.RowKit Plain
set_option linter.unusedVariables false
set_option linter.unusedSimpArgs false

theorem rg33_1 {P : Program} {B n : Nat} {w0 : World} {L : List (Nat × Nat × Value)} {E F : World → Prop} {id : Nat} {Q : Exit → Act → World → Prop} {a : Act} {w : World} {o0 o1 o2 o3 o4 o5 o6 o7 o8 o9 o10 o11 o12 : Oper} (hm : P.follows .mixedOrders = true)
    (hB : (Region.noSelect [o0, o1, o2, o3, o4, o5, o6, o7, o8, o9, o10, o11, o12].toArray && Scr.ok .any [o0, o1, o2, o3, o4, o5, o6, o7, o8, o9, o10, o11, o12].toArray [1, 5, 10] [0, 2, 3, 4, 7, 8, 9, 12] (.free 0 (.free 2 (.free 3 (.free 4 (.free 7 (.free 8 (.free 9 (.read 1 (.read 5 (.read 10 (.alt 6 (.alt 11 (.free 12 .done) .stop) .stop))))))))))) true true [o0, o1, o2, o3, o4, o5, o6, o7, o8, o9, o10, o11, o12].toArray.size (Array.replicate [o0, o1, o2, o3, o4, o5, o6, o7, o8, o9, o10, o11, o12].toArray.size false)) = true)
    (k : Kept B w0 n L w) (he : E w) (hE : ∀ W W', E W → Below W.heap.size W W' → E W') (hf : F w) (hF : ∀ W W', F W → Below W.heap.size W W' → F W')
    (h : ∀ wk, Kept B w0 n L wk → E wk → F wk → wpQuiet P [o0, o1, o2, o3, o4, o5, o6, o7, o8, o9, o10, o11, o12].toArray (fun _ => True) (fun a0 => wpQuiet P [o0, o1, o2, o3, o4, o5, o6, o7, o8, o9, o10, o11, o12].toArray (fun w' => ∃ s : KX B w0 n L E, w' = s.val) (fun a1 => ((∀ K2 : Act → World → Prop, (∀ a2 w2, ((∀ K3 : Act → World → Prop, (∀ a3 w3, wpQuiet P [o0, o1, o2, o3, o4, o5, o6, o7, o8, o9, o10, o11, o12].toArray (fun _ => True) (fun a4 => Q .normal a4 w3) [o12] a3 → K3 a3 w3) → wpList P [o0, o1, o2, o3, o4, o5, o6, o7, o8, o9, o10, o11, o12].toArray (fun e a3 w3 => e = .normal ∧ (∃ s : KX B w0 n L E, w3 = s.val) ∧ K3 a3 w3) [o11] a2 w2) ∧ True) → K2 a2 w2) → wpList P [o0, o1, o2, o3, o4, o5, o6, o7, o8, o9, o10, o11, o12].toArray (fun e a2 w2 => e = .normal ∧ (∃ s : KX B w0 n L E, w2 = s.val) ∧ K2 a2 w2) [o6] a1 wk) ∧ True)) [o1, o5, o10] a0) [o0, o2, o3, o4, o7, o8, o9] a) : (Code.region id [o0, o1, o2, o3, o4, o5, o6, o7, o8, o9, o10, o11, o12].toArray true).wp P Q a w := by
  have e1 : E w.drew := hE _ _ he ((Below.refl _ _).drew)
  have g := h _ k.drew e1 (hF _ _ hf ((Below.refl _ _).drew))
  exact wp_region_scr (U := (fun w' => ∃ s : KX B w0 n L E, w' = s.val)) (ops := [o0, o1, o2, o3, o4, o5, o6, o7, o8, o9, o10, o11, o12].toArray) (.free 0 (.free 2 (.free 3 (.free 4 (.free 7 (.free 8 (.free 9 (.read 1 (.read 5 (.read 10 (.alt 6 (.alt 11 (.free 12 .done) .stop) .stop))))))))))) [1, 5, 10] [0, 2, 3, 4, 7, 8, 9, 12] hm hB ⟨⟨_, k.drew, e1⟩, rfl⟩ (Scr.of_free rfl g (fun _ g0 => Scr.of_free rfl g0 (fun _ g1 => Scr.of_free rfl g1 (fun _ g2 => Scr.of_free rfl g2 (fun _ g3 => Scr.of_free rfl g3 (fun _ g4 => Scr.of_free rfl g4 (fun _ g5 => Scr.of_free rfl g5 (fun _ g6 => Scr.of_read rfl g6 (fun _ g7 => Scr.of_read rfl g7 (fun _ g8 => Scr.of_read rfl g8 (fun _ g9 => (Scr.of_alt rfl (g9.1 _ (fun _ _ g => g)) (fun _ _ g10 => (Scr.of_alt rfl (g10.1 _ (fun _ _ g => g)) (fun _ _ g11 => Scr.of_free rfl g11 (fun _ g12 => g12)) trivial)) trivial))))))))))))
set_option maxRecDepth 100000 in
set_option maxHeartbeats 4000000 in
theorem sdue (P : Nat) (d t : Int) (x : (Pu × Ps) × Int) (w : World) (l1' : P < w.heap.size) (h1 : w.cell? ⟨P, 1, none⟩ = some (.int .u64 d)) (h2 : w.cell? ⟨P, 2, none⟩ = some (.int .u64 t)) (hx : U x.2) (hd : U d) : Calls Try.prog 33 #[.pointer (some ⟨P, 0, none⟩), .agg (shc x).toArray] w fun e w' => e = .returned (.bool (dueT d t x.2)) ∧ Below w.heap.size w w' := by
  have HU : Hid (U x.2 ∧ U d) := Lib.hid ⟨hx, hd⟩
  obtain ⟨⟨X, s⟩, at'⟩ := x
  go_enter Try.func33, Try.ntmps33
  go_upto_region 1 with fail
  change Code.wp Try.prog _ _ _ (w.alloc (.cells (shc ((X, s), at')).toArray 93))
  obtain ⟨wz, hwz⟩ : ∃ W, W = w.alloc (.cells (shc ((X, s), at')).toArray 93) := ⟨_, rfl⟩
  have hb : Below w.heap.size w wz := by rw [hwz]; exact (Below.refl _ _).alloc (Nat.le_refl _) _
  have c0 : wz.cell? ⟨w.heap.size, 37, none⟩ = some (.int .u64 at') := by rw [hwz]; exact cell_of_row _ _ 37 _ 93 (0, 0) (heap_alloc_new _ _)
  have l0 : w.heap.size < wz.heap.size := by rw [hwz]; simp
  have c1 := (hb.cell (p := ⟨P, 1, none⟩) l1').trans h1
  have c2 := (hb.cell (p := ⟨P, 2, none⟩) l1').trans h2
  have l1 : P < wz.heap.size := Nat.lt_of_lt_of_le l1' hb.size
  have HB := Lib.hid hb
  rw [← hwz]
  clear hwz hb h1 h2 hx hd l1'
  refine rg33_1 (w0 := wz) (B := wz.heap.size) (n := wz.heap.size) (L := []) (E := fun _ => True) (F := fun _ => True) (by kernel_rfl) (by kernel_rfl) ⟨by go_grown, by go_size, (by simp [go_sem] <;> omega)⟩ trivial (fun _ _ _ _ => trivial) trivial (fun _ _ _ _ => trivial) (fun w31 K_w31 E_w31 F_w31 => ?_)
  have _ne : Nonempty (KX (wz.heap.size) wz (wz.heap.size) [] (fun _ => True)) := ⟨⟨_, K_w31, E_w31⟩⟩
  repeat (go_big_quiet_step (fail))
  refine wpQuiet_nil ?_
  have r0 : ∀ s : KX (wz.heap.size) wz (wz.heap.size) [] (fun _ => True), s.val.cell? ⟨w.heap.size, 37, none⟩ = some (.int .u64 at') := fun s => (s.kept.below.cell (p := ⟨w.heap.size, 37, none⟩) l0).trans c0
  have r1 : ∀ s : KX (wz.heap.size) wz (wz.heap.size) [] (fun _ => True), s.val.cell? ⟨P, 1, none⟩ = some (.int .u64 d) := fun s => (s.kept.below.cell (p := ⟨P, 1, none⟩) l1).trans c1
  have r2 : ∀ s : KX (wz.heap.size) wz (wz.heap.size) [] (fun _ => True), s.val.cell? ⟨P, 2, none⟩ = some (.int .u64 t) := fun s => (s.kept.below.cell (p := ⟨P, 2, none⟩) l1).trans c2
  repeat (go_big_quiet_step (fail))
  refine wpQuiet_nil ?_
  have KH_w31 := Lib.hid K_w31
  have hw_w31 := K_w31.below
  have hz_w31 := K_w31.size
  clear K_w31
  clear E_w31 F_w31
  refine ⟨fun K hK0 => ?_, trivial⟩
  have hK := Lib.hid hK0
  clear hK0
  go_wp2_with fail
  with_reducible refine (tadd _ _ _ HU.out.1 HU.out.2).mono ?_
  rintro e w99 ⟨rfl, rfl⟩
  go_wp2_with fail
  first | (refine ⟨rfl, ⟨⟨_, KH_w31.out, trivial⟩, rfl⟩, hK.out _ _ ?_⟩; clear hK K) | (refine ⟨⟨⟨_, KH_w31.out, trivial⟩, rfl⟩, hK.out _ _ ?_⟩; clear hK K)
  refine ⟨fun K hK0 => ?_, trivial⟩
  have hK := Lib.hid hK0
  clear hK0
  go_wp2_with fail
  with_reducible refine (tdue _ _ _).mono ?_
  rintro e w99 ⟨rfl, rfl⟩
  go_wp2_with fail
  first | (refine ⟨rfl, ⟨⟨_, KH_w31.out, trivial⟩, rfl⟩, hK.out _ _ ?_⟩; clear hK K) | (refine ⟨⟨⟨_, KH_w31.out, trivial⟩, rfl⟩, hK.out _ _ ?_⟩; clear hK K)
  repeat (go_big_quiet_step (fail))
  refine wpQuiet_nil ?_
  clear r0 r1 r2
  clear _ne
  replace HB := Lib.hid (below_via HB.out KH_w31.out.below)
  go_wp2_with fail
  go_returns
  exact ⟨rfl, HB.out⟩
end Go.Proofs.Yteoeahmnonolmaa
namespace Go.Proofs.Yteoeahmnonolmaa
open Go.RowKit Plain
set_option linter.unusedVariables false
set_option linter.unusedSimpArgs false

set_option maxRecDepth 100000 in
set_option maxHeartbeats 4000000 in
theorem snew_bad (d : Int) (w : World) (hd : 100000 < d) : Calls Try.prog 10 #[.int .u64 d] w fun e w' => e = .returned (.tuple #[.pointer none, .int .i64 2]) ∧ w = w' := by
  have t : decide (d > 100000) = true := decide_eq_true hd
  go_enter Try.func10, Try.ntmps10
  go_wp2_with fail
  go_returns
  exact ⟨rfl, rfl⟩
set_option maxRecDepth 100000 in
set_option maxHeartbeats 4000000 in
theorem snew_ok (d : Int) (w : World) (h0 : 0 ≤ d) (hd : d ≤ 100000) : Calls Try.prog 10 #[.int .u64 d] w fun e w' => ∃ P, e = .returned (.tuple #[.pointer (some ⟨P, 0, none⟩), .int .i64 0]) ∧ w.heap.size ≤ P ∧ SdAt w' P ⟨d, 0, []⟩ nilSl ∧ Below w.heap.size w w' := by
  have t : decide (d > 100000) = false := decide_eq_false (by omega)
  go_enter Try.func10, Try.ntmps10
  go_wp2_with fail
  go_returns
  refine ⟨_, rfl, Nat.le_refl _, ⟨heap_alloc_new _ _, ⟨[], rfl, Rw.nil _, by simp, by simp [nilSl, Sl.v, Value.ownBlock], fun a n c h => by cases h; exact Nat.le_refl _⟩, show U d by unfold U; omega, show U 0 by unfold U; omega, by simp⟩, by go_grown⟩
set_option maxRecDepth 100000 in
set_option maxHeartbeats 4000000 in
theorem kept_ok (P : Nat) (s : Sd) (v : Sl) (w : World) (h : SdAt w P s v) : Calls Try.prog 13 #[.pointer (some ⟨P, 0, none⟩)] w fun e w' => e = .returned (.int .i64 (s.l.length : Nat)) ∧ w = w' := by
  have HS := Lib.hid h
  have c3 : w.cell? ⟨P, 3, none⟩ = some (.slice v.a v.n v.c) := cell_of_row _ _ 3 _ 73 (0, 0) h.blk
  have hn : v.n = s.l.length := by
    obtain ⟨l', h1, h2, _⟩ := h.list
    obtain ⟨_, _, _, h2, _⟩ := h2.form
    simp only [Sl.v, Value.slice.injEq] at h2
    rw [h2.2.1, ← h1, List.length_map]
  rw [hn] at c3
  clear h hn
  go_enter Try.func13, Try.ntmps13
  go_wp2_with fail
  with_reducible refine (none_ok P s v _ HS.out).mono ?_
  rintro e w2 ⟨rfl, rfl⟩
  go_wp2_with fail
  go_returns
  exact ⟨rfl, rfl⟩
set_option maxRecDepth 100000 in
set_option maxHeartbeats 4000000 in
theorem now_ok (P : Nat) (s : Sd) (v : Sl) (w : World) (h : SdAt w P s v) : Calls Try.prog 20 #[.pointer (some ⟨P, 0, none⟩)] w fun e w' => e = .returned (.int .u64 s.nw) ∧ w = w' := by
  have HS := Lib.hid h
  have c2 : w.cell? ⟨P, 2, none⟩ = some (.int .u64 s.nw) := cell_of_row _ _ 2 _ 73 (0, 0) h.blk
  clear h
  go_enter Try.func20, Try.ntmps20
  go_wp2_with fail
  with_reducible refine (none_ok P s v _ HS.out).mono ?_
  rintro e w2 ⟨rfl, rfl⟩
  go_wp2_with fail
  go_returns
  exact ⟨rfl, rfl⟩
end Go.Proofs.Yteoeahmnonolmaa
