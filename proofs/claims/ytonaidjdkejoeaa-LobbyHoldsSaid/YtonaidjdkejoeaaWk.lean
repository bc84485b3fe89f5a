/- A lobby in memory; small things. -/
import Derived.Test.YtonaidjdkejoeaaRows
import Derived.Test.YtonaidjdkejoeaaPlain
import Derived.Test.YtonaidjdkejoeaaAb
import Derived.Test.YtonaidjdkejoeaaOnl
import Derived.Test.YtonaidjdkejoeaaRw
import Derived.Test.YtonaidjdkejoeaaReg
import Derived.WalkSpells
import Derived.WalkLawsBesides
import Derived.Laws.Rows
import Derived.IntWalk
import Derived.Laws.ByValue
import Derived.BigQuiet
import Derived.Deep.QuietTactic
namespace Go.Proofs.Ytonaidjdkejoeaa
open Go.RowKit Plain
set_option linter.unusedVariables false
set_option linter.unusedSimpArgs false

/-- the cells of a player -/
def plc (p : Pl) : List Value := [.int .i64 p.id, .int .i64 p.ra, .int .u64 p.si]
theorem plc_ok : ∀ p : Pl, (plc p).length = 3 ∧ ∀ u ∈ plc p, u.oneCell' = true := fun p => ⟨rfl, fun u hu => by simp [plc] at hu; rcases hu with rfl | rfl | rfl <;> rfl⟩
/-- the cells of a lobby -/
def lbc (x : Lb) (v : Value) : Array Value := #[.int .i64 x.ba, .int .i64 x.st, .int .u64 x.to, .int .u64 x.now, v]
/-- block P is the lobby x, whose players lie in the slice v -/
structure LobAt (w : World) (P : Nat) (x : Lb) (v : Value) : Prop where
  blk : w.heap[P]? = some (.cells (lbc x v) 61 (0, 0))
  row : Ow plc 3 71 w 0 v x.l
theorem LobAt.lt {W : World} {P : Nat} {x : Lb} {v : Value} (h : LobAt W P x v) : P < W.heap.size := (Array.getElem?_eq_some_iff.1 h.blk).1
theorem LobAt.cell {W : World} {P : Nat} {x : Lb} {v : Value} (h : LobAt W P x v) (i : Nat) : W.cell? ⟨P, i, none⟩ = (lbc x v)[i]? := cell_of_row W P i _ 61 (0, 0) h.blk
theorem LobAt.free {W : World} {P : Nat} {x : Lb} {v : Value} (h : LobAt W P x v) (i : Nat) : W.frozen? ⟨P, i, none⟩ = false := frozen_of_row W P i _ 61 h.blk
theorem LobAt.rw {W : World} {P : Nat} {x : Lb} {v : Value} (h : LobAt W P x v) : Rw plc 3 W v x.l := h.row.rw (fun p _ => (plc_ok p).1)
theorem LobAt.below {W W' : World} {P : Nat} {x : Lb} {v : Value} (h : LobAt W P x v) (hb : Below W.heap.size W W') : LobAt W' P x v := ⟨(hb.block P h.lt).trans h.blk, h.row.below hb⟩
theorem LobAt.onl {W W' : World} {S : List Nat} {P : Nat} {x : Lb} {v : Value} (h : LobAt W P x v) (ho : Onl S W W') (hP : P ∉ S) (hv : ∀ b, v.ownBlock = some b → b ∉ S) : LobAt W' P x v := ⟨(ho.block P h.lt hP).trans h.blk, h.row.onl ho hv⟩
/-- the blocks of a lobby -/
def foot (P : Nat) (v : Value) : List Nat := match v.ownBlock with
  | some b => [P, b]
  | none => [P]
theorem mem_foot {P : Nat} {v : Value} {k : Nat} : k ∈ foot P v ↔ k = P ∨ v.ownBlock = some k := by
  unfold foot
  cases h : v.ownBlock with
  | none => simp
  | some b => simp; constructor <;> (rintro (h | h) <;> simp [h])

set_option maxRecDepth 100000 in
set_option maxHeartbeats 2000000 in
theorem none_nil (w : World) : Calls Try.prog 23 #[.pointer none] w fun e w' => e = .returned (.bool true) ∧ w = w' := by
  go_enter Try.func23, Try.ntmps23
  go_wp2_with fail
  go_returns
  exact ⟨rfl, rfl⟩
set_option maxRecDepth 100000 in
set_option maxHeartbeats 2000000 in
theorem none_zero (P : Nat) (w : World) (h : w.cell? ⟨P, 2, none⟩ = some (.int .u64 0)) : Calls Try.prog 23 #[.pointer (some ⟨P, 0, none⟩)] w fun e w' => e = .returned (.bool true) ∧ w = w' := by
  go_enter Try.func23, Try.ntmps23
  go_wp2_with fail
  go_returns
  exact ⟨rfl, rfl⟩
set_option maxRecDepth 100000 in
set_option maxHeartbeats 2000000 in
theorem none_ok (P : Nat) (x : Lb) (v : Value) (w : World) (hl : LobAt w P x v) (h : 1 ≤ x.to) : Calls Try.prog 23 #[.pointer (some ⟨P, 0, none⟩)] w fun e w' => e = .returned (.bool false) ∧ w = w' := by
  have c2 : w.cell? ⟨P, 2, none⟩ = some (.int .u64 x.to) := hl.cell 2
  have q : (x.to == 0) = false := by simp; omega
  clear hl
  go_enter Try.func23, Try.ntmps23
  go_wp2_with fail
  go_returns
  exact ⟨rfl, rfl⟩
/-- a rating -/
def rB (n : Int) : Bool := decide (0 ≤ n ∧ n ≤ 4000)
set_option maxRecDepth 100000 in
set_option maxHeartbeats 2000000 in
theorem rvalid (n : Int) (w : World) : Calls Try.prog 24 #[.int .i64 n] w fun e w' => e = .returned (.bool (rB n)) ∧ w = w' := by
  go_enter Try.func24, Try.ntmps24
  go_wp2
  all_goals
    go_returns
    exact ⟨ret_bool (by unfold rB; first | exact (decide_eq_true (by omega)).symm | exact (decide_eq_false (by omega)).symm | (simp; omega)), rfl⟩
theorem rvalidc (n : Int) (b : Bool) (w : World) (h : rB n = b) : Calls Try.prog 24 #[.int .i64 n] w fun e w' => e = .returned (.bool b) ∧ w = w' := by
  subst h
  exact rvalid n w
set_option maxRecDepth 100000 in
set_option maxHeartbeats 2000000 in
theorem since26 (a b : Int) (w : World) (ha : U a) (hb : U b) : Calls Try.prog 26 #[.int .u64 a, .int .u64 b] w fun e w' => e = .returned (.int .u64 (since a b)) ∧ w = w' := by
  obtain ⟨a0, a1⟩ := ha
  obtain ⟨b0, b1⟩ := hb
  by_cases h : a ≤ b
  all_goals
    go_enter Try.func26, Try.ntmps26
    go_wp2
    go_returns
    exact ⟨ret_int (by unfold since; omega), rfl⟩
theorem since26c (a b c : Int) (w : World) (ha : U a) (hb : U b) (h : since a b = c) : Calls Try.prog 26 #[.int .u64 a, .int .u64 b] w fun e w' => e = .returned (.int .u64 c) ∧ w = w' := by
  subst h
  exact since26 a b w ha hb
set_option maxRecDepth 100000 in
set_option maxHeartbeats 2000000 in
theorem apart37 (p q : Pl) (w : World) (hp : 0 ≤ p.ra ∧ p.ra ≤ 4000) (hq : 0 ≤ q.ra ∧ q.ra ≤ 4000) : Calls Try.prog 37 #[.agg #[.int .i64 p.id, .int .i64 p.ra, .int .u64 p.si], .agg #[.int .i64 q.id, .int .i64 q.ra, .int .u64 q.si]] w fun e w' => e = .returned (.int .i64 (ap p.ra q.ra)) ∧ Below w.heap.size w w' := by
  obtain ⟨a0, a1⟩ := hp
  obtain ⟨b0, b1⟩ := hq
  by_cases h : p.ra ≤ q.ra
  all_goals
    go_enter Try.func37, Try.ntmps37
    go_wp2
    all_goals
      go_returns
      exact ⟨ret_int (by unfold ap; omega), by go_grown⟩
theorem rg29_1 {P : Program} {B n : Nat} {w0 : World} {L : List (Nat × Nat × Value)} {E F : World → Prop} {id : Nat} {Q : Exit → Act → World → Prop} {a : Act} {w : World} {o0 o1 o2 o3 o4 o5 o6 o7 o8 : Oper} (hm : P.follows .mixedOrders = true)
    (hB : (Region.noSelect [o0, o1, o2, o3, o4, o5, o6, o7, o8].toArray && Scr.ok .any [o0, o1, o2, o3, o4, o5, o6, o7, o8].toArray [3, 5] [0, 1, 2, 4, 7, 8] (.free 0 (.free 1 (.free 2 (.free 4 (.read 3 (.read 5 (.altc 6 (.free 7 (.free 8 .done)) .stop))))))) true true [o0, o1, o2, o3, o4, o5, o6, o7, o8].toArray.size (Array.replicate [o0, o1, o2, o3, o4, o5, o6, o7, o8].toArray.size false)) = true)
    (k : Kept B w0 n L w) (he : E w) (hE : ∀ W W', E W → Below W.heap.size W W' → E W') (hf : F w) (hF : ∀ W W', F W → Below W.heap.size W W' → F W')
    (h : ∀ wk, Kept B w0 n L wk → E wk → F wk → wpQuiet P [o0, o1, o2, o3, o4, o5, o6, o7, o8].toArray (fun _ => True) (fun a0 => wpQuiet P [o0, o1, o2, o3, o4, o5, o6, o7, o8].toArray (fun w' => ∃ s : KX B w0 n L E, w' = s.val) (fun a1 => ((∀ K2 : Act → World → Prop, (∀ a2 w2, wpQuiet P [o0, o1, o2, o3, o4, o5, o6, o7, o8].toArray (fun _ => True) (fun a3 => Q .normal a3 w2) [o7, o8] a2 → K2 a2 w2) → wpList P [o0, o1, o2, o3, o4, o5, o6, o7, o8].toArray (fun e a2 w2 => e = .normal ∧ K2 a2 w2) [o6] a1 wk) ∧ True)) [o3, o5] a0) [o0, o1, o2, o4] a) : (Code.region id [o0, o1, o2, o3, o4, o5, o6, o7, o8].toArray true).wp P Q a w := by
  have e1 : E w.drew := hE _ _ he ((Below.refl _ _).drew)
  have g := h _ k.drew e1 (hF _ _ hf ((Below.refl _ _).drew))
  exact wp_region_scr (U := (fun w' => ∃ s : KX B w0 n L E, w' = s.val)) (ops := [o0, o1, o2, o3, o4, o5, o6, o7, o8].toArray) (.free 0 (.free 1 (.free 2 (.free 4 (.read 3 (.read 5 (.altc 6 (.free 7 (.free 8 .done)) .stop))))))) [3, 5] [0, 1, 2, 4, 7, 8] hm hB ⟨⟨_, k.drew, e1⟩, rfl⟩ (Scr.of_free rfl g (fun _ g0 => Scr.of_free rfl g0 (fun _ g1 => Scr.of_free rfl g1 (fun _ g2 => Scr.of_free rfl g2 (fun _ g3 => Scr.of_read rfl g3 (fun _ g4 => Scr.of_read rfl g4 (fun _ g5 => (Scr.of_altc rfl (g5.1 _ (fun _ _ g => g)) (fun _ _ g6 => Scr.of_free rfl g6 (fun _ g7 => Scr.of_free rfl g7 (fun _ g8 => g8))) trivial))))))))
theorem rg29_2 {P : Program} {B n : Nat} {w0 : World} {L : List (Nat × Nat × Value)} {E F : World → Prop} {id : Nat} {Q : Exit → Act → World → Prop} {a : Act} {w : World} {o0 o1 o2 o3 o4 o5 o6 o7 o8 o9 o10 o11 o12 o13 o14 o15 : Oper} (hm : P.follows .mixedOrders = true)
    (hB : (Region.noSelect [o0, o1, o2, o3, o4, o5, o6, o7, o8, o9, o10, o11, o12, o13, o14, o15].toArray && Scr.ok .any [o0, o1, o2, o3, o4, o5, o6, o7, o8, o9, o10, o11, o12, o13, o14, o15].toArray [4, 9, 11] [0, 1, 2, 3, 5, 6, 7, 8, 10, 12, 13, 14, 15] (.free 0 (.free 1 (.free 2 (.free 3 (.free 5 (.free 6 (.free 7 (.free 8 (.free 10 (.read 4 (.read 9 (.read 11 (.free 12 (.free 13 (.free 14 (.free 15 .done)))))))))))))))) true true [o0, o1, o2, o3, o4, o5, o6, o7, o8, o9, o10, o11, o12, o13, o14, o15].toArray.size (Array.replicate [o0, o1, o2, o3, o4, o5, o6, o7, o8, o9, o10, o11, o12, o13, o14, o15].toArray.size false)) = true)
    (k : Kept B w0 n L w) (he : E w) (hE : ∀ W W', E W → Below W.heap.size W W' → E W') (hf : F w) (hF : ∀ W W', F W → Below W.heap.size W W' → F W')
    (h : ∀ wk, Kept B w0 n L wk → E wk → F wk → wpQuiet P [o0, o1, o2, o3, o4, o5, o6, o7, o8, o9, o10, o11, o12, o13, o14, o15].toArray (fun _ => True) (fun a0 => wpQuiet P [o0, o1, o2, o3, o4, o5, o6, o7, o8, o9, o10, o11, o12, o13, o14, o15].toArray (fun w' => ∃ s : KX B w0 n L E, w' = s.val) (fun a1 => wpQuiet P [o0, o1, o2, o3, o4, o5, o6, o7, o8, o9, o10, o11, o12, o13, o14, o15].toArray (fun _ => True) (fun a2 => Q .normal a2 wk) [o12, o13, o14, o15] a1) [o4, o9, o11] a0) [o0, o1, o2, o3, o5, o6, o7, o8, o10] a) : (Code.region id [o0, o1, o2, o3, o4, o5, o6, o7, o8, o9, o10, o11, o12, o13, o14, o15].toArray true).wp P Q a w := by
  have e1 : E w.drew := hE _ _ he ((Below.refl _ _).drew)
  have g := h _ k.drew e1 (hF _ _ hf ((Below.refl _ _).drew))
  exact wp_region_scr (U := (fun w' => ∃ s : KX B w0 n L E, w' = s.val)) (ops := [o0, o1, o2, o3, o4, o5, o6, o7, o8, o9, o10, o11, o12, o13, o14, o15].toArray) (.free 0 (.free 1 (.free 2 (.free 3 (.free 5 (.free 6 (.free 7 (.free 8 (.free 10 (.read 4 (.read 9 (.read 11 (.free 12 (.free 13 (.free 14 (.free 15 .done)))))))))))))))) [4, 9, 11] [0, 1, 2, 3, 5, 6, 7, 8, 10, 12, 13, 14, 15] hm hB ⟨⟨_, k.drew, e1⟩, rfl⟩ (Scr.of_free rfl g (fun _ g0 => Scr.of_free rfl g0 (fun _ g1 => Scr.of_free rfl g1 (fun _ g2 => Scr.of_free rfl g2 (fun _ g3 => Scr.of_free rfl g3 (fun _ g4 => Scr.of_free rfl g4 (fun _ g5 => Scr.of_free rfl g5 (fun _ g6 => Scr.of_free rfl g6 (fun _ g7 => Scr.of_free rfl g7 (fun _ g8 => Scr.of_read rfl g8 (fun _ g9 => Scr.of_read rfl g9 (fun _ g10 => Scr.of_read rfl g10 (fun _ g11 => Scr.of_free rfl g11 (fun _ g12 => Scr.of_free rfl g12 (fun _ g13 => Scr.of_free rfl g13 (fun _ g14 => Scr.of_free rfl g14 (fun _ g15 => g15)))))))))))))))))
set_option maxRecDepth 100000 in
set_option maxHeartbeats 2000000 in
theorem window29 (P : Nat) (x : Lb) (v : Value) (p : Pl) (w : World) (hl : LobAt w P x v) (ok : x.Ok) (hs : U p.si) : Calls Try.prog 29 #[.pointer (some ⟨P, 0, none⟩), .agg #[.int .i64 p.id, .int .i64 p.ra, .int .u64 p.si]] w fun e w' => e = .returned (.int .i64 (wnd x.ba x.st x.now p.si)) ∧ Below w.heap.size w w' := by
  have hn := ok.n
  obtain ⟨n, hn0⟩ : ∃ n, since x.now p.si = n := ⟨_, rfl⟩
  have HN := Lib.hid hn0
  have hb := since_bd hn hs
  rw [hn0] at hb
  clear hn0
  obtain ⟨n0, n1⟩ := hb
  have b0 := ok.b0
  have b1 := ok.b1
  by_cases h4 : 4000 < n
  · obtain ⟨m0, m1⟩ := mul_bd (b := 4000) ⟨ok.t0, ok.t1⟩ (by omega)
    have e4 : min n 4000 = 4000 := by omega
    have E4 := Lib.hid e4
    clear e4
    go_enter Try.func29, Try.ntmps29
    go_wp2_with fail
    refine rg29_1 (w0 := w) (B := w.heap.size) (n := w.heap.size + 1) (L := [(w.heap.size, 0, .int .i64 p.id), (w.heap.size, 1, .int .i64 p.ra), (w.heap.size, 2, .int .u64 p.si)]) (E := fun W => LobAt W P x v) (F := fun _ => True) (by kernel_rfl) (by kernel_rfl) ⟨by go_grown, by go_size, (by simp [go_sem] <;> omega)⟩ (hl.below (by go_grown)) (fun _ _ h hb => h.below hb) trivial (fun _ _ _ _ => trivial) (fun w1 K_w1 E_w1 F_w1 => ?_)
    have _ne : Nonempty (KX (w.heap.size) w (w.heap.size + 1) [(w.heap.size, 0, .int .i64 p.id), (w.heap.size, 1, .int .i64 p.ra), (w.heap.size, 2, .int .u64 p.si)] (fun W => LobAt W P x v)) := ⟨⟨_, K_w1, E_w1⟩⟩
    repeat (go_big_quiet_step (fail))
    refine wpQuiet_nil ?_
    have rB0 : ∀ s : KX (w.heap.size) w (w.heap.size + 1) [(w.heap.size, 0, .int .i64 p.id), (w.heap.size, 1, .int .i64 p.ra), (w.heap.size, 2, .int .u64 p.si)] (fun W => LobAt W P x v), s.val.cell? ⟨w.heap.size, 0, none⟩ = some (.int .i64 p.id) := fun s => s.kept.at (by simp)
    have rB1 : ∀ s : KX (w.heap.size) w (w.heap.size + 1) [(w.heap.size, 0, .int .i64 p.id), (w.heap.size, 1, .int .i64 p.ra), (w.heap.size, 2, .int .u64 p.si)] (fun W => LobAt W P x v), s.val.cell? ⟨w.heap.size, 1, none⟩ = some (.int .i64 p.ra) := fun s => s.kept.at (by simp)
    have rB2 : ∀ s : KX (w.heap.size) w (w.heap.size + 1) [(w.heap.size, 0, .int .i64 p.id), (w.heap.size, 1, .int .i64 p.ra), (w.heap.size, 2, .int .u64 p.si)] (fun W => LobAt W P x v), s.val.cell? ⟨w.heap.size, 2, none⟩ = some (.int .u64 p.si) := fun s => s.kept.at (by simp)
    have rl0 : ∀ s : KX (w.heap.size) w (w.heap.size + 1) [(w.heap.size, 0, .int .i64 p.id), (w.heap.size, 1, .int .i64 p.ra), (w.heap.size, 2, .int .u64 p.si)] (fun W => LobAt W P x v), s.val.cell? ⟨P, 0, none⟩ = some (.int .i64 x.ba) := fun s => s.ex.cell 0
    have rl1 : ∀ s : KX (w.heap.size) w (w.heap.size + 1) [(w.heap.size, 0, .int .i64 p.id), (w.heap.size, 1, .int .i64 p.ra), (w.heap.size, 2, .int .u64 p.si)] (fun W => LobAt W P x v), s.val.cell? ⟨P, 1, none⟩ = some (.int .i64 x.st) := fun s => s.ex.cell 1
    have rl3 : ∀ s : KX (w.heap.size) w (w.heap.size + 1) [(w.heap.size, 0, .int .i64 p.id), (w.heap.size, 1, .int .i64 p.ra), (w.heap.size, 2, .int .u64 p.si)] (fun W => LobAt W P x v), s.val.cell? ⟨P, 3, none⟩ = some (.int .u64 x.now) := fun s => s.ex.cell 3
    repeat (go_big_quiet_step (fail))
    refine wpQuiet_nil ?_
    clear rB0 rB1 rB2 rl0 rl1 rl3
    have KH_w1 := Lib.hid K_w1
    have hw_w1 := K_w1.below
    have hz_w1 := K_w1.size
    have lB_w1 : w.heap.size < w1.heap.size := by omega
    have cB0_w1 := K_w1.at (b := w.heap.size) (o := 0) (v := .int .i64 p.id) (by simp)
    have fB0_w1 := K_w1.free (b := w.heap.size) (o := 0) (v := .int .i64 p.id) (by simp)
    have cB1_w1 := K_w1.at (b := w.heap.size) (o := 1) (v := .int .i64 p.ra) (by simp)
    have fB1_w1 := K_w1.free (b := w.heap.size) (o := 1) (v := .int .i64 p.ra) (by simp)
    have cB2_w1 := K_w1.at (b := w.heap.size) (o := 2) (v := .int .u64 p.si) (by simp)
    have fB2_w1 := K_w1.free (b := w.heap.size) (o := 2) (v := .int .u64 p.si) (by simp)
    clear K_w1
    have HL := Lib.hid E_w1
    clear E_w1 F_w1
    refine ⟨fun K hK0 => ?_, trivial⟩
    have hK := Lib.hid hK0
    clear hK0
    go_wp2_with fail
    with_reducible refine (since26c x.now p.si n _ hn hs HN.out).mono ?_
    rintro e w' ⟨rfl, rfl⟩
    go_wp2_with fail
    first | (refine ⟨rfl, hK.out _ _ ?_⟩; clear hK K) | (refine hK.out _ _ ?_; clear hK K)
    repeat (go_big_quiet_step (fail))
    refine wpQuiet_nil ?_
    clear _ne
    go_wp2_with fail
    refine rg29_2 (w0 := w) (B := w.heap.size) (n := w.heap.size + 1) (L := [(w.heap.size, 0, .int .i64 p.id), (w.heap.size, 1, .int .i64 p.ra), (w.heap.size, 2, .int .u64 p.si)]) (E := fun W => LobAt W P x v) (F := fun _ => True) (by kernel_rfl) (by kernel_rfl) (KH_w1.out.step (by omega) (by go_grown)) (HL.out.below (by go_grown)) (fun _ _ h hb => h.below hb) trivial (fun _ _ _ _ => trivial) (fun w2 K_w2 E_w2 F_w2 => ?_)
    have _ne : Nonempty (KX (w.heap.size) w (w.heap.size + 1) [(w.heap.size, 0, .int .i64 p.id), (w.heap.size, 1, .int .i64 p.ra), (w.heap.size, 2, .int .u64 p.si)] (fun W => LobAt W P x v)) := ⟨⟨_, K_w2, E_w2⟩⟩
    repeat (go_big_quiet_step (fail))
    refine wpQuiet_nil ?_
    have rB0 : ∀ s : KX (w.heap.size) w (w.heap.size + 1) [(w.heap.size, 0, .int .i64 p.id), (w.heap.size, 1, .int .i64 p.ra), (w.heap.size, 2, .int .u64 p.si)] (fun W => LobAt W P x v), s.val.cell? ⟨w.heap.size, 0, none⟩ = some (.int .i64 p.id) := fun s => s.kept.at (by simp)
    have rB1 : ∀ s : KX (w.heap.size) w (w.heap.size + 1) [(w.heap.size, 0, .int .i64 p.id), (w.heap.size, 1, .int .i64 p.ra), (w.heap.size, 2, .int .u64 p.si)] (fun W => LobAt W P x v), s.val.cell? ⟨w.heap.size, 1, none⟩ = some (.int .i64 p.ra) := fun s => s.kept.at (by simp)
    have rB2 : ∀ s : KX (w.heap.size) w (w.heap.size + 1) [(w.heap.size, 0, .int .i64 p.id), (w.heap.size, 1, .int .i64 p.ra), (w.heap.size, 2, .int .u64 p.si)] (fun W => LobAt W P x v), s.val.cell? ⟨w.heap.size, 2, none⟩ = some (.int .u64 p.si) := fun s => s.kept.at (by simp)
    have rl0 : ∀ s : KX (w.heap.size) w (w.heap.size + 1) [(w.heap.size, 0, .int .i64 p.id), (w.heap.size, 1, .int .i64 p.ra), (w.heap.size, 2, .int .u64 p.si)] (fun W => LobAt W P x v), s.val.cell? ⟨P, 0, none⟩ = some (.int .i64 x.ba) := fun s => s.ex.cell 0
    have rl1 : ∀ s : KX (w.heap.size) w (w.heap.size + 1) [(w.heap.size, 0, .int .i64 p.id), (w.heap.size, 1, .int .i64 p.ra), (w.heap.size, 2, .int .u64 p.si)] (fun W => LobAt W P x v), s.val.cell? ⟨P, 1, none⟩ = some (.int .i64 x.st) := fun s => s.ex.cell 1
    have rl3 : ∀ s : KX (w.heap.size) w (w.heap.size + 1) [(w.heap.size, 0, .int .i64 p.id), (w.heap.size, 1, .int .i64 p.ra), (w.heap.size, 2, .int .u64 p.si)] (fun W => LobAt W P x v), s.val.cell? ⟨P, 3, none⟩ = some (.int .u64 x.now) := fun s => s.ex.cell 3
    repeat (go_big_quiet_step (fail))
    refine wpQuiet_nil ?_
    clear rB0 rB1 rB2 rl0 rl1 rl3
    repeat (go_big_quiet_step (fail))
    refine wpQuiet_nil ?_
    clear _ne
    have KH_w2 := Lib.hid K_w2
    have hw_w2 := K_w2.below
    have hz_w2 := K_w2.size
    have lB_w2 : w.heap.size < w2.heap.size := by omega
    have cB0_w2 := K_w2.at (b := w.heap.size) (o := 0) (v := .int .i64 p.id) (by simp)
    have fB0_w2 := K_w2.free (b := w.heap.size) (o := 0) (v := .int .i64 p.id) (by simp)
    have cB1_w2 := K_w2.at (b := w.heap.size) (o := 1) (v := .int .i64 p.ra) (by simp)
    have fB1_w2 := K_w2.free (b := w.heap.size) (o := 1) (v := .int .i64 p.ra) (by simp)
    have cB2_w2 := K_w2.at (b := w.heap.size) (o := 2) (v := .int .u64 p.si) (by simp)
    have fB2_w2 := K_w2.free (b := w.heap.size) (o := 2) (v := .int .u64 p.si) (by simp)
    clear lB_w1 cB0_w1 fB0_w1 cB1_w1 fB1_w1 cB2_w1 fB2_w1
    clear K_w2
    have HL2 := Lib.hid E_w2
    clear E_w2 F_w2
    go_wp2_with fail
    all_goals
      go_returns
      exact ⟨ret_int (by unfold wnd; rw [HN.out, E4.out]; omega), by go_grown⟩
  · obtain ⟨m0, m1⟩ := mul_bd (b := n) ⟨ok.t0, ok.t1⟩ (by omega)
    have e4 : min n 4000 = n := by omega
    have E4 := Lib.hid e4
    clear e4
    go_enter Try.func29, Try.ntmps29
    go_wp2_with fail
    refine rg29_1 (w0 := w) (B := w.heap.size) (n := w.heap.size + 1) (L := [(w.heap.size, 0, .int .i64 p.id), (w.heap.size, 1, .int .i64 p.ra), (w.heap.size, 2, .int .u64 p.si)]) (E := fun W => LobAt W P x v) (F := fun _ => True) (by kernel_rfl) (by kernel_rfl) ⟨by go_grown, by go_size, (by simp [go_sem] <;> omega)⟩ (hl.below (by go_grown)) (fun _ _ h hb => h.below hb) trivial (fun _ _ _ _ => trivial) (fun w1 K_w1 E_w1 F_w1 => ?_)
    have _ne : Nonempty (KX (w.heap.size) w (w.heap.size + 1) [(w.heap.size, 0, .int .i64 p.id), (w.heap.size, 1, .int .i64 p.ra), (w.heap.size, 2, .int .u64 p.si)] (fun W => LobAt W P x v)) := ⟨⟨_, K_w1, E_w1⟩⟩
    repeat (go_big_quiet_step (fail))
    refine wpQuiet_nil ?_
    have rB0 : ∀ s : KX (w.heap.size) w (w.heap.size + 1) [(w.heap.size, 0, .int .i64 p.id), (w.heap.size, 1, .int .i64 p.ra), (w.heap.size, 2, .int .u64 p.si)] (fun W => LobAt W P x v), s.val.cell? ⟨w.heap.size, 0, none⟩ = some (.int .i64 p.id) := fun s => s.kept.at (by simp)
    have rB1 : ∀ s : KX (w.heap.size) w (w.heap.size + 1) [(w.heap.size, 0, .int .i64 p.id), (w.heap.size, 1, .int .i64 p.ra), (w.heap.size, 2, .int .u64 p.si)] (fun W => LobAt W P x v), s.val.cell? ⟨w.heap.size, 1, none⟩ = some (.int .i64 p.ra) := fun s => s.kept.at (by simp)
    have rB2 : ∀ s : KX (w.heap.size) w (w.heap.size + 1) [(w.heap.size, 0, .int .i64 p.id), (w.heap.size, 1, .int .i64 p.ra), (w.heap.size, 2, .int .u64 p.si)] (fun W => LobAt W P x v), s.val.cell? ⟨w.heap.size, 2, none⟩ = some (.int .u64 p.si) := fun s => s.kept.at (by simp)
    have rl0 : ∀ s : KX (w.heap.size) w (w.heap.size + 1) [(w.heap.size, 0, .int .i64 p.id), (w.heap.size, 1, .int .i64 p.ra), (w.heap.size, 2, .int .u64 p.si)] (fun W => LobAt W P x v), s.val.cell? ⟨P, 0, none⟩ = some (.int .i64 x.ba) := fun s => s.ex.cell 0
    have rl1 : ∀ s : KX (w.heap.size) w (w.heap.size + 1) [(w.heap.size, 0, .int .i64 p.id), (w.heap.size, 1, .int .i64 p.ra), (w.heap.size, 2, .int .u64 p.si)] (fun W => LobAt W P x v), s.val.cell? ⟨P, 1, none⟩ = some (.int .i64 x.st) := fun s => s.ex.cell 1
    have rl3 : ∀ s : KX (w.heap.size) w (w.heap.size + 1) [(w.heap.size, 0, .int .i64 p.id), (w.heap.size, 1, .int .i64 p.ra), (w.heap.size, 2, .int .u64 p.si)] (fun W => LobAt W P x v), s.val.cell? ⟨P, 3, none⟩ = some (.int .u64 x.now) := fun s => s.ex.cell 3
    repeat (go_big_quiet_step (fail))
    refine wpQuiet_nil ?_
    clear rB0 rB1 rB2 rl0 rl1 rl3
    have KH_w1 := Lib.hid K_w1
    have hw_w1 := K_w1.below
    have hz_w1 := K_w1.size
    have lB_w1 : w.heap.size < w1.heap.size := by omega
    have cB0_w1 := K_w1.at (b := w.heap.size) (o := 0) (v := .int .i64 p.id) (by simp)
    have fB0_w1 := K_w1.free (b := w.heap.size) (o := 0) (v := .int .i64 p.id) (by simp)
    have cB1_w1 := K_w1.at (b := w.heap.size) (o := 1) (v := .int .i64 p.ra) (by simp)
    have fB1_w1 := K_w1.free (b := w.heap.size) (o := 1) (v := .int .i64 p.ra) (by simp)
    have cB2_w1 := K_w1.at (b := w.heap.size) (o := 2) (v := .int .u64 p.si) (by simp)
    have fB2_w1 := K_w1.free (b := w.heap.size) (o := 2) (v := .int .u64 p.si) (by simp)
    clear K_w1
    have HL := Lib.hid E_w1
    clear E_w1 F_w1
    refine ⟨fun K hK0 => ?_, trivial⟩
    have hK := Lib.hid hK0
    clear hK0
    go_wp2_with fail
    with_reducible refine (since26c x.now p.si n _ hn hs HN.out).mono ?_
    rintro e w' ⟨rfl, rfl⟩
    go_wp2_with fail
    first | (refine ⟨rfl, hK.out _ _ ?_⟩; clear hK K) | (refine hK.out _ _ ?_; clear hK K)
    repeat (go_big_quiet_step (fail))
    refine wpQuiet_nil ?_
    clear _ne
    go_wp2_with fail
    refine rg29_2 (w0 := w) (B := w.heap.size) (n := w.heap.size + 1) (L := [(w.heap.size, 0, .int .i64 p.id), (w.heap.size, 1, .int .i64 p.ra), (w.heap.size, 2, .int .u64 p.si)]) (E := fun W => LobAt W P x v) (F := fun _ => True) (by kernel_rfl) (by kernel_rfl) (KH_w1.out.step (by omega) (by go_grown)) (HL.out.below (by go_grown)) (fun _ _ h hb => h.below hb) trivial (fun _ _ _ _ => trivial) (fun w2 K_w2 E_w2 F_w2 => ?_)
    have _ne : Nonempty (KX (w.heap.size) w (w.heap.size + 1) [(w.heap.size, 0, .int .i64 p.id), (w.heap.size, 1, .int .i64 p.ra), (w.heap.size, 2, .int .u64 p.si)] (fun W => LobAt W P x v)) := ⟨⟨_, K_w2, E_w2⟩⟩
    repeat (go_big_quiet_step (fail))
    refine wpQuiet_nil ?_
    have rB0 : ∀ s : KX (w.heap.size) w (w.heap.size + 1) [(w.heap.size, 0, .int .i64 p.id), (w.heap.size, 1, .int .i64 p.ra), (w.heap.size, 2, .int .u64 p.si)] (fun W => LobAt W P x v), s.val.cell? ⟨w.heap.size, 0, none⟩ = some (.int .i64 p.id) := fun s => s.kept.at (by simp)
    have rB1 : ∀ s : KX (w.heap.size) w (w.heap.size + 1) [(w.heap.size, 0, .int .i64 p.id), (w.heap.size, 1, .int .i64 p.ra), (w.heap.size, 2, .int .u64 p.si)] (fun W => LobAt W P x v), s.val.cell? ⟨w.heap.size, 1, none⟩ = some (.int .i64 p.ra) := fun s => s.kept.at (by simp)
    have rB2 : ∀ s : KX (w.heap.size) w (w.heap.size + 1) [(w.heap.size, 0, .int .i64 p.id), (w.heap.size, 1, .int .i64 p.ra), (w.heap.size, 2, .int .u64 p.si)] (fun W => LobAt W P x v), s.val.cell? ⟨w.heap.size, 2, none⟩ = some (.int .u64 p.si) := fun s => s.kept.at (by simp)
    have rl0 : ∀ s : KX (w.heap.size) w (w.heap.size + 1) [(w.heap.size, 0, .int .i64 p.id), (w.heap.size, 1, .int .i64 p.ra), (w.heap.size, 2, .int .u64 p.si)] (fun W => LobAt W P x v), s.val.cell? ⟨P, 0, none⟩ = some (.int .i64 x.ba) := fun s => s.ex.cell 0
    have rl1 : ∀ s : KX (w.heap.size) w (w.heap.size + 1) [(w.heap.size, 0, .int .i64 p.id), (w.heap.size, 1, .int .i64 p.ra), (w.heap.size, 2, .int .u64 p.si)] (fun W => LobAt W P x v), s.val.cell? ⟨P, 1, none⟩ = some (.int .i64 x.st) := fun s => s.ex.cell 1
    have rl3 : ∀ s : KX (w.heap.size) w (w.heap.size + 1) [(w.heap.size, 0, .int .i64 p.id), (w.heap.size, 1, .int .i64 p.ra), (w.heap.size, 2, .int .u64 p.si)] (fun W => LobAt W P x v), s.val.cell? ⟨P, 3, none⟩ = some (.int .u64 x.now) := fun s => s.ex.cell 3
    repeat (go_big_quiet_step (fail))
    refine wpQuiet_nil ?_
    clear rB0 rB1 rB2 rl0 rl1 rl3
    repeat (go_big_quiet_step (fail))
    refine wpQuiet_nil ?_
    clear _ne
    have KH_w2 := Lib.hid K_w2
    have hw_w2 := K_w2.below
    have hz_w2 := K_w2.size
    have lB_w2 : w.heap.size < w2.heap.size := by omega
    have cB0_w2 := K_w2.at (b := w.heap.size) (o := 0) (v := .int .i64 p.id) (by simp)
    have fB0_w2 := K_w2.free (b := w.heap.size) (o := 0) (v := .int .i64 p.id) (by simp)
    have cB1_w2 := K_w2.at (b := w.heap.size) (o := 1) (v := .int .i64 p.ra) (by simp)
    have fB1_w2 := K_w2.free (b := w.heap.size) (o := 1) (v := .int .i64 p.ra) (by simp)
    have cB2_w2 := K_w2.at (b := w.heap.size) (o := 2) (v := .int .u64 p.si) (by simp)
    have fB2_w2 := K_w2.free (b := w.heap.size) (o := 2) (v := .int .u64 p.si) (by simp)
    clear lB_w1 cB0_w1 fB0_w1 cB1_w1 fB1_w1 cB2_w1 fB2_w1
    clear K_w2
    have HL2 := Lib.hid E_w2
    clear E_w2 F_w2
    go_wp2_with fail
    all_goals
      go_returns
      exact ⟨ret_int (by unfold wnd; rw [HN.out, E4.out]; omega), by go_grown⟩
end Go.Proofs.Ytonaidjdkejoeaa
