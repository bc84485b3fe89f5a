/- Small functions over lists of numbers and bools. -/
import Derived.Test.YteocplabibhecaaRows
import Derived.Test.YteocplabibhecaaReg
import Derived.Test.YteocplabibhecaaFam
import Derived.WalkKit
import Derived.ProofKit
import Derived.LoopTactic
import Derived.Lib.Hide
import Derived.Lib.SliceRun
import Derived.Laws.CopyOwn
import Derived.Laws.IdiomCopy
namespace Go.Proofs.Yteocplabibhecaa
open Go.RowKit Plain
set_option linter.unusedVariables false
set_option linter.unusedSimpArgs false

def ic (z : Int) : List Value := [.int .i64 z]
theorem ic_ok : ∀ z : Int, (ic z).length = 1 ∧ ∀ u ∈ ic z, u.oneCell' = true := fun z => ⟨rfl, fun u hu => by simp [ic] at hu; subst hu; rfl⟩
def bc (z : Bool) : List Value := [.bool z]
theorem bc_ok : ∀ z : Bool, (bc z).length = 1 ∧ ∀ u ∈ bc z, u.oneCell' = true := fun z => ⟨rfl, fun u hu => by simp [bc] at hu; subst hu; rfl⟩
theorem info3 : (Try.prog.info? 3).map (fun i => (i.zero, i.size, i.bytes)) = some (some (.int .i64 0), 1, 8) := by kernel_rfl
theorem info4 : (Try.prog.info? 4).map (fun i => (i.zero, i.size, i.bytes)) = some (some (.bool false), 1, 1) := by kernel_rfl
theorem info32 : (Try.prog.info? 32).map (fun i => (i.zero, i.size, i.bytes)) = some (some (.slice none 0 0), 1, 24) := by kernel_rfl
theorem info30 : (Try.prog.info? 30).map (fun i => (i.zero, i.size, i.bytes)) = some (some (.slice none 0 0), 1, 24) := by kernel_rfl
theorem Rw.at1 {α : Type} {f : α → List Value} {u : α → Value} (hf : ∀ x, f x = [u x]) {w : World} {v : Value} {l : List α} (h : Rw f 1 w v l) : l.length ≤ 9223372036854775807 ∧ ∃ a cap, v = .slice a l.length cap ∧ (0 < l.length → ∃ b off, a = some ⟨b, off, none⟩ ∧ b < w.heap.size ∧ ∀ (i : Nat) x, l[i]? = some x → w.cell? ⟨b, off + i, none⟩ = some (u x)) := by
  obtain ⟨h1, a, cap, h2, h3⟩ := h.form
  refine ⟨h1, a, cap, h2, fun h0 => ?_⟩
  obtain ⟨b, off, h4, h5, h6⟩ := h3 h0
  refine ⟨b, off, h4, h5, fun i x hi => ?_⟩
  have := h6 i x hi 0 (u x) (by rw [hf]; rfl)
  rwa [Nat.mul_one, Nat.add_zero] at this
theorem ic1 : ∀ x, ic x = [Value.int .i64 x] := fun _ => rfl
theorem bc1 : ∀ x, bc x = [Value.bool x] := fun _ => rfl
theorem vc1 : ∀ x, vc x = [Sl.v x] := fun _ => rfl
theorem ob_len (a : Option Addr) (n m c d : Nat) : (Value.slice a n c).ownBlock = (Value.slice a m d).ownBlock := by cases a <;> rfl
theorem below_row {B : Nat} {w W W' : World} {row : Option Nat} (h : Below B w W) (g : W.grownBy W' row) (hB : B ≤ W.heap.size) (hr : ∀ k, row = some k → B ≤ k) : Below B w W' := h.grown g hB hr
theorem take_same {zs ys : List Int} {k : Nat} {z : Int} (h : zs.take k = ys.take k) (h1 : zs[k]? = some z) (h2 : ys[k]? = some z) : zs.take (k + 1) = ys.take (k + 1) := by
  rw [List.take_add_one, List.take_add_one, h, h1, h2]
def SameRel (w : World) (zs ys : List Int) (i : Value) (wr : World) : Prop := ∃ k : Nat, k ≤ zs.length ∧ i = .int .i64 k ∧ zs.take k = ys.take k ∧ Below w.heap.size w wr
theorem rg12_6 {P : Program} {B n : Nat} {w0 : World} {L : List (Nat × Nat × Value)} {E F : World → Prop} {id : Nat} {Q : Exit → Act → World → Prop} {a : Act} {w : World} {o0 o1 o2 o3 o4 o5 o6 o7 o8 : Oper} (hm : P.follows .mixedOrders = true)
    (hB : (Region.noSelect [o0, o1, o2, o3, o4, o5, o6, o7, o8].toArray && Scr.ok .any [o0, o1, o2, o3, o4, o5, o6, o7, o8].toArray [3, 7] [0, 1, 2, 4, 5, 6, 8] (.free 0 (.free 1 (.free 2 (.free 4 (.free 5 (.free 6 (.read 3 (.read 7 (.free 8 .done))))))))) true true [o0, o1, o2, o3, o4, o5, o6, o7, o8].toArray.size (Array.replicate [o0, o1, o2, o3, o4, o5, o6, o7, o8].toArray.size false)) = true)
    (k : Kept B w0 n L w) (he : E w) (hE : ∀ W W', E W → Below W.heap.size W W' → E W') (hf : F w) (hF : ∀ W W', F W → Below W.heap.size W W' → F W')
    (h : ∀ wk, Kept B w0 n L wk → E wk → F wk → wpQuiet P [o0, o1, o2, o3, o4, o5, o6, o7, o8].toArray (fun _ => True) (fun a0 => wpQuiet P [o0, o1, o2, o3, o4, o5, o6, o7, o8].toArray (fun w' => ∃ s : KX B w0 n L E, w' = s.val) (fun a1 => wpQuiet P [o0, o1, o2, o3, o4, o5, o6, o7, o8].toArray (fun _ => True) (fun a2 => Q .normal a2 wk) [o8] a1) [o3, o7] a0) [o0, o1, o2, o4, o5, o6] a) : (Code.region id [o0, o1, o2, o3, o4, o5, o6, o7, o8].toArray true).wp P Q a w := by
  have e1 : E w.drew := hE _ _ he ((Below.refl _ _).drew)
  have g := h _ k.drew e1 (hF _ _ hf ((Below.refl _ _).drew))
  exact wp_region_scr (U := (fun w' => ∃ s : KX B w0 n L E, w' = s.val)) (ops := [o0, o1, o2, o3, o4, o5, o6, o7, o8].toArray) (.free 0 (.free 1 (.free 2 (.free 4 (.free 5 (.free 6 (.read 3 (.read 7 (.free 8 .done))))))))) [3, 7] [0, 1, 2, 4, 5, 6, 8] hm hB ⟨⟨_, k.drew, e1⟩, rfl⟩ (Scr.of_free rfl g (fun _ g0 => Scr.of_free rfl g0 (fun _ g1 => Scr.of_free rfl g1 (fun _ g2 => Scr.of_free rfl g2 (fun _ g3 => Scr.of_free rfl g3 (fun _ g4 => Scr.of_free rfl g4 (fun _ g5 => Scr.of_read rfl g5 (fun _ g6 => Scr.of_read rfl g6 (fun _ g7 => Scr.of_free rfl g7 (fun _ g8 => g8))))))))))
set_option maxRecDepth 100000 in
set_option maxHeartbeats 2000000 in
theorem ints12 (v u : Value) (zs ys : List Int) (w : World) (hs : Rw ic 1 w v zs) (ht : Rw ic 1 w u ys) : Calls Try.prog 12 #[v, u] w fun e w' => e = .returned (.bool (decide (zs = ys))) ∧ Below w.heap.size w w' := by
  obtain ⟨m1, a1, c1, rfl, f1⟩ := hs.at1 ic1
  obtain ⟨m2, a2, c2, rfl, f2⟩ := ht.at1 ic1
  have F1 := Lib.hid f1
  have F2 := Lib.hid f2
  clear hs ht f1 f2
  by_cases hl : zs.length = ys.length
  · have HL := Lib.hid hl
    have hne : ((zs.length : Int) != (ys.length : Int)) = false := by simp [hl]
    have hle : zs.length ≤ ys.length := by omega
    clear hl
    go_enter Try.func12, Try.ntmps12
    go_wp2_with fail
    go_loopw [5] (fun i wr => SameRel w zs ys i wr) (fun i _ => zs.length - (intOf i).toNat)
    case atStart => exact ⟨0, Nat.zero_le _, rfl, by simp, Below.refl _ _⟩
    case round =>
      obtain ⟨k, hk, rfl, htk, hb⟩ := hrel
      have HT := Lib.hid htk
      have hzz := hb.size
      clear htk
      by_cases hlt : k < zs.length
      · obtain ⟨b1, o1, rfl, hb1, hc1⟩ := F1.out (by omega)
        obtain ⟨b2, o2, rfl, hb2, hc2⟩ := F2.out (by omega)
        obtain ⟨z, hz⟩ : ∃ z, zs[k]? = some z := ⟨zs[k], List.getElem?_eq_getElem hlt⟩
        obtain ⟨y, hy⟩ : ∃ y, ys[k]? = some y := ⟨ys[k]'(by omega), List.getElem?_eq_getElem (by omega)⟩
        have e1 : wr.cell? ⟨b1, o1 + k, none⟩ = some (.int .i64 z) := (hb.cell (p := ⟨b1, o1 + k, none⟩) hb1).trans (hc1 k z hz)
        have e2 : wr.cell? ⟨b2, o2 + k, none⟩ = some (.int .i64 y) := (hb.cell (p := ⟨b2, o2 + k, none⟩) hb2).trans (hc2 k y hy)
        have hb1r : b1 < wr.heap.size := by omega
        have hb2r : b2 < wr.heap.size := by omega
        have i1 : (0 : Int) ≤ (k : Int) := by omega
        have i2 : (k : Int) < (zs.length : Int) := by omega
        have i3 : (k : Int) < (ys.length : Int) := by omega
        have HZ := Lib.hid hz
        have HY := Lib.hid hy
        clear hc1 hc2 hz hy
        by_cases hzy : z = y
        · subst hzy
          have q : (z != z) = false := by simp
          go_wp2_with fail
          refine rg12_6 (w0 := wr) (B := wr.heap.size) (n := wr.heap.size) (L := []) (E := fun _ => True) (F := fun _ => True) (by kernel_rfl) (by kernel_rfl) ⟨by go_grown, by go_size, (by simp [go_sem] <;> omega)⟩ trivial (fun _ _ _ _ => trivial) trivial (fun _ _ _ _ => trivial) (fun w21 K_w21 E_w21 F_w21 => ?_)
          have _ne : Nonempty (KX (wr.heap.size) wr (wr.heap.size) [] (fun _ => True)) := ⟨⟨_, K_w21, E_w21⟩⟩
          repeat (go_big_quiet_step (fail))
          refine wpQuiet_nil ?_
          have ra : ∀ s : KX (wr.heap.size) wr (wr.heap.size) [] (fun _ => True), s.val.cell? ⟨b1, o1 + k, none⟩ = some (.int .i64 z) := fun s => (s.kept.below.cell (p := ⟨b1, o1 + k, none⟩) hb1r).trans e1
          have rb : ∀ s : KX (wr.heap.size) wr (wr.heap.size) [] (fun _ => True), s.val.cell? ⟨b2, o2 + k, none⟩ = some (.int .i64 z) := fun s => (s.kept.below.cell (p := ⟨b2, o2 + k, none⟩) hb2r).trans e2
          repeat (go_big_quiet_step (fail))
          refine wpQuiet_nil ?_
          clear ra rb
          repeat (go_big_quiet_step (fail))
          refine wpQuiet_nil ?_
          clear _ne
          have KH_w21 := Lib.hid K_w21
          have hw_w21 := K_w21.below
          have hz_w21 := K_w21.size
          clear K_w21
          clear E_w21 F_w21
          go_wp2_with fail
          go_roundw
          case rel => exact ⟨k + 1, by omega, by go_num, take_same HT.out HZ.out HY.out, below_via hb hw_w21⟩
          case measure => simp [intOf]; omega
        · have q : (z != y) = true := by simpa using hzy
          have ef : Hid (decide (zs = ys) = false) := Lib.hid (by simp; intro e; rw [e, HY.out] at HZ; exact hzy (by have := HZ.out; simpa using this.symm))
          clear hzy
          go_wp2_with fail
          refine rg12_6 (w0 := wr) (B := wr.heap.size) (n := wr.heap.size) (L := []) (E := fun _ => True) (F := fun _ => True) (by kernel_rfl) (by kernel_rfl) ⟨by go_grown, by go_size, (by simp [go_sem] <;> omega)⟩ trivial (fun _ _ _ _ => trivial) trivial (fun _ _ _ _ => trivial) (fun w21 K_w21 E_w21 F_w21 => ?_)
          have _ne : Nonempty (KX (wr.heap.size) wr (wr.heap.size) [] (fun _ => True)) := ⟨⟨_, K_w21, E_w21⟩⟩
          repeat (go_big_quiet_step (fail))
          refine wpQuiet_nil ?_
          have ra : ∀ s : KX (wr.heap.size) wr (wr.heap.size) [] (fun _ => True), s.val.cell? ⟨b1, o1 + k, none⟩ = some (.int .i64 z) := fun s => (s.kept.below.cell (p := ⟨b1, o1 + k, none⟩) hb1r).trans e1
          have rb : ∀ s : KX (wr.heap.size) wr (wr.heap.size) [] (fun _ => True), s.val.cell? ⟨b2, o2 + k, none⟩ = some (.int .i64 y) := fun s => (s.kept.below.cell (p := ⟨b2, o2 + k, none⟩) hb2r).trans e2
          repeat (go_big_quiet_step (fail))
          refine wpQuiet_nil ?_
          clear ra rb
          repeat (go_big_quiet_step (fail))
          refine wpQuiet_nil ?_
          clear _ne
          have KH_w21 := Lib.hid K_w21
          have hw_w21 := K_w21.below
          have hz_w21 := K_w21.size
          clear K_w21
          clear E_w21 F_w21
          go_wp2_with fail
          go_returns
          exact ⟨ret_bool ef.out.symm, below_via hb hw_w21⟩
      · have ef : Hid (decide (zs = ys) = true) := Lib.hid (by
          have h1 := HT.out
          rw [List.take_of_length_le (by omega), List.take_of_length_le (by have := HL.out; omega)] at h1
          simpa using h1)
        go_wp2_with fail
        go_returns
        exact ⟨ret_bool ef.out.symm, hb⟩
  · have hne : ((zs.length : Int) != (ys.length : Int)) = true := by simp; omega
    have ef : Hid (decide (zs = ys) = false) := Lib.hid (by simp; intro e; exact hl (by rw [e]))
    clear hl
    go_enter Try.func12, Try.ntmps12
    go_wp2_with fail
    go_returns
    exact ⟨ret_bool ef.out.symm, by go_grown⟩
theorem ints12c (v u : Value) (zs ys : List Int) (w : World) (hs : Rw ic 1 w v zs) (ht : Rw ic 1 w u ys) (h : zs = ys) : Calls Try.prog 12 #[v, u] w fun e w' => e = .returned (.bool true) ∧ Below w.heap.size w w' := by
  have := ints12 v u zs ys w hs ht
  rwa [decide_eq_true h] at this
/-- a copy in a row of our own -/
def CloneAt {α : Type} (f : α → List Value) (t : TypeId) (w : World) (l : List α) (e : Ending) (w' : World) : Prop := ∃ v, e = .returned v ∧ Ow f 1 t w' w.heap.size v l ∧ Below w.heap.size w w'
/-- what Index says -/
def IdxAt (w : World) (q : Bool) (e : Ending) (w' : World) : Prop := ∃ r : Int, e = .returned (.int .i64 r) ∧ decide (0 ≤ r) = q ∧ Below w.heap.size w w'
def IdxRel {α : Type} (w : World) (f : α → Bool) (zs : List α) (i : Value) (wr : World) : Prop := ∃ k : Nat, k ≤ zs.length ∧ i = .int .i64 k ∧ (zs.take k).any f = false ∧ Below w.heap.size w wr
theorem any_next {α : Type} {f : α → Bool} {zs : List α} {k : Nat} {z : α} (h : (zs.take k).any f = false) (h1 : zs[k]? = some z) (h2 : f z = false) : (zs.take (k + 1)).any f = false := by
  rw [List.take_add_one, h1, List.any_append, h]
  simp [h2]
theorem any_hit {α : Type} {f : α → Bool} {zs : List α} {k : Nat} {z : α} (h1 : zs[k]? = some z) (h2 : f z = true) : zs.any f = true := by
  rw [List.any_eq_true]
  exact ⟨z, List.mem_of_getElem? h1, h2⟩
theorem bad39 (c : Int) (w : World) : Calls Try.prog 39 #[.int .i64 c] w fun e w' => e = .returned (.bool (badC c)) ∧ w' = w := by
  by_cases h1 : c < 0
  · have e := Lib.hid (show badC c = true by simp [badC, h1])
    go_enter Try.func39, Try.ntmps39
    go_wp2_with fail
    go_returns
    exact ⟨ret_bool e.out.symm, rfl⟩
  · have e := Lib.hid (show badC c = decide (1000000 < c) by simp [badC, h1])
    go_enter Try.func39, Try.ntmps39
    go_wp2_with fail
    go_returns
    exact ⟨ret_bool e.out.symm, rfl⟩
theorem bad39c (c : Int) (b : Bool) (w : World) (h : badC c = b) : Calls Try.prog 39 #[.int .i64 c] w fun e w' => e = .returned (.bool b) ∧ w' = w := by
  subst h
  exact bad39 c w
set_option maxRecDepth 100000 in
set_option maxHeartbeats 2000000 in
theorem clone33 {l : List Int} (v : Value) (w : World) (hs : Rw ic 1 w v l) (h200 : l.length ≤ 1000) : Calls Try.prog 33 #[v] w (CloneAt ic 3 w l) := by
  have qT : ∀ (w : World) (a : Option Addr) (n c : Nat), (binOp .eql 32 (.slice a n c) (.slice none 0 0)).run Try.prog w = .ok (.bool a.isNone) w := fun w a n c => Lib.run_eql_slice_nil w 32 3 a n c 0 0 Try.underlying32
  have HS := Lib.hid hs
  obtain ⟨m1, a1, c1, rfl, _⟩ := hs.form
  clear hs
  cases a1 with
  | none =>
    have h0 : l = [] := by
      rcases HS.out with ⟨h, _⟩ | ⟨_, _, _, _, _, h, _⟩
      · exact h
      · cases h
    subst h0
    go_enter Try.func33, Try.ntmps33
    go_wp2_with fail
    go_returns
    exact ⟨_, rfl, Ow.nil _ _ _, Below.refl _ _⟩
  | some a1 =>
    go_enter Try.func33, Try.ntmps33
    go_wp2_with (at_builtin; refine wpList_append_ow (f := ic) (sz := 1) rfl _ _ 32 rfl w.heap.size 3 (.int .i64 0) 8 Try.underlying32 info3 rfl (by decide) _ [] rfl (Ow.lit w 3 [] #[] rfl (by simp) _ (Nat.le_refl _) (by simp)) ic_ok _ l rfl (HS.out.below (by go_grown)) ?c2 ?c3 (by simp) ?_)
    case c2 => simp [maxLen]; omega
    case c3 => simp; omega
    intro v' w1 hown hgrow _
    have hb1 : Below w.heap.size w w1 := ((Below.refl _ w).alloc (Nat.le_refl _) _).grown hgrow (by simp) (fun k hk => by simp [Value.ownBlock] at hk; omega)
    obtain ⟨a', c', rfl⟩ := hown.form
    have HO : Hid (Ow ic 1 3 w1 w.heap.size (.slice a' ([] ++ l).length c') l) := Lib.hid hown
    clear hown hgrow
    go_wp2_with fail
    go_returns
    exact ⟨_, rfl, HO.out, hb1⟩
set_option maxRecDepth 100000 in
set_option maxHeartbeats 2000000 in
theorem clone37 {l : List Bool} (v : Value) (w : World) (hs : Rw bc 1 w v l) (h200 : l.length ≤ 1000) : Calls Try.prog 37 #[v] w (CloneAt bc 4 w l) := by
  have qT : ∀ (w : World) (a : Option Addr) (n c : Nat), (binOp .eql 37 (.slice a n c) (.slice none 0 0)).run Try.prog w = .ok (.bool a.isNone) w := fun w a n c => Lib.run_eql_slice_nil w 37 4 a n c 0 0 Try.underlying37
  have HS := Lib.hid hs
  obtain ⟨m1, a1, c1, rfl, _⟩ := hs.form
  clear hs
  cases a1 with
  | none =>
    have h0 : l = [] := by
      rcases HS.out with ⟨h, _⟩ | ⟨_, _, _, _, _, h, _⟩
      · exact h
      · cases h
    subst h0
    go_enter Try.func37, Try.ntmps37
    go_wp2_with fail
    go_returns
    exact ⟨_, rfl, Ow.nil _ _ _, Below.refl _ _⟩
  | some a1 =>
    go_enter Try.func37, Try.ntmps37
    go_wp2_with (at_builtin; refine wpList_append_ow (f := bc) (sz := 1) rfl _ _ 37 rfl w.heap.size 4 (.bool false) 1 Try.underlying37 info4 rfl (by decide) _ [] rfl (Ow.lit w 4 [] #[] rfl (by simp) _ (Nat.le_refl _) (by simp)) bc_ok _ l rfl (HS.out.below (by go_grown)) ?c2 ?c3 (by simp) ?_)
    case c2 => simp [maxLen]; omega
    case c3 => simp; omega
    intro v' w1 hown hgrow _
    have hb1 : Below w.heap.size w w1 := ((Below.refl _ w).alloc (Nat.le_refl _) _).grown hgrow (by simp) (fun k hk => by simp [Value.ownBlock] at hk; omega)
    obtain ⟨a', c', rfl⟩ := hown.form
    have HO : Hid (Ow bc 1 4 w1 w.heap.size (.slice a' ([] ++ l).length c') l) := Lib.hid hown
    clear hown hgrow
    go_wp2_with fail
    go_returns
    exact ⟨_, rfl, HO.out, hb1⟩
set_option maxRecDepth 100000 in
set_option maxHeartbeats 2000000 in
theorem index40 (v : Value) (zs : List Bool) (w : World) (hs : Rw bc 1 w v zs) : Calls Try.prog 40 #[v, .bool false] w (IdxAt w (zs.any (fun z => !z))) := by
  obtain ⟨m1, a1, c1, rfl, f1⟩ := hs.at1 bc1
  have F1 := Lib.hid f1
  clear hs f1
  go_enter Try.func40, Try.ntmps40
  go_wp2_with fail
  go_loopw [8] (fun i wr => IdxRel w (fun z => !z) zs i wr) (fun i _ => zs.length - (intOf i).toNat)
  case atStart => exact ⟨0, Nat.zero_le _, rfl, by simp, Below.refl _ _⟩
  case round =>
    obtain ⟨k, hk, rfl, htk, hb⟩ := hrel
    have HT := Lib.hid htk
    have hzz := hb.size
    clear htk
    by_cases hlt : k < zs.length
    · obtain ⟨b1, o1, rfl, hb1, hc1⟩ := F1.out (by omega)
      obtain ⟨z, hz⟩ : ∃ z, zs[k]? = some z := ⟨zs[k], List.getElem?_eq_getElem hlt⟩
      have e1 := (hb.cell (p := ⟨b1, o1 + k, none⟩) hb1).trans (hc1 k z hz)
      have i1 : (0 : Int) ≤ (k : Int) := by omega
      have i2 : (k : Int) < (zs.length : Int) := by omega
      have HZ := Lib.hid hz
      clear hc1 hz
      cases hv : (fun z => !z) z
      all_goals
        have HV := Lib.hid hv
        clear hv
        have q := HV.out
        go_wp2_with fail
      · have ht2 := Lib.hid (any_next HT.out HZ.out HV.out)
        go_roundw
        case rel => exact ⟨k + 1, by omega, by go_num, ht2.out, by go_grown⟩
        case measure => simp [intOf]; omega
      · have ef : Hid (decide (0 ≤ (k : Int)) = zs.any (fun z => !z)) := Lib.hid (by rw [any_hit HZ.out HV.out]; simp)
        go_returns
        exact ⟨k, rfl, ef.out, by go_grown⟩
    · have ef : Hid (decide (0 ≤ (-1 : Int)) = zs.any (fun z => !z)) := Lib.hid (by
        have h1 := HT.out
        rw [List.take_of_length_le (by omega)] at h1
        rw [h1]; rfl)
      go_wp2_with fail
      go_returns
      exact ⟨-1, rfl, ef.out, hb⟩
set_option maxRecDepth 100000 in
set_option maxHeartbeats 2000000 in
theorem index41 (v : Value) (zs : List Int) (w : World) (hs : Rw ic 1 w v zs) : Calls Try.prog 41 #[v, .func (.func 39) #[] #[]] w (IdxAt w (zs.any badC)) := by
  obtain ⟨m1, a1, c1, rfl, f1⟩ := hs.at1 ic1
  have F1 := Lib.hid f1
  clear hs f1
  go_enter Try.func41, Try.ntmps41
  go_wp2_with fail
  go_loopw [8] (fun i wr => IdxRel w badC zs i wr) (fun i _ => zs.length - (intOf i).toNat)
  case atStart => exact ⟨0, Nat.zero_le _, rfl, by simp, Below.refl _ _⟩
  case round =>
    obtain ⟨k, hk, rfl, htk, hb⟩ := hrel
    have HT := Lib.hid htk
    have hzz := hb.size
    clear htk
    by_cases hlt : k < zs.length
    · obtain ⟨b1, o1, rfl, hb1, hc1⟩ := F1.out (by omega)
      obtain ⟨z, hz⟩ : ∃ z, zs[k]? = some z := ⟨zs[k], List.getElem?_eq_getElem hlt⟩
      have e1 := (hb.cell (p := ⟨b1, o1 + k, none⟩) hb1).trans (hc1 k z hz)
      have i1 : (0 : Int) ≤ (k : Int) := by omega
      have i2 : (k : Int) < (zs.length : Int) := by omega
      have HZ := Lib.hid hz
      clear hc1 hz
      cases hv : badC z
      all_goals
        have HV := Lib.hid hv
        clear hv
        go_wp2_with fail
        with_reducible refine (bad39c z _ _ HV.out).mono ?_
        rintro e w' ⟨rfl, rfl⟩
        go_wp2_with fail
      · have ht2 := Lib.hid (any_next HT.out HZ.out HV.out)
        go_roundw
        case rel => exact ⟨k + 1, by omega, by go_num, ht2.out, by go_grown⟩
        case measure => simp [intOf]; omega
      · have ef : Hid (decide (0 ≤ (k : Int)) = zs.any badC) := Lib.hid (by rw [any_hit HZ.out HV.out]; simp)
        go_returns
        exact ⟨k, rfl, ef.out, by go_grown⟩
    · have ef : Hid (decide (0 ≤ (-1 : Int)) = zs.any badC) := Lib.hid (by
        have h1 := HT.out
        rw [List.take_of_length_le (by omega)] at h1
        rw [h1]; rfl)
      go_wp2_with fail
      go_returns
      exact ⟨-1, rfl, ef.out, hb⟩
set_option maxRecDepth 100000 in
set_option maxHeartbeats 2000000 in
theorem contains36 (v : Value) (zs : List Bool) (w : World) (hs : Rw bc 1 w v zs) : Calls Try.prog 36 #[v, .bool false] w fun e w' => e = .returned (.bool (zs.any (fun z => !z))) ∧ Below w.heap.size w w' := by
  go_enter Try.func36, Try.ntmps36
  go_wp2_with fail
  with_reducible refine (index40 v zs _ hs).mono ?_
  rintro e w1 ⟨r, rfl, hr, hb⟩
  go_wp2_with fail
  go_returns
  first | exact ⟨ret_bool hr, by go_grown⟩ | exact ⟨rfl, by go_grown⟩
theorem contains36c (v : Value) (zs : List Bool) (b : Bool) (w : World) (hs : Rw bc 1 w v zs) (h : zs.any (fun z => !z) = b) : Calls Try.prog 36 #[v, .bool false] w fun e w' => e = .returned (.bool b) ∧ Below w.heap.size w w' := by
  subst h
  exact contains36 v zs w hs
set_option maxRecDepth 100000 in
set_option maxHeartbeats 2000000 in
theorem contains38 (v : Value) (zs : List Int) (w : World) (hs : Rw ic 1 w v zs) : Calls Try.prog 38 #[v, .func (.func 39) #[] #[]] w fun e w' => e = .returned (.bool (zs.any badC)) ∧ Below w.heap.size w w' := by
  go_enter Try.func38, Try.ntmps38
  go_wp2_with fail
  with_reducible refine (index41 v zs _ hs).mono ?_
  rintro e w1 ⟨r, rfl, hr, hb⟩
  go_wp2_with fail
  go_returns
  first | exact ⟨ret_bool hr, by go_grown⟩ | exact ⟨rfl, by go_grown⟩
theorem contains38c (v : Value) (zs : List Int) (b : Bool) (w : World) (hs : Rw ic 1 w v zs) (h : zs.any badC = b) : Calls Try.prog 38 #[v, .func (.func 39) #[] #[]] w fun e w' => e = .returned (.bool b) ∧ Below w.heap.size w w' := by
  subst h
  exact contains38 v zs w hs
end Go.Proofs.Yteocplabibhecaa
