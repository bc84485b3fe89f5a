/- Readers of a lobby. -/
import Derived.Test.YtonaidjdkejoeaaFn
import Derived.LoopTactic
import Derived.Laws.AppendOwn
namespace Go.Proofs.Ytonaidjdkejoeaa
open Go.RowKit Plain
set_option linter.unusedVariables false
set_option linter.unusedSimpArgs false

set_option maxRecDepth 100000 in
set_option maxHeartbeats 2000000 in
theorem enter_none (t : Int) (id : Int) (ra : Int) (pv : Value) (w : World) (hn : Calls Try.prog 23 #[pv] w fun e w' => e = .returned (.bool true) ∧ w = w') : Calls Try.prog 10 #[pv, .int .u64 t, .int .i64 id, .int .i64 ra] w fun e w' => e = .returned (.int .i64 1) ∧ Below w.heap.size w w' := by
  go_enter Try.func10, Try.ntmps10
  go_wp2_with fail
  with_reducible refine (hn).mono ?_
  rintro e w' ⟨rfl, rfl⟩
  go_wp2_with fail
  first | (go_returns; exact ⟨rfl, by go_grown⟩) | (exact bodyPost_ret (v := .int .i64 1) (by simp [results, Try.results10, go_sem]) rfl ⟨rfl, by go_grown⟩)

set_option maxRecDepth 100000 in
set_option maxHeartbeats 2000000 in
theorem leave_none (id : Int) (pv : Value) (w : World) (hn : Calls Try.prog 23 #[pv] w fun e w' => e = .returned (.bool true) ∧ w = w') : Calls Try.prog 18 #[pv, .int .i64 id] w fun e w' => e = .returned (.int .i64 1) ∧ Below w.heap.size w w' := by
  go_enter Try.func18, Try.ntmps18
  go_wp2_with fail
  with_reducible refine (hn).mono ?_
  rintro e w' ⟨rfl, rfl⟩
  go_wp2_with fail
  first | (go_returns; exact ⟨rfl, by go_grown⟩) | (exact bodyPost_ret (v := .int .i64 1) (by simp [results, Try.results18, go_sem]) rfl ⟨rfl, by go_grown⟩)

set_option maxRecDepth 100000 in
set_option maxHeartbeats 2000000 in
theorem now_none  (pv : Value) (w : World) (hn : Calls Try.prog 23 #[pv] w fun e w' => e = .returned (.bool true) ∧ w = w') : Calls Try.prog 15 #[pv] w fun e w' => e = .returned (.int .u64 0) ∧ Below w.heap.size w w' := by
  go_enter Try.func15, Try.ntmps15
  go_wp2_with fail
  with_reducible refine (hn).mono ?_
  rintro e w' ⟨rfl, rfl⟩
  go_wp2_with fail
  first | (go_returns; exact ⟨rfl, by go_grown⟩) | (exact bodyPost_ret (v := .int .u64 0) (by simp [results, Try.results15, go_sem]) rfl ⟨rfl, by go_grown⟩)

set_option maxRecDepth 100000 in
set_option maxHeartbeats 2000000 in
theorem window_none (id : Int) (pv : Value) (w : World) (hn : Calls Try.prog 23 #[pv] w fun e w' => e = .returned (.bool true) ∧ w = w') : Calls Try.prog 16 #[pv, .int .i64 id] w fun e w' => e = .returned (.tuple #[.int .i64 0, .int .i64 1]) ∧ Below w.heap.size w w' := by
  go_enter Try.func16, Try.ntmps16
  go_wp2_with fail
  with_reducible refine (hn).mono ?_
  rintro e w' ⟨rfl, rfl⟩
  go_wp2_with fail
  first | (go_returns; exact ⟨rfl, by go_grown⟩) | (exact bodyPost_ret (v := .tuple #[.int .i64 0, .int .i64 1]) (by simp [results, Try.results16, go_sem]) rfl ⟨rfl, by go_grown⟩)

set_option maxRecDepth 100000 in
set_option maxHeartbeats 2000000 in
theorem waiting_none  (pv : Value) (w : World) (hn : Calls Try.prog 23 #[pv] w fun e w' => e = .returned (.bool true) ∧ w = w') : Calls Try.prog 12 #[pv] w fun e w' => e = .returned (.slice none 0 0) ∧ Below w.heap.size w w' := by
  go_enter Try.func12, Try.ntmps12
  go_wp2_with fail
  with_reducible refine (hn).mono ?_
  rintro e w' ⟨rfl, rfl⟩
  go_wp2_with fail
  first | (go_returns; exact ⟨rfl, by go_grown⟩) | (exact bodyPost_ret (v := .slice none 0 0) (by simp [results, Try.results12, go_sem]) rfl ⟨rfl, by go_grown⟩)

set_option maxRecDepth 100000 in
set_option maxHeartbeats 2000000 in
theorem copy_none  (pv : Value) (w : World) (hn : Calls Try.prog 23 #[pv] w fun e w' => e = .returned (.bool true) ∧ w = w') : Calls Try.prog 21 #[pv] w fun e w' => e = .returned (.pointer none) ∧ Below w.heap.size w w' := by
  go_enter Try.func21, Try.ntmps21
  go_wp2_with fail
  with_reducible refine (hn).mono ?_
  rintro e w' ⟨rfl, rfl⟩
  go_wp2_with fail
  first | (go_returns; exact ⟨rfl, by go_grown⟩) | (exact bodyPost_ret (v := .pointer none) (by simp [results, Try.results21, go_sem]) rfl ⟨rfl, by go_grown⟩)

set_option maxRecDepth 100000 in
set_option maxHeartbeats 2000000 in
theorem match_none (t : Int) (pv : Value) (w : World) (hn : Calls Try.prog 23 #[pv] w fun e w' => e = .returned (.bool true) ∧ w = w') : Calls Try.prog 11 #[pv, .int .u64 t] w fun e w' => e = .returned (.tuple #[.slice none 0 0, .slice none 0 0, .int .i64 1]) ∧ Below w.heap.size w w' := by
  go_enter Try.func11, Try.ntmps11
  go_wp2_with fail
  with_reducible refine (hn).mono ?_
  rintro e w' ⟨rfl, rfl⟩
  go_wp2_with fail
  first | (go_returns; exact ⟨rfl, by go_grown⟩) | (exact bodyPost_ret (v := .tuple #[.slice none 0 0, .slice none 0 0, .int .i64 1]) (by simp [results, Try.results11, go_sem]) rfl ⟨rfl, by go_grown⟩)

set_option maxRecDepth 100000 in
set_option maxHeartbeats 2000000 in
theorem now15 (P : Nat) (x : Lb) (v : Value) (w : World) (hl : LobAt w P x v) (h1 : 1 ≤ x.to) : Calls Try.prog 15 #[.pointer (some ⟨P, 0, none⟩)] w fun e w' => e = .returned (.int .u64 x.now) ∧ Below w.heap.size w w' := by
  have c3 : w.cell? ⟨P, 3, none⟩ = some (.int .u64 x.now) := hl.cell 3
  go_enter Try.func15, Try.ntmps15
  go_wp2_with fail
  with_reducible refine (none_ok P x v _ hl h1).mono ?_
  rintro e w' ⟨rfl, rfl⟩
  go_wp2_with fail
  go_returns
  exact ⟨rfl, by go_grown⟩

/-- what Window says -/
def winN (x : Lb) (id : Int) : Int := if 0 ≤ fnd x.l id then (match x.l[(fnd x.l id).toNat]? with | some p => wnd x.ba x.st x.now p.si | none => 0) else 0
def winE (x : Lb) (id : Int) : Int := if 0 ≤ fnd x.l id then 0 else 9
set_option maxRecDepth 100000 in
set_option maxHeartbeats 2000000 in
theorem window16 (P : Nat) (x : Lb) (v : Value) (id : Int) (w : World) (hl : LobAt w P x v) (OK : x.Ok) : Calls Try.prog 16 #[.pointer (some ⟨P, 0, none⟩), .int .i64 id] w fun e w' => e = .returned (.tuple #[.int .i64 (winN x id), .int .i64 (winE x id)]) ∧ Below w.heap.size w w' := by
  have h1 := OK.o0
  have hP := hl.lt
  have HL := Lib.hid hl
  obtain ⟨m1, a1, c1, e1x, f1⟩ := hl.rw.form
  subst e1x
  have F1 := Lib.hid f1
  clear hl f1
  have hbd := fnd_bd x.l id
  obtain ⟨n, hn⟩ : ∃ n, fnd x.l id = n := ⟨_, rfl⟩
  by_cases h0 : n < 0
  · have E1 : Hid (winN x id = 0) := Lib.hid (by unfold winN; rw [hn, if_neg (by omega)])
    have E2 : Hid (winE x id = 9) := Lib.hid (by unfold winE; rw [hn, if_neg (by omega)])
    have HN := Lib.hid hn
    clear hn hbd
    go_enter Try.func16, Try.ntmps16
    go_wp2_with fail
    with_reducible refine (none_ok P x _ _ HL.out h1).mono ?_
    rintro e w' ⟨rfl, rfl⟩
    go_wp2_with fail
    with_reducible refine (find25c P x _ id _ _ HL.out HN.out).mono ?_
    rintro e w1 ⟨rfl, hb⟩
    have HL1 := Lib.hid (HL.out.below hb)
    have c4_1 : w1.cell? ⟨P, 4, none⟩ = Option.some (.slice a1 x.l.length c1) := HL1.out.cell 4
    go_wp2_with fail
    exact bodyPost_ret (v := .tuple #[.int .i64 0, .int .i64 9]) (by simp [results, Try.results16, go_sem]) rfl ⟨by rw [E1.out, E2.out], by go_grown⟩
  · rw [hn] at hbd
    obtain ⟨_, hb1, hb2⟩ := hbd
    obtain ⟨p, hp, hpid⟩ := hb2 (by omega)
    clear hpid
    obtain ⟨k, rfl⟩ : ∃ k : Nat, n = k := ⟨n.toNat, by omega⟩
    rw [Int.toNat_natCast] at hp
    have E1 : Hid (winN x id = wnd x.ba x.st x.now p.si) := Lib.hid (by unfold winN; rw [hn, if_pos (by omega), Int.toNat_natCast, hp])
    have E2 : Hid (winE x id = 0) := Lib.hid (by unfold winE; rw [hn, if_pos (by omega)])
    have HN := Lib.hid hn
    have HP := Lib.hid hp
    have HU : Hid (U p.si) := Lib.hid (by have q := OK.p p (List.mem_of_getElem? hp); have := q.s0; have := q.s1; have := OK.n; unfold U at *; omega)
    have i1 : (0 : Int) ≤ (k : Int) := by omega
    have i2 : (k : Int) < (x.l.length : Int) := by omega
    clear hn hp h0 hb1 hb2
    go_enter Try.func16, Try.ntmps16
    go_wp2_with fail
    with_reducible refine (none_ok P x _ _ HL.out h1).mono ?_
    rintro e w' ⟨rfl, rfl⟩
    go_wp2_with fail
    with_reducible refine (find25c P x _ id _ _ HL.out HN.out).mono ?_
    rintro e w1 ⟨rfl, hb⟩
    have HL1 := Lib.hid (HL.out.below hb)
    have c4_1 : w1.cell? ⟨P, 4, none⟩ = Option.some (.slice a1 x.l.length c1) := HL1.out.cell 4
    obtain ⟨b1, o1, rfl, hb1, hc1⟩ := F1.out (by omega)
    have e1 := (hb.cell (p := ⟨b1, o1 + k * 3, none⟩) hb1).trans (hc1 k p HP.out 0 _ rfl)
    have e2 := (hb.cell (p := ⟨b1, o1 + k * 3 + 1, none⟩) hb1).trans (hc1 k p HP.out 1 _ rfl)
    have e3 := (hb.cell (p := ⟨b1, o1 + k * 3 + 2, none⟩) hb1).trans (hc1 k p HP.out 2 _ rfl)
    clear hc1
    go_wp2_with fail
    with_reducible refine (window29 P x _ p _ (HL1.out.below (by go_grown)) OK HU.out).mono ?_
    rintro e w2 ⟨rfl, hb2⟩
    go_wp2_with fail
    exact bodyPost_ret (v := .tuple #[.int .i64 (wnd x.ba x.st x.now p.si), .int .i64 0]) (by simp [results, Try.results16, go_sem]) rfl ⟨by rw [E1.out, E2.out], hb.trans (hb2.mono hb.size)⟩

theorem window16c (P : Nat) (x : Lb) (v : Value) (id n no : Int) (w : World) (hl : LobAt w P x v) (OK : x.Ok) (hn : winN x id = n) (he : winE x id = no) : Calls Try.prog 16 #[.pointer (some ⟨P, 0, none⟩), .int .i64 id] w fun e w' => e = .returned (.tuple #[.int .i64 n, .int .i64 no]) ∧ Below w.heap.size w w' := by
  subst hn he
  exact window16 P x v id w hl OK
/-- a list of numbers as cells -/
def ic (z : Int) : List Value := [.int .i64 z]
theorem ic_ok : ∀ z : Int, (ic z).length = 1 ∧ ∀ u ∈ ic z, u.oneCell' = true := fun z => ⟨rfl, fun u hu => by simp [ic] at hu; subst hu; rfl⟩
theorem info3 : (Try.prog.info? 3).map (fun i => (i.zero, i.size, i.bytes)) = some (some (.int .i64 0), 1, 8) := by kernel_rfl
def WaitRel (w : World) (l : List Pl) (out i : Value) (wr : World) : Prop := ∃ k : Nat, k ≤ l.length ∧ i = .int .i64 k ∧ Ow ic 1 3 wr w.heap.size out ((l.map Pl.id).take k) ∧ Below w.heap.size w wr
/-- a new list of numbers -/
def IntsAt (w : World) (xs : List Int) (e : Ending) (w' : World) : Prop := ∃ v, e = .returned v ∧ Ow ic 1 3 w' w.heap.size v xs ∧ Below w.heap.size w w'
theorem take_map_next {l : List Pl} {k : Nat} {p : Pl} (h : l[k]? = some p) : (l.map Pl.id).take k ++ [p.id] = (l.map Pl.id).take (k + 1) := by
  rw [List.take_add_one, List.getElem?_map, h]
  rfl
theorem ob_len (a : Option Addr) (n m c d : Nat) : (Value.slice a n c).ownBlock = (Value.slice a m d).ownBlock := by cases a <;> rfl
theorem below_row {B : Nat} {w W W' : World} {row : Option Nat} (h : Below B w W) (g : W.grownBy W' row) (hB : B ≤ W.heap.size) (hr : ∀ k, row = some k → B ≤ k) : Below B w W' := h.grown g hB hr
set_option maxRecDepth 100000 in
set_option maxHeartbeats 2000000 in
theorem waiting12 (P : Nat) (x : Lb) (v : Value) (w : World) (hl : LobAt w P x v) (h1 : 1 ≤ x.to) (h200 : x.l.length ≤ 200) : Calls Try.prog 12 #[.pointer (some ⟨P, 0, none⟩)] w (IntsAt w (x.l.map Pl.id)) := by
  have hP := hl.lt
  have HL := Lib.hid hl
  have c4 : w.cell? ⟨P, 4, none⟩ = some v := hl.cell 4
  obtain ⟨m1, a1, c1, rfl, f1⟩ := hl.rw.form
  have F1 := Lib.hid f1
  clear hl f1
  go_enter Try.func12, Try.ntmps12
  go_wp2_with fail
  with_reducible refine (none_ok P x _ _ HL.out h1).mono ?_
  rintro e w' ⟨rfl, rfl⟩
  go_wp2_with fail

  go_loopw [3, 13] (fun out i wr => WaitRel w x.l out i wr) (fun _ i _ => x.l.length - (intOf i).toNat)
  case atStart => exact ⟨0, Nat.zero_le _, rfl, Ow.nil _ _ _, by go_grown⟩
  case round =>
    obtain ⟨k, hk, rfl, ho, hb⟩ := hrel
    obtain ⟨ao, co, rfl⟩ := ho.form
    have HO := Lib.hid ho
    have hz_wr := hb.size
    clear ho
    by_cases hkl : k < x.l.length
    · obtain ⟨b1, o1, rfl, hb1, hc1⟩ := F1.out (by omega)
      obtain ⟨p, hp⟩ : ∃ p, x.l[k]? = some p := ⟨x.l[k], List.getElem?_eq_getElem hkl⟩
      have e1 := (hb.cell (p := ⟨b1, o1 + k * 3, none⟩) hb1).trans (hc1 k p hp 0 _ rfl)
      have e2 := (hb.cell (p := ⟨b1, o1 + k * 3 + 1, none⟩) hb1).trans (hc1 k p hp 1 _ rfl)
      have e3 := (hb.cell (p := ⟨b1, o1 + k * 3 + 2, none⟩) hb1).trans (hc1 k p hp 2 _ rfl)
      have i1 : (0 : Int) ≤ (k : Int) := by omega
      have i2 : (k : Int) < (x.l.length : Int) := by omega
      have HP := Lib.hid hp
      clear hc1 hp
      go_wp2_with (at_builtin; refine wpList_append_ow (f := ic) (sz := 1) rfl _ _ 33 rfl w.heap.size 3 (.int .i64 0) 8 Try.underlying33 info3 rfl (by decide) _ ((x.l.map Pl.id).take k) rfl ((HO.out.below (by go_grown))) ic_ok _ [p.id] rfl ?c1 ?c2 ?c3 (by go_size) ?_)
      case c1 => exact .inr ⟨by simp, by simp [maxLen], _, 0, 1, rfl, by go_size, fun i y hi j u hu => by
        have hi0 : i = 0 := by have := (List.getElem?_eq_some_iff.1 hi).1; simp at this; omega
        subst hi0
        simp at hi
        subst hi
        have hj0 : j = 0 := by have := (List.getElem?_eq_some_iff.1 hu).1; simp [ic] at this; omega
        subst hj0
        simp [ic] at hu
        subst hu
        simp⟩
      case c2 => simp [maxLen]; omega
      case c3 => simp; omega
      intro v' w1 hown hgrow _
      have HO' : Hid (Ow ic 1 3 w1 w.heap.size v' ((x.l.map Pl.id).take (k + 1))) := Lib.hid (by rw [← take_map_next HP.out]; exact hown)
      have hb1 : Below w.heap.size w w1 := below_row (W := _) (by go_grown) hgrow (by go_size) (fun q hq => (HO.out.typ q ((ob_len _ _ _ _ _).trans hq)).1)
      clear hown hgrow
      go_wp2_with fail
      go_roundw
      case rel => exact ⟨k + 1, by omega, by go_num, HO'.out, hb1⟩
      case measure => simp [intOf]; omega
    · have ek : (x.l.map Pl.id).take k = x.l.map Pl.id := List.take_of_length_le (by simp; omega)
      have HO' : Hid (Ow ic 1 3 wr w.heap.size (.slice ao ((x.l.map Pl.id).take k).length co) (x.l.map Pl.id)) := Lib.hid (by have := HO.out; rw [ek] at this ⊢; exact this)
      clear ek
      go_wp2_with fail
      go_returns
      exact ⟨_, rfl, HO'.out, hb⟩
end Go.Proofs.Ytonaidjdkejoeaa
