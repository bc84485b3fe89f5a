/- A window in memory; readers. -/
import Derived.Test.YthibagfmglnejaaWk
namespace Go.Proofs.Ythibagfmglnejaa
open Go.RowKit Plain
set_option linter.unusedVariables false
set_option linter.unusedSimpArgs false

/-- block D of W holds l, and more behind it -/
def DAt (W : World) (D : Nat) (l : List Bool) (ex : List Value) : Prop := W.heap[D]? = some (.cells (l.map Value.bool ++ ex).toArray 4 (0, 0))
/-- block P of W is a window -/
structure WinAt (W : World) (P D : Nat) (f : Int) (l : List Bool) (cap : Nat) (ex : List Value) : Prop where
  p : W.heap[P]? = some (.cells #[.int .u16 f, .slice (some ⟨D, 0, none⟩) l.length cap] 50 (0, 0))
  d : DAt W D l ex
  ne : D ≠ P
  l1 : 1 ≤ l.length
  l2 : l.length ≤ 1024
  f0 : U16 f
  c : l.length ≤ cap
  c2 : cap ≤ maxLen
theorem DAt.lt {W : World} {D : Nat} {l : List Bool} {ex : List Value} (h : DAt W D l ex) : D < W.heap.size := (Array.getElem?_eq_some_iff.1 h).1
theorem DAt.cell {W : World} {D : Nat} {l : List Bool} {ex : List Value} (h : DAt W D l ex) {i : Nat} {b : Bool} (hi : l[i]? = some b) : W.cell? ⟨D, i, none⟩ = some (.bool b) := by
  rw [cell_of_row W D i _ 4 (0, 0) h]
  have := (List.getElem?_eq_some_iff.1 hi).1
  rw [List.getElem?_toArray, List.getElem?_append_left (by simpa using this), List.getElem?_map, hi]
  rfl
theorem DAt.free {W : World} {D : Nat} {l : List Bool} {ex : List Value} (h : DAt W D l ex) (i : Nat) : W.frozen? ⟨D, i, none⟩ = false := frozen_of_row W D i _ 4 h
theorem DAt.below {W W' : World} {D : Nat} {l : List Bool} {ex : List Value} (h : DAt W D l ex) (hb : Below W.heap.size W W') : DAt W' D l ex := (hb.block D h.lt).trans h
theorem DAt.onl {W W' : World} {S : List Nat} {D : Nat} {l : List Bool} {ex : List Value} (h : DAt W D l ex) (ho : Onl S W W') (hD : D ∉ S) : DAt W' D l ex := (ho.block D h.lt hD).trans h
theorem WinAt.plt {W : World} {P D : Nat} {f : Int} {l : List Bool} {cap : Nat} {ex : List Value} (h : WinAt W P D f l cap ex) : P < W.heap.size := (Array.getElem?_eq_some_iff.1 h.p).1
theorem WinAt.cell0 {W : World} {P D : Nat} {f : Int} {l : List Bool} {cap : Nat} {ex : List Value} (h : WinAt W P D f l cap ex) : W.cell? ⟨P, 0, none⟩ = some (.int .u16 f) := cell_of_row W P 0 _ 50 (0, 0) h.p
theorem WinAt.cell1 {W : World} {P D : Nat} {f : Int} {l : List Bool} {cap : Nat} {ex : List Value} (h : WinAt W P D f l cap ex) : W.cell? ⟨P, 1, none⟩ = some (.slice (some ⟨D, 0, none⟩) l.length cap) := cell_of_row W P 1 _ 50 (0, 0) h.p
theorem WinAt.free {W : World} {P D : Nat} {f : Int} {l : List Bool} {cap : Nat} {ex : List Value} (h : WinAt W P D f l cap ex) (i : Nat) : W.frozen? ⟨P, i, none⟩ = false := frozen_of_row W P i _ 50 h.p
theorem WinAt.below {W W' : World} {P D : Nat} {f : Int} {l : List Bool} {cap : Nat} {ex : List Value} (h : WinAt W P D f l cap ex) (hb : Below W.heap.size W W') : WinAt W' P D f l cap ex :=
  ⟨(hb.block P h.plt).trans h.p, h.d.below hb, h.ne, h.l1, h.l2, h.f0, h.c, h.c2⟩
theorem WinAt.onl {W W' : World} {S : List Nat} {P D : Nat} {f : Int} {l : List Bool} {cap : Nat} {ex : List Value} (h : WinAt W P D f l cap ex) (ho : Onl S W W') (h1 : P ∉ S) (h2 : D ∉ S) : WinAt W' P D f l cap ex :=
  ⟨(ho.block P h.plt h1).trans h.p, h.d.onl ho h2, h.ne, h.l1, h.l2, h.f0, h.c, h.c2⟩

set_option maxRecDepth 100000 in
set_option maxHeartbeats 2000000 in
theorem zero26_nil (w : World) : Calls Try.prog 26 #[.pointer none] w fun e w' => e = .returned (.bool true) ∧ w = w' := by
  go_enter Try.func26, Try.ntmps26
  go_wp2_with fail
  go_returns
  exact ⟨rfl, rfl⟩

set_option maxRecDepth 100000 in
set_option maxHeartbeats 2000000 in
theorem zero26_zero (P : Nat) (w : World) (k1 : w.cell? ⟨P, 1, none⟩ = some (.slice none 0 0)) : Calls Try.prog 26 #[.pointer (some ⟨P, 0, none⟩)] w fun e w' => e = .returned (.bool true) ∧ w = w' := by
  go_enter Try.func26, Try.ntmps26
  go_wp2_with fail
  go_returns
  exact ⟨rfl, rfl⟩

set_option maxRecDepth 100000 in
set_option maxHeartbeats 2000000 in
theorem zero26 (P D : Nat) (l : List Bool) (cap : Nat) (w : World) (k1 : w.cell? ⟨P, 1, none⟩ = some (.slice (some ⟨D, 0, none⟩) l.length cap)) (hl : 1 ≤ l.length) : Calls Try.prog 26 #[.pointer (some ⟨P, 0, none⟩)] w fun e w' => e = .returned (.bool false) ∧ w = w' := by
  have hp : l ≠ [] := by intro e; rw [e] at hl; simp at hl
  have h0 : ((l.length : Int) == 0) = false := by simpa using hp
  have h1 : (l.length == 0) = false := by simpa using hp
  clear hp
  go_enter Try.func26, Try.ntmps26
  go_wp2_with fail
  go_returns
  exact ⟨rfl, rfl⟩

set_option maxRecDepth 100000 in
set_option maxHeartbeats 2000000 in
theorem first18 (P D : Nat) (f : Int) (l : List Bool) (cap : Nat) (ex : List Value) (w : World) (hw : WinAt w P D f l cap ex) : Calls Try.prog 18 #[.pointer (some ⟨P, 0, none⟩)] w fun e w' => e = .returned (.int .u16 f) ∧ w = w' := by
  have k0 := hw.cell0
  have k1 := hw.cell1
  have hl1 := hw.l1
  have hl2 := hw.l2
  have hf := hw.f0
  have HW := Lib.hid hw
  clear hw
  go_enter Try.func18, Try.ntmps18
  go_wp2_with fail
  with_reducible refine (zero26 P D l cap _ k1 hl1).mono ?_
  rintro e w' ⟨rfl, rfl⟩
  go_wp2_with fail
  go_returns
  exact ⟨rfl, rfl⟩

set_option maxRecDepth 100000 in
set_option maxHeartbeats 2000000 in
theorem first18_nil (w : World) : Calls Try.prog 18 #[.pointer none] w fun e w' => e = .returned (.int .u16 0) ∧ w = w' := by
  go_enter Try.func18, Try.ntmps18
  go_wp2_with fail
  with_reducible refine (zero26_nil _).mono ?_
  rintro e w' ⟨rfl, rfl⟩
  go_wp2_with fail
  go_returns
  exact ⟨rfl, rfl⟩

set_option maxRecDepth 100000 in
set_option maxHeartbeats 2000000 in
theorem has21_nil (n : Int) (w : World) : Calls Try.prog 21 #[.pointer none, .int .u16 n] w fun e w' => e = .returned (.bool false) ∧ w = w' := by
  go_enter Try.func21, Try.ntmps21
  go_wp2_with fail
  with_reducible refine (zero26_nil _).mono ?_
  rintro e w' ⟨rfl, rfl⟩
  go_wp2_with fail
  go_returns
  exact ⟨rfl, rfl⟩

set_option maxRecDepth 100000 in
set_option maxHeartbeats 2000000 in
theorem accept17_nil (n : Int) (w : World) : Calls Try.prog 17 #[.pointer none, .int .u16 n] w fun e w' => e = .returned (.int .i64 1) ∧ w = w' := by
  go_enter Try.func17, Try.ntmps17
  go_wp2_with fail
  with_reducible refine (zero26_nil _).mono ?_
  rintro e w' ⟨rfl, rfl⟩
  go_wp2_with fail
  go_returns
  exact ⟨rfl, rfl⟩

set_option maxRecDepth 100000 in
set_option maxHeartbeats 2000000 in
theorem copy23_nil (w : World) : Calls Try.prog 23 #[.pointer none] w fun e w' => e = .returned (.pointer none) ∧ w = w' := by
  go_enter Try.func23, Try.ntmps23
  go_wp2_with fail
  with_reducible refine (zero26_nil _).mono ?_
  rintro e w' ⟨rfl, rfl⟩
  go_wp2_with fail
  go_returns
  exact ⟨rfl, rfl⟩

set_option maxRecDepth 100000 in
set_option maxHeartbeats 2000000 in
theorem pending19_nil (w : World) : Calls Try.prog 19 #[.pointer none] w fun e w' => e = .returned (.slice none 0 0) ∧ w = w' := by
  go_enter Try.func19, Try.ntmps19
  go_wp2_with fail
  with_reducible refine (zero26_nil _).mono ?_
  rintro e w' ⟨rfl, rfl⟩
  go_wp2_with fail
  go_returns
  exact ⟨rfl, rfl⟩

set_option maxRecDepth 100000 in
set_option maxHeartbeats 2000000 in
theorem first18_zero (P : Nat) (w : World) (k1 : w.cell? ⟨P, 1, none⟩ = some (.slice none 0 0)) : Calls Try.prog 18 #[.pointer (some ⟨P, 0, none⟩)] w fun e w' => e = .returned (.int .u16 0) ∧ w = w' := by
  go_enter Try.func18, Try.ntmps18
  go_wp2_with fail
  with_reducible refine (zero26_zero P _ k1).mono ?_
  rintro e w' ⟨rfl, rfl⟩
  go_wp2_with fail
  go_returns
  exact ⟨rfl, rfl⟩

set_option maxRecDepth 100000 in
set_option maxHeartbeats 2000000 in
theorem has21_zero (P : Nat) (n : Int) (w : World) (k1 : w.cell? ⟨P, 1, none⟩ = some (.slice none 0 0)) : Calls Try.prog 21 #[.pointer (some ⟨P, 0, none⟩), .int .u16 n] w fun e w' => e = .returned (.bool false) ∧ w = w' := by
  go_enter Try.func21, Try.ntmps21
  go_wp2_with fail
  with_reducible refine (zero26_zero P _ k1).mono ?_
  rintro e w' ⟨rfl, rfl⟩
  go_wp2_with fail
  go_returns
  exact ⟨rfl, rfl⟩

set_option maxRecDepth 100000 in
set_option maxHeartbeats 2000000 in
theorem accept17_zero (P : Nat) (n : Int) (w : World) (k1 : w.cell? ⟨P, 1, none⟩ = some (.slice none 0 0)) : Calls Try.prog 17 #[.pointer (some ⟨P, 0, none⟩), .int .u16 n] w fun e w' => e = .returned (.int .i64 1) ∧ w = w' := by
  go_enter Try.func17, Try.ntmps17
  go_wp2_with fail
  with_reducible refine (zero26_zero P _ k1).mono ?_
  rintro e w' ⟨rfl, rfl⟩
  go_wp2_with fail
  go_returns
  exact ⟨rfl, rfl⟩

set_option maxRecDepth 100000 in
set_option maxHeartbeats 2000000 in
theorem copy23_zero (P : Nat) (w : World) (k1 : w.cell? ⟨P, 1, none⟩ = some (.slice none 0 0)) : Calls Try.prog 23 #[.pointer (some ⟨P, 0, none⟩)] w fun e w' => e = .returned (.pointer none) ∧ w = w' := by
  go_enter Try.func23, Try.ntmps23
  go_wp2_with fail
  with_reducible refine (zero26_zero P _ k1).mono ?_
  rintro e w' ⟨rfl, rfl⟩
  go_wp2_with fail
  go_returns
  exact ⟨rfl, rfl⟩

set_option maxRecDepth 100000 in
set_option maxHeartbeats 2000000 in
theorem pending19_zero (P : Nat) (w : World) (k1 : w.cell? ⟨P, 1, none⟩ = some (.slice none 0 0)) : Calls Try.prog 19 #[.pointer (some ⟨P, 0, none⟩)] w fun e w' => e = .returned (.slice none 0 0) ∧ w = w' := by
  go_enter Try.func19, Try.ntmps19
  go_wp2_with fail
  with_reducible refine (zero26_zero P _ k1).mono ?_
  rintro e w' ⟨rfl, rfl⟩
  go_wp2_with fail
  go_returns
  exact ⟨rfl, rfl⟩

set_option maxRecDepth 100000 in
set_option maxHeartbeats 2000000 in
theorem has21 (P D : Nat) (f : Int) (l : List Bool) (cap : Nat) (ex : List Value) (w : World) (hw : WinAt w P D f l cap ex) (n : Int) (d : Nat) (hn : U16 n) (HD : Hid (dist f n = (d : Int))) : Calls Try.prog 21 #[.pointer (some ⟨P, 0, none⟩), .int .u16 n] w fun e w' => e = .returned (.bool (hasN l d)) ∧ w = w' := by
  have k0 := hw.cell0
  have k1 := hw.cell1
  have hl1 := hw.l1
  have hl2 := hw.l2
  have hf := hw.f0
  have HW := Lib.hid hw
  clear hw
  have d1 : (d : Int) ≤ 65535 := by have := dist_bd f n; rw [HD.out] at this; omega
  by_cases h1 : 32768 ≤ d
  · have e1 : Hid (hasN l d = true) := Lib.hid (by simp [hasN, h1])
    have q1 : (32768 : Int) ≤ (d : Int) := by omega
    go_enter Try.func21, Try.ntmps21
    go_wp2_with fail
    with_reducible refine (zero26 P D l cap _ k1 hl1).mono ?_
    rintro e w' ⟨rfl, rfl⟩
    go_wp2_with fail
    with_reducible refine (dist11c f n d _ hf hn HD.out).mono ?_
    rintro e w' ⟨rfl, rfl⟩
    go_wp2_with fail
    go_returns
    exact ⟨ret_bool e1.out.symm, rfl⟩
  · have q1 : ¬ (32768 : Int) ≤ (d : Int) := by omega
    have q1' : decide ((32768 : Int) ≤ (d : Int)) = false := by simpa using q1
    by_cases h2 : d < l.length
    · obtain ⟨b, hb⟩ : ∃ b, l[d]? = some b := ⟨l[d], List.getElem?_eq_getElem h2⟩
      have e1 : Hid (hasN l d = b) := Lib.hid (by simp [hasN, h1, List.getD, hb])
      have kd := HW.out.d.cell hb
      have q2 : (d : Int) < (l.length : Int) := by omega
      have q3 : (0 : Int) ≤ (d : Int) := by omega
      clear hb
      go_enter Try.func21, Try.ntmps21
      go_wp2_with fail
      with_reducible refine (zero26 P D l cap _ k1 hl1).mono ?_
      rintro e w' ⟨rfl, rfl⟩
      go_wp2_with fail
      with_reducible refine (dist11c f n d _ hf hn HD.out).mono ?_
      rintro e w' ⟨rfl, rfl⟩
      go_wp2_with fail
      go_returns
      exact ⟨ret_bool e1.out.symm, rfl⟩
    · have e1 : Hid (hasN l d = false) := Lib.hid (by simp [hasN, h1, List.getD, List.getElem?_eq_none (Nat.le_of_not_lt h2)])
      have q2 : decide ((d : Int) < (l.length : Int)) = false := by simp; omega
      go_enter Try.func21, Try.ntmps21
      go_wp2_with fail
      with_reducible refine (zero26 P D l cap _ k1 hl1).mono ?_
      rintro e w' ⟨rfl, rfl⟩
      go_wp2_with fail
      with_reducible refine (dist11c f n d _ hf hn HD.out).mono ?_
      rintro e w' ⟨rfl, rfl⟩
      go_wp2_with fail
      go_returns
      exact ⟨ret_bool e1.out.symm, rfl⟩

theorem has21c (P D : Nat) (f : Int) (l : List Bool) (cap : Nat) (ex : List Value) (w : World) (hw : WinAt w P D f l cap ex) (n : Int) (d : Nat) (v : Bool) (hn : U16 n) (HD : Hid (dist f n = (d : Int))) (hv : hasN l d = v) : Calls Try.prog 21 #[.pointer (some ⟨P, 0, none⟩), .int .u16 n] w fun e w' => e = .returned (.bool v) ∧ w = w' := by
  subst hv
  exact has21 P D f l cap ex w hw n d hn HD

set_option maxRecDepth 100000 in
set_option maxHeartbeats 2000000 in
theorem new16_bad (f n : Int) (w : World) (h : n < 1 ∨ 1024 < n) : Calls Try.prog 16 #[.int .u16 f, .int .i64 n] w fun e w' => e = .returned (.tuple #[.pointer none, .int .i64 2]) ∧ w = w' := by
  rcases h with h | h
  · have q : decide (n < 1) = true := by simpa using h
    go_enter Try.func16, Try.ntmps16
    go_wp2_with fail
    go_returns
    exact ⟨rfl, rfl⟩
  · have q : decide (n < 1) = false := by simp; omega
    go_enter Try.func16, Try.ntmps16
    go_wp2_with fail
    go_returns
    exact ⟨rfl, rfl⟩
/-- a new window is returned -/
def NewAt (w : World) (f : Int) (l : List Bool) (e : Ending) (w' : World) : Prop := ∃ P D cap ex, w.heap.size ≤ P ∧ w.heap.size ≤ D ∧ e = .returned (.tuple #[.pointer (some ⟨P, 0, none⟩), .int .i64 0]) ∧ WinAt w' P D f l cap ex ∧ Below w.heap.size w w'
def CopyAt (w : World) (f : Int) (l : List Bool) (e : Ending) (w' : World) : Prop := ∃ P D cap ex, w.heap.size ≤ P ∧ w.heap.size ≤ D ∧ e = .returned (.pointer (some ⟨P, 0, none⟩)) ∧ WinAt w' P D f l cap ex ∧ Below w.heap.size w w'
theorem made_bool (n : Nat) : madeCells #[Value.bool false] n = ((List.replicate n false).map Value.bool ++ []).toArray := by
  apply Array.ext
  · simp [madeCells]
  · intro i h1 h2
    simp [madeCells, Nat.mod_one]
theorem new16 (f : Int) (n : Nat) (w : World) (hf : U16 f) (h1 : 1 ≤ n) (h2 : n ≤ 1024) : Calls Try.prog 16 #[.int .u16 f, .int .i64 n] w (NewAt w f (List.replicate n false)) := by
  have q1 : decide ((n : Int) < 1) = false := by simp; omega
  have q2 : ¬ (1024 : Int) < (n : Int) := by omega
  have hmk := fun w => run_make_row' (P := Try.prog) 48 4 (.bool false) 1 Try.underlying48 (by kernel_rfl) rfl .i64 .i64 n (by omega) (by omega) w
  go_enter Try.func16, Try.ntmps16
  go_wp2_with fail
  go_returns
  refine ⟨w.heap.size + 1, w.heap.size, n, [], by omega, by omega, rfl, ⟨?_, ?_, by omega, by simpa using h1, by simpa using h2, hf, by simp, by unfold maxLen; omega⟩, by go_grown⟩
  · simpa using heap_alloc_new (w.alloc (.cells (madeCells #[Value.bool false] n) 4)) (.cells #[.int .u16 f, .slice (some ⟨w.heap.size, 0, none⟩) n n] 50)
  · unfold DAt
    rw [Below.heap_alloc _ _ _ (by simp), ← made_bool]
    exact heap_alloc_new _ _

end Go.Proofs.Ythibagfmglnejaa
