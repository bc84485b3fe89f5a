/- A book in memory; times. -/
import Derived.Test.YtobkgdhniibopaaRows
import Derived.Test.YtobkgdhniibopaaPlain
import Derived.Test.YtobkgdhniibopaaAb
import Derived.WalkSpells
import Derived.WalkLawsBesides
import Derived.Laws.Rows
namespace Go.Proofs.Ytobkgdhniibopaa
open Go.RowKit Plain
set_option linter.unusedVariables false
set_option linter.unusedSimpArgs false

/-- the cells of a book -/
def bkc (b : Bk) : Array Value := #[.int .i64 b.n, .int .u64 b.g, .bool b.h0, .int .u64 b.t0, .int .i64 b.s0, .bool b.a0, .bool b.h1, .int .u64 b.t1, .int .i64 b.s1, .bool b.a1]
/-- block P of W is the book b -/
def BookAt (W : World) (P : Nat) (b : Bk) : Prop := W.heap[P]? = some (.cells (bkc b) 63 (0, 0))

theorem BookAt.lt {W : World} {P : Nat} {b : Bk} (h : BookAt W P b) : P < W.heap.size := (Array.getElem?_eq_some_iff.1 h).1
theorem BookAt.cell {W : World} {P : Nat} {b : Bk} (h : BookAt W P b) (i : Nat) : W.cell? ⟨P, i, none⟩ = (bkc b)[i]? := cell_of_row W P i _ 63 (0, 0) h
theorem BookAt.free {W : World} {P : Nat} {b : Bk} (h : BookAt W P b) (i : Nat) : W.frozen? ⟨P, i, none⟩ = false := frozen_of_row W P i _ 63 h
theorem BookAt.below {W W' : World} {P : Nat} {b : Bk} (h : BookAt W P b) (hb : Below W.heap.size W W') : BookAt W' P b := (hb.block P h.lt).trans h
theorem BookAt.drewN {W : World} {P : Nat} {b : Bk} (h : BookAt W P b) (n : Nat) : BookAt (W.drewN n) P b := h
theorem BookAt.only {W W' : World} {P Q : Nat} {b : Bk} (h : BookAt W P b) (ho : Only Q W W') (hne : P ≠ Q) : BookAt W' P b := (ho.block P h.lt hne).trans h
theorem BookAt.drew {W : World} {P : Nat} {b : Bk} (h : BookAt W P b) : BookAt W.drew P b := h
theorem BookAt.set {W : World} {P : Nat} {b b' : Bk} (h : BookAt W P b) (i : Nat) (v : Value) (he : (bkc b).setIfInBounds i v = bkc b') : BookAt (W.setCell ⟨P, i, none⟩ v) P b' := by
  unfold BookAt
  rw [heap_setCell_same W P i _ 63 v h, he]

set_option maxRecDepth 100000 in
set_option maxHeartbeats 2000000 in
theorem add38 (a b : Int) (w : World) (ha : U a) (hb : U b) :
    Calls Try.prog 38 #[.int .u64 a, .int .u64 b] w fun e w' => e = .returned (.int .u64 (addN a b)) ∧ w = w' := by
  obtain ⟨a0, a1⟩ := ha
  obtain ⟨b0, b1⟩ := hb
  by_cases h1 : 18446744073709551615 - a < b
  all_goals
    go_enter Try.func38, Try.ntmps38
    go_wp2
    go_returns
    exact ⟨ret_int (by unfold addN; split <;> omega), rfl⟩

set_option maxRecDepth 100000 in
set_option maxHeartbeats 2000000 in
theorem due30 (d t : Int) (w : World) :
    Calls Try.prog 30 #[.int .u64 d, .int .u64 t] w fun e w' => e = .returned (.bool (over d t)) ∧ w = w' := by
  cases h1 : (d != 18446744073709551615)
  · have e : Hid (over d t = false) := Lib.hid (by simp [over, h1])
    go_enter Try.func30, Try.ntmps30
    go_wp2
    go_returns
    exact ⟨ret_bool e.out.symm, rfl⟩
  · by_cases h2 : d ≤ t
    · have e : Hid (over d t = true) := Lib.hid (by simp [over, h1, h2])
      go_enter Try.func30, Try.ntmps30
      go_wp2
      go_returns
      exact ⟨ret_bool e.out.symm, rfl⟩
    · have e : Hid (over d t = false) := Lib.hid (by simp [over, h1, h2])
      go_enter Try.func30, Try.ntmps30
      go_wp2
      go_returns
      exact ⟨ret_bool e.out.symm, rfl⟩

set_option maxRecDepth 100000 in
set_option maxHeartbeats 2000000 in
theorem valid10 (n g : Int) (w : World) :
    Calls Try.prog 10 #[.agg #[.int .i64 n, .int .u64 g]] w fun e w' => e = .returned (.bool (vC n g)) ∧ Below w.heap.size w w' := by
  by_cases h1 : 1 ≤ n
  · by_cases h2 : n ≤ 100
    · by_cases h3 : g ≤ 4294967296
      all_goals
        go_enter Try.func10, Try.ntmps10
        go_wp2
        go_returns
        exact ⟨ret_bool (by simp [vC]; omega), by go_grown⟩
    · go_enter Try.func10, Try.ntmps10
      go_wp2
      go_returns
      exact ⟨ret_bool (by simp [vC]; omega), by go_grown⟩
  · go_enter Try.func10, Try.ntmps10
    go_wp2
    go_returns
    exact ⟨ret_bool (by simp [vC]; omega), by go_grown⟩

set_option maxRecDepth 100000 in
set_option maxHeartbeats 2000000 in
theorem valid9 (n g : Int) (w : World) :
    Calls Try.prog 9 #[.agg #[.int .i64 n, .int .u64 g]] w fun e w' => e = .returned (.bool (vC n g)) ∧ Below w.heap.size w w' := by
  by_cases h1 : 1 ≤ n
  · by_cases h2 : n ≤ 100
    · by_cases h3 : g ≤ 4294967296
      all_goals
        go_enter Try.func9, Try.ntmps9
        go_wp2
        go_returns
        exact ⟨ret_bool (by simp [vC]; omega), by go_grown⟩
    · go_enter Try.func9, Try.ntmps9
      go_wp2
      go_returns
      exact ⟨ret_bool (by simp [vC]; omega), by go_grown⟩
  · go_enter Try.func9, Try.ntmps9
    go_wp2
    go_returns
    exact ⟨ret_bool (by simp [vC]; omega), by go_grown⟩

set_option maxRecDepth 100000 in
set_option maxHeartbeats 2000000 in
theorem of29_nil (p : Int) (w : World) :
    Calls Try.prog 29 #[.pointer none, .int .i64 p] w fun e w' => e = .returned (.tuple #[.pointer none, .int .i64 1]) ∧ w = w' := by
  go_enter Try.func29, Try.ntmps29
  go_wp2
  go_returns
  exact ⟨rfl, rfl⟩

set_option maxRecDepth 100000 in
set_option maxHeartbeats 2000000 in
theorem of29_zero (P : Nat) (b : Bk) (p : Int) (w : World) (hb : BookAt w P b) (h1 : b.n = 0) (h2 : b.g = 0) :
    Calls Try.prog 29 #[.pointer (some ⟨P, 0, none⟩), .int .i64 p] w fun e w' => e = .returned (.tuple #[.pointer none, .int .i64 1]) ∧ w = w' := by
  have k0 : w.cell? ⟨P, 0, none⟩ = some (.int .i64 0) := by rw [hb.cell 0]; simp [bkc, h1]
  have k1 : w.cell? ⟨P, 1, none⟩ = some (.int .u64 0) := by rw [hb.cell 1]; simp [bkc, h2]
  clear hb h1 h2
  go_enter Try.func29, Try.ntmps29
  go_wp2
  go_returns
  exact ⟨rfl, rfl⟩

set_option maxRecDepth 100000 in
set_option maxHeartbeats 2000000 in
theorem of29_0 (P : Nat) (b : Bk) (w : World) (hb : BookAt w P b) (h1 : 1 ≤ b.n) :
    Calls Try.prog 29 #[.pointer (some ⟨P, 0, none⟩), .int .i64 0] w fun e w' => e = .returned (.tuple #[.pointer (some ⟨P, 2, none⟩), .int .i64 0]) ∧ w = w' := by
  have k0 : w.cell? ⟨P, 0, none⟩ = some (.int .i64 b.n) := hb.cell 0
  have k1 : w.cell? ⟨P, 1, none⟩ = some (.int .u64 b.g) := hb.cell 1
  have hn : (b.n == 0) = false := by simp; omega
  clear hb
  go_enter Try.func29, Try.ntmps29
  go_wp2
  go_returns
  exact ⟨rfl, rfl⟩

set_option maxRecDepth 100000 in
set_option maxHeartbeats 2000000 in
theorem of29_1 (P : Nat) (b : Bk) (w : World) (hb : BookAt w P b) (h1 : 1 ≤ b.n) :
    Calls Try.prog 29 #[.pointer (some ⟨P, 0, none⟩), .int .i64 1] w fun e w' => e = .returned (.tuple #[.pointer (some ⟨P, 6, none⟩), .int .i64 0]) ∧ w = w' := by
  have k0 : w.cell? ⟨P, 0, none⟩ = some (.int .i64 b.n) := hb.cell 0
  have k1 : w.cell? ⟨P, 1, none⟩ = some (.int .u64 b.g) := hb.cell 1
  have hn : (b.n == 0) = false := by simp; omega
  clear hb
  go_enter Try.func29, Try.ntmps29
  go_wp2
  go_returns
  exact ⟨rfl, rfl⟩

set_option maxRecDepth 100000 in
set_option maxHeartbeats 2000000 in
theorem of29_bad (P : Nat) (b : Bk) (p : Int) (w : World) (hb : BookAt w P b) (h1 : 1 ≤ b.n) (h2 : p ≠ 0) (h3 : p ≠ 1) :
    Calls Try.prog 29 #[.pointer (some ⟨P, 0, none⟩), .int .i64 p] w fun e w' => e = .returned (.tuple #[.pointer none, .int .i64 2]) ∧ w = w' := by
  have k0 : w.cell? ⟨P, 0, none⟩ = some (.int .i64 b.n) := hb.cell 0
  have k1 : w.cell? ⟨P, 1, none⟩ = some (.int .u64 b.g) := hb.cell 1
  have hn : (b.n == 0) = false := by simp; omega
  have q0 : (p != 0) = true := by simpa using h2
  have q1 : (p != 1) = true := by simpa using h3
  clear hb h2 h3
  go_enter Try.func29, Try.ntmps29
  go_wp2
  go_returns
  exact ⟨rfl, rfl⟩

end Go.Proofs.Ytobkgdhniibopaa
