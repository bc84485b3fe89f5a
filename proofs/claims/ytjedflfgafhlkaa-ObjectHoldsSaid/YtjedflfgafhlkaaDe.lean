/- Objects are read. -/
import Derived.Test.YtjedflfgafhlkaaSt
import Derived.Laws.Cover3
import Derived.Laws.BitsLemmas
import Derived.Laws.Bits64
import Derived.BigQuiet
import Derived.Deep.QuietTactic
namespace Go.Proofs.Ytjedflfgafhlkaa
open Go.RowKit Plain
set_option linter.unusedVariables false
set_option linter.unusedSimpArgs false

/-- a number that is read of two bytes -/
theorem bor (a b : Int) (ha : 0 ≤ a ∧ a < 256) (hb : 0 ≤ b ∧ b < 256) : bits .or .i64 (a * 256) b = 256 * a + b := by
  obtain ⟨m, rfl⟩ : ∃ m : Nat, a = m := ⟨a.toNat, by omega⟩
  obtain ⟨n, rfl⟩ : ∃ n : Nat, b = n := ⟨b.toNat, by omega⟩
  have h := (bits_nat .i64 62 (by decide) (fun n h0 h1 => IntWalk.i64_in n (by omega)) (m * 256) n (by omega) (by omega)).2
  have e : m * 256 ||| n = 256 * m + n := by
    have := Nat.shiftLeft_add_eq_or_of_lt (i := 8) (b := n) (by omega) m
    rw [Nat.shiftLeft_eq] at this
    rw [← this]
    omega
  rw [e] at h
  have e2 : ((m * 256 : Nat) : Int) = (m : Int) * 256 := by omega
  rw [e2] at h
  rw [h]
  omega
theorem band_all : ∀ n : Fin 256, (bits .and .u8 (n.val : Int) 1 != 0) = decide ((n.val : Int) % 2 = 1) ∧ (bits .and .u8 (n.val : Int) 2 != 0) = decide ((n.val : Int) / 2 % 2 = 1) ∧ (bits .and .u8 (n.val : Int) 4 != 0) = decide ((n.val : Int) / 4 % 2 = 1) := by decide +kernel
theorem band {n : Int} (h : 0 ≤ n ∧ n < 256) : (bits .and .u8 n 1 != 0) = decide (n % 2 = 1) ∧ (bits .and .u8 n 2 != 0) = decide (n / 2 % 2 = 1) ∧ (bits .and .u8 n 4 != 0) = decide (n / 4 % 2 = 1) := by
  have := band_all ⟨n.toNat, by omega⟩
  have e : ((n.toNat : Nat) : Int) = n := by omega
  simpa [e] using this
set_option maxRecDepth 100000 in
set_option maxHeartbeats 2000000 in
theorem two1 (n : Int) (A i : Nat) (a b x : Int) (w : World) (hn : n = (i : Int)) (hi : i ≤ 10) (ca : w.cell? ⟨A, i, none⟩ = some (.int .u8 a)) (cb : w.cell? ⟨A, i + 1, none⟩ = some (.int .u8 b)) (ha : 0 ≤ a ∧ a < 256) (hb : 0 ≤ b ∧ b < 256) (hx : 256 * a + b = x) : Calls Try.prog 38 #[.int .i64 n, .pointer (some ⟨A, 0, none⟩)] w fun e w' => e = .returned (.int .i64 x) ∧ Below w.heap.size w w' := by
  obtain ⟨a0, a1⟩ := ha
  obtain ⟨b0, b1⟩ := hb
  subst hn
  have HX : Hid (bits .or .i64 (a * 256) b = x) := Lib.hid ((bor a b ⟨a0, a1⟩ ⟨b0, b1⟩).trans hx)
  have i1 : (0 : Int) ≤ (i : Int) := by omega
  have i2 : (i : Int) < 12 := by omega
  have i3 : (i : Int) + 1 < 12 := by omega
  have i4 : (0 : Int) ≤ (i : Int) + 1 := by omega
  have i5 : ((i : Int) + 1).toNat = i + 1 := by omega
  have i6 : IntKind.i64.wrap ((i : Int) + 1) = (i : Int) + 1 := IntWalk.i64_in _ (by omega)
  clear hx
  go_enter Try.func38, Try.ntmps38
  go_wp2_with fail
  go_quiet (fail)
  go_wp2_with fail
  go_returns
  exact ⟨ret_int HX.out, below_drewN (by go_grown) _⟩
set_option maxRecDepth 100000 in
set_option maxHeartbeats 2000000 in
theorem one2 (n : Int) (A i : Nat) (a : Int) (w : World) (hn : n = (i : Int)) (hi : i ≤ 11) (ca : w.cell? ⟨A, i, none⟩ = some (.int .u8 a)) (ha : 0 ≤ a ∧ a < 256) : Calls Try.prog 39 #[.int .i64 n, .pointer (some ⟨A, 0, none⟩)] w fun e w' => e = .returned (.int .i64 a) ∧ w = w' := by
  subst hn
  obtain ⟨a0, a1⟩ := ha
  have i1 : (0 : Int) ≤ (i : Int) := by omega
  have i2 : (i : Int) < 12 := by omega
  go_enter Try.func39, Try.ntmps39
  go_wp2_with fail
  go_returns
  exact ⟨rfl, rfl⟩
set_option maxRecDepth 100000 in
set_option maxHeartbeats 2000000 in
theorem odec_short (v : Value) (zs : List Int) (w : World) (hs : Seg w .u8 v zs) (h : zs.length < 12) : Calls Try.prog 33 #[v] w fun e w' => e = .returned (.tuple #[.agg #[.int .i64 0, .int .i64 0, .int .i64 0, .int .i64 0, .int .i64 0, .int .i64 0, .int .i64 0, .int .i64 0, .int .i64 0, .bool false, .bool false, .bool false], .int .i64 4]) ∧ Below w.heap.size w w' := by
  obtain ⟨m1, a1, c1, rfl, _⟩ := seg_form hs
  have q1 : (zs.length : Int) < 12 := by omega
  clear hs
  go_enter Try.func33, Try.ntmps33
  go_wp2_with fail
  exact bodyPost_ret (v := .tuple #[.agg #[.int .i64 0, .int .i64 0, .int .i64 0, .int .i64 0, .int .i64 0, .int .i64 0, .int .i64 0, .int .i64 0, .int .i64 0, .bool false, .bool false, .bool false], .int .i64 4]) (by simp [results, Try.results33, go_sem]) rfl ⟨rfl, by go_grown⟩
set_option maxRecDepth 100000 in
set_option maxHeartbeats 2000000 in
theorem odec_long (v : Value) (zs : List Int) (w : World) (hs : Seg w .u8 v zs) (h : 12 < zs.length) : Calls Try.prog 33 #[v] w fun e w' => e = .returned (.tuple #[.agg #[.int .i64 0, .int .i64 0, .int .i64 0, .int .i64 0, .int .i64 0, .int .i64 0, .int .i64 0, .int .i64 0, .int .i64 0, .bool false, .bool false, .bool false], .int .i64 5]) ∧ Below w.heap.size w w' := by
  obtain ⟨m1, a1, c1, rfl, _⟩ := seg_form hs
  have q1 : decide ((zs.length : Int) < 12) = false := by simp; omega
  have q2 : (12 : Int) < (zs.length : Int) := by omega
  clear hs
  go_enter Try.func33, Try.ntmps33
  go_wp2_with fail
  exact bodyPost_ret (v := .tuple #[.agg #[.int .i64 0, .int .i64 0, .int .i64 0, .int .i64 0, .int .i64 0, .int .i64 0, .int .i64 0, .int .i64 0, .int .i64 0, .bool false, .bool false, .bool false], .int .i64 5]) (by simp [results, Try.results33, go_sem]) rfl ⟨rfl, by go_grown⟩
set_option maxRecDepth 100000 in
set_option maxHeartbeats 2000000 in
theorem rread_short (v : Value) (zs : List Int) (w : World) (hs : Seg w .u8 v zs) (h : zs.length < 12) : Calls Try.prog 15 #[v] w fun e w' => e = .returned (.tuple #[.agg #[.int .i64 0, .int .i64 0, .int .i64 0, .int .i64 0, .int .i64 0, .int .i64 0, .int .i64 0, .int .i64 0, .int .i64 0, .bool false, .bool false, .bool false], .int .i64 4]) ∧ Below w.heap.size w w' := by
  obtain ⟨m1, a1, c1, rfl, _⟩ := seg_form hs
  have q1 : (zs.length : Int) < 12 := by omega
  clear hs
  go_enter Try.func15, Try.ntmps15
  go_wp2_with fail
  exact bodyPost_ret (v := .tuple #[.agg #[.int .i64 0, .int .i64 0, .int .i64 0, .int .i64 0, .int .i64 0, .int .i64 0, .int .i64 0, .int .i64 0, .int .i64 0, .bool false, .bool false, .bool false], .int .i64 4]) (by simp [results, Try.results15, go_sem]) rfl ⟨rfl, by go_grown⟩
set_option maxRecDepth 100000 in
set_option maxHeartbeats 2000000 in
theorem rread_long (v : Value) (zs : List Int) (w : World) (hs : Seg w .u8 v zs) (h : 12 < zs.length) : Calls Try.prog 15 #[v] w fun e w' => e = .returned (.tuple #[.agg #[.int .i64 0, .int .i64 0, .int .i64 0, .int .i64 0, .int .i64 0, .int .i64 0, .int .i64 0, .int .i64 0, .int .i64 0, .bool false, .bool false, .bool false], .int .i64 5]) ∧ Below w.heap.size w w' := by
  obtain ⟨m1, a1, c1, rfl, _⟩ := seg_form hs
  have q1 : decide ((zs.length : Int) < 12) = false := by simp; omega
  have q2 : (12 : Int) < (zs.length : Int) := by omega
  clear hs
  go_enter Try.func15, Try.ntmps15
  go_wp2_with fail
  exact bodyPost_ret (v := .tuple #[.agg #[.int .i64 0, .int .i64 0, .int .i64 0, .int .i64 0, .int .i64 0, .int .i64 0, .int .i64 0, .int .i64 0, .int .i64 0, .bool false, .bool false, .bool false], .int .i64 5]) (by simp [results, Try.results15, go_sem]) rfl ⟨rfl, by go_grown⟩
end Go.Proofs.Ytjedflfgafhlkaa
