/- The function values that Series hands to the library. -/
import Derived.Test.YtnabpcgpheakfaaKnown
import Derived.Test.YtnabpcgpheakfaaLaw
import Derived.Test.YtnabpcgpheakfaaAb
import Derived.Test.YtnabpcgpheakfaaSeg
import Derived.Test.YtnabpcgpheakfaaSRow
namespace Go.Proofs.Ytnabpcgpheakfaa
open Go.RowKit Plain
set_option linter.unusedVariables false
set_option linter.unusedSimpArgs false

/-- is a player's number one of n -/
def inB (n : Nat) (i : Int) : Bool := decide (0 ≤ i ∧ i < n)
/-- is a game no game of n players -/
def dB (n : Nat) (a b : Int) : Bool := !inB n a || !inB n b || decide (a = b)
set_option maxRecDepth 100000 in
set_option maxHeartbeats 2000000 in
theorem vnot27 (a : Int) (w : World) : Calls Try.prog 27 #[.int .i64 a] w fun e w' => e = .returned (.bool (!vB a)) ∧ w = w' := by
  go_enter Try.func27, Try.ntmps27
  go_wp2_with fail
  with_reducible refine (valid8 a _).mono ?_
  rintro e w' ⟨rfl, rfl⟩
  go_wp2_with fail
  go_returns
  exact ⟨rfl, rfl⟩
set_option maxRecDepth 100000 in
set_option maxHeartbeats 2000000 in
theorem in23 (i : Int) (n cap B : Nat) (a : Option Addr) (w : World) (hc : w.cell? ⟨B, 0, none⟩ = some (.slice a n cap)) : Calls Try.prog 23 #[.int .i64 i, .pointer (some ⟨B, 0, none⟩)] w fun e w' => e = .returned (.bool (inB n i)) ∧ w = w' := by
  go_enter Try.func23, Try.ntmps23
  by_cases h1 : 0 ≤ i
  · by_cases h2 : i < n
    · have e : inB n i = true := by simp [inB]; omega
      have e := Lib.hid e
      go_wp2_with fail
      go_returns
      first | exact ⟨rfl, rfl⟩ | exact ⟨ret_bool e.out.symm, rfl⟩
    · have e : inB n i = false := by simp [inB]; omega
      have e := Lib.hid e
      go_wp2_with fail
      go_returns
      first | exact ⟨rfl, rfl⟩ | exact ⟨ret_bool e.out.symm, rfl⟩
  · have e : inB n i = false := by simp [inB]; omega
    have e := Lib.hid e
    go_wp2_with fail
    go_returns
    first | exact ⟨rfl, rfl⟩ | exact ⟨ret_bool e.out.symm, rfl⟩
set_option maxRecDepth 100000 in
set_option maxHeartbeats 2000000 in
theorem bad25 (a b : Int) (n cap B X : Nat) (p : Option Addr) (w : World) (hX : X < w.heap.size) (hB : B < w.heap.size) (hc : w.cell? ⟨B, 0, none⟩ = some (.slice p n cap)) (hf : w.cell? ⟨X, 0, none⟩ = some (.func (.func 23) #[] #[.pointer (some ⟨B, 0, none⟩)])) : Calls Try.prog 25 #[.agg #[.int .i64 a, .int .i64 b], .pointer (some ⟨X, 0, none⟩)] w fun e w' => e = .returned (.bool (dB n a b)) ∧ Below w.heap.size w w' := by
  have n1 : B ≠ w.heap.size := by omega
  have n2 : X ≠ w.heap.size := by omega
  go_enter Try.func25, Try.ntmps25
  go_wp2_with fail
  with_reducible refine (in23 a n cap B p _ (Lib.cell?_alloc_some _ hc)).mono ?_
  rintro e w' ⟨rfl, rfl⟩
  cases q1 : inB n a
  · have e : dB n a b = true := by simp [dB, q1]
    have e := Lib.hid e
    go_wp2_with fail
    go_returns
    first | exact ⟨ret_bool e.out.symm, by go_grown⟩ | exact ⟨rfl, by go_grown⟩
  · go_wp2_with fail
    with_reducible refine (in23 b n cap B p _ (Lib.cell?_alloc_some _ hc)).mono ?_
    rintro e w' ⟨rfl, rfl⟩
    cases q2 : inB n b
    · have e : dB n a b = true := by simp [dB, q1, q2]
      have e := Lib.hid e
      go_wp2_with fail
      go_returns
      first | exact ⟨ret_bool e.out.symm, by go_grown⟩ | exact ⟨rfl, by go_grown⟩
    · have e : dB n a b = decide (a = b) := by simp [dB, q1, q2]
      have e := Lib.hid e
      go_wp2_with fail
      go_returns
      first | exact ⟨ret_bool e.out.symm, by go_grown⟩ | exact ⟨rfl, by go_grown⟩
theorem below_drewN {B : Nat} {a w : World} (h : Below B a w) (n : Nat) : Below B a (w.drewN n) := ⟨h.os, h.tape, h.output, h.size, h.block⟩
theorem seg_form {w : World} {k : IntKind} {v : Value} {zs : List Int} (h : Seg w k v zs) : zs.length ≤ 9223372036854775807 ∧ ∃ a cap, v = .slice a zs.length cap ∧ (0 < zs.length → ∃ b off, a = some ⟨b, off, none⟩ ∧ b < w.heap.size ∧ ∀ i z, zs[i]? = some z → w.cell? ⟨b, off + i, none⟩ = some (.int k z)) := by
  rcases h with ⟨rfl, rfl | ⟨a, cap, rfl⟩⟩ | ⟨h0, h1, b, off, cap, rfl, hlt, hc⟩
  · exact ⟨by simp, none, 0, rfl, fun h => by simp at h⟩
  · exact ⟨by simp, some a, cap, rfl, fun h => by simp at h⟩
  · exact ⟨by unfold maxLen at h1; omega, _, cap, rfl, fun _ => ⟨b, off, rfl, hlt, hc⟩⟩
/-- what IndexFunc says -/
def IdxAt (w : World) (q : Bool) (e : Ending) (w' : World) : Prop := ∃ r : Int, e = .returned (.int .i64 r) ∧ decide (0 ≤ r) = q ∧ Below w.heap.size w w'
def IdxRel {α : Type} (w : World) (f : α → Bool) (zs : List α) (i : Value) (wr : World) : Prop := ∃ k : Nat, k ≤ zs.length ∧ i = .int .i64 k ∧ (zs.take k).any f = false ∧ Below w.heap.size w wr
theorem any_next {α : Type} {f : α → Bool} {zs : List α} {k : Nat} {z : α} (h : (zs.take k).any f = false) (h1 : zs[k]? = some z) (h2 : f z = false) : (zs.take (k + 1)).any f = false := by
  rw [List.take_add_one, h1, List.any_append, h]
  simp [h2]
theorem any_hit {α : Type} {f : α → Bool} {zs : List α} {k : Nat} {z : α} (h1 : zs[k]? = some z) (h2 : f z = true) : zs.any f = true := by
  rw [List.any_eq_true]
  exact ⟨z, List.mem_of_getElem? h1, h2⟩
set_option maxRecDepth 100000 in
set_option maxHeartbeats 2000000 in
theorem index30 (v : Value) (zs : List Int) (w : World) (hs : Seg w .i64 v zs) : Calls Try.prog 30 #[v, .func (.func 27) #[] #[]] w (IdxAt w (zs.any fun z => !vB z)) := by
  obtain ⟨m1, a1, c1, rfl, f1⟩ := seg_form hs
  have F1 := Lib.hid f1
  clear hs f1
  go_enter Try.func30, Try.ntmps30
  go_wp2_with fail
  go_loopw [8] (fun i wr => IdxRel w (fun z => !vB z) zs i wr) (fun i _ => zs.length - (intOf i).toNat)
  case atStart => exact ⟨0, Nat.zero_le _, rfl, by simp, Below.refl _ _⟩
  case round =>
    obtain ⟨k, hk, rfl, htk, hb⟩ := hrel
    have HT := Lib.hid htk
    clear htk
    by_cases hlt : k < zs.length
    · obtain ⟨b1, o1, rfl, hb1, hc1⟩ := F1.out (by omega)
      obtain ⟨z, hz⟩ : ∃ z, zs[k]? = some z := ⟨zs[k], List.getElem?_eq_getElem hlt⟩
      have e1 := (hb.cell (p := ⟨b1, o1 + k, none⟩) hb1).trans (hc1 k z hz)
      have i1 : (0 : Int) ≤ (k : Int) := by omega
      have i2 : (k : Int) < (zs.length : Int) := by omega
      have HZ := Lib.hid hz
      clear hc1 hz
      go_wp2_with fail
      with_reducible refine (vnot27 z _).mono ?_
      rintro e w' ⟨rfl, rfl⟩
      cases hv : vB z
      · have ef : Hid (decide (0 ≤ (k : Int)) = zs.any fun z => !vB z) := Lib.hid (by rw [any_hit HZ.out (by simp [hv])]; simp)
        go_wp2_with fail
        exact bodyPost_ret (v := .int .i64 k) (by simp [results, Try.results30, go_sem]) rfl ⟨k, rfl, ef.out, hb⟩
      · have ht2 := Lib.hid (any_next HT.out HZ.out (by simp [hv]))
        go_wp2_with fail
        go_roundw
        case rel => exact ⟨k + 1, by omega, by go_num, ht2.out, hb⟩
        case measure => simp [intOf]; omega
    · have ef : Hid (decide (0 ≤ (-1 : Int)) = zs.any fun z => !vB z) := Lib.hid (by
        have h1 := HT.out
        rw [List.take_of_length_le (by omega)] at h1
        rw [h1]; rfl)
      go_wp2_with fail
      exact bodyPost_ret (v := .int .i64 (-1)) (by simp [results, Try.results30, go_sem]) rfl ⟨-1, rfl, ef.out, hb⟩
set_option maxRecDepth 100000 in
set_option maxHeartbeats 2000000 in
theorem contains26 (v : Value) (zs : List Int) (w : World) (hs : Seg w .i64 v zs) : Calls Try.prog 26 #[v, .func (.func 27) #[] #[]] w fun e w' => e = .returned (.bool (zs.any fun z => !vB z)) ∧ Below w.heap.size w w' := by
  go_enter Try.func26, Try.ntmps26
  go_wp2_with fail
  with_reducible refine (index30 v zs _ hs).mono ?_
  rintro e w1 ⟨r, rfl, hr, hb⟩
  go_wp2_with fail
  go_returns
  first | exact ⟨ret_bool hr, by go_grown⟩ | exact ⟨rfl, by go_grown⟩
/-- is a game of the list no game -/
def badR (n : Nat) (r : List Int) : Bool := dB n (r.getD 0 0) (r.getD 1 0)
theorem srow_form {w : World} {ks : List IntKind} {v : Value} {rows : List (List Int)} (h : SRow ks w v rows) : rows.length ≤ 9223372036854775807 ∧ ∃ a cap, v = .slice a rows.length cap ∧ (0 < rows.length → ∃ b off, a = some ⟨b, off, none⟩ ∧ b < w.heap.size ∧ ∀ i r, rows[i]? = some r → r.length = ks.length ∧ ∀ j k z, ks[j]? = some k → r[j]? = some z → w.cell? ⟨b, off + (i * ks.length + j), none⟩ = some (.int k z) ∧ (Lit.int k z).wf = true) := by
  rcases h with ⟨rfl, rfl | ⟨a, cap, rfl⟩⟩ | ⟨h0, h1, b, off, cap, rfl, hlt, hc⟩
  · exact ⟨by simp, none, 0, rfl, fun h => by simp at h⟩
  · exact ⟨by simp, some a, cap, rfl, fun h => by simp at h⟩
  · exact ⟨by unfold maxLen at h1; omega, _, cap, rfl, fun _ => ⟨b, off, rfl, hlt, hc⟩⟩
set_option maxRecDepth 100000 in
set_option maxHeartbeats 2000000 in
theorem index29 (v : Value) (rows : List (List Int)) (n cap B X : Nat) (p : Option Addr) (w : World) (hX : X < w.heap.size) (hB : B < w.heap.size) (hc : w.cell? ⟨B, 0, none⟩ = some (.slice p n cap)) (hf : w.cell? ⟨X, 0, none⟩ = some (.func (.func 23) #[] #[.pointer (some ⟨B, 0, none⟩)])) (hs : SRow [.i64, .i64] w v rows) : Calls Try.prog 29 #[v, .func (.func 25) #[] #[.pointer (some ⟨X, 0, none⟩)]] w (IdxAt w (rows.any (badR n))) := by
  obtain ⟨m1, a1, c1, rfl, f1⟩ := srow_form hs
  have F1 := Lib.hid f1
  clear hs f1
  have HC := Lib.hid hc
  have HF := Lib.hid hf
  clear hc hf
  go_enter Try.func29, Try.ntmps29
  go_wp2_with fail
  go_loopw [8] (fun i wr => IdxRel w (badR n) rows i wr) (fun i _ => rows.length - (intOf i).toNat)
  case atStart => exact ⟨0, Nat.zero_le _, rfl, by simp, Below.refl _ _⟩
  case round =>
    obtain ⟨k, hk, rfl, htk, hb⟩ := hrel
    have HT := Lib.hid htk
    have hz_wr := hb.size
    clear htk
    by_cases hlt : k < rows.length
    · obtain ⟨b1, o1, rfl, hb1, hc1⟩ := F1.out (by omega)
      obtain ⟨r, hr⟩ : ∃ r, rows[k]? = some r := ⟨rows[k], List.getElem?_eq_getElem hlt⟩
      obtain ⟨hrl, hcl⟩ := hc1 k r hr
      obtain ⟨x, y, rfl⟩ : ∃ x y, r = [x, y] := by
        match r, hrl with
        | [x, y], _ => exact ⟨x, y, rfl⟩
      have e1 := (hb.cell (p := ⟨b1, o1 + k * 2, none⟩) hb1).trans (hcl 0 _ _ rfl rfl).1
      have e2 := (hb.cell (p := ⟨b1, o1 + k * 2 + 1, none⟩) hb1).trans (hcl 1 _ _ rfl rfl).1
      have i1 : (0 : Int) ≤ (k : Int) := by omega
      have i2 : (k : Int) < (rows.length : Int) := by omega
      have HZ := Lib.hid hr
      clear hc1 hr hcl
      go_wp2_with fail
      with_reducible refine (bad25 x y n cap B X p _ (by omega) (by omega) ((hb.cell (p := ⟨B, 0, none⟩) hB).trans HC.out) ((hb.cell (p := ⟨X, 0, none⟩) hX).trans HF.out)).mono ?_
      rintro e w' ⟨rfl, hb2⟩
      replace hb := hb.trans (hb2.mono hb.size)
      cases hv : dB n x y
      · have ht2 := Lib.hid (any_next HT.out HZ.out (by simp [badR, hv]))
        go_wp2_with fail
        go_roundw
        case rel => exact ⟨k + 1, by omega, by go_num, ht2.out, hb⟩
        case measure => simp [intOf]; omega
      · have ef : Hid (decide (0 ≤ (k : Int)) = rows.any (badR n)) := Lib.hid (by rw [any_hit HZ.out (by simp [badR, hv])]; simp)
        go_wp2_with fail
        exact bodyPost_ret (v := .int .i64 k) (by simp [results, Try.results29, go_sem]) rfl ⟨k, rfl, ef.out, hb⟩
    · have ef : Hid (decide (0 ≤ (-1 : Int)) = rows.any (badR n)) := Lib.hid (by
        have h1 := HT.out
        rw [List.take_of_length_le (by omega)] at h1
        rw [h1]; rfl)
      go_wp2_with fail
      exact bodyPost_ret (v := .int .i64 (-1)) (by simp [results, Try.results29, go_sem]) rfl ⟨-1, rfl, ef.out, hb⟩
set_option maxRecDepth 100000 in
set_option maxHeartbeats 2000000 in
theorem contains24 (v : Value) (rows : List (List Int)) (n cap B X : Nat) (p : Option Addr) (w : World) (hX : X < w.heap.size) (hB : B < w.heap.size) (hc : w.cell? ⟨B, 0, none⟩ = some (.slice p n cap)) (hf : w.cell? ⟨X, 0, none⟩ = some (.func (.func 23) #[] #[.pointer (some ⟨B, 0, none⟩)])) (hs : SRow [.i64, .i64] w v rows) : Calls Try.prog 24 #[v, .func (.func 25) #[] #[.pointer (some ⟨X, 0, none⟩)]] w fun e w' => e = .returned (.bool (rows.any (badR n))) ∧ Below w.heap.size w w' := by
  go_enter Try.func24, Try.ntmps24
  go_wp2_with fail
  with_reducible refine (index29 v rows n cap B X p _ hX hB hc hf hs).mono ?_
  rintro e w1 ⟨r, rfl, hr, hb⟩
  go_wp2_with fail
  go_returns
  first | exact ⟨ret_bool hr, by go_grown⟩ | exact ⟨rfl, by go_grown⟩
end Go.Proofs.Ytnabpcgpheakfaa
