/- The index of a player. -/
import Derived.Test.YtonaidjdkejoeaaWk
import Derived.LoopTactic
namespace Go.Proofs.Ytonaidjdkejoeaa
open Go.RowKit Plain
set_option linter.unusedVariables false
set_option linter.unusedSimpArgs false

set_option maxRecDepth 100000 in
set_option maxHeartbeats 2000000 in
theorem is36 (p : Pl) (X : Nat) (id : Int) (w : World) (hX : w.cell? ⟨X, 0, none⟩ = some (.int .i64 id)) (hlt : X < w.heap.size) : Calls Try.prog 36 #[.agg #[.int .i64 p.id, .int .i64 p.ra, .int .u64 p.si], .pointer (some ⟨X, 0, none⟩)] w fun e w' => e = .returned (.bool (p.id == id)) ∧ Below w.heap.size w w' := by
  go_enter Try.func36, Try.ntmps36
  go_wp2_with fail
  go_returns
  exact ⟨rfl, by go_grown⟩
theorem is36c (p : Pl) (X : Nat) (id : Int) (b : Bool) (w : World) (hX : w.cell? ⟨X, 0, none⟩ = some (.int .i64 id)) (hlt : X < w.heap.size) (hb : (p.id == id) = b) : Calls Try.prog 36 #[.agg #[.int .i64 p.id, .int .i64 p.ra, .int .u64 p.si], .pointer (some ⟨X, 0, none⟩)] w fun e w' => e = .returned (.bool b) ∧ Below w.heap.size w w' := by
  subst hb
  exact is36 p X id w hX hlt
def FindRel (w : World) (l : List Pl) (id : Int) (i : Value) (wr : World) : Prop := ∃ k : Nat, k ≤ l.length ∧ i = .int .i64 k ∧ k ≤ l.findIdx (fun p => p.id == id) ∧ Below w.heap.size w wr
set_option maxRecDepth 100000 in
set_option maxHeartbeats 2000000 in
theorem index35 (v : Value) (l : List Pl) (X : Nat) (id : Int) (w : World) (hX : w.cell? ⟨X, 0, none⟩ = some (.int .i64 id)) (hlt : X < w.heap.size) (hs : Rw plc 3 w v l) : Calls Try.prog 35 #[v, .func (.func 36) #[] #[.pointer (some ⟨X, 0, none⟩)]] w fun e w' => e = .returned (.int .i64 (fnd l id)) ∧ Below w.heap.size w w' := by
  obtain ⟨m1, a1, c1, rfl, f1⟩ := hs.form
  have F1 := Lib.hid f1
  have HX := Lib.hid hX
  clear hs f1 hX
  go_enter Try.func35, Try.ntmps35
  go_wp2_with fail
  go_loopw [8] (fun i wr => FindRel w l id i wr) (fun i _ => l.length - (intOf i).toNat)
  case atStart => exact ⟨0, Nat.zero_le _, rfl, Nat.zero_le _, Below.refl _ _⟩
  case round =>
    obtain ⟨k, hk, rfl, htk, hb⟩ := hrel
    have HT := Lib.hid htk
    have hz_wr := hb.size
    clear htk
    by_cases hkl : k < l.length
    · obtain ⟨b1, o1, rfl, hb1, hc1⟩ := F1.out (by omega)
      obtain ⟨p, hp⟩ : ∃ p, l[k]? = some p := ⟨l[k], List.getElem?_eq_getElem hkl⟩
      have e1 := (hb.cell (p := ⟨b1, o1 + k * 3, none⟩) hb1).trans (hc1 k p hp 0 _ rfl)
      have e2 := (hb.cell (p := ⟨b1, o1 + k * 3 + 1, none⟩) hb1).trans (hc1 k p hp 1 _ rfl)
      have e3 := (hb.cell (p := ⟨b1, o1 + k * 3 + 2, none⟩) hb1).trans (hc1 k p hp 2 _ rfl)
      have i1 : (0 : Int) ≤ (k : Int) := by omega
      have i2 : (k : Int) < (l.length : Int) := by omega
      have HP := Lib.hid hp
      clear hc1 hp
      cases hv : (p.id == id)
      all_goals
        have HV := Lib.hid hv
        clear hv
        go_wp2_with fail
        with_reducible refine (is36c p X id _ _ ((hb.cell (p := ⟨X, 0, none⟩) hlt).trans HX.out) (by omega) HV.out).mono ?_
        rintro e w2 ⟨rfl, hb2⟩
        replace hb := hb.trans (hb2.mono hb.size)
        go_wp2_with fail
      · go_roundw
        case rel => exact ⟨k + 1, by omega, by go_num, fi_next HT.out HP.out HV.out, hb⟩
        case measure => simp [intOf]; omega
      · go_returns
        exact ⟨ret_int (fnd_hit HT.out HP.out (by simpa using HV.out)).symm, hb⟩
    · go_wp2_with fail
      go_returns
      exact ⟨ret_int (fnd_none (Nat.le_trans (by omega) HT.out)).symm, hb⟩
theorem index35c (v : Value) (l : List Pl) (X : Nat) (id n : Int) (w : World) (hX : w.cell? ⟨X, 0, none⟩ = some (.int .i64 id)) (hlt : X < w.heap.size) (hs : Rw plc 3 w v l) (hn : fnd l id = n) : Calls Try.prog 35 #[v, .func (.func 36) #[] #[.pointer (some ⟨X, 0, none⟩)]] w fun e w' => e = .returned (.int .i64 n) ∧ Below w.heap.size w w' := by
  subst hn
  exact index35 v l X id w hX hlt hs
set_option maxRecDepth 100000 in
set_option maxHeartbeats 2000000 in
theorem find25 (P : Nat) (x : Lb) (v : Value) (id : Int) (w : World) (hl : LobAt w P x v) : Calls Try.prog 25 #[.pointer (some ⟨P, 0, none⟩), .int .i64 id] w fun e w' => e = .returned (.int .i64 (fnd x.l id)) ∧ Below w.heap.size w w' := by
  have c4 : w.cell? ⟨P, 4, none⟩ = some v := hl.cell 4
  have HL := Lib.hid hl.rw
  have hlt := hl.lt
  obtain ⟨a, cap, rfl⟩ := hl.row.form
  clear hl
  go_enter Try.func25, Try.ntmps25
  go_wp2_with fail
  with_reducible refine (index35 _ x.l w.heap.size id _ (by go_simp) (by go_simp) (HL.out.below (by go_grown))).mono ?_
  rintro e w1 ⟨rfl, hb⟩
  go_wp2_with fail
  go_returns
  exact ⟨rfl, below_via ((Below.refl _ _).alloc (Nat.le_refl _) _) hb⟩
theorem find25c (P : Nat) (x : Lb) (v : Value) (id n : Int) (w : World) (hl : LobAt w P x v) (hn : fnd x.l id = n) : Calls Try.prog 25 #[.pointer (some ⟨P, 0, none⟩), .int .i64 id] w fun e w' => e = .returned (.int .i64 n) ∧ Below w.heap.size w w' := by
  subst hn
  exact find25 P x v id w hl
end Go.Proofs.Ytonaidjdkejoeaa
