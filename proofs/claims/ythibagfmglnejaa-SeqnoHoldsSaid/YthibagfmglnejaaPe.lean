/- The numbers that are pending. -/
import Derived.Test.YthibagfmglnejaaOk2
import Derived.Laws.AppendOwn
import Derived.Maps.AppendAt
namespace Go.Proofs.Ythibagfmglnejaa
open Go.RowKit Plain
set_option linter.unusedVariables false
set_option linter.unusedSimpArgs false

theorem info22 : (Try.prog.info? 22).map (fun i => (i.zero, i.size, i.bytes)) = some (some (.int .u16 0), 1, 2) := by kernel_rfl
/-- the pending numbers below a distance -/
def pendK (f : Int) (l : List Bool) (k : Nat) : List Int := ((List.range k).filter fun i => l.getD i false).map fun (i : Nat) => (f + i) % 65536
theorem pendK_zero (f : Int) (l : List Bool) : pendK f l 0 = [] := rfl
theorem pendK_true (f : Int) (l : List Bool) (k : Nat) (h : l[k]? = some true) : pendK f l (k + 1) = pendK f l k ++ [(f + k) % 65536] := by
  simp [pendK, List.range_succ, List.getD, h]
theorem pendK_false (f : Int) (l : List Bool) (k : Nat) (h : l[k]? = some false) : pendK f l (k + 1) = pendK f l k := by
  simp [pendK, List.range_succ, List.getD, h]
theorem pendK_all (f : Int) (l : List Bool) : pendK f l l.length = pend f l := rfl
theorem pendK_len (f : Int) (l : List Bool) (k : Nat) : (pendK f l k).length ≤ k := by
  unfold pendK
  have := List.length_filter_le (fun i => l.getD i false) (List.range k)
  simpa using this
/-- a new slice of numbers is returned -/
def PendAt (w : World) (zs : List Int) (e : Ending) (w' : World) : Prop := ∃ v, e = .returned v ∧ w'.ownsRow w.heap.size 22 1 v zs.length (zs.map (Value.int .u16)) ∧ Below w.heap.size w w'
def PendRel (w : World) (f : Int) (l : List Bool) (v i : Value) (wr : World) : Prop := ∃ k : Nat, k ≤ l.length ∧ i = .int .i64 k ∧ wr.ownsRow w.heap.size 22 1 v (pendK f l k).length ((pendK f l k).map (Value.int .u16)) ∧ Below w.heap.size w wr

set_option maxRecDepth 100000 in
set_option maxHeartbeats 2000000 in
theorem pending19 (P D : Nat) (f : Int) (l : List Bool) (cap : Nat) (ex : List Value) (w : World) (hw : WinAt w P D f l cap ex) : Calls Try.prog 19 #[.pointer (some ⟨P, 0, none⟩)] w (PendAt w (pend f l)) := by
  obtain ⟨i0, hi, hz0, hz1, hz2⟩ := info_parts info22
  have k0 := hw.cell0
  have k1 := hw.cell1
  have hl1 := hw.l1
  have hl2 := hw.l2
  have hf := hw.f0
  have HW := Lib.hid hw
  clear hw
  go_enter Try.func19, Try.ntmps19
  go_wp2_with fail
  with_reducible refine (zero26 P D l cap _ k1 hl1).mono ?_
  rintro e w' ⟨rfl, rfl⟩
  go_wp2_with fail
  go_loopw [3, 14] (fun v i wr => PendRel w f l v i wr) (fun _ i _ => l.length - (intOf i).toNat)
  case atStart => exact ⟨0, Nat.zero_le _, rfl, World.ownsRow_nil _ _ _ _, Below.refl _ _⟩
  case round =>
    obtain ⟨k, hk, rfl, hown, hb⟩ := hrel
    by_cases hlt : k < l.length
    · obtain ⟨b, hbk⟩ : ∃ b, l[k]? = some b := ⟨l[k], List.getElem?_eq_getElem hlt⟩
      have hWr := HW.out.below hb
      have hcell := hWr.d.cell hbk
      have c0 := hWr.cell0
      clear k0 k1 hWr
      have i1 : (0 : Int) ≤ (k : Int) := by omega
      have i2 : (k : Int) < (l.length : Int) := by omega
      have hpl := pendK_len f l k
      cases b with
      | false =>
        have e1 := Lib.hid (pendK_false f l k hbk)
        have HO := Lib.hid hown
        clear hbk hown
        go_wp2_with fail
        go_roundw
        case rel => exact ⟨k + 1, by omega, by go_num, by rw [e1.out]; exact HO.out, hb⟩
        case measure => simp [intOf]; omega
      | true =>
        have e1 := Lib.hid (pendK_true f l k hbk)
        have hpw : IntKind.u16.wrap (f + (k : Int)) = (f + k) % 65536 := IntKind.wrap_u16 _
        clear hbk
        go_wp2_with (at_builtin; refine wpList_append_own _ rfl _ _ 33 rfl w.heap.size 22 i0 (.int .u16 0) 1 2 Try.underlying33 hi hz0 hz1 hz2 rfl (by decide) _ _ _ rfl (hown.alloc _) ⟨wr.heap.size, 0, none⟩ 1 1 [.int .u16 ((f + k) % 65536)] rfl rfl ?c1 ?c2 ?c3 ?c4 ?c5 ?_)
        case c1 => exact cell_one_new _ _ _
        case c2 => simp [Value.oneCell']
        case c3 => unfold maxLen; omega
        case c4 => omega
        case c5 => have := hb.size; simp; omega
        intro v' w1 hown' hgrow _
        have hb1 : Below w.heap.size w w1 := (hb.alloc hb.size _).grown hgrow (by have := hb.size; simp; omega) (fun k hk => (hown.lt k hk).1)
        have HO := Lib.hid hown'
        clear hown hown' hgrow
        go_wp2_with fail
        go_roundw
        case rel => exact ⟨k + 1, by omega, by go_num, by rw [e1.out]; simpa using HO.out, hb1⟩
        case measure => simp [intOf]; omega
    · obtain rfl : k = l.length := by omega
      rw [pendK_all] at hown
      have HO := Lib.hid hown
      clear hown
      go_wp2_with fail
      go_returns
      exact ⟨_, rfl, HO.out, hb⟩
end Go.Proofs.Ythibagfmglnejaa
