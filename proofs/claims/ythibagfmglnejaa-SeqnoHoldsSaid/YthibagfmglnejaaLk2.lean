/- A window looks as it should. -/
import Derived.Test.YthibagfmglnejaaLk
namespace Go.Proofs.Ythibagfmglnejaa
open Go.RowKit Plain
set_option linter.unusedVariables false
set_option linter.unusedSimpArgs false

theorem pend_len (f : Int) (l : List Bool) : (pend f l).length ≤ l.length := pendK_len f l l.length
def LkRel (w : World) (g n : Nat) (i : Value) (wr : World) : Prop := ∃ k : Nat, k ≤ n ∧ i = .int .i64 k ∧ RowI wr g n ∧ Below w.heap.size w wr
theorem rowI_of {w : World} {g n : Nat} {cur : Array Value} {zs : List Int} (hg : w.heap[g]? = some (.cells cur 22 (0, 0))) (ht : cur.toList.take (n * 1) = zs.map (Value.int .u16)) (hn : zs.length = n) (hz : ∀ z ∈ zs, U16 z) : RowI w g n := by
  intro j hj
  have h1 : (cur.toList.take (n * 1))[j]? = some (.int .u16 (zs[j]'(by omega))) := by
    rw [ht, List.getElem?_map, List.getElem?_eq_getElem (by omega)]
    rfl
  rw [List.getElem?_take_of_lt (by omega)] at h1
  refine ⟨zs[j]'(by omega), hz _ (List.getElem_mem _), ?_, frozen_of_row w g j _ 22 hg⟩
  rw [cell_of_row w g j _ 22 (0, 0) hg]
  simpa using h1
theorem pend_U (f : Int) (l : List Bool) : ∀ z ∈ pend f l, U16 z := by
  intro z hz
  obtain ⟨i, _, rfl⟩ := List.mem_map.1 hz
  unfold U16
  omega

set_option maxRecDepth 100000 in
set_option maxHeartbeats 4000000 in
theorem looks20 (P D : Nat) (f : Int) (l : List Bool) (cap : Nat) (ex : List Value) (w : World) (hw : WinAt w P D f l cap ex) (v : Value) (hs : Seg w .u16 v (pend f l)) : Calls Try.prog 20 #[.pointer (some ⟨P, 0, none⟩), .int .u16 f, v] w fun e w' => e = .returned (.bool true) ∧ Below w.heap.size w w' := by
  have HS := Lib.hid hs
  have hml : (pend f l).length ≤ maxLen := by have := pend_len f l; have := hw.l2; unfold maxLen; omega
  have hml2 : (pend f l).length ≤ 1024 := by have := pend_len f l; have := hw.l2; omega
  have HW := Lib.hid hw
  clear hs hw
  go_enter Try.func20, Try.ntmps20
  go_wp2_with fail
  with_reducible refine (pending19 P D f l cap ex _ HW.out).mono ?_
  rintro e w1 ⟨v1, rfl, hown, hb1⟩
  have S1 := Lib.hid (seg_of_owns hown hml)
  obtain ⟨_, ⟨rfl, hn⟩ | ⟨g, cp, cur, rfl, hg, hgg, hnc, hcm, hsz, htk⟩⟩ := hown
  · go_wp2_with fail
    with_reducible refine (same28c _ _ _ _ S1.out (HS.out.below hb1)).mono ?_
    rintro e w2 ⟨rfl, hb2⟩
    have hb3 := below_via hb1 hb2
    go_wp2_with fail
    refine wp_loop_rounds 1 ?_
    rw [rounds_succ]
    go_wp2_with fail
    with_reducible refine (first18 P D f l cap ex _ (HW.out.below hb3)).mono ?_
    rintro e w' ⟨rfl, rfl⟩
    go_wp2_with fail
    with_reducible refine (pending19 P D f l cap ex _ (HW.out.below hb3)).mono ?_
    rintro e w7 ⟨v7, rfl, hown7, hb7⟩
    have hb8 := below_via hb3 hb7
    have S7 := Lib.hid (seg_of_owns hown7 hml)
    clear hown7
    go_wp2_with fail
    with_reducible refine (same28c _ _ _ _ S7.out (HS.out.below hb8)).mono ?_
    rintro e w8 ⟨rfl, hb9⟩
    have hb10 := below_via hb8 hb9
    go_wp2_with fail
    go_returns
    exact ⟨rfl, hb10⟩
  · have hr1 := Lib.hid (rowI_of hgg htk rfl (pend_U f l))
    have hlt1 : g < w1.heap.size := (Array.getElem?_eq_some_iff.1 hgg).1
    clear hgg htk
    go_wp2_with fail
    with_reducible refine (same28c _ _ _ _ S1.out (HS.out.below hb1)).mono ?_
    rintro e w2 ⟨rfl, hb2⟩
    have hb3 := below_via hb1 hb2
    have hr2 : RowI w2 g (pend f l).length := fun j hj => by
      obtain ⟨z, h1, h2, h3⟩ := hr1.out j hj
      exact ⟨z, h1, (hb2.cell (p := ⟨g, j, none⟩) hlt1).trans h2, (hb2.frozen (p := ⟨g, j, none⟩) hlt1).trans h3⟩
    have HR2 := Lib.hid hr2
    clear hr2
    go_wp2_with fail
    go_loopw [17] (fun i wr => LkRel w g (pend f l).length i wr) (fun i _ => (pend f l).length - (intOf i).toNat)
    case atStart => exact ⟨0, Nat.zero_le _, rfl, HR2.out, hb3⟩
    case round =>
      obtain ⟨k, hk, rfl, hr, hb⟩ := hrel
      have HR := Lib.hid hr
      clear hr
      by_cases hlt : k < (pend f l).length
      · obtain ⟨z, hz, kc, kf⟩ := HR.out k hlt
        have i1 : (0 : Int) ≤ (k : Int) := by omega
        have i2 : (k : Int) < ((pend f l).length : Int) := by omega
        have hpw : IntKind.u16.wrap (z + 1) = nxt z := IntKind.wrap_u16 _
        go_wp2_with fail
        go_roundw
        case rel => exact ⟨k + 1, by omega, by go_num, HR.out.set k _ (U16_nxt z), hb.setCell (by simpa using hg) _⟩
        case measure => simp [intOf]; omega
      · have ek : ¬ k < (pend f l).length := hlt
        go_wp2_with fail
        with_reducible refine (first18 P D f l cap ex _ (HW.out.below hb)).mono ?_
        rintro e w' ⟨rfl, rfl⟩
        go_wp2_with fail
        with_reducible refine (pending19 P D f l cap ex _ (HW.out.below hb)).mono ?_
        rintro e w7 ⟨v7, rfl, hown7, hb7⟩
        have hb8 := below_via hb hb7
        have S7 := Lib.hid (seg_of_owns hown7 hml)
        clear hown7
        go_wp2_with fail
        with_reducible refine (same28c _ _ _ _ S7.out (HS.out.below hb8)).mono ?_
        rintro e w8 ⟨rfl, hb9⟩
        have hb10 := below_via hb8 hb9
        go_wp2_with fail
        go_returns
        exact ⟨rfl, hb10⟩

end Go.Proofs.Ythibagfmglnejaa
