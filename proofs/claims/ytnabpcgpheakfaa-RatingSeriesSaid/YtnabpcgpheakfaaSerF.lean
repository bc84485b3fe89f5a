/- RatingSeries: the cases together. -/
import Derived.Test.YtnabpcgpheakfaaSerD
import Derived.Test.YtnabpcgpheakfaaSerE
namespace Go.Proofs.Ytnabpcgpheakfaa
open Go.RowKit Plain
set_option linter.unusedVariables false
set_option linter.unusedSimpArgs false

set_option maxRecDepth 100000 in
set_option maxHeartbeats 2000000 in
theorem ser6 (v gv sv : Value) (f : Int) (xs : List Int) (rows : List (List Int)) (scs : List Int) (w : World) (hs : Seg w .i64 v xs) (hg : SRow [.i64, .i64] w gv rows) (hc : Seg w .i64 sv scs) (l1 : xs.length ≤ 20) (l2 : rows.length ≤ 60) (l3 : scs.length ≤ 60) : Calls Try.prog 6 #[v, .int .i64 f, gv, sv] w fun e w' => e = .returned (.bool true) ∧ Below w.heap.size w w' := by
  by_cases q : rows.length = scs.length
  · by_cases f1 : f < 1
    · exact ser6_lo_eq v gv sv f xs rows scs w hs hg hc l1 l2 l3 f1 q
    · by_cases f2 : 64 < f
      · exact ser6_hi_eq v gv sv f xs rows scs w hs hg hc l1 l2 l3 f2 q
      · exact ser6_ok_eq v gv sv f xs rows scs w hs hg hc l1 l2 l3 (by omega) (by omega) q
  · by_cases f1 : f < 1
    · exact ser6_lo_ne v gv sv f xs rows scs w hs hg hc l1 l2 l3 f1 q
    · by_cases f2 : 64 < f
      · exact ser6_hi_ne v gv sv f xs rows scs w hs hg hc l1 l2 l3 f2 q
      · exact ser6_ok_ne v gv sv f xs rows scs w hs hg hc l1 l2 l3 (by omega) (by omega) q
set_option maxRecDepth 100000 in
set_option maxHeartbeats 2000000 in
theorem ser6_big (v gv sv : Value) (f : Int) (xs : List Int) (rows : List (List Int)) (scs : List Int) (w : World) (hs : Seg w .i64 v xs) (hg : SRow [.i64, .i64] w gv rows) (hc : Seg w .i64 sv scs) (h : 20 < xs.length ∨ 60 < rows.length ∨ 60 < scs.length) : Calls Try.prog 6 #[v, .int .i64 f, gv, sv] w fun e w' => e = .returned (.bool true) ∧ Below w.heap.size w w' := by
  obtain ⟨m1, a1, c1, rfl, f1⟩ := seg_form hs
  obtain ⟨m2, a2, c2, rfl, f2⟩ := srow_form hg
  obtain ⟨m3, a3, c3, rfl, f3⟩ := seg_form hc
  have HSX := Lib.hid hs
  have HGX := Lib.hid hg
  have F2 := Lib.hid f2
  have F3 := Lib.hid f3
  clear hs hg hc f1 f2 f3

  by_cases h1 : 20 < xs.length
  · clear h
    go_enter Try.func6, Try.ntmps6
    go_wp2_with fail
    with_reducible refine (known11 _).mono ?_
    rintro e w' ⟨rfl, rfl⟩
    go_wp2_with fail
    go_returns
    exact ⟨rfl, by go_grown⟩
  · by_cases h2 : 60 < rows.length
    · clear h
      go_enter Try.func6, Try.ntmps6
      go_wp2_with fail
      with_reducible refine (known11 _).mono ?_
      rintro e w' ⟨rfl, rfl⟩
      go_wp2_with fail
      go_returns
      exact ⟨rfl, by go_grown⟩
    · have h3 : 60 < scs.length := by omega
      clear h
      go_enter Try.func6, Try.ntmps6
      go_wp2_with fail
      with_reducible refine (known11 _).mono ?_
      rintro e w' ⟨rfl, rfl⟩
      go_wp2_with fail
      go_returns
      exact ⟨rfl, by go_grown⟩
end Go.Proofs.Ytnabpcgpheakfaa
