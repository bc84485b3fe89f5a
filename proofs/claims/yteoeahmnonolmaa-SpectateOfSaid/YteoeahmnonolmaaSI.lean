/- Items that share no memory, by spectate. -/
import Derived.Test.YteoeahmnonolmaaBCl
import Derived.Deep.DeepCutAuto
import Derived.LoopTactic
namespace Go.Proofs.Yteoeahmnonolmaa
open Go.RowKit Plain
set_option linter.unusedVariables false
set_option linter.unusedSimpArgs false

set_option maxRecDepth 100000 in
set_option maxHeartbeats 4000000 in
theorem sitems (v : Value) (l : List It) (w : World) (h : ItR w v l) (hl : l.length ≤ 1000) (ht : ∀ x ∈ l, x.tg.length ≤ 1000) : Calls Try.prog 48 #[v] w (ItA w l) := by
  obtain ⟨l', rfl, hr, htg⟩ := h
  rw [List.length_map] at hl
  have HR := Lib.hid hr
  have HTG := Lib.hid htg
  have HTL := Lib.hid ht
  obtain ⟨_, a1, c1, rfl, _⟩ := hr.form
  clear hr htg ht
  go_enter Try.func48, Try.ntmps48
  go_wp2_with fail
  with_reducible refine (cloneX _ w HR.out hl).mono ?_
  rintro e w1 ⟨oa, oc1, rfl, ho, hb⟩
  have HO := Lib.hid ho
  have HB := Lib.hid hb
  have HTG1 : Hid (∀ x ∈ l', Rw tc 2 w1 x.2.v x.1.tg) := Lib.hid (fun x hx => (HTG.out x hx).below hb)
  clear ho hb
  go_wp2_with fail
  go_loopw [9] (fun i wr => ItL w l' (.slice oa l'.length oc1) w1.heap.size i wr) (fun i _ => l'.length - (intOf i).toNat)
  case atStart => exact ⟨0, l', by omega, rfl, HB.out, Nat.le_refl _, rfl, HO.out, fun j x h => by omega, fun _ _ => rfl⟩
  case round =>
    obtain ⟨k, m, hk, rfl, hb, hh, hm, ho2, hd, hu⟩ := hrel
    replace HB := Lib.hid hb
    have HM := Lib.hid hm
    have HO2 := Lib.hid ho2
    have HD := Lib.hid hd
    have HU := Lib.hid hu
    have hml : m.length = l'.length := by have := congrArg List.length hm; simpa using this
    have HML := Lib.hid hml
    clear hb hm ho2 hd hu hml
    by_cases hkl : k < l'.length
    · obtain ⟨y, hy⟩ : ∃ y, m[k]? = some y := ⟨_, List.getElem?_eq_getElem (by have := HML.out; omega)⟩
      have hyl : l'[k]? = some y := by rw [← HU.out k (Nat.le_refl _)]; exact hy
      have HTY : Hid (Rw tc 2 w y.2.v y.1.tg) := Lib.hid (HTG.out y (List.mem_of_getElem? hyl))
      have htl : y.1.tg.length ≤ 1000 := HTL.out y.1 (List.mem_map.2 ⟨y, List.mem_of_getElem? hyl, rfl⟩)
      obtain ⟨g, cap, hv, hg1, hg2, hg3⟩ := HO2.out.pos (by have := HML.out; omega)
      simp only [Value.slice.injEq] at hv
      obtain ⟨rfl, hx0, rfl⟩ := hv
      clear hx0
      obtain ⟨x, ⟨ta, tn, tc'⟩⟩ := y
      have HTW : Hid (Rw tc 2 w (.slice ta tn tc') x.tg) := Lib.hid HTY.out
      have hca := HO2.out.at itc_len hy (j := 4) (u := .slice ta tn tc') rfl (k * 5 + 4) rfl
      have d4 := hca.1
      have f4 := hca.2
      have i1 : (0 : Int) ≤ (k : Int) := by omega
      have i2 : (k : Int) < (l'.length : Int) := by omega
      have HY := Lib.hid hy
      have HG1 := Lib.hid hg1
      clear hca hy hyl hg1
      go_wp2_with fail
      with_reducible refine (cloneT (.slice ta tn tc') wr (HTW.out.below HB.out) (Nat.le_trans htl (by decide))).mono ?_
      rintro e w5 ⟨sa, sc, rfl, hs, hb5⟩
      have e4 : w5.cell? ⟨g, k * 5 + 4, none⟩ = some (.slice ta tn tc') := (hb5.cell (p := ⟨g, k * 5 + 4, none⟩) hg3).trans d4
      have g4 : w5.frozen? ⟨g, k * 5 + 4, none⟩ = false := (hb5.frozen (p := ⟨g, k * 5 + 4, none⟩) hg3).trans f4
      have HS := Lib.hid hs
      have HB5 := Lib.hid hb5
      clear d4 f4 hs hb5
      go_wp2_with fail
      go_roundw
      case rel =>
        have hb5 := HB5.out
        have hlt : k < m.length := by have := HML.out; omega
        have hO := (HO2.out.below hb5).setc itc_len HY.out (j := 4) (x' := (x, ⟨sa, x.tg.length, sc⟩)) (u := .slice sa x.tg.length sc) (by omega) rfl (k * 5 + 4) rfl
        have hgr : g < w5.heap.size := Nat.lt_of_lt_of_le hg3 hb5.size
        have hkeep : ∀ {w0 : World} {lo hi : Nat} {v : Value} {l : List Tg}, Ox tc 2 105 lo hi w5 v l → Ox tc 2 105 lo hi (w5.setCell ⟨g, k * 5 + 4, none⟩ (.slice sa x.tg.length sc)) v l := fun h => h.keep (fun q _ _ hq => Below.heap_setCell _ _ _ _ (by
          intro e
          obtain ⟨_, _, cc, hcc⟩ := h.1.typ _ hq
          obtain ⟨_, _, c2, hc2⟩ := (HO2.out.below hb5).1.typ g rfl
          rw [show q = g from e, hc2] at hcc
          simp at hcc))
        have hs2 : (w5.setCell ⟨g, k * 5 + 4, none⟩ (.slice sa x.tg.length sc)).heap.size = w5.heap.size := by simp [World.setCell]
        refine ⟨k + 1, _, by omega, by go_num, belowOnl (below_via HB.out hb5) (Onl.setCell (S := [g]) (Onl.refl _ _) (.inl (by simp)) _) (by have := HG1.out; simpa using this) (Nat.le_trans HB.out.size hb5.size), by (try rw [hs2]); exact Nat.le_trans hh hb5.size, ?_, hO, fun j y hj hy => ?_, fun j hj => ?_⟩
        · rw [map_set_fst m k (x, ⟨ta, tn, tc'⟩) _ HY.out]; exact HM.out
        · try rw [hs2]
          by_cases e : k = j
          · subst e
            rw [List.getElem?_set_self hlt] at hy
            simp only [Option.some.injEq] at hy
            subst hy
            exact hkeep (w0 := w5) (HS.out.mono HB.out.size (Nat.le_refl _))
          · rw [List.getElem?_set_ne e] at hy
            exact hkeep (w0 := w5) (((HD.out j y (by omega) hy).below hb5).mono (Nat.le_refl _) hb5.size)
        · rw [List.getElem?_set, if_neg (by omega)]
          exact HU.out j (by omega)
      case measure => simp [intOf]; omega
    · have hke : k = l'.length := by omega
      go_wp2_with fail
      go_returns
      refine ⟨oa, oc1, (by rw [List.length_map]; rfl), ⟨m, HM.out, ?_, fun x hx => ?_⟩, HB.out⟩
      · rw [List.length_map]; exact HO2.out.mono (Nat.le_refl _) hh
      · obtain ⟨j, hj⟩ := List.getElem?_of_mem hx
        exact HD.out j x (by have := (List.getElem?_eq_some_iff.1 hj).1; have := HML.out; omega) hj
end Go.Proofs.Yteoeahmnonolmaa
