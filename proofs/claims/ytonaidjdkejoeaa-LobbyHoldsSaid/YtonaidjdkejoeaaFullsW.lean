/- LobbyFulls: the walk. -/
import Derived.Test.YtonaidjdkejoeaaKn
import Derived.Test.YtonaidjdkejoeaaPlD
import Derived.LoopTactic
namespace Go.Proofs.Ytonaidjdkejoeaa
open Go.RowKit Plain
set_option linter.unusedVariables false
set_option linter.unusedSimpArgs false

theorem matchN (P : Nat) (x : Lb) (t : Int) (w W : World) (hm : Mine w W P x) (ht : U t) : Calls Try.prog 11 #[.pointer (some ⟨P, 0, none⟩), .int .u64 t] W fun e w' => ∃ pv gv, e = .returned (.tuple #[pv, gv, .int .i64 0]) ∧ Ow dc 2 50 w' W.heap.size pv (mtP x t) ∧ Ow ic 1 3 w' W.heap.size gv (mtG x t) ∧ Mine w w' P (mtX x t) := by
  obtain ⟨v, h3, h4⟩ := hm.lob
  refine (match11 P x v t W h3 hm.ok ht).mono ?_
  rintro e w' ⟨pv, gv, v', rfl, h5, h6, h7, h8, h9⟩
  have h10 : MutAt P v W (.returned (.tuple #[pv, gv, .int .i64 0])) (mtX x t) (.returned (.tuple #[pv, gv, .int .i64 0])) w' := ⟨v', rfl, h7, fun b hb => .inr (h8 b hb), onl_foot h9⟩
  exact ⟨pv, gv, rfl, h5, h6, (hm.mut h4 (mtX_ok hm.ok ht) h10).2⟩
def FuRel (w : World) (P m : Nat) (s : Value) (wr : World) : Prop := ∃ i : Nat, i ≤ m ∧ s = .int .i64 i ∧ Mine w wr P (fl (min i 200))
theorem fl_zero : fl 0 = ⟨0, 100, 1000, 0, []⟩ := rfl
set_option maxRecDepth 100000 in
set_option maxHeartbeats 2000000 in
theorem fulls3_lo (m : Int) (w : World) (h : m < 198) : Calls Try.prog 3 #[.int .i64 m] w fun e w' => e = .returned (.bool true) ∧ Below w.heap.size w w' := by
  go_enter Try.func3, Try.ntmps3
  go_wp2_with fail
  with_reducible refine (known _).mono ?_
  rintro e w1 ⟨rfl, hb⟩
  go_wp2_with fail
  go_returns
  exact ⟨rfl, hb⟩

set_option maxRecDepth 100000 in
set_option maxHeartbeats 2000000 in
theorem fulls3_hi (m : Int) (w : World) (h : 202 < m) : Calls Try.prog 3 #[.int .i64 m] w fun e w' => e = .returned (.bool true) ∧ Below w.heap.size w w' := by
  have h0 : ¬ m < 198 := by omega
  go_enter Try.func3, Try.ntmps3
  go_wp2_with fail
  with_reducible refine (known _).mono ?_
  rintro e w1 ⟨rfl, hb⟩
  go_wp2_with fail
  go_returns
  exact ⟨rfl, hb⟩

set_option maxRecDepth 100000 in
set_option maxHeartbeats 4000000 in
theorem fulls3 (m : Nat) (w : World) (h1 : 198 ≤ m) (h2 : m ≤ 202) : Calls Try.prog 3 #[.int .i64 (m : Int)] w fun e w' => e = .returned (.bool true) ∧ Below w.heap.size w w' := by
  have q1 : decide ((m : Int) < 198) = false := by simp; omega
  have q2 : decide ((202 : Int) < (m : Int)) = false := by simp; omega
  go_enter Try.func3, Try.ntmps3
  go_wp2_with fail
  with_reducible refine (newM 0 100 1000 w _ (Below.refl _ _) (by decide +kernel)).mono ?_
  rintro e w1 ⟨P, rfl, hm, _⟩
  have HM1 := Lib.hid hm
  clear hm
  go_wp2_with fail
  go_loopw [5] (fun s wr => FuRel w P m s wr) (fun s _ => m - (intOf s).toNat)
  case atStart => exact ⟨0, Nat.zero_le _, rfl, HM1.out⟩
  case round =>
    obtain ⟨i, hi, rfl, hm⟩ := hrel
    have HM := Lib.hid hm
    clear hm HM1
    by_cases him : i < m
    · have b1 : 0 ≤ 20 * (i : Int) % 4001 ∧ 20 * (i : Int) % 4001 ≤ 4000 := by omega
      have B1 := Lib.hid b1
      clear b1
      by_cases h200 : i < 200
      · rw [show min i 200 = i by omega] at HM
        have HE : Hid (enE (fl i) i (20 * (i : Int) % 4001) = 0) := Lib.hid (by rw [fl_enE (Int.le_refl _) (by omega) B1.out, if_neg (by omega)])
        have HX := Lib.hid (fl_next h200)
        have t1 : decide ((200 : Int) ≤ (i : Int)) = false := by simp; omega
        go_wp2_with fail
        with_reducible refine (enterM P (fl i) (fl (i + 1)) 0 i (20 * (i : Int) % 4001) 0 w _ HM.out (by unfold U; omega) HE.out HX.out).mono ?_
        rintro e w2 ⟨rfl, hm⟩
        have HM2 := Lib.hid hm
        clear hm
        go_wp2_with fail
        go_roundw
        case rel => exact ⟨i + 1, by omega, by go_num, by rw [show min (i + 1) 200 = i + 1 by omega]; exact HM2.out⟩
        case measure => simp [intOf]; omega
      · rw [show min i 200 = 200 by omega] at HM
        have HE : Hid (enE (fl 200) i (20 * (i : Int) % 4001) = 7) := Lib.hid (by rw [fl_enE (by omega) (by omega) B1.out, if_pos (Nat.le_refl _)])
        have HX : Hid (enX (fl 200) 0 i (20 * (i : Int) % 4001) = fl 200) := Lib.hid (fl_full (by omega) (by omega) B1.out)
        have t1 : decide ((200 : Int) ≤ (i : Int)) = true := by simp; omega
        go_wp2_with fail
        with_reducible refine (enterM P (fl 200) (fl 200) 0 i (20 * (i : Int) % 4001) 7 w _ HM.out (by unfold U; omega) HE.out HX.out).mono ?_
        rintro e w2 ⟨rfl, hm⟩
        have HM2 := Lib.hid hm
        clear hm
        go_wp2_with fail
        go_roundw
        case rel => exact ⟨i + 1, by omega, by go_num, by rw [show min (i + 1) 200 = 200 by omega]; exact HM2.out⟩
        case measure => simp [intOf]; omega
    · obtain rfl : i = m := by omega
      have h5 : i = 198 ∨ i = 199 ∨ i = 200 ∨ i = 201 ∨ i = 202 := by omega
      rcases h5 with rfl | rfl | rfl | rfl | rfl
      · replace HM : Hid (Mine w wr P (fl 198)) := HM
        go_wp2_with fail
        with_reducible refine (matchN P (fl 198) 40 w _ HM.out (by unfold U; omega)).mono ?_
        rintro e w2 ⟨pv, gv, rfl, hp, hg, hm⟩
        have hf := fl_match (n := 198) (by omega)
        obtain ⟨ap1, cp1, epv⟩ := hp.form
        obtain ⟨ag1, cg1, egv⟩ := hg.form
        rw [hf.1] at epv
        rw [hf.2.1] at egv
        simp only [List.length_nil, Nat.reduceDiv] at epv egv
        subst epv egv
        have HM2 := Lib.hid hm
        have HF := Lib.hid hf.2.2
        clear hp hg hm hf
        go_wp2_with fail
        with_reducible refine (waitingM P (mtX (fl 198) 40) _ w _ HM2.out rfl).mono ?_
        rintro e w3 ⟨wv, rfl, hw, hm⟩
        obtain ⟨aw, cw, ewv⟩ := hw.form
        rw [List.length_map, HF.out] at ewv
        simp only [Nat.reduceMod] at ewv
        subst ewv
        have HM3 := Lib.hid hm
        clear hw hm
        go_wp2_with fail
        with_reducible refine (known _).mono ?_
        rintro e w4 ⟨rfl, hb4⟩
        go_wp2_with fail
        go_returns
        exact ⟨rfl, below_via HM3.out.bel hb4⟩
      · replace HM : Hid (Mine w wr P (fl 199)) := HM
        go_wp2_with fail
        with_reducible refine (matchN P (fl 199) 40 w _ HM.out (by unfold U; omega)).mono ?_
        rintro e w2 ⟨pv, gv, rfl, hp, hg, hm⟩
        have hf := fl_match (n := 199) (by omega)
        obtain ⟨ap1, cp1, epv⟩ := hp.form
        obtain ⟨ag1, cg1, egv⟩ := hg.form
        rw [hf.1] at epv
        rw [hf.2.1] at egv
        simp only [List.length_nil, Nat.reduceDiv] at epv egv
        subst epv egv
        have HM2 := Lib.hid hm
        have HF := Lib.hid hf.2.2
        clear hp hg hm hf
        go_wp2_with fail
        with_reducible refine (waitingM P (mtX (fl 199) 40) _ w _ HM2.out rfl).mono ?_
        rintro e w3 ⟨wv, rfl, hw, hm⟩
        obtain ⟨aw, cw, ewv⟩ := hw.form
        rw [List.length_map, HF.out] at ewv
        simp only [Nat.reduceMod] at ewv
        subst ewv
        have HM3 := Lib.hid hm
        clear hw hm
        go_wp2_with fail
        with_reducible refine (known _).mono ?_
        rintro e w4 ⟨rfl, hb4⟩
        go_wp2_with fail
        go_returns
        exact ⟨rfl, below_via HM3.out.bel hb4⟩
      · replace HM : Hid (Mine w wr P (fl 200)) := HM
        go_wp2_with fail
        with_reducible refine (matchN P (fl 200) 40 w _ HM.out (by unfold U; omega)).mono ?_
        rintro e w2 ⟨pv, gv, rfl, hp, hg, hm⟩
        have hf := fl_match (n := 200) (by omega)
        obtain ⟨ap1, cp1, epv⟩ := hp.form
        obtain ⟨ag1, cg1, egv⟩ := hg.form
        rw [hf.1] at epv
        rw [hf.2.1] at egv
        simp only [List.length_nil, Nat.reduceDiv] at epv egv
        subst epv egv
        have HM2 := Lib.hid hm
        have HF := Lib.hid hf.2.2
        clear hp hg hm hf
        go_wp2_with fail
        with_reducible refine (waitingM P (mtX (fl 200) 40) _ w _ HM2.out rfl).mono ?_
        rintro e w3 ⟨wv, rfl, hw, hm⟩
        obtain ⟨aw, cw, ewv⟩ := hw.form
        rw [List.length_map, HF.out] at ewv
        simp only [Nat.reduceMod] at ewv
        subst ewv
        have HM3 := Lib.hid hm
        clear hw hm
        go_wp2_with fail
        with_reducible refine (known _).mono ?_
        rintro e w4 ⟨rfl, hb4⟩
        go_wp2_with fail
        go_returns
        exact ⟨rfl, below_via HM3.out.bel hb4⟩
      · replace HM : Hid (Mine w wr P (fl 200)) := HM
        go_wp2_with fail
        with_reducible refine (matchN P (fl 200) 40 w _ HM.out (by unfold U; omega)).mono ?_
        rintro e w2 ⟨pv, gv, rfl, hp, hg, hm⟩
        have hf := fl_match (n := 200) (by omega)
        obtain ⟨ap1, cp1, epv⟩ := hp.form
        obtain ⟨ag1, cg1, egv⟩ := hg.form
        rw [hf.1] at epv
        rw [hf.2.1] at egv
        simp only [List.length_nil, Nat.reduceDiv] at epv egv
        subst epv egv
        have HM2 := Lib.hid hm
        have HF := Lib.hid hf.2.2
        clear hp hg hm hf
        go_wp2_with fail
        with_reducible refine (waitingM P (mtX (fl 200) 40) _ w _ HM2.out rfl).mono ?_
        rintro e w3 ⟨wv, rfl, hw, hm⟩
        obtain ⟨aw, cw, ewv⟩ := hw.form
        rw [List.length_map, HF.out] at ewv
        simp only [Nat.reduceMod] at ewv
        subst ewv
        have HM3 := Lib.hid hm
        clear hw hm
        go_wp2_with fail
        with_reducible refine (known _).mono ?_
        rintro e w4 ⟨rfl, hb4⟩
        go_wp2_with fail
        go_returns
        exact ⟨rfl, below_via HM3.out.bel hb4⟩
      · replace HM : Hid (Mine w wr P (fl 200)) := HM
        go_wp2_with fail
        with_reducible refine (matchN P (fl 200) 40 w _ HM.out (by unfold U; omega)).mono ?_
        rintro e w2 ⟨pv, gv, rfl, hp, hg, hm⟩
        have hf := fl_match (n := 200) (by omega)
        obtain ⟨ap1, cp1, epv⟩ := hp.form
        obtain ⟨ag1, cg1, egv⟩ := hg.form
        rw [hf.1] at epv
        rw [hf.2.1] at egv
        simp only [List.length_nil, Nat.reduceDiv] at epv egv
        subst epv egv
        have HM2 := Lib.hid hm
        have HF := Lib.hid hf.2.2
        clear hp hg hm hf
        go_wp2_with fail
        with_reducible refine (waitingM P (mtX (fl 200) 40) _ w _ HM2.out rfl).mono ?_
        rintro e w3 ⟨wv, rfl, hw, hm⟩
        obtain ⟨aw, cw, ewv⟩ := hw.form
        rw [List.length_map, HF.out] at ewv
        simp only [Nat.reduceMod] at ewv
        subst ewv
        have HM3 := Lib.hid hm
        clear hw hm
        go_wp2_with fail
        with_reducible refine (known _).mono ?_
        rintro e w4 ⟨rfl, hb4⟩
        go_wp2_with fail
        go_returns
        exact ⟨rfl, below_via HM3.out.bel hb4⟩

end Go.Proofs.Ytonaidjdkejoeaa
