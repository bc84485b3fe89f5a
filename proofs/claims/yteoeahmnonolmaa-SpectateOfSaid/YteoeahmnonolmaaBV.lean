/- Targets and items, by the code. -/
import Derived.Test.YteoeahmnonolmaaBW
import Derived.Deep.DeepCutAuto
import Derived.LoopTactic
namespace Go.Proofs.Yteoeahmnonolmaa
open Go.RowKit Plain
set_option linter.unusedVariables false
set_option linter.unusedSimpArgs false

set_option maxRecDepth 100000 in
set_option maxHeartbeats 4000000 in
theorem aimed (t : Tg) (w : World) : Calls Try.prog 66 #[.agg #[.int .i64 t.id, .int .i64 t.pl]] w fun e w' => e = .returned (.bool (tgB t)) ∧ Below w.heap.size w w' := by
  go_enter Try.func66, Try.ntmps66
  go_upto_region 1 with fail
  obtain ⟨wz, hwz⟩ : ∃ W, W = w.alloc (.cells #[.int .i64 t.id, .int .i64 t.pl] 105) := ⟨_, rfl⟩
  have HBZ : Hid (Below w.heap.size w wz) := Lib.hid (by rw [hwz]; exact (Below.refl _ _).alloc (Nat.le_refl _) _)
  have c0 : wz.cell? ⟨w.heap.size, 0, none⟩ = some (.int .i64 t.id) := by rw [hwz]; exact cell_of_row _ _ 0 _ 105 (0, 0) (heap_alloc_new _ _)
  have c1 : wz.cell? ⟨w.heap.size, 1, none⟩ = some (.int .i64 t.pl) := by rw [hwz]; exact cell_of_row _ _ 1 _ 105 (0, 0) (heap_alloc_new _ _)
  rw [← hwz]
  clear hwz
  by_cases h1 : 0 ≤ t.id ∧ t.id ≤ 500
  · have q1 : decide ((0 : Int) ≤ t.id ∧ t.id ≤ 500) = true := decide_eq_true h1
    by_cases h2 : 0 ≤ t.pl ∧ t.pl ≤ 1
    · have q2 : decide ((0 : Int) ≤ t.pl ∧ t.pl ≤ 1) = true := decide_eq_true h2
      by_cases h3 : t.id = 0
      · have q3 : (t.id == 0) = true := by simp [h3]
        have HR : Hid (tgB t = true) := Lib.hid (decide_eq_true ⟨h1, h2, .inl h3⟩)
        clear h1 h2 h3
        go_wp2_with fail
        with_reducible refine (withinc _ _ _ true _ q1).mono ?_
        rintro e w' ⟨rfl, rfl⟩
        go_wp2_with fail
        with_reducible refine (withinc _ _ _ true _ q2).mono ?_
        rintro e w' ⟨rfl, rfl⟩
        go_wp2_with fail
        go_returns
        exact ⟨by rw [HR.out]; rfl, HBZ.out⟩
      · have q3 : (t.id == 0) = false := by simpa using h3
        by_cases h4 : t.pl = 0
        · have q4 : (t.pl == 0) = true := by simp [h4]
          have HR : Hid (tgB t = true) := Lib.hid (decide_eq_true ⟨h1, h2, .inr h4⟩)
          clear h1 h2 h3 h4
          go_wp2_with fail
          with_reducible refine (withinc _ _ _ true _ q1).mono ?_
          rintro e w' ⟨rfl, rfl⟩
          go_wp2_with fail
          with_reducible refine (withinc _ _ _ true _ q2).mono ?_
          rintro e w' ⟨rfl, rfl⟩
          go_wp2_with fail
          go_returns
          exact ⟨by rw [HR.out]; rfl, HBZ.out⟩
        · have q4 : (t.pl == 0) = false := by simpa using h4
          have HR : Hid (tgB t = false) := Lib.hid (decide_eq_false (by omega))
          clear h1 h2 h3 h4
          go_wp2_with fail
          with_reducible refine (withinc _ _ _ true _ q1).mono ?_
          rintro e w' ⟨rfl, rfl⟩
          go_wp2_with fail
          with_reducible refine (withinc _ _ _ true _ q2).mono ?_
          rintro e w' ⟨rfl, rfl⟩
          go_wp2_with fail
          go_returns
          exact ⟨by rw [HR.out]; rfl, HBZ.out⟩
    · have q2 : decide ((0 : Int) ≤ t.pl ∧ t.pl ≤ 1) = false := decide_eq_false h2
      have HR : Hid (tgB t = false) := Lib.hid (decide_eq_false (by omega))
      clear h1 h2
      go_wp2_with fail
      with_reducible refine (withinc _ _ _ true _ q1).mono ?_
      rintro e w' ⟨rfl, rfl⟩
      go_wp2_with fail
      with_reducible refine (withinc _ _ _ false _ q2).mono ?_
      rintro e w' ⟨rfl, rfl⟩
      go_wp2_with fail
      go_returns
      exact ⟨by rw [HR.out]; rfl, HBZ.out⟩
  · have q1 : decide ((0 : Int) ≤ t.id ∧ t.id ≤ 500) = false := decide_eq_false h1
    have HR : Hid (tgB t = false) := Lib.hid (decide_eq_false (by omega))
    clear h1
    go_wp2_with fail
    with_reducible refine (withinc _ _ _ false _ q1).mono ?_
    rintro e w' ⟨rfl, rfl⟩
    go_wp2_with fail
    go_returns
    exact ⟨by rw [HR.out]; rfl, HBZ.out⟩
theorem aimedc (t : Tg) (r : Bool) (w : World) (h : tgB t = r) : Calls Try.prog 66 #[.agg #[.int .i64 t.id, .int .i64 t.pl]] w fun e w' => e = .returned (.bool r) ∧ Below w.heap.size w w' := by
  subst h
  exact aimed t w
set_option maxRecDepth 100000 in
set_option maxHeartbeats 4000000 in
theorem notaimed (t : Tg) (w : World) : Calls Try.prog 65 #[.agg #[.int .i64 t.id, .int .i64 t.pl]] w fun e w' => e = .returned (.bool (!tgB t)) ∧ Below w.heap.size w w' := by
  go_enter Try.func65, Try.ntmps65
  go_upto_region 1 with fail
  obtain ⟨wz, hwz⟩ : ∃ W, W = w.alloc (.cells #[.int .i64 t.id, .int .i64 t.pl] 105) := ⟨_, rfl⟩
  have HBZ : Hid (Below w.heap.size w wz) := Lib.hid (by rw [hwz]; exact (Below.refl _ _).alloc (Nat.le_refl _) _)
  have c0 : wz.cell? ⟨w.heap.size, 0, none⟩ = some (.int .i64 t.id) := by rw [hwz]; exact cell_of_row _ _ 0 _ 105 (0, 0) (heap_alloc_new _ _)
  have c1 : wz.cell? ⟨w.heap.size, 1, none⟩ = some (.int .i64 t.pl) := by rw [hwz]; exact cell_of_row _ _ 1 _ 105 (0, 0) (heap_alloc_new _ _)
  rw [← hwz]
  clear hwz
  go_wp2_with fail
  with_reducible refine (aimed t _).mono ?_
  rintro e w2 ⟨rfl, hb2⟩
  have HB2 := Lib.hid (below_via HBZ.out hb2)
  clear hb2
  go_wp2_with fail
  go_returns
  exact ⟨rfl, HB2.out⟩
def badtgRel (w : World) (l : List Tg) (i : Value) (wr : World) : Prop := ∃ k : Nat, k ≤ l.length ∧ i = .int .i64 k ∧ (l.take k).any (fun x => !tgB x) = false ∧ Below w.heap.size w wr
set_option maxRecDepth 100000 in
set_option maxHeartbeats 4000000 in
theorem badtgI (v : Value) (l : List Tg) (w : World) (hs : Rw tc 2 w v l) : Calls Try.prog 75 #[v, .func (.func 65) #[] #[]] w fun e w' => (∃ r : Int, e = .returned (.int .i64 r) ∧ decide (r ≥ 0) = l.any (fun x => !tgB x)) ∧ Below w.heap.size w w' := by
  obtain ⟨hm, a0, c0, rfl, hf⟩ := hs.form
  have HF := Lib.hid hf
  have HS := Lib.hid hs
  clear hs hf
  go_enter Try.func75, Try.ntmps75
  go_wp2_with fail
  go_loopw [8] (fun i wr => badtgRel w l i wr) (fun i _ => l.length - (intOf i).toNat)
  case atStart => exact ⟨0, Nat.zero_le _, rfl, rfl, Below.refl _ _⟩
  case round =>
    obtain ⟨k, hk, rfl, hn, hb⟩ := hrel
    have HN := Lib.hid hn
    have hzz := hb.size
    clear hn
    by_cases hlt2 : k < l.length
    · obtain ⟨b, off, rfl, hlt, hc⟩ := HF.out (by omega)
      obtain ⟨x, hx⟩ : ∃ x, l[k]? = some x := ⟨_, List.getElem?_eq_getElem hlt2⟩
      have HX := Lib.hid hx
      have d0 : wr.cell? ⟨b, off + k * 2, none⟩ = some (.int .i64 x.id) := (hb.cell (p := ⟨b, off + k * 2, none⟩) hlt).trans (hc k x HX.out 0 _ rfl)
      have d1 : wr.cell? ⟨b, off + k * 2 + 1, none⟩ = some (.int .i64 x.pl) := (hb.cell (p := ⟨b, off + k * 2 + 1, none⟩) hlt).trans (hc k x HX.out 1 _ rfl)
      have i1 : (0 : Int) ≤ (k : Int) := by omega
      have i2 : (k : Int) < (l.length : Int) := by omega
      have HM := Lib.hid (List.mem_of_getElem? hx)
      have HK := Lib.hid hlt2
      have HBW := Lib.hid hb
      have HC : Hid (Calls Try.prog 65 #[.agg #[.int .i64 x.id, .int .i64 x.pl]] wr fun e w' => e = .returned (.bool (!tgB x)) ∧ Below wr.heap.size wr w') := Lib.hid (notaimed x wr)
      obtain ⟨p, hp⟩ : ∃ p, (!tgB x) = p := ⟨_, rfl⟩
      rw [hp] at HC
      have HP := Lib.hid hp
      clear hc hx hp hb
      cases p
      · go_wp2_with fail
        with_reducible refine HC.out.mono ?_
        rintro e w2 ⟨rfl, hb2⟩
        have HB2 := Lib.hid (below_via HBW.out hb2)
        clear hb2
        go_wp2_with fail
        go_roundw
        case rel => exact ⟨k + 1, by omega, by go_num, by rw [List.take_add_one, HX.out, List.any_append, HN.out]; simp [HP.out], HB2.out⟩
        case measure => simp [intOf]; omega
      · go_wp2_with fail
        with_reducible refine HC.out.mono ?_
        rintro e w2 ⟨rfl, hb2⟩
        have HB2 := Lib.hid (below_via HBW.out hb2)
        clear hb2
        go_wp2_with fail
        go_returns
        exact ⟨⟨k, rfl, by rw [List.any_eq_true.2 ⟨x, HM.out, HP.out⟩]; simp⟩, HB2.out⟩
    · obtain rfl : k = l.length := by omega
      have HBW := Lib.hid hb
      clear hb
      go_wp2_with fail
      go_returns
      exact ⟨⟨-1, rfl, by have := HN.out; rw [List.take_length] at this; rw [this]; rfl⟩, HBW.out⟩
set_option maxRecDepth 100000 in
set_option maxHeartbeats 4000000 in
theorem badtg (v : Value) (l : List Tg) (r : Bool) (w : World) (hs : Rw tc 2 w v l) (hr : l.any (fun x => !tgB x) = r) : Calls Try.prog 64 #[v, .func (.func 65) #[] #[]] w fun e w' => e = .returned (.bool r) ∧ Below w.heap.size w w' := by
  have HI := Lib.hid (badtgI v l w hs)
  rw [hr] at HI
  clear hs hr
  go_enter Try.func64, Try.ntmps64
  go_wp2_with fail
  with_reducible refine HI.out.mono ?_
  rintro e w2 ⟨⟨z, rfl, hz⟩, hb2⟩
  have HZ := Lib.hid hz
  have HB2 := Lib.hid hb2
  clear hz hb2
  go_wp2_with fail
  go_returns
  exact ⟨by rw [← HZ.out]; rfl, HB2.out⟩
end Go.Proofs.Yteoeahmnonolmaa
