/- The plain law and the walk of SatHolds. -/
import Derived.Test.YtenpjhpdanhmaaaKnown
import Derived.Deep.DeepCutAuto
namespace Go.Proofs.Ytenpjhpdanhmaaa
open Go.RowKit Plain
set_option linter.unusedVariables false
set_option linter.unusedSimpArgs false

theorem cl_top (n : Int) (m : Int) : 0 ≤ cl n m ∧ cl n m ≤ max 0 m := by unfold cl; omega
theorem sums_top {m : Int} (a b : Int) : 0 ≤ sums m [a, b] ∧ sums m [a, b] ≤ max 0 m := by
  simp only [sums, List.foldl_cons, List.foldl_nil]
  exact cl_top _ m
theorem dr_nonneg (a b m : Int) : 0 ≤ dr a b m := by unfold dr; omega
theorem I_dr (a b m : Int) : I (dr a b m) := by unfold dr I; omega
theorem add_drop {a b m : Int} (h0 : 0 ≤ a + b) (h1 : a + b ≤ 9223372036854775807) : cl (a + b) m + dr a b m = a + b := by unfold cl dr; omega
theorem neg_drop {a b m : Int} (h0 : a + b < 0) : cl (a + b) m = 0 ∧ dr a b m = 0 := by unfold cl dr; omega
theorem back_drop {a b m : Int} (ha : 0 ≤ a) (hb : 0 ≤ b) (h1 : a + b ≤ 9223372036854775807) (hd : dr a b m = 0) : cl (cl (a + b) m - b) m = a := by unfold cl dr at *; omega
theorem dr_comm (a b m : Int) : dr b a m = dr a b m := by unfold dr; omega

set_option maxRecDepth 100000 in
set_option maxHeartbeats 8000000 in
theorem holds8 (a b m : Int) (w : World) (ha : I a) (hb : I b) (hm : I m) :
    Calls Try.prog 8 #[.int .i64 a, .int .i64 b, .int .i64 m] w fun e w' => e = .returned (.bool true) ∧ Below w.heap.size w w' := by
  have ⟨a0, a1⟩ := id ha
  have ⟨b0, b1⟩ := id hb
  have ⟨m0, m1⟩ := id hm
  obtain ⟨X, eX⟩ : ∃ X, cl (a + b) m = X := ⟨_, rfl⟩
  obtain ⟨Y, eY⟩ : ∃ Y, cl (a - b) m = Y := ⟨_, rfl⟩
  obtain ⟨Z, eZ⟩ : ∃ Z, cl (a * b) m = Z := ⟨_, rfl⟩
  obtain ⟨C, eC⟩ : ∃ C, cl a m = C := ⟨_, rfl⟩
  obtain ⟨S, eS⟩ : ∃ S, sums m [a, b] = S := ⟨_, rfl⟩
  obtain ⟨D, eD⟩ : ∃ D, dr a b m = D := ⟨_, rfl⟩
  have tX := cl_top (a + b) m
  have tY := cl_top (a - b) m
  have tZ := cl_top (a * b) m
  have tC := cl_top a m
  have tS := sums_top (m := m) a b
  have tD := dr_nonneg a b m
  have iD := I_dr a b m
  rw [eX] at tX
  rw [eY] at tY
  rw [eZ] at tZ
  rw [eC] at tC
  rw [eS] at tS
  rw [eD] at tD iD
  have EX := Lib.hid eX
  have EY := Lib.hid eY
  have EZ := Lib.hid eZ
  have EC := Lib.hid eC
  have ES := Lib.hid eS
  have ED := Lib.hid eD
  have EX2 : Hid (cl (b + a) m = X) := Lib.hid (by rw [Int.add_comm]; exact eX)
  have EZ2 : Hid (cl (b * a) m = Z) := Lib.hid (by rw [Int.mul_comm]; exact eZ)
  have ED2 : Hid (dr b a m = D) := Lib.hid (by rw [dr_comm]; exact eD)
  clear eX eY eZ eC eS eD
  by_cases hp : 0 < m
  · have t1 : X ≤ m := by omega
    have t2 : Y ≤ m := by omega
    have t3 : Z ≤ m := by omega
    have t4 : C ≤ m := by omega
    have t5 : S ≤ m := by omega
    obtain ⟨tX0, _⟩ := tX
    obtain ⟨tY0, _⟩ := tY
    obtain ⟨tZ0, _⟩ := tZ
    obtain ⟨tC0, _⟩ := tC
    obtain ⟨tS0, _⟩ := tS
    go_enter Try.func8, Try.ntmps8
    go_wp2_with fail
    with_reducible refine (add11c _ _ _ _ _ ha hb hm EX.out).mono ?_
    rintro e w' ⟨rfl, rfl⟩
    go_wp2_with fail
    with_reducible refine (sub14c _ _ _ _ _ ha hb hm EY.out).mono ?_
    rintro e w' ⟨rfl, rfl⟩
    go_wp2_with fail
    with_reducible refine (times16c _ _ _ _ _ ha hb hm EZ.out).mono ?_
    rintro e w' ⟨rfl, rfl⟩
    go_wp2_with fail
    with_reducible refine (clamp9c _ _ _ _ EC.out).mono ?_
    rintro e w' ⟨rfl, rfl⟩
    go_wp2_with fail
    with_reducible refine (sum20c _ [a, b] _ _ _ (by simpa using seg_new w .i64 3 [a, b] 2 (by simp) (by simp [maxLen])) (by intro z hz; simp at hz; rcases hz with rfl | rfl <;> assumption) hm ES.out).mono ?_
    rintro e w' ⟨rfl, rfl⟩
    go_wp2_with fail
    refine wp_loop_rounds 6 ?_
    rw [rounds_succ]
    go_wp2_with fail
    rw [rounds_succ]
    go_wp2_with fail
    rw [rounds_succ]
    go_wp2_with fail
    rw [rounds_succ]
    go_wp2_with fail
    rw [rounds_succ]
    go_wp2_with fail
    rw [rounds_succ]
    go_wp2_with fail
    with_reducible refine (add11c _ _ _ _ _ hb ha hm EX2.out).mono ?_
    rintro e w' ⟨rfl, rfl⟩
    go_wp2_with fail
    with_reducible refine (times16c _ _ _ _ _ hb ha hm EZ2.out).mono ?_
    rintro e w' ⟨rfl, rfl⟩
    go_wp2_with fail
    with_reducible refine (dropped18c _ _ _ _ _ hb ha hm ED2.out).mono ?_
    rintro e w' ⟨rfl, rfl⟩
    go_wp2_with fail
    with_reducible refine (dropped18c _ _ _ _ _ ha hb hm ED.out).mono ?_
    rintro e w' ⟨rfl, rfl⟩
    go_upto_region 12 with fail
    go_cut [103] (fun s0 wx => ∃ t : Bool, s0 = .bool t ∧ (t = true → -1152921504606846976 < a ∧ a < 1152921504606846976 ∧ -1152921504606846976 < b ∧ b < 1152921504606846976 ∧ m < 1152921504606846976) ∧ Below w.heap.size w wx)
    case first =>
      by_cases q0 : -1152921504606846976 < a
      · have p0 : decide (-1152921504606846976 < a) = true := by simpa using q0
        by_cases q1 : a < 1152921504606846976
        · have p1 : decide (a < 1152921504606846976) = true := by simpa using q1
          by_cases q2 : -1152921504606846976 < b
          · have p2 : decide (-1152921504606846976 < b) = true := by simpa using q2
            by_cases q3 : b < 1152921504606846976
            · have p3 : decide (b < 1152921504606846976) = true := by simpa using q3
              by_cases q4 : m < 1152921504606846976
              · have p4 : decide (m < 1152921504606846976) = true := by simpa using q4
                go_wp2_with fail
                go_meet
                case rel => exact ⟨true, rfl, fun _ => ⟨by assumption, by assumption, by assumption, by assumption, by assumption⟩, by go_grown⟩
              · have p4 : decide (m < 1152921504606846976) = false := by simpa using q4
                go_wp2_with fail
                go_meet
                case rel => exact ⟨false, rfl, fun h => by simp at h, by go_grown⟩
            · have p3 : decide (b < 1152921504606846976) = false := by simpa using q3
              go_wp2_with fail
              go_meet
              case rel => exact ⟨false, rfl, fun h => by simp at h, by go_grown⟩
          · have p2 : decide (-1152921504606846976 < b) = false := by simpa using q2
            go_wp2_with fail
            go_meet
            case rel => exact ⟨false, rfl, fun h => by simp at h, by go_grown⟩
        · have p1 : decide (a < 1152921504606846976) = false := by simpa using q1
          go_wp2_with fail
          go_meet
          case rel => exact ⟨false, rfl, fun h => by simp at h, by go_grown⟩
      · have p0 : decide (-1152921504606846976 < a) = false := by simpa using q0
        go_wp2_with fail
        go_meet
        case rel => exact ⟨false, rfl, fun h => by simp at h, by go_grown⟩
    case rest =>
      obtain ⟨t, rfl, hsm, hbw⟩ := hcut
      cases t
      · clear hsm
        go_wp2_with fail
        with_reducible refine (known13 _).mono ?_
        rintro e w2 ⟨rfl, hb2⟩
        have hb3 := below_via hbw hb2
        go_wp2_with fail
        go_returns
        exact ⟨rfl, hb3⟩
      · obtain ⟨s1, s2, s3, s4, s5⟩ := hsm rfl
        have iX : I X := by unfold I; omega
        clear hsm
        by_cases hs : 0 ≤ a + b
        · have xd : X + D = a + b := by rw [← EX.out, ← ED.out]; exact add_drop hs (by omega)
          have xd1 : (X + D != a + b) = false := by simp [xd]
          have x1 : X ≤ a + b := by omega
          have x2 : D ≤ a + b := by omega
          clear xd
          by_cases za : 0 ≤ a
          · by_cases zb : 0 ≤ b
            · by_cases zd : D = 0
              · have z1 : (D == 0) = true := by simpa using zd
                have EB : Hid (cl (X - b) m = a) := Lib.hid (by rw [← EX.out]; exact back_drop za zb (by omega) (by rw [ED.out]; exact zd))
                have ZD := Lib.hid zd
                clear zd
                go_wp2_with fail
                with_reducible refine (dropped18c _ _ _ _ _ ha hb hm ED.out).mono ?_
                rintro e w' ⟨rfl, rfl⟩
                go_wp2_with fail
                with_reducible refine (sub14c _ _ _ _ _ iX hb hm EB.out).mono ?_
                rintro e w' ⟨rfl, rfl⟩
                go_wp2_with fail
                with_reducible refine (known13 _).mono ?_
                rintro e w2 ⟨rfl, hb2⟩
                have hb3 := below_via hbw hb2
                go_wp2_with fail
                go_returns
                exact ⟨rfl, hb3⟩
              · have z1 : (D == 0) = false := by simpa using zd
                go_wp2_with fail
                with_reducible refine (dropped18c _ _ _ _ _ ha hb hm ED.out).mono ?_
                rintro e w' ⟨rfl, rfl⟩
                go_wp2_with fail
                with_reducible refine (known13 _).mono ?_
                rintro e w2 ⟨rfl, hb2⟩
                have hb3 := below_via hbw hb2
                go_wp2_with fail
                go_returns
                exact ⟨rfl, hb3⟩
            ·
              go_wp2_with fail
              with_reducible refine (dropped18c _ _ _ _ _ ha hb hm ED.out).mono ?_
              rintro e w' ⟨rfl, rfl⟩
              go_wp2_with fail
              with_reducible refine (known13 _).mono ?_
              rintro e w2 ⟨rfl, hb2⟩
              have hb3 := below_via hbw hb2
              go_wp2_with fail
              go_returns
              exact ⟨rfl, hb3⟩
          ·
            go_wp2_with fail
            with_reducible refine (dropped18c _ _ _ _ _ ha hb hm ED.out).mono ?_
            rintro e w' ⟨rfl, rfl⟩
            go_wp2_with fail
            with_reducible refine (known13 _).mono ?_
            rintro e w2 ⟨rfl, hb2⟩
            have hb3 := below_via hbw hb2
            go_wp2_with fail
            go_returns
            exact ⟨rfl, hb3⟩
        · have xx := neg_drop (a := a) (b := b) (m := m) (by omega)
          rw [EX.out, ED.out] at xx
          have x1 : (X != 0) = false := by simp [xx.1]
          have x2 : (D != 0) = false := by simp [xx.2]
          have x3 : (D == 0) = true := by simp [xx.2]
          clear xx
          by_cases za : 0 ≤ a
          · have zb : b < 0 := by omega
            go_wp2_with fail
            with_reducible refine (dropped18c _ _ _ _ _ ha hb hm ED.out).mono ?_
            rintro e w' ⟨rfl, rfl⟩
            go_wp2_with fail
            with_reducible refine (known13 _).mono ?_
            rintro e w2 ⟨rfl, hb2⟩
            have hb3 := below_via hbw hb2
            go_wp2_with fail
            go_returns
            exact ⟨rfl, hb3⟩
          ·
            go_wp2_with fail
            with_reducible refine (dropped18c _ _ _ _ _ ha hb hm ED.out).mono ?_
            rintro e w' ⟨rfl, rfl⟩
            go_wp2_with fail
            with_reducible refine (known13 _).mono ?_
            rintro e w2 ⟨rfl, hb2⟩
            have hb3 := below_via hbw hb2
            go_wp2_with fail
            go_returns
            exact ⟨rfl, hb3⟩
  · have t1 : X ≤ 0 := by omega
    have t2 : Y ≤ 0 := by omega
    have t3 : Z ≤ 0 := by omega
    have t4 : C ≤ 0 := by omega
    have t5 : S ≤ 0 := by omega
    obtain ⟨tX0, _⟩ := tX
    obtain ⟨tY0, _⟩ := tY
    obtain ⟨tZ0, _⟩ := tZ
    obtain ⟨tC0, _⟩ := tC
    obtain ⟨tS0, _⟩ := tS
    go_enter Try.func8, Try.ntmps8
    go_wp2_with fail
    with_reducible refine (add11c _ _ _ _ _ ha hb hm EX.out).mono ?_
    rintro e w' ⟨rfl, rfl⟩
    go_wp2_with fail
    with_reducible refine (sub14c _ _ _ _ _ ha hb hm EY.out).mono ?_
    rintro e w' ⟨rfl, rfl⟩
    go_wp2_with fail
    with_reducible refine (times16c _ _ _ _ _ ha hb hm EZ.out).mono ?_
    rintro e w' ⟨rfl, rfl⟩
    go_wp2_with fail
    with_reducible refine (clamp9c _ _ _ _ EC.out).mono ?_
    rintro e w' ⟨rfl, rfl⟩
    go_wp2_with fail
    with_reducible refine (sum20c _ [a, b] _ _ _ (by simpa using seg_new w .i64 3 [a, b] 2 (by simp) (by simp [maxLen])) (by intro z hz; simp at hz; rcases hz with rfl | rfl <;> assumption) hm ES.out).mono ?_
    rintro e w' ⟨rfl, rfl⟩
    go_wp2_with fail
    refine wp_loop_rounds 6 ?_
    rw [rounds_succ]
    go_wp2_with fail
    rw [rounds_succ]
    go_wp2_with fail
    rw [rounds_succ]
    go_wp2_with fail
    rw [rounds_succ]
    go_wp2_with fail
    rw [rounds_succ]
    go_wp2_with fail
    rw [rounds_succ]
    go_wp2_with fail
    with_reducible refine (add11c _ _ _ _ _ hb ha hm EX2.out).mono ?_
    rintro e w' ⟨rfl, rfl⟩
    go_wp2_with fail
    with_reducible refine (times16c _ _ _ _ _ hb ha hm EZ2.out).mono ?_
    rintro e w' ⟨rfl, rfl⟩
    go_wp2_with fail
    with_reducible refine (dropped18c _ _ _ _ _ hb ha hm ED2.out).mono ?_
    rintro e w' ⟨rfl, rfl⟩
    go_wp2_with fail
    with_reducible refine (dropped18c _ _ _ _ _ ha hb hm ED.out).mono ?_
    rintro e w' ⟨rfl, rfl⟩
    go_upto_region 12 with fail
    go_cut [103] (fun s0 wx => ∃ t : Bool, s0 = .bool t ∧ (t = true → -1152921504606846976 < a ∧ a < 1152921504606846976 ∧ -1152921504606846976 < b ∧ b < 1152921504606846976 ∧ m < 1152921504606846976) ∧ Below w.heap.size w wx)
    case first =>
      by_cases q0 : -1152921504606846976 < a
      · have p0 : decide (-1152921504606846976 < a) = true := by simpa using q0
        by_cases q1 : a < 1152921504606846976
        · have p1 : decide (a < 1152921504606846976) = true := by simpa using q1
          by_cases q2 : -1152921504606846976 < b
          · have p2 : decide (-1152921504606846976 < b) = true := by simpa using q2
            by_cases q3 : b < 1152921504606846976
            · have p3 : decide (b < 1152921504606846976) = true := by simpa using q3
              by_cases q4 : m < 1152921504606846976
              · have p4 : decide (m < 1152921504606846976) = true := by simpa using q4
                go_wp2_with fail
                go_meet
                case rel => exact ⟨true, rfl, fun _ => ⟨by assumption, by assumption, by assumption, by assumption, by assumption⟩, by go_grown⟩
              · have p4 : decide (m < 1152921504606846976) = false := by simpa using q4
                go_wp2_with fail
                go_meet
                case rel => exact ⟨false, rfl, fun h => by simp at h, by go_grown⟩
            · have p3 : decide (b < 1152921504606846976) = false := by simpa using q3
              go_wp2_with fail
              go_meet
              case rel => exact ⟨false, rfl, fun h => by simp at h, by go_grown⟩
          · have p2 : decide (-1152921504606846976 < b) = false := by simpa using q2
            go_wp2_with fail
            go_meet
            case rel => exact ⟨false, rfl, fun h => by simp at h, by go_grown⟩
        · have p1 : decide (a < 1152921504606846976) = false := by simpa using q1
          go_wp2_with fail
          go_meet
          case rel => exact ⟨false, rfl, fun h => by simp at h, by go_grown⟩
      · have p0 : decide (-1152921504606846976 < a) = false := by simpa using q0
        go_wp2_with fail
        go_meet
        case rel => exact ⟨false, rfl, fun h => by simp at h, by go_grown⟩
    case rest =>
      obtain ⟨t, rfl, hsm, hbw⟩ := hcut
      cases t
      · clear hsm
        go_wp2_with fail
        with_reducible refine (known13 _).mono ?_
        rintro e w2 ⟨rfl, hb2⟩
        have hb3 := below_via hbw hb2
        go_wp2_with fail
        go_returns
        exact ⟨rfl, hb3⟩
      · obtain ⟨s1, s2, s3, s4, s5⟩ := hsm rfl
        have iX : I X := by unfold I; omega
        clear hsm
        by_cases hs : 0 ≤ a + b
        · have xd : X + D = a + b := by rw [← EX.out, ← ED.out]; exact add_drop hs (by omega)
          have xd1 : (X + D != a + b) = false := by simp [xd]
          have x1 : X ≤ a + b := by omega
          have x2 : D ≤ a + b := by omega
          clear xd
          by_cases za : 0 ≤ a
          · by_cases zb : 0 ≤ b
            · by_cases zd : D = 0
              · have z1 : (D == 0) = true := by simpa using zd
                have EB : Hid (cl (X - b) m = a) := Lib.hid (by rw [← EX.out]; exact back_drop za zb (by omega) (by rw [ED.out]; exact zd))
                have ZD := Lib.hid zd
                clear zd
                go_wp2_with fail
                with_reducible refine (dropped18c _ _ _ _ _ ha hb hm ED.out).mono ?_
                rintro e w' ⟨rfl, rfl⟩
                go_wp2_with fail
                with_reducible refine (sub14c _ _ _ _ _ iX hb hm EB.out).mono ?_
                rintro e w' ⟨rfl, rfl⟩
                go_wp2_with fail
                with_reducible refine (known13 _).mono ?_
                rintro e w2 ⟨rfl, hb2⟩
                have hb3 := below_via hbw hb2
                go_wp2_with fail
                go_returns
                exact ⟨rfl, hb3⟩
              · have z1 : (D == 0) = false := by simpa using zd
                go_wp2_with fail
                with_reducible refine (dropped18c _ _ _ _ _ ha hb hm ED.out).mono ?_
                rintro e w' ⟨rfl, rfl⟩
                go_wp2_with fail
                with_reducible refine (known13 _).mono ?_
                rintro e w2 ⟨rfl, hb2⟩
                have hb3 := below_via hbw hb2
                go_wp2_with fail
                go_returns
                exact ⟨rfl, hb3⟩
            ·
              go_wp2_with fail
              with_reducible refine (dropped18c _ _ _ _ _ ha hb hm ED.out).mono ?_
              rintro e w' ⟨rfl, rfl⟩
              go_wp2_with fail
              with_reducible refine (known13 _).mono ?_
              rintro e w2 ⟨rfl, hb2⟩
              have hb3 := below_via hbw hb2
              go_wp2_with fail
              go_returns
              exact ⟨rfl, hb3⟩
          ·
            go_wp2_with fail
            with_reducible refine (dropped18c _ _ _ _ _ ha hb hm ED.out).mono ?_
            rintro e w' ⟨rfl, rfl⟩
            go_wp2_with fail
            with_reducible refine (known13 _).mono ?_
            rintro e w2 ⟨rfl, hb2⟩
            have hb3 := below_via hbw hb2
            go_wp2_with fail
            go_returns
            exact ⟨rfl, hb3⟩
        · have xx := neg_drop (a := a) (b := b) (m := m) (by omega)
          rw [EX.out, ED.out] at xx
          have x1 : (X != 0) = false := by simp [xx.1]
          have x2 : (D != 0) = false := by simp [xx.2]
          have x3 : (D == 0) = true := by simp [xx.2]
          clear xx
          by_cases za : 0 ≤ a
          · have zb : b < 0 := by omega
            go_wp2_with fail
            with_reducible refine (dropped18c _ _ _ _ _ ha hb hm ED.out).mono ?_
            rintro e w' ⟨rfl, rfl⟩
            go_wp2_with fail
            with_reducible refine (known13 _).mono ?_
            rintro e w2 ⟨rfl, hb2⟩
            have hb3 := below_via hbw hb2
            go_wp2_with fail
            go_returns
            exact ⟨rfl, hb3⟩
          ·
            go_wp2_with fail
            with_reducible refine (dropped18c _ _ _ _ _ ha hb hm ED.out).mono ?_
            rintro e w' ⟨rfl, rfl⟩
            go_wp2_with fail
            with_reducible refine (known13 _).mono ?_
            rintro e w2 ⟨rfl, hb2⟩
            have hb3 := below_via hbw hb2
            go_wp2_with fail
            go_returns
            exact ⟨rfl, hb3⟩
end Go.Proofs.Ytenpjhpdanhmaaa
