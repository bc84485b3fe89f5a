/- Numbers. -/
import Derived.Test.YthibagfmglnejaaRows
import Derived.Test.YthibagfmglnejaaPlain
import Derived.Test.YthibagfmglnejaaAb
import Derived.Test.YthibagfmglnejaaOnl
import Derived.Test.YthibagfmglnejaaReg
import Derived.WalkSpells
import Derived.WalkLawsBesides
import Derived.Laws.Rows
import Derived.IntWalk
import Derived.Laws.CopyOwn
import Derived.Lib.SliceRun
import Derived.Deep.OwnRows
namespace Go.Proofs.Ythibagfmglnejaa
open Go.RowKit Plain
set_option linter.unusedVariables false
set_option linter.unusedSimpArgs false

set_option maxRecDepth 100000 in
set_option maxHeartbeats 2000000 in
theorem next9 (a : Int) (w : World) (ha : U16 a) : Calls Try.prog 9 #[.int .u16 a] w fun e w' => e = .returned (.int .u16 (nxt a)) ∧ w = w' := by
  obtain ⟨a0, a1⟩ := ha
  go_enter Try.func9, Try.ntmps9
  go_wp2
  go_returns
  exact ⟨ret_int (by unfold nxt; first | rfl | (rw [IntKind.wrap_u16])), rfl⟩

set_option maxRecDepth 100000 in
set_option maxHeartbeats 2000000 in
theorem next10 (a : Int) (w : World) (ha : U16 a) : Calls Try.prog 10 #[.int .u16 a] w fun e w' => e = .returned (.int .u16 (nxt a)) ∧ w = w' := by
  obtain ⟨a0, a1⟩ := ha
  by_cases h : a = 65535
  · subst h
    go_enter Try.func10, Try.ntmps10
    go_wp2
    go_returns
    exact ⟨rfl, rfl⟩
  · have h1 : (a == 65535) = false := by simpa using h
    have h2 : a ≤ 65534 := by omega
    go_enter Try.func10, Try.ntmps10
    go_wp2
    go_returns
    exact ⟨ret_int (by unfold nxt; first | omega | (rw [IntKind.wrap_u16])), rfl⟩

set_option maxRecDepth 100000 in
set_option maxHeartbeats 2000000 in
theorem dist11 (a b : Int) (w : World) (ha : U16 a) (hb : U16 b) : Calls Try.prog 11 #[.int .u16 a, .int .u16 b] w fun e w' => e = .returned (.int .i64 (dist a b)) ∧ w = w' := by
  obtain ⟨a0, a1⟩ := ha
  obtain ⟨b0, b1⟩ := hb
  go_enter Try.func11, Try.ntmps11
  go_wp2
  go_returns
  exact ⟨ret_int (by unfold dist; rw [IntKind.wrap_u16]; unfold wrap64; omega), rfl⟩

set_option maxRecDepth 100000 in
set_option maxHeartbeats 2000000 in
theorem dist12 (a b : Int) (w : World) (ha : U16 a) (hb : U16 b) : Calls Try.prog 12 #[.int .u16 a, .int .u16 b] w fun e w' => e = .returned (.int .i64 (dist a b)) ∧ w = w' := by
  obtain ⟨a0, a1⟩ := ha
  obtain ⟨b0, b1⟩ := hb
  by_cases h : a ≤ b
  all_goals
    go_enter Try.func12, Try.ntmps12
    go_wp2
    go_returns
    exact ⟨ret_int (by unfold dist; omega), rfl⟩

theorem dist11c (a b d : Int) (w : World) (ha : U16 a) (hb : U16 b) (hd : dist a b = d) : Calls Try.prog 11 #[.int .u16 a, .int .u16 b] w fun e w' => e = .returned (.int .i64 d) ∧ w = w' := by
  subst hd
  exact dist11 a b w ha hb
theorem dist12c (a b d : Int) (w : World) (ha : U16 a) (hb : U16 b) (hd : dist a b = d) : Calls Try.prog 12 #[.int .u16 a, .int .u16 b] w fun e w' => e = .returned (.int .i64 d) ∧ w = w' := by
  subst hd
  exact dist12 a b w ha hb

set_option maxRecDepth 100000 in
set_option maxHeartbeats 2000000 in
theorem after13 (a b : Int) (w : World) (ha : U16 a) (hb : U16 b) : Calls Try.prog 13 #[.int .u16 a, .int .u16 b] w fun e w' => e = .returned (.bool (aft a b)) ∧ w = w' := by
  obtain ⟨d, hd⟩ : ∃ d, dist b a = d := ⟨_, rfl⟩
  have ⟨d0, d1⟩ := dist_bd b a
  rw [hd] at d0 d1
  by_cases h1 : 1 ≤ d
  · have p1 : 0 < d := by omega
    by_cases h2 : d ≤ 32767
    · have e1 : Hid (aft a b = true) := Lib.hid (by simp [aft, hd]; omega)
      have p2 : d < 32768 := by omega
      have HD := Lib.hid hd
      clear hd
      go_enter Try.func13, Try.ntmps13
      go_wp2_with fail
      with_reducible refine (dist11c b a d _ hb ha HD.out).mono ?_
      rintro e w' ⟨rfl, rfl⟩
      go_wp2_with fail
      go_returns
      exact ⟨ret_bool e1.out.symm, rfl⟩
    · have e1 : Hid (aft a b = false) := Lib.hid (by simp [aft, hd]; omega)
      have p2 : decide (d < 32768) = false := by simp; omega
      have p3 : decide (d ≤ 32767) = false := by simp; omega
      have HD := Lib.hid hd
      clear hd
      go_enter Try.func13, Try.ntmps13
      go_wp2_with fail
      with_reducible refine (dist11c b a d _ hb ha HD.out).mono ?_
      rintro e w' ⟨rfl, rfl⟩
      go_wp2_with fail
      go_returns
      exact ⟨ret_bool e1.out.symm, rfl⟩
  · have e1 : Hid (aft a b = false) := Lib.hid (by simp [aft, hd]; omega)
    have p1 : decide (0 < d) = false := by simp; omega
    have p2 : decide (1 ≤ d) = false := by simpa using h1
    have HD := Lib.hid hd
    clear hd
    go_enter Try.func13, Try.ntmps13
    go_wp2_with fail
    with_reducible refine (dist11c b a d _ hb ha HD.out).mono ?_
    rintro e w' ⟨rfl, rfl⟩
    go_wp2_with fail
    go_returns
    exact ⟨ret_bool e1.out.symm, rfl⟩

theorem after13c (a b : Int) (v : Bool) (w : World) (ha : U16 a) (hb : U16 b) (hv : aft a b = v) : Calls Try.prog 13 #[.int .u16 a, .int .u16 b] w fun e w' => e = .returned (.bool v) ∧ w = w' := by
  subst hv
  exact after13 a b w ha hb

set_option maxRecDepth 100000 in
set_option maxHeartbeats 2000000 in
theorem after14 (a b : Int) (w : World) (ha : U16 a) (hb : U16 b) : Calls Try.prog 14 #[.int .u16 a, .int .u16 b] w fun e w' => e = .returned (.bool (aft a b)) ∧ w = w' := by
  obtain ⟨d, hd⟩ : ∃ d, dist b a = d := ⟨_, rfl⟩
  have ⟨d0, d1⟩ := dist_bd b a
  rw [hd] at d0 d1
  by_cases h1 : 1 ≤ d
  · have p1 : 0 < d := by omega
    by_cases h2 : d ≤ 32767
    · have e1 : Hid (aft a b = true) := Lib.hid (by simp [aft, hd]; omega)
      have p2 : d < 32768 := by omega
      have HD := Lib.hid hd
      clear hd
      go_enter Try.func14, Try.ntmps14
      go_wp2_with fail
      with_reducible refine (dist12c b a d _ hb ha HD.out).mono ?_
      rintro e w' ⟨rfl, rfl⟩
      go_wp2_with fail
      with_reducible refine (dist12c b a d _ hb ha HD.out).mono ?_
      rintro e w' ⟨rfl, rfl⟩
      go_wp2_with fail
      go_returns
      exact ⟨ret_bool e1.out.symm, rfl⟩
    · have e1 : Hid (aft a b = false) := Lib.hid (by simp [aft, hd]; omega)
      have p2 : decide (d < 32768) = false := by simp; omega
      have p3 : decide (d ≤ 32767) = false := by simp; omega
      have HD := Lib.hid hd
      clear hd
      go_enter Try.func14, Try.ntmps14
      go_wp2_with fail
      with_reducible refine (dist12c b a d _ hb ha HD.out).mono ?_
      rintro e w' ⟨rfl, rfl⟩
      go_wp2_with fail
      with_reducible refine (dist12c b a d _ hb ha HD.out).mono ?_
      rintro e w' ⟨rfl, rfl⟩
      go_wp2_with fail
      go_returns
      exact ⟨ret_bool e1.out.symm, rfl⟩
  · have e1 : Hid (aft a b = false) := Lib.hid (by simp [aft, hd]; omega)
    have p1 : decide (0 < d) = false := by simp; omega
    have p2 : decide (1 ≤ d) = false := by simpa using h1
    have HD := Lib.hid hd
    clear hd
    go_enter Try.func14, Try.ntmps14
    go_wp2_with fail
    with_reducible refine (dist12c b a d _ hb ha HD.out).mono ?_
    rintro e w' ⟨rfl, rfl⟩
    go_wp2_with fail
    go_returns
    exact ⟨ret_bool e1.out.symm, rfl⟩

theorem after14c (a b : Int) (v : Bool) (w : World) (ha : U16 a) (hb : U16 b) (hv : aft a b = v) : Calls Try.prog 14 #[.int .u16 a, .int .u16 b] w fun e w' => e = .returned (.bool v) ∧ w = w' := by
  subst hv
  exact after14 a b w ha hb

end Go.Proofs.Ythibagfmglnejaa
