/- More of a book: who has lost; new books; copies. -/
import Derived.Test.YtobkgdhniibopaaWr
namespace Go.Proofs.Ytobkgdhniibopaa
open Go.RowKit Plain
set_option linter.unusedVariables false
set_option linter.unusedSimpArgs false

theorem due19_0c (P : Nat) (b : Bk) (d : Int) (w : World) (hb : BookAt w P b) (h1 : 1 ≤ b.n) (ht : U b.t0) (hg : U b.g) (hd : b.d0 = d) :
    Calls Try.prog 19 #[.pointer (some ⟨P, 0, none⟩), .int .i64 0] w fun e w' => e = .returned (.int .u64 d) ∧ Below w.heap.size w w' := by
  subst hd
  exact due19_0 P b w hb h1 ht hg

theorem due19_1c (P : Nat) (b : Bk) (d : Int) (w : World) (hb : BookAt w P b) (h1 : 1 ≤ b.n) (ht : U b.t1) (hg : U b.g) (hd : b.d1 = d) :
    Calls Try.prog 19 #[.pointer (some ⟨P, 0, none⟩), .int .i64 1] w fun e w' => e = .returned (.int .u64 d) ∧ Below w.heap.size w w' := by
  subst hd
  exact due19_1 P b w hb h1 ht hg

set_option maxRecDepth 100000 in
set_option maxHeartbeats 2000000 in
theorem lost15 (P : Nat) (b : Bk) (t : Int) (w : World) (hb : BookAt w P b) (ok : b.Ok) :
    Calls Try.prog 15 #[.pointer (some ⟨P, 0, none⟩), .int .u64 t] w fun e w' => e = .returned (.int .i64 (lost b.d0 b.d1 t)) ∧ Below w.heap.size w w' := by
  have h1 := ok.n1
  have ht0 := ok.t0
  have ht1 := ok.t1
  have hg : U b.g := by have := ok.g1; have := ok.g2; unfold U; omega
  have HB := Lib.hid hb
  have hlt := hb.lt
  clear hb ok
  obtain ⟨d0, hd0⟩ : ∃ d, b.d0 = d := ⟨_, rfl⟩
  obtain ⟨d1, hd1⟩ : ∃ d, b.d1 = d := ⟨_, rfl⟩
  rw [hd0, hd1]
  have D0 := Lib.hid hd0
  have D1 := Lib.hid hd1
  clear hd0 hd1
  rcases Int.lt_trichotomy d0 d1 with h | h | h
  · have le : d0 ≤ d1 := by omega
    have q1 : (d0 == d1) = false := by simp; omega
    have q2 : decide (d0 < d1) = true := by simpa using h
    cases hv : over d0 t
    · have e1 : Hid (lost d0 d1 t = -1) := Lib.hid (by rw [lost, Int.min_eq_left (by omega), hv]; simp)
      have HV := Lib.hid hv
      clear hv
      go_enter Try.func15, Try.ntmps15
      go_wp2_with fail
      with_reducible refine (due19_0c P b _ _ HB.out h1 ht0 hg D0.out).mono ?_
      rintro e w1 ⟨rfl, hb_w1⟩
      have K_w1 : Kept w.heap.size w (w.heap.size) [] w1 := Kept.of hb_w1 (by go_grown) (by go_size) (by omega) (by simp [go_sem] <;> omega)
      replace HB := Lib.hid (HB.out.below hb_w1)
      clear hb_w1
      have KH_w1 := Lib.hid K_w1
      have hw_w1 := K_w1.below
      have hz_w1 := K_w1.size
      clear K_w1
      go_wp2_with fail
      with_reducible refine (due19_1c P b _ _ HB.out h1 ht1 hg D1.out).mono ?_
      rintro e w2 ⟨rfl, hb_w2⟩
      have K_w2 : Kept w.heap.size w (w.heap.size) [] w2 := (KH_w1.out.step (by omega) (by go_grown)).step (by omega) hb_w2
      replace HB := Lib.hid (HB.out.below hb_w2)
      clear hb_w2
      have KH_w2 := Lib.hid K_w2
      have hw_w2 := K_w2.below
      have hz_w2 := K_w2.size
      clear K_w2
      go_wp2_with fail
      with_reducible refine (due30c d0 t _ _ HV.out).mono ?_
      rintro e w' ⟨rfl, rfl⟩
      go_wp2_with fail
      go_returns
      exact ⟨ret_int e1.out.symm, by go_grown⟩
    · have e1 : Hid (lost d0 d1 t = 0) := Lib.hid (by rw [lost, Int.min_eq_left (by omega), hv]; simp; omega)
      have HV := Lib.hid hv
      clear hv
      go_enter Try.func15, Try.ntmps15
      go_wp2_with fail
      with_reducible refine (due19_0c P b _ _ HB.out h1 ht0 hg D0.out).mono ?_
      rintro e w1 ⟨rfl, hb_w1⟩
      have K_w1 : Kept w.heap.size w (w.heap.size) [] w1 := Kept.of hb_w1 (by go_grown) (by go_size) (by omega) (by simp [go_sem] <;> omega)
      replace HB := Lib.hid (HB.out.below hb_w1)
      clear hb_w1
      have KH_w1 := Lib.hid K_w1
      have hw_w1 := K_w1.below
      have hz_w1 := K_w1.size
      clear K_w1
      go_wp2_with fail
      with_reducible refine (due19_1c P b _ _ HB.out h1 ht1 hg D1.out).mono ?_
      rintro e w2 ⟨rfl, hb_w2⟩
      have K_w2 : Kept w.heap.size w (w.heap.size) [] w2 := (KH_w1.out.step (by omega) (by go_grown)).step (by omega) hb_w2
      replace HB := Lib.hid (HB.out.below hb_w2)
      clear hb_w2
      have KH_w2 := Lib.hid K_w2
      have hw_w2 := K_w2.below
      have hz_w2 := K_w2.size
      clear K_w2
      go_wp2_with fail
      with_reducible refine (due30c d0 t _ _ HV.out).mono ?_
      rintro e w' ⟨rfl, rfl⟩
      go_wp2_with fail
      go_returns
      exact ⟨ret_int e1.out.symm, by go_grown⟩
  · subst h
    cases hv : over d0 t
    · have e1 : Hid (lost d0 d0 t = -1) := Lib.hid (by rw [lost, Int.min_self _, hv]; simp)
      have HV := Lib.hid hv
      clear hv
      go_enter Try.func15, Try.ntmps15
      go_wp2_with fail
      with_reducible refine (due19_0c P b _ _ HB.out h1 ht0 hg D0.out).mono ?_
      rintro e w1 ⟨rfl, hb_w1⟩
      have K_w1 : Kept w.heap.size w (w.heap.size) [] w1 := Kept.of hb_w1 (by go_grown) (by go_size) (by omega) (by simp [go_sem] <;> omega)
      replace HB := Lib.hid (HB.out.below hb_w1)
      clear hb_w1
      have KH_w1 := Lib.hid K_w1
      have hw_w1 := K_w1.below
      have hz_w1 := K_w1.size
      clear K_w1
      go_wp2_with fail
      with_reducible refine (due19_1c P b _ _ HB.out h1 ht1 hg D1.out).mono ?_
      rintro e w2 ⟨rfl, hb_w2⟩
      have K_w2 : Kept w.heap.size w (w.heap.size) [] w2 := (KH_w1.out.step (by omega) (by go_grown)).step (by omega) hb_w2
      replace HB := Lib.hid (HB.out.below hb_w2)
      clear hb_w2
      have KH_w2 := Lib.hid K_w2
      have hw_w2 := K_w2.below
      have hz_w2 := K_w2.size
      clear K_w2
      go_wp2_with fail
      with_reducible refine (due30c d0 t _ _ HV.out).mono ?_
      rintro e w' ⟨rfl, rfl⟩
      go_wp2_with fail
      go_returns
      exact ⟨ret_int e1.out.symm, by go_grown⟩
    · have e1 : Hid (lost d0 d0 t = 2) := Lib.hid (by rw [lost, Int.min_self _, hv]; simp)
      have HV := Lib.hid hv
      clear hv
      go_enter Try.func15, Try.ntmps15
      go_wp2_with fail
      with_reducible refine (due19_0c P b _ _ HB.out h1 ht0 hg D0.out).mono ?_
      rintro e w1 ⟨rfl, hb_w1⟩
      have K_w1 : Kept w.heap.size w (w.heap.size) [] w1 := Kept.of hb_w1 (by go_grown) (by go_size) (by omega) (by simp [go_sem] <;> omega)
      replace HB := Lib.hid (HB.out.below hb_w1)
      clear hb_w1
      have KH_w1 := Lib.hid K_w1
      have hw_w1 := K_w1.below
      have hz_w1 := K_w1.size
      clear K_w1
      go_wp2_with fail
      with_reducible refine (due19_1c P b _ _ HB.out h1 ht1 hg D1.out).mono ?_
      rintro e w2 ⟨rfl, hb_w2⟩
      have K_w2 : Kept w.heap.size w (w.heap.size) [] w2 := (KH_w1.out.step (by omega) (by go_grown)).step (by omega) hb_w2
      replace HB := Lib.hid (HB.out.below hb_w2)
      clear hb_w2
      have KH_w2 := Lib.hid K_w2
      have hw_w2 := K_w2.below
      have hz_w2 := K_w2.size
      clear K_w2
      go_wp2_with fail
      with_reducible refine (due30c d0 t _ _ HV.out).mono ?_
      rintro e w' ⟨rfl, rfl⟩
      go_wp2_with fail
      go_returns
      exact ⟨ret_int e1.out.symm, by go_grown⟩
  · have le : ¬ d0 ≤ d1 := by omega
    have q1 : (d0 == d1) = false := by simp; omega
    have q2 : decide (d0 < d1) = false := by simp; omega
    cases hv : over d1 t
    · have e1 : Hid (lost d0 d1 t = -1) := Lib.hid (by rw [lost, Int.min_eq_right (by omega), hv]; simp)
      have HV := Lib.hid hv
      clear hv
      go_enter Try.func15, Try.ntmps15
      go_wp2_with fail
      with_reducible refine (due19_0c P b _ _ HB.out h1 ht0 hg D0.out).mono ?_
      rintro e w1 ⟨rfl, hb_w1⟩
      have K_w1 : Kept w.heap.size w (w.heap.size) [] w1 := Kept.of hb_w1 (by go_grown) (by go_size) (by omega) (by simp [go_sem] <;> omega)
      replace HB := Lib.hid (HB.out.below hb_w1)
      clear hb_w1
      have KH_w1 := Lib.hid K_w1
      have hw_w1 := K_w1.below
      have hz_w1 := K_w1.size
      clear K_w1
      go_wp2_with fail
      with_reducible refine (due19_1c P b _ _ HB.out h1 ht1 hg D1.out).mono ?_
      rintro e w2 ⟨rfl, hb_w2⟩
      have K_w2 : Kept w.heap.size w (w.heap.size) [] w2 := (KH_w1.out.step (by omega) (by go_grown)).step (by omega) hb_w2
      replace HB := Lib.hid (HB.out.below hb_w2)
      clear hb_w2
      have KH_w2 := Lib.hid K_w2
      have hw_w2 := K_w2.below
      have hz_w2 := K_w2.size
      clear K_w2
      go_wp2_with fail
      with_reducible refine (due30c d1 t _ _ HV.out).mono ?_
      rintro e w' ⟨rfl, rfl⟩
      go_wp2_with fail
      go_returns
      exact ⟨ret_int e1.out.symm, by go_grown⟩
    · have e1 : Hid (lost d0 d1 t = 1) := Lib.hid (by rw [lost, Int.min_eq_right (by omega), hv]; simp; omega)
      have HV := Lib.hid hv
      clear hv
      go_enter Try.func15, Try.ntmps15
      go_wp2_with fail
      with_reducible refine (due19_0c P b _ _ HB.out h1 ht0 hg D0.out).mono ?_
      rintro e w1 ⟨rfl, hb_w1⟩
      have K_w1 : Kept w.heap.size w (w.heap.size) [] w1 := Kept.of hb_w1 (by go_grown) (by go_size) (by omega) (by simp [go_sem] <;> omega)
      replace HB := Lib.hid (HB.out.below hb_w1)
      clear hb_w1
      have KH_w1 := Lib.hid K_w1
      have hw_w1 := K_w1.below
      have hz_w1 := K_w1.size
      clear K_w1
      go_wp2_with fail
      with_reducible refine (due19_1c P b _ _ HB.out h1 ht1 hg D1.out).mono ?_
      rintro e w2 ⟨rfl, hb_w2⟩
      have K_w2 : Kept w.heap.size w (w.heap.size) [] w2 := (KH_w1.out.step (by omega) (by go_grown)).step (by omega) hb_w2
      replace HB := Lib.hid (HB.out.below hb_w2)
      clear hb_w2
      have KH_w2 := Lib.hid K_w2
      have hw_w2 := K_w2.below
      have hz_w2 := K_w2.size
      clear K_w2
      go_wp2_with fail
      with_reducible refine (due30c d1 t _ _ HV.out).mono ?_
      rintro e w' ⟨rfl, rfl⟩
      go_wp2_with fail
      go_returns
      exact ⟨ret_int e1.out.symm, by go_grown⟩

theorem lost15c (P : Nat) (b : Bk) (t v : Int) (w : World) (hb : BookAt w P b) (ok : b.Ok) (hv : lost b.d0 b.d1 t = v) :
    Calls Try.prog 15 #[.pointer (some ⟨P, 0, none⟩), .int .u64 t] w fun e w' => e = .returned (.int .i64 v) ∧ Below w.heap.size w w' := by
  subst hv
  exact lost15 P b t w hb ok

/-- a new book is returned -/
def NewAt (w : World) (b : Bk) (e : Ending) (w' : World) : Prop := ∃ P, w.heap.size ≤ P ∧ e = .returned (.tuple #[.pointer (some ⟨P, 0, none⟩), .int .i64 0]) ∧ BookAt w' P b ∧ Below w.heap.size w w'
def CopyAt (w : World) (b : Bk) (e : Ending) (w' : World) : Prop := ∃ P, w.heap.size ≤ P ∧ e = .returned (.pointer (some ⟨P, 0, none⟩)) ∧ BookAt w' P b ∧ Below w.heap.size w w'
theorem valid10c (n g : Int) (v : Bool) (w : World) (hv : vC n g = v) : Calls Try.prog 10 #[.agg #[.int .i64 n, .int .u64 g]] w fun e w' => e = .returned (.bool v) ∧ Below w.heap.size w w' := by
  subst hv
  exact valid10 n g w
theorem BookAt.new (W : World) (b : Bk) : BookAt (W.alloc (.cells (bkc b) 63)) W.heap.size b := heap_alloc_new W _

set_option maxRecDepth 100000 in
set_option maxHeartbeats 2000000 in
theorem new8_bad (n g t : Int) (w : World) (hv : vC n g = false) :
    Calls Try.prog 8 #[.agg #[.int .i64 n, .int .u64 g], .int .u64 t] w fun e w' => e = .returned (.tuple #[.pointer none, .int .i64 2]) ∧ Below w.heap.size w w' := by
  have HV := Lib.hid hv
  clear hv
  go_enter Try.func8, Try.ntmps8
  go_wp2_with fail
  with_reducible refine (valid10c n g _ _ HV.out).mono ?_
  rintro e w1 ⟨rfl, hb_w1⟩
  have K_w1 : Kept w.heap.size w (w.heap.size + 1) [(w.heap.size, 0, .int .i64 n), (w.heap.size, 1, .int .u64 g)] w1 := Kept.of hb_w1 (by go_grown) (by go_size) (by omega) (by simp [go_sem] <;> omega)
  clear hb_w1
  have KH_w1 := Lib.hid K_w1
  have hw_w1 := K_w1.below
  have hz_w1 := K_w1.size
  have lC_w1 : w.heap.size < w1.heap.size := by omega
  have cC0_w1 := K_w1.at (b := w.heap.size) (o := 0) (v := .int .i64 n) (by simp)
  have fC0_w1 := K_w1.free (b := w.heap.size) (o := 0) (v := .int .i64 n) (by simp)
  have cC1_w1 := K_w1.at (b := w.heap.size) (o := 1) (v := .int .u64 g) (by simp)
  have fC1_w1 := K_w1.free (b := w.heap.size) (o := 1) (v := .int .u64 g) (by simp)
  clear K_w1
  go_wp2_with fail
  go_returns
  exact ⟨rfl, by go_grown⟩

set_option maxRecDepth 100000 in
set_option maxHeartbeats 2000000 in
theorem new8 (n g t : Int) (w : World) (hv : vC n g = true) :
    Calls Try.prog 8 #[.agg #[.int .i64 n, .int .u64 g], .int .u64 t] w (NewAt w (bk0 n g t)) := by
  have HV := Lib.hid hv
  clear hv
  go_enter Try.func8, Try.ntmps8
  go_wp2_with fail
  with_reducible refine (valid10c n g _ _ HV.out).mono ?_
  rintro e w1 ⟨rfl, hb_w1⟩
  have K_w1 : Kept w.heap.size w (w.heap.size + 1) [(w.heap.size, 0, .int .i64 n), (w.heap.size, 1, .int .u64 g)] w1 := Kept.of hb_w1 (by go_grown) (by go_size) (by omega) (by simp [go_sem] <;> omega)
  clear hb_w1
  have KH_w1 := Lib.hid K_w1
  have hw_w1 := K_w1.below
  have hz_w1 := K_w1.size
  have lC_w1 : w.heap.size < w1.heap.size := by omega
  have cC0_w1 := K_w1.at (b := w.heap.size) (o := 0) (v := .int .i64 n) (by simp)
  have fC0_w1 := K_w1.free (b := w.heap.size) (o := 0) (v := .int .i64 n) (by simp)
  have cC1_w1 := K_w1.at (b := w.heap.size) (o := 1) (v := .int .u64 g) (by simp)
  have fC1_w1 := K_w1.free (b := w.heap.size) (o := 1) (v := .int .u64 g) (by simp)
  clear K_w1
  go_wp2_with fail
  refine wp_loop_rounds 3 ?_
  rw [rounds_succ]
  go_wp2_with fail
  rw [rounds_succ]
  go_wp2_with fail
  rw [rounds_succ]
  go_wp2_with fail
  go_returns
  exact ⟨w1.heap.size, by omega, rfl, BookAt.new w1 (bk0 n g t), by go_grown⟩

set_option maxRecDepth 100000 in
set_option maxHeartbeats 2000000 in
theorem copy26 (P : Nat) (b : Bk) (w : World) (hb : BookAt w P b) (h1 : 1 ≤ b.n) :
    Calls Try.prog 26 #[.pointer (some ⟨P, 0, none⟩)] w (CopyAt w b) := by
  have HB := Lib.hid hb
  have k0 : w.cell? ⟨P, 0, none⟩ = some (.int .i64 b.n) := hb.cell 0
  have k1 : w.cell? ⟨P, 1, none⟩ = some (.int .u64 b.g) := hb.cell 1
  have k2 : w.cell? ⟨P, 2, none⟩ = some (.bool b.h0) := hb.cell 2
  have k3 : w.cell? ⟨P, 3, none⟩ = some (.int .u64 b.t0) := hb.cell 3
  have k4 : w.cell? ⟨P, 4, none⟩ = some (.int .i64 b.s0) := hb.cell 4
  have k5 : w.cell? ⟨P, 5, none⟩ = some (.bool b.a0) := hb.cell 5
  have k6 : w.cell? ⟨P, 6, none⟩ = some (.bool b.h1) := hb.cell 6
  have k7 : w.cell? ⟨P, 7, none⟩ = some (.int .u64 b.t1) := hb.cell 7
  have k8 : w.cell? ⟨P, 8, none⟩ = some (.int .i64 b.s1) := hb.cell 8
  have k9 : w.cell? ⟨P, 9, none⟩ = some (.bool b.a1) := hb.cell 9
  clear hb
  go_enter Try.func26, Try.ntmps26
  go_wp2_with fail
  with_reducible refine (of29_0 P b _ HB.out h1).mono ?_
  rintro e w' ⟨rfl, rfl⟩
  go_wp2_with fail
  go_returns
  exact ⟨w.heap.size, by omega, rfl, BookAt.new w b, by go_grown⟩

set_option maxRecDepth 100000 in
set_option maxHeartbeats 2000000 in
theorem copy26_nil (w : World) :
    Calls Try.prog 26 #[.pointer none] w fun e w' => e = .returned (.pointer none) ∧ Below w.heap.size w w' := by
  go_enter Try.func26, Try.ntmps26
  go_wp2_with fail
  with_reducible refine (of29_nil 0 _).mono ?_
  rintro e w' ⟨rfl, rfl⟩
  go_wp2_with fail
  go_returns
  exact ⟨rfl, Below.refl _ _⟩

set_option maxRecDepth 100000 in
set_option maxHeartbeats 2000000 in
theorem copy26_zero (P : Nat) (b : Bk) (w : World) (hb : BookAt w P b) (h1 : b.n = 0) (h2 : b.g = 0) :
    Calls Try.prog 26 #[.pointer (some ⟨P, 0, none⟩)] w fun e w' => e = .returned (.pointer none) ∧ Below w.heap.size w w' := by
  have HB := Lib.hid hb
  have H1 := Lib.hid h1
  have H2 := Lib.hid h2
  clear hb h1 h2
  go_enter Try.func26, Try.ntmps26
  go_wp2_with fail
  with_reducible refine (of29_zero P b 0 _ HB.out H1.out H2.out).mono ?_
  rintro e w' ⟨rfl, rfl⟩
  go_wp2_with fail
  go_returns
  exact ⟨rfl, Below.refl _ _⟩

theorem strike22_0v (P : Nat) (b : Bk) (v : Bool) (w : World) (hb : BookAt w P b) (ok : b.Ok) (hv : b.strike0.a0 = v) :
    Calls Try.prog 22 #[.pointer (some ⟨P, 0, none⟩), .int .i64 0] w fun e w' => e = .returned (.tuple #[.bool v, .int .i64 0]) ∧ BookAt w' P b.strike0 ∧ Only P w w' := by
  subst hv
  exact strike22_0 P b w hb ok

set_option maxRecDepth 100000 in
set_option maxHeartbeats 2000000 in
theorem strikes25_0 (P : Nat) (b : Bk) (v : Bool) (w : World) (hb : BookAt w P b) (ok : b.Ok) (hv : b.strike0.a0 = v) :
    Calls Try.prog 25 #[.pointer (some ⟨P, 0, none⟩), .int .i64 0, .bool v, .int .i64 0] w fun e w' => e = .returned (.bool true) ∧ BookAt w' P b.strike0 ∧ Only P w w' := by
  have HB := Lib.hid hb
  have HV := Lib.hid hv
  clear hb hv
  go_enter Try.func25, Try.ntmps25
  go_wp2_with fail
  with_reducible refine (strike22_0v P b v _ HB.out ok HV.out).mono ?_
  rintro e w1 ⟨rfl, hB, hO⟩
  have HBN := Lib.hid hB
  have HON := Lib.hid hO
  clear hB hO
  go_wp2_with fail
  go_returns
  exact ⟨rfl, HBN.out, HON.out⟩

theorem strike22_1v (P : Nat) (b : Bk) (v : Bool) (w : World) (hb : BookAt w P b) (ok : b.Ok) (hv : b.strike1.a1 = v) :
    Calls Try.prog 22 #[.pointer (some ⟨P, 0, none⟩), .int .i64 1] w fun e w' => e = .returned (.tuple #[.bool v, .int .i64 0]) ∧ BookAt w' P b.strike1 ∧ Only P w w' := by
  subst hv
  exact strike22_1 P b w hb ok

set_option maxRecDepth 100000 in
set_option maxHeartbeats 2000000 in
theorem strikes25_1 (P : Nat) (b : Bk) (v : Bool) (w : World) (hb : BookAt w P b) (ok : b.Ok) (hv : b.strike1.a1 = v) :
    Calls Try.prog 25 #[.pointer (some ⟨P, 0, none⟩), .int .i64 1, .bool v, .int .i64 0] w fun e w' => e = .returned (.bool true) ∧ BookAt w' P b.strike1 ∧ Only P w w' := by
  have HB := Lib.hid hb
  have HV := Lib.hid hv
  clear hb hv
  go_enter Try.func25, Try.ntmps25
  go_wp2_with fail
  with_reducible refine (strike22_1v P b v _ HB.out ok HV.out).mono ?_
  rintro e w1 ⟨rfl, hB, hO⟩
  have HBN := Lib.hid hB
  have HON := Lib.hid hO
  clear hB hO
  go_wp2_with fail
  go_returns
  exact ⟨rfl, HBN.out, HON.out⟩

set_option maxRecDepth 100000 in
set_option maxHeartbeats 2000000 in
theorem strikes25_bad (P : Nat) (b : Bk) (p : Int) (w : World) (hb : BookAt w P b) (h1 : 1 ≤ b.n) (h2 : p ≠ 0) (h3 : p ≠ 1) :
    Calls Try.prog 25 #[.pointer (some ⟨P, 0, none⟩), .int .i64 p, .bool false, .int .i64 2] w fun e w' => e = .returned (.bool true) ∧ Below w.heap.size w w' := by
  have HB := Lib.hid hb
  have H2 := Lib.hid h2
  have H3 := Lib.hid h3
  clear h2 h3 hb
  go_enter Try.func25, Try.ntmps25
  go_wp2_with fail
  with_reducible refine (strike22_bad P b p _ HB.out h1 H2.out H3.out).mono ?_
  rintro e w1 ⟨rfl, hb_w1⟩
  have K_w1 : Kept w.heap.size w (w.heap.size) [] w1 := Kept.of hb_w1 (by go_grown) (by go_size) (by omega) (by simp [go_sem] <;> omega)
  clear hb_w1
  have KH_w1 := Lib.hid K_w1
  have hw_w1 := K_w1.below
  have hz_w1 := K_w1.size
  clear K_w1
  go_wp2_with fail
  go_returns
  exact ⟨rfl, by go_grown⟩

set_option maxRecDepth 100000 in
set_option maxHeartbeats 2000000 in
theorem strikes25_nil (p : Int) (w : World) :
    Calls Try.prog 25 #[.pointer none, .int .i64 p, .bool false, .int .i64 1] w fun e w' => e = .returned (.bool true) ∧ Below w.heap.size w w' := by
  go_enter Try.func25, Try.ntmps25
  go_wp2_with fail
  with_reducible refine (strike22_nil p _).mono ?_
  rintro e w1 ⟨rfl, hb_w1⟩
  have K_w1 : Kept w.heap.size w (w.heap.size) [] w1 := Kept.of hb_w1 (by go_grown) (by go_size) (by omega) (by simp [go_sem] <;> omega)
  clear hb_w1
  have KH_w1 := Lib.hid K_w1
  have hw_w1 := K_w1.below
  have hz_w1 := K_w1.size
  clear K_w1
  go_wp2_with fail
  go_returns
  exact ⟨rfl, by go_grown⟩

set_option maxRecDepth 100000 in
set_option maxHeartbeats 2000000 in
theorem strikes25_zero (P : Nat) (b : Bk) (p : Int) (w : World) (hb : BookAt w P b) (h1 : b.n = 0) (h2 : b.g = 0) :
    Calls Try.prog 25 #[.pointer (some ⟨P, 0, none⟩), .int .i64 p, .bool false, .int .i64 1] w fun e w' => e = .returned (.bool true) ∧ Below w.heap.size w w' := by
  have HB := Lib.hid hb
  have H1 := Lib.hid h1
  have H2 := Lib.hid h2
  clear hb h1 h2
  go_enter Try.func25, Try.ntmps25
  go_wp2_with fail
  with_reducible refine (strike22_zero P b p _ HB.out H1.out H2.out).mono ?_
  rintro e w1 ⟨rfl, hb_w1⟩
  have K_w1 : Kept w.heap.size w (w.heap.size) [] w1 := Kept.of hb_w1 (by go_grown) (by go_size) (by omega) (by simp [go_sem] <;> omega)
  clear hb_w1
  have KH_w1 := Lib.hid K_w1
  have hw_w1 := K_w1.below
  have hz_w1 := K_w1.size
  clear K_w1
  go_wp2_with fail
  go_returns
  exact ⟨rfl, by go_grown⟩

end Go.Proofs.Ytobkgdhniibopaa
