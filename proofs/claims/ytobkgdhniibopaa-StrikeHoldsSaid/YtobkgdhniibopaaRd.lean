/- Readers of a book. -/
import Derived.Test.YtobkgdhniibopaaWk
namespace Go.Proofs.Ytobkgdhniibopaa
open Go.RowKit Plain
set_option linter.unusedVariables false
set_option linter.unusedSimpArgs false

set_option maxRecDepth 100000 in
set_option maxHeartbeats 2000000 in
theorem auto20_0 (P : Nat) (b : Bk) (w : World) (hb : BookAt w P b) (h1 : 1 ≤ b.n) :
    Calls Try.prog 20 #[.pointer (some ⟨P, 0, none⟩), .int .i64 0] w fun e w' => e = .returned (.bool b.a0) ∧ Below w.heap.size w w' := by
  have k5 : w.cell? ⟨P, 5, none⟩ = some (.bool b.a0) := hb.cell 5
  go_enter Try.func20, Try.ntmps20
  go_wp2_with fail
  with_reducible refine (of29_0 P b _ hb h1).mono ?_
  rintro e w' ⟨rfl, rfl⟩
  go_wp2_with fail
  go_returns
  exact ⟨rfl, Below.refl _ _⟩

set_option maxRecDepth 100000 in
set_option maxHeartbeats 2000000 in
theorem strikes21_0 (P : Nat) (b : Bk) (w : World) (hb : BookAt w P b) (h1 : 1 ≤ b.n) :
    Calls Try.prog 21 #[.pointer (some ⟨P, 0, none⟩), .int .i64 0] w fun e w' => e = .returned (.int .i64 b.s0) ∧ Below w.heap.size w w' := by
  have k4 : w.cell? ⟨P, 4, none⟩ = some (.int .i64 b.s0) := hb.cell 4
  go_enter Try.func21, Try.ntmps21
  go_wp2_with fail
  with_reducible refine (of29_0 P b _ hb h1).mono ?_
  rintro e w' ⟨rfl, rfl⟩
  go_wp2_with fail
  go_returns
  exact ⟨rfl, Below.refl _ _⟩

set_option maxRecDepth 100000 in
set_option maxHeartbeats 2000000 in
theorem here18_0 (P : Nat) (b : Bk) (w : World) (hb : BookAt w P b) (h1 : 1 ≤ b.n) :
    Calls Try.prog 18 #[.pointer (some ⟨P, 0, none⟩), .int .i64 0] w fun e w' => e = .returned (.bool b.h0) ∧ Below w.heap.size w w' := by
  have k2 : w.cell? ⟨P, 2, none⟩ = some (.bool b.h0) := hb.cell 2
  go_enter Try.func18, Try.ntmps18
  go_wp2_with fail
  with_reducible refine (of29_0 P b _ hb h1).mono ?_
  rintro e w' ⟨rfl, rfl⟩
  go_wp2_with fail
  go_returns
  exact ⟨rfl, Below.refl _ _⟩

set_option maxRecDepth 100000 in
set_option maxHeartbeats 2000000 in
theorem due31_0 (P : Nat) (b : Bk) (w : World) (hb : BookAt w P b) (ht : U b.t0) (hg : U b.g) :
    Calls Try.prog 31 #[.pointer (some ⟨P, 2, none⟩), .int .u64 b.g] w fun e w' => e = .returned (.int .u64 b.d0) ∧ w = w' := by
  have k2 : w.cell? ⟨P, 2, none⟩ = some (.bool b.h0) := hb.cell 2
  have k3 : w.cell? ⟨P, 3, none⟩ = some (.int .u64 b.t0) := hb.cell 3
  cases hh : b.h0
  · have e1 : Hid (b.d0 = addN b.t0 b.g) := Lib.hid (by simp [Bk.d0, Plain.due, hh])
    go_enter Try.func31, Try.ntmps31
    go_wp2_with fail
    with_reducible refine (add38 _ _ _ ht hg).mono ?_
    rintro e w' ⟨rfl, rfl⟩
    go_wp2_with fail
    go_returns
    exact ⟨ret_int e1.out.symm, rfl⟩
  · have e1 : Hid (b.d0 = 18446744073709551615) := Lib.hid (by simp [Bk.d0, Plain.due, hh])
    go_enter Try.func31, Try.ntmps31
    go_wp2_with fail
    go_returns
    exact ⟨ret_int e1.out.symm, rfl⟩

set_option maxRecDepth 100000 in
set_option maxHeartbeats 2000000 in
theorem due19_0 (P : Nat) (b : Bk) (w : World) (hb : BookAt w P b) (h1 : 1 ≤ b.n) (ht : U b.t0) (hg : U b.g) :
    Calls Try.prog 19 #[.pointer (some ⟨P, 0, none⟩), .int .i64 0] w fun e w' => e = .returned (.int .u64 b.d0) ∧ Below w.heap.size w w' := by
  have hlt := hb.lt
  go_enter Try.func19, Try.ntmps19
  go_wp2_with fail
  with_reducible refine (of29_0 P b _ hb h1).mono ?_
  rintro e w' ⟨rfl, rfl⟩
  go_wp2_with fail
  refine wp_region_keptX (w := w) (B := w.heap.size) (n := w.heap.size) (L := []) (E := fun W => BookAt W P b) ⟨by go_grown, by go_size, (by simp [go_sem] <;> omega)⟩ hb (fun _ _ h hb => h.below hb) (by kernel_rfl) (by kernel_rfl) (fun _ne => ?_)
  have r1 : ∀ s : KX (w.heap.size) w (w.heap.size) [] (fun W => BookAt W P b), s.val.cell? ⟨P, 1, none⟩ = some (.int .u64 b.g) := fun s => s.ex.cell 1
  repeat (go_big_quiet_step (first | (go_at_call 31; rename_i s; with_reducible exact calls_keptX0 (due31_0 P b _ s.ex ht hg))))
  refine wpQuiet_nil ?_
  rintro w1 ⟨⟨_, K_w1, E_w1⟩, rfl⟩
  clear _ne r1
  have hw_w1 := K_w1.below
  have hz_w1 := K_w1.size
  clear K_w1
  clear E_w1
  go_wp2_with fail
  go_returns
  exact ⟨rfl, by go_grown⟩

set_option maxRecDepth 100000 in
set_option maxHeartbeats 2000000 in
theorem auto20_1 (P : Nat) (b : Bk) (w : World) (hb : BookAt w P b) (h1 : 1 ≤ b.n) :
    Calls Try.prog 20 #[.pointer (some ⟨P, 0, none⟩), .int .i64 1] w fun e w' => e = .returned (.bool b.a1) ∧ Below w.heap.size w w' := by
  have k9 : w.cell? ⟨P, 9, none⟩ = some (.bool b.a1) := hb.cell 9
  go_enter Try.func20, Try.ntmps20
  go_wp2_with fail
  with_reducible refine (of29_1 P b _ hb h1).mono ?_
  rintro e w' ⟨rfl, rfl⟩
  go_wp2_with fail
  go_returns
  exact ⟨rfl, Below.refl _ _⟩

set_option maxRecDepth 100000 in
set_option maxHeartbeats 2000000 in
theorem strikes21_1 (P : Nat) (b : Bk) (w : World) (hb : BookAt w P b) (h1 : 1 ≤ b.n) :
    Calls Try.prog 21 #[.pointer (some ⟨P, 0, none⟩), .int .i64 1] w fun e w' => e = .returned (.int .i64 b.s1) ∧ Below w.heap.size w w' := by
  have k8 : w.cell? ⟨P, 8, none⟩ = some (.int .i64 b.s1) := hb.cell 8
  go_enter Try.func21, Try.ntmps21
  go_wp2_with fail
  with_reducible refine (of29_1 P b _ hb h1).mono ?_
  rintro e w' ⟨rfl, rfl⟩
  go_wp2_with fail
  go_returns
  exact ⟨rfl, Below.refl _ _⟩

set_option maxRecDepth 100000 in
set_option maxHeartbeats 2000000 in
theorem here18_1 (P : Nat) (b : Bk) (w : World) (hb : BookAt w P b) (h1 : 1 ≤ b.n) :
    Calls Try.prog 18 #[.pointer (some ⟨P, 0, none⟩), .int .i64 1] w fun e w' => e = .returned (.bool b.h1) ∧ Below w.heap.size w w' := by
  have k6 : w.cell? ⟨P, 6, none⟩ = some (.bool b.h1) := hb.cell 6
  go_enter Try.func18, Try.ntmps18
  go_wp2_with fail
  with_reducible refine (of29_1 P b _ hb h1).mono ?_
  rintro e w' ⟨rfl, rfl⟩
  go_wp2_with fail
  go_returns
  exact ⟨rfl, Below.refl _ _⟩

set_option maxRecDepth 100000 in
set_option maxHeartbeats 2000000 in
theorem due31_1 (P : Nat) (b : Bk) (w : World) (hb : BookAt w P b) (ht : U b.t1) (hg : U b.g) :
    Calls Try.prog 31 #[.pointer (some ⟨P, 6, none⟩), .int .u64 b.g] w fun e w' => e = .returned (.int .u64 b.d1) ∧ w = w' := by
  have k6 : w.cell? ⟨P, 6, none⟩ = some (.bool b.h1) := hb.cell 6
  have k7 : w.cell? ⟨P, 7, none⟩ = some (.int .u64 b.t1) := hb.cell 7
  cases hh : b.h1
  · have e1 : Hid (b.d1 = addN b.t1 b.g) := Lib.hid (by simp [Bk.d1, Plain.due, hh])
    go_enter Try.func31, Try.ntmps31
    go_wp2_with fail
    with_reducible refine (add38 _ _ _ ht hg).mono ?_
    rintro e w' ⟨rfl, rfl⟩
    go_wp2_with fail
    go_returns
    exact ⟨ret_int e1.out.symm, rfl⟩
  · have e1 : Hid (b.d1 = 18446744073709551615) := Lib.hid (by simp [Bk.d1, Plain.due, hh])
    go_enter Try.func31, Try.ntmps31
    go_wp2_with fail
    go_returns
    exact ⟨ret_int e1.out.symm, rfl⟩

set_option maxRecDepth 100000 in
set_option maxHeartbeats 2000000 in
theorem due19_1 (P : Nat) (b : Bk) (w : World) (hb : BookAt w P b) (h1 : 1 ≤ b.n) (ht : U b.t1) (hg : U b.g) :
    Calls Try.prog 19 #[.pointer (some ⟨P, 0, none⟩), .int .i64 1] w fun e w' => e = .returned (.int .u64 b.d1) ∧ Below w.heap.size w w' := by
  have hlt := hb.lt
  go_enter Try.func19, Try.ntmps19
  go_wp2_with fail
  with_reducible refine (of29_1 P b _ hb h1).mono ?_
  rintro e w' ⟨rfl, rfl⟩
  go_wp2_with fail
  refine wp_region_keptX (w := w) (B := w.heap.size) (n := w.heap.size) (L := []) (E := fun W => BookAt W P b) ⟨by go_grown, by go_size, (by simp [go_sem] <;> omega)⟩ hb (fun _ _ h hb => h.below hb) (by kernel_rfl) (by kernel_rfl) (fun _ne => ?_)
  have r1 : ∀ s : KX (w.heap.size) w (w.heap.size) [] (fun W => BookAt W P b), s.val.cell? ⟨P, 1, none⟩ = some (.int .u64 b.g) := fun s => s.ex.cell 1
  repeat (go_big_quiet_step (first | (go_at_call 31; rename_i s; with_reducible exact calls_keptX0 (due31_1 P b _ s.ex ht hg))))
  refine wpQuiet_nil ?_
  rintro w1 ⟨⟨_, K_w1, E_w1⟩, rfl⟩
  clear _ne r1
  have hw_w1 := K_w1.below
  have hz_w1 := K_w1.size
  clear K_w1
  clear E_w1
  go_wp2_with fail
  go_returns
  exact ⟨rfl, by go_grown⟩

set_option maxRecDepth 100000 in
set_option maxHeartbeats 2000000 in
theorem auto20_bad (P : Nat) (b : Bk) (p : Int) (w : World) (hb : BookAt w P b) (h1 : 1 ≤ b.n) (h2 : p ≠ 0) (h3 : p ≠ 1) :
    Calls Try.prog 20 #[.pointer (some ⟨P, 0, none⟩), .int .i64 p] w fun e w' => e = .returned (.bool false) ∧ Below w.heap.size w w' := by
  have HB := Lib.hid hb
  have H2 := Lib.hid h2
  have H3 := Lib.hid h3
  clear h2 h3 hb
  go_enter Try.func20, Try.ntmps20
  go_wp2_with fail
  with_reducible refine (of29_bad P b p _ HB.out h1 H2.out H3.out).mono ?_
  rintro e w' ⟨rfl, rfl⟩
  go_wp2_with fail
  go_returns
  exact ⟨rfl, Below.refl _ _⟩

set_option maxRecDepth 100000 in
set_option maxHeartbeats 2000000 in
theorem auto20_nil (p : Int) (w : World) :
    Calls Try.prog 20 #[.pointer none, .int .i64 p] w fun e w' => e = .returned (.bool false) ∧ Below w.heap.size w w' := by
  go_enter Try.func20, Try.ntmps20
  go_wp2_with fail
  with_reducible refine (of29_nil p _).mono ?_
  rintro e w' ⟨rfl, rfl⟩
  go_wp2_with fail
  go_returns
  exact ⟨rfl, Below.refl _ _⟩

set_option maxRecDepth 100000 in
set_option maxHeartbeats 2000000 in
theorem auto20_zero (P : Nat) (b : Bk) (p : Int) (w : World) (hb : BookAt w P b) (h1 : b.n = 0) (h2 : b.g = 0) :
    Calls Try.prog 20 #[.pointer (some ⟨P, 0, none⟩), .int .i64 p] w fun e w' => e = .returned (.bool false) ∧ Below w.heap.size w w' := by
  have HB := Lib.hid hb
  have H1 := Lib.hid h1
  have H2 := Lib.hid h2
  clear hb h1 h2
  go_enter Try.func20, Try.ntmps20
  go_wp2_with fail
  with_reducible refine (of29_zero P b p _ HB.out H1.out H2.out).mono ?_
  rintro e w' ⟨rfl, rfl⟩
  go_wp2_with fail
  go_returns
  exact ⟨rfl, Below.refl _ _⟩

set_option maxRecDepth 100000 in
set_option maxHeartbeats 2000000 in
theorem strikes21_bad (P : Nat) (b : Bk) (p : Int) (w : World) (hb : BookAt w P b) (h1 : 1 ≤ b.n) (h2 : p ≠ 0) (h3 : p ≠ 1) :
    Calls Try.prog 21 #[.pointer (some ⟨P, 0, none⟩), .int .i64 p] w fun e w' => e = .returned (.int .i64 0) ∧ Below w.heap.size w w' := by
  have HB := Lib.hid hb
  have H2 := Lib.hid h2
  have H3 := Lib.hid h3
  clear h2 h3 hb
  go_enter Try.func21, Try.ntmps21
  go_wp2_with fail
  with_reducible refine (of29_bad P b p _ HB.out h1 H2.out H3.out).mono ?_
  rintro e w' ⟨rfl, rfl⟩
  go_wp2_with fail
  go_returns
  exact ⟨rfl, Below.refl _ _⟩

set_option maxRecDepth 100000 in
set_option maxHeartbeats 2000000 in
theorem strikes21_nil (p : Int) (w : World) :
    Calls Try.prog 21 #[.pointer none, .int .i64 p] w fun e w' => e = .returned (.int .i64 0) ∧ Below w.heap.size w w' := by
  go_enter Try.func21, Try.ntmps21
  go_wp2_with fail
  with_reducible refine (of29_nil p _).mono ?_
  rintro e w' ⟨rfl, rfl⟩
  go_wp2_with fail
  go_returns
  exact ⟨rfl, Below.refl _ _⟩

set_option maxRecDepth 100000 in
set_option maxHeartbeats 2000000 in
theorem strikes21_zero (P : Nat) (b : Bk) (p : Int) (w : World) (hb : BookAt w P b) (h1 : b.n = 0) (h2 : b.g = 0) :
    Calls Try.prog 21 #[.pointer (some ⟨P, 0, none⟩), .int .i64 p] w fun e w' => e = .returned (.int .i64 0) ∧ Below w.heap.size w w' := by
  have HB := Lib.hid hb
  have H1 := Lib.hid h1
  have H2 := Lib.hid h2
  clear hb h1 h2
  go_enter Try.func21, Try.ntmps21
  go_wp2_with fail
  with_reducible refine (of29_zero P b p _ HB.out H1.out H2.out).mono ?_
  rintro e w' ⟨rfl, rfl⟩
  go_wp2_with fail
  go_returns
  exact ⟨rfl, Below.refl _ _⟩

set_option maxRecDepth 100000 in
set_option maxHeartbeats 2000000 in
theorem here18_bad (P : Nat) (b : Bk) (p : Int) (w : World) (hb : BookAt w P b) (h1 : 1 ≤ b.n) (h2 : p ≠ 0) (h3 : p ≠ 1) :
    Calls Try.prog 18 #[.pointer (some ⟨P, 0, none⟩), .int .i64 p] w fun e w' => e = .returned (.bool false) ∧ Below w.heap.size w w' := by
  have HB := Lib.hid hb
  have H2 := Lib.hid h2
  have H3 := Lib.hid h3
  clear h2 h3 hb
  go_enter Try.func18, Try.ntmps18
  go_wp2_with fail
  with_reducible refine (of29_bad P b p _ HB.out h1 H2.out H3.out).mono ?_
  rintro e w' ⟨rfl, rfl⟩
  go_wp2_with fail
  go_returns
  exact ⟨rfl, Below.refl _ _⟩

set_option maxRecDepth 100000 in
set_option maxHeartbeats 2000000 in
theorem here18_nil (p : Int) (w : World) :
    Calls Try.prog 18 #[.pointer none, .int .i64 p] w fun e w' => e = .returned (.bool false) ∧ Below w.heap.size w w' := by
  go_enter Try.func18, Try.ntmps18
  go_wp2_with fail
  with_reducible refine (of29_nil p _).mono ?_
  rintro e w' ⟨rfl, rfl⟩
  go_wp2_with fail
  go_returns
  exact ⟨rfl, Below.refl _ _⟩

set_option maxRecDepth 100000 in
set_option maxHeartbeats 2000000 in
theorem here18_zero (P : Nat) (b : Bk) (p : Int) (w : World) (hb : BookAt w P b) (h1 : b.n = 0) (h2 : b.g = 0) :
    Calls Try.prog 18 #[.pointer (some ⟨P, 0, none⟩), .int .i64 p] w fun e w' => e = .returned (.bool false) ∧ Below w.heap.size w w' := by
  have HB := Lib.hid hb
  have H1 := Lib.hid h1
  have H2 := Lib.hid h2
  clear hb h1 h2
  go_enter Try.func18, Try.ntmps18
  go_wp2_with fail
  with_reducible refine (of29_zero P b p _ HB.out H1.out H2.out).mono ?_
  rintro e w' ⟨rfl, rfl⟩
  go_wp2_with fail
  go_returns
  exact ⟨rfl, Below.refl _ _⟩

set_option maxRecDepth 100000 in
set_option maxHeartbeats 2000000 in
theorem due19_bad (P : Nat) (b : Bk) (p : Int) (w : World) (hb : BookAt w P b) (h1 : 1 ≤ b.n) (h2 : p ≠ 0) (h3 : p ≠ 1) :
    Calls Try.prog 19 #[.pointer (some ⟨P, 0, none⟩), .int .i64 p] w fun e w' => e = .returned (.int .u64 18446744073709551615) ∧ Below w.heap.size w w' := by
  have HB := Lib.hid hb
  have H2 := Lib.hid h2
  have H3 := Lib.hid h3
  clear h2 h3 hb
  go_enter Try.func19, Try.ntmps19
  go_wp2_with fail
  with_reducible refine (of29_bad P b p _ HB.out h1 H2.out H3.out).mono ?_
  rintro e w' ⟨rfl, rfl⟩
  go_wp2_with fail
  go_returns
  exact ⟨rfl, Below.refl _ _⟩

set_option maxRecDepth 100000 in
set_option maxHeartbeats 2000000 in
theorem due19_nil (p : Int) (w : World) :
    Calls Try.prog 19 #[.pointer none, .int .i64 p] w fun e w' => e = .returned (.int .u64 18446744073709551615) ∧ Below w.heap.size w w' := by
  go_enter Try.func19, Try.ntmps19
  go_wp2_with fail
  with_reducible refine (of29_nil p _).mono ?_
  rintro e w' ⟨rfl, rfl⟩
  go_wp2_with fail
  go_returns
  exact ⟨rfl, Below.refl _ _⟩

set_option maxRecDepth 100000 in
set_option maxHeartbeats 2000000 in
theorem due19_zero (P : Nat) (b : Bk) (p : Int) (w : World) (hb : BookAt w P b) (h1 : b.n = 0) (h2 : b.g = 0) :
    Calls Try.prog 19 #[.pointer (some ⟨P, 0, none⟩), .int .i64 p] w fun e w' => e = .returned (.int .u64 18446744073709551615) ∧ Below w.heap.size w w' := by
  have HB := Lib.hid hb
  have H1 := Lib.hid h1
  have H2 := Lib.hid h2
  clear hb h1 h2
  go_enter Try.func19, Try.ntmps19
  go_wp2_with fail
  with_reducible refine (of29_zero P b p _ HB.out H1.out H2.out).mono ?_
  rintro e w' ⟨rfl, rfl⟩
  go_wp2_with fail
  go_returns
  exact ⟨rfl, Below.refl _ _⟩

end Go.Proofs.Ytobkgdhniibopaa
