/- Writers of a book. -/
import Derived.Test.YtobkgdhniibopaaRd
import Derived.StillTailTactics
namespace Go.Proofs.Ytobkgdhniibopaa
open Go.RowKit Plain
set_option linter.unusedVariables false
set_option linter.unusedSimpArgs false

theorem due30c (d t : Int) (v : Bool) (w : World) (h : over d t = v) : Calls Try.prog 30 #[.int .u64 d, .int .u64 t] w fun e w' => e = .returned (.bool v) ∧ w = w' := by
  subst h
  exact due30 d t w

set_option maxRecDepth 100000 in
set_option maxHeartbeats 2000000 in
theorem strike22_0 (P : Nat) (b : Bk) (w : World) (hb : BookAt w P b) (ok : b.Ok) :
    Calls Try.prog 22 #[.pointer (some ⟨P, 0, none⟩), .int .i64 0] w fun e w' => e = .returned (.tuple #[.bool b.strike0.a0, .int .i64 0]) ∧ BookAt w' P b.strike0 ∧ Only P w w' := by
  have h1 := ok.n1
  have h2 := ok.n2
  have h3 := ok.s0
  have hlt := hb.lt
  by_cases hs : b.s0 < b.n
  · have e1 : Hid (b.strike0 = { b with s0 := b.s0 + 1, a0 := (b.s0 + 1 == b.n) }) := Lib.hid (by simp [Bk.strike0, hs])
    go_enter Try.func22, Try.ntmps22
    go_wp2_with fail
    with_reducible refine (of29_0 P b _ hb h1).mono ?_
    rintro e w' ⟨rfl, rfl⟩
    go_wp2_with fail
    refine wp_region_keptX (w := w) (B := w.heap.size) (n := w.heap.size) (L := []) (E := fun W => BookAt W P b) ⟨by go_grown, by go_size, (by simp [go_sem] <;> omega)⟩ hb (fun _ _ h hb => h.below hb) (by kernel_rfl) (by kernel_rfl) (fun _ne => ?_)
    have r0 : ∀ s : KX (w.heap.size) w (w.heap.size) [] (fun W => BookAt W P b), s.val.cell? ⟨P, 0, none⟩ = some (.int .i64 b.n) := fun s => s.ex.cell 0
    have r1 : ∀ s : KX (w.heap.size) w (w.heap.size) [] (fun W => BookAt W P b), s.val.cell? ⟨P, 4, none⟩ = some (.int .i64 b.s0) := fun s => s.ex.cell 4
    repeat (go_big_quiet_step (fail))
    refine wpQuiet_nil ?_
    rintro w1 ⟨⟨_, K_w1, E_w1⟩, rfl⟩
    clear _ne r0 r1
    have hw_w1 := K_w1.below
    have hz_w1 := K_w1.size
    clear K_w1
    have E1 := Lib.hid E_w1
    clear E_w1
    have k0_w1 : w1.cell? ⟨P, 0, none⟩ = some (.int .i64 b.n) := E1.out.cell 0
    have k4_w1 : w1.cell? ⟨P, 4, none⟩ = some (.int .i64 b.s0) := E1.out.cell 4
    have f4_w1 : w1.frozen? ⟨P, 4, none⟩ = false := E1.out.free 4
    have f5_w1 : w1.frozen? ⟨P, 5, none⟩ = false := E1.out.free 5
    have k5_w1 : w1.cell? ⟨P, 5, none⟩ = some (.bool b.a0) := E1.out.cell 5
    go_wp2_with fail
    obtain ⟨w2, hw2⟩ : ∃ w2, w2 = w1.setCell ⟨P, 4, none⟩ (.int .i64 (b.s0 + 1)) := ⟨_, rfl⟩
    rw [← hw2]
    have E2 : BookAt w2 P { b with s0 := b.s0 + 1 } := by rw [hw2]; exact E1.out.set 4 _ rfl
    have O2 : Only P w w2 := by rw [hw2]; exact (Only.of hw_w1).setCell _ _
    clear hw2
    have k0_w2 : w2.cell? ⟨P, 0, none⟩ = some (.int .i64 b.n) := E2.cell 0
    have kq_w2 : w2.cell? ⟨P, 4, none⟩ = some (.int .i64 (b.s0 + 1)) := E2.cell 4
    have ka_w2 : w2.cell? ⟨P, 5, none⟩ = some (.bool b.a0) := E2.cell 5
    have fa_w2 : w2.frozen? ⟨P, 5, none⟩ = false := E2.free 5
    have E2H := Lib.hid E2
    clear E2
    go_still_tail 13, (by kernel_rfl)
    go_wp2_with fail
    go_returns
    exact ⟨by rw [e1.out]; rfl, by rw [e1.out]; exact (E2H.out.drew).set 5 _ rfl, (O2.drew).setCell _ _⟩
  · have e1 : Hid (b.strike0 = { b with a0 := (b.s0 == b.n) }) := Lib.hid (by simp [Bk.strike0, hs])
    go_enter Try.func22, Try.ntmps22
    go_wp2_with fail
    with_reducible refine (of29_0 P b _ hb h1).mono ?_
    rintro e w' ⟨rfl, rfl⟩
    go_wp2_with fail
    refine wp_region_keptX (w := w) (B := w.heap.size) (n := w.heap.size) (L := []) (E := fun W => BookAt W P b) ⟨by go_grown, by go_size, (by simp [go_sem] <;> omega)⟩ hb (fun _ _ h hb => h.below hb) (by kernel_rfl) (by kernel_rfl) (fun _ne => ?_)
    have r0 : ∀ s : KX (w.heap.size) w (w.heap.size) [] (fun W => BookAt W P b), s.val.cell? ⟨P, 0, none⟩ = some (.int .i64 b.n) := fun s => s.ex.cell 0
    have r1 : ∀ s : KX (w.heap.size) w (w.heap.size) [] (fun W => BookAt W P b), s.val.cell? ⟨P, 4, none⟩ = some (.int .i64 b.s0) := fun s => s.ex.cell 4
    repeat (go_big_quiet_step (fail))
    refine wpQuiet_nil ?_
    rintro w1 ⟨⟨_, K_w1, E_w1⟩, rfl⟩
    clear _ne r0 r1
    have hw_w1 := K_w1.below
    have hz_w1 := K_w1.size
    clear K_w1
    have E1 := Lib.hid E_w1
    clear E_w1
    have k0_w1 : w1.cell? ⟨P, 0, none⟩ = some (.int .i64 b.n) := E1.out.cell 0
    have k4_w1 : w1.cell? ⟨P, 4, none⟩ = some (.int .i64 b.s0) := E1.out.cell 4
    have f4_w1 : w1.frozen? ⟨P, 4, none⟩ = false := E1.out.free 4
    have f5_w1 : w1.frozen? ⟨P, 5, none⟩ = false := E1.out.free 5
    have k5_w1 : w1.cell? ⟨P, 5, none⟩ = some (.bool b.a0) := E1.out.cell 5
    go_wp2_with fail
    go_still_tail 13, (by kernel_rfl)
    go_wp2_with fail
    go_returns
    exact ⟨by rw [e1.out]; rfl, by rw [e1.out]; exact (E1.out.drew).set 5 _ rfl, ((Only.of hw_w1).drew).setCell _ _⟩

set_option maxRecDepth 100000 in
set_option maxHeartbeats 2000000 in
theorem strike22_1 (P : Nat) (b : Bk) (w : World) (hb : BookAt w P b) (ok : b.Ok) :
    Calls Try.prog 22 #[.pointer (some ⟨P, 0, none⟩), .int .i64 1] w fun e w' => e = .returned (.tuple #[.bool b.strike1.a1, .int .i64 0]) ∧ BookAt w' P b.strike1 ∧ Only P w w' := by
  have h1 := ok.n1
  have h2 := ok.n2
  have h3 := ok.s1
  have hlt := hb.lt
  by_cases hs : b.s1 < b.n
  · have e1 : Hid (b.strike1 = { b with s1 := b.s1 + 1, a1 := (b.s1 + 1 == b.n) }) := Lib.hid (by simp [Bk.strike1, hs])
    go_enter Try.func22, Try.ntmps22
    go_wp2_with fail
    with_reducible refine (of29_1 P b _ hb h1).mono ?_
    rintro e w' ⟨rfl, rfl⟩
    go_wp2_with fail
    refine wp_region_keptX (w := w) (B := w.heap.size) (n := w.heap.size) (L := []) (E := fun W => BookAt W P b) ⟨by go_grown, by go_size, (by simp [go_sem] <;> omega)⟩ hb (fun _ _ h hb => h.below hb) (by kernel_rfl) (by kernel_rfl) (fun _ne => ?_)
    have r0 : ∀ s : KX (w.heap.size) w (w.heap.size) [] (fun W => BookAt W P b), s.val.cell? ⟨P, 0, none⟩ = some (.int .i64 b.n) := fun s => s.ex.cell 0
    have r1 : ∀ s : KX (w.heap.size) w (w.heap.size) [] (fun W => BookAt W P b), s.val.cell? ⟨P, 8, none⟩ = some (.int .i64 b.s1) := fun s => s.ex.cell 8
    repeat (go_big_quiet_step (fail))
    refine wpQuiet_nil ?_
    rintro w1 ⟨⟨_, K_w1, E_w1⟩, rfl⟩
    clear _ne r0 r1
    have hw_w1 := K_w1.below
    have hz_w1 := K_w1.size
    clear K_w1
    have E1 := Lib.hid E_w1
    clear E_w1
    have k0_w1 : w1.cell? ⟨P, 0, none⟩ = some (.int .i64 b.n) := E1.out.cell 0
    have k8_w1 : w1.cell? ⟨P, 8, none⟩ = some (.int .i64 b.s1) := E1.out.cell 8
    have f8_w1 : w1.frozen? ⟨P, 8, none⟩ = false := E1.out.free 8
    have f9_w1 : w1.frozen? ⟨P, 9, none⟩ = false := E1.out.free 9
    have k9_w1 : w1.cell? ⟨P, 9, none⟩ = some (.bool b.a1) := E1.out.cell 9
    go_wp2_with fail
    obtain ⟨w2, hw2⟩ : ∃ w2, w2 = w1.setCell ⟨P, 8, none⟩ (.int .i64 (b.s1 + 1)) := ⟨_, rfl⟩
    rw [← hw2]
    have E2 : BookAt w2 P { b with s1 := b.s1 + 1 } := by rw [hw2]; exact E1.out.set 8 _ rfl
    have O2 : Only P w w2 := by rw [hw2]; exact (Only.of hw_w1).setCell _ _
    clear hw2
    have k0_w2 : w2.cell? ⟨P, 0, none⟩ = some (.int .i64 b.n) := E2.cell 0
    have kq_w2 : w2.cell? ⟨P, 8, none⟩ = some (.int .i64 (b.s1 + 1)) := E2.cell 8
    have ka_w2 : w2.cell? ⟨P, 9, none⟩ = some (.bool b.a1) := E2.cell 9
    have fa_w2 : w2.frozen? ⟨P, 9, none⟩ = false := E2.free 9
    have E2H := Lib.hid E2
    clear E2
    go_still_tail 13, (by kernel_rfl)
    go_wp2_with fail
    go_returns
    exact ⟨by rw [e1.out]; rfl, by rw [e1.out]; exact (E2H.out.drew).set 9 _ rfl, (O2.drew).setCell _ _⟩
  · have e1 : Hid (b.strike1 = { b with a1 := (b.s1 == b.n) }) := Lib.hid (by simp [Bk.strike1, hs])
    go_enter Try.func22, Try.ntmps22
    go_wp2_with fail
    with_reducible refine (of29_1 P b _ hb h1).mono ?_
    rintro e w' ⟨rfl, rfl⟩
    go_wp2_with fail
    refine wp_region_keptX (w := w) (B := w.heap.size) (n := w.heap.size) (L := []) (E := fun W => BookAt W P b) ⟨by go_grown, by go_size, (by simp [go_sem] <;> omega)⟩ hb (fun _ _ h hb => h.below hb) (by kernel_rfl) (by kernel_rfl) (fun _ne => ?_)
    have r0 : ∀ s : KX (w.heap.size) w (w.heap.size) [] (fun W => BookAt W P b), s.val.cell? ⟨P, 0, none⟩ = some (.int .i64 b.n) := fun s => s.ex.cell 0
    have r1 : ∀ s : KX (w.heap.size) w (w.heap.size) [] (fun W => BookAt W P b), s.val.cell? ⟨P, 8, none⟩ = some (.int .i64 b.s1) := fun s => s.ex.cell 8
    repeat (go_big_quiet_step (fail))
    refine wpQuiet_nil ?_
    rintro w1 ⟨⟨_, K_w1, E_w1⟩, rfl⟩
    clear _ne r0 r1
    have hw_w1 := K_w1.below
    have hz_w1 := K_w1.size
    clear K_w1
    have E1 := Lib.hid E_w1
    clear E_w1
    have k0_w1 : w1.cell? ⟨P, 0, none⟩ = some (.int .i64 b.n) := E1.out.cell 0
    have k8_w1 : w1.cell? ⟨P, 8, none⟩ = some (.int .i64 b.s1) := E1.out.cell 8
    have f8_w1 : w1.frozen? ⟨P, 8, none⟩ = false := E1.out.free 8
    have f9_w1 : w1.frozen? ⟨P, 9, none⟩ = false := E1.out.free 9
    have k9_w1 : w1.cell? ⟨P, 9, none⟩ = some (.bool b.a1) := E1.out.cell 9
    go_wp2_with fail
    go_still_tail 13, (by kernel_rfl)
    go_wp2_with fail
    go_returns
    exact ⟨by rw [e1.out]; rfl, by rw [e1.out]; exact (E1.out.drew).set 9 _ rfl, ((Only.of hw_w1).drew).setCell _ _⟩

set_option maxRecDepth 100000 in
set_option maxHeartbeats 2000000 in
theorem answer23_0 (P : Nat) (b : Bk) (w : World) (hb : BookAt w P b) (h1 : 1 ≤ b.n) :
    Calls Try.prog 23 #[.pointer (some ⟨P, 0, none⟩), .int .i64 0] w fun e w' => e = .returned (.int .i64 0) ∧ BookAt w' P b.answer0 ∧ Only P w w' := by
  have hlt := hb.lt
  have k4 : w.cell? ⟨P, 4, none⟩ = some (.int .i64 b.s0) := hb.cell 4
  have k5 : w.cell? ⟨P, 5, none⟩ = some (.bool b.a0) := hb.cell 5
  have f4 : w.frozen? ⟨P, 4, none⟩ = false := hb.free 4
  have f5 : w.frozen? ⟨P, 5, none⟩ = false := hb.free 5
  go_enter Try.func23, Try.ntmps23
  go_wp2_with fail
  with_reducible refine (of29_0 P b _ hb h1).mono ?_
  rintro e w' ⟨rfl, rfl⟩
  go_wp2_with fail
  go_returns
  exact ⟨rfl, (hb.set 4 _ (b' := { b with s0 := 0 }) rfl).set 5 _ rfl, ((Only.refl _ _).setCell _ _).setCell _ _⟩

set_option maxRecDepth 100000 in
set_option maxHeartbeats 2000000 in
theorem join14_0_late (P : Nat) (b : Bk) (t : Int) (w : World) (hb : BookAt w P b) (ok : b.Ok) (hd : over b.d0 t = true) :
    Calls Try.prog 14 #[.pointer (some ⟨P, 0, none⟩), .int .i64 0, .int .u64 t] w fun e w' => e = .returned (.int .i64 15) ∧ BookAt w' P b ∧ Only P w w' := by
  have h1 := ok.n1
  have hg : U b.g := by have := ok.g1; have := ok.g2; unfold U; omega
  have hlt := hb.lt
  have HD := Lib.hid hd
  clear hd
  go_enter Try.func14, Try.ntmps14
  go_wp2_with fail
  with_reducible refine (of29_0 P b _ hb h1).mono ?_
  rintro e w' ⟨rfl, rfl⟩
  go_wp2_with fail
  refine wp_region_keptX (w := w) (B := w.heap.size) (n := w.heap.size) (L := []) (E := fun W => BookAt W P b) ⟨by go_grown, by go_size, (by simp [go_sem] <;> omega)⟩ hb (fun _ _ h hb => h.below hb) (by kernel_rfl) (by kernel_rfl) (fun _ne => ?_)
  have r1 : ∀ s : KX (w.heap.size) w (w.heap.size) [] (fun W => BookAt W P b), s.val.cell? ⟨P, 1, none⟩ = some (.int .u64 b.g) := fun s => s.ex.cell 1
  repeat (go_big_quiet_step (first | (go_at_call 31; rename_i s; with_reducible exact calls_keptX0 (due31_0 P b _ s.ex ok.t0 hg)) | (go_at_call 30; rename_i s; with_reducible exact calls_keptX0 (due30c _ _ _ _ HD.out))))
  refine wpQuiet_nil ?_
  rintro w1 ⟨⟨_, K_w1, E_w1⟩, rfl⟩
  clear _ne r1
  have hw_w1 := K_w1.below
  have hz_w1 := K_w1.size
  clear K_w1
  have E1 := Lib.hid E_w1
  clear E_w1
  go_wp2_with fail
  go_returns
  exact ⟨rfl, E1.out, Only.of hw_w1⟩

set_option maxRecDepth 100000 in
set_option maxHeartbeats 2000000 in
theorem join14_0 (P : Nat) (b : Bk) (t : Int) (w : World) (hb : BookAt w P b) (ok : b.Ok) (hd : over b.d0 t = false) :
    Calls Try.prog 14 #[.pointer (some ⟨P, 0, none⟩), .int .i64 0, .int .u64 t] w fun e w' => e = .returned (.int .i64 0) ∧ BookAt w' P b.join0 ∧ Only P w w' := by
  have h1 := ok.n1
  have hg : U b.g := by have := ok.g1; have := ok.g2; unfold U; omega
  have hlt := hb.lt
  have HD := Lib.hid hd
  clear hd
  go_enter Try.func14, Try.ntmps14
  go_wp2_with fail
  with_reducible refine (of29_0 P b _ hb h1).mono ?_
  rintro e w' ⟨rfl, rfl⟩
  go_wp2_with fail
  refine wp_region_keptX (w := w) (B := w.heap.size) (n := w.heap.size) (L := []) (E := fun W => BookAt W P b) ⟨by go_grown, by go_size, (by simp [go_sem] <;> omega)⟩ hb (fun _ _ h hb => h.below hb) (by kernel_rfl) (by kernel_rfl) (fun _ne => ?_)
  have r1 : ∀ s : KX (w.heap.size) w (w.heap.size) [] (fun W => BookAt W P b), s.val.cell? ⟨P, 1, none⟩ = some (.int .u64 b.g) := fun s => s.ex.cell 1
  repeat (go_big_quiet_step (first | (go_at_call 31; rename_i s; with_reducible exact calls_keptX0 (due31_0 P b _ s.ex ok.t0 hg)) | (go_at_call 30; rename_i s; with_reducible exact calls_keptX0 (due30c _ _ _ _ HD.out))))
  refine wpQuiet_nil ?_
  rintro w1 ⟨⟨_, K_w1, E_w1⟩, rfl⟩
  clear _ne r1
  have hw_w1 := K_w1.below
  have hz_w1 := K_w1.size
  clear K_w1
  have E1 := Lib.hid E_w1
  clear E_w1
  have k2_w1 : w1.cell? ⟨P, 2, none⟩ = some (.bool b.h0) := E1.out.cell 2
  have f2_w1 : w1.frozen? ⟨P, 2, none⟩ = false := E1.out.free 2
  go_wp2_with fail
  go_returns
  exact ⟨rfl, E1.out.set 2 _ rfl, (Only.of hw_w1).setCell _ _⟩

set_option maxRecDepth 100000 in
set_option maxHeartbeats 2000000 in
theorem leave16_0 (P : Nat) (b : Bk) (t : Int) (w : World) (hb : BookAt w P b) (h1 : 1 ≤ b.n) :
    Calls Try.prog 16 #[.pointer (some ⟨P, 0, none⟩), .int .i64 0, .int .u64 t] w fun e w' => e = .returned (.int .i64 0) ∧ BookAt w' P (b.leave0 t) ∧ Only P w w' := by
  have hlt := hb.lt
  have k2 : w.cell? ⟨P, 2, none⟩ = some (.bool b.h0) := hb.cell 2
  have k3 : w.cell? ⟨P, 3, none⟩ = some (.int .u64 b.t0) := hb.cell 3
  have f2 : w.frozen? ⟨P, 2, none⟩ = false := hb.free 2
  have f3 : w.frozen? ⟨P, 3, none⟩ = false := hb.free 3
  cases hh : b.h0
  · have e1 : Hid (b.leave0 t = b) := Lib.hid (by simp [Bk.leave0, hh])
    go_enter Try.func16, Try.ntmps16
    go_wp2_with fail
    with_reducible refine (of29_0 P b _ hb h1).mono ?_
    rintro e w' ⟨rfl, rfl⟩
    go_wp2_with fail
    go_returns
    exact ⟨rfl, by rw [e1.out]; exact hb, Only.refl _ _⟩
  · have e1 : Hid (b.leave0 t = { b with h0 := false, t0 := t }) := Lib.hid (by simp [Bk.leave0, hh])
    go_enter Try.func16, Try.ntmps16
    go_wp2_with fail
    with_reducible refine (of29_0 P b _ hb h1).mono ?_
    rintro e w' ⟨rfl, rfl⟩
    go_wp2_with fail
    go_returns
    exact ⟨rfl, by rw [e1.out]; exact (hb.set 2 _ (b' := { b with h0 := false }) rfl).set 3 _ rfl, ((Only.refl _ _).setCell _ _).setCell _ _⟩

set_option maxRecDepth 100000 in
set_option maxHeartbeats 2000000 in
theorem answer23_1 (P : Nat) (b : Bk) (w : World) (hb : BookAt w P b) (h1 : 1 ≤ b.n) :
    Calls Try.prog 23 #[.pointer (some ⟨P, 0, none⟩), .int .i64 1] w fun e w' => e = .returned (.int .i64 0) ∧ BookAt w' P b.answer1 ∧ Only P w w' := by
  have hlt := hb.lt
  have k8 : w.cell? ⟨P, 8, none⟩ = some (.int .i64 b.s1) := hb.cell 8
  have k9 : w.cell? ⟨P, 9, none⟩ = some (.bool b.a1) := hb.cell 9
  have f8 : w.frozen? ⟨P, 8, none⟩ = false := hb.free 8
  have f9 : w.frozen? ⟨P, 9, none⟩ = false := hb.free 9
  go_enter Try.func23, Try.ntmps23
  go_wp2_with fail
  with_reducible refine (of29_1 P b _ hb h1).mono ?_
  rintro e w' ⟨rfl, rfl⟩
  go_wp2_with fail
  go_returns
  exact ⟨rfl, (hb.set 8 _ (b' := { b with s1 := 0 }) rfl).set 9 _ rfl, ((Only.refl _ _).setCell _ _).setCell _ _⟩

set_option maxRecDepth 100000 in
set_option maxHeartbeats 2000000 in
theorem join14_1_late (P : Nat) (b : Bk) (t : Int) (w : World) (hb : BookAt w P b) (ok : b.Ok) (hd : over b.d1 t = true) :
    Calls Try.prog 14 #[.pointer (some ⟨P, 0, none⟩), .int .i64 1, .int .u64 t] w fun e w' => e = .returned (.int .i64 15) ∧ BookAt w' P b ∧ Only P w w' := by
  have h1 := ok.n1
  have hg : U b.g := by have := ok.g1; have := ok.g2; unfold U; omega
  have hlt := hb.lt
  have HD := Lib.hid hd
  clear hd
  go_enter Try.func14, Try.ntmps14
  go_wp2_with fail
  with_reducible refine (of29_1 P b _ hb h1).mono ?_
  rintro e w' ⟨rfl, rfl⟩
  go_wp2_with fail
  refine wp_region_keptX (w := w) (B := w.heap.size) (n := w.heap.size) (L := []) (E := fun W => BookAt W P b) ⟨by go_grown, by go_size, (by simp [go_sem] <;> omega)⟩ hb (fun _ _ h hb => h.below hb) (by kernel_rfl) (by kernel_rfl) (fun _ne => ?_)
  have r1 : ∀ s : KX (w.heap.size) w (w.heap.size) [] (fun W => BookAt W P b), s.val.cell? ⟨P, 1, none⟩ = some (.int .u64 b.g) := fun s => s.ex.cell 1
  repeat (go_big_quiet_step (first | (go_at_call 31; rename_i s; with_reducible exact calls_keptX0 (due31_1 P b _ s.ex ok.t1 hg)) | (go_at_call 30; rename_i s; with_reducible exact calls_keptX0 (due30c _ _ _ _ HD.out))))
  refine wpQuiet_nil ?_
  rintro w1 ⟨⟨_, K_w1, E_w1⟩, rfl⟩
  clear _ne r1
  have hw_w1 := K_w1.below
  have hz_w1 := K_w1.size
  clear K_w1
  have E1 := Lib.hid E_w1
  clear E_w1
  go_wp2_with fail
  go_returns
  exact ⟨rfl, E1.out, Only.of hw_w1⟩

set_option maxRecDepth 100000 in
set_option maxHeartbeats 2000000 in
theorem join14_1 (P : Nat) (b : Bk) (t : Int) (w : World) (hb : BookAt w P b) (ok : b.Ok) (hd : over b.d1 t = false) :
    Calls Try.prog 14 #[.pointer (some ⟨P, 0, none⟩), .int .i64 1, .int .u64 t] w fun e w' => e = .returned (.int .i64 0) ∧ BookAt w' P b.join1 ∧ Only P w w' := by
  have h1 := ok.n1
  have hg : U b.g := by have := ok.g1; have := ok.g2; unfold U; omega
  have hlt := hb.lt
  have HD := Lib.hid hd
  clear hd
  go_enter Try.func14, Try.ntmps14
  go_wp2_with fail
  with_reducible refine (of29_1 P b _ hb h1).mono ?_
  rintro e w' ⟨rfl, rfl⟩
  go_wp2_with fail
  refine wp_region_keptX (w := w) (B := w.heap.size) (n := w.heap.size) (L := []) (E := fun W => BookAt W P b) ⟨by go_grown, by go_size, (by simp [go_sem] <;> omega)⟩ hb (fun _ _ h hb => h.below hb) (by kernel_rfl) (by kernel_rfl) (fun _ne => ?_)
  have r1 : ∀ s : KX (w.heap.size) w (w.heap.size) [] (fun W => BookAt W P b), s.val.cell? ⟨P, 1, none⟩ = some (.int .u64 b.g) := fun s => s.ex.cell 1
  repeat (go_big_quiet_step (first | (go_at_call 31; rename_i s; with_reducible exact calls_keptX0 (due31_1 P b _ s.ex ok.t1 hg)) | (go_at_call 30; rename_i s; with_reducible exact calls_keptX0 (due30c _ _ _ _ HD.out))))
  refine wpQuiet_nil ?_
  rintro w1 ⟨⟨_, K_w1, E_w1⟩, rfl⟩
  clear _ne r1
  have hw_w1 := K_w1.below
  have hz_w1 := K_w1.size
  clear K_w1
  have E1 := Lib.hid E_w1
  clear E_w1
  have k6_w1 : w1.cell? ⟨P, 6, none⟩ = some (.bool b.h1) := E1.out.cell 6
  have f6_w1 : w1.frozen? ⟨P, 6, none⟩ = false := E1.out.free 6
  go_wp2_with fail
  go_returns
  exact ⟨rfl, E1.out.set 6 _ rfl, (Only.of hw_w1).setCell _ _⟩

set_option maxRecDepth 100000 in
set_option maxHeartbeats 2000000 in
theorem leave16_1 (P : Nat) (b : Bk) (t : Int) (w : World) (hb : BookAt w P b) (h1 : 1 ≤ b.n) :
    Calls Try.prog 16 #[.pointer (some ⟨P, 0, none⟩), .int .i64 1, .int .u64 t] w fun e w' => e = .returned (.int .i64 0) ∧ BookAt w' P (b.leave1 t) ∧ Only P w w' := by
  have hlt := hb.lt
  have k6 : w.cell? ⟨P, 6, none⟩ = some (.bool b.h1) := hb.cell 6
  have k7 : w.cell? ⟨P, 7, none⟩ = some (.int .u64 b.t1) := hb.cell 7
  have f6 : w.frozen? ⟨P, 6, none⟩ = false := hb.free 6
  have f7 : w.frozen? ⟨P, 7, none⟩ = false := hb.free 7
  cases hh : b.h1
  · have e1 : Hid (b.leave1 t = b) := Lib.hid (by simp [Bk.leave1, hh])
    go_enter Try.func16, Try.ntmps16
    go_wp2_with fail
    with_reducible refine (of29_1 P b _ hb h1).mono ?_
    rintro e w' ⟨rfl, rfl⟩
    go_wp2_with fail
    go_returns
    exact ⟨rfl, by rw [e1.out]; exact hb, Only.refl _ _⟩
  · have e1 : Hid (b.leave1 t = { b with h1 := false, t1 := t }) := Lib.hid (by simp [Bk.leave1, hh])
    go_enter Try.func16, Try.ntmps16
    go_wp2_with fail
    with_reducible refine (of29_1 P b _ hb h1).mono ?_
    rintro e w' ⟨rfl, rfl⟩
    go_wp2_with fail
    go_returns
    exact ⟨rfl, by rw [e1.out]; exact (hb.set 6 _ (b' := { b with h1 := false }) rfl).set 7 _ rfl, ((Only.refl _ _).setCell _ _).setCell _ _⟩

set_option maxRecDepth 100000 in
set_option maxHeartbeats 2000000 in
theorem strike22_bad (P : Nat) (b : Bk) (p : Int) (w : World) (hb : BookAt w P b) (h1 : 1 ≤ b.n) (h2 : p ≠ 0) (h3 : p ≠ 1) :
    Calls Try.prog 22 #[.pointer (some ⟨P, 0, none⟩), .int .i64 p] w fun e w' => e = .returned (.tuple #[.bool false, .int .i64 2]) ∧ Below w.heap.size w w' := by
  have HB := Lib.hid hb
  have H2 := Lib.hid h2
  have H3 := Lib.hid h3
  clear h2 h3 hb
  go_enter Try.func22, Try.ntmps22
  go_wp2_with fail
  with_reducible refine (of29_bad P b p _ HB.out h1 H2.out H3.out).mono ?_
  rintro e w' ⟨rfl, rfl⟩
  go_wp2_with fail
  go_returns
  exact ⟨rfl, Below.refl _ _⟩

set_option maxRecDepth 100000 in
set_option maxHeartbeats 2000000 in
theorem strike22_nil (p : Int) (w : World) :
    Calls Try.prog 22 #[.pointer none, .int .i64 p] w fun e w' => e = .returned (.tuple #[.bool false, .int .i64 1]) ∧ Below w.heap.size w w' := by
  go_enter Try.func22, Try.ntmps22
  go_wp2_with fail
  with_reducible refine (of29_nil p _).mono ?_
  rintro e w' ⟨rfl, rfl⟩
  go_wp2_with fail
  go_returns
  exact ⟨rfl, Below.refl _ _⟩

set_option maxRecDepth 100000 in
set_option maxHeartbeats 2000000 in
theorem strike22_zero (P : Nat) (b : Bk) (p : Int) (w : World) (hb : BookAt w P b) (h1 : b.n = 0) (h2 : b.g = 0) :
    Calls Try.prog 22 #[.pointer (some ⟨P, 0, none⟩), .int .i64 p] w fun e w' => e = .returned (.tuple #[.bool false, .int .i64 1]) ∧ Below w.heap.size w w' := by
  have HB := Lib.hid hb
  have H1 := Lib.hid h1
  have H2 := Lib.hid h2
  clear hb h1 h2
  go_enter Try.func22, Try.ntmps22
  go_wp2_with fail
  with_reducible refine (of29_zero P b p _ HB.out H1.out H2.out).mono ?_
  rintro e w' ⟨rfl, rfl⟩
  go_wp2_with fail
  go_returns
  exact ⟨rfl, Below.refl _ _⟩

set_option maxRecDepth 100000 in
set_option maxHeartbeats 2000000 in
theorem answer23_bad (P : Nat) (b : Bk) (p : Int) (w : World) (hb : BookAt w P b) (h1 : 1 ≤ b.n) (h2 : p ≠ 0) (h3 : p ≠ 1) :
    Calls Try.prog 23 #[.pointer (some ⟨P, 0, none⟩), .int .i64 p] w fun e w' => e = .returned (.int .i64 2) ∧ Below w.heap.size w w' := by
  have HB := Lib.hid hb
  have H2 := Lib.hid h2
  have H3 := Lib.hid h3
  clear h2 h3 hb
  go_enter Try.func23, Try.ntmps23
  go_wp2_with fail
  with_reducible refine (of29_bad P b p _ HB.out h1 H2.out H3.out).mono ?_
  rintro e w' ⟨rfl, rfl⟩
  go_wp2_with fail
  go_returns
  exact ⟨rfl, Below.refl _ _⟩

set_option maxRecDepth 100000 in
set_option maxHeartbeats 2000000 in
theorem answer23_nil (p : Int) (w : World) :
    Calls Try.prog 23 #[.pointer none, .int .i64 p] w fun e w' => e = .returned (.int .i64 1) ∧ Below w.heap.size w w' := by
  go_enter Try.func23, Try.ntmps23
  go_wp2_with fail
  with_reducible refine (of29_nil p _).mono ?_
  rintro e w' ⟨rfl, rfl⟩
  go_wp2_with fail
  go_returns
  exact ⟨rfl, Below.refl _ _⟩

set_option maxRecDepth 100000 in
set_option maxHeartbeats 2000000 in
theorem answer23_zero (P : Nat) (b : Bk) (p : Int) (w : World) (hb : BookAt w P b) (h1 : b.n = 0) (h2 : b.g = 0) :
    Calls Try.prog 23 #[.pointer (some ⟨P, 0, none⟩), .int .i64 p] w fun e w' => e = .returned (.int .i64 1) ∧ Below w.heap.size w w' := by
  have HB := Lib.hid hb
  have H1 := Lib.hid h1
  have H2 := Lib.hid h2
  clear hb h1 h2
  go_enter Try.func23, Try.ntmps23
  go_wp2_with fail
  with_reducible refine (of29_zero P b p _ HB.out H1.out H2.out).mono ?_
  rintro e w' ⟨rfl, rfl⟩
  go_wp2_with fail
  go_returns
  exact ⟨rfl, Below.refl _ _⟩

set_option maxRecDepth 100000 in
set_option maxHeartbeats 2000000 in
theorem join14_bad (P : Nat) (b : Bk) (p : Int) (t : Int) (w : World) (hb : BookAt w P b) (h1 : 1 ≤ b.n) (h2 : p ≠ 0) (h3 : p ≠ 1) :
    Calls Try.prog 14 #[.pointer (some ⟨P, 0, none⟩), .int .i64 p, .int .u64 t] w fun e w' => e = .returned (.int .i64 2) ∧ Below w.heap.size w w' := by
  have HB := Lib.hid hb
  have H2 := Lib.hid h2
  have H3 := Lib.hid h3
  clear h2 h3 hb
  go_enter Try.func14, Try.ntmps14
  go_wp2_with fail
  with_reducible refine (of29_bad P b p _ HB.out h1 H2.out H3.out).mono ?_
  rintro e w' ⟨rfl, rfl⟩
  go_wp2_with fail
  go_returns
  exact ⟨rfl, Below.refl _ _⟩

set_option maxRecDepth 100000 in
set_option maxHeartbeats 2000000 in
theorem join14_nil (p : Int) (t : Int) (w : World) :
    Calls Try.prog 14 #[.pointer none, .int .i64 p, .int .u64 t] w fun e w' => e = .returned (.int .i64 1) ∧ Below w.heap.size w w' := by
  go_enter Try.func14, Try.ntmps14
  go_wp2_with fail
  with_reducible refine (of29_nil p _).mono ?_
  rintro e w' ⟨rfl, rfl⟩
  go_wp2_with fail
  go_returns
  exact ⟨rfl, Below.refl _ _⟩

set_option maxRecDepth 100000 in
set_option maxHeartbeats 2000000 in
theorem join14_zero (P : Nat) (b : Bk) (p : Int) (t : Int) (w : World) (hb : BookAt w P b) (h1 : b.n = 0) (h2 : b.g = 0) :
    Calls Try.prog 14 #[.pointer (some ⟨P, 0, none⟩), .int .i64 p, .int .u64 t] w fun e w' => e = .returned (.int .i64 1) ∧ Below w.heap.size w w' := by
  have HB := Lib.hid hb
  have H1 := Lib.hid h1
  have H2 := Lib.hid h2
  clear hb h1 h2
  go_enter Try.func14, Try.ntmps14
  go_wp2_with fail
  with_reducible refine (of29_zero P b p _ HB.out H1.out H2.out).mono ?_
  rintro e w' ⟨rfl, rfl⟩
  go_wp2_with fail
  go_returns
  exact ⟨rfl, Below.refl _ _⟩

set_option maxRecDepth 100000 in
set_option maxHeartbeats 2000000 in
theorem leave16_bad (P : Nat) (b : Bk) (p : Int) (t : Int) (w : World) (hb : BookAt w P b) (h1 : 1 ≤ b.n) (h2 : p ≠ 0) (h3 : p ≠ 1) :
    Calls Try.prog 16 #[.pointer (some ⟨P, 0, none⟩), .int .i64 p, .int .u64 t] w fun e w' => e = .returned (.int .i64 2) ∧ Below w.heap.size w w' := by
  have HB := Lib.hid hb
  have H2 := Lib.hid h2
  have H3 := Lib.hid h3
  clear h2 h3 hb
  go_enter Try.func16, Try.ntmps16
  go_wp2_with fail
  with_reducible refine (of29_bad P b p _ HB.out h1 H2.out H3.out).mono ?_
  rintro e w' ⟨rfl, rfl⟩
  go_wp2_with fail
  go_returns
  exact ⟨rfl, Below.refl _ _⟩

set_option maxRecDepth 100000 in
set_option maxHeartbeats 2000000 in
theorem leave16_nil (p : Int) (t : Int) (w : World) :
    Calls Try.prog 16 #[.pointer none, .int .i64 p, .int .u64 t] w fun e w' => e = .returned (.int .i64 1) ∧ Below w.heap.size w w' := by
  go_enter Try.func16, Try.ntmps16
  go_wp2_with fail
  with_reducible refine (of29_nil p _).mono ?_
  rintro e w' ⟨rfl, rfl⟩
  go_wp2_with fail
  go_returns
  exact ⟨rfl, Below.refl _ _⟩

set_option maxRecDepth 100000 in
set_option maxHeartbeats 2000000 in
theorem leave16_zero (P : Nat) (b : Bk) (p : Int) (t : Int) (w : World) (hb : BookAt w P b) (h1 : b.n = 0) (h2 : b.g = 0) :
    Calls Try.prog 16 #[.pointer (some ⟨P, 0, none⟩), .int .i64 p, .int .u64 t] w fun e w' => e = .returned (.int .i64 1) ∧ Below w.heap.size w w' := by
  have HB := Lib.hid hb
  have H1 := Lib.hid h1
  have H2 := Lib.hid h2
  clear hb h1 h2
  go_enter Try.func16, Try.ntmps16
  go_wp2_with fail
  with_reducible refine (of29_zero P b p _ HB.out H1.out H2.out).mono ?_
  rintro e w' ⟨rfl, rfl⟩
  go_wp2_with fail
  go_returns
  exact ⟨rfl, Below.refl _ _⟩

end Go.Proofs.Ytobkgdhniibopaa
