/- More contracts for the laws. -/
import Derived.Test.YtobkgdhniibopaaKnown
import Derived.Test.YtobkgdhniibopaaLooks
namespace Go.Proofs.Ytobkgdhniibopaa
open Go.RowKit Plain
set_option linter.unusedVariables false
set_option linter.unusedSimpArgs false

theorem valid9c (n g : Int) (v : Bool) (w : World) (hv : vC n g = v) : Calls Try.prog 9 #[.agg #[.int .i64 n, .int .u64 g]] w fun e w' => e = .returned (.bool v) ∧ Below w.heap.size w w' := by
  subst hv
  exact valid9 n g w
theorem ok_new {n g t : Int} (h : vC n g = true) (hg : 0 ≤ g) (ht : U t) : (bk0 n g t).Ok := by
  have := vC_true h
  exact ⟨by simp [bk0]; omega, by simp [bk0]; omega, hg, by simp [bk0]; omega, ht, ht, by simp [bk0], by simp [bk0]; omega, by simp [bk0], by simp [bk0]; omega, by simp [bk0]; omega, by simp [bk0]; omega⟩
theorem looks12n (P : Nat) (n g t : Int) (w : World) (hb : BookAt w P (bk0 n g t)) (ok : (bk0 n g t).Ok) :
    Calls Try.prog 12 #[.pointer (some ⟨P, 0, none⟩), .agg #[.int .i64 n, .int .u64 g, .int .i64 0, .bool false, .bool false, .int .u64 t, .int .i64 0, .bool false, .bool false, .int .u64 t], .int .u64 t] w fun e w' => e = .returned (.bool true) ∧ Below w.heap.size w w' :=
  looks12 P (bk0 n g t) t w hb ok
theorem over_nv (t : Int) : over 18446744073709551615 t = false := by simp [over]

set_option maxRecDepth 100000 in
set_option maxHeartbeats 2000000 in
theorem lost15_nil (t : Int) (w : World) :
    Calls Try.prog 15 #[.pointer none, .int .u64 t] w fun e w' => e = .returned (.int .i64 (-1)) ∧ Below w.heap.size w w' := by
  go_enter Try.func15, Try.ntmps15
  go_wp2_with fail
  with_reducible refine (due19_nil 0 _).mono ?_
  rintro e w1 ⟨rfl, hb_w1⟩
  have K_w1 : Kept w.heap.size w (w.heap.size) [] w1 := Kept.of hb_w1 (by go_grown) (by go_size) (by omega) (by simp [go_sem] <;> omega)
  clear hb_w1
  have KH_w1 := Lib.hid K_w1
  have hw_w1 := K_w1.below
  have hz_w1 := K_w1.size
  clear K_w1
  go_wp2_with fail
  with_reducible refine (due19_nil 1 _).mono ?_
  rintro e w2 ⟨rfl, hb_w2⟩
  have K_w2 : Kept w.heap.size w (w.heap.size) [] w2 := (KH_w1.out.step (by omega) (by go_grown)).step (by omega) hb_w2
  clear hb_w2
  have KH_w2 := Lib.hid K_w2
  have hw_w2 := K_w2.below
  have hz_w2 := K_w2.size
  clear K_w2
  go_wp2_with fail
  with_reducible refine (due30c 18446744073709551615 t _ _ (over_nv t)).mono ?_
  rintro e w' ⟨rfl, rfl⟩
  go_wp2_with fail
  go_returns
  exact ⟨rfl, by go_grown⟩

set_option maxRecDepth 100000 in
set_option maxHeartbeats 2000000 in
theorem lost15_zero (P : Nat) (b : Bk) (t : Int) (w : World) (hb : BookAt w P b) (h1 : b.n = 0) (h2 : b.g = 0) :
    Calls Try.prog 15 #[.pointer (some ⟨P, 0, none⟩), .int .u64 t] w fun e w' => e = .returned (.int .i64 (-1)) ∧ Below w.heap.size w w' := by
  have HB := Lib.hid hb
  have H1 := Lib.hid h1
  have H2 := Lib.hid h2
  have hlt := hb.lt
  clear hb h1 h2
  go_enter Try.func15, Try.ntmps15
  go_wp2_with fail
  with_reducible refine (due19_zero P b 0 _ HB.out H1.out H2.out).mono ?_
  rintro e w1 ⟨rfl, hb_w1⟩
  have K_w1 : Kept w.heap.size w (w.heap.size) [] w1 := Kept.of hb_w1 (by go_grown) (by go_size) (by omega) (by simp [go_sem] <;> omega)
  replace HB := Lib.hid (HB.out.below hb_w1)
  clear hb_w1
  have KH_w1 := Lib.hid K_w1
  have hw_w1 := K_w1.below
  have hz_w1 := K_w1.size
  clear K_w1
  go_wp2_with fail
  with_reducible refine (due19_zero P b 1 _ HB.out H1.out H2.out).mono ?_
  rintro e w2 ⟨rfl, hb_w2⟩
  have K_w2 : Kept w.heap.size w (w.heap.size) [] w2 := (KH_w1.out.step (by omega) (by go_grown)).step (by omega) hb_w2
  replace HB := Lib.hid (HB.out.below hb_w2)
  clear hb_w2
  have KH_w2 := Lib.hid K_w2
  have hw_w2 := K_w2.below
  have hz_w2 := K_w2.size
  clear K_w2
  go_wp2_with fail
  with_reducible refine (due30c 18446744073709551615 t _ _ (over_nv t)).mono ?_
  rintro e w' ⟨rfl, rfl⟩
  go_wp2_with fail
  go_returns
  exact ⟨rfl, by go_grown⟩

set_option maxRecDepth 100000 in
set_option maxHeartbeats 2000000 in
theorem over17 (s g now : Int) (v : Bool) (p q : Nat) (w : World) (hs : U s) (hg : 0 ≤ g) (hg2 : g ≤ 4294967296) (hn : U now) (c1 : w.cell? ⟨p, 1, none⟩ = some (.int .u64 g)) (c2 : w.cell? ⟨q, 0, none⟩ = some (.int .u64 now)) (hv : over (addN s g) now = v) :
    Calls Try.prog 17 #[.int .u64 s, .pointer (some ⟨p, 0, none⟩), .pointer (some ⟨q, 0, none⟩)] w fun e w' => e = .returned (.bool v) ∧ w = w' := by
  subst hv
  obtain ⟨s0, s1⟩ := hs
  obtain ⟨n0, n1⟩ := hn
  by_cases h1 : s < 18446744073709551615 - g
  · by_cases h2 : s + g ≤ now
    · have e1 : Hid (over (addN s g) now = true) := Lib.hid (by unfold addN; rw [if_neg (by omega)]; simp [over]; omega)
      have d1 : decide (s < 18446744073709551615 - g) = true := by simpa using h1
      go_enter Try.func17, Try.ntmps17
      go_wp2_with fail
      go_returns
      exact ⟨ret_bool e1.out.symm, rfl⟩
    · have e1 : Hid (over (addN s g) now = false) := Lib.hid (by unfold addN; rw [if_neg (by omega)]; simp [over]; omega)
      have d1 : decide (s < 18446744073709551615 - g) = true := by simpa using h1
      go_enter Try.func17, Try.ntmps17
      go_wp2_with fail
      go_returns
      exact ⟨ret_bool e1.out.symm, rfl⟩
  · have e1 : Hid (over (addN s g) now = false) := Lib.hid (by unfold addN; split <;> simp [over]; omega)
    have d1 : decide (s < 18446744073709551615 - g) = false := by simpa using h1
    go_enter Try.func17, Try.ntmps17
    go_wp2_with fail
    go_returns
    exact ⟨ret_bool e1.out.symm, rfl⟩

end Go.Proofs.Ytobkgdhniibopaa
