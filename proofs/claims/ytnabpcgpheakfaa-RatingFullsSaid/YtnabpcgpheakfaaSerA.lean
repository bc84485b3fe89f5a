/- Series. -/
import Derived.Test.YtnabpcgpheakfaaRow
import Derived.Test.YtnabpcgpheakfaaReg
import Derived.BigQuiet
import Derived.Laws.EntriesVeiled
import Derived.Laws.ByValue
namespace Go.Proofs.Ytnabpcgpheakfaa
open Go.RowKit Plain
set_option linter.unusedVariables false
set_option linter.unusedSimpArgs false

theorem vB_chg1 {a b f s : Int} (ha : vB a = true) (hb : vB b = true) : vB (a + chg a b f s) = true := by
  have ⟨a0, a1⟩ := vB_true ha
  have ⟨b0, b1⟩ := vB_true hb
  unfold chg vB
  generalize (f * (500 * s - ex a b)).tdiv 1000 = n
  simp only [decide_eq_true_eq]
  omega
theorem vB_chg2 {a b f s : Int} (ha : vB a = true) (hb : vB b = true) : vB (b - chg a b f s) = true := by
  have ⟨a0, a1⟩ := vB_true ha
  have ⟨b0, b1⟩ := vB_true hb
  unfold chg vB
  generalize (f * (500 * s - ex a b)).tdiv 1000 = n
  simp only [decide_eq_true_eq]
  omega
def sB (s : Int) : Bool := decide (0 ≤ s ∧ s ≤ 2)
def fB (f : Int) : Bool := decide (1 ≤ f ∧ f ≤ 64)
theorem alB_of (f s : Int) : alB f s = (fB f && sB s) := by
  unfold alB fB sB
  rw [Bool.eq_iff_iff]
  simp
  omega
/-- the ratings after one game -/
def st1 (f : Int) (xs : List Int) (a b : Nat) (s : Int) : List Int :=
  (xs.set a (xs.getD a 0 + chg (xs.getD a 0) (xs.getD b 0) f s)).set b (xs.getD b 0 - chg (xs.getD a 0) (xs.getD b 0) f s)
def plK (f : Int) (xs : List Int) (rows : List (List Int)) (scs : List Int) : Nat → List Int
  | 0 => xs
  | k + 1 => st1 f (plK f xs rows scs k) ((rows.getD k []).getD 0 0).toNat ((rows.getD k []).getD 1 0).toNat (scs.getD k 0)
theorem plK_len (f : Int) (xs : List Int) (rows : List (List Int)) (scs : List Int) : ∀ k, (plK f xs rows scs k).length = xs.length
  | 0 => rfl
  | k + 1 => by simp [plK, st1, plK_len f xs rows scs k]
theorem plK_v (f : Int) (xs : List Int) (rows : List (List Int)) (scs : List Int) (h : (xs.any fun z => !vB z) = false) : ∀ (k i : Nat) (z : Int), (plK f xs rows scs k)[i]? = some z → vB z = true
  | 0, i, z, hz => by
    rw [List.any_eq_false] at h
    have := h z (List.mem_of_getElem? hz)
    simpa using this
  | k + 1, i, z, hz => by
    have ih := plK_v f xs rows scs h k
    have v0 : ∀ j, vB ((plK f xs rows scs k).getD j 0) = true := by
      intro j
      rw [List.getD_eq_getElem?_getD]
      cases hj : (plK f xs rows scs k)[j]? with
      | none => rfl
      | some y => exact ih j y hj
    simp only [plK, st1, List.getElem?_set] at hz
    split at hz
    · split at hz
      · simp at hz
        subst hz
        exact vB_chg2 (v0 _) (v0 _)
      · simp at hz
    · split at hz
      · split at hz
        · simp at hz
          subst hz
          exact vB_chg1 (v0 _) (v0 _)
        · simp at hz
      · exact ih i z hz
theorem notbad {n : Nat} {a b : Int} (h : dB n a b = false) : ∃ A B : Nat, a = A ∧ b = B ∧ A < n ∧ B < n ∧ A ≠ B := by
  simp [dB, inB] at h
  exact ⟨a.toNat, b.toNat, by omega, by omega, by omega, by omega, by omega⟩
/-- which error Series returns -/
def SerAt (w : World) (f : Int) (xs : List Int) (rows : List (List Int)) (scs : List Int) (e : Ending) (w' : World) : Prop :=
  ((scs.any (fun s => !sB s) = false ∧ ∃ v, e = .returned (.tuple #[v, .int .i64 0]) ∧ Out w' w.heap.size v (plK f xs rows scs rows.length)) ∨ (scs.any (fun s => !sB s) = true ∧ e = .returned (.tuple #[.slice none 0 0, .int .i64 3]))) ∧ Below w.heap.size w w'
def SerRel (w : World) (f : Int) (xs : List Int) (rows : List (List Int)) (scs : List Int) (g : Nat) (ex : List Value) (i : Value) (wr : World) : Prop :=
  ∃ k : Nat, k ≤ rows.length ∧ i = .int .i64 k ∧ ((scs.take k).any fun s => !sB s) = false ∧ IAt wr g (plK f xs rows scs k) ex ∧ Below w.heap.size w wr
set_option maxRecDepth 100000 in
set_option maxHeartbeats 2000000 in
theorem series19_long (v gv sv : Value) (f : Int) (xs : List Int) (rows : List (List Int)) (scs : List Int) (w : World) (hs : Seg w .i64 v xs) (hg : SRow [.i64, .i64] w gv rows) (hc : Seg w .i64 sv scs) (h : 100 < xs.length ∨ 1000 < rows.length) : Calls Try.prog 19 #[v, .int .i64 f, gv, sv] w fun e w' => e = .returned (.tuple #[.slice none 0 0, .int .i64 5]) ∧ Below w.heap.size w w' := by
  obtain ⟨m1, a1, c1, rfl, f1⟩ := seg_form hs
  obtain ⟨m2, a2, c2, rfl, f2⟩ := srow_form hg
  obtain ⟨m3, a3, c3, rfl, f3⟩ := seg_form hc
  have HSX := Lib.hid hs
  have HGX := Lib.hid hg
  have F2 := Lib.hid f2
  have F3 := Lib.hid f3
  clear hs hg hc f1 f2 f3

  by_cases h1 : 100 < xs.length
  · clear h
    go_enter Try.func19, Try.ntmps19
    go_wp2_with fail
    exact bodyPost_ret (v := .tuple #[.slice none 0 0, .int .i64 5]) (by simp [results, Try.results19, go_sem]) rfl ⟨rfl, by go_grown⟩
  · have h2 : 1000 < rows.length := by omega
    clear h
    go_enter Try.func19, Try.ntmps19
    go_wp2_with fail
    exact bodyPost_ret (v := .tuple #[.slice none 0 0, .int .i64 5]) (by simp [results, Try.results19, go_sem]) rfl ⟨rfl, by go_grown⟩
set_option maxRecDepth 100000 in
set_option maxHeartbeats 2000000 in
theorem series19_arg (v gv sv : Value) (f : Int) (xs : List Int) (rows : List (List Int)) (scs : List Int) (w : World) (hs : Seg w .i64 v xs) (hg : SRow [.i64, .i64] w gv rows) (hc : Seg w .i64 sv scs) (h1 : xs.length ≤ 100) (h2 : rows.length ≤ 1000) (h : rows.length ≠ scs.length ∨ rows.any (badR xs.length) = true) : Calls Try.prog 19 #[v, .int .i64 f, gv, sv] w fun e w' => e = .returned (.tuple #[.slice none 0 0, .int .i64 2]) ∧ Below w.heap.size w w' := by
  obtain ⟨m1, a1, c1, rfl, f1⟩ := seg_form hs
  obtain ⟨m2, a2, c2, rfl, f2⟩ := srow_form hg
  obtain ⟨m3, a3, c3, rfl, f3⟩ := seg_form hc
  have HSX := Lib.hid hs
  have HGX := Lib.hid hg
  have F2 := Lib.hid f2
  have F3 := Lib.hid f3
  clear hs hg hc f1 f2 f3

  by_cases q : rows.length = scs.length
  · replace h : rows.any (badR xs.length) = true := by
      rcases h with h | h
      · exact absurd q h
      · exact h
    have q1 : ((rows.length : Int) != (scs.length : Int)) = false := by simp [q]
    have HQ := Lib.hid q
    clear q
    go_enter Try.func19, Try.ntmps19
    go_wp2_with fail
    with_reducible refine (contains24 _ rows xs.length c1 w.heap.size (w.heap.size + 1) a1 _ (by simp) (by simp; omega) (by simp) (by simp) (by exact HGX.out.below (by go_grown))).mono ?_
    rintro e w1 ⟨rfl, hb_w1⟩
    have K_w1 : Kept w.heap.size w (w.heap.size + 2) [(w.heap.size, 0, .slice a1 xs.length c1), (w.heap.size + 1, 0, .func (.func 23) #[] #[.pointer (some ⟨w.heap.size, 0, none⟩)])] w1 := Kept.of hb_w1 (by go_grown) (by go_size) (by omega) (by simp [go_sem] <;> omega)
    clear hb_w1
    have KH_w1 := Lib.hid K_w1
    have hw_w1 := K_w1.below
    have hz_w1 := K_w1.size
    have lS_w1 : w.heap.size < w1.heap.size := by omega
    have cS0_w1 := K_w1.at (b := w.heap.size) (o := 0) (v := .slice a1 xs.length c1) (by simp)
    have fS0_w1 := K_w1.free (b := w.heap.size) (o := 0) (v := .slice a1 xs.length c1) (by simp)
    have lF_w1 : w.heap.size + 1 < w1.heap.size := by omega
    have cF0_w1 := K_w1.at (b := w.heap.size + 1) (o := 0) (v := .func (.func 23) #[] #[.pointer (some ⟨w.heap.size, 0, none⟩)]) (by simp)
    have fF0_w1 := K_w1.free (b := w.heap.size + 1) (o := 0) (v := .func (.func 23) #[] #[.pointer (some ⟨w.heap.size, 0, none⟩)]) (by simp)
    clear K_w1
    go_wp2_with fail
    exact bodyPost_ret (v := .tuple #[.slice none 0 0, .int .i64 2]) (by simp [results, Try.results19, go_sem]) rfl ⟨rfl, by go_grown⟩
  · have q1 : ((rows.length : Int) != (scs.length : Int)) = true := by simp; omega
    clear h q
    go_enter Try.func19, Try.ntmps19
    go_wp2_with fail
    exact bodyPost_ret (v := .tuple #[.slice none 0 0, .int .i64 2]) (by simp [results, Try.results19, go_sem]) rfl ⟨rfl, by go_grown⟩
set_option maxRecDepth 100000 in
set_option maxHeartbeats 2000000 in
theorem series19_range (v gv sv : Value) (f : Int) (xs : List Int) (rows : List (List Int)) (scs : List Int) (w : World) (hs : Seg w .i64 v xs) (hg : SRow [.i64, .i64] w gv rows) (hc : Seg w .i64 sv scs) (h1 : xs.length ≤ 100) (h2 : rows.length ≤ 1000) (q : rows.length = scs.length) (h : rows.any (badR xs.length) = false) (h3 : fB f = false ∨ (xs.any fun z => !vB z) = true) : Calls Try.prog 19 #[v, .int .i64 f, gv, sv] w fun e w' => e = .returned (.tuple #[.slice none 0 0, .int .i64 3]) ∧ Below w.heap.size w w' := by
  obtain ⟨m1, a1, c1, rfl, f1⟩ := seg_form hs
  obtain ⟨m2, a2, c2, rfl, f2⟩ := srow_form hg
  obtain ⟨m3, a3, c3, rfl, f3⟩ := seg_form hc
  have HSX := Lib.hid hs
  have HGX := Lib.hid hg
  have F2 := Lib.hid f2
  have F3 := Lib.hid f3
  clear hs hg hc f1 f2 f3

  have q1 : ((rows.length : Int) != (scs.length : Int)) = false := by simp [q]
  have HQ := Lib.hid q
  clear q
  by_cases g1 : f < 1
  · clear h3
    go_enter Try.func19, Try.ntmps19
    go_wp2_with fail
    with_reducible refine (contains24 _ rows xs.length c1 w.heap.size (w.heap.size + 1) a1 _ (by simp) (by simp; omega) (by simp) (by simp) (by exact HGX.out.below (by go_grown))).mono ?_
    rintro e w1 ⟨rfl, hb_w1⟩
    have K_w1 : Kept w.heap.size w (w.heap.size + 2) [(w.heap.size, 0, .slice a1 xs.length c1), (w.heap.size + 1, 0, .func (.func 23) #[] #[.pointer (some ⟨w.heap.size, 0, none⟩)])] w1 := Kept.of hb_w1 (by go_grown) (by go_size) (by omega) (by simp [go_sem] <;> omega)
    clear hb_w1
    have KH_w1 := Lib.hid K_w1
    have hw_w1 := K_w1.below
    have hz_w1 := K_w1.size
    have lS_w1 : w.heap.size < w1.heap.size := by omega
    have cS0_w1 := K_w1.at (b := w.heap.size) (o := 0) (v := .slice a1 xs.length c1) (by simp)
    have fS0_w1 := K_w1.free (b := w.heap.size) (o := 0) (v := .slice a1 xs.length c1) (by simp)
    have lF_w1 : w.heap.size + 1 < w1.heap.size := by omega
    have cF0_w1 := K_w1.at (b := w.heap.size + 1) (o := 0) (v := .func (.func 23) #[] #[.pointer (some ⟨w.heap.size, 0, none⟩)]) (by simp)
    have fF0_w1 := K_w1.free (b := w.heap.size + 1) (o := 0) (v := .func (.func 23) #[] #[.pointer (some ⟨w.heap.size, 0, none⟩)]) (by simp)
    clear K_w1
    go_wp2_with fail
    exact bodyPost_ret (v := .tuple #[.slice none 0 0, .int .i64 3]) (by simp [results, Try.results19, go_sem]) rfl ⟨rfl, by go_grown⟩
  · by_cases g2 : 64 < f
    · clear h3
      go_enter Try.func19, Try.ntmps19
      go_wp2_with fail
      with_reducible refine (contains24 _ rows xs.length c1 w.heap.size (w.heap.size + 1) a1 _ (by simp) (by simp; omega) (by simp) (by simp) (by exact HGX.out.below (by go_grown))).mono ?_
      rintro e w1 ⟨rfl, hb_w1⟩
      have K_w1 : Kept w.heap.size w (w.heap.size + 2) [(w.heap.size, 0, .slice a1 xs.length c1), (w.heap.size + 1, 0, .func (.func 23) #[] #[.pointer (some ⟨w.heap.size, 0, none⟩)])] w1 := Kept.of hb_w1 (by go_grown) (by go_size) (by omega) (by simp [go_sem] <;> omega)
      clear hb_w1
      have KH_w1 := Lib.hid K_w1
      have hw_w1 := K_w1.below
      have hz_w1 := K_w1.size
      have lS_w1 : w.heap.size < w1.heap.size := by omega
      have cS0_w1 := K_w1.at (b := w.heap.size) (o := 0) (v := .slice a1 xs.length c1) (by simp)
      have fS0_w1 := K_w1.free (b := w.heap.size) (o := 0) (v := .slice a1 xs.length c1) (by simp)
      have lF_w1 : w.heap.size + 1 < w1.heap.size := by omega
      have cF0_w1 := K_w1.at (b := w.heap.size + 1) (o := 0) (v := .func (.func 23) #[] #[.pointer (some ⟨w.heap.size, 0, none⟩)]) (by simp)
      have fF0_w1 := K_w1.free (b := w.heap.size + 1) (o := 0) (v := .func (.func 23) #[] #[.pointer (some ⟨w.heap.size, 0, none⟩)]) (by simp)
      clear K_w1
      go_wp2_with fail
      exact bodyPost_ret (v := .tuple #[.slice none 0 0, .int .i64 3]) (by simp [results, Try.results19, go_sem]) rfl ⟨rfl, by go_grown⟩
    · replace h3 : (xs.any fun z => !vB z) = true := by
        rcases h3 with h3 | h3
        · simp [fB] at h3; omega
        · exact h3
      go_enter Try.func19, Try.ntmps19
      go_wp2_with fail
      with_reducible refine (contains24 _ rows xs.length c1 w.heap.size (w.heap.size + 1) a1 _ (by simp) (by simp; omega) (by simp) (by simp) (by exact HGX.out.below (by go_grown))).mono ?_
      rintro e w1 ⟨rfl, hb_w1⟩
      have K_w1 : Kept w.heap.size w (w.heap.size + 2) [(w.heap.size, 0, .slice a1 xs.length c1), (w.heap.size + 1, 0, .func (.func 23) #[] #[.pointer (some ⟨w.heap.size, 0, none⟩)])] w1 := Kept.of hb_w1 (by go_grown) (by go_size) (by omega) (by simp [go_sem] <;> omega)
      clear hb_w1
      have KH_w1 := Lib.hid K_w1
      have hw_w1 := K_w1.below
      have hz_w1 := K_w1.size
      have lS_w1 : w.heap.size < w1.heap.size := by omega
      have cS0_w1 := K_w1.at (b := w.heap.size) (o := 0) (v := .slice a1 xs.length c1) (by simp)
      have fS0_w1 := K_w1.free (b := w.heap.size) (o := 0) (v := .slice a1 xs.length c1) (by simp)
      have lF_w1 : w.heap.size + 1 < w1.heap.size := by omega
      have cF0_w1 := K_w1.at (b := w.heap.size + 1) (o := 0) (v := .func (.func 23) #[] #[.pointer (some ⟨w.heap.size, 0, none⟩)]) (by simp)
      have fF0_w1 := K_w1.free (b := w.heap.size + 1) (o := 0) (v := .func (.func 23) #[] #[.pointer (some ⟨w.heap.size, 0, none⟩)]) (by simp)
      clear K_w1
      go_wp2_with fail
      with_reducible refine (contains26 _ xs _ (by exact HSX.out.below (by go_grown))).mono ?_
      rintro e w2 ⟨rfl, hb_w2⟩
      have K_w2 : Kept w.heap.size w (w.heap.size + 2) [(w.heap.size, 0, .slice a1 xs.length c1), (w.heap.size + 1, 0, .func (.func 23) #[] #[.pointer (some ⟨w.heap.size, 0, none⟩)])] w2 := (KH_w1.out.step (by omega) (by go_grown)).step (by omega) hb_w2
      clear hb_w2
      have KH_w2 := Lib.hid K_w2
      have hw_w2 := K_w2.below
      have hz_w2 := K_w2.size
      have lS_w2 : w.heap.size < w2.heap.size := by omega
      have cS0_w2 := K_w2.at (b := w.heap.size) (o := 0) (v := .slice a1 xs.length c1) (by simp)
      have fS0_w2 := K_w2.free (b := w.heap.size) (o := 0) (v := .slice a1 xs.length c1) (by simp)
      have lF_w2 : w.heap.size + 1 < w2.heap.size := by omega
      have cF0_w2 := K_w2.at (b := w.heap.size + 1) (o := 0) (v := .func (.func 23) #[] #[.pointer (some ⟨w.heap.size, 0, none⟩)]) (by simp)
      have fF0_w2 := K_w2.free (b := w.heap.size + 1) (o := 0) (v := .func (.func 23) #[] #[.pointer (some ⟨w.heap.size, 0, none⟩)]) (by simp)
      clear lS_w1 cS0_w1 fS0_w1 lF_w1 cF0_w1 fF0_w1
      clear K_w2
      go_wp2_with fail
      exact bodyPost_ret (v := .tuple #[.slice none 0 0, .int .i64 3]) (by simp [results, Try.results19, go_sem]) rfl ⟨rfl, by go_grown⟩

end Go.Proofs.Ytnabpcgpheakfaa
