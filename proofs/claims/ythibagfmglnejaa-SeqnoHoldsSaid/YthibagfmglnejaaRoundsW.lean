/- The plain law and the walk of SeqnoRounds. -/
import Derived.Test.YthibagfmglnejaaNilW
namespace Go.Proofs.Ythibagfmglnejaa
open Go.RowKit Plain
set_option linter.unusedVariables false
set_option linter.unusedSimpArgs false

theorem hasN_new (m : Nat) (h : 1 ≤ m) : hasN (List.replicate m false) 0 = false := by
  obtain ⟨n, rfl⟩ : ∃ n, m = n + 1 := ⟨m - 1, by omega⟩
  simp [hasN]
theorem gone_new (m : Nat) (h : 1 ≤ m) : gone ((List.replicate m false).set 0 true) = 1 := by
  obtain ⟨n, rfl⟩ : ∃ n, m = n + 1 := ⟨m - 1, by omega⟩
  cases n with
  | zero => rfl
  | succ n => simp [List.replicate_succ, gone]
theorem accL_new (m : Nat) (h : 1 ≤ m) : accL (List.replicate m false) 0 = List.replicate m false := by
  have hg := gone_new m h
  obtain ⟨n, rfl⟩ : ∃ n, m = n + 1 := ⟨m - 1, by omega⟩
  unfold accL shift
  rw [hg]
  simp [List.replicate_succ]
  rw [← List.replicate_succ']
  rfl
theorem accF_new (f : Int) (m : Nat) (h : 1 ≤ m) : accF f (List.replicate m false) 0 = nxt f := by
  unfold accF nxt
  rw [gone_new m h]
  rfl
theorem dist_self (f : Int) : dist f f = ((0 : Nat) : Int) := by unfold dist; simp
theorem dist_back (f : Int) (h : U16 f) : dist (nxt f) f = ((65535 : Nat) : Int) := by unfold dist nxt U16 at *; omega
theorem pend_new (f : Int) (m : Nat) : pend f (List.replicate m false) = [] := by
  unfold pend
  simp
  intro i hi
  simp [hi]
theorem new16z (f z : Int) (w : World) (hf : U16 f) (h1 : 1 ≤ z) (h2 : z ≤ 1024) : Calls Try.prog 16 #[.int .u16 f, .int .i64 z] w (NewAt w f (List.replicate z.toNat false)) :=
  new16c f z.toNat z w (by omega) hf (by omega) (by omega)
/-- after k numbers -/
def at5 (f : Int) (k : Nat) : Int := (f + k) % 65536
theorem at5_zero (f : Int) (h : U16 f) : at5 f 0 = f := by unfold at5 U16 at *; omega
theorem at5_succ (f : Int) (k : Nat) : nxt (at5 f k) = at5 f (k + 1) := by unfold at5 nxt; omega
theorem at5_U (f : Int) (k : Nat) : U16 (at5 f k) := by unfold at5 U16; omega
def RoRel (w : World) (P D cap : Nat) (ex : List Value) (f : Int) (m M : Nat) (s i : Value) (wr : World) : Prop := ∃ k : Nat, k ≤ M ∧ i = .int .i64 k ∧ s = .int .u16 (at5 f k) ∧ WinAt wr P D (at5 f k) (List.replicate m false) cap ex ∧ Below w.heap.size w wr

set_option maxRecDepth 100000 in
set_option maxHeartbeats 2000000 in
theorem rounds5_0 (f s M v : Int) (w : World) (p0 : decide (s < 1) = true) : Calls Try.prog 5 #[.int .u16 f, .int .i64 s, .int .i64 M, .int .i64 v] w fun e w' => e = .returned (.bool true) ∧ Below w.heap.size w w' := by
  go_enter Try.func5, Try.ntmps5
  go_wp2_with fail
  with_reducible refine (known15 _).mono ?_
  rintro e w1 ⟨rfl, hb_w1⟩
  have K_w1 : Kept w.heap.size w (w.heap.size) [] w1 := Kept.of hb_w1 (by go_grown) (by go_size) (by omega) (by simp [go_sem] <;> omega)
  clear hb_w1
  have KH_w1 := Lib.hid K_w1
  have hw_w1 := K_w1.below
  have hz_w1 := K_w1.size
  clear K_w1
  go_wp2_with fail
  go_returns
  exact ⟨rfl, by go_grown⟩

set_option maxRecDepth 100000 in
set_option maxHeartbeats 2000000 in
theorem rounds5_1 (f s M v : Int) (w : World) (p0 : decide (s < 1) = false) (p1 : decide (1024 < s) = true) : Calls Try.prog 5 #[.int .u16 f, .int .i64 s, .int .i64 M, .int .i64 v] w fun e w' => e = .returned (.bool true) ∧ Below w.heap.size w w' := by
  go_enter Try.func5, Try.ntmps5
  go_wp2_with fail
  with_reducible refine (known15 _).mono ?_
  rintro e w1 ⟨rfl, hb_w1⟩
  have K_w1 : Kept w.heap.size w (w.heap.size) [] w1 := Kept.of hb_w1 (by go_grown) (by go_size) (by omega) (by simp [go_sem] <;> omega)
  clear hb_w1
  have KH_w1 := Lib.hid K_w1
  have hw_w1 := K_w1.below
  have hz_w1 := K_w1.size
  clear K_w1
  go_wp2_with fail
  go_returns
  exact ⟨rfl, by go_grown⟩

set_option maxRecDepth 100000 in
set_option maxHeartbeats 2000000 in
theorem rounds5_2 (f s M v : Int) (w : World) (p0 : decide (s < 1) = false) (p1 : decide (1024 < s) = false) (p2 : decide (M < 0) = true) : Calls Try.prog 5 #[.int .u16 f, .int .i64 s, .int .i64 M, .int .i64 v] w fun e w' => e = .returned (.bool true) ∧ Below w.heap.size w w' := by
  go_enter Try.func5, Try.ntmps5
  go_wp2_with fail
  with_reducible refine (known15 _).mono ?_
  rintro e w1 ⟨rfl, hb_w1⟩
  have K_w1 : Kept w.heap.size w (w.heap.size) [] w1 := Kept.of hb_w1 (by go_grown) (by go_size) (by omega) (by simp [go_sem] <;> omega)
  clear hb_w1
  have KH_w1 := Lib.hid K_w1
  have hw_w1 := K_w1.below
  have hz_w1 := K_w1.size
  clear K_w1
  go_wp2_with fail
  go_returns
  exact ⟨rfl, by go_grown⟩

set_option maxRecDepth 100000 in
set_option maxHeartbeats 2000000 in
theorem rounds5_3 (f s M v : Int) (w : World) (p0 : decide (s < 1) = false) (p1 : decide (1024 < s) = false) (p2 : decide (M < 0) = false) (p3 : decide (70000 < M) = true) : Calls Try.prog 5 #[.int .u16 f, .int .i64 s, .int .i64 M, .int .i64 v] w fun e w' => e = .returned (.bool true) ∧ Below w.heap.size w w' := by
  go_enter Try.func5, Try.ntmps5
  go_wp2_with fail
  with_reducible refine (known15 _).mono ?_
  rintro e w1 ⟨rfl, hb_w1⟩
  have K_w1 : Kept w.heap.size w (w.heap.size) [] w1 := Kept.of hb_w1 (by go_grown) (by go_size) (by omega) (by simp [go_sem] <;> omega)
  clear hb_w1
  have KH_w1 := Lib.hid K_w1
  have hw_w1 := K_w1.below
  have hz_w1 := K_w1.size
  clear K_w1
  go_wp2_with fail
  go_returns
  exact ⟨rfl, by go_grown⟩

set_option maxRecDepth 100000 in
set_option maxHeartbeats 2000000 in
theorem rounds5_4 (f s M v : Int) (w : World) (p0 : decide (s < 1) = false) (p1 : decide (1024 < s) = false) (p2 : decide (M < 0) = false) (p3 : decide (70000 < M) = false) (p4 : decide (v < 1) = true) : Calls Try.prog 5 #[.int .u16 f, .int .i64 s, .int .i64 M, .int .i64 v] w fun e w' => e = .returned (.bool true) ∧ Below w.heap.size w w' := by
  go_enter Try.func5, Try.ntmps5
  go_wp2_with fail
  with_reducible refine (known15 _).mono ?_
  rintro e w1 ⟨rfl, hb_w1⟩
  have K_w1 : Kept w.heap.size w (w.heap.size) [] w1 := Kept.of hb_w1 (by go_grown) (by go_size) (by omega) (by simp [go_sem] <;> omega)
  clear hb_w1
  have KH_w1 := Lib.hid K_w1
  have hw_w1 := K_w1.below
  have hz_w1 := K_w1.size
  clear K_w1
  go_wp2_with fail
  go_returns
  exact ⟨rfl, by go_grown⟩

set_option maxRecDepth 100000 in
set_option maxHeartbeats 4000000 in
theorem rounds5 (f s v : Int) (M : Nat) (w : World) (hf : U16 f) (p0 : decide (s < 1) = false) (p1 : decide (1024 < s) = false) (p2 : decide ((M : Int) < 0) = false) (p3 : decide (70000 < (M : Int)) = false) (p4 : decide (v < 1) = false) (s1 : 1 ≤ s) (s2 : s ≤ 1024) (M2 : M ≤ 70000) (v1 : 1 ≤ v) :
    Calls Try.prog 5 #[.int .u16 f, .int .i64 s, .int .i64 (M : Int), .int .i64 v] w fun e w' => e = .returned (.bool true) ∧ Below w.heap.size w w' := by
  have hs3 : 1 ≤ s.toNat := by omega
  go_enter Try.func5, Try.ntmps5
  go_wp2_with fail
  with_reducible refine (new16z f s _ hf s1 s2).mono ?_
  rintro e w1 ⟨P, D, cap, ex, hP, hD, rfl, hW, hb_w1⟩
  have K_w1 : Kept w.heap.size w (w.heap.size) [] w1 := Kept.of hb_w1 (by go_grown) (by go_size) (by omega) (by simp [go_sem] <;> omega)
  clear hb_w1
  have KH_w1 := Lib.hid K_w1
  have hw_w1 := K_w1.below
  have hz_w1 := K_w1.size
  clear K_w1
  have HW := Lib.hid hW
  clear hW
  go_wp2_with fail
  go_loopw [11, 12] (fun n i wr => RoRel w P D cap ex f s.toNat M n i wr) (fun _ i _ => M - (intOf i).toNat)
  case atStart => exact ⟨0, Nat.zero_le _, rfl, by rw [at5_zero f hf], by rw [at5_zero f hf]; exact HW.out, hw_w1⟩
  case round =>
    obtain ⟨k, hk, rfl, rfl, hW, hb⟩ := hrel
    have HW := Lib.hid hW
    have KH_wr : Hid (Kept w.heap.size w w.heap.size [] wr) := Lib.hid ⟨hb, hb.size, by simp⟩
    have hz_wr := hb.size
    have hw_wr := hb
    clear hW
    by_cases hlt : k < M
    · cases hq : ((k : Int) % v == 0)
      · have hq2 : ((k : Int).tmod v == 0) = false := by rw [Int.tmod_eq_emod_of_nonneg (by omega)]; exact hq
        go_wp2_with fail
        with_reducible refine (accept17_okc P D (at5 f k) (List.replicate s.toNat false) cap ex _ HW.out (at5 f k) (nxt (at5 f k)) (List.replicate s.toNat false) 0 (at5_U f k) (Lib.hid (dist_self _)) (Lib.hid (hasN_new _ hs3)) (by rw [List.length_replicate]; omega) (accF_new _ _ hs3) (accL_new _ hs3)).mono ?_
        rintro e w11 ⟨rfl, hB_w11, hO_w11⟩
        have K_w11 : Kept w.heap.size w (w.heap.size) [] w11 := (KH_wr.out.step (by omega) (by go_grown)).onl (S := [P, D]) hO_w11 (by omega) (by simp <;> omega) (by simp <;> omega)
        replace HW := Lib.hid (hB_w11)
        clear hO_w11 hB_w11
        have KH_w11 := Lib.hid K_w11
        have hw_w11 := K_w11.below
        have hz_w11 := K_w11.size
        clear K_w11
        go_wp2_with fail
        with_reducible refine (next9 (at5 f k) _ (at5_U f k)).mono ?_
        rintro e w' ⟨rfl, rfl⟩
        go_wp2_with fail
        rw [at5_succ]
        go_roundw
        case rel => exact ⟨k + 1, by omega, by go_num, rfl, at5_succ f k ▸ HW.out, KH_w11.out.below⟩
        case measure => simp [intOf]; omega
      · have hq2 : ((k : Int).tmod v == 0) = true := by rw [Int.tmod_eq_emod_of_nonneg (by omega)]; exact hq
        go_wp2_with fail
        with_reducible refine (accept17_okc P D (at5 f k) (List.replicate s.toNat false) cap ex _ HW.out (at5 f k) (nxt (at5 f k)) (List.replicate s.toNat false) 0 (at5_U f k) (Lib.hid (dist_self _)) (Lib.hid (hasN_new _ hs3)) (by rw [List.length_replicate]; omega) (accF_new _ _ hs3) (accL_new _ hs3)).mono ?_
        rintro e w11 ⟨rfl, hB_w11, hO_w11⟩
        have K_w11 : Kept w.heap.size w (w.heap.size) [] w11 := (KH_wr.out.step (by omega) (by go_grown)).onl (S := [P, D]) hO_w11 (by omega) (by simp <;> omega) (by simp <;> omega)
        replace HW := Lib.hid (hB_w11)
        clear hO_w11 hB_w11
        have KH_w11 := Lib.hid K_w11
        have hw_w11 := K_w11.below
        have hz_w11 := K_w11.size
        clear K_w11
        go_wp2_with fail
        with_reducible refine (accept17_stale P D (nxt (at5 f k)) (List.replicate s.toNat false) cap ex _ HW.out (at5 f k) 65535 (at5_U f k) (Lib.hid (dist_back _ (at5_U f k))) (Lib.hid (by simp [hasN]))).mono ?_
        rintro e w12 ⟨rfl, hb_w12⟩
        have K_w12 : Kept w.heap.size w (w.heap.size) [] w12 := (KH_w11.out.step (by omega) (by go_grown)).step (by omega) hb_w12
        replace HW := Lib.hid (HW.out.below hb_w12)
        clear hb_w12
        have KH_w12 := Lib.hid K_w12
        have hw_w12 := K_w12.below
        have hz_w12 := K_w12.size
        clear K_w12
        go_wp2_with fail
        with_reducible refine (next9 (at5 f k) _ (at5_U f k)).mono ?_
        rintro e w' ⟨rfl, rfl⟩
        go_wp2_with fail
        rw [at5_succ]
        go_roundw
        case rel => exact ⟨k + 1, by omega, by go_num, rfl, at5_succ f k ▸ HW.out, KH_w12.out.below⟩
        case measure => simp [intOf]; omega
    · have ek : ¬ k < M := hlt
      go_wp2_with fail
      with_reducible refine (looks20c P D (at5 f k) (List.replicate s.toNat false) cap ex _ HW.out _ [] (seg_nil _ _) (pend_new _ _)).mono ?_
      rintro e w31 ⟨rfl, hb_w31⟩
      have K_w31 : Kept w.heap.size w (w.heap.size) [] w31 := (KH_wr.out.step (by omega) (by go_grown)).step (by omega) hb_w31
      replace HW := Lib.hid (HW.out.below hb_w31)
      clear hb_w31
      have KH_w31 := Lib.hid K_w31
      have hw_w31 := K_w31.below
      have hz_w31 := K_w31.size
      clear K_w31
      go_wp2_with fail
      with_reducible refine (known15 _).mono ?_
      rintro e w32 ⟨rfl, hb_w32⟩
      have K_w32 : Kept w.heap.size w (w.heap.size) [] w32 := (KH_w31.out.step (by omega) (by go_grown)).step (by omega) hb_w32
      clear hb_w32
      have KH_w32 := Lib.hid K_w32
      have hw_w32 := K_w32.below
      have hz_w32 := K_w32.size
      clear K_w32
      go_wp2_with fail
      go_returns
      exact ⟨rfl, by go_grown⟩

end Go.Proofs.Ythibagfmglnejaa
