/- The walks of Sum. -/
import Derived.Test.YtenpjhpdanhmaaaTimes
import Derived.Test.YtenpjhpdanhmaaaSeg
namespace Go.Proofs.Ytenpjhpdanhmaaa
open Go.RowKit Plain
set_option linter.unusedVariables false
set_option linter.unusedSimpArgs false

theorem sums_take (m : Int) (l : List Int) (k : Nat) (z : Int) (h : l[k]? = some z) : sums m (l.take (k + 1)) = cl (sums m (l.take k) + z) m := by
  unfold sums
  rw [List.take_add_one, h]
  simp
theorem I_sums {m : Int} (hm : I m) (l : List Int) : I (sums m l) := by
  unfold sums
  rcases List.eq_nil_or_concat l with h | ⟨l', x, h⟩
  · subst h; unfold I; simp
  · rw [h]; simp; exact I_cl _ hm
theorem sums_bd {m : Int} (hm : I m) (l : List Int) : 0 ≤ sums m l := by
  unfold sums
  rcases List.eq_nil_or_concat l with h | ⟨l', x, h⟩
  · subst h; simp
  · rw [h]; simp; unfold cl; omega

set_option maxRecDepth 100000 in
set_option maxHeartbeats 1000000 in
theorem sum20 (v : Value) (zs : List Int) (m : Int) (w : World) (hs : Seg w .i64 v zs) (hz : ∀ z ∈ zs, I z) (hm : I m) :
    Calls Try.prog 20 #[v, .int .i64 m] w fun e w' => e = .returned (.int .i64 (sums m zs)) ∧ w = w' := by
  rcases hs with ⟨rfl, rfl | ⟨a, cap, rfl⟩⟩ | ⟨h0, h1, b, off, cap, rfl, hlt, hc⟩
  · clear hz
    go_enter Try.func20, Try.ntmps20
    go_wp2_with fail
    refine wp_loop_rounds 1 ?_
    rw [rounds_succ]
    go_wp2_with fail
    go_returns
    exact ⟨rfl, rfl⟩
  · clear hz
    go_enter Try.func20, Try.ntmps20
    go_wp2_with fail
    refine wp_loop_rounds 1 ?_
    rw [rounds_succ]
    go_wp2_with fail
    go_returns
    exact ⟨rfl, rfl⟩
  · unfold maxLen at h1
    have HC := Lib.hid hc
    have HZ := Lib.hid hz
    clear hc hz
    go_enter Try.func20, Try.ntmps20
    go_wp2_with fail
    go_loop [5, 10] (fun n i => ∃ k : Nat, k ≤ zs.length ∧ i = .int .i64 k ∧ n = .int .i64 (sums m (zs.take k))) (fun _ i => zs.length - (intOf i).toNat)
    case atStart => exact ⟨0, Nat.zero_le _, rfl, rfl⟩
    case round =>
      obtain ⟨k, hk, rfl, rfl⟩ := hrel
      by_cases hlt2 : k < zs.length
      · obtain ⟨z, hz⟩ : ∃ z, zs[k]? = some z := ⟨zs[k], List.getElem?_eq_getElem hlt2⟩
        have hcell := HC.out k z hz
        have st := Lib.hid (sums_take m zs k z hz)
        have iz := HZ.out z (List.mem_of_getElem? hz)
        clear hz
        go_wp2_with fail
        with_reducible refine (add11 _ _ _ _ (I_sums hm _) iz hm).mono ?_
        rintro e w' ⟨rfl, rfl⟩
        rw [← st.out]
        go_wp2_with fail
        go_round
        case rel => exact ⟨k + 1, by omega, by go_num, rfl⟩
        case measure => simp [intOf]; omega
      · have ht := Lib.hid (List.take_of_length_le (l := zs) (i := k) (by omega))
        go_wp2_with fail
        go_returns
        exact ⟨ret_int (by rw [ht.out]), rfl⟩

set_option maxRecDepth 100000 in
set_option maxHeartbeats 1000000 in
theorem sum21 (v : Value) (zs : List Int) (m : Int) (w : World) (hs : Seg w .i64 v zs) (hz : ∀ z ∈ zs, I z) (hm : I m) :
    Calls Try.prog 21 #[v, .int .i64 m] w fun e w' => e = .returned (.int .i64 (sums m zs)) ∧ w = w' := by
  rcases hs with ⟨rfl, rfl | ⟨a, cap, rfl⟩⟩ | ⟨h0, h1, b, off, cap, rfl, hlt, hc⟩
  · clear hz
    go_enter Try.func21, Try.ntmps21
    go_wp2_with fail
    refine wp_loop_rounds 1 ?_
    rw [rounds_succ]
    go_wp2_with fail
    go_returns
    exact ⟨rfl, rfl⟩
  · clear hz
    go_enter Try.func21, Try.ntmps21
    go_wp2_with fail
    refine wp_loop_rounds 1 ?_
    rw [rounds_succ]
    go_wp2_with fail
    go_returns
    exact ⟨rfl, rfl⟩
  · unfold maxLen at h1
    have HC := Lib.hid hc
    have HZ := Lib.hid hz
    clear hc hz
    go_enter Try.func21, Try.ntmps21
    go_wp2_with fail
    go_loop [5, 6] (fun n i => ∃ k : Nat, k ≤ zs.length ∧ i = .int .i64 k ∧ n = .int .i64 (sums m (zs.take k))) (fun _ i => zs.length - (intOf i).toNat)
    case atStart => exact ⟨0, Nat.zero_le _, rfl, rfl⟩
    case round =>
      obtain ⟨k, hk, rfl, rfl⟩ := hrel
      by_cases hlt2 : k < zs.length
      · obtain ⟨z, hz⟩ : ∃ z, zs[k]? = some z := ⟨zs[k], List.getElem?_eq_getElem hlt2⟩
        have hcell := HC.out k z hz
        have st := Lib.hid (sums_take m zs k z hz)
        have iz := HZ.out z (List.mem_of_getElem? hz)
        clear hz
        go_wp2_with fail
        with_reducible refine (add12 _ _ _ _ (I_sums hm _) iz hm).mono ?_
        rintro e w' ⟨rfl, rfl⟩
        rw [← st.out]
        go_wp2_with fail
        go_round
        case rel => exact ⟨k + 1, by omega, by go_num, rfl⟩
        case measure => simp [intOf]; omega
      · have ht := Lib.hid (List.take_of_length_le (l := zs) (i := k) (by omega))
        go_wp2_with fail
        go_returns
        exact ⟨ret_int (by rw [ht.out]), rfl⟩

end Go.Proofs.Ytenpjhpdanhmaaa
