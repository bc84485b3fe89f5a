/- The plain law and the walk of SeqnoWindows. -/
import Derived.Test.YthibagfmglnejaaRoundsW
namespace Go.Proofs.Ythibagfmglnejaa
open Go.RowKit Plain
set_option linter.unusedVariables false
set_option linter.unusedSimpArgs false

/-- the distance of the k-th number -/
def dk (A S k : Nat) : Nat := 1 + (A + k) % (S - 1)
/-- the numbers up to k (but for it) have been accepted -/
structure Vis (A S k : Nat) (l : List Bool) : Prop where
  len : l.length = S
  zero : l[0]? = some false
  all1 : ∀ i, 1 ≤ i → i < S → (l[i]? = some true ↔ ∃ j, 1 ≤ j ∧ j < k ∧ i = dk A S j)
theorem mod_inj {A s j k : Nat} (hjk : j < k) (hks : k - j < s) (e : (A + j) % s = (A + k) % s) : False := by
  have h1 : (A + k) % s = ((A + j) + (k - j)) % s := by congr 1; omega
  have h2 := Nat.div_add_mod (A + j) s
  have h3 := Nat.div_add_mod ((A + j) + (k - j)) s
  rw [← h1, ← e] at h3
  have h4 : s * (((A + j) + (k - j)) / s) = s * ((A + j) / s) + (k - j) := by omega
  have h5 : s ∣ k - j := by
    have : k - j = s * (((A + j) + (k - j)) / s) - s * ((A + j) / s) := by omega
    rw [this, ← Nat.mul_sub]
    exact Nat.dvd_mul_right _ _
  have := Nat.le_of_dvd (by omega) h5
  omega
theorem Vis.start (A S : Nat) (h : 1 ≤ S) : Vis A S 1 (List.replicate S false) :=
  ⟨by simp, by rw [List.getElem?_replicate, if_pos (by omega)], fun i h1 h2 => by
    rw [List.getElem?_replicate, if_pos h2]
    simp
    intro j h3 h4
    omega⟩
theorem Vis.not_yet {A S k : Nat} {l : List Bool} (h : Vis A S k l) (h1 : 1 ≤ k) (h2 : k < S) : l[dk A S k]? = some false := by
  have hd : dk A S k < S := by unfold dk; have := Nat.mod_lt (A + k) (y := S - 1) (by omega); omega
  have h3 : ¬ l[dk A S k]? = some true := by
    rw [h.all1 _ (by unfold dk; omega) hd]
    rintro ⟨j, hj1, hj2, hj3⟩
    exact mod_inj (A := A) (s := S - 1) hj2 (by omega) (by unfold dk at hj3; omega)
  have hb := List.getElem?_eq_getElem (l := l) (i := dk A S k) (by rw [h.len]; exact hd)
  rw [hb] at h3 ⊢
  simp at h3 ⊢
  exact h3
theorem Vis.next {A S k : Nat} {l : List Bool} (h : Vis A S k l) (h1 : 1 ≤ k) (h2 : k < S) : Vis A S (k + 1) (l.set (dk A S k) true) := by
  have hd0 : 1 ≤ dk A S k := by unfold dk; omega
  have hd : dk A S k < S := by unfold dk; have := Nat.mod_lt (A + k) (y := S - 1) (by omega); omega
  refine ⟨by simp [h.len], by rw [List.getElem?_set_ne (by omega)]; exact h.zero, fun i hi1 hi2 => ?_⟩
  by_cases e : dk A S k = i
  · subst e
    rw [List.getElem?_set_self (by rw [h.len]; exact hd)]
    exact ⟨fun _ => ⟨k, h1, by omega, rfl⟩, fun _ => rfl⟩
  · rw [List.getElem?_set_ne e, h.all1 i hi1 hi2]
    constructor
    · rintro ⟨j, a, b, c⟩
      exact ⟨j, a, by omega, c⟩
    · rintro ⟨j, a, b, c⟩
      rcases Nat.lt_or_ge j k with h5 | h5
      · exact ⟨j, a, h5, c⟩
      · have : j = k := by omega
        subst this
        exact absurd c.symm e
theorem Vis.all {A S k : Nat} {l : List Bool} (h : Vis A S k l) (hk : S ≤ k) (h1 : 1 ≤ S) : l = false :: List.replicate (S - 1) true := by
  apply List.ext_getElem?
  intro i
  cases i with
  | zero => simpa using h.zero
  | succ i =>
    rcases Nat.lt_or_ge (i + 1) S with h2 | h2
    · have : l[i + 1]? = some true := by
        rw [h.all1 (i + 1) (by omega) h2]
        have hs : 0 < S - 1 := by omega
        have hA := Nat.mod_lt A hs
        have e1 : (A + (S - 1)) % (S - 1) = A % (S - 1) := by simp
        rcases Nat.lt_or_ge (A % (S - 1)) i with h6 | h6
        · refine ⟨i - A % (S - 1), by omega, by omega, ?_⟩
          unfold dk
          rw [Nat.add_mod, Nat.mod_eq_of_lt (a := i - A % (S - 1)) (by omega), Nat.mod_eq_of_lt (by omega)]
          omega
        · refine ⟨i + (S - 1) - A % (S - 1), by omega, by omega, ?_⟩
          unfold dk
          have e2 : A + (i + (S - 1) - A % (S - 1)) = i + (S - 1) * (A / (S - 1) + 1) := by
            have := Nat.div_add_mod A (S - 1)
            rw [Nat.mul_add, Nat.mul_one]
            omega
          rw [e2, Nat.add_mul_mod_self_left, Nat.mod_eq_of_lt (by omega)]
          omega
      rw [this]
      simp
      rw [List.getElem?_replicate, if_pos (by omega)]
    · rw [List.getElem?_eq_none (by rw [h.len]; exact h2), List.getElem?_eq_none (by simp; omega)]
theorem gone_set (l : List Bool) (d : Nat) (hd : 1 ≤ d) (h0 : l[0]? = some false) : gone (l.set d true) = 0 := by
  cases l with
  | nil => simp at h0
  | cons b l =>
    obtain ⟨e, rfl⟩ : ∃ e, d = e + 1 := ⟨d - 1, by omega⟩
    simp at h0
    subst h0
    simp [gone]
theorem accF_set (f : Int) (l : List Bool) (d : Nat) (hf : U16 f) (hd : 1 ≤ d) (h0 : l[0]? = some false) : accF f l d = f := by
  unfold accF
  rw [gone_set l d hd h0]
  unfold U16 at hf
  simp
  omega
theorem accL_set (l : List Bool) (d : Nat) (hd : 1 ≤ d) (h0 : l[0]? = some false) : accL l d = l.set d true := by
  unfold accL shift
  rw [gone_set l d hd h0]
  simp
/-- all but the first one -/
def lst (S : Nat) : List Bool := false :: List.replicate (S - 1) true
theorem lst_len (S : Nat) (h : 1 ≤ S) : (lst S).length = S := by simp [lst]; omega
theorem lst_set (S : Nat) (h : 1 ≤ S) : (lst S).set 0 true = List.replicate S true := by
  obtain ⟨n, rfl⟩ : ∃ n, S = n + 1 := ⟨S - 1, by omega⟩
  simp [lst, List.replicate_succ]
theorem gone_rep (n : Nat) : gone (List.replicate n true) = n := by
  have := gone_all (List.replicate n true) (fun j hj => by rw [List.getElem?_replicate, if_pos (by simpa using hj)])
  simpa using this
theorem accF_lst (f : Int) (S : Nat) (h : 1 ≤ S) : accF f (lst S) 0 = (f + S) % 65536 := by
  unfold accF
  rw [lst_set S h, gone_rep]
theorem accL_lst (S : Nat) (h : 1 ≤ S) : accL (lst S) 0 = List.replicate S false := by
  unfold accL shift
  rw [lst_set S h, gone_rep]
  simp
theorem pend_lst_len (f : Int) (S : Nat) (h : 1 ≤ S) : (pend f (lst S)).length = S - 1 := by
  unfold pend
  rw [lst_len S h]
  obtain ⟨n, rfl⟩ : ∃ n, S = n + 1 := ⟨S - 1, by omega⟩
  rw [List.length_map, List.range_succ_eq_map, List.filter_cons]
  simp only [lst, Nat.add_sub_cancel, List.getD, List.getElem?_cons_zero, Option.getD_some, Bool.false_eq_true, if_false]
  rw [List.filter_eq_self.2]
  · simp
  · intro i hi
    obtain ⟨j, hj, rfl⟩ := List.mem_map.1 hi
    have hj' : j < n := by simpa using hj
    simp [hj']
theorem hasN_small {l : List Bool} {d : Nat} (h : d < 32768) (h0 : l[d]? = some false) : hasN l d = false := by simp [hasN, List.getD, h0]; omega
theorem hasN_out {l : List Bool} {d : Nat} (h : d < 32768) (h0 : l.length ≤ d) : hasN l d = false := by simp [hasN, List.getD, List.getElem?_eq_none h0]; omega
theorem dist_add (f : Int) (d : Nat) (hf : U16 f) (h : d < 65536) : dist f ((f + d) % 65536) = (d : Int) := by unfold dist U16 at *; omega
theorem U16_mod (x : Int) : U16 (x % 65536) := by unfold U16; omega
theorem vis_len {A S k : Nat} {l : List Bool} (h : Vis A S k l) {i : Nat} (hi : i < S) : i < l.length := by rw [h.len]; exact hi
def WiRel (w : World) (P D cap : Nat) (ex : List Value) (f : Int) (A S : Nat) (i : Value) (wr : World) : Prop := ∃ (k : Nat) (l : List Bool), 1 ≤ k ∧ k ≤ S ∧ i = .int .i64 k ∧ Vis A S k l ∧ WinAt wr P D f l cap ex ∧ Below w.heap.size w wr
/-- the length of what is pending -/
theorem pending_len {w w' : World} {zs : List Int} {v : Value} (h : w'.ownsRow w.heap.size 22 1 v zs.length (zs.map (Value.int .u16))) : ∃ a cap, v = .slice a zs.length cap := by
  rcases h.2 with ⟨rfl, h0⟩ | ⟨g, cap, cur, rfl, _⟩
  · exact ⟨none, 0, by rw [h0]⟩
  · exact ⟨_, _, rfl⟩
def LenAt (w : World) (n : Nat) (e : Ending) (w' : World) : Prop := ∃ a cap, e = .returned (.slice a n cap) ∧ Below w.heap.size w w'
theorem pending19n (P D : Nat) (f : Int) (l : List Bool) (cap : Nat) (ex : List Value) (w : World) (hw : WinAt w P D f l cap ex) (n : Nat) (hn : (pend f l).length = n) : Calls Try.prog 19 #[.pointer (some ⟨P, 0, none⟩)] w (LenAt w n) :=
  (pending19 P D f l cap ex w hw).mono fun e w' ⟨v, h1, h2, h3⟩ => by
    obtain ⟨a, c, rfl⟩ := pending_len h2
    exact ⟨a, c, by rw [h1, hn], h3⟩

set_option maxRecDepth 100000 in
set_option maxHeartbeats 2000000 in
theorem windows4_0 (f s t : Int) (w : World) (p0 : decide (s < 1) = true) : Calls Try.prog 4 #[.int .u16 f, .int .i64 s, .int .u16 t] w fun e w' => e = .returned (.bool true) ∧ Below w.heap.size w w' := by
  go_enter Try.func4, Try.ntmps4
  go_wp2_with fail
  with_reducible refine (known15 _).mono ?_
  rintro e w1 ⟨rfl, hb_w1⟩
  have K_w1 : Kept w.heap.size w (w.heap.size) [] w1 := Kept.of hb_w1 (by go_grown) (by go_size) (by omega) (by simp [go_sem] <;> omega)
  clear hb_w1
  have KH_w1 := Lib.hid K_w1
  have hw_w1 := K_w1.below
  have hz_w1 := K_w1.size
  clear K_w1
  go_wp2_with fail
  go_returns
  exact ⟨rfl, by go_grown⟩

set_option maxRecDepth 100000 in
set_option maxHeartbeats 2000000 in
theorem windows4_1 (f s t : Int) (w : World) (p0 : decide (s < 1) = false) (p1 : decide (1024 < s) = true) : Calls Try.prog 4 #[.int .u16 f, .int .i64 s, .int .u16 t] w fun e w' => e = .returned (.bool true) ∧ Below w.heap.size w w' := by
  go_enter Try.func4, Try.ntmps4
  go_wp2_with fail
  with_reducible refine (known15 _).mono ?_
  rintro e w1 ⟨rfl, hb_w1⟩
  have K_w1 : Kept w.heap.size w (w.heap.size) [] w1 := Kept.of hb_w1 (by go_grown) (by go_size) (by omega) (by simp [go_sem] <;> omega)
  clear hb_w1
  have KH_w1 := Lib.hid K_w1
  have hw_w1 := K_w1.below
  have hz_w1 := K_w1.size
  clear K_w1
  go_wp2_with fail
  go_returns
  exact ⟨rfl, by go_grown⟩

set_option maxRecDepth 100000 in
set_option maxHeartbeats 4000000 in
theorem hasN_big {l : List Bool} {d : Nat} (h : 32768 ≤ d) : hasN l d = true := by simp [hasN, h]
theorem dist_b1 (f : Int) (S : Nat) (hf : U16 f) (h1 : 1 ≤ S) (h2 : S ≤ 1024) : dist ((f + (S : Nat)) % 65536) f = ((65536 - S : Nat) : Int) := by unfold dist U16 at *; omega
set_option maxRecDepth 100000 in
set_option maxHeartbeats 4000000 in
theorem windows4 (f t y : Int) (A S : Nat) (w : World) (hf : U16 f) (ht : U16 t) (p0 : decide ((S : Int) < 1) = false) (p1 : decide (1024 < (S : Int)) = false) (s1 : 1 ≤ S) (s2 : S ≤ 1024) (eA : t % (S : Int) = (A : Int)) (hA : A < S) (hy : U16 y) (ey : IntKind.u16.wrap ((f + (S : Int)) % 65536 - 1) = y) (HY : Hid (dist ((f + (S : Nat)) % 65536) y = ((65535 : Nat) : Int))) :
    Calls Try.prog 4 #[.int .u16 f, .int .i64 (S : Int), .int .u16 t] w fun e w' => e = .returned (.bool true) ∧ Below w.heap.size w w' := by
  obtain ⟨t0, t1⟩ := ht
  have eA2 : t.tmod (S : Int) = (A : Int) := by rw [Int.tmod_eq_emod_of_nonneg t0]; exact eA
  have eS : IntKind.u16.wrap (f + (S : Int)) = (f + (S : Int)) % 65536 := IntKind.wrap_u16 _
  go_enter Try.func4, Try.ntmps4
  go_wp2_with fail
  with_reducible refine (new16 f S _ hf s1 s2).mono ?_
  rintro e w1 ⟨P, D, cap, ex, hP, hD, rfl, hW, hb_w1⟩
  have K_w1 : Kept w.heap.size w (w.heap.size) [] w1 := Kept.of hb_w1 (by go_grown) (by go_size) (by omega) (by simp [go_sem] <;> omega)
  clear hb_w1
  have KH_w1 := Lib.hid K_w1
  have hw_w1 := K_w1.below
  have hz_w1 := K_w1.size
  clear K_w1
  have HW := Lib.hid hW
  clear hW
  go_wp2_with fail
  go_loopw [10] (fun i wr => WiRel w P D cap ex f A S i wr) (fun i _ => S - (intOf i).toNat)
  case atStart => exact ⟨1, _, by omega, by omega, rfl, Vis.start A S s1, HW.out, hw_w1⟩
  case round =>
    obtain ⟨k, l, hk1, hk, rfl, hV, hW, hb⟩ := hrel
    have HV := Lib.hid hV
    have KH_wr : Hid (Kept w.heap.size w w.heap.size [] wr) := Lib.hid ⟨hb, hb.size, by simp⟩
    have hz_wr := hb.size
    have hw_wr := hb
    clear hV
    by_cases hlt : k < S
    · have HW := Lib.hid hW
      clear hW
      have hm : ((A : Int) + (k : Int)) % ((S : Int) - 1) = (((A + k) % (S - 1) : Nat) : Int) := by rw [Int.natCast_emod]; congr 1 <;> omega
      obtain ⟨m, em⟩ : ∃ m, (A + k) % (S - 1) = m := ⟨_, rfl⟩
      rw [em] at hm
      have hm2 : ((A : Int) + (k : Int)).tmod ((S : Int) - 1) = (m : Int) := by rw [Int.tmod_eq_emod_of_nonneg (by omega)]; exact hm
      have hmS : m < S - 1 := by rw [← em]; exact Nat.mod_lt _ (by omega)
      have edk : dk A S k = 1 + m := by unfold dk; rw [em]
      have hd1 : 1 ≤ dk A S k := by omega
      have hdS : dk A S k < S := by omega
      have ex1 : IntKind.u16.wrap (f + (1 + (m : Int))) = (f + (dk A S k : Nat)) % 65536 := by rw [IntKind.wrap_u16, edk]; congr 1
      have EM := Lib.hid em
      have ED := Lib.hid edk
      clear em edk
      go_wp2_with fail
      with_reducible refine (accept17_okc P D f l cap ex _ HW.out ((f + (dk A S k : Nat)) % 65536) f (l.set (dk A S k) true) (dk A S k) (U16_mod _) (Lib.hid (dist_add f _ hf (by omega))) (Lib.hid (hasN_small (by omega) (HV.out.not_yet hk1 hlt))) (vis_len HV.out hdS) (accF_set f l _ hf hd1 HV.out.zero) (accL_set l _ hd1 HV.out.zero)).mono ?_
      rintro e w11 ⟨rfl, hB_w11, hO_w11⟩
      have K_w11 : Kept w.heap.size w (w.heap.size) [] w11 := (KH_wr.out.step (by omega) (by go_grown)).onl (S := [P, D]) hO_w11 (by omega) (by simp <;> omega) (by simp <;> omega)
      replace HW := Lib.hid (hB_w11)
      clear hO_w11 hB_w11
      have KH_w11 := Lib.hid K_w11
      have hw_w11 := K_w11.below
      have hz_w11 := K_w11.size
      clear K_w11
      go_wp2_with fail
      go_roundw
      case rel => exact ⟨k + 1, _, by omega, by omega, by go_num, HV.out.next hk1 hlt, HW.out, KH_w11.out.below⟩
      case measure => simp [intOf]; omega
    · have HW : Hid (WinAt wr P D f (lst S) cap ex) := Lib.hid (by have e := HV.out.all (by omega) s1; unfold lst; rw [← e]; exact hW)
      have ek : ¬ k < S := hlt
      clear hW
      go_wp2_with fail
      with_reducible refine (first18 P D f (lst S) cap ex _ HW.out).mono ?_
      rintro e w' ⟨rfl, rfl⟩
      go_wp2_with fail
      with_reducible refine (pending19n P D f (lst S) cap ex _ HW.out _ (pend_lst_len f S s1)).mono ?_
      rintro e w31 ⟨a9, c9, rfl, hb_w31⟩
      have K_w31 : Kept w.heap.size w (w.heap.size) [] w31 := (KH_wr.out.step (by omega) (by go_grown)).step (by omega) hb_w31
      replace HW := Lib.hid (HW.out.below hb_w31)
      clear hb_w31
      have KH_w31 := Lib.hid K_w31
      have hw_w31 := K_w31.below
      have hz_w31 := K_w31.size
      clear K_w31
      go_wp2_with fail
      with_reducible refine (accept17_range P D f (lst S) cap ex _ HW.out ((f + (S : Nat)) % 65536) S (U16_mod _) (Lib.hid (dist_add f S hf (by omega))) (Lib.hid (hasN_out (by omega) (by rw [lst_len S s1]; omega))) (by rw [lst_len S s1]; omega)).mono ?_
      rintro e w32 ⟨rfl, hb_w32⟩
      have K_w32 : Kept w.heap.size w (w.heap.size) [] w32 := (KH_w31.out.step (by omega) (by go_grown)).step (by omega) hb_w32
      replace HW := Lib.hid (HW.out.below hb_w32)
      clear hb_w32
      have KH_w32 := Lib.hid K_w32
      have hw_w32 := K_w32.below
      have hz_w32 := K_w32.size
      clear K_w32
      go_wp2_with fail
      with_reducible refine (accept17_okc P D f (lst S) cap ex _ HW.out f ((f + (S : Nat)) % 65536) (List.replicate S false) 0 hf (Lib.hid (dist_self f)) (Lib.hid rfl) (by rw [lst_len S s1]; omega) (accF_lst f S s1) (accL_lst S s1)).mono ?_
      rintro e w33 ⟨rfl, hB_w33, hO_w33⟩
      have K_w33 : Kept w.heap.size w (w.heap.size) [] w33 := (KH_w32.out.step (by omega) (by go_grown)).onl (S := [P, D]) hO_w33 (by omega) (by simp <;> omega) (by simp <;> omega)
      replace HW := Lib.hid (hB_w33)
      clear hO_w33 hB_w33
      have KH_w33 := Lib.hid K_w33
      have hw_w33 := K_w33.below
      have hz_w33 := K_w33.size
      clear K_w33
      go_wp2_with fail
      with_reducible refine (looks20c P D ((f + (S : Nat)) % 65536) (List.replicate S false) cap ex _ HW.out _ [] (seg_nil _ _) (pend_new _ _)).mono ?_
      rintro e w34 ⟨rfl, hb_w34⟩
      have K_w34 : Kept w.heap.size w (w.heap.size) [] w34 := (KH_w33.out.step (by omega) (by go_grown)).step (by omega) hb_w34
      replace HW := Lib.hid (HW.out.below hb_w34)
      clear hb_w34
      have KH_w34 := Lib.hid K_w34
      have hw_w34 := K_w34.below
      have hz_w34 := K_w34.size
      clear K_w34
      go_wp2_with fail
      with_reducible refine (accept17_stale P D ((f + (S : Nat)) % 65536) (List.replicate S false) cap ex _ HW.out f (65536 - S) hf (Lib.hid (dist_b1 f S hf s1 s2)) (Lib.hid (hasN_big (by omega)))).mono ?_
      rintro e w35 ⟨rfl, hb_w35⟩
      have K_w35 : Kept w.heap.size w (w.heap.size) [] w35 := (KH_w34.out.step (by omega) (by go_grown)).step (by omega) hb_w35
      replace HW := Lib.hid (HW.out.below hb_w35)
      clear hb_w35
      have KH_w35 := Lib.hid K_w35
      have hw_w35 := K_w35.below
      have hz_w35 := K_w35.size
      clear K_w35
      go_wp2_with fail
      with_reducible refine (accept17_stale P D ((f + (S : Nat)) % 65536) (List.replicate S false) cap ex _ HW.out y 65535 hy (Lib.hid HY.out) (Lib.hid (hasN_big (by omega)))).mono ?_
      rintro e w36 ⟨rfl, hb_w36⟩
      have K_w36 : Kept w.heap.size w (w.heap.size) [] w36 := (KH_w35.out.step (by omega) (by go_grown)).step (by omega) hb_w36
      replace HW := Lib.hid (HW.out.below hb_w36)
      clear hb_w36
      have KH_w36 := Lib.hid K_w36
      have hw_w36 := K_w36.below
      have hz_w36 := K_w36.size
      clear K_w36
      go_wp2_with fail
      with_reducible refine (known15 _).mono ?_
      rintro e w37 ⟨rfl, hb_w37⟩
      have K_w37 : Kept w.heap.size w (w.heap.size) [] w37 := (KH_w36.out.step (by omega) (by go_grown)).step (by omega) hb_w37
      clear hb_w37
      have KH_w37 := Lib.hid K_w37
      have hw_w37 := K_w37.below
      have hz_w37 := K_w37.size
      clear K_w37
      go_wp2_with fail
      go_returns
      exact ⟨rfl, by go_grown⟩

end Go.Proofs.Ythibagfmglnejaa
