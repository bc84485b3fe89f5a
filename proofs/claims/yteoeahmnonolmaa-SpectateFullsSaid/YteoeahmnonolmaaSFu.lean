/- The law about as many boards as may be kept: the walk. -/
import Derived.Test.YteoeahmnonolmaaSNo
import Derived.Test.YteoeahmnonolmaaSPy
import Derived.Deep.DeepCutAuto
import Derived.LoopTactic
import Derived.Deep.MidRow
namespace Go.Proofs.Yteoeahmnonolmaa
open Go.RowKit Plain
set_option linter.unusedVariables false
set_option linter.unusedSimpArgs false

namespace Plain
def fuL (p : Pu) (n : Nat) : List (Pu × Int) := (List.range n).map (fun j => (p, ((j : Nat) : Int)))
def fuS (p : Pu) (i : Nat) : Sd := ⟨1000, ((i - 1 : Nat) : Int), fuL p (min i 100)⟩
theorem fuL_len (p : Pu) (n : Nat) : (fuL p n).length = n := by simp [fuL]
theorem fuL_get {p : Pu} {n i : Nat} {x : Pu × Int} (h : (fuL p n)[i]? = some x) : i < n ∧ x = (p, ((i : Nat) : Int)) := by
  have hi := (List.getElem?_eq_some_iff.1 h).1
  rw [fuL_len] at hi
  unfold fuL at h
  rw [List.getElem?_map, List.getElem?_range hi] at h
  simp at h
  exact ⟨hi, h.symm⟩
theorem fuL_mem {p : Pu} {n : Nat} {x : Pu × Int} (h : x ∈ fuL p n) : ∃ i : Nat, i < n ∧ x = (p, (i : Int)) := by
  obtain ⟨i, hi⟩ := List.getElem?_of_mem h
  exact ⟨i, fuL_get hi⟩
theorem fuL_snoc (p : Pu) (n : Nat) : fuL p (n + 1) = fuL p n ++ [(p, (n : Int))] := by simp [fuL, List.range_succ]
theorem drp_none {α : Type} {D N : Int} : ∀ {l : List (α × Int)}, (∀ x ∈ l, dueT D N x.2 = false) → drp D N l = l
  | [], _ => rfl
  | [a], _ => rfl
  | a :: b :: l, h => by rw [drp, if_neg (by rw [h b (by simp)]; simp)]
theorem fu_nodue {p : Pu} {n : Nat} {N : Int} (hn : n ≤ 103) (hN : N ≤ 999) : ∀ x ∈ fuL p n, dueT 1000 N x.2 = false := fun x hx => by
  obtain ⟨i, hi, rfl⟩ := fuL_mem hx
  cases h : dueT 1000 N (i : Int)
  · rfl
  · rw [due_iff (by unfold U; omega) (by unfold U; omega)] at h; omega
theorem fu_go {p : Pu} {i : Nat} (hi : i ≤ 103) : (fuS p i).go i = ⟨1000, i, fuL p (min i 100)⟩ := by
  have h1 : max (((i - 1 : Nat) : Int)) (i : Int) = i := by omega
  unfold Sd.go fuS
  simp only [h1]
  rw [drp_none (fu_nodue (by omega) (by omega))]
theorem fu_full {p : Pu} {i : Nat} (hi : i ≤ 103) (h : 100 ≤ i) : (fuS p i).go i = fuS p (i + 1) := by
  rw [fu_go hi]
  unfold fuS
  rw [show min (i + 1) 100 = min i 100 by omega]
  rfl
theorem fu_shw {p : Pu} {i : Nat} (h : i < 100) : (fuS p i).shw i p = fuS p (i + 1) := by
  unfold Sd.shw
  rw [fu_go (by omega)]
  unfold Sd.go
  simp only [Int.max_self]
  rw [show min i 100 = i by omega, ← fuL_snoc, drp_none (fu_nodue (by omega) (by omega))]
  unfold fuS
  rw [show min (i + 1) 100 = i + 1 by omega]
  rfl
theorem fu_srt (p : Pu) (n : Nat) : Srt (fuL p n) := fun i j x y hij hx hy => by
  obtain ⟨_, rfl⟩ := fuL_get hx
  obtain ⟨_, rfl⟩ := fuL_get hy
  show (i : Int) ≤ j
  omega
theorem fu_end {p : Pu} {n : Nat} (h : 98 ≤ n) (hn : n ≤ 103) : (fuS p n).go 1050 = ⟨1000, 1050, (fuL p (min n 100)).drop 50⟩ := by
  have h1 : max (((n - 1 : Nat) : Int)) (1050 : Int) = 1050 := by omega
  have hb : Bst 1000 1050 (fuL p (min n 100)) (50 : Int) := .inr ⟨50, rfl, ⟨(p, 50), by
    unfold fuL
    rw [List.getElem?_map, List.getElem?_range (by omega)]
    rfl, by rw [due_iff (by unfold U; simp) (by unfold U; simp)]; simp⟩, fun j y hj hy => by
      obtain ⟨_, rfl⟩ := fuL_get hy
      cases hd : dueT 1000 1050 (j : Int)
      · rfl
      · rw [due_iff (by unfold U; omega) (by unfold U; omega)] at hd; omega⟩
  unfold Sd.go fuS
  simp only [h1]
  have := drp_drop (fu_srt p (min n 100)) (fun x hx => by obtain ⟨i, hi, rfl⟩ := fuL_mem hx; unfold U; simp only; omega) (show U 1000 by unfold U; omega) hb 50 0 rfl
  rw [List.drop_zero] at this
  rw [this]
  rfl
theorem fu_see {p : Pu} {n : Nat} (h : 98 ≤ n) (hn : n ≤ 103) : ((fuS p n).go 1050).see = some (p, 50) := by
  have hl : 50 < (fuL p (min n 100)).length := by rw [fuL_len]; omega
  have e : (fuL p (min n 100)).drop 50 = (p, 50) :: (fuL p (min n 100)).drop 51 := by
    rw [List.drop_eq_getElem_cons hl]
    have := fuL_get (List.getElem?_eq_getElem hl)
    rw [this.2]
    rfl
  rw [fu_end h hn]
  unfold Sd.see
  simp only [e]
  rw [if_pos (by rw [due_iff (by unfold U; simp) (by unfold U; simp)]; simp)]
theorem fu_len {p : Pu} {n : Nat} (h : 98 ≤ n) (hn : n ≤ 103) : ((fuS p n).go 1050).l.length = min n 100 - 50 := by
  rw [fu_end h hn]
  simp [fuL_len]
theorem fu_again {p : Pu} {n : Nat} (h : 98 ≤ n) (hn : n ≤ 103) : (((fuS p n).go 1050).go 1050).l.length ≤ 50 := by
  rw [fu_end h hn]
  unfold Sd.go
  simp only [Int.max_self]
  have : ∀ (l : List (Pu × Int)), (drp 1000 1050 l).length ≤ l.length := fun l => by
    induction l with
    | nil => exact Nat.le_refl _
    | cons a l ih =>
      cases l with
      | nil => exact Nat.le_refl _
      | cons b l =>
        rw [drp]
        split
        · exact Nat.le_trans ih (by simp)
        · exact Nat.le_refl _
  refine Nat.le_trans (this _) ?_
  rw [List.length_drop, fuL_len]
  omega
end Plain
def FuL (w : World) (l1 nb P n : Nat) (s1 : Bs) (v : Value) (wr : World) : Prop := ∃ i : Nat, i ≤ n ∧ v = .int .i64 i ∧ Below w.heap.size w wr ∧ Bx wr nb s1 (newB 1 [0] [0]) ∧ BdO l1 nb wr s1 (newB 1 [0] [0]) ∧ ∃ v', SdAt wr P (fuS (puB (newB 1 [0] [0])) i) v'
set_option maxRecDepth 100000 in
set_option maxHeartbeats 4000000 in
theorem sfulls (n : Int) (w : World) (hn : Plain.I n) : Calls Try.prog 3 #[.int .i64 n] w fun e w' => e = .returned (.bool true) ∧ Below w.heap.size w w' := by
  by_cases h1 : n < 98
  · have t1 : decide (n < 98) = true := decide_eq_true h1
    clear h1 hn
    have HB : Hid (Below w.heap.size w w) := Lib.hid (Below.refl _ _)
    go_enter Try.func3, Try.ntmps3
    go_wp2_with fail
    with_reducible refine (known _).mono ?_
    rintro e w9 ⟨rfl, hb⟩
    replace HB := Lib.hid (below_via HB.out hb)
    clear hb
    go_wp2_with fail
    go_returns
    exact ⟨rfl, HB.out⟩
  have t1 : decide (n < 98) = false := decide_eq_false h1
  by_cases h2 : n > 103
  · have t2 : decide (n > 103) = true := decide_eq_true h2
    clear h1 h2 hn
    have HB : Hid (Below w.heap.size w w) := Lib.hid (Below.refl _ _)
    go_enter Try.func3, Try.ntmps3
    go_wp2_with fail
    with_reducible refine (known _).mono ?_
    rintro e w9 ⟨rfl, hb⟩
    replace HB := Lib.hid (below_via HB.out hb)
    clear hb
    go_wp2_with fail
    go_returns
    exact ⟨rfl, HB.out⟩
  have t2 : decide (n > 103) = false := decide_eq_false h2
  obtain ⟨m, rfl⟩ : ∃ m : Nat, n = m := ⟨n.toNat, by omega⟩
  have HM : Hid (98 ≤ m ∧ m ≤ 103) := Lib.hid ⟨by omega, by omega⟩
  clear h1 h2 hn
  go_enter Try.func3, Try.ntmps3
  go_wp2_with fail
  clear t1 t2
  obtain ⟨wz, hwz⟩ : ∃ W, W = (w.alloc (.cells #[.int .i64 0] 3)).alloc (.cells #[.int .i64 0] 3) := ⟨_, rfl⟩
  have HB : Hid (Below w.heap.size w wz) := Lib.hid (by rw [hwz]; go_grown)
  have HR0 : Hid (Rw ic 1 wz (.slice (some ⟨w.heap.size, 0, none⟩) 1 1) [0]) := Lib.hid (by rw [hwz]; exact (rw_lit w [0] #[.int .i64 0] rfl 1 rfl (by decide) _ rfl).below (by go_grown))
  have HR1 : Hid (Rw ic 1 wz (.slice (some ⟨w.heap.size + 1, 0, none⟩) 1 1) [0]) := Lib.hid (by rw [hwz]; exact rw_lit _ [0] _ rfl 1 rfl (by decide) _ (by simp))
  rw [← hwz]
  clear hwz
  with_reducible refine (bnew 1 [0] [0] _ _ _ HR0.out HR1.out (by omega) (by simp) (by simp) (by simp)).mono ?_
  rintro e w1 ⟨s1, rfl, ho, hb⟩
  clear HR0 HR1
  have hs1 := hb.size
  have HZ := HB.out.size
  obtain ⟨l1, hl1⟩ : ∃ n, n = wz.heap.size := ⟨_, rfl⟩
  rw [← hl1] at ho HZ
  replace HB := Lib.hid (below_via HB.out hb)
  clear hb
  go_wp2_with (refine wpList_store_bh (s := s1) (B := (newB 1 [0] [0])) rfl _ _ rfl rfl rfl (heap_alloc_new _ _) rfl ?_)
  intro w2 hw0
  have hbx := boxed hw0.out
  obtain ⟨nb, hnb⟩ : ∃ n, n = w1.heap.size := ⟨_, rfl⟩
  rw [← hnb] at hbx ho ⊢
  have hb := hbx.1
  rw [hnb] at hb
  replace HB := Lib.hid (below_via HB.out hb)
  have HOb := Lib.hid (ho.below hb)
  have HXb := Lib.hid hbx.2
  have HN1 : Hid (w.heap.size ≤ l1 ∧ l1 ≤ nb) := Lib.hid ⟨HZ, by rw [hnb, hl1]; exact hs1⟩
  clear hw0 hbx hnb hb hl1 ho hs1 HZ
  have HV : Hid (VB (newB 1 [0] [0])) := Lib.hid (newB_valid (by omega) (by simp) (by simp) (by simp))
  have HI : Hid ((newB 1 [0] [0]).I) := Lib.hid (newB_I (by simp) (by simp) (by simp))
  have HSM : Hid ((newB 1 [0] [0]).S60) := Lib.hid (newB_S60 (by simp))
  go_wp2_with fail
  with_reducible refine (snew_ok 1000 _ (by omega) (by omega)).mono ?_
  rintro e w3 ⟨P, rfl, hP, hS, hb⟩
  have HS : Hid (∃ v, SdAt w3 P (fuS (puB (newB 1 [0] [0])) 0) v) := Lib.hid ⟨_, hS⟩
  have HN : Hid (w.heap.size ≤ l1 ∧ l1 ≤ nb ∧ nb < P) := Lib.hid (by have h1 := HN1.out; have h3 := HXb.out.lt; omega)
  replace HB := Lib.hid (below_via HB.out hb)
  replace HXb := Lib.hid (HXb.out.below hb)
  replace HOb := Lib.hid (HOb.out.below hb)
  clear hb hP hS HN1
  go_wp2_with fail
  go_loopw [7] (fun v wr => FuL w l1 nb P m s1 v wr) (fun v _ => m - (intOf v).toNat)
  case atStart => exact ⟨0, by omega, rfl, HB.out, HXb.out, HOb.out, HS.out⟩
  case round =>
    obtain ⟨i, hi, rfl, hb, hx, hob, hs⟩ := hrel
    replace HB := Lib.hid hb
    replace HXb := Lib.hid hx
    replace HOb := Lib.hid hob
    replace HS := Lib.hid hs
    clear hb hx hob hs
    have hm := HM.out
    by_cases him : i < m
    · by_cases h100 : 100 ≤ i
      · have t100 : decide ((i : Int) ≥ 100) = true := decide_eq_true (by omega)
        go_wp2_with (refine wpList_load_bx _ rfl rfl HXb.out (by kernel_rfl) ?_)
        obtain ⟨v, hS⟩ := HS.out
        with_reducible refine (show_full P (fuS (puB (newB 1 [0] [0])) i) v s1 (newB 1 [0] [0]) i _ hS HOb.out.rd HI.out HSM.out.sm HV.out (by unfold U; omega) (by rw [fu_go (by omega)]; show 100 ≤ (fuL _ _).length; rw [fuL_len]; omega)).mono ?_
        rintro e w8 ⟨rfl, hs, ho⟩
        rw [fu_full (by omega) (by omega)] at hs
        replace HS := Lib.hid hs
        replace HOb := Lib.hid (HOb.out.onl1 ho (by have := HN.out; omega) (by have h1 := HXb.out.lt; omega))
        replace HXb := Lib.hid (HXb.out.onl ho (by have := HN.out; simp; omega))
        replace HB := Lib.hid (belowOnl HB.out ho (by have := HN.out; simp; omega) HB.out.size)
        clear hs ho hS v
        go_wp2_with fail
        go_roundw
        case rel => exact ⟨i + 1, by omega, by go_num, HB.out, HXb.out, HOb.out, HS.out⟩
        case measure => simp [intOf]; omega
      · have t100 : decide ((i : Int) ≥ 100) = false := decide_eq_false (by omega)
        go_wp2_with (refine wpList_load_bx _ rfl rfl HXb.out (by kernel_rfl) ?_)
        obtain ⟨v, hS⟩ := HS.out
        with_reducible refine (show_ok P (fuS (puB (newB 1 [0] [0])) i) v s1 (newB 1 [0] [0]) i _ hS HOb.out.rd HI.out HSM.out.sm HV.out (by unfold U; omega) (by rw [fu_go (by omega)]; show (fuL _ _).length < 100; rw [fuL_len]; omega)).mono ?_
        rintro e w8 ⟨rfl, hs, ho⟩
        rw [fu_shw (by omega)] at hs
        replace HS := Lib.hid hs
        replace HOb := Lib.hid (HOb.out.onl1 ho (by have := HN.out; omega) (by have h1 := HXb.out.lt; omega))
        replace HXb := Lib.hid (HXb.out.onl ho (by have := HN.out; simp; omega))
        replace HB := Lib.hid (belowOnl HB.out ho (by have := HN.out; simp; omega) HB.out.size)
        clear hs ho hS v
        go_wp2_with fail
        go_roundw
        case rel => exact ⟨i + 1, by omega, by go_num, HB.out, HXb.out, HOb.out, HS.out⟩
        case measure => simp [intOf]; omega
    · obtain rfl : i = m := by omega
      obtain ⟨v, hS⟩ := HS.out
      go_wp2_with fail
      with_reducible refine (see_ok P (fuS (puB (newB 1 [0] [0])) i) v 1050 _ hS (by unfold U; omega) (puB (newB 1 [0] [0]), 50) (fu_see hm.1 hm.2) (pub_sm HV.out HSM.out)).mono ?_
      rintro e w4 ⟨⟨sp, rfl, hpo, ho⟩, hs⟩
      replace HS := Lib.hid hs
      replace HOb := Lib.hid (HOb.out.onl1 ho (by have := HN.out; omega) (by have h1 := HXb.out.lt; omega))
      replace HXb := Lib.hid (HXb.out.onl ho (by have := HN.out; simp; omega))
      replace HB := Lib.hid (belowOnl HB.out ho (by have := HN.out; simp; omega) HB.out.size)
      clear hs ho hS v hpo
      go_wp2_with (refine wpList_store_ph (s := sp) (P := puB (newB 1 [0] [0])) rfl _ _ rfl rfl rfl (heap_alloc_new _ _) rfl ?_)
      intro w5 hw5
      have hb := (pboxed hw5.out).1
      replace HB := Lib.hid (below_via HB.out hb)
      replace HXb := Lib.hid (HXb.out.below hb)
      replace HOb := Lib.hid (HOb.out.below hb)
      replace HS : Hid (∃ v, SdAt w5 P ((fuS (puB (newB 1 [0] [0])) i).go 1050) v) := Lib.hid (by obtain ⟨v, h⟩ := HS.out; exact ⟨v, h.below hb⟩)
      clear hw5 hb
      obtain ⟨v, hS⟩ := HS.out
      go_wp2_with fail
      with_reducible refine (kept_ok P ((fuS (puB (newB 1 [0] [0])) i).go 1050) v _ hS).mono ?_
      rintro e w' ⟨rfl, rfl⟩
      obtain ⟨k, hk⟩ : ∃ k, ((fuS (puB (newB 1 [0] [0])) i).go 1050).l.length = k := ⟨_, rfl⟩
      have hk2 := hk
      rw [fu_len hm.1 hm.2] at hk2
      rw [hk]
      clear hk
      by_cases i3 : (i : Int) ≤ 100
      · have tk : ((k : Int) == (i : Int) - 50) = true := by simp only [beq_iff_eq]; omega
        clear hk2
        go_wp2_with (refine wpList_load_bx _ rfl rfl HXb.out (by kernel_rfl) ?_)
        with_reducible refine (show_ok P ((fuS (puB (newB 1 [0] [0])) i).go 1050) v s1 (newB 1 [0] [0]) 1050 _ hS HOb.out.rd HI.out HSM.out.sm HV.out (by unfold U; omega) (Nat.lt_of_le_of_lt (fu_again HM.out.1 HM.out.2) (by omega))).mono ?_
        rintro e w8 ⟨rfl, hs, ho⟩
        replace HB := Lib.hid (belowOnl HB.out ho (by have := HN.out; simp; omega) HB.out.size)
        clear hs ho hS v
        go_wp2_with fail
        with_reducible refine (known _).mono ?_
        rintro e w9 ⟨rfl, hb⟩
        replace HB := Lib.hid (below_via HB.out hb)
        clear hb
        go_wp2_with fail
        go_returns
        exact ⟨rfl, HB.out⟩
      · have tk : ((k : Int) == 50) = true := by simp only [beq_iff_eq]; omega
        have i4 : (100 : Int) < i := by omega
        clear hk2
        go_wp2_with (refine wpList_load_bx _ rfl rfl HXb.out (by kernel_rfl) ?_)
        with_reducible refine (show_ok P ((fuS (puB (newB 1 [0] [0])) i).go 1050) v s1 (newB 1 [0] [0]) 1050 _ hS HOb.out.rd HI.out HSM.out.sm HV.out (by unfold U; omega) (Nat.lt_of_le_of_lt (fu_again HM.out.1 HM.out.2) (by omega))).mono ?_
        rintro e w8 ⟨rfl, hs, ho⟩
        replace HB := Lib.hid (belowOnl HB.out ho (by have := HN.out; simp; omega) HB.out.size)
        clear hs ho hS v
        go_wp2_with fail
        with_reducible refine (known _).mono ?_
        rintro e w9 ⟨rfl, hb⟩
        replace HB := Lib.hid (below_via HB.out hb)
        clear hb
        go_wp2_with fail
        go_returns
        exact ⟨rfl, HB.out⟩
end Go.Proofs.Yteoeahmnonolmaa
