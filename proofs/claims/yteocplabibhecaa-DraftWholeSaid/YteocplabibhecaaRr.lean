/- Which packs are small, which are right. -/
import Derived.Test.YteocplabibhecaaMe
namespace Go.Proofs.Yteocplabibhecaa
open Go.RowKit Plain
set_option linter.unusedVariables false
set_option linter.unusedSimpArgs false

set_option maxRecDepth 100000 in
set_option maxHeartbeats 2000000 in
theorem small8 (v : Value) (ls : List (List (List Int))) (w : World) (hs : Rw3 w v ls) : Calls Try.prog 8 #[v] w fun e w' => e = .returned (.bool (small ls)) ∧ Below w.heap.size w w' := by
  obtain ⟨m1, a1, c1, rfl, f1⟩ := hs.at
  have F1 := Lib.hid f1
  clear hs f1
  by_cases h6 : 6 < ls.length
  · have ef : Hid (small ls = false) := Lib.hid (by unfold small; rw [decide_eq_false (by omega)]; rfl)
    go_enter Try.func8, Try.ntmps8
    go_wp2_with fail
    go_returns
    exact ⟨ret_bool ef.out.symm, Below.refl _ _⟩
  · go_enter Try.func8, Try.ntmps8
    go_wp2_with fail
    go_loopw [3] (fun i wr => AllRel w okS ls i wr) (fun i _ => ls.length - (intOf i).toNat)
    case atStart => exact ⟨0, Nat.zero_le _, rfl, rfl, Below.refl _ _⟩
    case round =>
      obtain ⟨i, hi, rfl, hti, hb⟩ := hrel
      have HTI := Lib.hid hti
      have hzz := hb.size
      clear hti
      by_cases hil : i < ls.length
      · obtain ⟨b1, o1, rfl, hb1, hc1⟩ := F1.out (by omega)
        obtain ⟨r, hr⟩ : ∃ r, ls[i]? = some r := ⟨ls[i], List.getElem?_eq_getElem hil⟩
        have HR := Lib.hid hr
        obtain ⟨a2, c2, e1, hr2⟩ := hc1 i r hr
        obtain ⟨m2, f2⟩ := hr2.fm
        have F2 := Lib.hid f2
        have e1 := (hb.cell (p := ⟨b1, o1 + i, none⟩) hb1).trans e1
        have i1 : (0 : Int) ≤ (i : Int) := by omega
        have i2 : (i : Int) < (ls.length : Int) := by omega
        clear hr hc1 hr2 f2
        by_cases h10 : 10 < r.length
        · have ef : Hid (small ls = false) := Lib.hid (by unfold small; rw [all_bad HR.out (by unfold okS; rw [decide_eq_false (by omega)]; rfl), Bool.and_false])
          go_wp2_with fail
          go_returns
          exact ⟨ret_bool ef.out.symm, hb⟩
        · obtain ⟨wo, rfl⟩ : ∃ wo, wo = wr := ⟨_, rfl⟩
          have HB := Lib.hid hb
          go_wp2_with fail
          go_loopw [4] (fun k wr => AllRel wo (fun p : List Int => decide (p.length ≤ 20)) r k wr) (fun k _ => r.length - (intOf k).toNat)
          case atStart => exact ⟨0, Nat.zero_le _, rfl, rfl, Below.refl _ _⟩
          case round =>
            clear hb
            obtain ⟨k, hk, rfl, htk, hb2⟩ := hrel
            have HTK := Lib.hid htk
            have hzz2 := hb2.size
            have e1 := (hb2.cell (p := ⟨b1, o1 + i, none⟩) (show b1 < wo.heap.size by omega)).trans e1
            clear htk
            by_cases hkl : k < r.length
            · obtain ⟨b2, o2, rfl, hb22, hc2⟩ := F2.out (by omega)
              obtain ⟨p, hp⟩ : ∃ p, r[k]? = some p := ⟨r[k], List.getElem?_eq_getElem hkl⟩
              have HP := Lib.hid hp
              obtain ⟨a3, c3, e2, _⟩ := hc2 k p hp
              have e2 := (hb2.cell (p := ⟨b2, o2 + k, none⟩) (show b2 < wo.heap.size by omega)).trans ((HB.out.cell (p := ⟨b2, o2 + k, none⟩) hb22).trans e2)
              have j1 : (0 : Int) ≤ (k : Int) := by omega
              have j2 : (k : Int) < (r.length : Int) := by omega
              clear hp hc2
              by_cases h20 : 20 < p.length
              · have ef : Hid (small ls = false) := Lib.hid (by
                  unfold small
                  rw [all_bad HR.out (by unfold okS; rw [all_bad HP.out (by rw [decide_eq_false (by omega)]), Bool.and_false]), Bool.and_false])
                go_wp2_with fail
                go_returns
                exact ⟨ret_bool ef.out.symm, below_via HB.out hb2⟩
              · have h2 := Lib.hid (all_next (f := fun p : List Int => decide (p.length ≤ 20)) HTK.out HP.out (by rw [decide_eq_true (by omega)]))
                go_wp2_with fail
                go_roundw
                case rel => exact ⟨k + 1, by omega, by go_num, h2.out, hb2⟩
                case measure => simp [intOf]; omega
            · obtain rfl : k = r.length := by omega
              have h2 := Lib.hid (all_next HTI.out HR.out (by unfold okS; rw [decide_eq_true (by omega), all_end HTK.out]; rfl))
              go_wp2_with fail
              go_roundw
              case rel => exact ⟨i + 1, by omega, by go_num, h2.out, below_via HB.out hb2⟩
              case measure => simp [intOf]; omega
      · obtain rfl : i = ls.length := by omega
        have ef : Hid (small ls = true) := Lib.hid (by unfold small; rw [decide_eq_true (by omega), all_end HTI.out]; rfl)
        go_wp2_with fail
        go_returns
        exact ⟨ret_bool ef.out.symm, hb⟩
theorem small8c (v : Value) (ls : List (List (List Int))) (b : Bool) (w : World) (hs : Rw3 w v ls) (h : small ls = b) : Calls Try.prog 8 #[v] w fun e w' => e = .returned (.bool b) ∧ Below w.heap.size w w' := by
  subst h
  exact small8 v ls w hs
theorem Rw3.fm {w : World} {a : Option Addr} {c : Nat} {l : List (List (List Int))} (h : Rw3 w (.slice a l.length c) l) : l.length ≤ 9223372036854775807 ∧ (0 < l.length → ∃ b off, a = some ⟨b, off, none⟩ ∧ b < w.heap.size ∧ ∀ (i : Nat) m, l[i]? = some m → ∃ a' c', w.cell? ⟨b, off + i, none⟩ = some (.slice a' m.length c') ∧ Rw2 w (.slice a' m.length c') m) := by
  obtain ⟨h1, a', c', hv, h2⟩ := h.at
  simp only [Value.slice.injEq] at hv
  obtain ⟨rfl, _, rfl⟩ := hv
  exact ⟨h1, h2⟩
set_option maxRecDepth 100000 in
set_option maxHeartbeats 2000000 in
theorem right28 (v : Value) (ls : List (List (List Int))) (w : World) (hs : Rw3 w v ls) : Calls Try.prog 28 #[v] w fun e w' => e = .returned (.bool (right ls)) ∧ Below w.heap.size w w' := by
  obtain ⟨m1, a1, c1, rfl, f1⟩ := hs.at
  have F1 := Lib.hid f1
  clear hs f1
  by_cases h1 : ls.length < 1
  · have ef : Hid (right ls = false) := Lib.hid (right_len (.inl h1))
    go_enter Try.func28, Try.ntmps28
    go_wp2_with fail
    go_returns
    exact ⟨ret_bool ef.out.symm, Below.refl _ _⟩
  by_cases h4 : 4 < ls.length
  · have ef : Hid (right ls = false) := Lib.hid (right_len (.inr h4))
    go_enter Try.func28, Try.ntmps28
    go_wp2_with fail
    go_returns
    exact ⟨ret_bool ef.out.symm, Below.refl _ _⟩
  obtain ⟨b1, o1, rfl, hb1, hc1⟩ := F1.out (by omega)
  have HC1 := Lib.hid hc1
  obtain ⟨r0, hr0⟩ : ∃ r, ls[0]? = some r := ⟨ls[0]'(by omega), List.getElem?_eq_getElem (by omega)⟩
  have HR0 := Lib.hid hr0
  obtain ⟨a2, c2, e1, hr2⟩ := hc1 0 r0 hr0
  rw [Nat.add_zero] at e1
  obtain ⟨m2, f2⟩ := hr2.fm
  have i0 : (0 : Int) < (ls.length : Int) := by omega
  clear hr0 hc1 F1 hr2
  by_cases h2 : r0.length < 2
  · have ef : Hid (right ls = false) := Lib.hid (right_n HR0.out (.inl h2))
    clear f2
    go_enter Try.func28, Try.ntmps28
    go_wp2_with fail
    go_returns
    exact ⟨ret_bool ef.out.symm, Below.refl _ _⟩
  by_cases h8 : 8 < r0.length
  · have ef : Hid (right ls = false) := Lib.hid (right_n HR0.out (.inr h8))
    clear f2
    go_enter Try.func28, Try.ntmps28
    go_wp2_with fail
    go_returns
    exact ⟨ret_bool ef.out.symm, Below.refl _ _⟩
  obtain ⟨b2, o2, rfl, hb2, hc2⟩ := f2 (by omega)
  obtain ⟨p0, hp0⟩ : ∃ r, r0[0]? = some r := ⟨r0[0]'(by omega), List.getElem?_eq_getElem (by omega)⟩
  obtain ⟨a3, c3, e2, hp2⟩ := hc2 0 p0 hp0
  rw [Nat.add_zero] at e2
  have m3 := hp2.fm ic1 |>.1
  have HREQ := Lib.hid (right_eq (by omega) HR0.out hp0 (by omega) (by omega))
  have j0 : (0 : Int) < (r0.length : Int) := by omega
  obtain ⟨n, hn⟩ : ∃ n, r0.length = n := ⟨_, rfl⟩
  obtain ⟨c, hc⟩ : ∃ n, p0.length = n := ⟨_, rfl⟩
  rw [hn] at HREQ e1 h2 h8 j0
  rw [hc] at HREQ e2 m3
  clear hc2 hp0 hp2 f2 hn hc m2
  go_enter Try.func28, Try.ntmps28
  go_wp2_with fail
  go_loopw [35] (fun i wr => AllRel w (okR n c) ls i wr) (fun i _ => ls.length - (intOf i).toNat)
  case atStart => exact ⟨0, Nat.zero_le _, rfl, rfl, Below.refl _ _⟩
  case round =>
    clear e1 e2 i0 j0
    obtain ⟨i, hi, rfl, hti, hb⟩ := hrel
    have HTI := Lib.hid hti
    have hzz := hb.size
    clear hti
    by_cases hil : i < ls.length
    · obtain ⟨r, hr⟩ : ∃ r, ls[i]? = some r := ⟨ls[i], List.getElem?_eq_getElem hil⟩
      have HR := Lib.hid hr
      obtain ⟨a4, c4, e1, hr2⟩ := HC1.out i r hr
      obtain ⟨m4, f2⟩ := hr2.fm
      have F2 := Lib.hid f2
      have e1 := (hb.cell (p := ⟨b1, o1 + i, none⟩) hb1).trans e1
      have i1 : (0 : Int) ≤ (i : Int) := by omega
      have i2 : (i : Int) < (ls.length : Int) := by omega
      clear hr hr2 f2
      by_cases hrn : r.length = n
      · have q1 : ((r.length : Int) != (n : Int)) = false := by simp [hrn]
        obtain ⟨wo, rfl⟩ : ∃ wo, wo = wr := ⟨_, rfl⟩
        have HB := Lib.hid hb
        go_wp2_with fail
        go_loopw [45] (fun k wr => AllRel wo (okP c) r k wr) (fun k _ => r.length - (intOf k).toNat)
        case atStart => exact ⟨0, Nat.zero_le _, rfl, rfl, Below.refl _ _⟩
        case round =>
          clear hb e1
          obtain ⟨k, hk, rfl, htk, hb2⟩ := hrel
          have HTK := Lib.hid htk
          have hzz2 := hb2.size
          clear htk
          by_cases hkl : k < r.length
          · obtain ⟨b5, o5, rfl, hb5, hc5⟩ := F2.out (by omega)
            obtain ⟨p, hp⟩ : ∃ p, r[k]? = some p := ⟨r[k], List.getElem?_eq_getElem hkl⟩
            have HP := Lib.hid hp
            obtain ⟨a6, c6, e2, hp2⟩ := hc5 k p hp
            have e2 := (hb2.cell (p := ⟨b5, o5 + k, none⟩) (show b5 < wo.heap.size by omega)).trans ((HB.out.cell (p := ⟨b5, o5 + k, none⟩) hb5).trans e2)
            have HRWp := Lib.hid ((hp2.below HB.out).below hb2)
            have j1 : (0 : Int) ≤ (k : Int) := by omega
            have j2 : (k : Int) < (r.length : Int) := by omega
            clear hp hc5 hp2
            by_cases hpc : p.length = c
            · have q2 : ((p.length : Int) != (c : Int)) = false := by simp [hpc]
              have HRW : Hid (Rw ic 1 wr (.slice a6 c c6) p) := Lib.hid (by rw [← hpc]; exact HRWp.out)
              cases hbad : p.any badC
              · have HBAD := Lib.hid hbad
                have h2 := Lib.hid (all_next (f := okP c) HTK.out HP.out (by unfold okP; rw [hbad, hpc]; simp))
                clear hbad
                go_wp2_with fail
                with_reducible refine (contains38c _ p _ _ HRW.out HBAD.out).mono ?_
                rintro e w2 ⟨rfl, hb3⟩
                go_wp2_with fail
                go_roundw
                case rel => exact ⟨k + 1, by omega, by go_num, h2.out, below_via hb2 hb3⟩
                case measure => simp [intOf]; omega
              · have HBAD := Lib.hid hbad
                have ef : Hid (right ls = false) := Lib.hid (by
                  rw [HREQ.out, all_bad HR.out (by unfold okR; rw [all_bad HP.out (by unfold okP; rw [hbad]; simp), Bool.and_false]), Bool.false_and])
                clear hbad
                go_wp2_with fail
                with_reducible refine (contains38c _ p _ _ HRW.out HBAD.out).mono ?_
                rintro e w2 ⟨rfl, hb3⟩
                go_wp2_with fail
                go_returns
                exact ⟨ret_bool ef.out.symm, below_via HB.out (below_via hb2 hb3)⟩
            · have q2 : ((p.length : Int) != (c : Int)) = true := by simp; omega
              have ef : Hid (right ls = false) := Lib.hid (by
                rw [HREQ.out, all_bad HR.out (by unfold okR; rw [all_bad HP.out (by unfold okP; rw [show (p.length == c) = false by simp; exact hpc]; rfl), Bool.and_false]), Bool.false_and])
              go_wp2_with fail
              go_returns
              exact ⟨ret_bool ef.out.symm, below_via HB.out hb2⟩
          · obtain rfl : k = r.length := by omega
            have h2 := Lib.hid (all_next (f := okR n c) HTI.out HR.out (by unfold okR; rw [all_end HTK.out, hrn]; simp))
            go_wp2_with fail
            go_roundw
            case rel => exact ⟨i + 1, by omega, by go_num, h2.out, below_via HB.out hb2⟩
            case measure => simp [intOf]; omega
      · have q1 : ((r.length : Int) != (n : Int)) = true := by simp; omega
        have ef : Hid (right ls = false) := Lib.hid (by
          rw [HREQ.out, all_bad HR.out (by unfold okR; rw [show (r.length == n) = false by simp; exact hrn]; rfl), Bool.false_and])
        go_wp2_with fail
        go_returns
        exact ⟨ret_bool ef.out.symm, hb⟩
    · obtain rfl : i = ls.length := by omega
      have ef : Hid (right ls = (decide (1 ≤ c) && decide (c ≤ 15))) := Lib.hid (by rw [HREQ.out, all_end HTI.out, Bool.true_and])
      by_cases hc1 : 1 ≤ c
      · by_cases hc2 : c ≤ 15
        · have ef2 : Hid (right ls = true) := Lib.hid (by rw [ef.out, decide_eq_true hc1, decide_eq_true hc2]; rfl)
          have q3 : decide ((c : Int) ≤ 15) = true := decide_eq_true (by omega)
          go_wp2_with fail
          go_returns
          exact ⟨ret_bool ef2.out.symm, hb⟩
        · have ef2 : Hid (right ls = false) := Lib.hid (by rw [ef.out, decide_eq_false hc2, Bool.and_false])
          have q3 : decide ((c : Int) ≤ 15) = false := decide_eq_false (by omega)
          go_wp2_with fail
          go_returns
          exact ⟨ret_bool ef2.out.symm, hb⟩
      · have ef2 : Hid (right ls = false) := Lib.hid (by rw [ef.out, decide_eq_false hc1, Bool.false_and])
        go_wp2_with fail
        go_returns
        exact ⟨ret_bool ef2.out.symm, hb⟩
theorem right28c (v : Value) (ls : List (List (List Int))) (b : Bool) (w : World) (hs : Rw3 w v ls) (h : right ls = b) : Calls Try.prog 28 #[v] w fun e w' => e = .returned (.bool b) ∧ Below w.heap.size w w' := by
  subst h
  exact right28 v ls w hs
end Go.Proofs.Yteocplabibhecaa
