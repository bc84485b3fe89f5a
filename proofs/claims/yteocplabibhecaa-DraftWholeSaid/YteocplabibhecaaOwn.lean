/- Packs that share no memory. -/
import Derived.Test.YteocplabibhecaaMe
namespace Go.Proofs.Yteocplabibhecaa
open Go.RowKit Plain
set_option linter.unusedVariables false
set_option linter.unusedSimpArgs false

theorem at2_last {β : Type} (vss : List (List β)) (r : List β) (x : β) (i k : Nat) (h : at2 (vss ++ [r]) i k = some x) : at2 vss i k = some x ∨ x ∈ r := by
  obtain ⟨s, hs, hk⟩ := at2_row h
  rcases Nat.lt_or_ge i vss.length with h1 | h1
  · rw [List.getElem?_append_left h1] at hs
    exact .inl (at2_of hs hk)
  · rw [List.getElem?_append_right h1] at hs
    cases hz : i - vss.length with
    | zero => rw [hz] at hs; simp at hs; subst hs; exact .inr (List.mem_of_getElem? hk)
    | succ z => rw [hz] at hs; simp at hs
def OwnRel (w : World) (ls : List (List (List Int))) (ov iv : Value) (wr : World) : Prop := ∃ (i : Nat) (so : Sl) (rvs : List Sl) (vss : List (List Sl)), i ≤ ls.length ∧ iv = .int .i64 i ∧ ov = so.v ∧ Ow vc 1 30 wr w.heap.size so.v rvs ∧ Fam vc 32 wr rvs vss ∧ Mat ic 3 wr vss (ls.take i) ∧ (∀ s ∈ rvs, ∀ b, blk s.v = some b → w.heap.size ≤ b) ∧ (∀ i k s b, at2 vss i k = some s → blk s.v = some b → w.heap.size ≤ b) ∧ Below w.heap.size w wr
def OwnRel2 (wo : World) (vss : List (List Sl)) (lss : List (List (List Int))) (r : List (List Int)) (lv kv : Value) (wr : World) : Prop := ∃ (k : Nat) (sl : Sl) (r' : List Sl), k ≤ r.length ∧ kv = .int .i64 k ∧ lv = sl.v ∧ Ow vc 1 32 wr wo.heap.size sl.v r' ∧ Mat ic 3 wr (vss ++ [r']) (lss ++ [r.take k]) ∧ (∀ s ∈ r', ∀ b, blk s.v = some b → wo.heap.size ≤ b) ∧ Below wo.heap.size wo wr
def MxNew (w : World) (ls : List (List (List Int))) (e : Ending) (w' : World) : Prop := ∃ so rvs vss, e = .returned so.v ∧ MxM w' w.heap.size so rvs vss ls ∧ Below w.heap.size w w'
theorem small_at {ls : List (List (List Int))} (h : small ls = true) : ls.length ≤ 6 ∧ ∀ (i : Nat) r, ls[i]? = some r → r.length ≤ 10 ∧ ∀ (k : Nat) p, r[k]? = some p → p.length ≤ 20 := by
  unfold small at h
  simp only [Bool.and_eq_true, decide_eq_true_eq, List.all_eq_true] at h
  refine ⟨h.1, fun i r hr => ?_⟩
  have h2 := h.2 r (List.mem_of_getElem? hr)
  unfold okS at h2
  simp only [Bool.and_eq_true, decide_eq_true_eq, List.all_eq_true] at h2
  exact ⟨h2.1, fun k p hp => h2.2 p (List.mem_of_getElem? hp)⟩
set_option maxRecDepth 100000 in
set_option maxHeartbeats 2000000 in
theorem own10 (v : Value) (ls : List (List (List Int))) (w : World) (hs : Rw3 w v ls) (hsm : small ls = true) : Calls Try.prog 10 #[v] w (MxNew w ls) := by
  obtain ⟨m1, a1, c1, rfl, f1⟩ := hs.at
  have F1 := Lib.hid f1
  have HSM := Lib.hid (small_at hsm)
  clear hs f1 hsm
  go_enter Try.func10, Try.ntmps10
  go_wp2_with fail
  go_loopw [3, 4] (fun ov i wr => OwnRel w ls ov i wr) (fun _ i _ => ls.length - (intOf i).toNat)
  case atStart => exact ⟨0, Sl.nil, [], [], Nat.zero_le _, rfl, rfl, Ow.nil _ _ _, Fam.nil _ _, by rw [List.take_zero]; exact Mat.nil _ _, by simp, by simp [at2], Below.refl _ _⟩
  case round =>
    obtain ⟨i, ⟨oa, on, oc⟩, rvs, vss, hi, rfl, rfl, hov, hf, hm, hbr, hbi, hb⟩ := hrel
    have HOV := Lib.hid hov
    have HF := Lib.hid hf
    have HMM := Lib.hid hm
    have HBR := Lib.hid hbr
    have HBI := Lib.hid hbi
    have HBW := Lib.hid hb
    have hzz := hb.size
    have HRVL : Hid (rvs.length ≤ 6) := Lib.hid (by have h1 := hf.len; have h2 := hm.len; have h3 := HSM.out.1; rw [List.length_take] at h2; omega)
    clear hov hf hm hbr hbi
    simp only [Sl.v]
    by_cases hil : i < ls.length
    · obtain ⟨b1, o1, rfl, hb1, hc1⟩ := F1.out (by omega)
      obtain ⟨r, hr⟩ : ∃ r, ls[i]? = some r := ⟨ls[i], List.getElem?_eq_getElem hil⟩
      have HR := Lib.hid hr
      obtain ⟨a2, c2, e1, hr2⟩ := hc1 i r hr
      obtain ⟨m2, f2⟩ := hr2.fm
      have F2 := Lib.hid f2
      have HSR := Lib.hid (HSM.out.2 i r hr)
      have HE1 := Lib.hid ((hb.cell (p := ⟨b1, o1 + i, none⟩) hb1).trans e1)
      have i1 : (0 : Int) ≤ (i : Int) := by omega
      have i2 : (i : Int) < (ls.length : Int) := by omega
      obtain ⟨wo, rfl⟩ : ∃ wo, wo = wr := ⟨_, rfl⟩
      obtain ⟨lss, hlss⟩ : ∃ l, ls.take i = l := ⟨_, rfl⟩
      have HLSS := Lib.hid hlss
      rw [hlss] at HMM
      clear hr hc1 hr2 f2 hb e1 hlss
      go_wp2_with fail
      go_loopw [5, 6] (fun lv k wr => OwnRel2 wo vss lss r lv k wr) (fun _ k _ => r.length - (intOf k).toNat)
      case atStart => exact ⟨0, Sl.nil, [], Nat.zero_le _, rfl, rfl, Ow.nil _ _ _, by rw [List.take_zero]; exact HMM.out.push0, by simp, Below.refl _ _⟩
      case round =>
        obtain ⟨k, ⟨la, ln, lc⟩, r', hk, rfl, rfl, hl, hm, hrn, hb⟩ := hrel
        have HL := Lib.hid hl
        have HM := Lib.hid hm
        have HRN := Lib.hid hrn
        have HB := Lib.hid hb
        have hzz2 := hb.size
        have HRL : Hid (r'.length ≤ 10) := Lib.hid (by
          have h1 := hm.lens vss.length r' (r.take k) (by simp) (by have := hm.len; simp at this; rw [this]; simp)
          rw [List.length_take] at h1
          have := HSR.out.1
          omega)
        have e1 := (hb.cell (p := ⟨b1, o1 + i, none⟩) (show b1 < wo.heap.size by omega)).trans HE1.out
        have HBW2 := Lib.hid (below_via HBW.out hb)
        clear hl hm hrn
        simp only [Sl.v]
        by_cases hkl : k < r.length
        · obtain ⟨b2, o2, rfl, hb2, hc2⟩ := F2.out (by omega)
          obtain ⟨p, hp⟩ : ∃ p, r[k]? = some p := ⟨r[k], List.getElem?_eq_getElem hkl⟩
          have HP := Lib.hid hp
          obtain ⟨a3, c3, e2, hp2⟩ := hc2 k p hp
          have e2 := (HBW2.out.cell (p := ⟨b2, o2 + k, none⟩) hb2).trans e2
          have HPW := Lib.hid (hp2.below HBW2.out)
          have HPL := Lib.hid (HSR.out.2 k p hp)
          have j1 : (0 : Int) ≤ (k : Int) := by omega
          have j2 : (k : Int) < (r.length : Int) := by omega
          clear hp hc2 hp2 hb
          go_wp2_with (at_builtin; refine wpList_append_ow (f := ic) (sz := 1) rfl _ _ 32 rfl wr.heap.size 3 (.int .i64 0) 8 Try.underlying32 info3 rfl (by decide) _ [] rfl (Ow.nil _ _ _) ic_ok _ p rfl HPW.out ?ca1 ?cb1 (Nat.le_refl _) ?_)
          case ca1 => have q1 := HPL.out; simp [maxLen]; omega
          case cb1 => have q1 := HPL.out; simp; omega
          intro v1 w1 hown1 hg1 _
          have hb1' : Below wr.heap.size wr w1 := (Below.refl _ _).grown hg1 (Nat.le_refl _) (by simp [Value.ownBlock])
          have hown1 : Ow ic 1 3 w1 wr.heap.size v1 p := hown1
          obtain ⟨av, cv, hv1⟩ := hown1.form
          subst hv1
          obtain ⟨s1, hs1⟩ : ∃ s : Sl, s = ⟨av, p.length, cv⟩ := ⟨_, rfl⟩
          have hs1v : s1.v = .slice av p.length cv := by rw [hs1]; rfl
          have HS1V := Lib.hid hs1v
          have HM1 : Hid (Mat ic 3 w1 (vss ++ [r' ++ [s1]]) (lss ++ [r.take k ++ [p]])) := Lib.hid (HM.out.push1 s1 p hb1' (by rw [hs1v]; exact Oe.of_ow hown1) (fun b hb => by rw [hs1v] at hb; exact (hown1.typ b (blk_own hb)).1))
          have HN1 : Hid (∀ b, blk s1.v = some b → wr.heap.size ≤ b) := Lib.hid (fun b hb => by rw [hs1v] at hb; exact (hown1.typ b (blk_own hb)).1)
          have HL1 := Lib.hid (HL.out.below hb1')
          have HB1 := Lib.hid (below_via HB.out hb1')
          have hz1 := hb1'.size
          clear hown1 hg1 hb1' hs1v hs1
          go_wp2_with (at_builtin; refine wpList_append_ow (f := vc) (sz := 1) rfl _ _ 30 rfl wo.heap.size 32 (.slice none 0 0) 24 Try.underlying30 info32 rfl (by decide) _ r' rfl (HL1.out.below (by go_grown)) vc_ok _ [s1] rfl (Rw.one2 _ _ s1 _ (by simp [vc, HS1V.out]) _ _ (by simp)) ?ca2 ?cb2 (by have := HB1.out.size; simp; omega) ?_)
          case ca2 => have q1 := HRL.out; simp [maxLen]; omega
          case cb2 => have q1 := HRL.out; simp; omega
          intro v2 w2 hown2 hg2 _
          have hty : Ty _ _ 32 := (HL1.out.below (w' := w1.alloc (.cells #[.slice av p.length cv] 32)) (by go_grown)).ty
          have HM2 : Hid (Mat ic 3 w2 (vss ++ [r' ++ [s1]]) (lss ++ [r.take (k + 1)])) := Lib.hid (by
            rw [List.take_add_one, HP.out]
            exact (HM1.out.below (by go_grown)).grownT hg2 hty (by decide))
          have HL2 := Lib.hid hown2
          have HB2 : Hid (Below wo.heap.size wo w2) := Lib.hid ((below_via HB1.out (by go_grown)).grown hg2 (by have := HB1.out.size; simp; omega) (fun q hq => ((HL1.out.typ q hq).1)))
          obtain ⟨a2, c2', hv2⟩ := hown2.form
          obtain ⟨n2, hn2⟩ : ∃ n, (r' ++ [s1]).length = n := ⟨_, rfl⟩
          rw [hn2] at hv2
          subst hv2
          clear hown2 hg2 hty HL1 HM1 HB1 HM HL HB hn2
          go_wp2_with fail
          go_roundw
          case rel => exact ⟨k + 1, ⟨a2, n2, c2'⟩, r' ++ [s1], by omega, by go_num, rfl, HL2.out, HM2.out, by
            have h := HRN.out
            have h2 := HBW.out.size
            intro s hs b hb
            rcases List.mem_append.1 hs with h3 | h3
            · exact h s h3 b hb
            · simp at h3
              subst h3
              have := HN1.out b hb
              omega, HB2.out⟩
          case measure => simp [intOf]; omega
        · obtain rfl : k = r.length := by omega
          clear hb
          have HOV2 := Lib.hid (HOV.out.below HB.out)
          go_wp2_with (at_builtin; refine wpList_append_ow (f := vc) (sz := 1) rfl _ _ 22 rfl w.heap.size 30 (.slice none 0 0) 24 Try.underlying22 info30 rfl (by decide) _ rvs rfl (HOV2.out.below (by go_grown)) vc_ok _ [⟨la, ln, lc⟩] rfl (Rw.one2 _ _ (⟨la, ln, lc⟩ : Sl) _ rfl _ _ (by simp)) ?ca3 ?cb3 (by have := HBW2.out.size; simp; omega) ?_)
          case ca3 => have q1 := HRVL.out; simp [maxLen]; omega
          case cb3 => have q1 := HRVL.out; simp; omega
          intro v3 w3 hown3 hg3 _
          have hty : Ty _ _ 30 := (HOV2.out.below (w' := wr.alloc (.cells #[.slice la ln lc] 30)) (by go_grown)).ty
          have HM3 : Hid (Mat ic 3 w3 (vss ++ [r']) (ls.take (i + 1))) := Lib.hid (by
            rw [List.take_add_one, HR.out, HLSS.out]
            have h := HM.out
            rw [List.take_length] at h
            exact (h.below (by go_grown)).grownT hg3 hty (by decide))
          have HF3 : Hid (Fam vc 32 w3 (rvs ++ [⟨la, ln, lc⟩]) (vss ++ [r'])) := Lib.hid (by
            refine ((HF.out.below HB.out).below (w' := wr.alloc (.cells #[.slice la ln lc] 30)) (by go_grown)).grownT hg3 hty (by decide) |>.push' ⟨la, ln, lc⟩ r' ?_ ?_
            · exact ((Oe.of_ow HL.out).below (w' := wr.alloc (.cells #[.slice la ln lc] 30)) (by go_grown)).grownT hg3 hty (by decide)
            · intro b hb x hx hbx
              have h1 := HF.out.lt hx hbx
              have h2 := (HL.out.typ b (blk_own hb)).1
              omega)
          have HBR3 : Hid (∀ s ∈ rvs ++ [(⟨la, ln, lc⟩ : Sl)], ∀ b, blk s.v = some b → w.heap.size ≤ b) := Lib.hid (fun s hs b hb => by
            rcases List.mem_append.1 hs with h3 | h3
            · exact HBR.out s h3 b hb
            · simp at h3
              subst h3
              have h2 := (HL.out.typ b (blk_own hb)).1
              have := HBW.out.size
              omega)
          have HBI3 : Hid (∀ i k s b, at2 (vss ++ [r']) i k = some s → blk s.v = some b → w.heap.size ≤ b) := Lib.hid (fun j k s b hs hb => by
            rcases at2_last _ _ _ _ _ hs with h1 | h1
            · exact HBI.out j k s b h1 hb
            · have := HRN.out s h1 b hb
              have := HBW.out.size
              omega)
          have HOV3 := Lib.hid hown3
          have HB3 : Hid (Below w.heap.size w w3) := Lib.hid ((below_via HBW2.out (by go_grown)).grown hg3 (by have := HBW2.out.size; simp; omega) (fun q hq => ((HOV2.out.typ q hq).1)))
          obtain ⟨a3, c3', hv3⟩ := hown3.form
          obtain ⟨n3, hn3⟩ : ∃ n, (rvs ++ [(⟨la, ln, lc⟩ : Sl)]).length = n := ⟨_, rfl⟩
          rw [hn3] at hv3
          subst hv3
          clear hown3 hg3 hty hn3 HM HF HL HOV HBR HBI HRN
          go_wp2_with fail
          go_roundw
          case rel => exact ⟨i + 1, ⟨a3, n3, c3'⟩, _, _, by omega, by go_num, rfl, HOV3.out, HF3.out, HM3.out, HBR3.out, HBI3.out, HB3.out⟩
          case measure => simp [intOf]; omega
    · obtain rfl : i = ls.length := by omega
      have HMX : Hid (MxM wr w.heap.size ⟨oa, on, oc⟩ rvs vss ls) := Lib.hid ⟨Oe.of_ow HOV.out, HF.out, by have h := HMM.out; rwa [List.take_length] at h, fun b hb => (HOV.out.typ b (blk_own hb)).1, HBR.out, HBI.out⟩
      clear hb
      go_wp2_with fail
      go_returns
      exact ⟨_, _, _, rfl, HMX.out, HBW.out⟩
end Go.Proofs.Yteocplabibhecaa
