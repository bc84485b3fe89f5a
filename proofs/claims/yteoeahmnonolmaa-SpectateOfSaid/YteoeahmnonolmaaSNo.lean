/- The examples of the chapter. The law about nil and zero stands: the walk. -/
import Derived.Test.YteoeahmnonolmaaSSe
import Derived.Test.YteoeahmnonolmaaBN
import Derived.Test.YteoeahmnonolmaaSNw
import Derived.Test.YteoeahmnonolmaaSW
import Derived.Test.YteoeahmnonolmaaBCc
import Derived.Test.YteoeahmnonolmaaSE5a
import Derived.Deep.DeepCutAuto
import Derived.LoopTactic
import Derived.Deep.MidRow
namespace Go.Proofs.Yteoeahmnonolmaa
open Go.RowKit Plain
set_option linter.unusedVariables false
set_option linter.unusedSimpArgs false

/-- our own row of integers, at its making -/
theorem rw_lit (w : World) (l : List Int) (cs : Array Value) (h : cs.toList = l.flatMap ic) (n : Nat) (hn : n = l.length) (hm : l.length ≤ maxLen) (b : Nat) (hb : b = w.heap.size) : Rw ic 1 (w.alloc (.cells cs 3)) (.slice (some ⟨b, 0, none⟩) n n) l := by
  subst hn hb
  exact (Ow.lit w 3 l cs h (fun _ _ => rfl) 0 (Nat.zero_le _) hm).rw ic_len
theorem BdO.onl1 {lo hi P : Nat} {w W : World} {s : Bs} {B : Bd} (h : BdO lo hi w s B) (ho : Onl [P] w W) (hP : hi ≤ P) (hs : hi ≤ w.heap.size) : BdO lo hi W s B := h.keep (fun k a b => ho.block k (by omega) (by simp; omega))
/-- the board is small, and its numbers are of 64 bits -/
theorem newB_I {life : Int} {d0 d1 : List Int} (h0 : ∀ c ∈ d0, 0 ≤ c ∧ c ≤ 399) (h1 : ∀ c ∈ d1, 0 ≤ c ∧ c ≤ 399) (hn : d0.length + d1.length ≤ 500) : (newB life d0 d1).I := by
  have hu : ∀ i n, i + n ≤ 500 → ∀ z ∈ upL i n, Plain.I z := fun i n h z hz => by
    obtain ⟨j, hj, rfl⟩ := upL_mem.1 hz
    unfold Plain.I
    omega
  have hz : ∀ (life : Int) (l : List Int), (∀ x ∈ l, Plain.I x) → ∀ z, ∀ x ∈ (emptyS life l).zs z, Plain.I x := fun life l h z x hx => by
    unfold Se.zs emptyS at hx
    split at hx
    · exact h x hx
    · split at hx
      · simp at hx
      · split at hx <;> simp at hx
  refine ⟨fun p z i hi => ?_, fun o ho => ?_, by simp [newB], by simp [newB], by simp [newB]⟩
  · unfold Bd.seat newB at hi
    split at hi
    · exact hz _ _ (hu 0 d0.length (by omega)) z i hi
    · exact hz _ _ (hu d0.length d1.length (by omega)) z i hi
  · obtain ⟨k, hk⟩ := List.getElem?_of_mem ho
    obtain ⟨a1, a2, a3, a4, a5, a6, a7, a8, a9, a10⟩ := newB_ob life d0 d1 k o hk
    have hc : 0 ≤ o.cd ∧ o.cd ≤ 399 := a3.elim (h0 _) (h1 _)
    have : o.ow = 0 ∨ o.ow = 1 := a10.elim (fun h => .inl h.2) (fun h => .inr h.2)
    constructor <;> unfold Plain.I <;> omega
theorem newB_S60 {life : Int} {d0 d1 : List Int} (hn : d0.length + d1.length ≤ 60) : (newB life d0 d1).S60 := by
  refine ⟨by simp [newB, mkL_length]; omega, by simp [newB], by simp [newB], by simp [newB], by simp [newB], fun p z hp hz => ?_⟩
  have : ∀ (life : Int) (l : List Int) z, ((emptyS life l).zs z).length ≤ l.length := fun life l z => by
    unfold Se.zs emptyS
    split
    · exact Nat.le_refl _
    · split
      · simp
      · split <;> simp
  unfold Bd.seat newB
  split
  · show ((emptyS life (upL 0 d0.length)).zs z).length ≤ 60
    have := this life (upL 0 d0.length) z; rw [upL_length] at this; omega
  · show ((emptyS life (upL d0.length d1.length)).zs z).length ≤ 60
    have := this life (upL d0.length d1.length) z; rw [upL_length] at this; omega
theorem bdo_num {lo hi : Nat} {w : World} {s : Bs} {B B' : Bd} (h : BdO lo hi w s B) (h0 : B'.ob = B.ob) (h1 : B'.s0 = B.s0) (h2 : B'.s1 = B.s1) (h3 : B'.st = B.st) (h4 : B'.qu = B.qu) (h5 : B'.att = B.att) (h6 : B'.bl = B.bl) : BdO lo hi w s B' := by
  cases B; cases B'
  simp only at h0 h1 h2 h3 h4 h5 h6
  subst h0 h1 h2 h3 h4 h5 h6
  exact ⟨h.ob, h.il, h.nd, h.st, h.qu, h.ns, h.bl⟩
theorem i_num {B B' : Bd} (h : B.I) (h0 : B'.ob = B.ob) (h1 : B'.s0 = B.s0) (h2 : B'.s1 = B.s1) (h3 : B'.st = B.st) (h5 : B'.att = B.att) (h6 : B'.bl = B.bl) : B'.I := by
  cases B; cases B'
  simp only at h0 h1 h2 h3 h5 h6
  subst h0 h1 h2 h3 h5 h6
  exact ⟨h.zs, h.ob, h.st, h.att, h.bl⟩
theorem s60_num {B B' : Bd} (h : B.S60) (h0 : B'.ob = B.ob) (h1 : B'.s0 = B.s0) (h2 : B'.s1 = B.s1) (h3 : B'.st = B.st) (h4 : B'.qu = B.qu) (h5 : B'.att = B.att) (h6 : B'.bl = B.bl) : B'.S60 := by
  cases B; cases B'
  simp only at h0 h1 h2 h3 h4 h5 h6
  subst h0 h1 h2 h3 h4 h5 h6
  exact ⟨h.ob, h.st, h.qu, h.att, h.bl, h.zs⟩
theorem vb_num {B B' : Bd} (h : VB B) (h0 : B'.ob = B.ob) (h1 : B'.s0 = B.s0) (h2 : B'.s1 = B.s1) (h3 : B'.st = B.st) (h4 : B'.qu = B.qu) (h5 : B'.att = B.att) (h6 : B'.bl = B.bl) (hn : (0 ≤ B'.ac ∧ B'.ac ≤ 1) ∧ (0 ≤ B'.tu ∧ B'.tu ≤ 1000) ∧ (0 ≤ B'.ph ∧ B'.ph ≤ 10) ∧ (-1 ≤ B'.ho ∧ B'.ho ≤ 1) ∧ (0 ≤ B'.pa ∧ B'.pa ≤ 2)) (ha : B'.ac = B.ac) : VB B' := by
  obtain ⟨hnum, hs0, hs1, hits, hplc, hfgt⟩ := h
  cases B; cases B'
  simp only at h0 h1 h2 h3 h4 h5 h6 ha
  subst h0 h1 h2 h3 h4 h5 h6 ha
  exact ⟨⟨hn.1, hn.2.1, hn.2.2.1, hn.2.2.2.1, hn.2.2.2.2, hnum.2.2.2.2.2⟩, hs0, hs1, hits, ⟨hplc.nd, hplc.ob, hplc.len⟩, ⟨hfgt.nd, hfgt.own, hfgt.na, hfgt.nb, hfgt.bl⟩⟩
theorem pub_sm {B : Bd} (hv : VB B) (h : B.S60) : (puB B).Sm := by
  have ht := tgs_len hv
  have z2 : ∀ p, (B.seat p).fld.length ≤ 60 ∧ (B.seat p).grv.length ≤ 60 := fun p => ⟨zs_all h.zs p 2, zs_all h.zs p 3⟩
  have z0 := z2 0
  have z1 := z2 1
  have l0 : ∀ ids : List Int, (obF B.ob ids).length ≤ ids.length := obF_le B.ob
  refine ⟨?_, ?_, ?_, ?_, by have := h.st; show B.st.length ≤ 1000; omega, by have := h.qu; show B.qu.length ≤ 1000; omega, by have := h.att; show B.att.length ≤ 1000; omega, by have := h.bl; show B.bl.length ≤ 1000; omega, ht.1, ht.2⟩
  · exact Nat.le_trans (l0 _) (Nat.le_trans z0.1 (by omega))
  · exact Nat.le_trans (l0 _) (Nat.le_trans z0.2 (by omega))
  · exact Nat.le_trans (l0 _) (Nat.le_trans z1.1 (by omega))
  · exact Nat.le_trans (l0 _) (Nat.le_trans z1.2 (by omega))
theorem sd_other {w W : World} {P g : Nat} {s : Sd} {v : Sl} {sb : Bs} {B : Bd} (h : SdAt w P s v) (ho : Onl [g] w W) (hg : Bx w g sb B) (hne : P ≠ g) : SdAt W P s v := by
  obtain ⟨l', h1, h2, h3, h4, h5⟩ := h.list
  have ne : ∀ b, v.v.ownBlock = some b → b ∉ [g] := fun b hv hm => by
    obtain ⟨c, hc⟩ := h4 b hv
    simp at hm
    subst hm
    rw [show w.heap[b]? = _ from hg] at hc
    simp at hc
  exact ⟨(ho.block P h.lt (by simpa using hne)).trans h.blk, ⟨l', h1, h2.onl ho ne, fun x hx => (PuO.onlT (h3 x hx) ho hg (by decide)).mono (Nat.le_refl _) ho.size, fun b hv => by
    obtain ⟨c, hc⟩ := h4 b hv
    exact ⟨c, (ho.block b (Array.getElem?_eq_some_iff.1 hc).1 (ne b hv)).trans hc⟩, h5⟩, h.dl, h.nw, h.at'⟩
set_option maxRecDepth 100000 in
set_option maxHeartbeats 4000000 in
theorem known (w : World) : Calls Try.prog 8 #[] w fun e w' => e = .returned (.bool true) ∧ Below w.heap.size w w' := by
  go_enter Try.func8, Try.ntmps8
  go_wp2_with fail
  obtain ⟨wz, hwz⟩ : ∃ W, W = (w.alloc (.cells #[.int .i64 0, .int .i64 1, .int .i64 2] 3)).alloc (.cells #[.int .i64 3, .int .i64 4] 3) := ⟨_, rfl⟩
  have HB : Hid (Below w.heap.size w wz) := Lib.hid (by rw [hwz]; go_grown)
  have HR0 : Hid (Rw ic 1 wz (.slice (some ⟨w.heap.size, 0, none⟩) 3 3) [0, 1, 2]) := Lib.hid (by rw [hwz]; exact (rw_lit w [0, 1, 2] #[.int .i64 0, .int .i64 1, .int .i64 2] rfl 3 rfl (by decide) _ rfl).below (by go_grown))
  have HR1 : Hid (Rw ic 1 wz (.slice (some ⟨w.heap.size + 1, 0, none⟩) 2 2) [3, 4]) := Lib.hid (by rw [hwz]; exact rw_lit _ [3, 4] _ rfl 2 rfl (by decide) _ (by simp))
  rw [← hwz]
  clear hwz
  with_reducible refine (bnew 20 [0, 1, 2] [3, 4] _ _ _ HR0.out HR1.out (by omega) (by simp) (by simp) (by simp)).mono ?_
  rintro e w1 ⟨s1, rfl, ho, hb⟩
  clear HR0 HR1
  have HZ : Hid (w.heap.size ≤ wz.heap.size) := Lib.hid HB.out.size
  obtain ⟨l1, hl1⟩ : ∃ n, n = wz.heap.size := ⟨_, rfl⟩
  rw [← hl1] at ho HZ
  have hs1 := hb.size
  replace HB := Lib.hid (below_via HB.out hb)
  clear hb
  go_wp2_with (refine wpList_store_bh (s := s1) (B := (newB 20 [0, 1, 2] [3, 4])) rfl _ _ rfl rfl rfl (heap_alloc_new _ _) rfl ?_)
  intro w2 hw0
  have hbx := boxed hw0.out
  obtain ⟨nb, hnb⟩ : ∃ n, n = w1.heap.size := ⟨_, rfl⟩
  rw [← hnb] at hbx ho ⊢
  have hb := hbx.1
  rw [hnb] at hb
  replace HB := Lib.hid (below_via HB.out hb)
  have HOb := Lib.hid (ho.below hb)
  have HXb := Lib.hid hbx.2
  have HN1 : Hid (w.heap.size ≤ l1 ∧ l1 ≤ nb) := Lib.hid ⟨HZ.out, by rw [hnb]; rw [hl1]; exact hs1⟩
  clear hw0 hbx hnb hb hl1 ho hs1 HZ
  have HV : Hid (VB (newB 20 [0, 1, 2] [3, 4])) := Lib.hid (newB_valid (by omega) (by simp) (by simp) (by simp))
  have HI : Hid ((newB 20 [0, 1, 2] [3, 4]).I) := Lib.hid (newB_I (by simp) (by simp) (by simp))
  have HSM : Hid ((newB 20 [0, 1, 2] [3, 4]).S60) := Lib.hid (newB_S60 (by simp))
  go_wp2_with (refine wpList_load_bx _ rfl rfl HXb.out (by kernel_rfl) ?_)
  with_reducible refine (bvalid s1 (newB 20 [0, 1, 2] [3, 4]) _ HOb.out.rd HI.out HSM.out.sm).mono ?_
  rintro e w3 ⟨⟨r, rfl, hr⟩, hb⟩
  obtain rfl : r = true := hr.2 HV.out
  replace HXb := Lib.hid (HXb.out.below hb)
  replace HOb := Lib.hid (HOb.out.below hb)
  replace HB := Lib.hid (below_via HB.out hb)
  clear hb hr
  have HTL : Hid ((newB 20 [0, 1, 2] [3, 4]).Tl) := Lib.hid ⟨by simp [newB], by simp [newB]⟩
  obtain ⟨l2, hl2⟩ : ∃ n, n = w3.heap.size := ⟨_, rfl⟩
  have hl3 := HXb.out.lt
  rw [← hl2] at hl3
  go_wp2_with (refine wpList_load_bx _ rfl rfl HXb.out (by kernel_rfl) ?_)
  with_reducible refine (bcopy s1 (newB 20 [0, 1, 2] [3, 4]) _ HOb.out.rd HSM.out.sm HTL.out).mono ?_
  rintro e w4 ⟨s2, rfl, ho, hb⟩
  have hsz := hb.size
  replace HXb := Lib.hid (HXb.out.below hb)
  replace HOb := Lib.hid (HOb.out.below hb)
  replace HB := Lib.hid (below_via HB.out hb)
  clear hb
  go_wp2_with (refine wpList_store_bh (s := s2) (B := (newB 20 [0, 1, 2] [3, 4])) rfl _ _ rfl rfl rfl (heap_alloc_new _ _) rfl ?_)
  intro w5 hw0
  have hbx := boxed hw0.out
  obtain ⟨nc, hnc⟩ : ∃ n, n = w4.heap.size := ⟨_, rfl⟩
  rw [← hnc] at hbx ho ⊢
  have hb := hbx.1
  rw [hnc] at hb
  replace HXb := Lib.hid (HXb.out.below hb)
  replace HOb := Lib.hid (HOb.out.below hb)
  replace HB := Lib.hid (below_via HB.out hb)
  have HOc := Lib.hid (ho.below hb)
  have HXc := Lib.hid hbx.2
  rw [← hl2] at HOc
  have HN2 : Hid (nb < l2 ∧ l2 ≤ nc) := Lib.hid ⟨hl3, by rw [hnc, hl2]; exact hsz⟩
  clear hw0 hbx hnc hb hl2 ho hsz hl3
  have c33 : w5.cell? ⟨nc, 33, none⟩ = some (.int .i64 0) := HXc.out.cell 33
  have f33 : w5.frozen? ⟨nc, 33, none⟩ = false := HXc.out.free 33
  go_upto_region 6 with fail
  obtain ⟨w6, hu⟩ : ∃ W, W = w5.setCell ⟨nc, 33, none⟩ (.int .i64 1) := ⟨_, rfl⟩
  rw [← hu]
  have ho : Onl [nc] w5 w6 := by rw [hu]; exact (Onl.refl _ _).setCell (.inl (by simp)) _
  have HXc1 : Hid (Bx w6 nc s2 ({ (newB 20 [0, 1, 2] [3, 4]) with tu := 1 } : Bd)) := Lib.hid (by rw [hu]; exact HXc.out.put 33 _ rfl)
  replace HOb := Lib.hid (HOb.out.onl1 ho (by have := HN2.out; omega) (by have h1 := HXb.out.lt; omega))
  replace HXb := Lib.hid (HXb.out.onl ho (by have := HN2.out; simp; omega))
  have HOc1 : Hid (BdO l2 nc w6 s2 ({ (newB 20 [0, 1, 2] [3, 4]) with tu := 1 } : Bd)) := Lib.hid (bdo_num (HOc.out.onl1 ho (Nat.le_refl _) (by have h1 := HXc.out.lt; omega)) rfl rfl rfl rfl rfl rfl rfl)
  replace HB := Lib.hid (belowOnl HB.out ho (by have h1 := HN1.out; have := HN2.out; simp; omega) HB.out.size)
  clear HXc HOc c33 f33 hu ho
  have HXc := HXc1
  have HOc := HOc1
  clear HXc1 HOc1
  have HVc : Hid (VB ({ (newB 20 [0, 1, 2] [3, 4]) with tu := 1 } : Bd)) := Lib.hid (vb_num HV.out rfl rfl rfl rfl rfl rfl rfl ⟨by simp [newB], by simp, by simp [newB], by simp [newB], by simp [newB]⟩ rfl)
  have HIc : Hid (({ (newB 20 [0, 1, 2] [3, 4]) with tu := 1 } : Bd).I) := Lib.hid (i_num HI.out rfl rfl rfl rfl rfl rfl)
  have HSMc : Hid (({ (newB 20 [0, 1, 2] [3, 4]) with tu := 1 } : Bd).S60) := Lib.hid (s60_num HSM.out rfl rfl rfl rfl rfl rfl rfl)
  go_wp2_with fail
  with_reducible refine (snew_ok 10 _ (by omega) (by omega)).mono ?_
  rintro e w7 ⟨P, rfl, hP, hS, hb⟩
  have HS : Hid (∃ v, SdAt w7 P ⟨10, 0, []⟩ v) := Lib.hid ⟨_, hS⟩
  have HN : Hid (w.heap.size ≤ l1 ∧ l1 ≤ nb ∧ nb < l2 ∧ l2 ≤ nc ∧ nc < P) := Lib.hid (by have h1 := HN1.out; have h2 := HN2.out; have h3 := HXc.out.lt; omega)
  replace HXb := Lib.hid (HXb.out.below hb)
  replace HOb := Lib.hid (HOb.out.below hb)
  replace HXc := Lib.hid (HXc.out.below hb)
  replace HOc := Lib.hid (HOc.out.below hb)
  replace HB := Lib.hid (below_via HB.out hb)
  clear hb hP hS
  clear HN1 HN2
  go_wp2_with (refine wpList_load_bx _ rfl rfl HXb.out (by kernel_rfl) ?_)
  obtain ⟨v, hS⟩ := HS.out
  with_reducible refine (show_ok P ⟨10, 0, []⟩ v s1 (newB 20 [0, 1, 2] [3, 4]) 5 _ hS HOb.out.rd HI.out HSM.out.sm HV.out (by unfold U; omega) (by simp [Plain.Sd.go, drp])).mono ?_
  rintro e w8 ⟨rfl, hs, ho⟩
  replace HS : Hid (∃ v, SdAt w8 P ⟨10, 5, [(puB (newB 20 [0, 1, 2] [3, 4]), 5)]⟩ v) := Lib.hid (by
    have e1 : Plain.Sd.shw ⟨10, 0, []⟩ 5 (puB (newB 20 [0, 1, 2] [3, 4])) = ⟨10, 5, [(puB (newB 20 [0, 1, 2] [3, 4]), 5)]⟩ := by kernel_rfl
    rw [← e1]
    exact hs)
  replace HOb := Lib.hid (HOb.out.onl1 ho (by have := HN.out; omega) (by have h1 := HXb.out.lt; have := HN.out; omega))
  replace HXb := Lib.hid (HXb.out.onl ho (by have := HN.out; simp; omega))
  replace HOc := Lib.hid (HOc.out.onl1 ho (by have := HN.out; omega) (by have h1 := HXc.out.lt; have := HN.out; omega))
  replace HXc := Lib.hid (HXc.out.onl ho (by have := HN.out; simp; omega))
  replace HB := Lib.hid (belowOnl HB.out ho (by have := HN.out; simp; omega) HB.out.size)
  clear hs ho hS v
  go_wp2_with (refine wpList_load_bx _ rfl rfl HXb.out (by kernel_rfl) ?_)
  obtain ⟨v, hS⟩ := HS.out
  with_reducible refine (sees_nov (.pointer (some ⟨P, 0, none⟩)) [P] (fun W => ∃ v, SdAt W P (Plain.Sd.go ⟨10, 5, [(puB (newB 20 [0, 1, 2] [3, 4]), 5)]⟩ 14) v) (fun _ _ h hb => (by obtain ⟨v, h⟩ := h; exact ⟨v, h.below hb⟩)) s1 (newB 20 [0, 1, 2] [3, 4]) 14 0 9 _ HOb.out.rd HI.out HSM.out.sm HV.out (by omega) (by have := hS.lt; simpa using this) (fun W ho => (HOb.out.onl1 ho (by have := HN.out; omega) (by have h1 := HXb.out.lt; have := HN.out; omega)).rd) (fun W hb => see_none P ⟨10, 5, [(puB (newB 20 [0, 1, 2] [3, 4]), 5)]⟩ v 14 W (hS.below hb) (by unfold U; omega) (by kernel_rfl))).mono ?_
  rintro e w9 ⟨rfl, ho, hs⟩
  replace HS : Hid (∃ v, SdAt w9 P ⟨10, 14, [(puB (newB 20 [0, 1, 2] [3, 4]), 5)]⟩ v) := Lib.hid (by
    have e1 : Plain.Sd.go ⟨10, 5, [(puB (newB 20 [0, 1, 2] [3, 4]), 5)]⟩ 14 = ⟨10, 14, [(puB (newB 20 [0, 1, 2] [3, 4]), 5)]⟩ := by kernel_rfl
    rw [← e1]
    exact hs)
  replace HOb := Lib.hid (HOb.out.onl1 ho (by have := HN.out; omega) (by have h1 := HXb.out.lt; have := HN.out; omega))
  replace HXb := Lib.hid (HXb.out.onl ho (by have := HN.out; simp; omega))
  replace HOc := Lib.hid (HOc.out.onl1 ho (by have := HN.out; omega) (by have h1 := HXc.out.lt; have := HN.out; omega))
  replace HXc := Lib.hid (HXc.out.onl ho (by have := HN.out; simp; omega))
  replace HB := Lib.hid (belowOnl HB.out ho (by have := HN.out; simp; omega) HB.out.size)
  clear hs ho hS v
  go_wp2_with (refine wpList_load_bx _ rfl rfl HXb.out (by kernel_rfl) ?_)
  obtain ⟨v, hS⟩ := HS.out
  with_reducible refine (sees_ok (.pointer (some ⟨P, 0, none⟩)) [P] (fun W => ∃ v, SdAt W P (Plain.Sd.go ⟨10, 14, [(puB (newB 20 [0, 1, 2] [3, 4]), 5)]⟩ 15) v) (fun _ _ h hb => (by obtain ⟨v, h⟩ := h; exact ⟨v, h.below hb⟩)) s1 (newB 20 [0, 1, 2] [3, 4]) 15 5 0 _ HOb.out.rd HI.out HSM.out.sm HV.out rfl (by have := hS.lt; simpa using this) (fun W ho => (HOb.out.onl1 ho (by have := HN.out; omega) (by have h1 := HXb.out.lt; have := HN.out; omega)).rd) (fun W hb => see_ok P ⟨10, 14, [(puB (newB 20 [0, 1, 2] [3, 4]), 5)]⟩ v 15 W (hS.below hb) (by unfold U; omega) (puB (newB 20 [0, 1, 2] [3, 4]), 5) (by kernel_rfl) (pub_sm HV.out HSM.out))).mono ?_
  rintro e w10 ⟨rfl, ho, hs⟩
  replace HS : Hid (∃ v, SdAt w10 P ⟨10, 15, [(puB (newB 20 [0, 1, 2] [3, 4]), 5)]⟩ v) := Lib.hid (by
    have e1 : Plain.Sd.go ⟨10, 14, [(puB (newB 20 [0, 1, 2] [3, 4]), 5)]⟩ 15 = ⟨10, 15, [(puB (newB 20 [0, 1, 2] [3, 4]), 5)]⟩ := by kernel_rfl
    rw [← e1]
    exact hs)
  replace HOb := Lib.hid (HOb.out.onl1 ho (by have := HN.out; omega) (by have h1 := HXb.out.lt; have := HN.out; omega))
  replace HXb := Lib.hid (HXb.out.onl ho (by have := HN.out; simp; omega))
  replace HOc := Lib.hid (HOc.out.onl1 ho (by have := HN.out; omega) (by have h1 := HXc.out.lt; have := HN.out; omega))
  replace HXc := Lib.hid (HXc.out.onl ho (by have := HN.out; simp; omega))
  replace HB := Lib.hid (belowOnl HB.out ho (by have := HN.out; simp; omega) HB.out.size)
  clear hs ho hS v
  go_wp2_with (refine wpList_load_bx _ rfl rfl HXc.out (by kernel_rfl) ?_)
  obtain ⟨v, hS⟩ := HS.out
  with_reducible refine (show_ok P ⟨10, 15, [(puB (newB 20 [0, 1, 2] [3, 4]), 5)]⟩ v s2 ({ (newB 20 [0, 1, 2] [3, 4]) with tu := 1 } : Bd) 16 _ hS HOc.out.rd HIc.out HSMc.out.sm HVc.out (by unfold U; omega) (by simp [Plain.Sd.go, drp])).mono ?_
  rintro e w11 ⟨rfl, hs, ho⟩
  replace HS : Hid (∃ v, SdAt w11 P ⟨10, 16, [(puB (newB 20 [0, 1, 2] [3, 4]), 5), (puB ({ (newB 20 [0, 1, 2] [3, 4]) with tu := 1 } : Bd), 16)]⟩ v) := Lib.hid (by
    have e1 : Plain.Sd.shw ⟨10, 15, [(puB (newB 20 [0, 1, 2] [3, 4]), 5)]⟩ 16 (puB ({ (newB 20 [0, 1, 2] [3, 4]) with tu := 1 } : Bd)) = ⟨10, 16, [(puB (newB 20 [0, 1, 2] [3, 4]), 5), (puB ({ (newB 20 [0, 1, 2] [3, 4]) with tu := 1 } : Bd), 16)]⟩ := by kernel_rfl
    rw [← e1]
    exact hs)
  replace HOb := Lib.hid (HOb.out.onl1 ho (by have := HN.out; omega) (by have h1 := HXb.out.lt; have := HN.out; omega))
  replace HXb := Lib.hid (HXb.out.onl ho (by have := HN.out; simp; omega))
  replace HOc := Lib.hid (HOc.out.onl1 ho (by have := HN.out; omega) (by have h1 := HXc.out.lt; have := HN.out; omega))
  replace HXc := Lib.hid (HXc.out.onl ho (by have := HN.out; simp; omega))
  replace HB := Lib.hid (belowOnl HB.out ho (by have := HN.out; simp; omega) HB.out.size)
  clear hs ho hS v
  go_wp2_with (refine wpList_load_bx _ rfl rfl HXb.out (by kernel_rfl) ?_)
  obtain ⟨v, hS⟩ := HS.out
  with_reducible refine (sees_ok (.pointer (some ⟨P, 0, none⟩)) [P] (fun W => ∃ v, SdAt W P (Plain.Sd.go ⟨10, 16, [(puB (newB 20 [0, 1, 2] [3, 4]), 5), (puB ({ (newB 20 [0, 1, 2] [3, 4]) with tu := 1 } : Bd), 16)]⟩ 25) v) (fun _ _ h hb => (by obtain ⟨v, h⟩ := h; exact ⟨v, h.below hb⟩)) s1 (newB 20 [0, 1, 2] [3, 4]) 25 5 0 _ HOb.out.rd HI.out HSM.out.sm HV.out rfl (by have := hS.lt; simpa using this) (fun W ho => (HOb.out.onl1 ho (by have := HN.out; omega) (by have h1 := HXb.out.lt; have := HN.out; omega)).rd) (fun W hb => see_ok P ⟨10, 16, [(puB (newB 20 [0, 1, 2] [3, 4]), 5), (puB ({ (newB 20 [0, 1, 2] [3, 4]) with tu := 1 } : Bd), 16)]⟩ v 25 W (hS.below hb) (by unfold U; omega) (puB (newB 20 [0, 1, 2] [3, 4]), 5) (by kernel_rfl) (pub_sm HV.out HSM.out))).mono ?_
  rintro e w12 ⟨rfl, ho, hs⟩
  replace HS : Hid (∃ v, SdAt w12 P ⟨10, 25, [(puB (newB 20 [0, 1, 2] [3, 4]), 5), (puB ({ (newB 20 [0, 1, 2] [3, 4]) with tu := 1 } : Bd), 16)]⟩ v) := Lib.hid (by
    have e1 : Plain.Sd.go ⟨10, 16, [(puB (newB 20 [0, 1, 2] [3, 4]), 5), (puB ({ (newB 20 [0, 1, 2] [3, 4]) with tu := 1 } : Bd), 16)]⟩ 25 = ⟨10, 25, [(puB (newB 20 [0, 1, 2] [3, 4]), 5), (puB ({ (newB 20 [0, 1, 2] [3, 4]) with tu := 1 } : Bd), 16)]⟩ := by kernel_rfl
    rw [← e1]
    exact hs)
  replace HOb := Lib.hid (HOb.out.onl1 ho (by have := HN.out; omega) (by have h1 := HXb.out.lt; have := HN.out; omega))
  replace HXb := Lib.hid (HXb.out.onl ho (by have := HN.out; simp; omega))
  replace HOc := Lib.hid (HOc.out.onl1 ho (by have := HN.out; omega) (by have h1 := HXc.out.lt; have := HN.out; omega))
  replace HXc := Lib.hid (HXc.out.onl ho (by have := HN.out; simp; omega))
  replace HB := Lib.hid (belowOnl HB.out ho (by have := HN.out; simp; omega) HB.out.size)
  clear hs ho hS v
  go_wp2_with fail
  obtain ⟨v, hS⟩ := HS.out
  with_reducible refine (kept_ok P ⟨10, 25, [(puB (newB 20 [0, 1, 2] [3, 4]), 5), (puB ({ (newB 20 [0, 1, 2] [3, 4]) with tu := 1 } : Bd), 16)]⟩ v _ hS).mono ?_
  rintro e w' ⟨rfl, rfl⟩
  clear hS v
  go_wp2_with (refine wpList_load_bx _ rfl rfl HXc.out (by kernel_rfl) ?_)
  obtain ⟨v, hS⟩ := HS.out
  with_reducible refine (sees_ok (.pointer (some ⟨P, 0, none⟩)) [P] (fun W => ∃ v, SdAt W P (Plain.Sd.go ⟨10, 25, [(puB (newB 20 [0, 1, 2] [3, 4]), 5), (puB ({ (newB 20 [0, 1, 2] [3, 4]) with tu := 1 } : Bd), 16)]⟩ 26) v) (fun _ _ h hb => (by obtain ⟨v, h⟩ := h; exact ⟨v, h.below hb⟩)) s2 ({ (newB 20 [0, 1, 2] [3, 4]) with tu := 1 } : Bd) 26 16 0 _ HOc.out.rd HIc.out HSMc.out.sm HVc.out rfl (by have := hS.lt; simpa using this) (fun W ho => (HOc.out.onl1 ho (by have := HN.out; omega) (by have h1 := HXc.out.lt; have := HN.out; omega)).rd) (fun W hb => see_ok P ⟨10, 25, [(puB (newB 20 [0, 1, 2] [3, 4]), 5), (puB ({ (newB 20 [0, 1, 2] [3, 4]) with tu := 1 } : Bd), 16)]⟩ v 26 W (hS.below hb) (by unfold U; omega) (puB ({ (newB 20 [0, 1, 2] [3, 4]) with tu := 1 } : Bd), 16) (by kernel_rfl) (pub_sm HVc.out HSMc.out))).mono ?_
  rintro e w13 ⟨rfl, ho, hs⟩
  replace HS : Hid (∃ v, SdAt w13 P ⟨10, 26, [(puB ({ (newB 20 [0, 1, 2] [3, 4]) with tu := 1 } : Bd), 16)]⟩ v) := Lib.hid (by
    have e1 : Plain.Sd.go ⟨10, 25, [(puB (newB 20 [0, 1, 2] [3, 4]), 5), (puB ({ (newB 20 [0, 1, 2] [3, 4]) with tu := 1 } : Bd), 16)]⟩ 26 = ⟨10, 26, [(puB ({ (newB 20 [0, 1, 2] [3, 4]) with tu := 1 } : Bd), 16)]⟩ := by kernel_rfl
    rw [← e1]
    exact hs)
  replace HOb := Lib.hid (HOb.out.onl1 ho (by have := HN.out; omega) (by have h1 := HXb.out.lt; have := HN.out; omega))
  replace HXb := Lib.hid (HXb.out.onl ho (by have := HN.out; simp; omega))
  replace HOc := Lib.hid (HOc.out.onl1 ho (by have := HN.out; omega) (by have h1 := HXc.out.lt; have := HN.out; omega))
  replace HXc := Lib.hid (HXc.out.onl ho (by have := HN.out; simp; omega))
  replace HB := Lib.hid (belowOnl HB.out ho (by have := HN.out; simp; omega) HB.out.size)
  clear hs ho hS v
  go_wp2_with fail
  obtain ⟨v, hS⟩ := HS.out
  with_reducible refine (kept_ok P ⟨10, 26, [(puB ({ (newB 20 [0, 1, 2] [3, 4]) with tu := 1 } : Bd), 16)]⟩ v _ hS).mono ?_
  rintro e w' ⟨rfl, rfl⟩
  clear hS v
  obtain ⟨l4, hl4⟩ : ∃ n, n = w13.heap.size := ⟨_, rfl⟩
  have hl5 : P < w13.heap.size := (by obtain ⟨v, hS⟩ := HS.out; exact hS.lt)
  rw [← hl4] at hl5
  go_wp2_with (refine wpList_load_bx _ rfl rfl HXb.out (by kernel_rfl) ?_)
  with_reducible refine (bcopy s1 (newB 20 [0, 1, 2] [3, 4]) _ HOb.out.rd HSM.out.sm HTL.out).mono ?_
  rintro e w14 ⟨s3, rfl, ho, hb⟩
  have hsz := hb.size
  replace HS : Hid (∃ v, SdAt w14 P ⟨10, 26, [(puB ({ (newB 20 [0, 1, 2] [3, 4]) with tu := 1 } : Bd), 16)]⟩ v) := Lib.hid (by obtain ⟨v, hS⟩ := HS.out; exact ⟨v, hS.below hb⟩)
  replace HXb := Lib.hid (HXb.out.below hb)
  replace HOb := Lib.hid (HOb.out.below hb)
  replace HXc := Lib.hid (HXc.out.below hb)
  replace HOc := Lib.hid (HOc.out.below hb)
  replace HB := Lib.hid (below_via HB.out hb)
  clear hb
  go_wp2_with (refine wpList_store_bh (s := s3) (B := (newB 20 [0, 1, 2] [3, 4])) rfl _ _ rfl rfl rfl (heap_alloc_new _ _) rfl ?_)
  intro w15 hw0
  have hbx := boxed hw0.out
  obtain ⟨nd, hnd⟩ : ∃ n, n = w14.heap.size := ⟨_, rfl⟩
  rw [← hnd] at hbx ho ⊢
  have hb := hbx.1
  rw [hnd] at hb
  replace HXb := Lib.hid (HXb.out.below hb)
  replace HOb := Lib.hid (HOb.out.below hb)
  replace HXc := Lib.hid (HXc.out.below hb)
  replace HOc := Lib.hid (HOc.out.below hb)
  replace HB := Lib.hid (below_via HB.out hb)
  have HOd := Lib.hid (ho.below hb)
  have HXd := Lib.hid hbx.2
  rw [← hl4] at HOd
  replace HS : Hid (∃ v, SdAt w15 P ⟨10, 26, [(puB ({ (newB 20 [0, 1, 2] [3, 4]) with tu := 1 } : Bd), 16)]⟩ v) := Lib.hid (by obtain ⟨v, hS⟩ := HS.out; exact ⟨v, hS.below hb⟩)
  have HN3 : Hid (P < l4 ∧ l4 ≤ nd) := Lib.hid ⟨hl5, by rw [hnd, hl4]; exact hsz⟩
  clear hw0 hbx hnd hb hl4 ho hsz hl5
  have f34 : w15.frozen? ⟨nd, 34, none⟩ = false := HXd.out.free 34
  have c34 : w15.cell? ⟨nd, 34, none⟩ = some (.int .i64 0) := HXd.out.cell 34
  go_upto_region 11 with fail
  obtain ⟨w16, hu⟩ : ∃ W, W = w15.setCell ⟨nd, 34, none⟩ (.int .i64 2) := ⟨_, rfl⟩
  rw [← hu]
  have ho : Onl [nd] w15 w16 := by rw [hu]; exact (Onl.refl _ _).setCell (.inl (by simp)) _
  have HXd1 : Hid (Bx w16 nd s3 ({ (newB 20 [0, 1, 2] [3, 4]) with ac := 2 } : Bd)) := Lib.hid (by rw [hu]; exact HXd.out.put 34 _ rfl)
  replace HOc := Lib.hid (HOc.out.onl1 ho (by have := HN.out; have := HN3.out; omega) (by have h1 := HXc.out.lt; omega))
  replace HXc := Lib.hid (HXc.out.onl ho (by have := HN.out; have := HN3.out; simp; omega))
  have HOd1 : Hid (BdO l4 nd w16 s3 ({ (newB 20 [0, 1, 2] [3, 4]) with ac := 2 } : Bd)) := Lib.hid (bdo_num (HOd.out.onl1 ho (Nat.le_refl _) (by have h1 := HXd.out.lt; omega)) rfl rfl rfl rfl rfl rfl rfl)
  replace HS : Hid (∃ v, SdAt w16 P ⟨10, 26, [(puB ({ (newB 20 [0, 1, 2] [3, 4]) with tu := 1 } : Bd), 16)]⟩ v) := Lib.hid (by obtain ⟨v, hS⟩ := HS.out; exact ⟨v, sd_other hS ho HXd.out (by have := HN3.out; omega)⟩)
  replace HB := Lib.hid (belowOnl HB.out ho (by have h1 := HN.out; have := HN3.out; simp; omega) HB.out.size)
  clear HXd HOd c34 f34 hu ho HXb HOb
  have HXd := HXd1
  have HOd := HOd1
  clear HXd1 HOd1
  have HId : Hid (({ (newB 20 [0, 1, 2] [3, 4]) with ac := 2 } : Bd).I) := Lib.hid (i_num HI.out rfl rfl rfl rfl rfl rfl)
  have HSMd : Hid (({ (newB 20 [0, 1, 2] [3, 4]) with ac := 2 } : Bd).S60) := Lib.hid (s60_num HSM.out rfl rfl rfl rfl rfl rfl rfl)
  have HVd : Hid (¬ VB ({ (newB 20 [0, 1, 2] [3, 4]) with ac := 2 } : Bd)) := Lib.hid (fun h => by have := h.num.1; simp at this)
  go_wp2_with (refine wpList_load_bx _ rfl rfl HXc.out (by kernel_rfl) ?_)
  obtain ⟨v, hS⟩ := HS.out
  with_reducible refine (sees_ok (.pointer (some ⟨P, 0, none⟩)) [P] (fun W => ∃ v, SdAt W P (Plain.Sd.go ⟨10, 26, [(puB ({ (newB 20 [0, 1, 2] [3, 4]) with tu := 1 } : Bd), 16)]⟩ 3) v) (fun _ _ h hb => (by obtain ⟨v, h⟩ := h; exact ⟨v, h.below hb⟩)) s2 ({ (newB 20 [0, 1, 2] [3, 4]) with tu := 1 } : Bd) 3 16 0 _ HOc.out.rd HIc.out HSMc.out.sm HVc.out rfl (by have := hS.lt; simpa using this) (fun W ho => (HOc.out.onl1 ho (by have := HN.out; omega) (by have h1 := HXc.out.lt; have := HN.out; omega)).rd) (fun W hb => see_ok P ⟨10, 26, [(puB ({ (newB 20 [0, 1, 2] [3, 4]) with tu := 1 } : Bd), 16)]⟩ v 3 W (hS.below hb) (by unfold U; omega) (puB ({ (newB 20 [0, 1, 2] [3, 4]) with tu := 1 } : Bd), 16) (by kernel_rfl) (pub_sm HVc.out HSMc.out))).mono ?_
  rintro e w17 ⟨rfl, ho, hs⟩
  replace HS : Hid (∃ v, SdAt w17 P ⟨10, 26, [(puB ({ (newB 20 [0, 1, 2] [3, 4]) with tu := 1 } : Bd), 16)]⟩ v) := Lib.hid (by
    have e1 : Plain.Sd.go ⟨10, 26, [(puB ({ (newB 20 [0, 1, 2] [3, 4]) with tu := 1 } : Bd), 16)]⟩ 3 = ⟨10, 26, [(puB ({ (newB 20 [0, 1, 2] [3, 4]) with tu := 1 } : Bd), 16)]⟩ := by kernel_rfl
    rw [← e1]
    exact hs)
  replace HOd := Lib.hid (HOd.out.keep (fun k a b => ho.block k (by have h1 := HXd.out.lt; omega) (by have := HN3.out; simp; omega)))
  replace HXd := Lib.hid (HXd.out.onl ho (by have := HN3.out; simp; omega))
  replace HOc := Lib.hid (HOc.out.onl1 ho (by have := HN.out; omega) (by have h1 := HXc.out.lt; have := HN.out; omega))
  replace HXc := Lib.hid (HXc.out.onl ho (by have := HN.out; simp; omega))
  replace HB := Lib.hid (belowOnl HB.out ho (by have := HN.out; simp; omega) HB.out.size)
  clear hs ho hS v
  go_wp2_with (refine wpList_load_bx _ rfl rfl HXd.out (by kernel_rfl) ?_)
  obtain ⟨v, hS⟩ := HS.out
  with_reducible refine (show_bad P ⟨10, 26, [(puB ({ (newB 20 [0, 1, 2] [3, 4]) with tu := 1 } : Bd), 16)]⟩ v s3 ({ (newB 20 [0, 1, 2] [3, 4]) with ac := 2 } : Bd) 26 _ hS HOd.out.rd HId.out HSMd.out.sm HVd.out).mono ?_
  rintro e w18 ⟨rfl, hb⟩
  replace HS : Hid (∃ v, SdAt w18 P ⟨10, 26, [(puB ({ (newB 20 [0, 1, 2] [3, 4]) with tu := 1 } : Bd), 16)]⟩ v) := Lib.hid ⟨v, hS.below hb⟩
  replace HB := Lib.hid (below_via HB.out hb)
  clear hS v hb
  go_wp2_with fail
  obtain ⟨v, hS⟩ := HS.out
  with_reducible refine (now_ok P ⟨10, 26, [(puB ({ (newB 20 [0, 1, 2] [3, 4]) with tu := 1 } : Bd), 16)]⟩ v _ hS).mono ?_
  rintro e w' ⟨rfl, rfl⟩
  clear hS v
  go_wp2_with fail
  go_returns
  exact ⟨rfl, HB.out⟩
end Go.Proofs.Yteoeahmnonolmaa
namespace Go.Proofs.Yteoeahmnonolmaa
open Go.RowKit Plain
set_option linter.unusedVariables false
set_option linter.unusedSimpArgs false

theorem I_zeroB : zeroB.I := ⟨fun p z i hi => by unfold Bd.seat zeroB at hi; split at hi <;> (unfold Se.zs zeroSe at hi; (repeat' split at hi) <;> simp at hi), by simp [zeroB], by simp [zeroB], by simp [zeroB], by simp [zeroB]⟩
theorem sm_zeroB : zeroB.S60 := ⟨by simp [zeroB], by simp [zeroB], by simp [zeroB], by simp [zeroB], by simp [zeroB], fun p z _ _ => by unfold Bd.seat zeroB; split <;> (unfold Se.zs zeroSe; (repeat' split) <;> simp)⟩
/-- an error is returned as it is, for the zero board -/
theorem sees_zero (v : Value) (hv : bv nilS zeroB = v) (pr : Value) (S : List Nat) (K : World → Prop) (hK : ∀ W W', K W → Below W.heap.size W W' → K W') (t at' no : Int) (w : World) (hno : no ≠ 0) (hS : ∀ k ∈ S, k < w.heap.size) (hsee : ∀ W, Below w.heap.size w W → Calls Try.prog 12 #[pr, .int .u64 t] W fun e w' => SeA W S (zeroPu) at' no e w' ∧ K w') : Calls Try.prog 17 #[pr, .int .u64 t, v, .int .u64 at', .int .i64 no] w fun e w' => e = .returned (.bool true) ∧ Onl S w w' ∧ K w' := by
  subst hv
  have hz : ∀ W, BdR W nilS zeroB := fun W => (zeroOwn 0 0 W).rd
  by_cases h : VB zeroB
  · exact sees_nov pr S K hK nilS zeroB t at' no w (hz w) I_zeroB sm_zeroB.sm h hno hS (fun W _ => hz W) hsee
  · exact sees_nob pr S K hK nilS zeroB t at' no w (hz w) I_zeroB sm_zeroB.sm h hno hS (fun W _ => hz W) hsee
theorem ZeroAt.below {w w' : World} {P : Nat} (h : ZeroAt w P) (hb : Below w.heap.size w w') : ZeroAt w' P := (hb.block P (Array.getElem?_eq_some_iff.1 h).1).trans h
def NnL (w : World) (s : Bs) (B : Bd) (z : Nat) (v : Value) (wr : World) : Prop := ∃ p : Nat, p ≤ 2 ∧ v = .int .i64 p ∧ Below w.heap.size w wr ∧ Bx wr w.heap.size s B ∧ ZeroAt wr z ∧ wr.cell? ⟨z + 1, 0, none⟩ = some (.pointer none) ∧ wr.cell? ⟨z + 1, 1, none⟩ = some (.pointer (some ⟨z, 0, none⟩))
set_option maxRecDepth 100000 in
set_option maxHeartbeats 4000000 in
theorem snone (t : Int) (s : Bs) (B : Bd) (w : World) (h : BdR w s B) : Calls Try.prog 5 #[.int .u64 t, bv s B] w fun e w' => e = .returned (.bool true) ∧ Below w.heap.size w w' := by
  have HR := Lib.hid h
  clear h
  go_enter Try.func5, Try.ntmps5
  go_upto_region 1 with fail
  change Code.wp Try.prog _ _ _ (w.alloc (.cells (bcells s B) 34))
  obtain ⟨wz, hwz⟩ : ∃ W, W = w.alloc (.cells (bcells s B) 34) := ⟨_, rfl⟩
  have HX : Hid (Bx wz w.heap.size s B) := Lib.hid (by rw [hwz]; exact heap_alloc_new _ _)
  have HB : Hid (Below w.heap.size w wz) := Lib.hid (by rw [hwz]; exact (Below.refl _ _).alloc (Nat.le_refl _) _)
  rw [← hwz]
  clear hwz
  go_wp2_with (refine wpList_load_bx _ rfl rfl HX.out (by kernel_rfl) ?_)
  with_reducible refine (lsmall s B _ (HR.out.below HB.out)).mono ?_
  rintro e w1 ⟨r, rfl, _, hb⟩
  replace HB := Lib.hid (below_via HB.out hb)
  replace HX := Lib.hid (HX.out.below hb)
  clear hb
  cases r
  · skip
    go_wp2_with fail
    with_reducible refine (known _).mono ?_
    rintro e w9 ⟨rfl, hb⟩
    replace HB := Lib.hid (below_via HB.out hb)
    clear hb
    go_wp2_with fail
    go_returns
    exact ⟨rfl, HB.out⟩
  go_upto_region 4 with fail
  obtain ⟨wy, hwy⟩ : ∃ W, W = (w1.alloc (.cells #[.bool false, .int .u64 0, .int .u64 0, .slice none 0 0] 73)).alloc (.cells #[.pointer none, .pointer (some ⟨w1.heap.size, 0, none⟩)] 39) := ⟨_, rfl⟩
  rw [← hwy]
  have hb : Below w1.heap.size w1 wy := by rw [hwy]; go_grown
  have HZ : Hid (ZeroAt wy w1.heap.size) := Lib.hid (by rw [hwy]; exact (show ZeroAt (w1.alloc _) w1.heap.size from heap_alloc_new _ _) |> fun h => (((Below.refl _ _).alloc (Nat.le_refl _) _ : Below (w1.alloc _).heap.size (w1.alloc _) _).block w1.heap.size (by simp)).trans h)
  have HC : Hid (wy.cell? ⟨w1.heap.size + 1, 0, none⟩ = some (.pointer none) ∧ wy.cell? ⟨w1.heap.size + 1, 1, none⟩ = some (.pointer (some ⟨w1.heap.size, 0, none⟩))) := Lib.hid (by
    have hr : Ro wy (w1.heap.size + 1) #[.pointer none, .pointer (some ⟨w1.heap.size, 0, none⟩)] 39 := by
      rw [hwy, show w1.heap.size + 1 = (w1.alloc (.cells #[.bool false, .int .u64 0, .int .u64 0, .slice none 0 0] 73)).heap.size by simp]
      exact Ro.new _ _ _
    exact ⟨hr.cell 0, hr.cell 1⟩)
  obtain ⟨z, hz⟩ : ∃ n, n = w1.heap.size := ⟨_, rfl⟩
  rw [← hz] at HZ HC ⊢
  replace HB := Lib.hid (below_via HB.out hb)
  replace HX := Lib.hid (HX.out.below hb)
  clear hwy hb hz
  go_loopw [15] (fun i wr => NnL w s B z i wr) (fun i _ => 2 - (intOf i).toNat)
  case atStart => exact ⟨0, by omega, rfl, HB.out, HX.out, HZ.out, HC.out.1, HC.out.2⟩
  case round =>
    obtain ⟨p, hp, rfl, hb, hx, hz, hc0, hc1⟩ := hrel
    replace HB := Lib.hid hb
    replace HX := Lib.hid hx
    have HZ := Lib.hid hz
    have HC := Lib.hid (And.intro hc0 hc1)
    have HZL : Hid (z < wr.heap.size) := Lib.hid (Array.getElem?_eq_some_iff.1 hz).1
    have HZ1 : Hid (z + 1 < wr.heap.size) := Lib.hid (cell_lt hc0)
    clear hb hx hz hc0 hc1
    have : p = 0 ∨ p = 1 ∨ p = 2 := by omega
    clear hp
    rcases this with rfl | rfl | rfl
    · rw [show ((0 : Nat) : Int) = 0 from rfl]
      have d0 := HC.out.1
      have d1 := HC.out.2
      have g0 := HZ1.out
      go_upto_region 6 with fail
      clear d0 d1 g0
      go_wp2_with (refine wpList_load_bx _ rfl rfl HX.out (by kernel_rfl) ?_)
      with_reducible refine (show_nil s B t _).mono ?_
      rintro e w2 ⟨rfl, hb⟩
      replace HB := Lib.hid (below_via HB.out hb)
      replace HX := Lib.hid (HX.out.below hb)
      replace HZ := Lib.hid (HZ.out.below hb)
      replace HC := Lib.hid (And.intro ((hb.cell (p := ⟨z + 1, 0, none⟩) HZ1.out).trans HC.out.1) ((hb.cell (p := ⟨z + 1, 1, none⟩) HZ1.out).trans HC.out.2))
      replace HZL : Hid (z < w2.heap.size) := Lib.hid (Nat.lt_of_lt_of_le HZL.out hb.size)
      replace HZ1 : Hid (z + 1 < w2.heap.size) := Lib.hid (Nat.lt_of_lt_of_le HZ1.out hb.size)
      clear hb
      go_wp2_with fail
      with_reducible refine (sees_zero _ (by with_unfolding_all rfl) (.pointer none) [] (fun _ => True) (fun _ _ _ _ => trivial) t 0 1 _ (by omega) (by simp) (fun W hb => (see_nil t W).mono fun e w' h => And.intro h trivial)).mono ?_
      rintro e w3 ⟨rfl, ho, _⟩
      have hb : Below w2.heap.size w2 w3 := ho.below (by simp)
      replace HB := Lib.hid (below_via HB.out hb)
      replace HX := Lib.hid (HX.out.below hb)
      replace HZ := Lib.hid (HZ.out.below hb)
      replace HC := Lib.hid (And.intro ((hb.cell (p := ⟨z + 1, 0, none⟩) HZ1.out).trans HC.out.1) ((hb.cell (p := ⟨z + 1, 1, none⟩) HZ1.out).trans HC.out.2))
      replace HZL : Hid (z < w3.heap.size) := Lib.hid (Nat.lt_of_lt_of_le HZL.out hb.size)
      replace HZ1 : Hid (z + 1 < w3.heap.size) := Lib.hid (Nat.lt_of_lt_of_le HZ1.out hb.size)
      clear hb ho
      go_wp2_with fail
      with_reducible refine (kept_nil _).mono ?_
      rintro e w' ⟨rfl, rfl⟩
      go_wp2_with fail
      with_reducible refine (now_nil _).mono ?_
      rintro e w' ⟨rfl, rfl⟩
      go_wp2_with fail
      with_reducible refine (scopy_nil _).mono ?_
      rintro e w' ⟨rfl, rfl⟩
      go_wp2_with fail
      go_roundw
      case rel => exact ⟨1, by omega, by go_num, HB.out, HX.out, HZ.out, HC.out.1, HC.out.2⟩
      case measure => simp [intOf]
    · rw [show ((1 : Nat) : Int) = 1 from rfl]
      have d0 := HC.out.1
      have d1 := HC.out.2
      have g0 := HZ1.out
      go_upto_region 6 with fail
      clear d0 d1 g0
      go_wp2_with (refine wpList_load_bx _ rfl rfl HX.out (by kernel_rfl) ?_)
      with_reducible refine (show_zero z s B t _ HZ.out).mono ?_
      rintro e w2 ⟨rfl, hb⟩
      replace HB := Lib.hid (below_via HB.out hb)
      replace HX := Lib.hid (HX.out.below hb)
      replace HZ := Lib.hid (HZ.out.below hb)
      replace HC := Lib.hid (And.intro ((hb.cell (p := ⟨z + 1, 0, none⟩) HZ1.out).trans HC.out.1) ((hb.cell (p := ⟨z + 1, 1, none⟩) HZ1.out).trans HC.out.2))
      replace HZL : Hid (z < w2.heap.size) := Lib.hid (Nat.lt_of_lt_of_le HZL.out hb.size)
      replace HZ1 : Hid (z + 1 < w2.heap.size) := Lib.hid (Nat.lt_of_lt_of_le HZ1.out hb.size)
      clear hb
      go_wp2_with fail
      with_reducible refine (sees_zero _ (by with_unfolding_all rfl) (.pointer (some ⟨z, 0, none⟩)) [] (fun _ => True) (fun _ _ _ _ => trivial) t 0 1 _ (by omega) (by simp) (fun W hb => (see_zero z t W (HZ.out.below hb)).mono fun e w' h => And.intro h trivial)).mono ?_
      rintro e w3 ⟨rfl, ho, _⟩
      have hb : Below w2.heap.size w2 w3 := ho.below (by simp)
      replace HB := Lib.hid (below_via HB.out hb)
      replace HX := Lib.hid (HX.out.below hb)
      replace HZ := Lib.hid (HZ.out.below hb)
      replace HC := Lib.hid (And.intro ((hb.cell (p := ⟨z + 1, 0, none⟩) HZ1.out).trans HC.out.1) ((hb.cell (p := ⟨z + 1, 1, none⟩) HZ1.out).trans HC.out.2))
      replace HZL : Hid (z < w3.heap.size) := Lib.hid (Nat.lt_of_lt_of_le HZL.out hb.size)
      replace HZ1 : Hid (z + 1 < w3.heap.size) := Lib.hid (Nat.lt_of_lt_of_le HZ1.out hb.size)
      clear hb ho
      go_wp2_with fail
      with_reducible refine (kept_zero z _ HZ.out).mono ?_
      rintro e w' ⟨rfl, rfl⟩
      go_wp2_with fail
      with_reducible refine (now_zero z _ HZ.out).mono ?_
      rintro e w' ⟨rfl, rfl⟩
      go_wp2_with fail
      with_reducible refine (scopy_zero z _ HZ.out).mono ?_
      rintro e w' ⟨rfl, rfl⟩
      go_wp2_with fail
      go_roundw
      case rel => exact ⟨2, by omega, by go_num, HB.out, HX.out, HZ.out, HC.out.1, HC.out.2⟩
      case measure => simp [intOf]
    · rw [show ((2 : Nat) : Int) = 2 from rfl]
      go_wp2_with fail
      with_reducible refine (known _).mono ?_
      rintro e w9 ⟨rfl, hb⟩
      replace HB := Lib.hid (below_via HB.out hb)
      clear hb
      go_wp2_with fail
      go_returns
      exact ⟨rfl, HB.out⟩
end Go.Proofs.Yteoeahmnonolmaa
