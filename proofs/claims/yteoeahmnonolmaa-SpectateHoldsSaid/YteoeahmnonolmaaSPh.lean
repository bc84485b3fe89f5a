/- What is hidden. -/
import Derived.Test.YteoeahmnonolmaaSPl
namespace Go.Proofs.Yteoeahmnonolmaa.Plain
set_option linter.unusedVariables false
/-- what is hidden: libraries and hands -/
def hid4 (B : Bd) : List Int := B.s0.lib ++ B.s0.hand ++ B.s1.lib ++ B.s1.hand
def HdS (S T : Se) : Prop := ∃ h, h.Perm S.hand ∧ T = { S with hand := h }
/-- C is B with other cards in libraries and hands, and hands in another order -/
structure Hdn (B C : Bd) : Prop where
  st : C.st = B.st
  qu : C.qu = B.qu
  att : C.att = B.att
  bl : C.bl = B.bl
  num : C.tu = B.tu ∧ C.ac = B.ac ∧ C.ph = B.ph ∧ C.ho = B.ho ∧ C.pa = B.pa
  s0 : HdS B.s0 C.s0
  s1 : HdS B.s1 C.s1
  len : C.ob.length = B.ob.length
  ob : ∀ (i : Nat) x y, B.ob[i]? = some x → C.ob[i]? = some y → ∃ c, y = { x with cd := c } ∧ (c = x.cd ∨ (0 ≤ x.cd ∧ 0 ≤ c ∧ c ≤ 399 ∧ x.id ∈ hid4 B))
theorem Hdn.refl (B : Bd) : Hdn B B := ⟨rfl, rfl, rfl, rfl, ⟨rfl, rfl, rfl, rfl, rfl⟩, ⟨_, List.Perm.refl _, rfl⟩, ⟨_, List.Perm.refl _, rfl⟩, rfl, fun i x y hx hy => by
  rw [hx] at hy
  cases hy
  exact ⟨x.cd, rfl, .inl rfl⟩⟩
theorem Hdn.card {B C : Bd} (h : Hdn B C) {j : Nat} {y : Ob} (hy : C.ob[j]? = some y) (h0 : 0 ≤ y.cd) (hm : y.id ∈ hid4 B) {c : Int} (hc : 0 ≤ c ∧ c ≤ 399) : Hdn B { C with ob := C.ob.set j { y with cd := c } } := by
  refine ⟨h.st, h.qu, h.att, h.bl, h.num, h.s0, h.s1, by simp [h.len], fun i x z hx hz => ?_⟩
  replace hz : (C.ob.set j { y with cd := c })[i]? = some z := hz
  rw [List.getElem?_set] at hz
  split at hz
  · rename_i e
    subst e
    split at hz
    · cases hz
      obtain ⟨c0, e, h1⟩ := h.ob j x y hx hy
      subst e
      refine ⟨c, rfl, .inr ⟨?_, hc.1, hc.2, hm⟩⟩
      rcases h1 with h1 | h1
      · simp only at h0; omega
      · exact h1.1
    · cases hz
  · exact h.ob i x z hx hz
def Bd.setH (B : Bd) (p : Nat) (l : List Int) : Bd := if p = 0 then { B with s0 := { B.s0 with hand := l } } else { B with s1 := { B.s1 with hand := l } }
theorem Hdn.hand {B C : Bd} (h : Hdn B C) (p : Nat) {l : List Int} (hl : l.Perm (C.seat p).hand) : Hdn B (C.setH p l) := by
  unfold Bd.setH
  by_cases hp : p = 0
  · rw [if_pos hp]
    subst hp
    obtain ⟨g, hg, he⟩ := h.s0
    have hl2 : l.Perm C.s0.hand := hl
    exact ⟨h.st, h.qu, h.att, h.bl, h.num, ⟨l, by rw [he] at hl2; exact hl2.trans hg, by rw [he]⟩, h.s1, h.len, h.ob⟩
  · rw [if_neg hp]
    obtain ⟨g, hg, he⟩ := h.s1
    have hl2 : l.Perm C.s1.hand := by unfold Bd.seat at hl; rw [if_neg hp] at hl; exact hl
    exact ⟨h.st, h.qu, h.att, h.bl, h.num, h.s0, ⟨l, by rw [he] at hl2; exact hl2.trans hg, by rw [he]⟩, h.len, h.ob⟩
theorem Hdn.seat {B C : Bd} (h : Hdn B C) (p : Nat) : HdS (B.seat p) (C.seat p) := by
  unfold Bd.seat
  split
  · exact h.s0
  · exact h.s1
theorem hid4_mem {B C : Bd} (h : Hdn B C) (p : Nat) {z : Int} (hz : z ∈ (C.seat p).lib ++ (C.seat p).hand) : z ∈ hid4 B := by
  obtain ⟨g, hg, he⟩ := h.seat p
  rw [he, List.mem_append] at hz
  have hz2 : z ∈ (B.seat p).lib ∨ z ∈ (B.seat p).hand := hz.imp id (fun h => hg.mem_iff.1 h)
  unfold hid4
  simp only [List.mem_append]
  unfold Bd.seat at hz2
  split at hz2
  · rcases hz2 with h | h <;> simp [h]
  · rcases hz2 with h | h <;> simp [h]
theorem Hdn.allp {B C : Bd} (h : Hdn B C) : C.prs.Perm B.prs := by
  have hs : ∀ S T, HdS S T → T.all.Perm S.all := fun S T ⟨g, hg, he⟩ => by
    subst he
    unfold Se.all
    exact ((List.Perm.append_left _ hg).append_right _).append_right _
  unfold Bd.prs
  rw [h.st]
  exact (((hs _ _ h.s0).map _).append ((hs _ _ h.s1).map _)).append_right _
theorem Hdn.at {B C : Bd} (h : Hdn B C) {i : Nat} {y : Ob} (hy : C.ob[i]? = some y) : ∃ x c, B.ob[i]? = some x ∧ y = { x with cd := c } ∧ (c = x.cd ∨ (0 ≤ x.cd ∧ 0 ≤ c ∧ c ≤ 399 ∧ x.id ∈ hid4 B)) := by
  have hi : i < B.ob.length := by rw [← h.len]; exact (List.getElem?_eq_some_iff.1 hy).1
  obtain ⟨c, e, hc⟩ := h.ob i _ y (List.getElem?_eq_getElem hi) hy
  exact ⟨_, c, List.getElem?_eq_getElem hi, e, hc⟩
/-- no hidden card lies elsewhere -/
theorem hid_not {B : Bd} (h : Plc B) {z : Int} (hz : z ∈ hid4 B) : (∀ p, z ∉ (B.seat p).fld ∧ z ∉ (B.seat p).grv) ∧ ∀ x ∈ cst B.st, x.id ≠ z := by
  have e : ∀ p l, (pr p l).map Prod.fst = l := fun p l => by unfold pr; rw [List.map_map]; exact List.map_id l
  have h0 := h.nd
  unfold Bd.prs at h0
  rw [List.map_append, List.map_append, e, e] at h0
  unfold Se.all at h0
  simp only [List.nodup_append, List.mem_append] at h0
  unfold hid4 at hz
  simp only [List.mem_append] at hz
  obtain ⟨⟨⟨⟨⟨h1, h2, h3⟩, h4, h5⟩, h6, h7⟩, ⟨⟨⟨k1, k2, k3⟩, k4, k5⟩, k6, k7⟩, m⟩, n1, n2⟩ := h0
  refine ⟨fun p => ?_, fun x hx hxz => ?_⟩
  · unfold Bd.seat
    split
    · refine ⟨fun hf => ?_, fun hf => ?_⟩
      · rcases hz with ((hz | hz) | hz) | hz
        · exact h5 z (.inl hz) z hf rfl
        · exact h5 z (.inr hz) z hf rfl
        · exact m z (.inl (.inr hf)) z (.inl (.inl (.inl hz))) rfl
        · exact m z (.inl (.inr hf)) z (.inl (.inl (.inr hz))) rfl
      · rcases hz with ((hz | hz) | hz) | hz
        · exact h7 z (.inl (.inl hz)) z hf rfl
        · exact h7 z (.inl (.inr hz)) z hf rfl
        · exact m z (.inr hf) z (.inl (.inl (.inl hz))) rfl
        · exact m z (.inr hf) z (.inl (.inl (.inr hz))) rfl
    · refine ⟨fun hf => ?_, fun hf => ?_⟩
      · rcases hz with ((hz | hz) | hz) | hz
        · exact m z (.inl (.inl (.inl hz))) z (.inl (.inr hf)) rfl
        · exact m z (.inl (.inl (.inr hz))) z (.inl (.inr hf)) rfl
        · exact k5 z (.inl hz) z hf rfl
        · exact k5 z (.inr hz) z hf rfl
      · rcases hz with ((hz | hz) | hz) | hz
        · exact m z (.inl (.inl (.inl hz))) z (.inr hf) rfl
        · exact m z (.inl (.inl (.inr hz))) z (.inr hf) rfl
        · exact k7 z (.inl (.inl hz)) z hf rfl
        · exact k7 z (.inl (.inr hz)) z hf rfl
  · have hm : z ∈ List.map Prod.fst (List.map (fun x : It => (x.id, x.pl)) (cst B.st)) := by
      rw [List.map_map]
      exact List.mem_map.2 ⟨x, hx, hxz⟩
    rcases hz with ((hz | hz) | hz) | hz
    · exact n2 z (.inl (.inl (.inl (.inl hz)))) z hm rfl
    · exact n2 z (.inl (.inl (.inl (.inr hz)))) z hm rfl
    · exact n2 z (.inr (.inl (.inl (.inl hz)))) z hm rfl
    · exact n2 z (.inr (.inl (.inl (.inr hz)))) z hm rfl
theorem Hdn.vb {B C : Bd} (h : Hdn B C) (v : VB B) : VB C := by
  obtain ⟨n1, n2, n3, n4, n5⟩ := h.num
  have hs : ∀ S T, HdS S T → seB T = seB S := fun S T ⟨g, _, he⟩ => by subst he; rfl
  have hown : C.own = B.own ∧ C.oth = B.oth := by
    have hf : ∀ p, (C.seat p).fld = (B.seat p).fld := fun p => by
      obtain ⟨g, _, he⟩ := h.seat p
      rw [he]
    unfold Bd.own Bd.oth
    rw [n2, hf, hf]
    exact ⟨rfl, rfl⟩
  refine ⟨?_, (hs _ _ h.s0).trans v.se0, (hs _ _ h.s1).trans v.se1, ?_, ⟨?_, fun i y hy => ?_, ?_⟩, ?_⟩
  · have := v.num
    unfold vNum at *
    rw [n1, n2, n3, n4, n5, h.len, h.st, h.qu]
    exact this
  · have := v.its
    unfold vSt at *
    rw [h.st, h.qu]
    exact this
  · exact perm_nodup (h.allp.map _).symm v.plc.nd
  · obtain ⟨x, c, hx, e, hc⟩ := h.at hy
    obtain ⟨a1, a2, a3, a4⟩ := v.plc.ob i x hx
    refine ⟨?_, ?_, ?_, ?_⟩
    · subst e
      rcases hc with rfl | ⟨c0, c1, c2, _⟩
      · exact a1
      · unfold vO at *
        simp only [decide_eq_true_eq] at *
        omega
    · intro j q hj hq
      obtain ⟨x2, c2, hx2, e2, _⟩ := h.at hq
      have := a2 j x2 hj hx2
      subst e e2
      exact this
    · subst e
      exact h.allp.mem_iff.2 a3
    · intro u hu hid
      rw [h.st] at hu
      subst e
      rcases hc with rfl | ⟨_, _, _, hm⟩
      · exact a4 u hu hid
      · exact absurd hid ((hid_not v.plc hm).2 u hu)
  · rw [h.allp.length_eq, h.len]
    exact v.plc.len
  · have f := v.fgt
    refine ⟨?_, ?_, ?_, ?_, ?_⟩
    · rw [h.att]; exact f.nd
    · rw [h.att, hown.1]; exact f.own
    · rw [h.bl]; exact f.na
    · rw [h.bl]; exact f.nb
    · rw [h.bl, h.att, hown.2]; exact f.bl
theorem find_like {z : Int} : ∀ (l m : List Ob), m.length = l.length → (∀ (i : Nat) x y, l[i]? = some x → m[i]? = some y → y.id = x.id ∧ (x.id = z → y = x)) → m.find? (isO z) = l.find? (isO z)
  | [], [], _, _ => rfl
  | [], _ :: _, h, _ => by simp at h
  | _ :: _, [], h, _ => by simp at h
  | x :: l, y :: m, h, hp => by
    obtain ⟨h1, h2⟩ := hp 0 x y rfl rfl
    have ih := find_like l m (by simpa using h) (fun i a b ha hb => hp (i + 1) a b ha hb)
    by_cases hz : x.id = z
    · have := h2 hz
      subst this
      simp [isO, hz]
    · have hn : ¬ (isO z x = true) := by simp [isO, hz]
      have hm : ¬ (isO z y = true) := by simp [isO, h1, hz]
      rw [List.find?_cons_of_neg hn, List.find?_cons_of_neg hm, ih]
theorem Hdn.obF {B C : Bd} (h : Hdn B C) (ids : List Int) (hn : ∀ z ∈ ids, z ∉ hid4 B) : Plain.obF C.ob ids = Plain.obF B.ob ids := by
  unfold Plain.obF
  induction ids with
  | nil => rfl
  | cons z ids ih =>
    have e : C.ob.find? (isO z) = B.ob.find? (isO z) := find_like _ _ h.len (fun i x y hx hy => by
      obtain ⟨c, e, hc⟩ := h.ob i x y hx hy
      subst e
      refine ⟨rfl, fun hz => ?_⟩
      rcases hc with rfl | ⟨_, _, _, hm⟩
      · rfl
      · rw [hz] at hm
        exact absurd hm (hn z (by simp)))
    rw [List.filterMap_cons, List.filterMap_cons, e, ih (fun z hz => hn z (by simp [hz]))]
theorem Hdn.pub {B C : Bd} (h : Hdn B C) (v : VB B) : puB C = puB B := by
  have hs : ∀ p, vsB C.ob (C.seat p) = vsB B.ob (B.seat p) := fun p => by
    obtain ⟨g, hg, he⟩ := h.seat p
    have f1 := h.obF (B.seat p).fld (fun z hz hm => ((hid_not v.plc hm).1 p).1 hz)
    have f2 := h.obF (B.seat p).grv (fun z hz hm => ((hid_not v.plc hm).1 p).2 hz)
    rw [he]
    unfold vsB
    simp only
    rw [f1, f2, hg.length_eq]
  have e0 : vsB C.ob C.s0 = vsB B.ob B.s0 := hs 0
  have e1 : vsB C.ob C.s1 = vsB B.ob B.s1 := hs 1
  obtain ⟨n1, n2, n3, n4, n5⟩ := h.num
  unfold puB
  rw [e0, e1, h.st, h.qu, h.att, h.bl, n1, n2, n3, n4, n5]
theorem Hdn.I {B C : Bd} (h : Hdn B C) (hi : B.I) : C.I := by
  refine ⟨fun p z i hm => ?_, fun o ho => ?_, by rw [h.st]; exact hi.st, by rw [h.att]; exact hi.att, by rw [h.bl]; exact hi.bl⟩
  · obtain ⟨g, hg, he⟩ := h.seat p
    rw [he] at hm
    have h0 := hi.zs p 0
    have h1 := hi.zs p 1
    have h2 := hi.zs p 2
    have h3 := hi.zs p 3
    simp only [Se.zs, if_true] at h0 h1 h2 h3
    simp only [Nat.succ_ne_zero, if_false] at h0 h1 h2 h3
    unfold Se.zs at hm
    split at hm
    · exact h0 i hm
    · split at hm
      · exact h1 i (hg.mem_iff.1 hm)
      · split at hm
        · exact h2 i hm
        · exact h3 i hm
  · obtain ⟨k, hk⟩ := List.getElem?_of_mem ho
    obtain ⟨x, c, hx, e, hc⟩ := h.at hk
    have hxI := hi.ob x (List.mem_of_getElem? hx)
    subst e
    rcases hc with rfl | ⟨_, c1, c2, _⟩
    · exact hxI
    · constructor
      · exact hxI.id
      · show Plain.I c; unfold Plain.I; omega
      all_goals first | exact hxI.ow | exact hxI.po | exact hxI.tg | exact hxI.da | exact hxI.co | exact hxI.pp | exact hxI.pt
theorem swap_perm {l : List Int} {i j : Nat} {a b : Int} (hi : l[i]? = some a) (hj : l[j]? = some b) : ((l.set i b).set j a).Perm l := by
  have hil := (List.getElem?_eq_some_iff.1 hi).1
  have hjl := (List.getElem?_eq_some_iff.1 hj).1
  refine List.perm_iff_count.2 (fun z => ?_)
  by_cases hij : i = j
  · subst hij
    rw [hi] at hj
    cases hj
    have : (l.set i a).set i a = l := by
      rw [List.set_set]
      exact List.ext_getElem? (fun k => by
        rw [List.getElem?_set]
        split
        · rename_i e; subst e; exact hi.symm
        · rfl)
    rw [this]
  · have hj2 : (l.set i b)[j]? = some b := by rw [List.getElem?_set_ne hij]; exact hj
    have hjl2 : j < (l.set i b).length := by simpa using hjl
    rw [List.count_set hjl2, List.count_set hil]
    have e1 : (l.set i b)[j] = b := (List.getElem?_eq_some_iff.1 hj2).2
    have e2 : l[i] = a := (List.getElem?_eq_some_iff.1 hi).2
    rw [e1, e2]
    have ca : 0 < l.count a := List.count_pos_iff.2 (List.mem_of_getElem? hi)
    by_cases h1 : a = z
    · subst h1
      by_cases h2 : b = a
      · subst h2; simp; omega
      · simp [h2]; omega
    · by_cases h2 : b = z
      · subst h2; simp [h1]
      · simp [h1, h2]
end Go.Proofs.Yteoeahmnonolmaa.Plain
