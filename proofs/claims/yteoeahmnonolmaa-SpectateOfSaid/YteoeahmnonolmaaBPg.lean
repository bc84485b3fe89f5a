/- What the reference counts. -/
import Derived.Test.YteoeahmnonolmaaBPf
namespace Go.Proofs.Yteoeahmnonolmaa.Plain
set_option linter.unusedVariables false
theorem pr_count (p q i : Int) (l : List Int) : (pr p l).count (i, q) = if p = q then l.count i else 0 := by
  induction l with
  | nil => simp [pr]
  | cons a l ih =>
    have h : pr p (a :: l) = (a, p) :: pr p l := rfl
    rw [h, List.count_cons, List.count_cons, ih]
    by_cases e : p = q
    · by_cases e2 : a = i
      · simp [e, e2]
      · have : ((a, p) == (i, q)) = false := beq_false_of_ne (fun h => e2 (congrArg Prod.fst h))
        rw [this]
        simp [e, e2]
    · have : ((a, p) == (i, q)) = false := beq_false_of_ne (fun h => e (congrArg Prod.snd h))
      rw [this]
      simp [e]
/-- how often an id is in a player's places -/
theorem prs_count (b : Bd) (p : Nat) (hp : p < 2) (i : Int) : b.prs.count (i, (p : Int)) = (b.seat p).all.count i + (spr b.st).count (i, (p : Int)) := by
  unfold Bd.prs
  rw [List.count_append, List.count_append, pr_count, pr_count]
  have : p = 0 ∨ p = 1 := by omega
  rcases this with rfl | rfl
  · simp [Bd.seat, spr]
  · simp [Bd.seat, spr]
theorem zpre_count (S : Se) {z : Nat} (h : z < 4) (i : Int) : (zpre S (z + 1)).count i = (zpre S z).count i + (S.zs z).count i := by
  rw [zpre_succ S h, List.count_append]
theorem spr_count (l : List It) (k : Nat) (x : It) (h : l[k]? = some x) (ht : -1 ≤ x.tr) (i q : Int) : (spr (l.take (k + 1))).count (i, q) = (spr (l.take k)).count (i, q) + if x.tr = -1 ∧ x.id = i ∧ x.pl = q then 1 else 0 := by
  rw [spr_snoc l k x h]
  by_cases h1 : x.tr < 0
  · rw [if_pos h1, List.count_append, List.count_singleton]
    have h2 : x.tr = -1 := by omega
    congr 1
    by_cases h3 : x.id = i ∧ x.pl = q
    · simp [h2, h3]
    · have : ((x.id, x.pl) == (i, q)) = false := beq_false_of_ne (fun h => h3 ⟨congrArg Prod.fst h, congrArg Prod.snd h⟩)
      rw [this]
      simp [h2]
      intro a b; exact absurd ⟨a, b⟩ h3
  · rw [if_neg h1, if_neg (by omega)]
    rfl
/-- the stack's cards so far are found -/
def stF (b : Bd) (k : Nat) : Prop := ∀ x ∈ cst (b.st.take k), ∃ (i : Nat) (o : Ob), b.ob[i]? = some o ∧ o.id = x.id ∧ (∀ (j : Nat) (q : Ob), j < i → b.ob[j]? = some q → q.id ≠ x.id) ∧ o.cd = x.cd
theorem cst_snoc (l : List It) (k : Nat) (x : It) (h : l[k]? = some x) : cst (l.take (k + 1)) = if x.tr < 0 then cst (l.take k) ++ [x] else cst (l.take k) := by
  unfold cst
  rw [List.take_add_one, h, Option.toList_some, List.filter_append]
  split
  · rename_i h1; simp [h1]
  · rename_i h1; simp [h1]
theorem stF_skip {b : Bd} {k : Nat} {x : It} (h : b.st[k]? = some x) (ht : ¬ x.tr < 0) (hf : stF b k) : stF b (k + 1) := by
  intro y hy
  rw [cst_snoc _ _ _ h, if_neg ht] at hy
  exact hf y hy
theorem stF_step {b : Bd} {k : Nat} {x : It} (h : b.st[k]? = some x) (ht : x.tr < 0) (hf : stF b k) {i : Nat} {o : Ob} (ho : b.ob[i]? = some o) (hid : o.id = x.id) (hfirst : ∀ (j : Nat) (q : Ob), j < i → b.ob[j]? = some q → q.id ≠ x.id) (hcd : o.cd = x.cd) : stF b (k + 1) := by
  intro y hy
  rw [cst_snoc _ _ _ h, if_pos ht] at hy
  rcases List.mem_append.1 hy with h1 | h1
  · exact hf y h1
  · simp at h1
    subst h1
    exact ⟨i, o, ho, hid, hfirst, hcd⟩
theorem stF_fail {b : Bd} {k : Nat} {x : It} (h : b.st[k]? = some x) (ht : x.tr < 0) (hn : (∀ (j : Nat) (q : Ob), b.ob[j]? = some q → q.id ≠ x.id) ∨ ∃ (i : Nat) (o : Ob), b.ob[i]? = some o ∧ o.id = x.id ∧ (∀ (j : Nat) (q : Ob), j < i → b.ob[j]? = some q → q.id ≠ x.id) ∧ o.cd ≠ x.cd) : ¬ Fnd b := by
  intro hf
  have hx : x ∈ cst b.st := List.mem_filter.2 ⟨List.mem_of_getElem? h, by simpa using ht⟩
  obtain ⟨i, o, h1, h2, h3, h4⟩ := hf.st x hx
  rcases hn with hn | ⟨i', o', g1, g2, g3, g4⟩
  · exact hn i o h1 h2
  · rcases Nat.lt_trichotomy i i' with e | e | e
    · exact g3 i o e h1 h2
    · subst e
      rw [h1] at g1
      simp at g1
      subst g1
      exact g4 h4
    · exact h3 i' o' e g1 g2
def okF (b : Bd) (i : Nat) (o : Ob) : Prop := vO o = true ∧ rise b.ob i o ∧ b.prs.count (o.id, o.ow) = 1
theorem cst_all (b : Bd) : b.st.take b.st.length = b.st := List.take_length
/-- attackers, by the reference: how often -/
structure FrA (b : Bd) (i : Nat) : Prop where
  nd : ∀ a ∈ b.att.take i, b.att.count a = 1 ∧ b.own.count a = 1
theorem nodup_count {l : List Int} : l.Nodup ↔ ∀ a ∈ l, l.count a = 1 := by
  constructor
  · intro h a ha
    rw [h.count, if_pos ha]
  · intro h
    rw [List.nodup_iff_count]
    intro a
    by_cases ha : a ∈ l
    · rw [h a ha]
      omega
    · rw [List.count_eq_zero_of_not_mem ha]
      omega
theorem FrA.step {b : Bd} {i : Nat} (h : FrA b i) {x : Int} (hx : b.att[i]? = some x) (h1 : b.att.count x = 1) (h2 : b.own.count x = 1) : FrA b (i + 1) := ⟨fun a ha => by
  rw [take_snoc hx] at ha
  rcases List.mem_append.1 ha with h3 | h3
  · exact h.nd a h3
  · simp at h3; subst h3; exact ⟨h1, h2⟩⟩
theorem frA_fail {b : Bd} {x : Int} {i : Nat} (hx : b.att[i]? = some x) (hnd : b.own.Nodup) (h : b.att.count x ≠ 1 ∨ b.own.count x ≠ 1) : ¬ Fgt b := by
  intro hf
  have hm := List.mem_of_getElem? hx
  rcases h with h | h
  · exact h (nodup_count.1 hf.nd x hm)
  · exact h (nodup_count.1 hnd x (hf.own x hm))
/-- blocks, by the reference -/
structure FrB (b : Bd) (i : Nat) : Prop where
  in' : ∀ x ∈ b.bl.take i, b.att.count x.at' = 1 ∧ b.oth.count x.bl = 1
  na : ((b.bl.take i).map Bk.at').Nodup
  nb : ((b.bl.take i).map Bk.bl).Nodup
theorem FrB.start (b : Bd) : FrB b 0 := ⟨by simp, by simp, by simp⟩
theorem FrB.step {b : Bd} {i : Nat} (h : FrB b i) {x : Bk} (hx : b.bl[i]? = some x) (h1 : b.att.count x.at' = 1) (h2 : b.oth.count x.bl = 1) (h3 : ∀ (j : Nat) (y : Bk), j < i → b.bl[j]? = some y → y.at' ≠ x.at' ∧ y.bl ≠ x.bl) : FrB b (i + 1) := by
  have h4 : ∀ y ∈ b.bl.take i, y.at' ≠ x.at' ∧ y.bl ≠ x.bl := fun y hy => by
    obtain ⟨j, hj⟩ := List.getElem?_of_mem hy
    rw [List.getElem?_take] at hj
    split at hj
    · rename_i hlt; exact h3 j y hlt hj
    · cases hj
  refine ⟨?_, ?_, ?_⟩
  · intro y hy
    rw [take_snoc hx] at hy
    rcases List.mem_append.1 hy with g | g
    · exact h.in' y g
    · simp at g; subst g; exact ⟨h1, h2⟩
  · rw [take_snoc hx, List.map_append]
    refine List.nodup_append.2 ⟨h.na, by simp, fun a ha c hc e => ?_⟩
    simp at hc
    subst hc
    subst e
    obtain ⟨y, hy, he⟩ := List.mem_map.1 ha
    exact (h4 y hy).1 he
  · rw [take_snoc hx, List.map_append]
    refine List.nodup_append.2 ⟨h.nb, by simp, fun a ha c hc e => ?_⟩
    simp at hc
    subst hc
    subst e
    obtain ⟨y, hy, he⟩ := List.mem_map.1 ha
    exact (h4 y hy).2 he
theorem frB_fail {b : Bd} {x : Bk} {i : Nat} (hx : b.bl[i]? = some x) (hnd : b.oth.Nodup) (h : b.att.count x.at' ≠ 1 ∨ b.oth.count x.bl ≠ 1 ∨ ∃ (j : Nat) (y : Bk), j < i ∧ b.bl[j]? = some y ∧ (y.at' = x.at' ∨ y.bl = x.bl)) : ¬ Fgt b := by
  intro hf
  have hm := List.mem_of_getElem? hx
  rcases h with h | h | ⟨j, y, hj, hy, h⟩
  · exact h (nodup_count.1 hf.nd _ (hf.bl x hm).1)
  · exact h (nodup_count.1 hnd _ (hf.bl x hm).2)
  · have hil := (List.getElem?_eq_some_iff.1 hx).1
    have hjl := (List.getElem?_eq_some_iff.1 hy).1
    have e1 := (List.getElem?_eq_some_iff.1 hx).2
    have e2 := (List.getElem?_eq_some_iff.1 hy).2
    rcases h with h | h
    · have := List.pairwise_iff_getElem.1 hf.na j i (by simpa using hjl) (by simpa using hil) hj
      rw [List.getElem_map, List.getElem_map, e1, e2] at this
      exact this h
    · have := List.pairwise_iff_getElem.1 hf.nb j i (by simpa using hjl) (by simpa using hil) hj
      rw [List.getElem_map, List.getElem_map, e1, e2] at this
      exact this h
theorem FrB.done {b : Bd} (ha : FrA b b.att.length) (h : FrB b b.bl.length) : Fgt b := by
  have e1 : b.att.take b.att.length = b.att := List.take_length
  have e2 : b.bl.take b.bl.length = b.bl := List.take_length
  have ha := ha.nd
  have hb := h.in'
  have hna := h.na
  have hnb := h.nb
  rw [e1] at ha
  rw [e2] at hb hna hnb
  refine ⟨nodup_count.2 (fun a h => (ha a h).1), fun a h => ?_, hna, hnb, fun x hx => ⟨?_, ?_⟩⟩
  · have := (ha a h).2
    exact List.count_pos_iff.1 (by omega)
  · have := (hb x hx).1
    exact List.count_pos_iff.1 (by omega)
  · have := (hb x hx).2
    exact List.count_pos_iff.1 (by omega)
theorem vO_ow {o : Ob} (h : vO o = true) : 0 ≤ o.ow ∧ o.ow ≤ 1 := by
  unfold vO at h
  have h := of_decide_eq_true h
  omega
end Go.Proofs.Yteoeahmnonolmaa.Plain
