/- Attackers and blocks. -/
import Derived.Test.YteoeahmnonolmaaBPm
namespace Go.Proofs.Yteoeahmnonolmaa.Plain
set_option linter.unusedVariables false
/-- the attackers so far -/
structure FgA (B : Bd) (i : Nat) : Prop where
  nd : (B.att.take i).Nodup
  own : ∀ a ∈ B.att.take i, a ∈ B.own
theorem nodup_take {α : Type} {l : List α} (i : Nat) (h : l.Nodup) : (l.take i).Nodup := by
  have := List.take_append_drop i l
  rw [← this] at h
  exact nodup_append_left h
theorem take_snoc {α : Type} {l : List α} {i : Nat} {x : α} (h : l[i]? = some x) : l.take (i + 1) = l.take i ++ [x] := by
  rw [List.take_add_one, h]
  rfl
theorem FgA.step {B : Bd} {i : Nat} (h : FgA B i) {x : Int} (hx : B.att[i]? = some x) (h1 : x ∉ B.att.take i) (h2 : x ∈ B.own) : FgA B (i + 1) := by
  refine ⟨?_, ?_⟩
  · rw [take_snoc hx]
    exact List.nodup_append.2 ⟨h.nd, by simp, fun a ha b hb e => by simp at hb; subst hb; subst e; exact h1 ha⟩
  · intro a ha
    rw [take_snoc hx] at ha
    rcases List.mem_append.1 ha with h3 | h3
    · exact h.own a h3
    · simp at h3; subst h3; exact h2
theorem fgA_fail {B : Bd} {i : Nat} {x : Int} (hx : B.att[i]? = some x) (h : x ∈ B.att.take i ∨ x ∉ B.own) : ¬ Fgt B := by
  intro hf
  rcases h with h | h
  · have h1 := nodup_take (i + 1) hf.nd
    rw [take_snoc hx] at h1
    exact (List.nodup_append.1 h1).2.2 _ h _ (by simp) rfl
  · exact h (hf.own x (List.mem_of_getElem? hx))
/-- the blocks so far -/
structure FgS (B : Bd) (i : Nat) (S : List Int) : Prop where
  mem : ∀ z, z ∈ S ↔ (z ∈ B.att ∧ z ∉ (B.bl.take i).map Bk.at') ∨ ∃ y ∈ B.bl.take i, z = -y.bl
  na : ((B.bl.take i).map Bk.at').Nodup
  nb : ((B.bl.take i).map Bk.bl).Nodup
  all : ∀ x ∈ B.bl.take i, x.at' ∈ B.att ∧ x.bl ∈ B.oth
theorem FgS.start (B : Bd) : FgS B 0 B.att.reverse := ⟨fun z => by simp, by simp, by simp, by simp⟩
theorem FgS.step {B : Bd} {i : Nat} {S : List Int} (h : FgS B i S) (hpa : ∀ a ∈ B.att, 1 ≤ a) (hpb : ∀ b ∈ B.oth, 1 ≤ b) {x : Bk} (hx : B.bl[i]? = some x) {nb : Int} (hnb : x.bl ∈ B.oth → nb = -x.bl) (c1 : x.at' ∈ S) (c2 : nb ∉ S) (c3 : x.at' ∈ B.att) (c4 : x.bl ∈ B.oth) : FgS B (i + 1) (nb :: S.filter (fun y => y != x.at')) := by
  have hn := hnb c4
  subst hn
  have p1 := hpa _ c3
  have p2 := hpb _ c4
  have a1 : x.at' ∉ (B.bl.take i).map Bk.at' := by
    rcases (h.mem _).1 c1 with h1 | ⟨y, hy, he⟩
    · exact h1.2
    · have := hpb _ (h.all y hy).2
      omega
  have b1 : x.bl ∉ (B.bl.take i).map Bk.bl := fun hm => by
    obtain ⟨y, hy, he⟩ := List.mem_map.1 hm
    exact c2 ((h.mem _).2 (.inr ⟨y, hy, by rw [he]⟩))
  refine ⟨fun z => ?_, ?_, ?_, ?_⟩
  · rw [take_snoc hx, List.map_append, List.mem_cons, List.mem_filter, h.mem z]
    simp only [List.map_cons, List.map_nil, List.mem_append, List.mem_singleton, not_or]
    constructor
    · rintro (rfl | ⟨h1 | ⟨y, hy, he⟩, h2⟩)
      · exact .inr ⟨x, .inr rfl, rfl⟩
      · exact .inl ⟨h1.1, h1.2, by simpa using h2⟩
      · exact .inr ⟨y, .inl hy, he⟩
    · rintro (⟨h1, h2, h3⟩ | ⟨y, hy | rfl, he⟩)
      · exact .inr ⟨.inl ⟨h1, h2⟩, by simpa using h3⟩
      · have := hpb _ (h.all y hy).2
        exact .inr ⟨.inr ⟨y, hy, he⟩, by simp; omega⟩
      · exact .inl he
  · rw [take_snoc hx, List.map_append]
    exact List.nodup_append.2 ⟨h.na, by simp, fun a ha b hb e => by simp at hb; subst hb; subst e; exact a1 ha⟩
  · rw [take_snoc hx, List.map_append]
    exact List.nodup_append.2 ⟨h.nb, by simp, fun a ha b hb e => by simp at hb; subst hb; subst e; exact b1 ha⟩
  · intro y hy
    rw [take_snoc hx] at hy
    rcases List.mem_append.1 hy with h3 | h3
    · exact h.all y h3
    · simp at h3; subst h3; exact ⟨c3, c4⟩
theorem FgS.fail {B : Bd} {i : Nat} {S : List Int} (h : FgS B i S) (hpa : ∀ a ∈ B.att, 1 ≤ a) (hpb : ∀ b ∈ B.oth, 1 ≤ b) {x : Bk} (hx : B.bl[i]? = some x) {nb : Int} (hnb : x.bl ∈ B.oth → nb = -x.bl) (hf : x.at' ∉ S ∨ nb ∈ S ∨ x.at' ∉ B.att ∨ x.bl ∉ B.oth) : ¬ Fgt B := by
  intro hg
  have hxb := hg.bl x (List.mem_of_getElem? hx)
  have hn := hnb hxb.2
  subst hn
  have p1 := hpa _ hxb.1
  have p2 := hpb _ hxb.2
  have a1 : x.at' ∉ (B.bl.take i).map Bk.at' := fun hm => by
    have h1 := nodup_take (i + 1) hg.na
    rw [← List.map_take, take_snoc hx, List.map_append] at h1
    exact (List.nodup_append.1 h1).2.2 _ hm _ (by simp) rfl
  have b1 : x.bl ∉ (B.bl.take i).map Bk.bl := fun hm => by
    have h1 := nodup_take (i + 1) hg.nb
    rw [← List.map_take, take_snoc hx, List.map_append] at h1
    exact (List.nodup_append.1 h1).2.2 _ hm _ (by simp) rfl
  rcases hf with hf | hf | hf | hf
  · exact hf ((h.mem _).2 (.inl ⟨hxb.1, a1⟩))
  · rcases (h.mem _).1 hf with ⟨h1, _⟩ | ⟨y, hy, he⟩
    · have := hpa _ h1
      omega
    · exact b1 (List.mem_map.2 ⟨y, hy, by omega⟩)
  · exact hf hxb.1
  · exact hf hxb.2
theorem FgS.done {B : Bd} {S : List Int} (ha : FgA B B.att.length) (h : FgS B B.bl.length S) : Fgt B := by
  have e1 := List.take_length (l := B.att)
  have e2 := List.take_length (l := B.bl)
  refine ⟨?_, ?_, ?_, ?_, ?_⟩
  · have := ha.nd; rwa [e1] at this
  · have := ha.own; rwa [e1] at this
  · have := h.na; rwa [e2] at this
  · have := h.nb; rwa [e2] at this
  · have := h.all; rwa [e2] at this
end Go.Proofs.Yteoeahmnonolmaa.Plain
