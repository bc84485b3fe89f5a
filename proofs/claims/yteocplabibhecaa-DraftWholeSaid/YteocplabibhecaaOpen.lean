/- A parameter that is packs. -/
import Derived.Test.YteocplabibhecaaMe
import Derived.Deep.Matrix
import Derived.ProofKit
import Derived.OpenShut
namespace Go.Proofs.Yteocplabibhecaa
open Go.RowKit Plain Go.ChangeShapes Go.WideShapes Go.Deep
set_option linter.unusedVariables false
set_option linter.unusedSimpArgs false

theorem rw_of_at {α : Type} {f : α → List Value} {u : α → Value} (hf : ∀ x, f x = [u x]) {w : World} {a : Addr} {n c : Nat} {l : List α} (hl : l.length = n) (hm : n ≤ maxLen) (h : ∀ (i : Nat) x, l[i]? = some x → w.cell? (a.add i) = some (u x)) : Rw f 1 w (.slice (some a) n c) l := by
  subst hl
  rcases Nat.eq_zero_or_pos l.length with h0 | h0
  · have : l = [] := List.eq_nil_of_length_eq_zero h0
    subst this
    exact .inl ⟨rfl, .inr ⟨_, _, rfl⟩⟩
  · obtain ⟨x, hx⟩ : ∃ x, l[0]? = some x := ⟨_, List.getElem?_eq_getElem h0⟩
    obtain ⟨b, off, spot⟩ := a
    have hspot : spot = none := by simpa [Addr.add] using World.cell?_spot (h 0 x hx)
    subst hspot
    have hlt : b < w.heap.size := by
      have h1 := h 0 x hx
      rw [WideShapes.add_plain] at h1
      rcases Nat.lt_or_ge b w.heap.size with h2 | h2
      · exact h2
      · have h3 : w.heap[b]? = none := Array.getElem?_eq_none h2
        simp [World.cell?, h3] at h1
    refine .inr ⟨by intro e; rw [e] at h0; simp at h0, hm, b, off, c, rfl, hlt, fun i x hx j v hv => ?_⟩
    rw [hf] at hv
    have hj : j = 0 := by have := (List.getElem?_eq_some_iff.1 hv).1; simp at this; omega
    subst hj
    simp at hv
    subst hv
    have h1 := h i x hx
    rw [WideShapes.add_plain] at h1
    rw [Nat.mul_one, Nat.add_zero]
    exact h1
theorem range_map_at {α : Type} {f : Nat → α} {n i : Nat} {x : α} (h : ((List.range n).map f)[i]? = some x) : i < n ∧ x = f i := by
  rw [List.getElem?_map] at h
  rcases Nat.lt_or_ge i n with h1 | h1
  · rw [List.getElem?_range h1] at h
    simp at h
    exact ⟨h1, h.symm⟩
  · rw [List.getElem?_eq_none (by simpa using h1)] at h
    cases h
theorem open_row {H : Type} {enc : TypeId × Value → H} {w : World} {base fuel : Nat} {held : Bool} {v : Value} {x : DataW H × List MemPlace} (h : DataW.trod enc Try.prog w base (fun _ => true) held fuel 30 [v] = some x) : ∃ m, Rw2 w v m := by
  rcases open_int_rows Try.underlying30 Try.underlying32 Try.underlying3 (by kernel_rfl) (by kernel_rfl) h with ⟨h1, _⟩ | ⟨a, len, cap, A, L, C, Z, h1, _, h3, h4, _, h6⟩
  · simp at h1
    subst h1
    exact ⟨[], [], .inl ⟨rfl, .inl rfl⟩, rfl, by simp⟩
  · simp at h1
    subst h1
    refine ⟨(List.range len).map fun r => (Z r).take (L r), (List.range len).map fun r => ⟨A r, L r, C r⟩, rw_of_at vc1 (by simp) (by omega) (fun i x hx => ?_), by simp, fun i s m hs hm => ?_⟩
    · obtain ⟨hi, rfl⟩ := range_map_at hx
      exact (h6 i (by omega)).1
    · obtain ⟨hi, rfl⟩ := range_map_at hs
      obtain ⟨_, rfl⟩ := range_map_at hm
      obtain ⟨_, q1, q2, q3, q4, q5, q6⟩ := h6 i (by omega)
      show Rw ic 1 w (.slice (A i) (L i) (C i)) ((Z i).take (L i))
      cases ha : A i with
      | none =>
        have hc := q5 ha
        have hl0 : L i = 0 := by omega
        rw [hl0, hc]
        exact .inl ⟨rfl, .inl rfl⟩
      | some a' =>
        obtain ⟨_, q7⟩ := q6 a' ha
        refine rw_of_at ic1 (by rw [List.length_take]; omega) (by omega) (fun j z hz => ?_)
        have hj : j < L i := by have := (List.getElem?_eq_some_iff.1 hz).1; rw [List.length_take] at this; omega
        rw [List.getElem?_take_of_lt hj] at hz
        rw [q7 j (by omega), List.getD_eq_getElem?_getD, hz]
        rfl
theorem open_mats {H : Type} {enc : TypeId × Value → H} {w : World} {base fuel : Nat} {held : Bool} {cs : List Value} {x : DataW H × List MemPlace} {a : Option Addr} {len cap : Nat} (h : DataW.trod enc Try.prog w base (fun _ => true) held fuel 22 cs = some x) (hcs : cs = [.slice a len cap]) : ∃ ls, Rw3 w (.slice a len cap) ls ∧ ls.length = len := by
  subst hcs
  rcases open_slice1 Try.underlying22 (by kernel_rfl) h with ⟨h1, _⟩ | ⟨b, len', cap', m, n, V, D, Pl, h1, _, h3, h4, h5, _, h7⟩
  · simp at h1
    obtain ⟨rfl, rfl, rfl⟩ := h1
    exact ⟨[], ⟨[], .inl ⟨rfl, .inl rfl⟩, rfl, by simp⟩, rfl⟩
  · simp at h1
    obtain ⟨rfl, rfl, rfl⟩ := h1
    simp only [if_true] at h5
    rw [h5] at h7
    have inst : Inhabited (Sl × List (List Int)) := ⟨(⟨none, 0, 0⟩, [])⟩
    have each : ∀ i, i < cap → ∃ y : Sl × List (List Int), V i = y.1.v ∧ Rw2 w y.1.v y.2 := fun i hi => by
      obtain ⟨m, hm⟩ := open_row (h7 i hi).2
      obtain ⟨_, a', c', hv, _⟩ := hm.at
      exact ⟨(⟨a', m.length, c'⟩, m), hv, by rw [hv] at hm; exact hm⟩
    obtain ⟨y, hy⟩ := choose_lt each
    refine ⟨(List.range len).map fun i => (y i).2, ⟨(List.range len).map fun i => (y i).1, rw_of_at vc1 (by simp) (by omega) (fun i x hx => ?_), by simp, fun i s m hs hm => ?_⟩, by simp⟩
    · obtain ⟨hi, rfl⟩ := range_map_at hx
      rw [(h7 i (by omega)).1, (hy i (by omega)).1]
    · obtain ⟨hi, rfl⟩ := range_map_at hs
      obtain ⟨_, rfl⟩ := range_map_at hm
      exact (hy i (by omega)).2
end Go.Proofs.Yteocplabibhecaa
