/- A slice of structs whose fields are integers ('SRow'): what a function that reads it is told. -/
import Derived.Test.YteocplabibhecaaAb
import Derived.Deep.Slices
import Derived.Deep.Fields
import Derived.ChangeSame
import Derived.OpenShut
namespace Go.Proofs.Yteocplabibhecaa
open Go.RowKit Go.ChangeShapes Go.WideShapes Go.ChangeAt Go.Deep
set_option linter.unusedVariables false

/-- the slice v holds the structs rows (fields of kinds ks) in w -/
def SRow (ks : List IntKind) (w : World) (v : Value) (rows : List (List Int)) : Prop :=
  (rows = [] ∧ (v = .slice none 0 0 ∨ ∃ a cap, v = .slice (some a) 0 cap)) ∨
  (rows ≠ [] ∧ rows.length ≤ maxLen ∧ ∃ b off cap, v = .slice (some ⟨b, off, none⟩) rows.length cap ∧ b < w.heap.size ∧
    ∀ i r, rows[i]? = some r → r.length = ks.length ∧ ∀ j k z, ks[j]? = some k → r[j]? = some z → w.cell? ⟨b, off + (i * ks.length + j), none⟩ = some (.int k z) ∧ (Lit.int k z).wf = true)

theorem SRow.below {ks : List IntKind} {w w' : World} {v : Value} {rows : List (List Int)} (h : SRow ks w v rows) (hb : Below w.heap.size w w') : SRow ks w' v rows := by
  rcases h with h | ⟨h0, h1, b, off, cap, hv, hlt, hc⟩
  · exact .inl h
  · refine .inr ⟨h0, h1, b, off, cap, hv, Nat.lt_of_lt_of_le hlt hb.size, fun i r hi => ⟨(hc i r hi).1, fun j k z hk hz => ?_⟩⟩
    have := (hc i r hi).2 j k z hk hz
    exact ⟨(hb.cell (p := ⟨b, off + (i * ks.length + j), none⟩) hlt).trans this.1, this.2⟩
theorem SRow.some {ks : List IntKind} {w : World} {v : Value} {rows : List (List Int)} (h : SRow ks w v rows) (h0 : rows ≠ []) :
    rows.length ≤ maxLen ∧ ∃ b off cap, v = .slice (some ⟨b, off, none⟩) rows.length cap ∧ b < w.heap.size ∧
    ∀ i r, rows[i]? = some r → r.length = ks.length ∧ ∀ j k z, ks[j]? = some k → r[j]? = some z → w.cell? ⟨b, off + (i * ks.length + j), none⟩ = some (.int k z) ∧ (Lit.int k z).wf = true := by
  rcases h with ⟨h, _⟩ | ⟨_, h⟩
  · exact absurd h h0
  · exact h

theorem list_choose {α : Type} {Pr : Nat → α → Prop} : ∀ n : Nat, (∀ i, i < n → ∃ r, Pr i r) → ∃ rows : List α, rows.length = n ∧ ∀ i r, rows[i]? = some r → Pr i r
  | 0, _ => ⟨[], rfl, fun i r h => by simp at h⟩
  | n + 1, h => by
    obtain ⟨rows, hl, hr⟩ := list_choose n (fun i hi => h i (by omega))
    obtain ⟨r, hr2⟩ := h n (by omega)
    refine ⟨rows ++ [r], by simp [hl], fun i x hx => ?_⟩
    rcases Nat.lt_or_ge i n with h1 | h1
    · rw [List.getElem?_append_left (by omega)] at hx
      exact hr i x hx
    · have hi : i = n := by
        have := (List.getElem?_eq_some_iff.1 hx).1
        simp at this
        omega
      subst hi
      rw [List.getElem?_append_right (by omega)] at hx
      simp [hl] at hx
      subst hx
      exact hr2

theorem lt_of_cell {w : World} {p : Addr} {v : Value} (h : w.cell? p = some v) : p.block < w.heap.size := by
  rcases Nat.lt_or_ge p.block w.heap.size with h1 | h1
  · exact h1
  · have h2 : w.heap[p.block]? = none := Array.getElem?_eq_none h1
    simp [World.cell?, h2] at h

section
variable {H : Type} {enc : TypeId × Value → H} {P : Program} {w : World} {base : Nat} {spare : Nat → Bool} {held : Bool}

/-- what the reading of an argument that is such a slice says -/
theorem open_srow {t e : TypeId} {fs : Array Field} {a : Option Addr} {len cap : Nat} {d : DataW H} {p : List MemPlace} (ks : List IntKind) (ht : P.underlying t = some (.slice e)) (he : P.underlying e = some (.struct fs))
    (hone : oneCellFields P fs = true) (hC : P.cellsOf e = fs.size) (hks : ks.length = fs.size) (hpos : 0 < fs.size)
    (hint : ∀ (j : Nat) (f : Field) (k : IntKind) (v : Value) (y : DataW H × List MemPlace) (n : Nat), fs[j]? = some f → ks[j]? = some k → DataW.trod enc P w base spare held n f.type [v] = some y → ∃ z, v = .int k z ∧ (Lit.int k z).wf = true)
    (h : DataW.Trod enc P w base spare held t (.slice a len cap) d p) : ∃ rows, SRow ks w (.slice a len cap) rows ∧ rows.length = len := by
  obtain ⟨fuel, hf⟩ := h
  rcases open_slice ht hf with ⟨hcs, _⟩ | ⟨x, l, c, m, n, D, Pl, hcs, _, hl, hm, hmm, _, hi⟩
  · simp [Value.cells] at hcs
    obtain ⟨rfl, rfl, rfl⟩ := hcs
    exact ⟨[], .inl ⟨rfl, .inl rfl⟩, rfl⟩
  · simp [Value.cells] at hcs
    obtain ⟨rfl, rfl, rfl⟩ := hcs
    have hlm : len ≤ m := by rw [hmm]; split <;> omega
    have key : ∀ i, i < len → ∃ r : List Int, r.length = fs.size ∧ ∀ j z, r[j]? = some z → ∀ k, ks[j]? = some k → w.cell? (x.add (i * fs.size + j)) = some (.int k z) ∧ (Lit.int k z).wf = true := by
      intro i hil
      obtain ⟨cs', hc, ht'⟩ := hi i (by omega)
      rw [hC] at hc
      obtain ⟨ys, n', _, _, _, hyl, hfl⟩ := DataW.trod_struct he ht'
      obtain ⟨_, hcl, hat⟩ := World.cells?_some hc
      refine list_choose (Pr := fun j z => ∀ k, ks[j]? = some k → w.cell? (x.add (i * fs.size + j)) = some (.int k z) ∧ (Lit.int k z).wf = true) fs.size (fun j hj => ?_)
      have hfj : fs[j]? = some fs[j] := Array.getElem?_eq_getElem hj
      have hkj : ks[j]? = some (ks[j]'(by omega)) := List.getElem?_eq_getElem (by omega)
      obtain ⟨ho, hk⟩ := hone_of hone j fs[j] hfj
      have h1 := hfl j fs[j] hfj
      rw [ho, hk] at h1
      have hd : (cs'.drop j).take 1 = [cs'[j]'(by omega)] := by rw [List.drop_eq_getElem_cons (by omega)]; rfl
      rw [hd] at h1
      have hys : ys[j]? = some (ys[j]'(by omega)) := List.getElem?_eq_getElem (by omega)
      obtain ⟨z, hz, hwf⟩ := hint j fs[j] (ks[j]'(by omega)) _ _ _ hfj hkj (h1.trans hys)
      refine ⟨z, fun k hk' => ?_⟩
      rw [hkj] at hk'
      cases hk'
      refine ⟨?_, hwf⟩
      rw [← Go.Deep.add_add, hat j (by omega), List.getElem?_eq_getElem (by omega), hz]
    obtain ⟨rows, hrl, hr⟩ := list_choose len key
    refine ⟨rows, ?_, hrl⟩
    rcases Nat.eq_zero_or_pos len with h0 | h0
    · subst h0
      exact .inl ⟨List.eq_nil_of_length_eq_zero hrl, .inr ⟨x, cap, rfl⟩⟩
    · have hne : rows ≠ [] := by intro e; rw [e] at hrl; simp at hrl; omega
      have h00 : rows[0]? = some (rows[0]'(by omega)) := List.getElem?_eq_getElem (by omega)
      obtain ⟨hl0, hz0⟩ := hr 0 _ h00
      have hc0 := (hz0 0 _ (List.getElem?_eq_getElem (by omega)) _ (List.getElem?_eq_getElem (by omega))).1
      obtain ⟨b, off, spot⟩ := x
      have hspot : spot = none := by simpa [Addr.add] using World.cell?_spot hc0
      subst hspot
      have hlt : b < w.heap.size := by simpa [Addr.add] using lt_of_cell hc0
      refine .inr ⟨hne, by omega, b, off, cap, by rw [hrl], hlt, fun i r hir => ?_⟩
      obtain ⟨h1, h2⟩ := hr i r hir
      refine ⟨by omega, fun j k z hk hz => ?_⟩
      have := h2 j z hz k hk
      rw [Go.WideShapes.add_plain] at this
      rw [hks]
      exact this
end
end Go.Proofs.Yteocplabibhecaa
