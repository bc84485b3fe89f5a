/- A slice of integers in memory ('Seg'): what a function that reads it is told. -/
import Derived.Test.YtenpjhpdanhmaaaAb
import Derived.OpenShut
namespace Go.Proofs.Ytenpjhpdanhmaaa
open Go.RowKit Go.ChangeShapes Go.WideShapes Go.ChangeAt

/-- the slice v holds the numbers zs in w -/
def Seg (w : World) (k : IntKind) (v : Value) (zs : List Int) : Prop :=
  (zs = [] ∧ ∃ a cap, v = .slice a 0 cap) ∨
  (zs ≠ [] ∧ zs.length ≤ maxLen ∧ ∃ b off cap, v = .slice (some ⟨b, off, none⟩) zs.length cap ∧ b < w.heap.size ∧ ∀ i z, zs[i]? = some z → w.cell? ⟨b, off + i, none⟩ = some (.int k z))

/-- what the frame is told of a slice of integers that came in -/
def IsRow (k : IntKind) (w : World) (a : Option Addr) (len cap : Nat) (zs : List Int) : Prop :=
  (a = none ∧ len = 0 ∧ cap = 0 ∧ zs = []) ∨
  ∃ x, a = some x ∧ len ≤ cap ∧ cap ≤ maxLen ∧ zs.length = cap ∧ (∀ i, i < zs.length → w.cell? (x.add i) = some (.int k (zs.getD i 0))) ∧ ∀ n ∈ zs, (Lit.int k n).wf = true

theorem cell_lt {w : World} {p : Addr} {v : Value} (h : w.cell? p = some v) : p.block < w.heap.size := by
  rcases Nat.lt_or_ge p.block w.heap.size with h1 | h1
  · exact h1
  · have h2 : w.heap[p.block]? = none := Array.getElem?_eq_none h1
    simp [World.cell?, h2] at h

theorem IsRow.seg {k : IntKind} {w : World} {a : Option Addr} {len cap : Nat} {zs : List Int} (h : IsRow k w a len cap zs) :
    len ≤ zs.length ∧ Seg w k (.slice a len cap) (zs.take len) ∧ (∀ z ∈ zs.take len, (Lit.int k z).wf = true) := by
  rcases h with ⟨rfl, rfl, rfl, rfl⟩ | ⟨x, rfl, hl, hm, hz, hc, hw⟩
  · exact ⟨Nat.le_refl _, .inl ⟨rfl, none, 0, rfl⟩, by simp⟩
  · refine ⟨by omega, ?_, fun z hz => hw z (List.mem_of_mem_take hz)⟩
    rcases Nat.eq_zero_or_pos len with h0 | h0
    · subst h0
      exact .inl ⟨by simp, some x, cap, rfl⟩
    · have hlen : (zs.take len).length = len := by simp; omega
      refine .inr ⟨by intro e; rw [e] at hlen; simp at hlen; omega, by omega, ?_⟩
      obtain ⟨b, off, rfl, hc'⟩ := ints_at hc (by omega)
      refine ⟨b, off, cap, by rw [hlen], cell_lt (hc 0 (by omega)), fun i z hi => ?_⟩
      have hi' : i < len := by
        have := (List.getElem?_eq_some_iff.1 hi).1
        omega
      have h2 := hc' i (by omega)
      have h3 : zs[i]? = some z := by rw [← hi, List.getElem?_take_of_lt hi']
      simpa [List.getD, h3] using h2

theorem Seg.below {w w' : World} {k : IntKind} {v : Value} {zs : List Int} (h : Seg w k v zs) (hb : Below w.heap.size w w') : Seg w' k v zs := by
  rcases h with h | ⟨h0, h1, b, off, cap, hv, hlt, hc⟩
  · exact .inl h
  · exact .inr ⟨h0, h1, b, off, cap, hv, Nat.lt_of_lt_of_le hlt hb.size, fun i z hi => (hb.cell (p := ⟨b, off + i, none⟩) hlt).trans (hc i z hi)⟩
/-- a slice over a block that was just made -/
theorem seg_new (w : World) (k : IntKind) (T : TypeId) (zs : List Int) (cap : Nat) (h0 : zs ≠ []) (h1 : zs.length ≤ maxLen) :
    Seg (w.alloc (.cells (zs.map (Value.int k)).toArray T)) k (.slice (some ⟨w.heap.size, 0, none⟩) zs.length cap) zs := by
  refine .inr ⟨h0, h1, w.heap.size, 0, cap, rfl, by simp, fun i z hi => ?_⟩
  simp [hi]
end Go.Proofs.Ytenpjhpdanhmaaa
