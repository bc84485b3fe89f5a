/- A slice of integers in memory ('Seg'): what a function that reads it is told. -/
import Derived.Test.YtonaidjdkejoeaaAb
import Derived.Laws.AppendOwnNone
namespace Go.Proofs.Ytonaidjdkejoeaa
open Go.RowKit

/-- the slice v holds the numbers zs in w -/
def Seg (w : World) (k : IntKind) (v : Value) (zs : List Int) : Prop :=
  (zs = [] ∧ (v = .slice none 0 0 ∨ ∃ a cap, v = .slice (some a) 0 cap)) ∨
  (zs ≠ [] ∧ zs.length ≤ maxLen ∧ ∃ b off cap, v = .slice (some ⟨b, off, none⟩) zs.length cap ∧ b < w.heap.size ∧ ∀ i z, zs[i]? = some z → w.cell? ⟨b, off + i, none⟩ = some (.int k z))

/-- what the frame is told of a slice of integers that came in -/
def IsRow (k : IntKind) (w : World) (a : Option Addr) (len cap : Nat) (zs : List Int) : Prop :=
  (a = none ∧ len = 0 ∧ cap = 0 ∧ zs = []) ∨
  ∃ x, a = some x ∧ len ≤ cap ∧ cap ≤ maxLen ∧ zs.length = cap ∧ (∀ i, i < zs.length → w.cell? (x.add i) = some (.int k (zs.getD i 0))) ∧ ∀ n ∈ zs, (Lit.int k n).wf = true

theorem cell_lt {w : World} {p : Addr} {v : Value} (h : w.cell? p = some v) : p.block < w.heap.size := by
  rcases Nat.lt_or_ge p.block w.heap.size with h1 | h1
  · exact h1
  · have h2 : w.heap[p.block]? = none := Array.getElem?_eq_none h1
    simp [World.cell?, h2] at h

theorem IsRow.seg {k : IntKind} {w : World} {a : Option Addr} {len cap : Nat} {zs : List Int} (h : IsRow k w a len cap zs) :
    len ≤ zs.length ∧ Seg w k (.slice a len cap) (zs.take len) ∧ (∀ z ∈ zs.take len, (Lit.int k z).wf = true) := by
  rcases h with ⟨rfl, rfl, rfl, rfl⟩ | ⟨x, rfl, hl, hm, hz, hc, hw⟩
  · exact ⟨Nat.le_refl _, .inl ⟨rfl, .inl rfl⟩, by simp⟩
  · refine ⟨by omega, ?_, fun z hz => hw z (List.mem_of_mem_take hz)⟩
    rcases Nat.eq_zero_or_pos len with h0 | h0
    · subst h0
      exact .inl ⟨by simp, .inr ⟨x, cap, rfl⟩⟩
    · have hlen : (zs.take len).length = len := by simp; omega
      refine .inr ⟨by intro e; rw [e] at hlen; simp at hlen; omega, by omega, ?_⟩
      obtain ⟨b, off, rfl, hc'⟩ := ints_at hc (by omega)
      refine ⟨b, off, cap, by rw [hlen], cell_lt (hc 0 (by omega)), fun i z hi => ?_⟩
      have hi' : i < len := by
        have := (List.getElem?_eq_some_iff.1 hi).1
        omega
      have h2 := hc' i (by omega)
      have h3 : zs[i]? = some z := by rw [← hi, List.getElem?_take_of_lt hi']
      simpa [List.getD, h3] using h2

theorem Seg.below {w w' : World} {k : IntKind} {v : Value} {zs : List Int} (h : Seg w k v zs) (hb : Below w.heap.size w w') : Seg w' k v zs := by
  rcases h with h | ⟨h0, h1, b, off, cap, hv, hlt, hc⟩
  · exact .inl h
  · exact .inr ⟨h0, h1, b, off, cap, hv, Nat.lt_of_lt_of_le hlt hb.size, fun i z hi => (hb.cell (p := ⟨b, off + i, none⟩) hlt).trans (hc i z hi)⟩
theorem Seg.some {w : World} {k : IntKind} {v : Value} {zs : List Int} (h : Seg w k v zs) (h0 : zs ≠ []) :
    zs.length ≤ maxLen ∧ ∃ b off cap, v = .slice (some ⟨b, off, none⟩) zs.length cap ∧ b < w.heap.size ∧ ∀ i z, zs[i]? = some z → w.cell? ⟨b, off + i, none⟩ = some (.int k z) := by
  rcases h with ⟨h, _⟩ | ⟨_, h⟩
  · exact absurd h h0
  · exact h

/-- what a call owns is such a slice -/
theorem seg_of_owns {w : World} {base : Nat} {e : TypeId} {k : IntKind} {v : Value} {zs : List Int} (h : w.ownsRow base e 1 v zs.length (zs.map (Value.int k))) (hm : zs.length ≤ maxLen) : Seg w k v zs := by
  rcases h.2 with ⟨h1, h2⟩ | ⟨g, cap, cur, h1, hb, hg, hn, hcap, hsz, ht⟩
  · exact .inl ⟨List.eq_nil_of_length_eq_zero h2, .inl h1⟩
  · rcases Nat.eq_zero_or_pos zs.length with h0 | h0
    · exact .inl ⟨List.eq_nil_of_length_eq_zero h0, .inr ⟨⟨g, 0, none⟩, cap, by rw [h1, h0]⟩⟩
    · refine .inr ⟨by intro e; rw [e] at h0; simp at h0, hm, g, 0, cap, h1, (Array.getElem?_eq_some_iff.1 hg).1, fun i z hi => ?_⟩
      subst h1
      have hi' := (List.getElem?_eq_some_iff.1 hi).1
      rw [Nat.zero_add, h.cellAt i (by omega), List.getElem?_map, hi]
      rfl

/-- 'append([]T(nil), l...)' of a slice of integers: a new slice with the same numbers -/
theorem wpList_copy_seg {P : Program} {w : World} {ops : Array Oper} {rest : List Oper} {o : Oper} {a : Act} {Q : Exit → Act → World → Prop} (hgd : o.guard = none) (s x : Operand) (t : TypeId)
    (ho : o.op = .call { callee := .builtin .append, args := #[s, x], argTypes := #[t, t] })
    (e : TypeId) (i : TypeInfo) (k : IntKind) (bytes : Nat) (ht : P.underlying t = some (.slice e)) (hi : P.info? e = some i) (hz : i.zero = some (.int k 0))
    (hsize : i.size = 1) (hby : i.bytes = bytes) (hs : a.eval s = .slice none 0 0) (v : Value) (zs : List Int) (hx : a.eval x = v) (hseg : Seg w k v zs)
    (hbytes : zs.length * bytes ≤ 140737488355328) (hm : zs.length ≤ maxLen)
    (h : ∀ v' w', Seg w' k v' zs → Below w.heap.size w w' → wpList P ops Q rest (a.put o.dst v') w') : wpList P ops Q (o :: rest) a w := by
  rcases hseg with ⟨rfl, rfl | ⟨ad, cap, rfl⟩⟩ | ⟨h0, h1, b, off, cap, rfl, hlt, hc⟩
  · exact wpList_append_own_none hgd s x t ho w.heap.size e i 1 ht hi (.slice none 0 0) 0 [] hs (World.ownsRow_nil _ _ _ _) hx (h _ _ (.inl ⟨rfl, .inl rfl⟩) (Below.refl _ _))
  · refine wpList_append_own w hgd s x t ho w.heap.size e i (.int k 0) 1 bytes ht hi hz hsize hby rfl (by omega) (.slice none 0 0) 0 [] hs (World.ownsRow_nil _ _ _ _) ad 0 cap [] hx rfl (by simp) (by simp) (by simp) (by simp) (Nat.le_refl _) ?_
    intro v' w' hown hg _
    exact h v' w' (seg_of_owns (zs := []) (by simpa using hown) (by simp)) ((Below.refl _ _).grown hg (Nat.le_refl _) (by simp [Value.ownBlock]))
  · refine wpList_append_own w hgd s x t ho w.heap.size e i (.int k 0) 1 bytes ht hi hz hsize hby rfl (by omega) (.slice none 0 0) 0 [] hs (World.ownsRow_nil _ _ _ _) ⟨b, off, none⟩ zs.length cap (zs.map (Value.int k)) hx (by simp) ?_ (by simp [Value.oneCell']) (by simpa using hm) (by simpa using hbytes) (Nat.le_refl _) ?_
    · intro j u hj
      rw [List.getElem?_map] at hj
      cases hz : zs[j]? with
      | none => rw [hz] at hj; simp at hj
      | some z =>
        rw [hz] at hj
        simp at hj
        subst hj
        rw [WideShapes.add_plain]
        exact hc j z hz
    · intro v' w' hown hg _
      exact h v' w' (seg_of_owns (by simpa using hown) hm) ((Below.refl _ _).grown hg (Nat.le_refl _) (by simp [Value.ownBlock]))

/-- a slice over a block that was just made -/
theorem seg_new (w : World) (k : IntKind) (T : TypeId) (zs : List Int) (cap : Nat) (h0 : zs ≠ []) (h1 : zs.length ≤ maxLen) :
    Seg (w.alloc (.cells (zs.map (Value.int k)).toArray T)) k (.slice (some ⟨w.heap.size, 0, none⟩) zs.length cap) zs := by
  refine .inr ⟨h0, h1, w.heap.size, 0, cap, rfl, by simp, fun i z hi => ?_⟩
  simp [hi]
end Go.Proofs.Ytonaidjdkejoeaa
