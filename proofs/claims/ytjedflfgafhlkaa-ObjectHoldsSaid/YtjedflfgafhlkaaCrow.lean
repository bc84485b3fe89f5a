/- Cards that came in: what the reading says. -/
import Derived.Test.YtjedflfgafhlkaaLo
import Derived.Test.YtjedflfgafhlkaaOp
import Derived.Deep.Slices
import Derived.Deep.Fields
import Derived.ChangeSame
import Derived.OpenShut
namespace Go.Proofs.Ytjedflfgafhlkaa
open Go.RowKit Plain Go.WideShapes Go.ChangeAt Go.ChangeShapes
set_option linter.unusedVariables false
set_option linter.unusedSimpArgs false

section
variable {H : Type} {enc : TypeId × Value → H} {w : World} {base : Nat} {spare : Nat → Bool} {held : Bool}
theorem list14 {cs : List Value} (h : cs.length = 14) : ∃ c0 c1 c2 c3 c4 c5 c6 c7 c8 c9 c10 c11 c12 c13, cs = [c0, c1, c2, c3, c4, c5, c6, c7, c8, c9, c10, c11, c12, c13] := by
  match cs, h with
  | [c0, c1, c2, c3, c4, c5, c6, c7, c8, c9, c10, c11, c12, c13], _ => exact ⟨c0, c1, c2, c3, c4, c5, c6, c7, c8, c9, c10, c11, c12, c13, rfl⟩
theorem one_slice {n : Nat} {t e : TypeId} {c : Value} {x : DataW H × List MemPlace} (ht : Try.prog.underlying t = some (.slice e)) (h : DataW.trod enc Try.prog w base spare held n t [c] = some x) : ∃ a l k, c = .slice a l k := by
  rcases DataW.trod_slice ht h with ⟨e, _⟩ | ⟨a, l, k, _, _, _, _, e, _⟩
  · exact ⟨none, 0, 0, by simpa using e⟩
  · exact ⟨some a, l, k, by simpa using e⟩
theorem one_int {n : Nat} {t : TypeId} {c : Value} {x : DataW H × List MemPlace} (ht : Try.prog.underlying t = some (.int .i64)) (h : DataW.trod enc Try.prog w base spare held n t [c] = some x) : ∃ z, c = .int .i64 z ∧ I z := by
  obtain ⟨z, e, _, hw⟩ := DataW.trod_int ht h
  exact ⟨z, by simpa using e, wf_I hw⟩
set_option maxHeartbeats 4000000 in
/-- the cells of a card -/
theorem open_cd {n : Nat} {cs : List Value} {x : DataW H × List MemPlace} (h : DataW.trod enc Try.prog w base spare held n 63 cs = some x) : ∃ c : Cd, cs = c.cells ∧ I c.pw ∧ I c.tg := by
  obtain ⟨ys, m, _, _, hl, hyl, hfl⟩ := DataW.trod_struct Try.underlying63 h
  have hC : Try.prog.cellsOf 63 = 14 := by kernel_rfl
  have k9 : Try.prog.cellsOf 9 = 1 := by kernel_rfl
  have k53 : Try.prog.cellsOf 53 = 1 := by kernel_rfl
  have k58 : Try.prog.cellsOf 58 = 5 := by kernel_rfl
  have k59 : Try.prog.cellsOf 59 = 1 := by kernel_rfl
  have k3 : Try.prog.cellsOf 3 = 1 := by kernel_rfl
  have k54 : Try.prog.cellsOf 54 = 1 := by kernel_rfl
  have k60 : Try.prog.cellsOf 60 = 1 := by kernel_rfl
  have k61 : Try.prog.cellsOf 61 = 1 := by kernel_rfl
  have k56 : Try.prog.cellsOf 56 = 4 := by kernel_rfl
  obtain ⟨c0, c1, c2, c3, c4, c5, c6, c7, c8, c9, c10, c11, c12, c13, rfl⟩ := list14 (hl.trans hC)
  have hyl2 : ys.length = 10 := hyl
  have hs : ∀ i, i < 10 → ∃ y, ys[i]? = some y := fun i hi => ⟨ys[i], List.getElem?_eq_getElem (by omega)⟩
  obtain ⟨y0, hy0⟩ := hs 0 (by omega)
  have g0 := (hfl 0 _ rfl).trans hy0
  simp [k9] at g0
  obtain ⟨s0, e0, _, _⟩ := DataW.trod_string Try.underlying9 g0
  simp at e0
  subst e0
  obtain ⟨y1, hy1⟩ := hs 1 (by omega)
  have g1 := (hfl 1 _ rfl).trans hy1
  simp [k53] at g1
  obtain ⟨z1, rfl, i1⟩ := one_int Try.underlying53 g1
  obtain ⟨y2, hy2⟩ := hs 2 (by omega)
  have g2 := (hfl 2 _ rfl).trans hy2
  simp [k58] at g2
  obtain ⟨zs, m2, _, _, _, hzl, hzf⟩ := DataW.trod_struct Try.underlying58 g2
  have hzl2 : zs.length = 2 := hzl
  have u0 := (hzf 0 _ rfl).trans (List.getElem?_eq_getElem (by omega))
  have u1 := (hzf 1 _ rfl).trans (List.getElem?_eq_getElem (by omega))
  simp [k56] at u0
  simp [k3] at u1
  obtain ⟨z6, rfl, i6⟩ := one_int Try.underlying3 u1
  obtain ⟨xs, m3, _, _, _, hxl, hxf⟩ := DataW.trod_array Try.underlying56 u0
  have v0 := (hxf 0 (by omega)).trans (List.getElem?_eq_getElem (by omega))
  simp [k3] at v0
  obtain ⟨z2, rfl, i2⟩ := one_int Try.underlying3 v0
  have v1 := (hxf 1 (by omega)).trans (List.getElem?_eq_getElem (by omega))
  simp [k3] at v1
  obtain ⟨z3, rfl, i3⟩ := one_int Try.underlying3 v1
  have v2 := (hxf 2 (by omega)).trans (List.getElem?_eq_getElem (by omega))
  simp [k3] at v2
  obtain ⟨z4, rfl, i4⟩ := one_int Try.underlying3 v2
  have v3 := (hxf 3 (by omega)).trans (List.getElem?_eq_getElem (by omega))
  simp [k3] at v3
  obtain ⟨z5, rfl, i5⟩ := one_int Try.underlying3 v3
  obtain ⟨y3, hy3⟩ := hs 3 (by omega)
  have g3 := (hfl 3 _ rfl).trans hy3
  simp [k59] at g3
  obtain ⟨z7, rfl, i7⟩ := one_int Try.underlying59 g3
  obtain ⟨y4, hy4⟩ := hs 4 (by omega)
  have g4 := (hfl 4 _ rfl).trans hy4
  simp [k3] at g4
  obtain ⟨z8, rfl, i8⟩ := one_int Try.underlying3 g4
  obtain ⟨y5, hy5⟩ := hs 5 (by omega)
  have g5 := (hfl 5 _ rfl).trans hy5
  simp [k3] at g5
  obtain ⟨z9, rfl, i9⟩ := one_int Try.underlying3 g5
  obtain ⟨y6, hy6⟩ := hs 6 (by omega)
  have g6 := (hfl 6 _ rfl).trans hy6
  simp [k54] at g6
  obtain ⟨z10, rfl, i10⟩ := one_int Try.underlying54 g6
  obtain ⟨y7, hy7⟩ := hs 7 (by omega)
  have g7 := (hfl 7 _ rfl).trans hy7
  simp [k60] at g7
  obtain ⟨a11, l11, q11, rfl⟩ := one_slice Try.underlying60 g7
  obtain ⟨y8, hy8⟩ := hs 8 (by omega)
  have g8 := (hfl 8 _ rfl).trans hy8
  simp [k61] at g8
  obtain ⟨a12, l12, q12, rfl⟩ := one_slice Try.underlying61 g8
  obtain ⟨y9, hy9⟩ := hs 9 (by omega)
  have g9 := (hfl 9 _ rfl).trans hy9
  simp [k3] at g9
  obtain ⟨z13, rfl, i13⟩ := one_int Try.underlying3 g9
  exact ⟨⟨s0, z1, z2, z3, z4, z5, z6, z7, z8, z9, z10, a11, l11, q11, a12, l12, q12, z13⟩, rfl, i8, i9⟩
theorem choose_list {α : Type} {Pr : Nat → α → Prop} : ∀ n : Nat, (∀ i, i < n → ∃ r, Pr i r) → ∃ rows : List α, rows.length = n ∧ ∀ i r, rows[i]? = some r → Pr i r
  | 0, _ => ⟨[], rfl, fun i r h => by simp at h⟩
  | n + 1, h => by
    obtain ⟨rows, hl, hr⟩ := choose_list n (fun i hi => h i (by omega))
    obtain ⟨r, hr2⟩ := h n (by omega)
    refine ⟨rows ++ [r], by simp [hl], fun i x hx => ?_⟩
    rcases Nat.lt_or_ge i n with h1 | h1
    · rw [List.getElem?_append_left (by omega)] at hx
      exact hr i x hx
    · have hi : i = n := by
        have := (List.getElem?_eq_some_iff.1 hx).1
        simp at this
        omega
      subst hi
      rw [List.getElem?_append_right (by omega)] at hx
      simp [hl] at hx
      subst hx
      exact hr2
theorem block_of_cell {w : World} {p : Addr} {v : Value} (h : w.cell? p = some v) : p.block < w.heap.size := by
  rcases Nat.lt_or_ge p.block w.heap.size with h1 | h1
  · exact h1
  · have h2 : w.heap[p.block]? = none := Array.getElem?_eq_none h1
    simp [World.cell?, h2] at h
/-- what the reading of a slice of cards says -/
theorem open_crow {a : Option Addr} {len cap : Nat} {d : DataW H} {p : List MemPlace} (h : DataW.Trod enc Try.prog w base spare held 38 (.slice a len cap) d p) : ∃ cs : List Cd, CRow w (.slice a len cap) cs ∧ cs.length = len ∧ CI cs := by
  obtain ⟨fuel, hf⟩ := h
  have hC : Try.prog.cellsOf 63 = 14 := by kernel_rfl
  rcases Go.Deep.open_slice Try.underlying38 hf with ⟨hcs, _⟩ | ⟨x, l, c, m, n, D, Pl, hcs, _, hl, hm, hmm, _, hi⟩
  · simp [Value.cells] at hcs
    obtain ⟨rfl, rfl, rfl⟩ := hcs
    exact ⟨[], .inl ⟨rfl, none, 0, rfl⟩, rfl, fun c hc => by cases hc⟩
  · simp [Value.cells] at hcs
    obtain ⟨rfl, rfl, rfl⟩ := hcs
    have hlm : len ≤ m := by rw [hmm]; split <;> omega
    have key : ∀ i, i < len → ∃ c : Cd, (I c.pw ∧ I c.tg) ∧ ∀ j u, c.cells[j]? = some u → w.cell? (x.add (i * 14 + j)) = some u := by
      intro i hil
      obtain ⟨cs', hc, ht'⟩ := hi i (by omega)
      rw [hC] at hc
      obtain ⟨c, rfl, h1⟩ := open_cd ht'
      obtain ⟨_, hcl, hat⟩ := World.cells?_some hc
      refine ⟨c, h1, fun j u hj => ?_⟩
      have hj14 : j < 14 := (List.getElem?_eq_some_iff.1 hj).1
      rw [← Go.Deep.add_add, hat j hj14, hj]
    obtain ⟨cs, hrl, hr⟩ := choose_list len key
    refine ⟨cs, ?_, hrl, fun c hc => ?_⟩
    · rcases Nat.eq_zero_or_pos len with h0 | h0
      · subst h0
        exact .inl ⟨List.eq_nil_of_length_eq_zero hrl, _, _, rfl⟩
      · have hne : cs ≠ [] := by intro e; rw [e] at hrl; simp at hrl; omega
        have h00 : cs[0]? = some (cs[0]'(by omega)) := List.getElem?_eq_getElem (by omega)
        have hc0 := (hr 0 _ h00).2 0 _ rfl
        obtain ⟨b, off, spot⟩ := x
        have hspot : spot = none := by simpa [Addr.add] using World.cell?_spot hc0
        subst hspot
        have hlt : b < w.heap.size := by simpa [Addr.add] using block_of_cell hc0
        refine .inr ⟨hne, by omega, b, off, cap, by rw [hrl], hlt, fun i r hir j u hj => ?_⟩
        have := (hr i r hir).2 j u hj
        rwa [Go.WideShapes.add_plain] at this
    · obtain ⟨i, hi⟩ := List.getElem?_of_mem hc
      exact (hr i c hi).1
end
end Go.Proofs.Ytjedflfgafhlkaa
