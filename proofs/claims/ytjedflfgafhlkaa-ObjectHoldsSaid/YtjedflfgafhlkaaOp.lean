/- What the reading of an object says. -/
import Derived.Test.YtjedflfgafhlkaaWk
import Derived.OpenShut
import Derived.WideShapes
import Derived.ChangeArms
namespace Go.Proofs.Ytjedflfgafhlkaa
open Go.RowKit Plain Go.WideShapes Go.ChangeAt Go.ChangeShapes
set_option linter.unusedVariables false
set_option linter.unusedSimpArgs false

theorem array12 {cs : Array Value} (h : cs.size = 12) : ∃ c0 c1 c2 c3 c4 c5 c6 c7 c8 c9 c10 c11, cs = #[c0, c1, c2, c3, c4, c5, c6, c7, c8, c9, c10, c11] := by
  obtain ⟨l⟩ := cs
  match l, h with
  | [c0, c1, c2, c3, c4, c5, c6, c7, c8, c9, c10, c11], _ => exact ⟨c0, c1, c2, c3, c4, c5, c6, c7, c8, c9, c10, c11, rfl⟩
theorem wf_I {z : Int} (h : (Lit.int .i64 z).wf = true) : I z := by
  unfold I
  simpa [Lit.wf, IntKind.min, IntKind.max, IntKind.signed, IntKind.bits] using h
section
variable {H : Type} {enc : TypeId × Value → H} {w : World} {base : Nat} {spare : Nat → Bool} {held : Bool}
/-- what the reading of an object says -/
theorem open_ob {r : Reach} {b0 : Nat} {v : Value} {d : DataW H} {p : List MemPlace} (hv : Value.okWide Try.prog w r b0 23 v) (h : DataW.Trod enc Try.prog w base spare held 23 v d p) : ∃ o : Ob, v = .agg #[.int .i64 o.id, .int .i64 o.cd, .int .i64 o.ow, .int .i64 o.po, .int .i64 o.tg, .int .i64 o.da, .int .i64 o.co, .int .i64 o.pp, .int .i64 o.pt, .bool o.ta, .bool o.si, .bool o.dm] ∧ o.I := by
  obtain ⟨cs, rfl, hsz⟩ := okWide_struct Try.underlying23 hv
  have hC : Try.prog.cellsOf 23 = 12 := by kernel_rfl
  have k3 : Try.prog.cellsOf 3 = 1 := by kernel_rfl
  have k4 : Try.prog.cellsOf 4 = 1 := by kernel_rfl
  obtain ⟨c0, c1, c2, c3, c4, c5, c6, c7, c8, c9, c10, c11, rfl⟩ := array12 (hsz.trans hC)
  obtain ⟨fuel, hf⟩ := h
  obtain ⟨ys, n, _, _, _, hyl, hfl⟩ := DataW.trod_struct Try.underlying23 hf
  have hyl2 : ys.length = 12 := hyl
  have hs : ∀ i, i < 12 → ∃ y, ys[i]? = some y := fun i hi => ⟨ys[i], List.getElem?_eq_getElem (by omega)⟩
  obtain ⟨y0, hy0⟩ := hs 0 (by omega)
  have g0 := (hfl 0 _ rfl).trans hy0
  simp [Value.cells, k3, k4] at g0
  obtain ⟨a0, e0, _, w0⟩ := DataW.trod_int Try.underlying3 g0
  simp at e0
  subst e0
  obtain ⟨y1, hy1⟩ := hs 1 (by omega)
  have g1 := (hfl 1 _ rfl).trans hy1
  simp [Value.cells, k3, k4] at g1
  obtain ⟨a1, e1, _, w1⟩ := DataW.trod_int Try.underlying3 g1
  simp at e1
  subst e1
  obtain ⟨y2, hy2⟩ := hs 2 (by omega)
  have g2 := (hfl 2 _ rfl).trans hy2
  simp [Value.cells, k3, k4] at g2
  obtain ⟨a2, e2, _, w2⟩ := DataW.trod_int Try.underlying3 g2
  simp at e2
  subst e2
  obtain ⟨y3, hy3⟩ := hs 3 (by omega)
  have g3 := (hfl 3 _ rfl).trans hy3
  simp [Value.cells, k3, k4] at g3
  obtain ⟨a3, e3, _, w3⟩ := DataW.trod_int Try.underlying3 g3
  simp at e3
  subst e3
  obtain ⟨y4, hy4⟩ := hs 4 (by omega)
  have g4 := (hfl 4 _ rfl).trans hy4
  simp [Value.cells, k3, k4] at g4
  obtain ⟨a4, e4, _, w4⟩ := DataW.trod_int Try.underlying3 g4
  simp at e4
  subst e4
  obtain ⟨y5, hy5⟩ := hs 5 (by omega)
  have g5 := (hfl 5 _ rfl).trans hy5
  simp [Value.cells, k3, k4] at g5
  obtain ⟨a5, e5, _, w5⟩ := DataW.trod_int Try.underlying3 g5
  simp at e5
  subst e5
  obtain ⟨y6, hy6⟩ := hs 6 (by omega)
  have g6 := (hfl 6 _ rfl).trans hy6
  simp [Value.cells, k3, k4] at g6
  obtain ⟨a6, e6, _, w6⟩ := DataW.trod_int Try.underlying3 g6
  simp at e6
  subst e6
  obtain ⟨y7, hy7⟩ := hs 7 (by omega)
  have g7 := (hfl 7 _ rfl).trans hy7
  simp [Value.cells, k3, k4] at g7
  obtain ⟨a7, e7, _, w7⟩ := DataW.trod_int Try.underlying3 g7
  simp at e7
  subst e7
  obtain ⟨y8, hy8⟩ := hs 8 (by omega)
  have g8 := (hfl 8 _ rfl).trans hy8
  simp [Value.cells, k3, k4] at g8
  obtain ⟨a8, e8, _, w8⟩ := DataW.trod_int Try.underlying3 g8
  simp at e8
  subst e8
  obtain ⟨y9, hy9⟩ := hs 9 (by omega)
  have g9 := (hfl 9 _ rfl).trans hy9
  simp [Value.cells, k3, k4] at g9
  obtain ⟨a9, e9, _⟩ := DataW.trod_bool Try.underlying4 g9
  simp at e9
  subst e9
  obtain ⟨y10, hy10⟩ := hs 10 (by omega)
  have g10 := (hfl 10 _ rfl).trans hy10
  simp [Value.cells, k3, k4] at g10
  obtain ⟨a10, e10, _⟩ := DataW.trod_bool Try.underlying4 g10
  simp at e10
  subst e10
  obtain ⟨y11, hy11⟩ := hs 11 (by omega)
  have g11 := (hfl 11 _ rfl).trans hy11
  simp [Value.cells, k3, k4] at g11
  obtain ⟨a11, e11, _⟩ := DataW.trod_bool Try.underlying4 g11
  simp at e11
  subst e11
  exact ⟨⟨a0, a1, a2, a3, a4, a5, a6, a7, a8, a9, a10, a11⟩, rfl, wf_I w0, wf_I w1, wf_I w2, wf_I w3, wf_I w4, wf_I w5, wf_I w6, wf_I w7, wf_I w8⟩
end
end Go.Proofs.Ytjedflfgafhlkaa
