/- The table of the phases' words, off what the program's text lays. -/
import Derived.Test.YtkkpckkkcclhhaaDoorTie
import Derived.Test.YtkkpckkkcclhhaaDoorCards
import Derived.Test.YtkkpckkkcclhhaaDoorBTn
import Derived.WalkKit
import Derived.ProofKit
import Derived.LaidMore
import Derived.OpenShut
import Derived.Stop.Joined
namespace Go.Proofs.YtkkpckkkcclhhaaDoor
open Go.ChangeShapes Go.WideShapes Go.ChangeAt Go.WideMaps Go.WideElems Go.RowKit
set_option linter.unusedVariables false
theorem gWords : Tryd.prog.globalNamed "zeitnot/turn.words" = some 0 := by kernel_rfl
theorem tWords : (Tryd.prog.globals[0]?).map (·.type) = some 60 := by kernel_rfl
/-- the heap that the door's own run leaves meets the condition -/
theorem door_met (os : Os) (args : Array Value) : laidMetH Tryd.prog [("zeitnot/turn.words", Rows.laid_zeitnot_turn_words)] ((World.doorLaid Tryd.prog 400 os).forCall (fun _ _ => 0) ⟨#[], args, []⟩).memory :=
  laidMetH_of_parts3 (fuel := 8) (laidMet_of_run' 8 (by kernel_rfl) (by kernel_rfl)) (by kernel_rfl) (by kernel_rfl)
theorem words_at {xs : List (DataW Unit × List MemPlace)} {ls : List (List UInt8)} (h : xs.map (fun x => x.1) = ls.map (fun l => DataW.lit (.string l))) {i : Nat} {l : List UInt8} (hl : ls[i]? = some l) : ∃ q, xs[i]? = some (.lit (.string l), q) := by
  have e := congrArg (fun z => z[i]?) h
  simp only [List.getElem?_map, hl, Option.map_some] at e
  cases hx : xs[i]? with
  | none => rw [hx] at e; cases e
  | some x => rw [hx] at e; simp at e; exact ⟨x.2, by rw [← e]⟩
theorem of_laid {W : World} (h : laidMetH Tryd.prog [("zeitnot/turn.words", Rows.laid_zeitnot_turn_words)] W) : Wds W := by
  rw [MakeChecks.laidMetH_plain _ _ _ (by kernel_rfl)] at h
  obtain ⟨ps, ⟨g0, t0, cs0, f0, p0, q0, hg0, ht0, hv0, hd0, _, _⟩, _, _⟩ := h
  obtain rfl := Option.some.inj (gWords.symm.trans hg0)
  obtain rfl := Option.some.inj (tWords.symm.trans ht0)
  obtain ⟨xs, m1, rfl, hx1, hlen, hn, hel⟩ := DataW.trod_array Tryd.underlying60 hd0
  have hx : xs.map (fun x => x.1) = ([[115, 101, 116, 117, 112], [117, 110, 116, 97, 112], [117, 112, 107, 101, 101, 112], [100, 114, 97, 119], [109, 97, 105, 110], [97, 116, 116, 97, 99, 107], [98, 108, 111, 99, 107], [102, 105, 103, 104, 116], [100, 97, 109, 97, 103, 101], [115, 101, 99, 111, 110, 100], [101, 110, 100]] : List (List UInt8)).map (fun l => DataW.lit (.string l)) := by
    simp only [Prod.mk.injEq] at hx1
    have := hx1.1
    simp only [Rows.laid_zeitnot_turn_words, DataW.agg.injEq] at this
    rw [← this]; rfl
  have c9 : Tryd.prog.cellsOf 9 = 1 := by kernel_rfl
  have key : ∀ (i : Nat) (l : List UInt8), i < 11 → ([[115, 101, 116, 117, 112], [117, 110, 116, 97, 112], [117, 112, 107, 101, 101, 112], [100, 114, 97, 119], [109, 97, 105, 110], [97, 116, 116, 97, 99, 107], [98, 108, 111, 99, 107], [102, 105, 103, 104, 116], [100, 97, 109, 97, 103, 101], [115, 101, 99, 111, 110, 100], [101, 110, 100]] : List (List UInt8))[i]? = some l → W.cell? ⟨0, i, none⟩ = some (.string ⟨l.toArray⟩) := by
    intro i l hi hl
    obtain ⟨q, hq⟩ := words_at hx hl
    have hi2 := hel i hi
    rw [hq, c9] at hi2
    obtain ⟨s, e, e2, _⟩ := DataW.trod_string Tryd.underlying9 hi2
    have es : s = ⟨l.toArray⟩ := by
      simp at e2
      rw [e2.1]
    rw [World.var?_cell hg0 hv0, ← es]
    have e3 := congrArg List.head? e
    simpa [List.head?_take, List.head?_drop] using e3
  have hsz : 0 < W.heap.size := by
    have := key 0 _ (by decide) rfl
    by_cases hz : 0 < W.heap.size
    · exact hz
    · exfalso
      have hn : W.heap[0]? = none := Array.getElem?_eq_none (by omega)
      simp [World.cell?, hn] at this
  exact ⟨key 0 _ (by decide) rfl, key 1 _ (by decide) rfl, key 2 _ (by decide) rfl, key 3 _ (by decide) rfl, key 4 _ (by decide) rfl, key 5 _ (by decide) rfl, key 6 _ (by decide) rfl, key 7 _ (by decide) rfl, key 8 _ (by decide) rfl, key 9 _ (by decide) rfl, key 10 _ (by decide) rfl, hsz⟩
end Go.Proofs.YtkkpckkkcclhhaaDoor
