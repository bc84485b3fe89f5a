/-
  No cell of these rows narrows 'for every input' (looked for: loops, veiled, ifaces, maps, wideKeys, modest, calm, conditions, laid).
  DERIVED. THE GIVEN ROWS OF THIS SEAT. 5 by the template 'for every input the law returns true; each argument reads behind the call as it read before'; 0 by the template 'total and deterministic' (their statements: YtnabpcgpheakfaaTotals.lean).
  GIVEN WITH THE SEED: the statements are not yours to turn. If you find one false, say at which input.
  Laid BY PROGRAM, IN A SANDBOX (cutbox-rows.mjs): the forced cells as the released guide's own fill.sh prints them over the translation b1edb67e680eb50d… (all of the seat's roots in one cut). By AI agents, Wed Nov 11 2026. No macro, syntax, notation, axiom, sorry.
-/
import Derived.Test.YtnabpcgpheakfaaChecked
import GoSem.Claim
import GoSem.ClaimJoined
import GoSem.ClaimMapViews
import Derived.JoinedTies
import Derived.KernelRfl
namespace Go.Proofs.Ytnabpcgpheakfaa
/- THE CELL 'sum', in the pinned program and in every row, IS THE sha256 OF THE DUMP (.gsa) THAT YtnabpcgpheakfaaProg.lean LOADS. Nothing in Lean hashes anything: it is a label: what it is worth is what the hold of that sum in a sandbox is worth. -/
noncomputable def Try.pinned : Pinned := { name := "ytnabpcgpheakfaa", sum := "b1edb67e680eb50d4dc3b80b2e3d8f456799f98a82e87190170149dccd39da10", checked := Try.checked }
namespace Rows
def none {H : Type} : Left H := { results := [], args := [] }

/-- 'zeitnotlaw40.RatingExpects': WHATEVER THE INPUT: true; the input reads as it did. -/
def ratingExpectsSpec : ChangeSpec := { name := "ratingExpects", fn := fun _ => fun
  | [d1, d2] => { results := [.lit (.bool true)], args := [d1, d2] }
  | _ => none }
def ratingExpectsRow : OpenClaim := { program := "ytnabpcgpheakfaa", sum := "b1edb67e680eb50d4dc3b80b2e3d8f456799f98a82e87190170149dccd39da10", func := "zeitnot/zeitnotlaw40.RatingExpects", spec := "ratingExpects", apart := false }
def RatingExpectsSaid : Prop := ratingExpectsRow.holds Try.pinned (OpenSpec.ofChange ratingExpectsSpec)

/-- ITS FALSE NEIGHBOUR: 'it returns false'. Refute it at one input. -/
def ratingExpectsWrong : ChangeSpec := { name := "ratingExpects", fn := fun _ => fun
  | [d1, d2] => { results := [.lit (.bool false)], args := [d1, d2] }
  | _ => none }
def RatingExpectsWrongFalsely : Prop := ratingExpectsRow.holds Try.pinned (OpenSpec.ofChange ratingExpectsWrong)

/-- 'zeitnotlaw40.RatingMatches': WHATEVER THE INPUT: true; the input reads as it did. -/
def ratingMatchesSpec : ChangeSpec := { name := "ratingMatches", fn := fun _ => fun
  | [d1, d2, d3, d4] => { results := [.lit (.bool true)], args := [d1, d2, d3, d4] }
  | _ => none }
def ratingMatchesRow : OpenClaim := { program := "ytnabpcgpheakfaa", sum := "b1edb67e680eb50d4dc3b80b2e3d8f456799f98a82e87190170149dccd39da10", func := "zeitnot/zeitnotlaw40.RatingMatches", spec := "ratingMatches", apart := false }
def RatingMatchesSaid : Prop := ratingMatchesRow.holds Try.pinned (OpenSpec.ofChange ratingMatchesSpec)

/-- ITS FALSE NEIGHBOUR: 'it returns false'. Refute it at one input. -/
def ratingMatchesWrong : ChangeSpec := { name := "ratingMatches", fn := fun _ => fun
  | [d1, d2, d3, d4] => { results := [.lit (.bool false)], args := [d1, d2, d3, d4] }
  | _ => none }
def RatingMatchesWrongFalsely : Prop := ratingMatchesRow.holds Try.pinned (OpenSpec.ofChange ratingMatchesWrong)

/-- 'zeitnotlaw40.RatingHolds': WHATEVER THE INPUT: true; the input reads as it did. -/
def ratingHoldsSpec : ChangeSpec := { name := "ratingHolds", fn := fun _ => fun
  | [d1, d2, d3, d4, d5] => { results := [.lit (.bool true)], args := [d1, d2, d3, d4, d5] }
  | _ => none }
def ratingHoldsRow : OpenClaim := { program := "ytnabpcgpheakfaa", sum := "b1edb67e680eb50d4dc3b80b2e3d8f456799f98a82e87190170149dccd39da10", func := "zeitnot/zeitnotlaw40.RatingHolds", spec := "ratingHolds", apart := false }
def RatingHoldsSaid : Prop := ratingHoldsRow.holds Try.pinned (OpenSpec.ofChange ratingHoldsSpec)

/-- ITS FALSE NEIGHBOUR: 'it returns false'. Refute it at one input. -/
def ratingHoldsWrong : ChangeSpec := { name := "ratingHolds", fn := fun _ => fun
  | [d1, d2, d3, d4, d5] => { results := [.lit (.bool false)], args := [d1, d2, d3, d4, d5] }
  | _ => none }
def RatingHoldsWrongFalsely : Prop := ratingHoldsRow.holds Try.pinned (OpenSpec.ofChange ratingHoldsWrong)

/-- 'zeitnotlaw40.RatingSeries': WHATEVER THE INPUT: true; the input reads as it did. -/
def ratingSeriesSpec : ChangeSpec := { name := "ratingSeries", fn := fun _ => fun
  | [d1, d2, d3, d4] => { results := [.lit (.bool true)], args := [d1, d2, d3, d4] }
  | _ => none }
def ratingSeriesRow : OpenClaim := { program := "ytnabpcgpheakfaa", sum := "b1edb67e680eb50d4dc3b80b2e3d8f456799f98a82e87190170149dccd39da10", func := "zeitnot/zeitnotlaw40.RatingSeries", spec := "ratingSeries", unfollowed := true, recurses := true, apart := false }
def RatingSeriesSaid : Prop := ratingSeriesRow.holds Try.pinned (OpenSpec.ofChange ratingSeriesSpec)

/-- ITS FALSE NEIGHBOUR: 'it returns false'. Refute it at one input. -/
def ratingSeriesWrong : ChangeSpec := { name := "ratingSeries", fn := fun _ => fun
  | [d1, d2, d3, d4] => { results := [.lit (.bool false)], args := [d1, d2, d3, d4] }
  | _ => none }
def RatingSeriesWrongFalsely : Prop := ratingSeriesRow.holds Try.pinned (OpenSpec.ofChange ratingSeriesWrong)

/-- 'zeitnotlaw40.RatingFulls': WHATEVER THE INPUT: true; the input reads as it did. -/
def ratingFullsSpec : ChangeSpec := { name := "ratingFulls", fn := fun _ => fun
  | [d1, d2] => { results := [.lit (.bool true)], args := [d1, d2] }
  | _ => none }
def ratingFullsRow : OpenClaim := { program := "ytnabpcgpheakfaa", sum := "b1edb67e680eb50d4dc3b80b2e3d8f456799f98a82e87190170149dccd39da10", func := "zeitnot/zeitnotlaw40.RatingFulls", spec := "ratingFulls", unfollowed := true, recurses := true, apart := false }
def RatingFullsSaid : Prop := ratingFullsRow.holds Try.pinned (OpenSpec.ofChange ratingFullsSpec)

/-- ITS FALSE NEIGHBOUR: 'it returns false'. Refute it at one input. -/
def ratingFullsWrong : ChangeSpec := { name := "ratingFulls", fn := fun _ => fun
  | [d1, d2] => { results := [.lit (.bool false)], args := [d1, d2] }
  | _ => none }
def RatingFullsWrongFalsely : Prop := ratingFullsRow.holds Try.pinned (OpenSpec.ofChange ratingFullsWrong)

/- THE SECOND FORM. 'bulk': how many values and letters a reading holds, each counted each time it is reached (what is shared counts as often as it is met; a slice's spare places count too). A statement '..UptoSaid' is the law's where the arguments, and the package variables that the reading takes, are together of bulk at most 1048576: NARROWER than '..Said'. Prove '..Said' where nothing that the law and all that it calls make is longer than what came in: it says more and counts as full. Else prove '..UptoSaid'. A law counts once. -/
mutual
def uptoBulk {H : Type} : DataW H → Nat
  | .lit (.string bytes) => bytes.length + 1
  | .lit _ => 1
  | .nil => 1
  | .ptr d => uptoBulk d + 1
  | .slice elems spare => uptoBulkAll elems + uptoBulkAll spare + 1
  | .agg parts => uptoBulkAll parts + 1
  | .iface _ d => uptoBulk d + 1
  | .map entries => uptoBulkEntries entries + 1
  | .held _ => 1
def uptoBulkAll {H : Type} : List (DataW H) → Nat
  | [] => 0
  | d :: r => uptoBulk d + uptoBulkAll r
def uptoBulkEntries {H : Type} : List (Lit × DataW H) → Nat
  | [] => 0
  | x :: r => uptoBulkEntry x + uptoBulkEntries r
def uptoBulkEntry {H : Type} : Lit × DataW H → Nat
  | (.string bytes, d) => bytes.length + uptoBulk d + 1
  | (_, d) => uptoBulk d + 1
 end
def uptoSmall : (H : Type) → List (DataW H) → Bool := fun _ ds => decide (uptoBulkAll ds ≤ 1048576)
def OpenSpec.upto (s : _root_.Go.ChangeSpec) : _root_.Go.OpenSpec := { _root_.Go.OpenSpec.ofChange s with cond := some uptoSmall }

/-- 'zeitnotlaw40.RatingExpects', WHERE WHAT IT READS IS OF BULK AT MOST 1048576: true; the input reads as it did. -/
def ratingExpectsUptoRow : OpenClaim := { program := "ytnabpcgpheakfaa", sum := "b1edb67e680eb50d4dc3b80b2e3d8f456799f98a82e87190170149dccd39da10", func := "zeitnot/zeitnotlaw40.RatingExpects", spec := "ratingExpects", apart := false, narrowed := true }
def RatingExpectsUptoSaid : Prop := ratingExpectsUptoRow.holds Try.pinned (OpenSpec.upto ratingExpectsSpec)

/-- 'zeitnotlaw40.RatingMatches', WHERE WHAT IT READS IS OF BULK AT MOST 1048576: true; the input reads as it did. -/
def ratingMatchesUptoRow : OpenClaim := { program := "ytnabpcgpheakfaa", sum := "b1edb67e680eb50d4dc3b80b2e3d8f456799f98a82e87190170149dccd39da10", func := "zeitnot/zeitnotlaw40.RatingMatches", spec := "ratingMatches", apart := false, narrowed := true }
def RatingMatchesUptoSaid : Prop := ratingMatchesUptoRow.holds Try.pinned (OpenSpec.upto ratingMatchesSpec)

/-- 'zeitnotlaw40.RatingHolds', WHERE WHAT IT READS IS OF BULK AT MOST 1048576: true; the input reads as it did. -/
def ratingHoldsUptoRow : OpenClaim := { program := "ytnabpcgpheakfaa", sum := "b1edb67e680eb50d4dc3b80b2e3d8f456799f98a82e87190170149dccd39da10", func := "zeitnot/zeitnotlaw40.RatingHolds", spec := "ratingHolds", apart := false, narrowed := true }
def RatingHoldsUptoSaid : Prop := ratingHoldsUptoRow.holds Try.pinned (OpenSpec.upto ratingHoldsSpec)

/-- 'zeitnotlaw40.RatingSeries', WHERE WHAT IT READS IS OF BULK AT MOST 1048576: true; the input reads as it did. -/
def ratingSeriesUptoRow : OpenClaim := { program := "ytnabpcgpheakfaa", sum := "b1edb67e680eb50d4dc3b80b2e3d8f456799f98a82e87190170149dccd39da10", func := "zeitnot/zeitnotlaw40.RatingSeries", spec := "ratingSeries", unfollowed := true, recurses := true, apart := false, narrowed := true }
def RatingSeriesUptoSaid : Prop := ratingSeriesUptoRow.holds Try.pinned (OpenSpec.upto ratingSeriesSpec)

/-- 'zeitnotlaw40.RatingFulls', WHERE WHAT IT READS IS OF BULK AT MOST 1048576: true; the input reads as it did. -/
def ratingFullsUptoRow : OpenClaim := { program := "ytnabpcgpheakfaa", sum := "b1edb67e680eb50d4dc3b80b2e3d8f456799f98a82e87190170149dccd39da10", func := "zeitnot/zeitnotlaw40.RatingFulls", spec := "ratingFulls", unfollowed := true, recurses := true, apart := false, narrowed := true }
def RatingFullsUptoSaid : Prop := ratingFullsUptoRow.holds Try.pinned (OpenSpec.upto ratingFullsSpec)

end Rows
end Go.Proofs.Ytnabpcgpheakfaa
