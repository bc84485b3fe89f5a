/-
  No cell of these rows narrows 'for every input' (looked for: loops, veiled, ifaces, maps, wideKeys, modest, calm, conditions, laid).
  DERIVED. THE GIVEN ROWS OF THIS SEAT. 5 by the template 'for every input the law returns true; each argument reads behind the call as it read before'; 0 by the template 'total and deterministic' (their statements: YtobkgdhniibopaaTotals.lean).
  GIVEN WITH THE SEED: the statements are not yours to turn. If you find one false, say at which input.
  Laid BY PROGRAM, IN A SANDBOX (cutbox-rows.mjs): the forced cells as the released guide's own fill.sh prints them over the translation 5348b66942f60972… (all of the seat's roots in one cut). By AI agents, Wed Nov 11 2026. No macro, syntax, notation, axiom, sorry.
-/
import Derived.Test.YtobkgdhniibopaaChecked
import GoSem.Claim
import GoSem.ClaimJoined
import GoSem.ClaimMapViews
import Derived.JoinedTies
import Derived.KernelRfl
namespace Go.Proofs.Ytobkgdhniibopaa
/- THE CELL 'sum', in the pinned program and in every row, IS THE sha256 OF THE DUMP (.gsa) THAT YtobkgdhniibopaaProg.lean LOADS. Nothing in Lean hashes anything: it is a label: what it is worth is what the hold of that sum in a sandbox is worth. -/
noncomputable def Try.pinned : Pinned := { name := "ytobkgdhniibopaa", sum := "5348b66942f60972395f11a0e88905c72eefb7d3b76aad572f3762b8d08bf572", checked := Try.checked }
namespace Rows
def none {H : Type} : Left H := { results := [], args := [] }

/-- 'zeitnotlaw28.StrikeValid': WHATEVER THE INPUT: true; the input reads as it did. -/
def strikeValidSpec : ChangeSpec := { name := "strikeValid", fn := fun _ => fun
  | [d1, d2] => { results := [.lit (.bool true)], args := [d1, d2] }
  | _ => none }
def strikeValidRow : OpenClaim := { program := "ytobkgdhniibopaa", sum := "5348b66942f60972395f11a0e88905c72eefb7d3b76aad572f3762b8d08bf572", func := "zeitnot/zeitnotlaw28.StrikeValid", spec := "strikeValid", apart := false }
def StrikeValidSaid : Prop := strikeValidRow.holds Try.pinned (OpenSpec.ofChange strikeValidSpec)

/-- ITS FALSE NEIGHBOUR: 'it returns false'. Refute it at one input. -/
def strikeValidWrong : ChangeSpec := { name := "strikeValid", fn := fun _ => fun
  | [d1, d2] => { results := [.lit (.bool false)], args := [d1, d2] }
  | _ => none }
def StrikeValidWrongFalsely : Prop := strikeValidRow.holds Try.pinned (OpenSpec.ofChange strikeValidWrong)

/-- 'zeitnotlaw28.StrikeGraces': WHATEVER THE INPUT: true; the input reads as it did. -/
def strikeGracesSpec : ChangeSpec := { name := "strikeGraces", fn := fun _ => fun
  | [d1, d2, d3, d4] => { results := [.lit (.bool true)], args := [d1, d2, d3, d4] }
  | _ => none }
def strikeGracesRow : OpenClaim := { program := "ytobkgdhniibopaa", sum := "5348b66942f60972395f11a0e88905c72eefb7d3b76aad572f3762b8d08bf572", func := "zeitnot/zeitnotlaw28.StrikeGraces", spec := "strikeGraces", unfollowed := true, recurses := true, apart := false }
def StrikeGracesSaid : Prop := strikeGracesRow.holds Try.pinned (OpenSpec.ofChange strikeGracesSpec)

/-- ITS FALSE NEIGHBOUR: 'it returns false'. Refute it at one input. -/
def strikeGracesWrong : ChangeSpec := { name := "strikeGraces", fn := fun _ => fun
  | [d1, d2, d3, d4] => { results := [.lit (.bool false)], args := [d1, d2, d3, d4] }
  | _ => none }
def StrikeGracesWrongFalsely : Prop := strikeGracesRow.holds Try.pinned (OpenSpec.ofChange strikeGracesWrong)

/-- 'zeitnotlaw28.StrikeHolds': WHATEVER THE INPUT: true; the input reads as it did. -/
def strikeHoldsSpec : ChangeSpec := { name := "strikeHolds", fn := fun _ => fun
  | [d1, d2, d3] => { results := [.lit (.bool true)], args := [d1, d2, d3] }
  | _ => none }
def strikeHoldsRow : OpenClaim := { program := "ytobkgdhniibopaa", sum := "5348b66942f60972395f11a0e88905c72eefb7d3b76aad572f3762b8d08bf572", func := "zeitnot/zeitnotlaw28.StrikeHolds", spec := "strikeHolds", apart := false }
def StrikeHoldsSaid : Prop := strikeHoldsRow.holds Try.pinned (OpenSpec.ofChange strikeHoldsSpec)

/-- ITS FALSE NEIGHBOUR: 'it returns false'. Refute it at one input. -/
def strikeHoldsWrong : ChangeSpec := { name := "strikeHolds", fn := fun _ => fun
  | [d1, d2, d3] => { results := [.lit (.bool false)], args := [d1, d2, d3] }
  | _ => none }
def StrikeHoldsWrongFalsely : Prop := strikeHoldsRow.holds Try.pinned (OpenSpec.ofChange strikeHoldsWrong)

/-- 'zeitnotlaw28.StrikePlays': WHATEVER THE INPUT: true; the input reads as it did. -/
def strikePlaysSpec : ChangeSpec := { name := "strikePlays", fn := fun _ => fun
  | [d1, d2, d3] => { results := [.lit (.bool true)], args := [d1, d2, d3] }
  | _ => none }
def strikePlaysRow : OpenClaim := { program := "ytobkgdhniibopaa", sum := "5348b66942f60972395f11a0e88905c72eefb7d3b76aad572f3762b8d08bf572", func := "zeitnot/zeitnotlaw28.StrikePlays", spec := "strikePlays", apart := false }
def StrikePlaysSaid : Prop := strikePlaysRow.holds Try.pinned (OpenSpec.ofChange strikePlaysSpec)

/-- ITS FALSE NEIGHBOUR: 'it returns false'. Refute it at one input. -/
def strikePlaysWrong : ChangeSpec := { name := "strikePlays", fn := fun _ => fun
  | [d1, d2, d3] => { results := [.lit (.bool false)], args := [d1, d2, d3] }
  | _ => none }
def StrikePlaysWrongFalsely : Prop := strikePlaysRow.holds Try.pinned (OpenSpec.ofChange strikePlaysWrong)

/-- 'zeitnotlaw28.StrikeNone': WHATEVER THE INPUT: true; the input reads as it did. -/
def strikeNoneSpec : ChangeSpec := { name := "strikeNone", fn := fun _ => fun
  | [d1, d2] => { results := [.lit (.bool true)], args := [d1, d2] }
  | _ => none }
def strikeNoneRow : OpenClaim := { program := "ytobkgdhniibopaa", sum := "5348b66942f60972395f11a0e88905c72eefb7d3b76aad572f3762b8d08bf572", func := "zeitnot/zeitnotlaw28.StrikeNone", spec := "strikeNone", apart := false }
def StrikeNoneSaid : Prop := strikeNoneRow.holds Try.pinned (OpenSpec.ofChange strikeNoneSpec)

/-- ITS FALSE NEIGHBOUR: 'it returns false'. Refute it at one input. -/
def strikeNoneWrong : ChangeSpec := { name := "strikeNone", fn := fun _ => fun
  | [d1, d2] => { results := [.lit (.bool false)], args := [d1, d2] }
  | _ => none }
def StrikeNoneWrongFalsely : Prop := strikeNoneRow.holds Try.pinned (OpenSpec.ofChange strikeNoneWrong)

/- THE SECOND FORM. 'bulk': how many values and letters a reading holds, each counted each time it is reached (what is shared counts as often as it is met; a slice's spare places count too). A statement '..UptoSaid' is the law's where the arguments, and the package variables that the reading takes, are together of bulk at most 1048576: NARROWER than '..Said'. Prove '..Said' where nothing that the law and all that it calls make is longer than what came in: it says more and counts as full. Else prove '..UptoSaid'. A law counts once. -/
mutual
def uptoBulk {H : Type} : DataW H → Nat
  | .lit (.string bytes) => bytes.length + 1
  | .lit _ => 1
  | .nil => 1
  | .ptr d => uptoBulk d + 1
  | .slice elems spare => uptoBulkAll elems + uptoBulkAll spare + 1
  | .agg parts => uptoBulkAll parts + 1
  | .iface _ d => uptoBulk d + 1
  | .map entries => uptoBulkEntries entries + 1
  | .held _ => 1
def uptoBulkAll {H : Type} : List (DataW H) → Nat
  | [] => 0
  | d :: r => uptoBulk d + uptoBulkAll r
def uptoBulkEntries {H : Type} : List (Lit × DataW H) → Nat
  | [] => 0
  | x :: r => uptoBulkEntry x + uptoBulkEntries r
def uptoBulkEntry {H : Type} : Lit × DataW H → Nat
  | (.string bytes, d) => bytes.length + uptoBulk d + 1
  | (_, d) => uptoBulk d + 1
 end
def uptoSmall : (H : Type) → List (DataW H) → Bool := fun _ ds => decide (uptoBulkAll ds ≤ 1048576)
def OpenSpec.upto (s : _root_.Go.ChangeSpec) : _root_.Go.OpenSpec := { _root_.Go.OpenSpec.ofChange s with cond := some uptoSmall }

/-- 'zeitnotlaw28.StrikeValid', WHERE WHAT IT READS IS OF BULK AT MOST 1048576: true; the input reads as it did. -/
def strikeValidUptoRow : OpenClaim := { program := "ytobkgdhniibopaa", sum := "5348b66942f60972395f11a0e88905c72eefb7d3b76aad572f3762b8d08bf572", func := "zeitnot/zeitnotlaw28.StrikeValid", spec := "strikeValid", apart := false, narrowed := true }
def StrikeValidUptoSaid : Prop := strikeValidUptoRow.holds Try.pinned (OpenSpec.upto strikeValidSpec)

/-- 'zeitnotlaw28.StrikeGraces', WHERE WHAT IT READS IS OF BULK AT MOST 1048576: true; the input reads as it did. -/
def strikeGracesUptoRow : OpenClaim := { program := "ytobkgdhniibopaa", sum := "5348b66942f60972395f11a0e88905c72eefb7d3b76aad572f3762b8d08bf572", func := "zeitnot/zeitnotlaw28.StrikeGraces", spec := "strikeGraces", unfollowed := true, recurses := true, apart := false, narrowed := true }
def StrikeGracesUptoSaid : Prop := strikeGracesUptoRow.holds Try.pinned (OpenSpec.upto strikeGracesSpec)

/-- 'zeitnotlaw28.StrikeHolds', WHERE WHAT IT READS IS OF BULK AT MOST 1048576: true; the input reads as it did. -/
def strikeHoldsUptoRow : OpenClaim := { program := "ytobkgdhniibopaa", sum := "5348b66942f60972395f11a0e88905c72eefb7d3b76aad572f3762b8d08bf572", func := "zeitnot/zeitnotlaw28.StrikeHolds", spec := "strikeHolds", apart := false, narrowed := true }
def StrikeHoldsUptoSaid : Prop := strikeHoldsUptoRow.holds Try.pinned (OpenSpec.upto strikeHoldsSpec)

/-- 'zeitnotlaw28.StrikePlays', WHERE WHAT IT READS IS OF BULK AT MOST 1048576: true; the input reads as it did. -/
def strikePlaysUptoRow : OpenClaim := { program := "ytobkgdhniibopaa", sum := "5348b66942f60972395f11a0e88905c72eefb7d3b76aad572f3762b8d08bf572", func := "zeitnot/zeitnotlaw28.StrikePlays", spec := "strikePlays", apart := false, narrowed := true }
def StrikePlaysUptoSaid : Prop := strikePlaysUptoRow.holds Try.pinned (OpenSpec.upto strikePlaysSpec)

/-- 'zeitnotlaw28.StrikeNone', WHERE WHAT IT READS IS OF BULK AT MOST 1048576: true; the input reads as it did. -/
def strikeNoneUptoRow : OpenClaim := { program := "ytobkgdhniibopaa", sum := "5348b66942f60972395f11a0e88905c72eefb7d3b76aad572f3762b8d08bf572", func := "zeitnot/zeitnotlaw28.StrikeNone", spec := "strikeNone", apart := false, narrowed := true }
def StrikeNoneUptoSaid : Prop := strikeNoneUptoRow.holds Try.pinned (OpenSpec.upto strikeNoneSpec)

end Rows
end Go.Proofs.Ytobkgdhniibopaa
