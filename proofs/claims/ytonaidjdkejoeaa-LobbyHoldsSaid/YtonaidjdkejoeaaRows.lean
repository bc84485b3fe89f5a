/-
  No cell of these rows narrows 'for every input' (looked for: loops, veiled, ifaces, maps, wideKeys, modest, calm, conditions, laid).
  DERIVED. THE GIVEN ROWS OF THIS SEAT. 5 by the template 'for every input the law returns true; each argument reads behind the call as it read before'; 0 by the template 'total and deterministic' (their statements: YtonaidjdkejoeaaTotals.lean).
  GIVEN WITH THE SEED: the statements are not yours to turn. If you find one false, say at which input.
  Laid BY PROGRAM, IN A SANDBOX (cutbox-rows.mjs): the forced cells as the released guide's own fill.sh prints them over the translation 7ab8713bb11b37c5… (all of the seat's roots in one cut). By AI agents, Wed Nov 11 2026. No macro, syntax, notation, axiom, sorry.
-/
import Derived.Test.YtonaidjdkejoeaaChecked
import GoSem.Claim
import GoSem.ClaimJoined
import GoSem.ClaimMapViews
import Derived.JoinedTies
import Derived.KernelRfl
namespace Go.Proofs.Ytonaidjdkejoeaa
/- THE CELL 'sum', in the pinned program and in every row, IS THE sha256 OF THE DUMP (.gsa) THAT YtonaidjdkejoeaaProg.lean LOADS. Nothing in Lean hashes anything: it is a label: what it is worth is what the hold of that sum in a sandbox is worth. -/
noncomputable def Try.pinned : Pinned := { name := "ytonaidjdkejoeaa", sum := "7ab8713bb11b37c59121c500d9d57419d8815c25d8ef5f6c4c1d9b4e8c532e18", checked := Try.checked }
namespace Rows
def none {H : Type} : Left H := { results := [], args := [] }

/-- 'zeitnotlaw46.LobbyFulls': WHATEVER THE INPUT: true; the input reads as it did. -/
def lobbyFullsSpec : ChangeSpec := { name := "lobbyFulls", fn := fun _ => fun
  | [d] => { results := [.lit (.bool true)], args := [d] }
  | _ => none }
def lobbyFullsRow : OpenClaim := { program := "ytonaidjdkejoeaa", sum := "7ab8713bb11b37c59121c500d9d57419d8815c25d8ef5f6c4c1d9b4e8c532e18", func := "zeitnot/zeitnotlaw46.LobbyFulls", spec := "lobbyFulls", unfollowed := true, recurses := true, apart := false }
def LobbyFullsSaid : Prop := lobbyFullsRow.holds Try.pinned (OpenSpec.ofChange lobbyFullsSpec)

/-- ITS FALSE NEIGHBOUR: 'it returns false'. Refute it at one input. -/
def lobbyFullsWrong : ChangeSpec := { name := "lobbyFulls", fn := fun _ => fun
  | [d] => { results := [.lit (.bool false)], args := [d] }
  | _ => none }
def LobbyFullsWrongFalsely : Prop := lobbyFullsRow.holds Try.pinned (OpenSpec.ofChange lobbyFullsWrong)

/-- 'zeitnotlaw46.LobbyNew': WHATEVER THE INPUT: true; the input reads as it did. -/
def lobbyNewSpec : ChangeSpec := { name := "lobbyNew", fn := fun _ => fun
  | [d] => { results := [.lit (.bool true)], args := [d] }
  | _ => none }
def lobbyNewRow : OpenClaim := { program := "ytonaidjdkejoeaa", sum := "7ab8713bb11b37c59121c500d9d57419d8815c25d8ef5f6c4c1d9b4e8c532e18", func := "zeitnot/zeitnotlaw46.LobbyNew", spec := "lobbyNew", unfollowed := true, recurses := true, apart := false }
def LobbyNewSaid : Prop := lobbyNewRow.holds Try.pinned (OpenSpec.ofChange lobbyNewSpec)

/-- ITS FALSE NEIGHBOUR: 'it returns false'. Refute it at one input. -/
def lobbyNewWrong : ChangeSpec := { name := "lobbyNew", fn := fun _ => fun
  | [d] => { results := [.lit (.bool false)], args := [d] }
  | _ => none }
def LobbyNewWrongFalsely : Prop := lobbyNewRow.holds Try.pinned (OpenSpec.ofChange lobbyNewWrong)

/-- 'zeitnotlaw46.LobbyHolds': WHATEVER THE INPUT: true; the input reads as it did. -/
def lobbyHoldsSpec : ChangeSpec := { name := "lobbyHolds", fn := fun _ => fun
  | [d1, d2, d3, d4] => { results := [.lit (.bool true)], args := [d1, d2, d3, d4] }
  | _ => none }
def lobbyHoldsRow : OpenClaim := { program := "ytonaidjdkejoeaa", sum := "7ab8713bb11b37c59121c500d9d57419d8815c25d8ef5f6c4c1d9b4e8c532e18", func := "zeitnot/zeitnotlaw46.LobbyHolds", spec := "lobbyHolds", unfollowed := true, recurses := true, apart := false }
def LobbyHoldsSaid : Prop := lobbyHoldsRow.holds Try.pinned (OpenSpec.ofChange lobbyHoldsSpec)

/-- ITS FALSE NEIGHBOUR: 'it returns false'. Refute it at one input. -/
def lobbyHoldsWrong : ChangeSpec := { name := "lobbyHolds", fn := fun _ => fun
  | [d1, d2, d3, d4] => { results := [.lit (.bool false)], args := [d1, d2, d3, d4] }
  | _ => none }
def LobbyHoldsWrongFalsely : Prop := lobbyHoldsRow.holds Try.pinned (OpenSpec.ofChange lobbyHoldsWrong)

/-- 'zeitnotlaw46.LobbyPlays': WHATEVER THE INPUT: true; the input reads as it did. -/
def lobbyPlaysSpec : ChangeSpec := { name := "lobbyPlays", fn := fun _ => fun
  | [d1, d2] => { results := [.lit (.bool true)], args := [d1, d2] }
  | _ => none }
def lobbyPlaysRow : OpenClaim := { program := "ytonaidjdkejoeaa", sum := "7ab8713bb11b37c59121c500d9d57419d8815c25d8ef5f6c4c1d9b4e8c532e18", func := "zeitnot/zeitnotlaw46.LobbyPlays", spec := "lobbyPlays", unfollowed := true, recurses := true, apart := false }
def LobbyPlaysSaid : Prop := lobbyPlaysRow.holds Try.pinned (OpenSpec.ofChange lobbyPlaysSpec)

/-- ITS FALSE NEIGHBOUR: 'it returns false'. Refute it at one input. -/
def lobbyPlaysWrong : ChangeSpec := { name := "lobbyPlays", fn := fun _ => fun
  | [d1, d2] => { results := [.lit (.bool false)], args := [d1, d2] }
  | _ => none }
def LobbyPlaysWrongFalsely : Prop := lobbyPlaysRow.holds Try.pinned (OpenSpec.ofChange lobbyPlaysWrong)

/-- 'zeitnotlaw46.LobbyNone': WHATEVER THE INPUT: true; the input reads as it did. -/
def lobbyNoneSpec : ChangeSpec := { name := "lobbyNone", fn := fun _ => fun
  | [d] => { results := [.lit (.bool true)], args := [d] }
  | _ => none }
def lobbyNoneRow : OpenClaim := { program := "ytonaidjdkejoeaa", sum := "7ab8713bb11b37c59121c500d9d57419d8815c25d8ef5f6c4c1d9b4e8c532e18", func := "zeitnot/zeitnotlaw46.LobbyNone", spec := "lobbyNone", unfollowed := true, recurses := true, apart := false }
def LobbyNoneSaid : Prop := lobbyNoneRow.holds Try.pinned (OpenSpec.ofChange lobbyNoneSpec)

/-- ITS FALSE NEIGHBOUR: 'it returns false'. Refute it at one input. -/
def lobbyNoneWrong : ChangeSpec := { name := "lobbyNone", fn := fun _ => fun
  | [d] => { results := [.lit (.bool false)], args := [d] }
  | _ => none }
def LobbyNoneWrongFalsely : Prop := lobbyNoneRow.holds Try.pinned (OpenSpec.ofChange lobbyNoneWrong)

/- THE SECOND FORM. 'bulk': how many values and letters a reading holds, each counted each time it is reached (what is shared counts as often as it is met; a slice's spare places count too). A statement '..UptoSaid' is the law's where the arguments, and the package variables that the reading takes, are together of bulk at most 1048576: NARROWER than '..Said'. Prove '..Said' where nothing that the law and all that it calls make is longer than what came in: it says more and counts as full. Else prove '..UptoSaid'. A law counts once. -/
mutual
def uptoBulk {H : Type} : DataW H → Nat
  | .lit (.string bytes) => bytes.length + 1
  | .lit _ => 1
  | .nil => 1
  | .ptr d => uptoBulk d + 1
  | .slice elems spare => uptoBulkAll elems + uptoBulkAll spare + 1
  | .agg parts => uptoBulkAll parts + 1
  | .iface _ d => uptoBulk d + 1
  | .map entries => uptoBulkEntries entries + 1
  | .held _ => 1
def uptoBulkAll {H : Type} : List (DataW H) → Nat
  | [] => 0
  | d :: r => uptoBulk d + uptoBulkAll r
def uptoBulkEntries {H : Type} : List (Lit × DataW H) → Nat
  | [] => 0
  | x :: r => uptoBulkEntry x + uptoBulkEntries r
def uptoBulkEntry {H : Type} : Lit × DataW H → Nat
  | (.string bytes, d) => bytes.length + uptoBulk d + 1
  | (_, d) => uptoBulk d + 1
 end
def uptoSmall : (H : Type) → List (DataW H) → Bool := fun _ ds => decide (uptoBulkAll ds ≤ 1048576)
def OpenSpec.upto (s : _root_.Go.ChangeSpec) : _root_.Go.OpenSpec := { _root_.Go.OpenSpec.ofChange s with cond := some uptoSmall }

/-- 'zeitnotlaw46.LobbyFulls', WHERE WHAT IT READS IS OF BULK AT MOST 1048576: true; the input reads as it did. -/
def lobbyFullsUptoRow : OpenClaim := { program := "ytonaidjdkejoeaa", sum := "7ab8713bb11b37c59121c500d9d57419d8815c25d8ef5f6c4c1d9b4e8c532e18", func := "zeitnot/zeitnotlaw46.LobbyFulls", spec := "lobbyFulls", unfollowed := true, recurses := true, apart := false, narrowed := true }
def LobbyFullsUptoSaid : Prop := lobbyFullsUptoRow.holds Try.pinned (OpenSpec.upto lobbyFullsSpec)

/-- 'zeitnotlaw46.LobbyNew', WHERE WHAT IT READS IS OF BULK AT MOST 1048576: true; the input reads as it did. -/
def lobbyNewUptoRow : OpenClaim := { program := "ytonaidjdkejoeaa", sum := "7ab8713bb11b37c59121c500d9d57419d8815c25d8ef5f6c4c1d9b4e8c532e18", func := "zeitnot/zeitnotlaw46.LobbyNew", spec := "lobbyNew", unfollowed := true, recurses := true, apart := false, narrowed := true }
def LobbyNewUptoSaid : Prop := lobbyNewUptoRow.holds Try.pinned (OpenSpec.upto lobbyNewSpec)

/-- 'zeitnotlaw46.LobbyHolds', WHERE WHAT IT READS IS OF BULK AT MOST 1048576: true; the input reads as it did. -/
def lobbyHoldsUptoRow : OpenClaim := { program := "ytonaidjdkejoeaa", sum := "7ab8713bb11b37c59121c500d9d57419d8815c25d8ef5f6c4c1d9b4e8c532e18", func := "zeitnot/zeitnotlaw46.LobbyHolds", spec := "lobbyHolds", unfollowed := true, recurses := true, apart := false, narrowed := true }
def LobbyHoldsUptoSaid : Prop := lobbyHoldsUptoRow.holds Try.pinned (OpenSpec.upto lobbyHoldsSpec)

/-- 'zeitnotlaw46.LobbyPlays', WHERE WHAT IT READS IS OF BULK AT MOST 1048576: true; the input reads as it did. -/
def lobbyPlaysUptoRow : OpenClaim := { program := "ytonaidjdkejoeaa", sum := "7ab8713bb11b37c59121c500d9d57419d8815c25d8ef5f6c4c1d9b4e8c532e18", func := "zeitnot/zeitnotlaw46.LobbyPlays", spec := "lobbyPlays", unfollowed := true, recurses := true, apart := false, narrowed := true }
def LobbyPlaysUptoSaid : Prop := lobbyPlaysUptoRow.holds Try.pinned (OpenSpec.upto lobbyPlaysSpec)

/-- 'zeitnotlaw46.LobbyNone', WHERE WHAT IT READS IS OF BULK AT MOST 1048576: true; the input reads as it did. -/
def lobbyNoneUptoRow : OpenClaim := { program := "ytonaidjdkejoeaa", sum := "7ab8713bb11b37c59121c500d9d57419d8815c25d8ef5f6c4c1d9b4e8c532e18", func := "zeitnot/zeitnotlaw46.LobbyNone", spec := "lobbyNone", unfollowed := true, recurses := true, apart := false, narrowed := true }
def LobbyNoneUptoSaid : Prop := lobbyNoneUptoRow.holds Try.pinned (OpenSpec.upto lobbyNoneSpec)

end Rows
end Go.Proofs.Ytonaidjdkejoeaa
