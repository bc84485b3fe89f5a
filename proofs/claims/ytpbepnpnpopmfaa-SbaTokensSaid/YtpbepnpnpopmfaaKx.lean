/- The cells of our own memory, by their place in the list. -/
import Derived.Test.YtpbepnpnpopmfaaRw
namespace Go.Proofs.Ytpbepnpnpopmfaa
open Go.RowKit
set_option linter.unusedVariables false

theorem Kept.nth{B n:Nat}{w W:World}{L:List (Nat×Nat×Value)}(k:Kept B w n L W)(i:Nat){b o:Nat}{v:Value}(h:L[i]? =Option.some (b,o,v)):W.cell? ⟨b,o,none⟩=Option.some v:=k.at (List.mem_of_getElem? h)
theorem Kept.nthF{B n:Nat}{w W:World}{L:List (Nat×Nat×Value)}(k:Kept B w n L W)(i:Nat){b o:Nat}{v:Value}(h:L[i]? =Option.some (b,o,v)):W.frozen? ⟨b,o,none⟩=false:=k.free (List.mem_of_getElem? h)
theorem rcx{B n:Nat}{w:World}{L:List (Nat×Nat×Value)}{E:World→Prop}(_:Nonempty (KX B w n L E))(i:Nat){b o:Nat}{v:Value}(h:L[i]? =Option.some (b,o,v)):∀s:KX B w n L E,s.val.cell? ⟨b,o,none⟩=Option.some v:=fun s=>s.kept.nth i h
end Go.Proofs.Ytpbepnpnpopmfaa
