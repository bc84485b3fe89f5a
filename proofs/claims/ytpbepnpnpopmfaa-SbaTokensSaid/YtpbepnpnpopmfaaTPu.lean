/- What a queue may hold. -/
import Derived.Test.YtpbepnpnpopmfaaTWo
namespace Go.Proofs.Ytpbepnpnpopmfaa
open Go.RowKit Plain
set_option linter.unusedVariables false
set_option linter.unusedSimpArgs false

/-- what a queue may hold -/
def itQ(x:It):Prop:=(0≤x.pl∧x.pl≤1)∧(1≤x.id∧x.id≤500)∧(0≤x.cd∧x.cd≤399)∧(0≤x.tr∧x.tr≤1)∧x.tg=[]
theorem itQ_of{x:It}(h:itB x true=true):itQ x:=by
 unfold itB itN at h
 have h2:=of_decide_eq_true (Bool.and_eq_true_iff.1 h).1
 exact⟨h2.1,h2.2.1,h2.2.2.1,⟨h2.2.2.2.2.2.2 rfl,h2.2.2.2.1.2⟩,List.eq_nil_of_length_eq_zero (h2.2.2.2.2.2.1 (h2.2.2.2.2.2.2 rfl))⟩
theorem itQ_B{x:It}(h:itQ x)(q:Bool):itB x q=true:=by
 unfold itB itN;rw[h.2.2.2.2];have h1:=h.1;have h2:=h.2.1;have h3:=h.2.2.1;have h4:=h.2.2.2.1
 simp
 omega
end Go.Proofs.Ytpbepnpnpopmfaa
