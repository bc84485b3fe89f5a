/- More about boards that are collected and drained. -/
import Derived.Test.YtgkgbpapfjjkcaaTLv
namespace Go.Proofs.Ytgkgbpapfjjkcaa
open Go.RowKit Plain
set_option linter.unusedVariables false
set_option linter.unusedSimpArgs false

theorem VB.dr{B:Bd}(h:VB B):VB (drB B):=by
 have hst:B.st.length≤200:=by have h1:=h.num;unfold vNum at h1;exact h1.2.2.2.2.2.2.1
 have key:∀k,k≤(ordL B).length→B.st.length+k≤200→VB (drK B k):=by
  intro k
  induction k with
  |zero=>intro _ _;rw[drK_zero];exact VB.noQu h
  |succ k ih=>
   intro h1 h2;have hx:(ordL B)[k]? =some (ordL B)[k]:=List.getElem?_eq_getElem (by omega);rw[←drK_next hx];refine VB.pu (ih (by omega) (by omega)) (ordL_Q h _ (List.mem_of_getElem? hx)) ?_
   show(B.st++(ordL B).take k).length<200
   rw[List.length_append,List.length_take];omega
 by_cases hc:(ordL B).length≤200-B.st.length
 ·have e:drK B (ordL B).length=drB B:=drK_end (by
   show(B.st++(ordL B).take (ordL B).length).length≤200
   rw[List.length_append,List.length_take];omega)
  rw[←e];exact key _ (Nat.le_refl _) (by omega)
 ·have e:drK B (200-B.st.length)=drB B:=drK_full (by omega) (by
   show(B.st++(ordL B).take (200-B.st.length)).length=200
   rw[List.length_append,List.length_take];omega)
  rw[←e];exact key _ (by omega) (by omega)
theorem drB_len(B:Bd):(drB B).st.length=min 200 (B.st.length+B.qu.length):=by
 show((B.st++ordL B).take 200).length=_
 rw[List.length_take,List.length_append,ordL_len]
theorem co_len(B:Bd)(all:List It)(most:Int):(coB B all most).qu.length=B.qu.length+room B all.length most:=by
 show(B.qu++all.take (room B all.length most)).length=_
 rw[List.length_append,List.length_take,Nat.min_eq_left (room_le _ _ _)]
end Go.Proofs.Ytgkgbpapfjjkcaa
