/- A board in its block: its seats, and all of it. -/
import Derived.Test.YtpbepnpnpopmfaaBOw
import Derived.Test.YtpbepnpnpopmfaaBPg
import Derived.Deep.DeepCutAuto
import Derived.LoopTactic
import Derived.Deep.MidRow
namespace Go.Proofs.Ytpbepnpnpopmfaa
open Go.RowKit Plain
set_option linter.unusedVariables false
set_option linter.unusedSimpArgs false

def seL(l h f g:Sl)(S:Se):List Value:=[.int .i64 S.li,.int .i64 S.p0,.int .i64 S.p1,.int .i64 S.p2,.int .i64 S.p3,l.v,h.v,f.v,g.v,.bool S.em,.bool S.py,.bool S.kp,.int .i64 S.mu,.int .i64 S.ac]
theorem Bx.seat{w:World}{P:Nat}{s:Bs}{B:Bd}(h:Bx w P s B){p:Nat}(hp:p<2):w.rangeAt P (1+p*14) (seL (s.zl p 0) (s.zl p 1) (s.zl p 2) (s.zl p 3) (B.seat p)):=by
 have:p=0∨p=1:=by omega
 rcases this with rfl|rfl
 ·exact World.rangeAt_of_block h 1 14
 ·exact World.rangeAt_of_block h 15 14
theorem Bx.all{w:World}{P:Nat}{s:Bs}{B:Bd}(h:Bx w P s B):w.rangeAt P 0 (bcells s B).toList:=fun j v hv=>by
 rw[Nat.zero_add,h.cell j,←Array.getElem?_toList];exact hv
/-- the whole board is read -/
theorem wpList_load_bx{ops:Array Oper}{rest:List Oper}{op:Oper}{a:Act}{w:World}{Q:Exit→Act→World→Prop}{P:Nat}{s:Bs}{B:Bd}(x:Operand)(ho:op.op= .load 34 x)(hx:a.eval x= .pointer (some ⟨P,0,none⟩))(h:Bx w P s B)(hw:Region.wanted op (yielded ops a.tmps)=true)
  (hK:wpList Try.prog ops Q rest (a.put op.dst (bv s B)) w):wpList Try.prog ops Q (op::rest) a w:=by
 unfold wpList;rw[if_pos hw];exact .inl (wp_load_mid 34 x ho P 0 hx (bcells s B).toList _ (Bx.all h) Try.underlying34 rfl (by kernel_rfl) (by rw[Array.toArray_toList];exact hK))
/-- an object of a board, in memory -/
theorem obj_at{W:World}{P:Nat}{s:Bs}{B:Bd}{k:Nat}{x:Ob}(hx:Bx W P s B)(hr:BdR W s B)(h:B.ob[k]? =some x):∃b o c,W.cell? ⟨P,0,none⟩=some (.slice (some ⟨b,o,none⟩) B.ob.length c)∧b<W.heap.size∧W.rangeAt b (o+k*12) (oc x):=by
 have hl:k<B.ob.length:=(List.getElem?_eq_some_iff.1 h).1
 obtain⟨_,a,c,hv,hc⟩:=hr.ob.form
 obtain⟨b,o,rfl,hb,hc⟩:=hc (by omega)
 refine⟨b,o,c,by rw[hx.cell 0,←hv];rfl,hb,fun j u hu=> ?_⟩
 rw[Nat.add_assoc];exact hc k x h j u hu
theorem obs_len{W:World}{P:Nat}{s:Bs}{B:Bd}(hx:Bx W P s B)(hr:BdR W s B):∃a c,W.cell? ⟨P,0,none⟩=some (.slice a B.ob.length c)∧Rw oc 12 W (.slice a B.ob.length c) B.ob:=by
 obtain⟨_,a,c,hv,_⟩:=hr.ob.form
 exact⟨a,c,by rw[hx.cell 0,←hv];rfl,hv▸hr.ob⟩
end Go.Proofs.Ytpbepnpnpopmfaa
