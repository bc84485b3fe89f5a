/- The reference's small functions. -/
import Derived.Test.YtpbepnpnpopmfaaBF
import Derived.Test.YtpbepnpnpopmfaaBOw
import Derived.Test.YtpbepnpnpopmfaaBPg
import Derived.Deep.DeepCutAuto
import Derived.LoopTactic
namespace Go.Proofs.Ytpbepnpnpopmfaa
open Go.RowKit Plain
set_option linter.unusedVariables false
set_option linter.unusedSimpArgs false

/-- block P is a row of the cells C -/
def Ro(w:World)(P:Nat)(C:Array Value)(t:TypeId):Prop:=w.heap[P]? =some (.cells C t (0,0))
theorem Ro.cell{w:World}{P:Nat}{C:Array Value}{t:TypeId}(h:Ro w P C t)(i:Nat):w.cell? ⟨P,i,none⟩=C[i]? :=cell_of_row w P i _ t (0,0) h
theorem Ro.lt{w:World}{P:Nat}{C:Array Value}{t:TypeId}(h:Ro w P C t):P<w.heap.size:=(Array.getElem?_eq_some_iff.1 h).1
theorem Ro.below{w w':World}{P:Nat}{C:Array Value}{t:TypeId}(h:Ro w P C t)(hb:Below w.heap.size w w'):Ro w' P C t:=(hb.block P h.lt).trans h
theorem Ro.new(w:World)(C:Array Value)(t:TypeId):Ro (w.alloc (.cells C t)) w.heap.size C t:=heap_alloc_new _ _
def fnd(l:List Ob)(z:Int)(r:Int):Prop:=(r= -1∧∀(j:Nat) (q:Ob),l[j]? =some q→q.id≠z)∨∃(i:Nat) (x:Ob),r=i∧l[i]? =some x∧x.id=z∧∀(j:Nat) (q:Ob),j<i→l[j]? =some q→q.id≠z
def IdL(w:World)(s:Bs)(B:Bd)(z:Int)(i:Value)(wr:World):Prop:=∃k:Nat,k≤B.ob.length∧i= .int .i64 k∧(∀(j:Nat) (q:Ob),j<k→B.ob[j]? =some q→q.id≠z)∧Below w.heap.size w wr∧Bx wr w.heap.size s B
set_option maxRecDepth 100000 in
set_option maxHeartbeats 4000000 in
theorem rindex(s:Bs)(B:Bd)(z:Int)(w:World)(h:BdR w s B):Calls Try.prog 12 #[bv s B,.int .i64 z] w fun e w' =>(∃r,e= .returned (.int .i64 r)∧fnd B.ob z r)∧Below w.heap.size w w':=by
 obtain⟨hm,a0,c0,hv,hf⟩:=h.ob.form
 simp only[Sl.v,Value.slice.injEq] at hv
 have HF:=Lib.hid hf;have HV:=Lib.hid hv;clear h hf hv;go_enter Try.func12,Try.ntmps12
 go_upto_region 1 with fail
 change Code.wp Try.prog _ _ _ (w.alloc (.cells (bcells s B) 34))
 obtain⟨wz,hwz⟩:∃W,W=w.alloc (.cells (bcells s B) 34):=⟨_,rfl⟩
 have HX:Hid (Bx wz w.heap.size s B):=Lib.hid (by rw[hwz];exact heap_alloc_new _ _);have HBZ:Hid (Below w.heap.size w wz):=Lib.hid (by rw[hwz];exact(Below.refl _ _).alloc (Nat.le_refl _) _);rw[←hwz];clear hwz;go_wp2_with fail
 go_loopw [5] (fun i wr=>IdL w s B z i wr) (fun i _=>B.ob.length-(intOf i).toNat)
 case atStart=>exact⟨0,Nat.zero_le _,rfl,fun j q h=>by omega,HBZ.out,HX.out⟩
 case round=>
  obtain⟨k,hk,rfl,hn,hb,hx⟩:=hrel
  have HN:=Lib.hid hn;have HB:=Lib.hid hb;have HXX:=Lib.hid hx;clear hn hx HX HBZ;have c0c:wr.cell? ⟨w.heap.size,0,none⟩=some (.slice a0 B.ob.length c0):=by rw[HXX.out.cell 0];show some (Value.slice s.ob.a s.ob.n s.ob.c)=_;rw[HV.out.1,HV.out.2.1,HV.out.2.2]
  by_cases hlt2:k<B.ob.length
  ·obtain⟨b,off,rfl,hlt,hc⟩:=HF.out (by omega)
   obtain⟨x,hx⟩:∃x,B.ob[k]? =some x:=⟨_,List.getElem?_eq_getElem hlt2⟩
   have d0:wr.cell? ⟨b,off+k*12,none⟩=some (.int .i64 x.id):=(hb.cell (p:=⟨b,off+k*12,none⟩) hlt).trans (hc k x hx 0 _ rfl);have i1:(0:Int)≤(k:Int):=by omega
   have i2:(k:Int)<(B.ob.length:Int):=by omega
   have HX:=Lib.hid hx;clear hc hx hb
   by_cases he:x.id=z
   ·have t1:(x.id==z)=true:=by simp[he]
    have HE:=Lib.hid he;clear he;go_wp2_with fail
    go_returns
    exact⟨⟨k,rfl,.inr ⟨k,x,rfl,HX.out,HE.out,HN.out⟩⟩,HB.out⟩
   ·have t1:(x.id==z)=false:=beq_false_of_ne he
    have HN2:Hid (∀(j:Nat) (q:Ob),j<k+1→B.ob[j]? =some q→q.id≠z):=Lib.hid (fun j q hj hq=>by
     rcases Nat.lt_or_ge j k with h1|h1
     ·exact HN.out j q h1 hq
     ·obtain rfl:j=k:=by omega
      rw[HX.out] at hq
      simp at hq
      rw[←hq];exact he)
    clear he;go_wp2_with fail
    go_roundw
    case rel=>exact⟨k+1,by omega,by go_num,HN2.out,HB.out,HXX.out⟩
    case measure=>simp[intOf];omega
  ·have hke:k=B.ob.length:=by omega
   clear hb;go_wp2_with fail
   go_returns
   exact⟨⟨-1,rfl,.inl ⟨rfl,fun j q hj=>HN.out j q (by rw[hke];exact(List.getElem?_eq_some_iff.1 hj).1) hj⟩⟩,HB.out⟩
set_option maxRecDepth 100000 in
set_option maxHeartbeats 4000000 in
theorem zones{la ha fa ga:Option Addr}{ln lc hn hc fn fc gn gc:Nat}(S:Se)(w:World):Calls Try.prog 55 #[.agg #[.int .i64 S.li,.int .i64 S.p0,.int .i64 S.p1,.int .i64 S.p2,.int .i64 S.p3,.slice la ln lc,.slice ha hn hc,.slice fa fn fc,.slice ga gn gc,.bool S.em,.bool S.py,.bool S.kp,.int .i64 S.mu,.int .i64 S.ac]] w fun e w' =>e= .returned (.agg #[.slice la ln lc,.slice ha hn hc,.slice fa fn fc,.slice ga gn gc])∧Below w.heap.size w w':=by
 go_enter Try.func55,Try.ntmps55;go_wp2_with fail
 exact bodyPost_ret (v:= .agg #[.slice la ln lc,.slice ha hn hc,.slice fa fn fc,.slice ga gn gc]) (by simp[results,Try.results55,go_sem]) rfl ⟨rfl,by go_grown⟩
end Go.Proofs.Ytpbepnpnpopmfaa
