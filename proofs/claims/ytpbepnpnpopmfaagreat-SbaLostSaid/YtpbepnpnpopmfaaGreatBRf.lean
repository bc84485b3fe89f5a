/- The reference's small functions. -/
import Derived.Test.YtpbepnpnpopmfaaGreatBF
import Derived.Test.YtpbepnpnpopmfaaGreatBOw
import Derived.Test.YtpbepnpnpopmfaaGreatBPg
import Derived.Deep.DeepCutAuto
import Derived.LoopTactic
open Go.RowKit Go.Proofs.YtpbepnpnpopmfaaGreat
set_option maxRecDepth 100000
set_option maxHeartbeats 4000000
namespace Go.Proofs.YtpbepnpnpopmfaaGreat
open Plain
set_option linter.unusedVariables false
set_option linter.unusedSimpArgs false

def Ro(w:World)(P:Nat)(C:Array Value)(t:TypeId):Prop:=w.heap[P]? =some (.cells C t (0,0))
theorem Ro.cell{w:World}{P:Nat}{C:Array Value}{t:TypeId}(h:Ro w P C t)(i:Nat):w.cell? ⟨P,i,none⟩=C[i]? :=cell_of_row w P i _ t (0,0) h
theorem Ro.lt{w:World}{P:Nat}{C:Array Value}{t:TypeId}(h:Ro w P C t):P<w.heap.size:=(Array.getElem?_eq_some_iff.1 h).1
theorem Ro.below{w w':World}{P:Nat}{C:Array Value}{t:TypeId}(h:Ro w P C t)(hb:Below w.heap.size w w'):Ro w' P C t:=(hb.block P h.lt).trans h
theorem Ro.new(w:World)(C:Array Value)(t:TypeId):Ro (w.alloc (.cells C t)) w.heap.size C t:=heap_alloc_new _ _
def CoL(w:World)(l:List Int)(z:Int)(c i:Value)(wr:World):Prop:=∃k:Nat,k<=l.length/\i= .int .i64 k/\c= .int .i64 ((l.take k).count z:Nat)/\w=wr
theorem countI(v:Value)(l:List Int)(z:Int)(w:World)(hs:Rw ic 1 w v l):Calls Tryz.prog 46 #[v,.int .i64 z] w fun e w' =>e= .returned (.int .i64 (l.count z:Nat))/\w=w':=by
 obtain⟨hm,a0,c0,rfl,hf⟩:=hs.form
 have HF:=Hd hf;clear hs hf;go_enter Tryz.func46,Tryz.ntmps46;go_wp2_with fail
 go_loopw [5,6] (fun c i wr=>CoL w l z c i wr) (fun _ i _=>l.length-(intOf i).toNat)
 case atStart=>exact⟨0,Nat.zero_le _,rfl,rfl,rfl⟩
 obtain⟨k,hk,rfl,rfl,rfl⟩:=hrel
 by_cases hlt2:k<l.length
 ·obtain⟨b,off,rfl,hlt,hc⟩:=HF.o (by omega)
  obtain⟨x,hx⟩:∃x,l[k]? =some x:=⟨_,List.getElem?_eq_getElem hlt2⟩
  have d0:w.cell? ⟨b,off+k,none⟩=some (.int .i64 x):=by have:=hc k x hx 0 _ rfl;simpa using this
  have i1:(0:Int)<=(k:Int):=by omega
  have i2:(k:Int)<(l.length:Int):=by omega
  have HS:Hid ((l.take (k+1)).count z=(l.take k).count z+if x=z then 1 else 0):=Hd (by
   rw[List.take_add_one,hx,Option.toList_some,List.count_append,List.count_singleton];simp[beq_iff_eq])
  have hcl:(l.take k).count z<=k:=Nat.le_trans List.count_le_length (by simp;omega)
  obtain⟨c,hc⟩:∃c,(l.take k).count z=c:=⟨_,rfl⟩
  rw[hc] at HS hcl ⊢
  clear hc hx
  by_cases he:x=z
  ·have t1:(x==z)=true:=by simp[he]
   rw[if_pos he] at HS
   clear he;go_wp2_with fail
   go_roundw
   case rel=>exact⟨k+1,by omega,by go_num,by rw[HS.o];go_num,rfl⟩
   case measure=>simp[intOf];omega
  have t1:(x==z)=false:=beq_false_of_ne he;rw[if_neg he] at HS
  clear he;go_wp2_with fail
  go_roundw
  case rel=>exact⟨k+1,by omega,by go_num,by rw[HS.o];rfl,rfl⟩
  case measure=>simp[intOf];omega
 obtain rfl:k=l.length:=by omega
 rw[List.take_length];go_wp2_with fail
 go_returns
 exact⟨rfl,rfl⟩
def fnd(l:List Ob)(z:Int)(r:Int):Prop:=(r= -1/\∀(j:Nat) (q:Ob),l[j]? =some q->q.id≠z)\/∃(i:Nat) (x:Ob),r=i/\l[i]? =some x/\x.id=z/\∀(j:Nat) (q:Ob),j<i->l[j]? =some q->q.id≠z
def IdL(w:World)(s:Bs)(B:Bd)(z:Int)(i:Value)(wr:World):Prop:=∃k:Nat,k<=B.ob.length/\i= .int .i64 k/\(∀(j:Nat) (q:Ob),j<k->B.ob[j]? =some q->q.id≠z)/\Below w.heap.size w wr/\Bx wr w.heap.size s B
theorem rindex(s:Bs)(B:Bd)(z:Int)(w:World)(h:BdR w s B):Calls Tryz.prog 15 #[bv s B,.int .i64 z] w fun e w' =>(∃r,e= .returned (.int .i64 r)/\fnd B.ob z r)/\Below w.heap.size w w':=by
 obtain⟨hm,a0,c0,hv,hf⟩:=h.ob.form
 simp only[Sl.v,Value.slice.injEq] at hv
 have HF:=Hd hf;have HV:=Hd hv;clear h hf hv;go_enter Tryz.func15,Tryz.ntmps15
 go_upto_region 1 with fail
 change Code.wp Tryz.prog _ _ _ (w.alloc (.cells (bcells s B) 34))
 obtain⟨wz,hwz⟩:∃W,W=w.alloc (.cells (bcells s B) 34):=⟨_,rfl⟩
 have HX:Hid (Bx wz w.heap.size s B):=Hd (by rw[hwz];exact heap_alloc_new _ _);have HBZ:Hid (Below w.heap.size w wz):=Hd (by rw[hwz];exact(Below.refl _ _).alloc (Nat.le_refl _) _);rw[<-hwz];clear hwz;go_wp2_with fail
 go_loopw [5] (fun i wr=>IdL w s B z i wr) (fun i _=>B.ob.length-(intOf i).toNat)
 case atStart=>exact⟨0,Nat.zero_le _,rfl,fun j q h=>by omega,HBZ.o,HX.o⟩
 obtain⟨k,hk,rfl,hn,hb,hx⟩:=hrel
 have HN:=Hd hn;have HB:=Hd hb;have HXX:=Hd hx;clear hn hx HX HBZ;have c0c:wr.cell? ⟨w.heap.size,0,none⟩=some (.slice a0 B.ob.length c0):=by rw[HXX.o.cell 0];show some (Value.slice s.ob.a s.ob.n s.ob.c)=_;rw[HV.o.1,HV.o.2.1,HV.o.2.2]
 by_cases hlt2:k<B.ob.length
 ·obtain⟨b,off,rfl,hlt,hc⟩:=HF.o (by omega)
  obtain⟨x,hx⟩:∃x,B.ob[k]? =some x:=⟨_,List.getElem?_eq_getElem hlt2⟩
  have d0:wr.cell? ⟨b,off+k*12,none⟩=some (.int .i64 x.id):=(hb.cell (p:=⟨b,off+k*12,none⟩) hlt).trans (hc k x hx 0 _ rfl);have i1:(0:Int)<=(k:Int):=by omega
  have i2:(k:Int)<(B.ob.length:Int):=by omega
  have HX:=Hd hx;clear hc hx hb
  by_cases he:x.id=z
  ·have t1:(x.id==z)=true:=by simp[he]
   have HE:=Hd he;clear he;go_wp2_with fail
   go_returns
   exact⟨⟨k,rfl,.inr ⟨k,x,rfl,HX.o,HE.o,HN.o⟩⟩,HB.o⟩
  have t1:(x.id==z)=false:=beq_false_of_ne he
  have HN2:Hid (∀(j:Nat) (q:Ob),j<k+1->B.ob[j]? =some q->q.id≠z):=Hd (fun j q hj hq=>by
   rcases Nat.lt_or_ge j k with h1|h1
   ·exact HN.o j q h1 hq
   obtain rfl:j=k:=by omega
   rw[HX.o] at hq
   simp at hq
   rw[<-hq];exact he)
  clear he;go_wp2_with fail
  go_roundw
  case rel=>exact⟨k+1,by omega,by go_num,HN2.o,HB.o,HXX.o⟩
  case measure=>simp[intOf];omega
 have hke:k=B.ob.length:=by omega
 clear hb;go_wp2_with fail
 go_returns
 exact⟨⟨-1,rfl,.inl ⟨rfl,fun j q hj=>HN.o j q (by rw[hke];exact(List.getElem?_eq_some_iff.1 hj).1) hj⟩⟩,HB.o⟩
theorem zones{la ha fa ga:Option Addr}{ln lc hn hc fn fc gn gc:Nat}(S:Se)(w:World):Calls Tryz.prog 22 #[.agg #[.int .i64 S.li,.int .i64 S.p0,.int .i64 S.p1,.int .i64 S.p2,.int .i64 S.p3,.slice la ln lc,.slice ha hn hc,.slice fa fn fc,.slice ga gn gc,.bool S.em,.bool S.py,.bool S.kp,.int .i64 S.mu,.int .i64 S.ac]] w fun e w' =>e= .returned (.agg #[.slice la ln lc,.slice ha hn hc,.slice fa fn fc,.slice ga gn gc])/\Below w.heap.size w w':=by
 go_enter Tryz.func22,Tryz.ntmps22;go_wp2_with fail
 exact bodyPost_ret (v:= .agg #[.slice la ln lc,.slice ha hn hc,.slice fa fn fc,.slice ga gn gc]) (by simp[results,Tryz.results22,go_sem]) rfl ⟨rfl,by go_grown⟩
theorem all_false{α:Type}{p:α->Bool}{l:List α}{k:Nat}{x:α}(h:l[k]? =some x)(hp:p x=false):l.all p=false:=by
 rw[<-Bool.not_eq_true,List.all_eq_true];intro h1
 have:=h1 x (List.mem_of_getElem? h)
 rw[hp] at this
 cases this
def RitL(w:World)(C:Array Value)(x:It)(i:Value)(wr:World):Prop:=∃k:Nat,k<=x.tg.length/\i= .int .i64 k/\(x.tg.take k).all tgB=true/\Below w.heap.size w wr/\Ro wr w.heap.size C 73
theorem ritem(x:It)(s:Sl)(q:Bool)(w:World)(ht:Rw tc 2 w s.v x.tg):Calls Tryz.prog 23 #[.agg #[.int .i64 x.pl,.int .i64 x.id,.int .i64 x.cd,.int .i64 x.tr,.slice s.a s.n s.c],.bool q] w fun e w' =>e= .returned (.bool (itB x q))/\Below w.heap.size w w':=by
 obtain⟨hmx,a0,c0,hv,hf⟩:=ht.form
 have HF:=Hd hf
 have hsn:s.n=x.tg.length:=by
  unfold Sl.v at hv
  simp only[Value.slice.injEq] at hv
  exact hv.2.1
 have hsa:s.a=a0:=by
  unfold Sl.v at hv
  simp only[Value.slice.injEq] at hv
  exact hv.1
 clear hv ht hf
 obtain⟨sa,n,sc⟩:=s
 subst hsa;have HN:Hid (x.tg.length=n):=Hd hsn.symm;have hnm:n<=9223372036854775807:=by have:=HN.o;omega
 clear hsn hmx;change Hid (0<x.tg.length->∃b off,sa=some ⟨b,off,none⟩/\_) at HF
 go_enter Tryz.func23,Tryz.ntmps23
 go_upto_region 1 with fail
 have HX:Hid (Ro (w.alloc (.cells #[.int .i64 x.pl,.int .i64 x.id,.int .i64 x.cd,.int .i64 x.tr,.slice sa n sc] 73)) w.heap.size #[.int .i64 x.pl,.int .i64 x.id,.int .i64 x.cd,.int .i64 x.tr,.slice sa n sc] 73):=Hd (Ro.new _ _ _)
 obtain⟨wz,hwz⟩:∃W,W=w.alloc (.cells #[.int .i64 x.pl,.int .i64 x.id,.int .i64 x.cd,.int .i64 x.tr,.slice sa n sc] 73):=⟨_,rfl⟩
 have HBZ:Hid (Below w.heap.size w wz):=Hd (by rw[hwz];exact(Below.refl _ _).alloc (Nat.le_refl _) _);have c0:wz.cell? ⟨w.heap.size,0,none⟩=some (.int .i64 x.pl):=by rw[hwz];exact cell_of_row _ _ 0 _ 73 (0,0) (heap_alloc_new _ _)
 have c1:wz.cell? ⟨w.heap.size,1,none⟩=some (.int .i64 x.id):=by rw[hwz];exact cell_of_row _ _ 1 _ 73 (0,0) (heap_alloc_new _ _)
 have c2:wz.cell? ⟨w.heap.size,2,none⟩=some (.int .i64 x.cd):=by rw[hwz];exact cell_of_row _ _ 2 _ 73 (0,0) (heap_alloc_new _ _)
 have c3:wz.cell? ⟨w.heap.size,3,none⟩=some (.int .i64 x.tr):=by rw[hwz];exact cell_of_row _ _ 3 _ 73 (0,0) (heap_alloc_new _ _)
 have c4:wz.cell? ⟨w.heap.size,4,none⟩=some (.slice sa n sc):=by rw[hwz];exact cell_of_row _ _ 4 _ 73 (0,0) (heap_alloc_new _ _)
 rw[<-hwz] at HX ⊢
 clear hwz
 by_cases h01:x.pl<0
 ·have t01:decide (x.pl<0)=true:=decide_eq_true h01
  have HR:Hid (itB x q=false):=Hd (itB_false (fun h=>by have:=h.1;omega));clear h01;go_wp2_with fail
  go_returns
  exact⟨by rw[HR.o];rfl,HBZ.o⟩
 have t01:decide (x.pl<0)=false:=decide_eq_false h01
 by_cases h02:x.pl>1
 ·have t02:decide (x.pl>1)=true:=decide_eq_true h02
  have HR:Hid (itB x q=false):=Hd (itB_false (fun h=>by have:=h.1;omega));clear h02;go_wp2_with fail
  go_returns
  exact⟨by rw[HR.o];rfl,HBZ.o⟩
 have t02:decide (x.pl>1)=false:=decide_eq_false h02
 by_cases h11:x.id<1
 ·have t11:decide (x.id<1)=true:=decide_eq_true h11
  have HR:Hid (itB x q=false):=Hd (itB_false (fun h=>by have:=h.2.1;omega));clear h11;go_wp2_with fail
  go_returns
  exact⟨by rw[HR.o];rfl,HBZ.o⟩
 have t11:decide (x.id<1)=false:=decide_eq_false h11
 by_cases h12:x.id>500
 ·have t12:decide (x.id>500)=true:=decide_eq_true h12
  have HR:Hid (itB x q=false):=Hd (itB_false (fun h=>by have:=h.2.1;omega));clear h12;go_wp2_with fail
  go_returns
  exact⟨by rw[HR.o];rfl,HBZ.o⟩
 have t12:decide (x.id>500)=false:=decide_eq_false h12
 by_cases h21:x.cd<0
 ·have t21:decide (x.cd<0)=true:=decide_eq_true h21
  have HR:Hid (itB x q=false):=Hd (itB_false (fun h=>by have:=h.2.2.1;omega));clear h21;go_wp2_with fail
  go_returns
  exact⟨by rw[HR.o];rfl,HBZ.o⟩
 have t21:decide (x.cd<0)=false:=decide_eq_false h21
 by_cases h22:x.cd>399
 ·have t22:decide (x.cd>399)=true:=decide_eq_true h22
  have HR:Hid (itB x q=false):=Hd (itB_false (fun h=>by have:=h.2.2.1;omega));clear h22;go_wp2_with fail
  go_returns
  exact⟨by rw[HR.o];rfl,HBZ.o⟩
 have t22:decide (x.cd>399)=false:=decide_eq_false h22
 by_cases h31:x.tr< -1
 ·have t31:decide (x.tr< -1)=true:=decide_eq_true h31
  have HR:Hid (itB x q=false):=Hd (itB_false (fun h=>by have:=h.2.2.2.1;omega));clear h31;go_wp2_with fail
  go_returns
  exact⟨by rw[HR.o];rfl,HBZ.o⟩
 have t31:decide (x.tr< -1)=false:=decide_eq_false h31
 by_cases h32:x.tr>1
 ·have t32:decide (x.tr>1)=true:=decide_eq_true h32
  have HR:Hid (itB x q=false):=Hd (itB_false (fun h=>by have:=h.2.2.2.1;omega));clear h32;go_wp2_with fail
  go_returns
  exact⟨by rw[HR.o];rfl,HBZ.o⟩
 have t32:decide (x.tr>1)=false:=decide_eq_false h32
 by_cases h5:n<=4
 rotate_left
 ·have t5:decide ((n:Int)>4)=true:=decide_eq_true (by omega)
  have HR:Hid (itB x q=false):=Hd (itB_false (fun h=>by have:=h.2.2.2.2.1;have:=HN.o;omega));clear h5;go_wp2_with fail
  go_returns
  exact⟨by rw[HR.o];rfl,HBZ.o⟩
 have t5:decide ((n:Int)>4)=false:=decide_eq_false (by omega);have HIN:Hid ((0<=x.tr->x.tg.length=0)->(q=true->0<=x.tr)->itB x q=x.tg.all tgB):=Hd (fun h6 h7=>itB_true ⟨by omega,by omega,by omega,by omega,by rw[HN.o];exact h5,h6,h7⟩);have HIF:Hid (¬((0<=x.tr->x.tg.length=0)/\(q=true->0<=x.tr))->itB x q=false):=Hd (fun h=>itB_false (fun g=>h ⟨g.2.2.2.2.2.1,g.2.2.2.2.2.2⟩));clear h01 h02 h11 h12 h21 h22 h31 h32 h5
 go_upto_region 3 with fail
 clear t01 t02 t11 t12 t21 t22 t31 t32 t5
 by_cases g0:0<=x.tr
 ·have u0:decide (x.tr>=0)=true:=decide_eq_true g0
  have u1:decide (x.tr<0)=false:=decide_eq_false (by omega)
  by_cases g1:n=0
  ·have u2:decide ((n:Int)>0)=false:=decide_eq_false (by omega)
   have HR:Hid (itB x q=x.tg.all tgB):=Hd (HIN.o (fun _=>by rw[HN.o];exact g1) (fun _=>g0));have u3:¬(0<n):=by omega
   have u4:¬((0:Int)<(n:Int)):=by omega
   clear g0 g1
   cases q
   all_goals
    go_upto_region 5 with fail
    clear u3 u4;go_wp2_with fail
    go_loopw [5] (fun i wr=>RitL w #[.int .i64 x.pl,.int .i64 x.id,.int .i64 x.cd,.int .i64 x.tr,.slice sa n sc] x i wr) (fun i _=>n-(intOf i).toNat)
    case atStart=>exact⟨0,Nat.zero_le _,rfl,rfl,HBZ.o,HX.o⟩
    obtain⟨k,hk,rfl,hn,hb,hx⟩:=hrel
    have HA:=Hd hn;have HB:=Hd hb;have HXX:=Hd hx;clear hn hx HX HBZ;have c4:wr.cell? ⟨w.heap.size,4,none⟩=some (.slice sa n sc):=HXX.o.cell 4
    by_cases hlt2:k<n
    ·obtain⟨b,off,rfl,hlt,hc⟩:=HF.o (by have:=HN.o;omega)
     obtain⟨t,ht⟩:∃t,x.tg[k]? =some t:=⟨_,List.getElem?_eq_getElem (by have:=HN.o;omega)⟩
     have d0:wr.cell? ⟨b,off+k*2,none⟩=some (.int .i64 t.id):=(hb.cell (p:=⟨b,off+k*2,none⟩) hlt).trans (hc k t ht 0 _ rfl);have d1:wr.cell? ⟨b,off+k*2+1,none⟩=some (.int .i64 t.pl):=(hb.cell (p:=⟨b,off+k*2+1,none⟩) hlt).trans (hc k t ht 1 _ rfl);have i1:(0:Int)<=(k:Int):=by omega
     have i2:(k:Int)<(n:Int):=by omega
     have HT:=Hd ht;clear hc ht hb
     go_upto_region 9 with fail
     obtain⟨wq,hwq⟩:∃W,W=wr.alloc (.cells #[.int .i64 t.id,.int .i64 t.pl] 98):=⟨_,rfl⟩
     rw[<-hwq];have hqb:Below wr.heap.size wr wq:=by rw[hwq];exact(Below.refl _ _).alloc (Nat.le_refl _) _
     have hqc:∀j,wq.cell? ⟨wr.heap.size,j,none⟩=(#[.int .i64 t.id,.int .i64 t.pl]:Array Value)[j]? :=fun j=>by rw[hwq];exact cell_of_row _ _ j _ 98 (0,0) (heap_alloc_new _ _)
     clear hwq d0 d1 c4;replace HB:=Hd (below_via HB.o hqb);replace HXX:=Hd (HXX.o.below hqb)
     obtain⟨n0,hn0⟩:∃n,n=wr.heap.size:=⟨_,rfl⟩
     rw[<-hn0] at hqc ⊢
     have q0:wq.cell? ⟨n0,0,none⟩=some (.int .i64 t.id):=hqc 0;have q1:wq.cell? ⟨n0,1,none⟩=some (.int .i64 t.pl):=hqc 1;clear hqb hqc hn0
     by_cases a:t.id<0
     ·have ta:decide (t.id<0)=true:=decide_eq_true a
      have HF2:Hid (x.tg.all tgB=false):=Hd (all_false HT.o (decide_eq_false (by omega)));clear a;go_wp2_with fail
      go_returns
      exact⟨by rw[HR.o,HF2.o];rfl,HB.o⟩
     have ta:decide (t.id<0)=false:=decide_eq_false a
     by_cases b:t.id>500
     ·have tb:decide (t.id>500)=true:=decide_eq_true b
      have HF2:Hid (x.tg.all tgB=false):=Hd (all_false HT.o (decide_eq_false (by omega)));clear b;go_wp2_with fail
      go_returns
      exact⟨by rw[HR.o,HF2.o];rfl,HB.o⟩
     have tb:decide (t.id>500)=false:=decide_eq_false b
     by_cases c:t.pl<0
     ·have tc:decide (t.pl<0)=true:=decide_eq_true c
      have HF2:Hid (x.tg.all tgB=false):=Hd (all_false HT.o (decide_eq_false (by omega)));clear c;go_wp2_with fail
      go_returns
      exact⟨by rw[HR.o,HF2.o];rfl,HB.o⟩
     have tc:decide (t.pl<0)=false:=decide_eq_false c
     by_cases d:t.pl>1
     ·have td:decide (t.pl>1)=true:=decide_eq_true d
      have HF2:Hid (x.tg.all tgB=false):=Hd (all_false HT.o (decide_eq_false (by omega)));clear d;go_wp2_with fail
      go_returns
      exact⟨by rw[HR.o,HF2.o];rfl,HB.o⟩
     have td:decide (t.pl>1)=false:=decide_eq_false d
     by_cases e:t.id>0
     ·have te:decide (t.id>0)=true:=decide_eq_true e
      by_cases f:t.pl=0
      ·have tf:(t.pl !=0)=false:=by simp[f]
       have tf2:(t.pl==0)=true:=by simp[f]
       have HTG:Hid (tgB t=true):=Hd (decide_eq_true (by omega));clear a b c d e f;have HA2:Hid ((x.tg.take (k+1)).all tgB=true):=Hd (by rw[List.take_add_one,HT.o,Option.toList_some,List.all_append,HA.o];simp[HTG.o]);go_wp2_with fail
       go_roundw
       case rel=>exact⟨k+1,by have:=HN.o;omega,by go_num,HA2.o,HB.o,HXX.o⟩
       case measure=>simp[intOf];omega
      have tf:(t.pl !=0)=true:=by simp[f]
      have tf2:(t.pl==0)=false:=beq_false_of_ne f;have HF2:Hid (x.tg.all tgB=false):=Hd (all_false HT.o (decide_eq_false (by omega)));clear a b c d e f;go_wp2_with fail
      go_returns
      exact⟨by rw[HR.o,HF2.o];rfl,HB.o⟩
     have te:decide (t.id>0)=false:=decide_eq_false e;have HTG:Hid (tgB t=true):=Hd (decide_eq_true (by omega));clear a b c d e;have HA2:Hid ((x.tg.take (k+1)).all tgB=true):=Hd (by rw[List.take_add_one,HT.o,Option.toList_some,List.all_append,HA.o];simp[HTG.o]);go_wp2_with fail
     go_roundw
     case rel=>exact⟨k+1,by have:=HN.o;omega,by go_num,HA2.o,HB.o,HXX.o⟩
     case measure=>simp[intOf];omega
    have HAL:Hid (x.tg.all tgB=true):=Hd (by have h1:=HA.o;rw[List.take_of_length_le (by have:=HN.o;omega)] at h1;exact h1);clear hb;go_wp2_with fail
    go_returns
    exact⟨by rw[HR.o,HAL.o];rfl,HB.o⟩
  have u2:decide ((n:Int)>0)=true:=decide_eq_true (by omega);have HR:Hid (itB x q=false):=Hd (HIF.o (fun h=>g1 (by rw[<-HN.o];exact h.1 g0)));have g1':(0:Int)<(n:Int):=by omega
  clear g0;go_wp2_with fail
  go_returns
  exact⟨by rw[HR.o];rfl,HBZ.o⟩
 have u0:decide (x.tr>=0)=false:=decide_eq_false g0;have u1:decide (x.tr<0)=true:=decide_eq_true (by omega)
 cases q
 ·have HR:Hid (itB x false=x.tg.all tgB):=Hd (HIN.o (fun h=>absurd h g0) (fun h=>by cases h))
  clear g0;go_wp2_with fail
  go_loopw [5] (fun i wr=>RitL w #[.int .i64 x.pl,.int .i64 x.id,.int .i64 x.cd,.int .i64 x.tr,.slice sa n sc] x i wr) (fun i _=>n-(intOf i).toNat)
  case atStart=>exact⟨0,Nat.zero_le _,rfl,rfl,HBZ.o,HX.o⟩
  obtain⟨k,hk,rfl,hn,hb,hx⟩:=hrel
  have HA:=Hd hn;have HB:=Hd hb;have HXX:=Hd hx;clear hn hx HX HBZ;have c4:wr.cell? ⟨w.heap.size,4,none⟩=some (.slice sa n sc):=HXX.o.cell 4
  by_cases hlt2:k<n
  ·obtain⟨b,off,rfl,hlt,hc⟩:=HF.o (by have:=HN.o;omega)
   obtain⟨t,ht⟩:∃t,x.tg[k]? =some t:=⟨_,List.getElem?_eq_getElem (by have:=HN.o;omega)⟩
   have d0:wr.cell? ⟨b,off+k*2,none⟩=some (.int .i64 t.id):=(hb.cell (p:=⟨b,off+k*2,none⟩) hlt).trans (hc k t ht 0 _ rfl);have d1:wr.cell? ⟨b,off+k*2+1,none⟩=some (.int .i64 t.pl):=(hb.cell (p:=⟨b,off+k*2+1,none⟩) hlt).trans (hc k t ht 1 _ rfl);have i1:(0:Int)<=(k:Int):=by omega
   have i2:(k:Int)<(n:Int):=by omega
   have HT:=Hd ht;clear hc ht hb
   go_upto_region 9 with fail
   obtain⟨wq,hwq⟩:∃W,W=wr.alloc (.cells #[.int .i64 t.id,.int .i64 t.pl] 98):=⟨_,rfl⟩
   rw[<-hwq];have hqb:Below wr.heap.size wr wq:=by rw[hwq];exact(Below.refl _ _).alloc (Nat.le_refl _) _
   have hqc:∀j,wq.cell? ⟨wr.heap.size,j,none⟩=(#[.int .i64 t.id,.int .i64 t.pl]:Array Value)[j]? :=fun j=>by rw[hwq];exact cell_of_row _ _ j _ 98 (0,0) (heap_alloc_new _ _)
   clear hwq d0 d1 c4;replace HB:=Hd (below_via HB.o hqb);replace HXX:=Hd (HXX.o.below hqb)
   obtain⟨n0,hn0⟩:∃n,n=wr.heap.size:=⟨_,rfl⟩
   rw[<-hn0] at hqc ⊢
   have q0:wq.cell? ⟨n0,0,none⟩=some (.int .i64 t.id):=hqc 0;have q1:wq.cell? ⟨n0,1,none⟩=some (.int .i64 t.pl):=hqc 1;clear hqb hqc hn0
   by_cases a:t.id<0
   ·have ta:decide (t.id<0)=true:=decide_eq_true a
    have HF2:Hid (x.tg.all tgB=false):=Hd (all_false HT.o (decide_eq_false (by omega)));clear a;go_wp2_with fail
    go_returns
    exact⟨by rw[HR.o,HF2.o];rfl,HB.o⟩
   have ta:decide (t.id<0)=false:=decide_eq_false a
   by_cases b:t.id>500
   ·have tb:decide (t.id>500)=true:=decide_eq_true b
    have HF2:Hid (x.tg.all tgB=false):=Hd (all_false HT.o (decide_eq_false (by omega)));clear b;go_wp2_with fail
    go_returns
    exact⟨by rw[HR.o,HF2.o];rfl,HB.o⟩
   have tb:decide (t.id>500)=false:=decide_eq_false b
   by_cases c:t.pl<0
   ·have tc:decide (t.pl<0)=true:=decide_eq_true c
    have HF2:Hid (x.tg.all tgB=false):=Hd (all_false HT.o (decide_eq_false (by omega)));clear c;go_wp2_with fail
    go_returns
    exact⟨by rw[HR.o,HF2.o];rfl,HB.o⟩
   have tc:decide (t.pl<0)=false:=decide_eq_false c
   by_cases d:t.pl>1
   ·have td:decide (t.pl>1)=true:=decide_eq_true d
    have HF2:Hid (x.tg.all tgB=false):=Hd (all_false HT.o (decide_eq_false (by omega)));clear d;go_wp2_with fail
    go_returns
    exact⟨by rw[HR.o,HF2.o];rfl,HB.o⟩
   have td:decide (t.pl>1)=false:=decide_eq_false d
   by_cases e:t.id>0
   ·have te:decide (t.id>0)=true:=decide_eq_true e
    by_cases f:t.pl=0
    ·have tf:(t.pl !=0)=false:=by simp[f]
     have tf2:(t.pl==0)=true:=by simp[f]
     have HTG:Hid (tgB t=true):=Hd (decide_eq_true (by omega));clear a b c d e f;have HA2:Hid ((x.tg.take (k+1)).all tgB=true):=Hd (by rw[List.take_add_one,HT.o,Option.toList_some,List.all_append,HA.o];simp[HTG.o]);go_wp2_with fail
     go_roundw
     case rel=>exact⟨k+1,by have:=HN.o;omega,by go_num,HA2.o,HB.o,HXX.o⟩
     case measure=>simp[intOf];omega
    have tf:(t.pl !=0)=true:=by simp[f]
    have tf2:(t.pl==0)=false:=beq_false_of_ne f;have HF2:Hid (x.tg.all tgB=false):=Hd (all_false HT.o (decide_eq_false (by omega)));clear a b c d e f;go_wp2_with fail
    go_returns
    exact⟨by rw[HR.o,HF2.o];rfl,HB.o⟩
   have te:decide (t.id>0)=false:=decide_eq_false e;have HTG:Hid (tgB t=true):=Hd (decide_eq_true (by omega));clear a b c d e;have HA2:Hid ((x.tg.take (k+1)).all tgB=true):=Hd (by rw[List.take_add_one,HT.o,Option.toList_some,List.all_append,HA.o];simp[HTG.o]);go_wp2_with fail
   go_roundw
   case rel=>exact⟨k+1,by have:=HN.o;omega,by go_num,HA2.o,HB.o,HXX.o⟩
   case measure=>simp[intOf];omega
  have HAL:Hid (x.tg.all tgB=true):=Hd (by have h1:=HA.o;rw[List.take_of_length_le (by have:=HN.o;omega)] at h1;exact h1);clear hb;go_wp2_with fail
  go_returns
  exact⟨by rw[HR.o,HAL.o];rfl,HB.o⟩
 have HR:Hid (itB x true=false):=Hd (HIF.o (fun h=>g0 (h.2 rfl)));clear g0;go_wp2_with fail
 go_returns
 exact⟨by rw[HR.o];rfl,HBZ.o⟩

end Go.Proofs.YtpbepnpnpopmfaaGreat
