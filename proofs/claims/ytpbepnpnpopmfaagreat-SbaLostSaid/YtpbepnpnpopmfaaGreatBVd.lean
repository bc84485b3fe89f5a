/- Boards that are valid, by the code. -/
import Derived.Test.YtpbepnpnpopmfaaGreatBFg
import Derived.Test.YtpbepnpnpopmfaaGreatBPd
import Derived.Test.YtpbepnpnpopmfaaGreatBS
import Derived.Test.YtpbepnpnpopmfaaGreatBRg
import Derived.Deep.DeepCutAuto
import Derived.LoopTactic
import Derived.Deep.MidRow
open Go.RowKit Go.Proofs.YtpbepnpnpopmfaaGreat
set_option maxRecDepth 100000
set_option maxHeartbeats 4000000
namespace Go.Proofs.YtpbepnpnpopmfaaGreat
open Plain
set_option linter.unusedVariables false
set_option linter.unusedSimpArgs false

def seatsL(s:Bs)(B:Bd):List Value:=[.int .i64 B.s0.li,.int .i64 B.s0.p0,.int .i64 B.s0.p1,.int .i64 B.s0.p2,.int .i64 B.s0.p3,s.l0.v,s.h0.v,s.f0.v,s.g0.v,.bool B.s0.em,.bool B.s0.py,.bool B.s0.kp,.int .i64 B.s0.mu,.int .i64 B.s0.ac,.int .i64 B.s1.li,.int .i64 B.s1.p0,.int .i64 B.s1.p1,.int .i64 B.s1.p2,.int .i64 B.s1.p3,s.l1.v,s.h1.v,s.f1.v,s.g1.v,.bool B.s1.em,.bool B.s1.py,.bool B.s1.kp,.int .i64 B.s1.mu,.int .i64 B.s1.ac]
theorem Bx.seats{w:World}{P:Nat}{s:Bs}{B:Bd}(h:Bx w P s B):w.rangeAt P 1 (seatsL s B):=fun j v hv=>by
 rw[h.cell];have hj:j<28:=(List.getElem?_eq_some_iff.1 hv).1
 have he:(seatsL s B)[j]? =(bcells s B)[1+j]? :=match j,hj with
  |0,_=>rfl
  |1,_=>rfl
  |2,_=>rfl
  |3,_=>rfl
  |4,_=>rfl
  |5,_=>rfl
  |6,_=>rfl
  |7,_=>rfl
  |8,_=>rfl
  |9,_=>rfl
  |10,_=>rfl
  |11,_=>rfl
  |12,_=>rfl
  |13,_=>rfl
  |14,_=>rfl
  |15,_=>rfl
  |16,_=>rfl
  |17,_=>rfl
  |18,_=>rfl
  |19,_=>rfl
  |20,_=>rfl
  |21,_=>rfl
  |22,_=>rfl
  |23,_=>rfl
  |24,_=>rfl
  |25,_=>rfl
  |26,_=>rfl
  |27,_=>rfl
 rw[<-he];exact hv
theorem idx2(s:Bs)(B:Bd){p:Nat}(hp:p<2){S:Se}(hS:B.seat p=S){la ha fa ga:Option Addr}{ln lc hn hc fn fc gn gc:Nat}(h0:s.zl p 0=⟨la,ln,lc⟩)(h1:s.zl p 1=⟨ha,hn,hc⟩)(h2:s.zl p 2=⟨fa,fn,fc⟩)(h3:s.zl p 3=⟨ga,gn,gc⟩)(w:World):(Instr.index 29 (.agg (seatsL s B).toArray) (.int .i64 (p:Nat))).run Tryz.prog w= .ok (.agg #[.int .i64 S.li,.int .i64 S.p0,.int .i64 S.p1,.int .i64 S.p2,.int .i64 S.p3,.slice la ln lc,.slice ha hn hc,.slice fa fn fc,.slice ga gn gc,.bool S.em,.bool S.py,.bool S.kp,.int .i64 S.mu,.int .i64 S.ac]) w:=by
 have hp:p=0\/p=1:=by omega
 subst hS;rcases hp with rfl|rfl
 ·have e0:s.l0=⟨la,ln,lc⟩:=h0
  have e1:s.h0=⟨ha,hn,hc⟩:=h1;have e2:s.f0=⟨fa,fn,fc⟩:=h2;have e3:s.g0=⟨ga,gn,gc⟩:=h3;have e:(Instr.index 29 (.agg (seatsL s B).toArray) (.int .i64 0)).run Tryz.prog w= .ok (.agg #[.int .i64 B.s0.li,.int .i64 B.s0.p0,.int .i64 B.s0.p1,.int .i64 B.s0.p2,.int .i64 B.s0.p3,s.l0.v,s.h0.v,s.f0.v,s.g0.v,.bool B.s0.em,.bool B.s0.py,.bool B.s0.kp,.int .i64 B.s0.mu,.int .i64 B.s0.ac]) w:=by kernel_rfl
  rw[e0,e1,e2,e3] at e
  exact e
 have e0:s.l1=⟨la,ln,lc⟩:=h0;have e1:s.h1=⟨ha,hn,hc⟩:=h1;have e2:s.f1=⟨fa,fn,fc⟩:=h2;have e3:s.g1=⟨ga,gn,gc⟩:=h3;have e:(Instr.index 29 (.agg (seatsL s B).toArray) (.int .i64 1)).run Tryz.prog w= .ok (.agg #[.int .i64 B.s1.li,.int .i64 B.s1.p0,.int .i64 B.s1.p1,.int .i64 B.s1.p2,.int .i64 B.s1.p3,s.l1.v,s.h1.v,s.f1.v,s.g1.v,.bool B.s1.em,.bool B.s1.py,.bool B.s1.kp,.int .i64 B.s1.mu,.int .i64 B.s1.ac]) w:=by kernel_rfl
 rw[e0,e1,e2,e3] at e
 exact e
def VaL(w:World)(s:Bs)(B:Bd)(v:Value)(wr:World):Prop:=∃p:Nat,p<=2/\v= .int .i64 p/\Below w.heap.size w wr/\Bx wr w.heap.size s B/\∀q,q<p->seB (B.seat q)=true
theorem poolB_eq(S:Se):poolB S=decide ((0<=S.p0/\S.p0<=99)/\(0<=S.p1/\S.p1<=99)/\(0<=S.p2/\S.p2<=99)/\(0<=S.p3/\S.p3<=99)):=rfl
theorem bvalid(s:Bs)(B:Bd)(w:World)(h:BdR w s B)(hi:B.I)(hsm:B.Sm):Calls Tryz.prog 32 #[bv s B] w fun e w' =>(∃r,e= .returned (.bool r)/\(r=true↔VB B))/\Below w.heap.size w w':=by
 have HR:=Hd h;have HI:=Hd hi;have HSM:=Hd hsm;clear h hi hsm
 obtain⟨_,ao,co,hvo,_⟩:=HR.o.ob.form
 obtain⟨l1,hl1,hrst,_⟩:=HR.o.st
 obtain⟨l2,hl2,hrqu,_⟩:=HR.o.qu
 obtain⟨_,ast,cs,hvs,_⟩:=hrst.form
 obtain⟨_,aq,cq,hvq,_⟩:=hrqu.form
 simp only[Sl.v,Value.slice.injEq] at hvo hvs hvq
 have en1:l1.length=B.st.length:=by rw[<-hl1,List.length_map]
 have en2:l2.length=B.qu.length:=by rw[<-hl2,List.length_map]
 have HVO:=Hd hvo;have HVS:Hid (s.st.a=ast/\s.st.n=B.st.length/\s.st.c=cs):=Hd (by rw[<-en1];exact hvs);have HVQ:Hid (s.qu.a=aq/\s.qu.n=B.qu.length/\s.qu.c=cq):=Hd (by rw[<-en2];exact hvq);clear hvo hvs hvq en1 en2 hrst hrqu hl1 hl2;go_enter Tryz.func32,Tryz.ntmps32
 go_upto_region 1 with fail
 change Code.wp Tryz.prog _ _ _ (w.alloc (.cells (bcells s B) 34))
 obtain⟨wz,hwz⟩:∃W,W=w.alloc (.cells (bcells s B) 34):=⟨_,rfl⟩
 have HX:Hid (Bx wz w.heap.size s B):=Hd (by rw[hwz];exact heap_alloc_new _ _);have HBZ:Hid (Below w.heap.size w wz):=Hd (by rw[hwz];exact(Below.refl _ _).alloc (Nat.le_refl _) _);rw[<-hwz];clear hwz;have c33:wz.cell? ⟨w.heap.size,33,none⟩=some (.int .i64 B.tu):=HX.o.cell 33;have c34:wz.cell? ⟨w.heap.size,34,none⟩=some (.int .i64 B.ac):=HX.o.cell 34;have c35:wz.cell? ⟨w.heap.size,35,none⟩=some (.int .i64 B.ph):=HX.o.cell 35;have c36:wz.cell? ⟨w.heap.size,36,none⟩=some (.int .i64 B.ho):=HX.o.cell 36;have c37:wz.cell? ⟨w.heap.size,37,none⟩=some (.int .i64 B.pa):=HX.o.cell 37;have c0:wz.cell? ⟨w.heap.size,0,none⟩=some (.slice ao B.ob.length co):=by rw[HX.o.cell 0];show some (Value.slice s.ob.a s.ob.n s.ob.c)=_;rw[HVO.o.1,HVO.o.2.1,HVO.o.2.2]
 have c29:wz.cell? ⟨w.heap.size,29,none⟩=some (.slice ast B.st.length cs):=by rw[HX.o.cell 29];show some (Value.slice s.st.a s.st.n s.st.c)=_;rw[HVS.o.1,HVS.o.2.1,HVS.o.2.2]
 have c30:wz.cell? ⟨w.heap.size,30,none⟩=some (.slice aq B.qu.length cq):=by rw[HX.o.cell 30];show some (Value.slice s.qu.a s.qu.n s.qu.c)=_;rw[HVQ.o.1,HVQ.o.2.1,HVQ.o.2.2]
 cases q0:decide ((0:Int)<=B.ac/\B.ac<=1)
 ·have HN:Hid (¬VB B):=Hd (fun h=>of_decide_eq_false q0 (h.num.1))
  go_wp2_with fail
  with_reducible refine(withinc _ _ _ _ _ q0).mono ?_
  rintro e w' ⟨rfl,rfl⟩;go_wp2_with fail
  go_returns
  exact⟨⟨false,rfl,⟨fun h=>(by cases h),fun h=>absurd h HN.o⟩⟩,HBZ.o⟩
 go_wp2_with fail
 with_reducible refine(withinc _ _ _ _ _ q0).mono ?_
 rintro e w' ⟨rfl,rfl⟩;have Hq0:=Hd q0;clear q0
 cases q1:decide ((0:Int)<=B.tu/\B.tu<=1000)
 ·have HN:Hid (¬VB B):=Hd (fun h=>of_decide_eq_false q1 (h.num.2.1))
  go_wp2_with fail
  with_reducible refine(withinc _ _ _ _ _ q1).mono ?_
  rintro e w' ⟨rfl,rfl⟩;go_wp2_with fail
  go_returns
  exact⟨⟨false,rfl,⟨fun h=>(by cases h),fun h=>absurd h HN.o⟩⟩,HBZ.o⟩
 go_wp2_with fail
 with_reducible refine(withinc _ _ _ _ _ q1).mono ?_
 rintro e w' ⟨rfl,rfl⟩;have Hq1:=Hd q1;clear q1
 cases q2:decide ((0:Int)<=B.ph/\B.ph<=10)
 ·have HN:Hid (¬VB B):=Hd (fun h=>of_decide_eq_false q2 (h.num.2.2.1))
  go_wp2_with fail
  with_reducible refine(withinc _ _ _ _ _ q2).mono ?_
  rintro e w' ⟨rfl,rfl⟩;go_wp2_with fail
  go_returns
  exact⟨⟨false,rfl,⟨fun h=>(by cases h),fun h=>absurd h HN.o⟩⟩,HBZ.o⟩
 go_wp2_with fail
 with_reducible refine(withinc _ _ _ _ _ q2).mono ?_
 rintro e w' ⟨rfl,rfl⟩;have Hq2:=Hd q2;clear q2
 cases q3:decide ((-1:Int)<=B.ho/\B.ho<=1)
 ·have HN:Hid (¬VB B):=Hd (fun h=>of_decide_eq_false q3 (h.num.2.2.2.1))
  go_wp2_with fail
  with_reducible refine(withinc _ _ _ _ _ q3).mono ?_
  rintro e w' ⟨rfl,rfl⟩;go_wp2_with fail
  go_returns
  exact⟨⟨false,rfl,⟨fun h=>(by cases h),fun h=>absurd h HN.o⟩⟩,HBZ.o⟩
 go_wp2_with fail
 with_reducible refine(withinc _ _ _ _ _ q3).mono ?_
 rintro e w' ⟨rfl,rfl⟩;have Hq3:=Hd q3;clear q3
 cases q4:decide ((0:Int)<=B.pa/\B.pa<=2)
 ·have HN:Hid (¬VB B):=Hd (fun h=>of_decide_eq_false q4 (h.num.2.2.2.2.1))
  go_wp2_with fail
  with_reducible refine(withinc _ _ _ _ _ q4).mono ?_
  rintro e w' ⟨rfl,rfl⟩;go_wp2_with fail
  go_returns
  exact⟨⟨false,rfl,⟨fun h=>(by cases h),fun h=>absurd h HN.o⟩⟩,HBZ.o⟩
 go_wp2_with fail
 with_reducible refine(withinc _ _ _ _ _ q4).mono ?_
 rintro e w' ⟨rfl,rfl⟩;have Hq4:=Hd q4;clear q4
 by_cases hob:B.ob.length<=500
 rotate_left
 ·have tob:decide ((B.ob.length:Int)>500)=true:=decide_eq_true (by omega)
  have HN:Hid (¬VB B):=Hd (fun h=>hob h.num.2.2.2.2.2.1);clear hob;go_wp2_with fail
  go_returns
  exact⟨⟨false,rfl,⟨fun h=>(by cases h),fun h=>absurd h HN.o⟩⟩,HBZ.o⟩
 have tob:decide ((B.ob.length:Int)>500)=false:=decide_eq_false (by omega);have HLob:=Hd hob;clear hob
 by_cases hst:B.st.length<=200
 rotate_left
 ·have tst:decide ((B.st.length:Int)>200)=true:=decide_eq_true (by omega)
  have HN:Hid (¬VB B):=Hd (fun h=>hst h.num.2.2.2.2.2.2.1);clear hst;go_wp2_with fail
  go_returns
  exact⟨⟨false,rfl,⟨fun h=>(by cases h),fun h=>absurd h HN.o⟩⟩,HBZ.o⟩
 have tst:decide ((B.st.length:Int)>200)=false:=decide_eq_false (by omega);have HLst:=Hd hst;clear hst
 by_cases hqu:B.qu.length<=200
 rotate_left
 ·have tqu:decide ((B.qu.length:Int)>200)=true:=decide_eq_true (by omega)
  have HN:Hid (¬VB B):=Hd (fun h=>hqu h.num.2.2.2.2.2.2.2);clear hqu;go_wp2_with fail
  go_returns
  exact⟨⟨false,rfl,⟨fun h=>(by cases h),fun h=>absurd h HN.o⟩⟩,HBZ.o⟩
 have tqu:decide ((B.qu.length:Int)>200)=false:=decide_eq_false (by omega);have HLqu:=Hd hqu;clear hqu
 go_upto_region 3 with fail
 clear tob tst tqu c33 c34 c35 c36 c37 c0 c29 c30;go_wp2_with (refine wpList_load_mid rfl 29 _ rfl w.heap.size 1 rfl (seatsL s B) _ HX.o.seats Tryz.underlying29 rfl rfl ?_)
 go_loopw [54] (fun i wr=>VaL w s B i wr) (fun i _=>2-(intOf i).toNat)
 case atStart=>exact⟨0,by omega,rfl,HBZ.o,HX.o,fun q h=>by omega⟩
 obtain⟨p,hp,rfl,hb,hx,hs⟩:=hrel
 have HBQ:=Hd hb;have HXQ:=Hd hx;have HSS:=Hd hs;clear hb hx hs HX HBZ
 by_cases hp2:p<2
 ·obtain⟨S,hS⟩:∃S,B.seat p=S:=⟨_,rfl⟩
  obtain⟨⟨la,ln,lc⟩,e0⟩:∃q,s.zl p 0=q:=⟨_,rfl⟩
  obtain⟨⟨ha,hn,hc⟩,e1⟩:∃q,s.zl p 1=q:=⟨_,rfl⟩
  obtain⟨⟨fa,fn,fc⟩,e2⟩:∃q,s.zl p 2=q:=⟨_,rfl⟩
  obtain⟨⟨ga,gn,gc⟩,e3⟩:∃q,s.zl p 3=q:=⟨_,rfl⟩
  have hix:=idx2 s B hp2 hS e0 e1 e2 e3
  have HSE:Hid (VB B->seB S=true):=Hd (fun h=>by
   have h0:=h.se0;have h1:=h.se1
   have:p=0\/p=1:=by omega
   rcases this with rfl|rfl
   ·rw[<-hS];exact h0
   rw[<-hS];exact h1)
  have HS:=Hd hS;have i1:(0:Int)<=(p:Int):=by omega
  have i2:(p:Int)<2:=by omega
  clear e0 e1 e2 e3 hS
  go_upto_region 6 with fail
  clear hix
  obtain⟨wq,hwq⟩:∃W,W=wr.alloc (.cells #[.int .i64 S.li,.int .i64 S.p0,.int .i64 S.p1,.int .i64 S.p2,.int .i64 S.p3,.slice la ln lc,.slice ha hn hc,.slice fa fn fc,.slice ga gn gc,.bool S.em,.bool S.py,.bool S.kp,.int .i64 S.mu,.int .i64 S.ac] 28):=⟨_,rfl⟩
  rw[<-hwq];have hqb:Below wr.heap.size wr wq:=by rw[hwq];exact(Below.refl _ _).alloc (Nat.le_refl _) _
  have hqs:wq.heap.size=wr.heap.size+1:=by rw[hwq];simp
  have hqc:∀j,wq.cell? ⟨wr.heap.size,j,none⟩=(#[.int .i64 S.li,.int .i64 S.p0,.int .i64 S.p1,.int .i64 S.p2,.int .i64 S.p3,.slice la ln lc,.slice ha hn hc,.slice fa fn fc,.slice ga gn gc,.bool S.em,.bool S.py,.bool S.kp,.int .i64 S.mu,.int .i64 S.ac]:Array Value)[j]? :=fun j=>by rw[hwq];exact cell_of_row _ _ j _ 28 (0,0) (heap_alloc_new _ _)
  clear hwq;replace HBQ:=Hd (below_via HBQ.o hqb);replace HXQ:=Hd (HXQ.o.below hqb)
  obtain⟨n0,hn0⟩:∃n,n=wr.heap.size:=⟨_,rfl⟩
  rw[<-hn0] at hqs hqc ⊢
  have hn0q:n0<wq.heap.size:=by omega
  have q0:wq.cell? ⟨n0,0,none⟩=some (.int .i64 S.li):=hqc 0;have q1:wq.cell? ⟨n0,1,none⟩=some (.int .i64 S.p0):=hqc 1;have q2:wq.cell? ⟨n0,2,none⟩=some (.int .i64 S.p1):=hqc 2;have q3:wq.cell? ⟨n0,3,none⟩=some (.int .i64 S.p2):=hqc 3;have q4:wq.cell? ⟨n0,4,none⟩=some (.int .i64 S.p3):=hqc 4;have q12:wq.cell? ⟨n0,12,none⟩=some (.int .i64 S.mu):=hqc 12;have q13:wq.cell? ⟨n0,13,none⟩=some (.int .i64 S.ac):=hqc 13;clear hqb hqs hqc hn0
  cases z0:decide (0<=S.li/\S.li<=9999)
  ·have HN:Hid (¬VB B):=Hd (fun h=>by have h1:=HSE.o h;unfold seB at h1;rw[z0] at h1;simp at h1)
   go_wp2_with fail
   with_reducible refine(withinc _ _ _ _ _ z0).mono ?_
   rintro e w' ⟨rfl,rfl⟩;go_wp2_with fail
   go_returns
   exact⟨⟨false,rfl,⟨fun h=>(by cases h),fun h=>absurd h HN.o⟩⟩,HBQ.o⟩
  go_wp2_with fail
  with_reducible refine(withinc _ _ _ _ _ z0).mono ?_
  rintro e w' ⟨rfl,rfl⟩;have HZ0:=Hd z0;clear z0
  cases z1:decide ((0<=S.p0/\S.p0<=99)/\(0<=S.p1/\S.p1<=99)/\(0<=S.p2/\S.p2<=99)/\(0<=S.p3/\S.p3<=99))
  ·have HN:Hid (¬VB B):=Hd (fun h=>by have h1:=HSE.o h;unfold seB at h1;rw[poolB_eq,z1] at h1;simp at h1)
   go_wp2_with fail
   with_reducible refine(mvalid _ _ _ _ _ _ z1).mono ?_
   rintro e w5 ⟨rfl,hb5⟩;replace HBQ:=Hd (below_via HBQ.o hb5);go_wp2_with fail
   go_returns
   exact⟨⟨false,rfl,⟨fun h=>(by cases h),fun h=>absurd h HN.o⟩⟩,HBQ.o⟩
  go_wp2_with fail
  with_reducible refine(mvalid _ _ _ _ _ _ z1).mono ?_
  rintro e w5 ⟨rfl,hb5⟩;replace HBQ:=Hd (below_via HBQ.o hb5);replace HXQ:=Hd (HXQ.o.below hb5);replace q12:=(hb5.cell (p:=⟨n0,12,none⟩) hn0q).trans q12;replace q13:=(hb5.cell (p:=⟨n0,13,none⟩) hn0q).trans q13;clear hb5 hn0q q0 q1 q2 q3 q4;have HZ1:=Hd z1;clear z1
  cases z2:decide (0<=S.mu/\S.mu<=7)
  ·have HN:Hid (¬VB B):=Hd (fun h=>by have h1:=HSE.o h;unfold seB at h1;rw[z2] at h1;simp at h1)
   go_wp2_with fail
   with_reducible refine(withinc _ _ _ _ _ z2).mono ?_
   rintro e w' ⟨rfl,rfl⟩;go_wp2_with fail
   go_returns
   exact⟨⟨false,rfl,⟨fun h=>(by cases h),fun h=>absurd h HN.o⟩⟩,HBQ.o⟩
  go_wp2_with fail
  with_reducible refine(withinc _ _ _ _ _ z2).mono ?_
  rintro e w' ⟨rfl,rfl⟩;have HZ2:=Hd z2;clear z2
  cases z3:decide (0<=S.ac/\S.ac<=255)
  ·have HN:Hid (¬VB B):=Hd (fun h=>by have h1:=HSE.o h;unfold seB at h1;rw[z3] at h1;simp at h1)
   go_wp2_with fail
   with_reducible refine(withinc _ _ _ _ _ z3).mono ?_
   rintro e w' ⟨rfl,rfl⟩;go_wp2_with fail
   go_returns
   exact⟨⟨false,rfl,⟨fun h=>(by cases h),fun h=>absurd h HN.o⟩⟩,HBQ.o⟩
  go_wp2_with fail
  with_reducible refine(withinc _ _ _ _ _ z3).mono ?_
  rintro e w' ⟨rfl,rfl⟩;have HZ3:=Hd z3;clear z3
  have HSX:Hid (∀q,q<p+1->seB (B.seat q)=true):=Hd (fun q hq=>by
   rcases Nat.lt_or_ge q p with h1|h1
   ·exact HSS.o q h1
   obtain rfl:q=p:=by omega
   rw[HS.o];unfold seB;rw[poolB_eq,HZ0.o,HZ1.o,HZ2.o,HZ3.o]
   rfl)
  go_wp2_with fail
  go_roundw
  case rel=>exact⟨p+1,by omega,by go_num,HBQ.o,HXQ.o,HSX.o⟩
  case measure=>simp[intOf];omega
 have hpe:p=2:=by omega
 rw[hpe] at HSS
 clear hpe
 obtain⟨r1,hr1⟩:∃r,B.st.all (fun x=>itB x false)=r:=⟨_,rfl⟩
 obtain⟨r2,hr2⟩:∃r,B.qu.all (fun x=>itB x true)=r:=⟨_,rfl⟩
 have HR1:=Hd hr1;have HR2:=Hd hr2;clear hr1 hr2;have c29:wr.cell? ⟨w.heap.size,29,none⟩=some (.slice ast B.st.length cs):=by rw[HXQ.o.cell 29];show some (Value.slice s.st.a s.st.n s.st.c)=_;rw[HVS.o.1,HVS.o.2.1,HVS.o.2.2]
 have HIS:Hid (ItR w (.slice ast B.st.length cs) B.st):=Hd (by have:=HR.o.st;unfold Sl.v at this;rw[HVS.o.1,HVS.o.2.1,HVS.o.2.2] at this;exact this);have HIQ:Hid (ItR w (.slice aq B.qu.length cq) B.qu):=Hd (by have:=HR.o.qu;unfold Sl.v at this;rw[HVQ.o.1,HVQ.o.2.1,HVQ.o.2.2] at this;exact this);go_wp2_with fail
 with_reducible refine(badl_false _ B.st r1 _ (HIS.o.below HBQ.o) HR1.o).mono ?_
 rintro e w5 ⟨rfl,hb5⟩;replace HBQ:=Hd (below_via HBQ.o hb5);replace HXQ:=Hd (HXQ.o.below hb5);clear hb5 c29
 cases r1
 ·have HN:Hid (¬VB B):=Hd (fun h=>by have h1:=h.its.1;rw[HR1.o] at h1;cases h1)
  go_wp2_with fail
  go_returns
  exact⟨⟨false,rfl,⟨fun h=>(by cases h),fun h=>absurd h HN.o⟩⟩,HBQ.o⟩
 have c30:w5.cell? ⟨w.heap.size,30,none⟩=some (.slice aq B.qu.length cq):=by rw[HXQ.o.cell 30];show some (Value.slice s.qu.a s.qu.n s.qu.c)=_;rw[HVQ.o.1,HVQ.o.2.1,HVQ.o.2.2]
 go_wp2_with fail
 with_reducible refine(badl_true _ B.qu r2 _ (HIQ.o.below HBQ.o) HR2.o).mono ?_
 rintro e w6 ⟨rfl,hb5⟩;replace HBQ:=Hd (below_via HBQ.o hb5);replace HXQ:=Hd (HXQ.o.below hb5);clear hb5 c30
 cases r2
 ·have HN:Hid (¬VB B):=Hd (fun h=>by have h1:=h.its.2;rw[HR2.o] at h1;cases h1)
  go_wp2_with fail
  go_returns
  exact⟨⟨false,rfl,⟨fun h=>(by cases h),fun h=>absurd h HN.o⟩⟩,HBQ.o⟩
 go_wp2_with (refine wpList_load_bx _ rfl rfl HXQ.o (by kernel_rfl) ?_)
 with_reducible refine(placed s B _ (HR.o.below HBQ.o) HI.o HSM.o).mono ?_
 rintro e w7 ⟨⟨r3,rfl,hr3⟩,hb5⟩;have HR3:=Hd hr3;replace HBQ:=Hd (below_via HBQ.o hb5);replace HXQ:=Hd (HXQ.o.below hb5);clear hb5 hr3
 cases r3
 ·have HN:Hid (¬VB B):=Hd (fun h=>by have h1:=HR3.o.2 h.plc;cases h1)
  go_wp2_with fail
  go_returns
  exact⟨⟨false,rfl,⟨fun h=>(by cases h),fun h=>absurd h HN.o⟩⟩,HBQ.o⟩
 have HPL:Hid (Plc B):=Hd (HR3.o.1 rfl);go_wp2_with (refine wpList_load_bx _ rfl rfl HXQ.o (by kernel_rfl) ?_)
 with_reducible refine(fights s B _ (HR.o.below HBQ.o) HI.o HSM.o (of_decide_eq_true Hq0.o) HPL.o.fld_pos).mono ?_
 rintro e w8 ⟨⟨r4,rfl,hr4⟩,hb5⟩
 have HV:Hid (r4=true↔VB B):=Hd (by
  rw[hr4]
  exact⟨fun h=>⟨⟨of_decide_eq_true Hq0.o,of_decide_eq_true Hq1.o,of_decide_eq_true Hq2.o,of_decide_eq_true Hq3.o,of_decide_eq_true Hq4.o,HLob.o,HLst.o,HLqu.o⟩,HSS.o 0 (by omega),HSS.o 1 (by omega),⟨HR1.o,HR2.o⟩,HPL.o,h⟩,fun h=>h.fgt⟩)
 replace HBQ:=Hd (below_via HBQ.o hb5);clear hb5 hr4;go_wp2_with fail
 go_returns
 exact⟨⟨r4,rfl,HV.o⟩,HBQ.o⟩
end Go.Proofs.YtpbepnpnpopmfaaGreat
