/- What is out of all places: the functions that tell it, by the code. An object in no place, by the code. -/
import Derived.Test.YtpbepnpnpopmfaaGreatTOu
import Derived.Deep.DeepCutAuto
import Derived.LoopTactic
import Derived.Deep.MidRow
import Derived.Test.YtpbepnpnpopmfaaGreatUDk
import Derived.Test.YtpbepnpnpopmfaaGreatTDx
open Go.RowKit Go.Proofs.YtpbepnpnpopmfaaGreat
set_option maxRecDepth 100000
set_option maxHeartbeats 4000000
namespace Go.Proofs.YtpbepnpnpopmfaaGreat
open Plain
set_option linter.unusedVariables false
set_option linter.unusedSimpArgs false

theorem cfU1(args:Array Value)(w:World):(callFunc 105 args).run Tryz.prog w= .ok (.enter 105 args) w:=by kernel_rfl
theorem cfU2(args:Array Value)(w:World):(callFunc 108 args).run Tryz.prog w= .ok (.enter 108 args) w:=by kernel_rfl
theorem cfU3(args:Array Value)(w:World):(callFunc 110 args).run Tryz.prog w= .ok (.enter 110 args) w:=by kernel_rfl
theorem uo1(y n:Int)(P:Nat)(w:World)(h:Ro w P #[.int .i64 n] 3):Calls Tryz.prog 105 #[.int .i64 y,.pointer (some ⟨P,0,none⟩)] w fun e w' =>e= .returned (.bool (y==n))/\Below w.heap.size w w':=by
 have d0:w.cell? ⟨P,0,none⟩=some (.int .i64 n):=h.cell 0;clear h;go_enter Tryz.func105,Tryz.ntmps105;go_wp2_with fail
 go_returns
 exact⟨rfl,by go_grown⟩
theorem uo2(y:It×Sl)(n:Int)(P:Nat)(w:World)(h:Ro w P #[.int .i64 n] 3):Calls Tryz.prog 108 #[.agg #[.int .i64 y.1.pl,.int .i64 y.1.id,.int .i64 y.1.cd,.int .i64 y.1.tr,.slice y.2.a y.2.n y.2.c],.pointer (some ⟨P,0,none⟩)] w fun e w' =>e= .returned (.bool (decide (y.1.tr<0)&&(y.1.id==n)))/\Below w.heap.size w w':=by
 have HP:=Hd h
 obtain⟨r1,h1⟩:∃r,decide (y.1.tr<0)=r:=⟨_,rfl⟩
 obtain⟨r2,h2⟩:∃r,(y.1.id==n)=r:=⟨_,rfl⟩
 rw[h1,h2];clear h;go_enter Tryz.func108,Tryz.ntmps108
 go_upto_region 1 with fail
 obtain⟨wz,hwz⟩:∃W,W=(w.alloc (.cells #[.int .i64 y.1.pl,.int .i64 y.1.id,.int .i64 y.1.cd,.int .i64 y.1.tr,.slice y.2.a y.2.n y.2.c] 73)):=⟨_,rfl⟩
 change Code.wp Tryz.prog _ _ _ (w.alloc (.cells #[.int .i64 y.1.pl,.int .i64 y.1.id,.int .i64 y.1.cd,.int .i64 y.1.tr,.slice y.2.a y.2.n y.2.c] 73));rw[<-hwz];have hb:Below w.heap.size w wz:=by rw[hwz];exact(Below.refl _ _).alloc (Nat.le_refl _) _
 have hr:Ro wz w.heap.size #[.int .i64 y.1.pl,.int .i64 y.1.id,.int .i64 y.1.cd,.int .i64 y.1.tr,.slice y.2.a y.2.n y.2.c] 73:=by rw[hwz];exact Ro.new _ _ _
 have d1:wz.cell? ⟨w.heap.size,1,none⟩=some (.int .i64 y.1.id):=hr.cell 1;have d3:wz.cell? ⟨w.heap.size,3,none⟩=some (.int .i64 y.1.tr):=hr.cell 3;have d0:wz.cell? ⟨P,0,none⟩=some (.int .i64 n):=(HP.o.below hb).cell 0;have HB:=Hd hb;clear hwz hb hr
 cases r1
 ·go_wp2_with fail
  go_returns
  exact⟨rfl,HB.o⟩
 go_wp2_with fail
 go_returns
 exact⟨rfl,HB.o⟩
theorem uo3(x:Bk)(n:Int)(P:Nat)(w:World)(h:Ro w P #[.int .i64 n] 3):Calls Tryz.prog 110 #[.agg #[.int .i64 x.bl,.int .i64 x.at'],.pointer (some ⟨P,0,none⟩)] w fun e w' =>e= .returned (.bool (x.bl==n||x.at' ==n))/\Below w.heap.size w w':=by
 have HP:=Hd h
 obtain⟨r1,h1⟩:∃r,(x.bl==n)=r:=⟨_,rfl⟩
 obtain⟨r2,h2⟩:∃r,(x.at' ==n)=r:=⟨_,rfl⟩
 rw[h1,h2];clear h;go_enter Tryz.func110,Tryz.ntmps110
 go_upto_region 1 with fail
 obtain⟨wz,hwz⟩:∃W,W=(w.alloc (.cells #[.int .i64 x.bl,.int .i64 x.at'] 89)):=⟨_,rfl⟩
 change Code.wp Tryz.prog _ _ _ (w.alloc (.cells #[.int .i64 x.bl,.int .i64 x.at'] 89));rw[<-hwz];have hb:Below w.heap.size w wz:=by rw[hwz];exact(Below.refl _ _).alloc (Nat.le_refl _) _
 have hr:Ro wz w.heap.size #[.int .i64 x.bl,.int .i64 x.at'] 89:=by rw[hwz];exact Ro.new _ _ _
 have d1:wz.cell? ⟨w.heap.size,0,none⟩=some (.int .i64 x.bl):=hr.cell 0;have d3:wz.cell? ⟨w.heap.size,1,none⟩=some (.int .i64 x.at'):=hr.cell 1;have d0:wz.cell? ⟨P,0,none⟩=some (.int .i64 n):=(HP.o.below hb).cell 0;have HB:=Hd hb;clear hwz hb hr
 cases r1
 ·go_wp2_with fail
  go_returns
  exact⟨rfl,HB.o⟩
 go_wp2_with fail
 go_returns
 exact⟨rfl,HB.o⟩
def Plain.outZ(B:Bd)(n:Int):Nat->Bd
 |0=>B
 |k+1=>(outZ B n k).setL (k / 4) (k%4) (wo n (B.il k))
theorem outZ_il(B:Bd)(n:Int):∀{k j:Nat},k<=8->j<9->(outZ B n k).il j=if j<k then wo n (B.il j) else B.il j
 |0,j,_,_=>by rw[if_neg (by omega)];rfl
 |k+1,j,hk,hj=>by
  rw[outZ,setL_il _ _ (by omega) (by omega) hj,show 4*(k / 4)+k%4=k by omega]
  by_cases h:j=k
  ·subst h
   rw[if_pos rfl,if_pos (by omega)]
  rw[if_neg h,outZ_il B n (by omega) hj]
  by_cases h2:j<k
  ·rw[if_pos h2,if_pos (by omega)]
  rw[if_neg h2,if_neg (by omega)]
theorem outZ_all(B:Bd)(n:Int):outZ B n 8={B with s0:=B.s0.out n,s1:=B.s1.out n}:=by kernel_rfl
theorem outZ_rest(B:Bd)(n:Int):∀{k:Nat},k<=8->(outZ B n k).ob=B.ob/\(outZ B n k).st=B.st/\(outZ B n k).qu=B.qu/\(outZ B n k).bl=B.bl/\(outZ B n k).att=B.att
 |0,_=>⟨rfl,rfl,rfl,rfl,rfl⟩
 |k+1,hk=>by
  obtain⟨h1,h2,h3,h4,h5⟩:=outZ_rest B n (k:=k) (by omega)
  obtain⟨g1,g2,g3,g4⟩:=setL_rest (outZ B n k) (wo n (B.il k)) (p:=k / 4) (z:=k%4) (by omega) (by omega)
  have g5:((outZ B n k).setL (k / 4) (k%4) (wo n (B.il k))).att=(outZ B n k).att:=by unfold Bd.setL;split<;>rfl
  exact⟨g1.trans h1,g2.trans h2,g3.trans h3,g4.trans h4,g5.trans h5⟩
theorem BdO.delZ{lo hi:Nat}{w w':World}{s:Bs}{B:Bd}(h:BdO lo hi w s B){p z:Nat}(hp:p<2)(hz:z<4){a:Option Addr}{m c m':Nat}{l':List Int}(hs:(s.isl (4*p+z)).v= .slice a m c)(hg:w.grownBy w' (Value.slice a m c).ownBlock)(hv:Ox ic 1 3 lo hi w' (.slice a m' c) l'):BdO lo hi w' (s.setZ p z ⟨a,m',c⟩) (B.setL p z l'):=by
 have hj:4*p+z<9:=by omega
 have ht:∀b,(Value.slice a m c).ownBlock=some b->∃cur,w.heap[b]? =some (.cells cur 3 (0,0)):=fun b hb=>by
  have h1:=(h.il _ hj).1.typ b (by rw[hs];exact hb);exact h1.2.2
 have how:(Value.slice a m' c).ownBlock=(Value.slice a m c).ownBlock:=by cases a<;>rfl
 obtain⟨r1,r2,r3,r4,r5⟩:=setZ_rest s ⟨a,m',c⟩ hp hz
 obtain⟨g1,g2,g3,g4⟩:=setL_rest B l' hp hz
 have hi2:∀{v:Value} {L:List It},ItO lo hi w v L->ItO lo hi w' v L:=fun h=>by
  obtain⟨l0,e1,e2,e3⟩:=h
  exact⟨l0,e1,e2.other hg ht (by decide) (Nat.le_refl _),fun x hx=>(e3 x hx).map (fun h=>h.other hg ht (by decide) (Nat.le_refl _))⟩
 have hown:∀j,j<9->((s.setZ p z ⟨a,m',c⟩).isl j).v.ownBlock=(s.isl j).v.ownBlock:=fun j hj9=>by
  rw[setZ_isl s _ hp hz hj9]
  by_cases e:j=4*p+z
  ·rw[if_pos e,e,hs];exact how
  rw[if_neg e]
 refine⟨?_,fun j hj9=> ?_,fun i j hi9 hj9 hne b hb=> ?_,?_,?_,?_,?_⟩
 ·rw[r1,g1];exact h.ob.other hg ht (by decide) (Nat.le_refl _)
 ·rw[setZ_isl s _ hp hz hj9,setL_il B l' hp hz hj9]
  by_cases e:j=4*p+z
  ·rw[if_pos e,if_pos e];exact hv
  rw[if_neg e,if_neg e]
  exact(h.il j hj9).keep (fun k _ _ hb=>hg.block k ((h.il j hj9).blk hb).2.2 (fun e1=>h.nd j _ hj9 hj e k hb (by rw[hs];exact e1.symm)))
 ·rw[hown i hi9] at hb
  rw[hown j hj9];exact h.nd i j hi9 hj9 hne b hb
 ·rw[r2,g2];exact hi2 h.st
 ·rw[r3,g3];exact hi2 h.qu
 ·rw[r2,r3];exact h.ns
 rw[r4,g4];exact h.bl.other hg ht (by decide) (Nat.le_refl _)
theorem ItO.filt{lo hi:Nat}{w w':World}{v v2:Value}{l':List (It×Sl)}{q:It×Sl->Bool}(hox:Ox itc 5 73 lo hi w v l')(hot:∀x∈l',TgO lo hi w x.2.v x.1.tg)(hg:w.grownBy w' v.ownBlock)(ho:Ox itc 5 73 lo hi w' v2 (l'.filter q))(hh:hi<=w'.heap.size):ItO lo w'.heap.size w' v2 ((l'.filter q).map Prod.fst):=
 ⟨l'.filter q,rfl,ho.mono (Nat.le_refl _) hh,fun x hx=>(hot x (List.mem_filter.1 hx).1).map (fun h=>h.other hg (fun b hb=>by
  obtain⟨_,_,c,hc⟩:=hox.1.typ b hb
  exact⟨c,hc⟩) (by decide) hh)⟩
theorem notIt_eq{B:Bd}(h:VB B)(n:Int):B.st.filter (fun x=> !(decide (x.tr<0)&&(x.id==n)))=B.st.filter (notIt n):=by
 refine List.filter_congr (fun x hx=> ?_);have h1:=List.all_eq_true.1 h.its.1 x hx;unfold itB itN at h1
 have h2:=of_decide_eq_true (Bool.and_eq_true_iff.1 h1).1;unfold notIt;have h3:=h2.2.2.2.1.1
 by_cases e:x.tr= -1
 ·rw[e];rfl
 have e1:decide (x.tr<0)=false:=decide_eq_false (by omega);have e2:(x.tr== -1)=false:=by simpa using e
 rw[e1,e2];rfl
theorem notBk_eq(l:List Bk)(n:Int):l.filter (fun x=> !(x.bl==n||x.at' ==n))=l.filter (notBk n):=by
 refine List.filter_congr (fun x _=> ?_);unfold notBk;rw[Bool.not_or]
theorem BdO.delA{lo hi:Nat}{w w':World}{s:Bs}{B:Bd}(h:BdO lo hi w s B){a:Option Addr}{m c m':Nat}{l':List Int}(hs:s.at'.v= .slice a m c)(hg:w.grownBy w' (Value.slice a m c).ownBlock)(hv:Ox ic 1 3 lo hi w' (.slice a m' c) l'):BdO lo hi w' {s with at':=⟨a,m',c⟩} {B with att:=l'}:=by
 have e8:s.isl 8=s.at':=rfl
 have ht:∀b,(Value.slice a m c).ownBlock=some b->∃cur,w.heap[b]? =some (.cells cur 3 (0,0)):=fun b hb=>((h.il 8 (by omega)).1.typ b (by rw[e8,hs];exact hb)).2.2
 have how:(Value.slice a m' c).ownBlock=(Value.slice a m c).ownBlock:=by cases a<;>rfl
 have hi2:∀{v:Value} {L:List It},ItO lo hi w v L->ItO lo hi w' v L:=fun h=>by
  obtain⟨l0,e1,e2,e3⟩:=h
  exact⟨l0,e1,e2.other hg ht (by decide) (Nat.le_refl _),fun x hx=>(e3 x hx).map (fun h=>h.other hg ht (by decide) (Nat.le_refl _))⟩
 have eo:∀j,j<8->({s with at':=⟨a,m',c⟩}:Bs).isl j=s.isl j:=fun j hj=>by
  have:j=0\/j=1\/j=2\/j=3\/j=4\/j=5\/j=6\/j=7:=by omega
  rcases this with rfl|rfl|rfl|rfl|rfl|rfl|rfl|rfl<;>rfl
 have eb:∀j,j<8->({B with att:=l'}:Bd).il j=B.il j:=fun j hj=>by
  have:j=0\/j=1\/j=2\/j=3\/j=4\/j=5\/j=6\/j=7:=by omega
  rcases this with rfl|rfl|rfl|rfl|rfl|rfl|rfl|rfl<;>rfl
 have hown:∀j,j<9->(({s with at':=⟨a,m',c⟩}:Bs).isl j).v.ownBlock=(s.isl j).v.ownBlock:=fun j hj=>by
  by_cases e:j<8
  ·rw[eo j e]
  obtain rfl:j=8:=by omega
  rw[e8,hs];exact how
 refine⟨h.ob.other hg ht (by decide) (Nat.le_refl _),fun j hj=> ?_,fun i j hi9 hj9 hne b hb=> ?_,hi2 h.st,hi2 h.qu,h.ns,h.bl.other hg ht (by decide) (Nat.le_refl _)⟩
 ·by_cases e:j<8
  ·rw[eo j e,eb j e]
   exact(h.il j hj).keep (fun k _ _ hb=>hg.block k ((h.il j hj).blk hb).2.2 (fun e1=>h.nd j 8 hj (by omega) (by omega) k hb (by rw[e8,hs];exact e1.symm)))
  obtain rfl:j=8:=by omega
  exact hv
 rw[hown i hi9] at hb
 rw[hown j hj9];exact h.nd i j hi9 hj9 hne b hb
theorem BdO.delK{lo hi:Nat}{w w':World}{s:Bs}{B:Bd}(h:BdO lo hi w s B){a:Option Addr}{m c m':Nat}{l':List Bk}(hs:s.bl.v= .slice a m c)(hg:w.grownBy w' (Value.slice a m c).ownBlock)(hv:Ox kc 2 89 lo hi w' (.slice a m' c) l'):BdO lo hi w' {s with bl:=⟨a,m',c⟩} {B with bl:=l'}:=by
 have ht:∀b,(Value.slice a m c).ownBlock=some b->∃cur,w.heap[b]? =some (.cells cur 89 (0,0)):=fun b hb=>(h.bl.1.typ b (by rw[hs];exact hb)).2.2
 have hi2:∀{v:Value} {L:List It},ItO lo hi w v L->ItO lo hi w' v L:=fun h=>by
  obtain⟨l0,e1,e2,e3⟩:=h
  exact⟨l0,e1,e2.other hg ht (by decide) (Nat.le_refl _),fun x hx=>(e3 x hx).map (fun h=>h.other hg ht (by decide) (Nat.le_refl _))⟩
 exact⟨h.ob.other hg ht (by decide) (Nat.le_refl _),fun j hj=>(h.il j hj).other hg ht (by decide) (Nat.le_refl _),h.nd,hi2 h.st,hi2 h.qu,h.ns,hv⟩
end Go.Proofs.YtpbepnpnpopmfaaGreat
namespace Go.Proofs.YtpbepnpnpopmfaaGreat
open Plain
set_option linter.unusedVariables false
set_option linter.unusedSimpArgs false

structure OzR(w:World)(lo hi:Nat)(B:Bd)(n:Int)(k:Nat)(s':Bs)(wr:World):Prop where
 box:Bx wr w.heap.size s' (outZ B n k)
 own:BdO lo hi wr s' (outZ B n k)
 hb:Below w.heap.size w wr
 hn:Ro wr (w.heap.size+1) #[.int .i64 n] 3
 hz:Bx wr (w.heap.size+1+1) nilS zeroB
 hh:hi<=wr.heap.size
def OzP(w:World)(lo hi:Nat)(B:Bd)(n:Int)(v:Value)(wr:World):Prop:=∃(p:Nat) (s':Bs),p<=2/\v= .int .i64 p/\OzR w lo hi B n (4*p) s' wr
def OzZ(w:World)(lo hi:Nat)(B:Bd)(n:Int)(p:Nat)(v:Value)(wr:World):Prop:=∃(z:Nat) (s':Bs),z<=4/\v= .int .i64 z/\OzR w lo hi B n (4*p+z) s' wr
theorem OzR.call{w:World}{lo hi:Nat}{B:Bd}{n:Int}{k:Nat}{s':Bs}{wr w':World}(h:OzR w lo hi B n k s' wr)(hb:Below wr.heap.size wr w'):OzR w lo hi B n k s' w':=⟨h.box.below hb,h.own.below hb,below_via h.hb hb,h.hn.below hb,h.hz.below hb,Nat.le_trans h.hh hb.size⟩
theorem OzR.step{w:World}{lo hi:Nat}{B:Bd}{n:Int}{p z:Nat}{s':Bs}{wr w1:World}(h:OzR w lo hi B n (4*p+z) s' wr)(hp:p<2)(hz:z<4)(hlo:w.heap.size+1+1<lo){a:Option Addr}{m c m':Nat}(hs:(s'.isl (4*p+z)).v= .slice a m c)(hg:wr.grownBy w1 (Value.slice a m c).ownBlock)(hv:Ox ic 1 3 lo hi w1 (.slice a m' c) (wo n (B.il (4*p+z)))):OzR w lo hi B n (4*p+z+1) (s'.setZ p z ⟨a,m',c⟩) (w1.setCell ⟨w.heap.size,1+p*14+5+z,none⟩ (.slice a m' c)):=by
 have hj:4*p+z<9:=by omega
 have hrow:∀b,(Value.slice a m c).ownBlock=some b->lo<=b/\b<hi:=fun b hb=>by
  have h1:=(h.own.il _ hj).blk (b:=b) (by rw[hs];exact hb)
  exact⟨h1.1,h1.2.1⟩
 have hne:∀P,P<lo->(Value.slice a m c).ownBlock≠some P:=fun P hP e=>by have:=(hrow P e).1;omega
 have hbx:Bx w1 w.heap.size s' (outZ B n (4*p+z)):=h.box.grown hg (hne _ (by omega));have hon:Onl [w.heap.size] w1 (w1.setCell ⟨w.heap.size,1+p*14+5+z,none⟩ (.slice a m' c)):=Onl.setCell (Onl.refl _ _) (.inl (by simp)) _;have hb1:Below w.heap.size w w1:=h.hb.grown hg h.hb.size (fun q hq=>by have:=(hrow q hq).1;omega)
 have e:outZ B n (4*p+z+1)=(outZ B n (4*p+z)).setL p z (wo n (B.il (4*p+z))):=by
  rw[outZ,show(4*p+z) / 4=p by omega,show(4*p+z)%4=z by omega]
 have ho:=(h.own.delZ hp hz hs hg hv).onlB hon hbx
 refine⟨by rw[e];exact hbx.putL hp hz ⟨a,m',c⟩ _,by rw[e];exact ho,belowOnl hb1 hon (by simp) hb1.size,(h.hn.grown hg (hne _ (by omega))).onl hon (by simp only[List.mem_singleton];omega),(h.hz.grown hg (hne _ (by omega))).onl hon (by simp only[List.mem_singleton];omega),?_⟩
 exact Nat.le_trans h.hh (Nat.le_trans hg.size hon.size)
theorem bout(s:Bs)(B:Bd)(n:Int)(w:World)(h:BdR w s B)(hv:VB B):Calls Tryz.prog 91 #[bv s B,.int .i64 n] w (CpA w (outB B n)):=by
 have HR:=Hd h;have HSM:=Hd hv.sm;have HTL:=Hd hv.tl;have HV:=Hd hv;clear h hv;go_enter Tryz.func91,Tryz.ntmps91
 go_upto_region 1 with fail
 change Code.wp Tryz.prog _ _ _ (((w.alloc (.cells (bcells s B) 34)).alloc (.cells #[.int .i64 n] 3)).alloc (.cells (bcells nilS zeroB) 34))
 obtain⟨wz,hwz⟩:∃W,W=(((w.alloc (.cells (bcells s B) 34)).alloc (.cells #[.int .i64 n] 3)).alloc (.cells (bcells nilS zeroB) 34)):=⟨_,rfl⟩
 rw[<-hwz];have b0:Below w.heap.size w (w.alloc (.cells (bcells s B) 34)):=by exact(Below.refl _ _).alloc (Nat.le_refl _) _
 have b1:Below (w.alloc (.cells (bcells s B) 34)).heap.size (w.alloc (.cells (bcells s B) 34)) ((w.alloc (.cells (bcells s B) 34)).alloc (.cells #[.int .i64 n] 3)):=by exact(Below.refl _ _).alloc (Nat.le_refl _) _
 have b2:Below ((w.alloc (.cells (bcells s B) 34)).alloc (.cells #[.int .i64 n] 3)).heap.size ((w.alloc (.cells (bcells s B) 34)).alloc (.cells #[.int .i64 n] 3)) wz:=by rw[hwz];exact(Below.refl _ _).alloc (Nat.le_refl _) _
 have HB:Hid (Below w.heap.size w wz):=Hd (below_via (below_via b0 b1) b2);have HXb:Hid (Bx wz (w.heap.size) s B):=Hd (((Ro.new w (bcells s B) 34).below b1:Ro _ _ _ _).below b2);have HXn:Hid (Ro wz (w.heap.size+1) #[.int .i64 n] 3):=Hd (by rw[show w.heap.size+1=(w.alloc (.cells (bcells s B) 34)).heap.size by simp];exact((Ro.new (w.alloc (.cells (bcells s B) 34)) #[.int .i64 n] 3).below b2:Ro _ _ _ _));have HXz:Hid (Bx wz (w.heap.size+1+1) nilS zeroB):=Hd (by rw[show w.heap.size+1+1=((w.alloc (.cells (bcells s B) 34)).alloc (.cells #[.int .i64 n] 3)).heap.size by simp];exact(by rw[hwz];exact(Ro.new ((w.alloc (.cells (bcells s B) 34)).alloc (.cells #[.int .i64 n] 3)) (bcells nilS zeroB) 34)));have HC1:Hid (w.heap.size+3<=wz.heap.size):=Hd (by rw[hwz];simp);clear hwz b0 b1 b2;go_wp2_with (first|(refine wpList_load_bx _ rfl rfl HXb.o (by kernel_rfl) ?_))
 with_reducible refine(bcopy s B _ (HR.o.below HB.o) HSM.o HTL.o).mono ?_
 rintro e w1 ⟨sc,rfl,ho,hb⟩;have HC2:Hid (wz.heap.size<=w1.heap.size):=Hd (hb.size);replace HB:=Hd (below_via HB.o hb);replace HXb:=Hd (HXb.o.below hb);replace HXn:=Hd (HXn.o.below hb);replace HXz:=Hd (HXz.o.below hb);have HOc:=Hd ho;clear ho hb;go_wp2_with (first|(refine wpList_store_bh (s:=sc) (B:=B) rfl _ _ rfl rfl rfl HXb.o rfl ?_))
 intro w2 hw0;have hon:Onl [w.heap.size] w1 w2:=by rw[hw0.out];exact Onl.setRow (Onl.refl _ _) (.inl (by simp)) _
 have hx:Bx w2 (w.heap.size) sc (B):=by rw[hw0.out];exact Bx.row HXb.o _ _
 clear hw0;have hlo:w.heap.size<=w.heap.size:=by(have o0:=HC1.o;have o1:=HC2.o;have x0:=HXb.o.lt;have x1:=HXn.o.lt;have x2:=HXz.o.lt;omega)
 have hls:w.heap.size<=w1.heap.size:=HB.o.size;replace HB:=Hd (belowOnl HB.o hon (by simp only[List.mem_singleton,forall_eq];exact hlo) hls);replace HXn:=Hd (HXn.o.onl hon (by simp only[List.mem_singleton];(have o0:=HC1.o;have o1:=HC2.o;have x0:=HXb.o.lt;have x1:=HXn.o.lt;have x2:=HXz.o.lt;omega)));replace HXz:=Hd (HXz.o.onl hon (by simp only[List.mem_singleton];(have o0:=HC1.o;have o1:=HC2.o;have x0:=HXb.o.lt;have x1:=HXn.o.lt;have x2:=HXz.o.lt;omega)));replace HOc:=Hd (HOc.o.onlB hon HXb.o);have HC3:Hid (w1.heap.size<=w2.heap.size):=Hd (hon.size);clear hlo hls;replace HXb:=Hd hx;clear hx hon;have HLO:Hid (w.heap.size+1+1<wz.heap.size):=Hd (by(have o0:=HC1.o;have o1:=HC2.o;have o2:=HC3.o;have x0:=HXb.o.lt;have x1:=HXn.o.lt;have x2:=HXz.o.lt;omega));have HS0:Hid (OzR w wz.heap.size w1.heap.size B n 0 sc w2):=Hd ⟨HXb.o,HOc.o,HB.o,HXn.o,HXz.o,(by(have o0:=HC1.o;have o1:=HC2.o;have o2:=HC3.o;have x0:=HXb.o.lt;have x1:=HXn.o.lt;have x2:=HXz.o.lt;omega))⟩;clear HXb HOc HXn HXz HB HC1 HC2 HC3;go_wp2_with fail
 go_loopw [12] (fun v wr=>OzP w wz.heap.size w1.heap.size B n v wr) (fun v _=>2-(intOf v).toNat)
 case atStart=>exact⟨0,_,by omega,rfl,HS0.o⟩
 obtain⟨p,s1,hp,rfl,hst⟩:=hrel
 have HST:=Hd hst;clear hst HS0
 by_cases hp2:p<2
 ·have i1:(0:Int)<=(p:Int):=by omega
  have i2:(p:Int)<2:=by omega
  go_wp2_with fail
  with_reducible refine(lists w.heap.size (1+p*14) _).mono ?_
  rintro e v2 ⟨rfl,hb2⟩;replace HST:=Hd (HST.o.call hb2);clear hb2;go_wp2_with fail
  go_loopw [19] (fun z wr=>OzZ w wz.heap.size w1.heap.size B n p z wr) (fun z _=>4-(intOf z).toNat)
  case atStart=>exact⟨0,_,by omega,rfl,HST.o⟩
  obtain⟨z,s2,hz,rfl,hst⟩:=hrel
  replace HST:=Hd hst;clear hst
  by_cases hz4:z<4
  ·have j1:(0:Int)<=(z:Int):=by omega
   have j2:(z:Int)<4:=by omega
   have hix:=idx4 w.heap.size (1+p*14) hz4
   obtain⟨a0,c0,e0⟩:=(HST.o.own.il (4*p+z) (by omega)).1.form
   have hil:(outZ B n (4*p+z)).il (4*p+z)=B.il (4*p+z):=by rw[outZ_il B n (by omega) (by omega),if_neg (by omega)]
   have hox:=HST.o.own.il (4*p+z) (by omega);rw[hil] at hox e0
   rw[e0] at hox
   have hcz:wr.cell? ⟨w.heap.size,1+p*14+5+z,none⟩=some (.slice a0 (B.il (4*p+z)).length c0):=by
    have h1:=HST.o.box.zone hp2 hz4;have e:s2.isl (4*p+z)=s2.zl p z:=by unfold Bs.isl;rw[if_pos (by omega),show(4*p+z) / 4=p by omega,show(4*p+z)%4=z by omega]
    rw[e] at e0
    exact h1.trans (congrArg some e0)
   have hcf:=HST.o.box.free (1+p*14+5+z);have hpl:=HST.o.box.lt
   have hle:(B.il (4*p+z)).length<=1000:=by
    have e:B.il (4*p+z)=(B.seat p).zs z:=by
     have:(p=0/\z=0)\/(p=0/\z=1)\/(p=0/\z=2)\/(p=0/\z=3)\/(p=1/\z=0)\/(p=1/\z=1)\/(p=1/\z=2)\/(p=1/\z=3):=by omega
     rcases this with⟨rfl,rfl⟩|⟨rfl,rfl⟩|⟨rfl,rfl⟩|⟨rfl,rfl⟩|⟨rfl,rfl⟩|⟨rfl,rfl⟩|⟨rfl,rfl⟩|⟨rfl,rfl⟩<;>rfl
    rw[e];exact HSM.o.zs p z
   have HOX:=Hd hox;have HE0:=Hd e0;have HP2:=Hd hp2;have HZ4:=Hd hz4;have HDL:=Hd (delI 105 cfU1 (.pointer (some ⟨w.heap.size+1,0,none⟩)) (fun y=>y==n) a0 c0 (B.il (4*p+z)) wz.heap.size w1.heap.size wr hox hle (fun W x hx hg=>uo1 x n (w.heap.size+1) W (HST.o.hn.grown hg (fun e=>by have h1:=(HOX.o.blk e).1;have h2:=HLO.o;omega))));clear hox hil hle e0;go_wp2_with fail
   with_reducible refine HDL.o.mono ?_
   rintro e v4 ⟨rfl,ho,hg⟩
   have ecz:v4.cell? ⟨w.heap.size,1+p*14+5+z,none⟩=some (.slice a0 (B.il (4*p+z)).length c0):=by
    have h1:=HST.o.box.grown hg (fun e=>by have h1:=(HOX.o.blk e).1;have h2:=HLO.o;omega);rw[<-hcz,h1.cell,HST.o.box.cell]
   have ecf:v4.frozen? ⟨w.heap.size,1+p*14+5+z,none⟩=false:=(HST.o.box.grown hg (fun e=>by have h1:=(HOX.o.blk e).1;have h2:=HLO.o;omega)).free _;have HSTEP:=Hd (HST.o.step hp2 hz4 HLO.o HE0.o hg ho);clear hcz hcf ho hg hpl HDL;go_wp2_with fail
   go_roundw
   case rel=>exact⟨z+1,_,by omega,by go_num,HSTEP.o⟩
   case measure=>simp[intOf];omega
  obtain rfl:z=4:=by omega
  have HS8:Hid (OzR w wz.heap.size w1.heap.size B n (4*(p+1)) s2 wr):=Hd (by rw[show 4*(p+1)=4*p+4 by omega];exact HST.o);go_wp2_with fail
  go_roundw
  case rel=>exact⟨p+1,s2,by omega,by go_num,HS8.o⟩
  case measure=>simp[intOf];omega
 obtain rfl:p=2:=by omega
 obtain⟨B8,hB8⟩:∃X,X=outZ B n 8:=⟨_,rfl⟩
 have HBE:=Hd (hB8.trans (outZ_all B n));have HS8:Hid (OzR w wz.heap.size w1.heap.size B n 8 s1 wr):=HST;have HB:=Hd HS8.o.hb;have HXb:Hid (Bx wr w.heap.size s1 B8):=Hd (by rw[hB8];exact HS8.o.box);have HXn:=Hd HS8.o.hn;have HXz:=Hd HS8.o.hz;have HOo:Hid (BdO wz.heap.size w1.heap.size wr s1 B8):=Hd (by rw[hB8];exact HS8.o.own);have HHH:Hid (w1.heap.size<=wr.heap.size):=Hd HS8.o.hh;have HE8:Hid (B8.st=B.st/\B8.att=B.att/\B8.bl=B.bl):=Hd (by rw[hB8];obtain⟨_,h2,_,h4,h5⟩:=outZ_rest B n (k:=8) (by omega);exact⟨h2,h5,h4⟩);clear hB8 HS8 HST
 obtain⟨l',hl',hox,hot⟩:=HOo.o.st
 obtain⟨qa,qc,hqv⟩:=hox.1.form
 have hll:l'.length<=1000:=by rw[<-List.length_map (f:=Prod.fst),hl',HE8.o.1];exact HSM.o.st
 rw[hqv] at hox
 have HOX:=Hd hox;have HOT:=Hd hot;have HL':=Hd hl';have HQV:=Hd hqv;have HROW:Hid (∀q,(Value.slice qa l'.length qc).ownBlock=some q->wz.heap.size<=q/\q<w1.heap.size):=Hd (fun q hq=>⟨(HOX.o.blk hq).1,(HOX.o.blk hq).2.1⟩);have c29:wr.cell? ⟨w.heap.size,29,none⟩=some (.slice qa l'.length qc):=by rw[<-hqv];exact HXb.o.cell 29
 have HDX:=Hd (delX 108 cfU2 (.pointer (some ⟨w.heap.size+1,0,none⟩)) (fun y=>decide (y.1.tr<0)&&(y.1.id==n)) qa qc l' wz.heap.size w1.heap.size wr hox hll (fun W x hx hg=>uo2 x n (w.heap.size+1) W (HXn.o.grown hg (fun e=>by have h1:=(HROW.o _ e).1;have h2:=HLO.o;omega))));clear hl' hox hot hqv hll
 go_upto_region 12 with fail
 go_wp2_with fail
 with_reducible refine HDX.o.mono ?_
 rintro e wt1 ⟨rfl,ho,hg⟩;clear c29 HDX;have hne:∀P,P<wz.heap.size->(Value.slice qa l'.length qc).ownBlock≠some P:=fun P hP e=>by have:=(HROW.o P e).1;omega
 have HBX:Hid (w.heap.size<wz.heap.size/\w.heap.size+1<wz.heap.size/\w.heap.size+1+1<wz.heap.size):=Hd (by have:=HLO.o;omega);replace HB:=Hd (HB.o.grown hg HB.o.size (fun q hq=>by have h1:=(HROW.o q hq).1;have h2:=HLO.o;omega));replace HXb:=Hd (HXb.o.grown hg (hne _ HBX.o.1));replace HXn:=Hd (HXn.o.grown hg (hne _ HBX.o.2.1));replace HXz:=Hd (HXz.o.grown hg (hne _ HBX.o.2.2))
 have hmf:(l'.filter (fun y=> !(decide (y.1.tr<0)&&(y.1.id==n)))).map Prod.fst=B.st.filter (notIt n):=by
  rw[map_filtI (p:=fun x=> !(decide (x.tr<0)&&(x.id==n))),HL'.out,HE8.o.1];exact notIt_eq HV.o n
 obtain⟨m1,hm1⟩:∃m1,m1=(l'.filter (fun y=> !(decide (y.1.tr<0)&&(y.1.id==n)))).length:=⟨_,rfl⟩
 have hit:ItO wz.heap.size wt1.heap.size wt1 (.slice qa m1 qc) (B.st.filter (notIt n)):=by
  rw[<-hmf,hm1];exact ItO.filt HOX.o HOT.o hg ho (Nat.le_trans HHH.o hg.size)
 rw[<-hm1];have HOn:=Hd (HOo.o.newSt HHH.o ⟨qa,m1,qc⟩ _ (by rw[HQV.o];exact hg) hit (by rw[HQV.o];exact .inl (by cases qa<;>rfl)));replace HOo:=HOn;clear HOn hmf hm1 hit HOX HOT HL' HQV;clear hne ho HROW HBX;have HCt1:Hid (wr.heap.size<=wt1.heap.size):=Hd (hg.size);clear hg;have c29:wt1.cell? ⟨w.heap.size,29,none⟩=some ((s1.st.v)):=HXb.o.cell 29;have f29:wt1.frozen? ⟨w.heap.size,29,none⟩=false:=HXb.o.free 29
 go_upto_region 13 with fail
 obtain⟨wt2,hw⟩:∃X,X=wt1.setCell ⟨w.heap.size,29,none⟩ (.slice qa m1 qc):=⟨_,rfl⟩
 rw[<-hw];have hon:Onl [w.heap.size] wt1 wt2:=by rw[hw];exact Onl.setCell (Onl.refl _ _) (.inl (by simp)) _
 have hx:Bx wt2 (w.heap.size) {s1 with st:=⟨qa,m1,qc⟩} ({B8 with st:=B.st.filter (notIt n)}):=by rw[hw];exact HXb.o.put 29 _ rfl
 clear hw c29 f29;have hlo:w.heap.size<=w.heap.size:=by(have o0:=HLO.o;have o1:=HHH.o;have o2:=HCt1.o;have x0:=HXb.o.lt;have x1:=HXn.o.lt;have x2:=HXz.o.lt;omega)
 have hls:w.heap.size<=wt1.heap.size:=HB.o.size;replace HB:=Hd (belowOnl HB.o hon (by simp only[List.mem_singleton,forall_eq];exact hlo) hls);replace HXn:=Hd (HXn.o.onl hon (by simp only[List.mem_singleton];(have o0:=HLO.o;have o1:=HHH.o;have o2:=HCt1.o;have x0:=HXb.o.lt;have x1:=HXn.o.lt;have x2:=HXz.o.lt;omega)));replace HXz:=Hd (HXz.o.onl hon (by simp only[List.mem_singleton];(have o0:=HLO.o;have o1:=HHH.o;have o2:=HCt1.o;have x0:=HXb.o.lt;have x1:=HXn.o.lt;have x2:=HXz.o.lt;omega)));replace HOo:=Hd (HOo.o.onlB hon HXb.o);have HCt2:Hid (wt1.heap.size<=wt2.heap.size):=Hd (hon.size);clear hlo hls;replace HXb:=Hd hx;clear hx hon;have hox:Ox ic 1 3 wz.heap.size wt1.heap.size wt2 s1.at'.v B8.att:=HOo.o.il 8 (by omega)
 obtain⟨ra,rc,hrv⟩:=hox.1.form
 have hll:B8.att.length<=1000:=by rw[HE8.o.2.1];exact HSM.o.att
 rw[hrv] at hox
 have HOX:=Hd hox;have HRV:=Hd hrv;have HROW:Hid (∀q,(Value.slice ra B8.att.length rc).ownBlock=some q->wz.heap.size<=q/\q<wt1.heap.size):=Hd (fun q hq=>⟨(HOX.o.blk hq).1,(HOX.o.blk hq).2.1⟩);have c31:wt2.cell? ⟨w.heap.size,31,none⟩=some (.slice ra B8.att.length rc):=by rw[<-hrv];exact HXb.o.cell 31
 have HDr:=Hd (delI 105 cfU1 (.pointer (some ⟨w.heap.size+1,0,none⟩)) (fun y=>y==n) ra rc B8.att wz.heap.size wt1.heap.size wt2 hox hll (fun W x hx hg=>uo1 x n (w.heap.size+1) W (HXn.o.grown hg (fun e=>by have h1:=(HROW.o _ e).1;have h2:=HLO.o;omega))));clear hox hll hrv
 go_upto_region 13 with fail
 go_wp2_with fail
 with_reducible refine HDr.o.mono ?_
 rintro e wt3 ⟨rfl,ho,hg⟩;clear c31 HDr;have hne:∀P,P<wz.heap.size->(Value.slice ra B8.att.length rc).ownBlock≠some P:=fun P hP e=>by have:=(HROW.o P e).1;omega
 have HBX:Hid (w.heap.size<wz.heap.size/\w.heap.size+1<wz.heap.size/\w.heap.size+1+1<wz.heap.size):=Hd (by have:=HLO.o;omega);replace HB:=Hd (HB.o.grown hg HB.o.size (fun q hq=>by have h1:=(HROW.o q hq).1;have h2:=HLO.o;omega));replace HXb:=Hd (HXb.o.grown hg (hne _ HBX.o.1));replace HXn:=Hd (HXn.o.grown hg (hne _ HBX.o.2.1));replace HXz:=Hd (HXz.o.grown hg (hne _ HBX.o.2.2))
 obtain⟨mr,hmr⟩:∃m,m=(B8.att.filter (fun y=> !((fun y=>y==n)) y)).length:=⟨_,rfl⟩
 have hot:Ox ic 1 3 wz.heap.size wt1.heap.size wt3 (.slice ra mr rc) (wo n B8.att):=by rw[hmr];exact ho
 rw[<-hmr];have HOn:Hid (BdO wz.heap.size wt1.heap.size wt3 ({({s1 with st:=⟨qa,m1,qc⟩}) with at':=⟨ra,mr,rc⟩}) ({({B8 with st:=B.st.filter (notIt n)}) with att:=wo n B8.att})):=Hd (HOo.o.delA HRV.o hg hot);clear HOo;have HOo:=Hd HOn.o;clear HOn hmr hot HOX HRV;clear hne ho HROW HBX;have HCt3:Hid (wt2.heap.size<=wt3.heap.size):=Hd (hg.size);clear hg;have c31:wt3.cell? ⟨w.heap.size,31,none⟩=some ((s1.at'.v)):=HXb.o.cell 31;have f31:wt3.frozen? ⟨w.heap.size,31,none⟩=false:=HXb.o.free 31
 go_upto_region 14 with fail
 obtain⟨wt4,hw⟩:∃X,X=wt3.setCell ⟨w.heap.size,31,none⟩ (.slice ra mr rc):=⟨_,rfl⟩
 rw[<-hw];have hon:Onl [w.heap.size] wt3 wt4:=by rw[hw];exact Onl.setCell (Onl.refl _ _) (.inl (by simp)) _
 have hx:Bx wt4 (w.heap.size) ({({s1 with st:=⟨qa,m1,qc⟩}) with at':=⟨ra,mr,rc⟩}) (({({B8 with st:=B.st.filter (notIt n)}) with att:=wo n B8.att})):=by rw[hw];exact HXb.o.put 31 _ rfl
 clear hw c31 f31;have hlo:w.heap.size<=w.heap.size:=by(have o0:=HLO.o;have o1:=HHH.o;have o2:=HCt1.o;have o3:=HCt2.o;have o4:=HCt3.o;have x0:=HXb.o.lt;have x1:=HXn.o.lt;have x2:=HXz.o.lt;omega)
 have hls:w.heap.size<=wt3.heap.size:=HB.o.size;replace HB:=Hd (belowOnl HB.o hon (by simp only[List.mem_singleton,forall_eq];exact hlo) hls);replace HXn:=Hd (HXn.o.onl hon (by simp only[List.mem_singleton];(have o0:=HLO.o;have o1:=HHH.o;have o2:=HCt1.o;have o3:=HCt2.o;have o4:=HCt3.o;have x0:=HXb.o.lt;have x1:=HXn.o.lt;have x2:=HXz.o.lt;omega)));replace HXz:=Hd (HXz.o.onl hon (by simp only[List.mem_singleton];(have o0:=HLO.o;have o1:=HHH.o;have o2:=HCt1.o;have o3:=HCt2.o;have o4:=HCt3.o;have x0:=HXb.o.lt;have x1:=HXn.o.lt;have x2:=HXz.o.lt;omega)));replace HOo:=Hd (HOo.o.onlB hon HXb.o);have HCt4:Hid (wt3.heap.size<=wt4.heap.size):=Hd (hon.size);clear hlo hls;replace HXb:=Hd hx;clear hx hon;have hox:Ox kc 2 89 wz.heap.size wt1.heap.size wt4 s1.bl.v B8.bl:=HOo.o.bl
 obtain⟨ea,ec,hev⟩:=hox.1.form
 have hll:B8.bl.length<=1000:=by rw[HE8.o.2.2];exact HSM.o.bl
 rw[hev] at hox
 have HOX:=Hd hox;have HRV:=Hd hev;have HROW:Hid (∀q,(Value.slice ea B8.bl.length ec).ownBlock=some q->wz.heap.size<=q/\q<wt1.heap.size):=Hd (fun q hq=>⟨(HOX.o.blk hq).1,(HOX.o.blk hq).2.1⟩);have c32:wt4.cell? ⟨w.heap.size,32,none⟩=some (.slice ea B8.bl.length ec):=by rw[<-hev];exact HXb.o.cell 32
 have HDe:=Hd (delK 110 cfU3 (.pointer (some ⟨w.heap.size+1,0,none⟩)) (fun x=>(x.bl==n||x.at' ==n)) ea ec B8.bl wz.heap.size wt1.heap.size wt4 hox hll (fun W x hx hg=>uo3 x n (w.heap.size+1) W (HXn.o.grown hg (fun e=>by have h1:=(HROW.o _ e).1;have h2:=HLO.o;omega))));clear hox hll hev
 go_upto_region 14 with fail
 go_wp2_with fail
 with_reducible refine HDe.o.mono ?_
 rintro e wt5 ⟨rfl,ho,hg⟩;clear c32 HDe;have hne:∀P,P<wz.heap.size->(Value.slice ea B8.bl.length ec).ownBlock≠some P:=fun P hP e=>by have:=(HROW.o P e).1;omega
 have HBX:Hid (w.heap.size<wz.heap.size/\w.heap.size+1<wz.heap.size/\w.heap.size+1+1<wz.heap.size):=Hd (by have:=HLO.o;omega);replace HB:=Hd (HB.o.grown hg HB.o.size (fun q hq=>by have h1:=(HROW.o q hq).1;have h2:=HLO.o;omega));replace HXb:=Hd (HXb.o.grown hg (hne _ HBX.o.1));replace HXn:=Hd (HXn.o.grown hg (hne _ HBX.o.2.1));replace HXz:=Hd (HXz.o.grown hg (hne _ HBX.o.2.2))
 obtain⟨me,hme⟩:∃m,m=(B8.bl.filter (fun y=> !((fun x=>(x.bl==n||x.at' ==n))) y)).length:=⟨_,rfl⟩
 have hot:Ox kc 2 89 wz.heap.size wt1.heap.size wt5 (.slice ea me ec) (B8.bl.filter (notBk n)):=by rw[hme];exact(notBk_eq _ n)▸ho
 rw[<-hme];have HOn:Hid (BdO wz.heap.size wt1.heap.size wt5 ({({({s1 with st:=⟨qa,m1,qc⟩}) with at':=⟨ra,mr,rc⟩}) with bl:=⟨ea,me,ec⟩}) ({({({B8 with st:=B.st.filter (notIt n)}) with att:=wo n B8.att}) with bl:=B8.bl.filter (notBk n)})):=Hd (HOo.o.delK HRV.o hg hot);clear HOo;have HOo:=Hd HOn.o;clear HOn hme hot HOX HRV;clear hne ho HROW HBX;have HCt5:Hid (wt4.heap.size<=wt5.heap.size):=Hd (hg.size);clear hg;have c32:wt5.cell? ⟨w.heap.size,32,none⟩=some ((s1.bl.v)):=HXb.o.cell 32;have f32:wt5.frozen? ⟨w.heap.size,32,none⟩=false:=HXb.o.free 32
 go_upto_region 15 with fail
 obtain⟨wt6,hw⟩:∃X,X=wt5.setCell ⟨w.heap.size,32,none⟩ (.slice ea me ec):=⟨_,rfl⟩
 rw[<-hw];have hon:Onl [w.heap.size] wt5 wt6:=by rw[hw];exact Onl.setCell (Onl.refl _ _) (.inl (by simp)) _
 have hx:Bx wt6 (w.heap.size) ({({({s1 with st:=⟨qa,m1,qc⟩}) with at':=⟨ra,mr,rc⟩}) with bl:=⟨ea,me,ec⟩}) (({({({B8 with st:=B.st.filter (notIt n)}) with att:=wo n B8.att}) with bl:=B8.bl.filter (notBk n)})):=by rw[hw];exact HXb.o.put 32 _ rfl
 clear hw c32 f32;have hlo:w.heap.size<=w.heap.size:=by(have o0:=HLO.o;have o1:=HHH.o;have o2:=HCt1.o;have o3:=HCt2.o;have o4:=HCt3.o;have o5:=HCt4.o;have o6:=HCt5.o;have x0:=HXb.o.lt;have x1:=HXn.o.lt;have x2:=HXz.o.lt;omega)
 have hls:w.heap.size<=wt5.heap.size:=HB.o.size;replace HB:=Hd (belowOnl HB.o hon (by simp only[List.mem_singleton,forall_eq];exact hlo) hls);replace HXn:=Hd (HXn.o.onl hon (by simp only[List.mem_singleton];(have o0:=HLO.o;have o1:=HHH.o;have o2:=HCt1.o;have o3:=HCt2.o;have o4:=HCt3.o;have o5:=HCt4.o;have o6:=HCt5.o;have x0:=HXb.o.lt;have x1:=HXn.o.lt;have x2:=HXz.o.lt;omega)));replace HXz:=Hd (HXz.o.onl hon (by simp only[List.mem_singleton];(have o0:=HLO.o;have o1:=HHH.o;have o2:=HCt1.o;have o3:=HCt2.o;have o4:=HCt3.o;have o5:=HCt4.o;have o6:=HCt5.o;have x0:=HXb.o.lt;have x1:=HXn.o.lt;have x2:=HXz.o.lt;omega)));replace HOo:=Hd (HOo.o.onlB hon HXb.o);have HCt6:Hid (wt5.heap.size<=wt6.heap.size):=Hd (hon.size);clear hlo hls;replace HXb:=Hd hx;clear hx hon;have he:({({({B8 with st:=B.st.filter (notIt n)}) with att:=wo n B8.att}) with bl:=B8.bl.filter (notBk n)})=outB B n:=by rw[HE8.o.2.1,HE8.o.2.2,HBE.o];rfl
 rw[he] at HXb HOo
 clear he;go_wp2_with (first|(refine wpList_load_bx _ rfl rfl HXb.o (by kernel_rfl) ?_)|(refine wpList_store_bh (s:=({({({s1 with st:=⟨qa,m1,qc⟩}) with at':=⟨ra,mr,rc⟩}) with bl:=⟨ea,me,ec⟩})) (B:=(outB B n)) rfl _ _ rfl rfl rfl HXz.o rfl ?_;intro wt7 hw9))
 have hg9:Bx wt7 (w.heap.size+1+1) ({({({s1 with st:=⟨qa,m1,qc⟩}) with at':=⟨ra,mr,rc⟩}) with bl:=⟨ea,me,ec⟩}) ((outB B n)):=by rw[hw9.out];exact Bx.row HXz.o _ _
 have ho9:Onl [w.heap.size+1+1] wt6 wt7:=by rw[hw9.out];exact Onl.setRow (Onl.refl _ _) (.inl (by simp)) _
 have hlo:w.heap.size<=w.heap.size+1+1:=by(have o0:=HLO.o;have o1:=HHH.o;have o2:=HCt1.o;have o3:=HCt2.o;have o4:=HCt3.o;have o5:=HCt4.o;have o6:=HCt5.o;have o7:=HCt6.o;have x0:=HXb.o.lt;have x1:=HXn.o.lt;have x2:=HXz.o.lt;omega)
 have hb9:Below w.heap.size w wt7:=belowOnl HB.o ho9 (by simp only[List.mem_singleton,forall_eq];exact hlo) HB.o.size;have HG9:=Hd hg9;have HPOST:Hid (CpA w ((outB B n)) (.returned (bv ({({({s1 with st:=⟨qa,m1,qc⟩}) with at':=⟨ra,mr,rc⟩}) with bl:=⟨ea,me,ec⟩}) ((outB B n)))) wt7):=Hd ⟨_,rfl,(HOo.o.onlB ho9 HXz.o).mono (by(have o0:=HLO.o;have o1:=HHH.o;have o2:=HCt1.o;have o3:=HCt2.o;have o4:=HCt3.o;have o5:=HCt4.o;have o6:=HCt5.o;have o7:=HCt6.o;have x0:=HXb.o.lt;have x1:=HXn.o.lt;have x2:=HXz.o.lt;omega)) (by have h9:=ho9.size;(have o0:=HLO.o;have o1:=HHH.o;have o2:=HCt1.o;have o3:=HCt2.o;have o4:=HCt3.o;have o5:=HCt4.o;have o6:=HCt5.o;have o7:=HCt6.o;have x0:=HXb.o.lt;have x1:=HXn.o.lt;have x2:=HXz.o.lt;omega)),hb9⟩;clear hw9 hg9 ho9 hb9 hlo;go_wp2_with fail
 exact bodyPost_ret (v:=bv ({({({s1 with st:=⟨qa,m1,qc⟩}) with at':=⟨ra,mr,rc⟩}) with bl:=⟨ea,me,ec⟩}) ((outB B n))) (results_b0 Tryz.results91 _ _ HG9.o rfl) rfl HPOST.o
end Go.Proofs.YtpbepnpnpopmfaaGreat
