/- What is out of all places: the functions that tell it, by the code. An object in no place, by the code. -/
import Derived.Test.YtpbepnpnpopmfaaTOu
import Derived.Deep.DeepCutAuto
import Derived.LoopTactic
import Derived.Deep.MidRow
import Derived.Test.YtpbepnpnpopmfaaUDk
import Derived.Test.YtpbepnpnpopmfaaTDx
namespace Go.Proofs.Ytpbepnpnpopmfaa
open Go.RowKit Plain
set_option linter.unusedVariables false
set_option linter.unusedSimpArgs false

theorem cfU1(args:Array Value)(w:World):(callFunc 79 args).run Try.prog w= .ok (.enter 79 args) w:=by kernel_rfl
theorem cfU2(args:Array Value)(w:World):(callFunc 82 args).run Try.prog w= .ok (.enter 82 args) w:=by kernel_rfl
theorem cfU3(args:Array Value)(w:World):(callFunc 84 args).run Try.prog w= .ok (.enter 84 args) w:=by kernel_rfl
set_option maxRecDepth 100000 in
set_option maxHeartbeats 4000000 in
theorem uo1(y n:Int)(P:Nat)(w:World)(h:Ro w P #[.int .i64 n] 3):Calls Try.prog 79 #[.int .i64 y,.pointer (some ⟨P,0,none⟩)] w fun e w' =>e= .returned (.bool (y==n))∧Below w.heap.size w w':=by
 have d0:w.cell? ⟨P,0,none⟩=some (.int .i64 n):=h.cell 0;clear h;go_enter Try.func79,Try.ntmps79;go_wp2_with fail
 go_returns
 exact⟨rfl,by go_grown⟩
set_option maxRecDepth 100000 in
set_option maxHeartbeats 4000000 in
theorem uo2(y:It×Sl)(n:Int)(P:Nat)(w:World)(h:Ro w P #[.int .i64 n] 3):Calls Try.prog 82 #[.agg #[.int .i64 y.1.pl,.int .i64 y.1.id,.int .i64 y.1.cd,.int .i64 y.1.tr,.slice y.2.a y.2.n y.2.c],.pointer (some ⟨P,0,none⟩)] w fun e w' =>e= .returned (.bool (decide (y.1.tr<0)&&(y.1.id==n)))∧Below w.heap.size w w':=by
 have HP:=Lib.hid h
 obtain⟨r1,h1⟩:∃r,decide (y.1.tr<0)=r:=⟨_,rfl⟩
 obtain⟨r2,h2⟩:∃r,(y.1.id==n)=r:=⟨_,rfl⟩
 rw[h1,h2];clear h;go_enter Try.func82,Try.ntmps82
 go_upto_region 1 with fail
 obtain⟨wz,hwz⟩:∃W,W=(w.alloc (.cells #[.int .i64 y.1.pl,.int .i64 y.1.id,.int .i64 y.1.cd,.int .i64 y.1.tr,.slice y.2.a y.2.n y.2.c] 45)):=⟨_,rfl⟩
 change Code.wp Try.prog _ _ _ (w.alloc (.cells #[.int .i64 y.1.pl,.int .i64 y.1.id,.int .i64 y.1.cd,.int .i64 y.1.tr,.slice y.2.a y.2.n y.2.c] 45));rw[←hwz];have hb:Below w.heap.size w wz:=by rw[hwz];exact(Below.refl _ _).alloc (Nat.le_refl _) _
 have hr:Ro wz w.heap.size #[.int .i64 y.1.pl,.int .i64 y.1.id,.int .i64 y.1.cd,.int .i64 y.1.tr,.slice y.2.a y.2.n y.2.c] 45:=by rw[hwz];exact Ro.new _ _ _
 have d1:wz.cell? ⟨w.heap.size,1,none⟩=some (.int .i64 y.1.id):=hr.cell 1;have d3:wz.cell? ⟨w.heap.size,3,none⟩=some (.int .i64 y.1.tr):=hr.cell 3;have d0:wz.cell? ⟨P,0,none⟩=some (.int .i64 n):=(HP.out.below hb).cell 0;have HB:=Lib.hid hb;clear hwz hb hr
 cases r1
 ·go_wp2_with fail
  go_returns
  exact⟨rfl,HB.out⟩
 ·go_wp2_with fail
  go_returns
  exact⟨rfl,HB.out⟩
set_option maxRecDepth 100000 in
set_option maxHeartbeats 4000000 in
theorem uo3(x:Bk)(n:Int)(P:Nat)(w:World)(h:Ro w P #[.int .i64 n] 3):Calls Try.prog 84 #[.agg #[.int .i64 x.bl,.int .i64 x.at'],.pointer (some ⟨P,0,none⟩)] w fun e w' =>e= .returned (.bool (x.bl==n||x.at' ==n))∧Below w.heap.size w w':=by
 have HP:=Lib.hid h
 obtain⟨r1,h1⟩:∃r,(x.bl==n)=r:=⟨_,rfl⟩
 obtain⟨r2,h2⟩:∃r,(x.at' ==n)=r:=⟨_,rfl⟩
 rw[h1,h2];clear h;go_enter Try.func84,Try.ntmps84
 go_upto_region 1 with fail
 obtain⟨wz,hwz⟩:∃W,W=(w.alloc (.cells #[.int .i64 x.bl,.int .i64 x.at'] 95)):=⟨_,rfl⟩
 change Code.wp Try.prog _ _ _ (w.alloc (.cells #[.int .i64 x.bl,.int .i64 x.at'] 95));rw[←hwz];have hb:Below w.heap.size w wz:=by rw[hwz];exact(Below.refl _ _).alloc (Nat.le_refl _) _
 have hr:Ro wz w.heap.size #[.int .i64 x.bl,.int .i64 x.at'] 95:=by rw[hwz];exact Ro.new _ _ _
 have d1:wz.cell? ⟨w.heap.size,0,none⟩=some (.int .i64 x.bl):=hr.cell 0;have d3:wz.cell? ⟨w.heap.size,1,none⟩=some (.int .i64 x.at'):=hr.cell 1;have d0:wz.cell? ⟨P,0,none⟩=some (.int .i64 n):=(HP.out.below hb).cell 0;have HB:=Lib.hid hb;clear hwz hb hr
 cases r1
 ·go_wp2_with fail
  go_returns
  exact⟨rfl,HB.out⟩
 ·go_wp2_with fail
  go_returns
  exact⟨rfl,HB.out⟩
/-- the zones before k are done -/
def Plain.outZ(B:Bd)(n:Int):Nat→Bd
 |0=>B
 |k+1=>(outZ B n k).setL (k / 4) (k%4) (wo n (B.il k))
theorem outZ_il(B:Bd)(n:Int):∀{k j:Nat},k≤8→j<9→(outZ B n k).il j=if j<k then wo n (B.il j) else B.il j
 |0,j,_,_=>by rw[if_neg (by omega)];rfl
 |k+1,j,hk,hj=>by
  rw[outZ,setL_il _ _ (by omega) (by omega) hj,show 4*(k / 4)+k%4=k by omega]
  by_cases h:j=k
  ·subst h
   rw[if_pos rfl,if_pos (by omega)]
  ·rw[if_neg h,outZ_il B n (by omega) hj]
   by_cases h2:j<k
   ·rw[if_pos h2,if_pos (by omega)]
   ·rw[if_neg h2,if_neg (by omega)]
theorem outZ_all(B:Bd)(n:Int):outZ B n 8={B with s0:=B.s0.out n,s1:=B.s1.out n}:=by kernel_rfl
theorem outZ_rest(B:Bd)(n:Int):∀{k:Nat},k≤8→(outZ B n k).ob=B.ob∧(outZ B n k).st=B.st∧(outZ B n k).qu=B.qu∧(outZ B n k).bl=B.bl∧(outZ B n k).att=B.att
 |0,_=>⟨rfl,rfl,rfl,rfl,rfl⟩
 |k+1,hk=>by
  obtain⟨h1,h2,h3,h4,h5⟩:=outZ_rest B n (k:=k) (by omega)
  obtain⟨g1,g2,g3,g4⟩:=setL_rest (outZ B n k) (wo n (B.il k)) (p:=k / 4) (z:=k%4) (by omega) (by omega)
  have g5:((outZ B n k).setL (k / 4) (k%4) (wo n (B.il k))).att=(outZ B n k).att:=by unfold Bd.setL;split<;>rfl
  exact⟨g1.trans h1,g2.trans h2,g3.trans h3,g4.trans h4,g5.trans h5⟩
/-- a list of ids of the board, in its own row, becomes another one -/
theorem BdO.delZ{lo hi:Nat}{w w':World}{s:Bs}{B:Bd}(h:BdO lo hi w s B){p z:Nat}(hp:p<2)(hz:z<4){a:Option Addr}{m c m':Nat}{l':List Int}(hs:(s.isl (4*p+z)).v= .slice a m c)(hg:w.grownBy w' (Value.slice a m c).ownBlock)(hv:Ox ic 1 3 lo hi w' (.slice a m' c) l'):BdO lo hi w' (s.setZ p z ⟨a,m',c⟩) (B.setL p z l'):=by
 have hj:4*p+z<9:=by omega
 have ht:∀b,(Value.slice a m c).ownBlock=some b→∃cur,w.heap[b]? =some (.cells cur 3 (0,0)):=fun b hb=>by
  have h1:=(h.il _ hj).1.typ b (by rw[hs];exact hb);exact h1.2.2
 have how:(Value.slice a m' c).ownBlock=(Value.slice a m c).ownBlock:=by cases a<;>rfl
 obtain⟨r1,r2,r3,r4,r5⟩:=setZ_rest s ⟨a,m',c⟩ hp hz
 obtain⟨g1,g2,g3,g4⟩:=setL_rest B l' hp hz
 have hi2:∀{v:Value} {L:List It},ItO lo hi w v L→ItO lo hi w' v L:=fun h=>by
  obtain⟨l0,e1,e2,e3⟩:=h
  exact⟨l0,e1,e2.other hg ht (by decide) (Nat.le_refl _),fun x hx=>(e3 x hx).map (fun h=>h.other hg ht (by decide) (Nat.le_refl _))⟩
 have hown:∀j,j<9→((s.setZ p z ⟨a,m',c⟩).isl j).v.ownBlock=(s.isl j).v.ownBlock:=fun j hj9=>by
  rw[setZ_isl s _ hp hz hj9]
  by_cases e:j=4*p+z
  ·rw[if_pos e,e,hs];exact how
  ·rw[if_neg e]
 refine⟨?_,fun j hj9=> ?_,fun i j hi9 hj9 hne b hb=> ?_,?_,?_,?_,?_⟩
 ·rw[r1,g1];exact h.ob.other hg ht (by decide) (Nat.le_refl _)
 ·rw[setZ_isl s _ hp hz hj9,setL_il B l' hp hz hj9]
  by_cases e:j=4*p+z
  ·rw[if_pos e,if_pos e];exact hv
  ·rw[if_neg e,if_neg e]
   exact(h.il j hj9).keep (fun k _ _ hb=>hg.block k ((h.il j hj9).blk hb).2.2 (fun e1=>h.nd j _ hj9 hj e k hb (by rw[hs];exact e1.symm)))
 ·rw[hown i hi9] at hb
  rw[hown j hj9];exact h.nd i j hi9 hj9 hne b hb
 ·rw[r2,g2];exact hi2 h.st
 ·rw[r3,g3];exact hi2 h.qu
 ·rw[r2,r3];exact h.ns
 ·rw[r4,g4];exact h.bl.other hg ht (by decide) (Nat.le_refl _)
theorem ItO.filt{lo hi:Nat}{w w':World}{v v2:Value}{l':List (It×Sl)}{q:It×Sl→Bool}(hox:Ox itc 5 45 lo hi w v l')(hot:∀x∈l',TgO lo hi w x.2.v x.1.tg)(hg:w.grownBy w' v.ownBlock)(ho:Ox itc 5 45 lo hi w' v2 (l'.filter q))(hh:hi≤w'.heap.size):ItO lo w'.heap.size w' v2 ((l'.filter q).map Prod.fst):=
 ⟨l'.filter q,rfl,ho.mono (Nat.le_refl _) hh,fun x hx=>(hot x (List.mem_filter.1 hx).1).map (fun h=>h.other hg (fun b hb=>by
  obtain⟨_,_,c,hc⟩:=hox.1.typ b hb
  exact⟨c,hc⟩) (by decide) hh)⟩
theorem notIt_eq{B:Bd}(h:VB B)(n:Int):B.st.filter (fun x=> !(decide (x.tr<0)&&(x.id==n)))=B.st.filter (notIt n):=by
 refine List.filter_congr (fun x hx=> ?_);have h1:=List.all_eq_true.1 h.its.1 x hx;unfold itB itN at h1
 have h2:=of_decide_eq_true (Bool.and_eq_true_iff.1 h1).1;unfold notIt;have h3:=h2.2.2.2.1.1
 by_cases e:x.tr= -1
 ·rw[e];rfl
 ·have e1:decide (x.tr<0)=false:=decide_eq_false (by omega)
  have e2:(x.tr== -1)=false:=by simpa using e
  rw[e1,e2];rfl
theorem notBk_eq(l:List Bk)(n:Int):l.filter (fun x=> !(x.bl==n||x.at' ==n))=l.filter (notBk n):=by
 refine List.filter_congr (fun x _=> ?_);unfold notBk;rw[Bool.not_or]
/-- the attackers, in their own row, become others -/
theorem BdO.delA{lo hi:Nat}{w w':World}{s:Bs}{B:Bd}(h:BdO lo hi w s B){a:Option Addr}{m c m':Nat}{l':List Int}(hs:s.at'.v= .slice a m c)(hg:w.grownBy w' (Value.slice a m c).ownBlock)(hv:Ox ic 1 3 lo hi w' (.slice a m' c) l'):BdO lo hi w' {s with at':=⟨a,m',c⟩} {B with att:=l'}:=by
 have e8:s.isl 8=s.at':=rfl
 have ht:∀b,(Value.slice a m c).ownBlock=some b→∃cur,w.heap[b]? =some (.cells cur 3 (0,0)):=fun b hb=>((h.il 8 (by omega)).1.typ b (by rw[e8,hs];exact hb)).2.2
 have how:(Value.slice a m' c).ownBlock=(Value.slice a m c).ownBlock:=by cases a<;>rfl
 have hi2:∀{v:Value} {L:List It},ItO lo hi w v L→ItO lo hi w' v L:=fun h=>by
  obtain⟨l0,e1,e2,e3⟩:=h
  exact⟨l0,e1,e2.other hg ht (by decide) (Nat.le_refl _),fun x hx=>(e3 x hx).map (fun h=>h.other hg ht (by decide) (Nat.le_refl _))⟩
 have eo:∀j,j<8→({s with at':=⟨a,m',c⟩}:Bs).isl j=s.isl j:=fun j hj=>by
  have:j=0∨j=1∨j=2∨j=3∨j=4∨j=5∨j=6∨j=7:=by omega
  rcases this with rfl|rfl|rfl|rfl|rfl|rfl|rfl|rfl<;>rfl
 have eb:∀j,j<8→({B with att:=l'}:Bd).il j=B.il j:=fun j hj=>by
  have:j=0∨j=1∨j=2∨j=3∨j=4∨j=5∨j=6∨j=7:=by omega
  rcases this with rfl|rfl|rfl|rfl|rfl|rfl|rfl|rfl<;>rfl
 have hown:∀j,j<9→(({s with at':=⟨a,m',c⟩}:Bs).isl j).v.ownBlock=(s.isl j).v.ownBlock:=fun j hj=>by
  by_cases e:j<8
  ·rw[eo j e]
  ·obtain rfl:j=8:=by omega
   rw[e8,hs];exact how
 refine⟨h.ob.other hg ht (by decide) (Nat.le_refl _),fun j hj=> ?_,fun i j hi9 hj9 hne b hb=> ?_,hi2 h.st,hi2 h.qu,h.ns,h.bl.other hg ht (by decide) (Nat.le_refl _)⟩
 ·by_cases e:j<8
  ·rw[eo j e,eb j e]
   exact(h.il j hj).keep (fun k _ _ hb=>hg.block k ((h.il j hj).blk hb).2.2 (fun e1=>h.nd j 8 hj (by omega) (by omega) k hb (by rw[e8,hs];exact e1.symm)))
  ·obtain rfl:j=8:=by omega
   exact hv
 ·rw[hown i hi9] at hb
  rw[hown j hj9];exact h.nd i j hi9 hj9 hne b hb
/-- the blocks, in their own row, become others -/
theorem BdO.delK{lo hi:Nat}{w w':World}{s:Bs}{B:Bd}(h:BdO lo hi w s B){a:Option Addr}{m c m':Nat}{l':List Bk}(hs:s.bl.v= .slice a m c)(hg:w.grownBy w' (Value.slice a m c).ownBlock)(hv:Ox kc 2 95 lo hi w' (.slice a m' c) l'):BdO lo hi w' {s with bl:=⟨a,m',c⟩} {B with bl:=l'}:=by
 have ht:∀b,(Value.slice a m c).ownBlock=some b→∃cur,w.heap[b]? =some (.cells cur 95 (0,0)):=fun b hb=>(h.bl.1.typ b (by rw[hs];exact hb)).2.2
 have hi2:∀{v:Value} {L:List It},ItO lo hi w v L→ItO lo hi w' v L:=fun h=>by
  obtain⟨l0,e1,e2,e3⟩:=h
  exact⟨l0,e1,e2.other hg ht (by decide) (Nat.le_refl _),fun x hx=>(e3 x hx).map (fun h=>h.other hg ht (by decide) (Nat.le_refl _))⟩
 exact⟨h.ob.other hg ht (by decide) (Nat.le_refl _),fun j hj=>(h.il j hj).other hg ht (by decide) (Nat.le_refl _),h.nd,hi2 h.st,hi2 h.qu,h.ns,hv⟩
end Go.Proofs.Ytpbepnpnpopmfaa
namespace Go.Proofs.Ytpbepnpnpopmfaa
open Go.RowKit Plain
set_option linter.unusedVariables false
set_option linter.unusedSimpArgs false

/-- between the zones -/
structure OzR(w:World)(lo hi:Nat)(B:Bd)(n:Int)(k:Nat)(s':Bs)(wr:World):Prop where
 box:Bx wr w.heap.size s' (outZ B n k)
 own:BdO lo hi wr s' (outZ B n k)
 hb:Below w.heap.size w wr
 hn:Ro wr (w.heap.size+1) #[.int .i64 n] 3
 hz:Bx wr (w.heap.size+1+1) nilS zeroB
 hh:hi≤wr.heap.size
def OzP(w:World)(lo hi:Nat)(B:Bd)(n:Int)(v:Value)(wr:World):Prop:=∃(p:Nat) (s':Bs),p≤2∧v= .int .i64 p∧OzR w lo hi B n (4*p) s' wr
def OzZ(w:World)(lo hi:Nat)(B:Bd)(n:Int)(p:Nat)(v:Value)(wr:World):Prop:=∃(z:Nat) (s':Bs),z≤4∧v= .int .i64 z∧OzR w lo hi B n (4*p+z) s' wr
theorem OzR.call{w:World}{lo hi:Nat}{B:Bd}{n:Int}{k:Nat}{s':Bs}{wr w':World}(h:OzR w lo hi B n k s' wr)(hb:Below wr.heap.size wr w'):OzR w lo hi B n k s' w':=⟨h.box.below hb,h.own.below hb,below_via h.hb hb,h.hn.below hb,h.hz.below hb,Nat.le_trans h.hh hb.size⟩
/-- a zone is done -/
theorem OzR.step{w:World}{lo hi:Nat}{B:Bd}{n:Int}{p z:Nat}{s':Bs}{wr w1:World}(h:OzR w lo hi B n (4*p+z) s' wr)(hp:p<2)(hz:z<4)(hlo:w.heap.size+1+1<lo){a:Option Addr}{m c m':Nat}(hs:(s'.isl (4*p+z)).v= .slice a m c)(hg:wr.grownBy w1 (Value.slice a m c).ownBlock)(hv:Ox ic 1 3 lo hi w1 (.slice a m' c) (wo n (B.il (4*p+z)))):OzR w lo hi B n (4*p+z+1) (s'.setZ p z ⟨a,m',c⟩) (w1.setCell ⟨w.heap.size,1+p*14+5+z,none⟩ (.slice a m' c)):=by
 have hj:4*p+z<9:=by omega
 have hrow:∀b,(Value.slice a m c).ownBlock=some b→lo≤b∧b<hi:=fun b hb=>by
  have h1:=(h.own.il _ hj).blk (b:=b) (by rw[hs];exact hb)
  exact⟨h1.1,h1.2.1⟩
 have hne:∀P,P<lo→(Value.slice a m c).ownBlock≠some P:=fun P hP e=>by have:=(hrow P e).1;omega
 have hbx:Bx w1 w.heap.size s' (outZ B n (4*p+z)):=h.box.grown hg (hne _ (by omega));have hon:Onl [w.heap.size] w1 (w1.setCell ⟨w.heap.size,1+p*14+5+z,none⟩ (.slice a m' c)):=Onl.setCell (Onl.refl _ _) (.inl (by simp)) _;have hb1:Below w.heap.size w w1:=h.hb.grown hg h.hb.size (fun q hq=>by have:=(hrow q hq).1;omega)
 have e:outZ B n (4*p+z+1)=(outZ B n (4*p+z)).setL p z (wo n (B.il (4*p+z))):=by
  rw[outZ,show(4*p+z) / 4=p by omega,show(4*p+z)%4=z by omega]
 have ho:=(h.own.delZ hp hz hs hg hv).onlB hon hbx
 refine⟨by rw[e];exact hbx.putL hp hz ⟨a,m',c⟩ _,by rw[e];exact ho,belowOnl hb1 hon (by simp) hb1.size,(h.hn.grown hg (hne _ (by omega))).onl hon (by simp only[List.mem_singleton];omega),(h.hz.grown hg (hne _ (by omega))).onl hon (by simp only[List.mem_singleton];omega),?_⟩
 exact Nat.le_trans h.hh (Nat.le_trans hg.size hon.size)
set_option maxRecDepth 100000 in
set_option maxHeartbeats 4000000 in
theorem bout(s:Bs)(B:Bd)(n:Int)(w:World)(h:BdR w s B)(hv:VB B):Calls Try.prog 68 #[bv s B,.int .i64 n] w (CpA w (outB B n)):=by
 have HR:=Lib.hid h;have HSM:=Lib.hid hv.sm;have HTL:=Lib.hid hv.tl;have HV:=Lib.hid hv;clear h hv;go_enter Try.func68,Try.ntmps68
 go_upto_region 1 with fail
 change Code.wp Try.prog _ _ _ (((w.alloc (.cells (bcells s B) 34)).alloc (.cells #[.int .i64 n] 3)).alloc (.cells (bcells nilS zeroB) 34))
 obtain⟨wz,hwz⟩:∃W,W=(((w.alloc (.cells (bcells s B) 34)).alloc (.cells #[.int .i64 n] 3)).alloc (.cells (bcells nilS zeroB) 34)):=⟨_,rfl⟩
 rw[←hwz];have b0:Below w.heap.size w (w.alloc (.cells (bcells s B) 34)):=by exact(Below.refl _ _).alloc (Nat.le_refl _) _
 have b1:Below (w.alloc (.cells (bcells s B) 34)).heap.size (w.alloc (.cells (bcells s B) 34)) ((w.alloc (.cells (bcells s B) 34)).alloc (.cells #[.int .i64 n] 3)):=by exact(Below.refl _ _).alloc (Nat.le_refl _) _
 have b2:Below ((w.alloc (.cells (bcells s B) 34)).alloc (.cells #[.int .i64 n] 3)).heap.size ((w.alloc (.cells (bcells s B) 34)).alloc (.cells #[.int .i64 n] 3)) wz:=by rw[hwz];exact(Below.refl _ _).alloc (Nat.le_refl _) _
 have HB:Hid (Below w.heap.size w wz):=Lib.hid (below_via (below_via b0 b1) b2);have HXb:Hid (Bx wz (w.heap.size) s B):=Lib.hid (((Ro.new w (bcells s B) 34).below b1:Ro _ _ _ _).below b2);have HXn:Hid (Ro wz (w.heap.size+1) #[.int .i64 n] 3):=Lib.hid (by rw[show w.heap.size+1=(w.alloc (.cells (bcells s B) 34)).heap.size by simp];exact((Ro.new (w.alloc (.cells (bcells s B) 34)) #[.int .i64 n] 3).below b2:Ro _ _ _ _));have HXz:Hid (Bx wz (w.heap.size+1+1) nilS zeroB):=Lib.hid (by rw[show w.heap.size+1+1=((w.alloc (.cells (bcells s B) 34)).alloc (.cells #[.int .i64 n] 3)).heap.size by simp];exact(by rw[hwz];exact(Ro.new ((w.alloc (.cells (bcells s B) 34)).alloc (.cells #[.int .i64 n] 3)) (bcells nilS zeroB) 34)));have HC1:Hid (w.heap.size+3≤wz.heap.size):=Lib.hid (by rw[hwz];simp);clear hwz b0 b1 b2;go_wp2_with (first|(refine wpList_load_bx _ rfl rfl HXb.out (by kernel_rfl) ?_))
 with_reducible refine(bcopy s B _ (HR.out.below HB.out) HSM.out HTL.out).mono ?_
 rintro e w1 ⟨sc,rfl,ho,hb⟩;have HC2:Hid (wz.heap.size≤w1.heap.size):=Lib.hid (hb.size);replace HB:=Lib.hid (below_via HB.out hb);replace HXb:=Lib.hid (HXb.out.below hb);replace HXn:=Lib.hid (HXn.out.below hb);replace HXz:=Lib.hid (HXz.out.below hb);have HOc:=Lib.hid ho;clear ho hb;go_wp2_with (first|(refine wpList_store_bh (s:=sc) (B:=B) rfl _ _ rfl rfl rfl HXb.out rfl ?_))
 intro w2 hw0;have hon:Onl [w.heap.size] w1 w2:=by rw[hw0.out];exact Onl.setRow (Onl.refl _ _) (.inl (by simp)) _
 have hx:Bx w2 (w.heap.size) sc (B):=by rw[hw0.out];exact Bx.row HXb.out _ _
 clear hw0;have hlo:w.heap.size≤w.heap.size:=by(have o0:=HC1.out;have o1:=HC2.out;have x0:=HXb.out.lt;have x1:=HXn.out.lt;have x2:=HXz.out.lt;omega)
 have hls:w.heap.size≤w1.heap.size:=HB.out.size;replace HB:=Lib.hid (belowOnl HB.out hon (by simp only[List.mem_singleton,forall_eq];exact hlo) hls);replace HXn:=Lib.hid (HXn.out.onl hon (by simp only[List.mem_singleton];(have o0:=HC1.out;have o1:=HC2.out;have x0:=HXb.out.lt;have x1:=HXn.out.lt;have x2:=HXz.out.lt;omega)));replace HXz:=Lib.hid (HXz.out.onl hon (by simp only[List.mem_singleton];(have o0:=HC1.out;have o1:=HC2.out;have x0:=HXb.out.lt;have x1:=HXn.out.lt;have x2:=HXz.out.lt;omega)));replace HOc:=Lib.hid (HOc.out.onlB hon HXb.out);have HC3:Hid (w1.heap.size≤w2.heap.size):=Lib.hid (hon.size);clear hlo hls;replace HXb:=Lib.hid hx;clear hx hon;have HLO:Hid (w.heap.size+1+1<wz.heap.size):=Lib.hid (by(have o0:=HC1.out;have o1:=HC2.out;have o2:=HC3.out;have x0:=HXb.out.lt;have x1:=HXn.out.lt;have x2:=HXz.out.lt;omega));have HS0:Hid (OzR w wz.heap.size w1.heap.size B n 0 sc w2):=Lib.hid ⟨HXb.out,HOc.out,HB.out,HXn.out,HXz.out,(by(have o0:=HC1.out;have o1:=HC2.out;have o2:=HC3.out;have x0:=HXb.out.lt;have x1:=HXn.out.lt;have x2:=HXz.out.lt;omega))⟩;clear HXb HOc HXn HXz HB HC1 HC2 HC3;go_wp2_with fail
 go_loopw [12] (fun v wr=>OzP w wz.heap.size w1.heap.size B n v wr) (fun v _=>2-(intOf v).toNat)
 case atStart=>exact⟨0,_,by omega,rfl,HS0.out⟩
 case round=>
  obtain⟨p,s1,hp,rfl,hst⟩:=hrel
  have HST:=Lib.hid hst;clear hst HS0
  by_cases hp2:p<2
  ·have i1:(0:Int)≤(p:Int):=by omega
   have i2:(p:Int)<2:=by omega
   go_wp2_with fail
   with_reducible refine(lists w.heap.size (1+p*14) _).mono ?_
   rintro e v2 ⟨rfl,hb2⟩;replace HST:=Lib.hid (HST.out.call hb2);clear hb2;go_wp2_with fail
   go_loopw [19] (fun z wr=>OzZ w wz.heap.size w1.heap.size B n p z wr) (fun z _=>4-(intOf z).toNat)
   case atStart=>exact⟨0,_,by omega,rfl,HST.out⟩
   case round=>
    obtain⟨z,s2,hz,rfl,hst⟩:=hrel
    replace HST:=Lib.hid hst;clear hst
    by_cases hz4:z<4
    ·have j1:(0:Int)≤(z:Int):=by omega
     have j2:(z:Int)<4:=by omega
     have hix:=idx4 w.heap.size (1+p*14) hz4
     obtain⟨a0,c0,e0⟩:=(HST.out.own.il (4*p+z) (by omega)).1.form
     have hil:(outZ B n (4*p+z)).il (4*p+z)=B.il (4*p+z):=by rw[outZ_il B n (by omega) (by omega),if_neg (by omega)]
     have hox:=HST.out.own.il (4*p+z) (by omega);rw[hil] at hox e0
     rw[e0] at hox
     have hcz:wr.cell? ⟨w.heap.size,1+p*14+5+z,none⟩=some (.slice a0 (B.il (4*p+z)).length c0):=by
      have h1:=HST.out.box.zone hp2 hz4;have e:s2.isl (4*p+z)=s2.zl p z:=by unfold Bs.isl;rw[if_pos (by omega),show(4*p+z) / 4=p by omega,show(4*p+z)%4=z by omega]
      rw[e] at e0
      exact h1.trans (congrArg some e0)
     have hcf:=HST.out.box.free (1+p*14+5+z);have hpl:=HST.out.box.lt
     have hle:(B.il (4*p+z)).length≤1000:=by
      have e:B.il (4*p+z)=(B.seat p).zs z:=by
       have:(p=0∧z=0)∨(p=0∧z=1)∨(p=0∧z=2)∨(p=0∧z=3)∨(p=1∧z=0)∨(p=1∧z=1)∨(p=1∧z=2)∨(p=1∧z=3):=by omega
       rcases this with⟨rfl,rfl⟩|⟨rfl,rfl⟩|⟨rfl,rfl⟩|⟨rfl,rfl⟩|⟨rfl,rfl⟩|⟨rfl,rfl⟩|⟨rfl,rfl⟩|⟨rfl,rfl⟩<;>rfl
      rw[e];exact HSM.out.zs p z
     have HOX:=Lib.hid hox;have HE0:=Lib.hid e0;have HP2:=Lib.hid hp2;have HZ4:=Lib.hid hz4;have HDL:=Lib.hid (delI 79 cfU1 (.pointer (some ⟨w.heap.size+1,0,none⟩)) (fun y=>y==n) a0 c0 (B.il (4*p+z)) wz.heap.size w1.heap.size wr hox hle (fun W x hx hg=>uo1 x n (w.heap.size+1) W (HST.out.hn.grown hg (fun e=>by have h1:=(HOX.out.blk e).1;have h2:=HLO.out;omega))));clear hox hil hle e0;go_wp2_with fail
     with_reducible refine HDL.out.mono ?_
     rintro e v4 ⟨rfl,ho,hg⟩
     have ecz:v4.cell? ⟨w.heap.size,1+p*14+5+z,none⟩=some (.slice a0 (B.il (4*p+z)).length c0):=by
      have h1:=HST.out.box.grown hg (fun e=>by have h1:=(HOX.out.blk e).1;have h2:=HLO.out;omega);rw[←hcz,h1.cell,HST.out.box.cell]
     have ecf:v4.frozen? ⟨w.heap.size,1+p*14+5+z,none⟩=false:=(HST.out.box.grown hg (fun e=>by have h1:=(HOX.out.blk e).1;have h2:=HLO.out;omega)).free _;have HSTEP:=Lib.hid (HST.out.step hp2 hz4 HLO.out HE0.out hg ho);clear hcz hcf ho hg hpl HDL;go_wp2_with fail
     go_roundw
     case rel=>exact⟨z+1,_,by omega,by go_num,HSTEP.out⟩
     case measure=>simp[intOf];omega
    ·obtain rfl:z=4:=by omega
     have HS8:Hid (OzR w wz.heap.size w1.heap.size B n (4*(p+1)) s2 wr):=Lib.hid (by rw[show 4*(p+1)=4*p+4 by omega];exact HST.out);go_wp2_with fail
     go_roundw
     case rel=>exact⟨p+1,s2,by omega,by go_num,HS8.out⟩
     case measure=>simp[intOf];omega
  ·obtain rfl:p=2:=by omega
   obtain⟨B8,hB8⟩:∃X,X=outZ B n 8:=⟨_,rfl⟩
   have HBE:=Lib.hid (hB8.trans (outZ_all B n));have HS8:Hid (OzR w wz.heap.size w1.heap.size B n 8 s1 wr):=HST;have HB:=Lib.hid HS8.out.hb;have HXb:Hid (Bx wr w.heap.size s1 B8):=Lib.hid (by rw[hB8];exact HS8.out.box);have HXn:=Lib.hid HS8.out.hn;have HXz:=Lib.hid HS8.out.hz;have HOo:Hid (BdO wz.heap.size w1.heap.size wr s1 B8):=Lib.hid (by rw[hB8];exact HS8.out.own);have HHH:Hid (w1.heap.size≤wr.heap.size):=Lib.hid HS8.out.hh;have HE8:Hid (B8.st=B.st∧B8.att=B.att∧B8.bl=B.bl):=Lib.hid (by rw[hB8];obtain⟨_,h2,_,h4,h5⟩:=outZ_rest B n (k:=8) (by omega);exact⟨h2,h5,h4⟩);clear hB8 HS8 HST
   obtain⟨l',hl',hox,hot⟩:=HOo.out.st
   obtain⟨qa,qc,hqv⟩:=hox.1.form
   have hll:l'.length≤1000:=by rw[←List.length_map (f:=Prod.fst),hl',HE8.out.1];exact HSM.out.st
   rw[hqv] at hox
   have HOX:=Lib.hid hox;have HOT:=Lib.hid hot;have HL':=Lib.hid hl';have HQV:=Lib.hid hqv;have HROW:Hid (∀q,(Value.slice qa l'.length qc).ownBlock=some q→wz.heap.size≤q∧q<w1.heap.size):=Lib.hid (fun q hq=>⟨(HOX.out.blk hq).1,(HOX.out.blk hq).2.1⟩);have c29:wr.cell? ⟨w.heap.size,29,none⟩=some (.slice qa l'.length qc):=by rw[←hqv];exact HXb.out.cell 29
   have HDX:=Lib.hid (delX 82 cfU2 (.pointer (some ⟨w.heap.size+1,0,none⟩)) (fun y=>decide (y.1.tr<0)&&(y.1.id==n)) qa qc l' wz.heap.size w1.heap.size wr hox hll (fun W x hx hg=>uo2 x n (w.heap.size+1) W (HXn.out.grown hg (fun e=>by have h1:=(HROW.out _ e).1;have h2:=HLO.out;omega))));clear hl' hox hot hqv hll
   go_upto_region 12 with fail
   go_wp2_with fail
   with_reducible refine HDX.out.mono ?_
   rintro e wt1 ⟨rfl,ho,hg⟩;clear c29 HDX;have hne:∀P,P<wz.heap.size→(Value.slice qa l'.length qc).ownBlock≠some P:=fun P hP e=>by have:=(HROW.out P e).1;omega
   have HBX:Hid (w.heap.size<wz.heap.size∧w.heap.size+1<wz.heap.size∧w.heap.size+1+1<wz.heap.size):=Lib.hid (by have:=HLO.out;omega);replace HB:=Lib.hid (HB.out.grown hg HB.out.size (fun q hq=>by have h1:=(HROW.out q hq).1;have h2:=HLO.out;omega));replace HXb:=Lib.hid (HXb.out.grown hg (hne _ HBX.out.1));replace HXn:=Lib.hid (HXn.out.grown hg (hne _ HBX.out.2.1));replace HXz:=Lib.hid (HXz.out.grown hg (hne _ HBX.out.2.2))
   have hmf:(l'.filter (fun y=> !(decide (y.1.tr<0)&&(y.1.id==n)))).map Prod.fst=B.st.filter (notIt n):=by
    rw[map_filtI (p:=fun x=> !(decide (x.tr<0)&&(x.id==n))),HL'.out,HE8.out.1];exact notIt_eq HV.out n
   obtain⟨m1,hm1⟩:∃m1,m1=(l'.filter (fun y=> !(decide (y.1.tr<0)&&(y.1.id==n)))).length:=⟨_,rfl⟩
   have hit:ItO wz.heap.size wt1.heap.size wt1 (.slice qa m1 qc) (B.st.filter (notIt n)):=by
    rw[←hmf,hm1];exact ItO.filt HOX.out HOT.out hg ho (Nat.le_trans HHH.out hg.size)
   rw[←hm1];have HOn:=Lib.hid (HOo.out.newSt HHH.out ⟨qa,m1,qc⟩ _ (by rw[HQV.out];exact hg) hit (by rw[HQV.out];exact .inl (by cases qa<;>rfl)));replace HOo:=HOn;clear HOn hmf hm1 hit HOX HOT HL' HQV;clear hne ho HROW HBX;have HCt1:Hid (wr.heap.size≤wt1.heap.size):=Lib.hid (hg.size);clear hg;have c29:wt1.cell? ⟨w.heap.size,29,none⟩=some ((s1.st.v)):=HXb.out.cell 29;have f29:wt1.frozen? ⟨w.heap.size,29,none⟩=false:=HXb.out.free 29
   go_upto_region 13 with fail
   obtain⟨wt2,hw⟩:∃X,X=wt1.setCell ⟨w.heap.size,29,none⟩ (.slice qa m1 qc):=⟨_,rfl⟩
   rw[←hw];have hon:Onl [w.heap.size] wt1 wt2:=by rw[hw];exact Onl.setCell (Onl.refl _ _) (.inl (by simp)) _
   have hx:Bx wt2 (w.heap.size) {s1 with st:=⟨qa,m1,qc⟩} ({B8 with st:=B.st.filter (notIt n)}):=by rw[hw];exact HXb.out.put 29 _ rfl
   clear hw c29 f29;have hlo:w.heap.size≤w.heap.size:=by(have o0:=HLO.out;have o1:=HHH.out;have o2:=HCt1.out;have x0:=HXb.out.lt;have x1:=HXn.out.lt;have x2:=HXz.out.lt;omega)
   have hls:w.heap.size≤wt1.heap.size:=HB.out.size;replace HB:=Lib.hid (belowOnl HB.out hon (by simp only[List.mem_singleton,forall_eq];exact hlo) hls);replace HXn:=Lib.hid (HXn.out.onl hon (by simp only[List.mem_singleton];(have o0:=HLO.out;have o1:=HHH.out;have o2:=HCt1.out;have x0:=HXb.out.lt;have x1:=HXn.out.lt;have x2:=HXz.out.lt;omega)));replace HXz:=Lib.hid (HXz.out.onl hon (by simp only[List.mem_singleton];(have o0:=HLO.out;have o1:=HHH.out;have o2:=HCt1.out;have x0:=HXb.out.lt;have x1:=HXn.out.lt;have x2:=HXz.out.lt;omega)));replace HOo:=Lib.hid (HOo.out.onlB hon HXb.out);have HCt2:Hid (wt1.heap.size≤wt2.heap.size):=Lib.hid (hon.size);clear hlo hls;replace HXb:=Lib.hid hx;clear hx hon;have hox:Ox ic 1 3 wz.heap.size wt1.heap.size wt2 s1.at'.v B8.att:=HOo.out.il 8 (by omega)
   obtain⟨ra,rc,hrv⟩:=hox.1.form
   have hll:B8.att.length≤1000:=by rw[HE8.out.2.1];exact HSM.out.att
   rw[hrv] at hox
   have HOX:=Lib.hid hox;have HRV:=Lib.hid hrv;have HROW:Hid (∀q,(Value.slice ra B8.att.length rc).ownBlock=some q→wz.heap.size≤q∧q<wt1.heap.size):=Lib.hid (fun q hq=>⟨(HOX.out.blk hq).1,(HOX.out.blk hq).2.1⟩);have c31:wt2.cell? ⟨w.heap.size,31,none⟩=some (.slice ra B8.att.length rc):=by rw[←hrv];exact HXb.out.cell 31
   have HDr:=Lib.hid (delI 79 cfU1 (.pointer (some ⟨w.heap.size+1,0,none⟩)) (fun y=>y==n) ra rc B8.att wz.heap.size wt1.heap.size wt2 hox hll (fun W x hx hg=>uo1 x n (w.heap.size+1) W (HXn.out.grown hg (fun e=>by have h1:=(HROW.out _ e).1;have h2:=HLO.out;omega))));clear hox hll hrv
   go_upto_region 13 with fail
   go_wp2_with fail
   with_reducible refine HDr.out.mono ?_
   rintro e wt3 ⟨rfl,ho,hg⟩;clear c31 HDr;have hne:∀P,P<wz.heap.size→(Value.slice ra B8.att.length rc).ownBlock≠some P:=fun P hP e=>by have:=(HROW.out P e).1;omega
   have HBX:Hid (w.heap.size<wz.heap.size∧w.heap.size+1<wz.heap.size∧w.heap.size+1+1<wz.heap.size):=Lib.hid (by have:=HLO.out;omega);replace HB:=Lib.hid (HB.out.grown hg HB.out.size (fun q hq=>by have h1:=(HROW.out q hq).1;have h2:=HLO.out;omega));replace HXb:=Lib.hid (HXb.out.grown hg (hne _ HBX.out.1));replace HXn:=Lib.hid (HXn.out.grown hg (hne _ HBX.out.2.1));replace HXz:=Lib.hid (HXz.out.grown hg (hne _ HBX.out.2.2))
   obtain⟨mr,hmr⟩:∃m,m=(B8.att.filter (fun y=> !((fun y=>y==n)) y)).length:=⟨_,rfl⟩
   have hot:Ox ic 1 3 wz.heap.size wt1.heap.size wt3 (.slice ra mr rc) (wo n B8.att):=by rw[hmr];exact ho
   rw[←hmr];have HOn:Hid (BdO wz.heap.size wt1.heap.size wt3 ({({s1 with st:=⟨qa,m1,qc⟩}) with at':=⟨ra,mr,rc⟩}) ({({B8 with st:=B.st.filter (notIt n)}) with att:=wo n B8.att})):=Lib.hid (HOo.out.delA HRV.out hg hot);clear HOo;have HOo:=Lib.hid HOn.out;clear HOn hmr hot HOX HRV;clear hne ho HROW HBX;have HCt3:Hid (wt2.heap.size≤wt3.heap.size):=Lib.hid (hg.size);clear hg;have c31:wt3.cell? ⟨w.heap.size,31,none⟩=some ((s1.at'.v)):=HXb.out.cell 31;have f31:wt3.frozen? ⟨w.heap.size,31,none⟩=false:=HXb.out.free 31
   go_upto_region 14 with fail
   obtain⟨wt4,hw⟩:∃X,X=wt3.setCell ⟨w.heap.size,31,none⟩ (.slice ra mr rc):=⟨_,rfl⟩
   rw[←hw];have hon:Onl [w.heap.size] wt3 wt4:=by rw[hw];exact Onl.setCell (Onl.refl _ _) (.inl (by simp)) _
   have hx:Bx wt4 (w.heap.size) ({({s1 with st:=⟨qa,m1,qc⟩}) with at':=⟨ra,mr,rc⟩}) (({({B8 with st:=B.st.filter (notIt n)}) with att:=wo n B8.att})):=by rw[hw];exact HXb.out.put 31 _ rfl
   clear hw c31 f31;have hlo:w.heap.size≤w.heap.size:=by(have o0:=HLO.out;have o1:=HHH.out;have o2:=HCt1.out;have o3:=HCt2.out;have o4:=HCt3.out;have x0:=HXb.out.lt;have x1:=HXn.out.lt;have x2:=HXz.out.lt;omega)
   have hls:w.heap.size≤wt3.heap.size:=HB.out.size;replace HB:=Lib.hid (belowOnl HB.out hon (by simp only[List.mem_singleton,forall_eq];exact hlo) hls);replace HXn:=Lib.hid (HXn.out.onl hon (by simp only[List.mem_singleton];(have o0:=HLO.out;have o1:=HHH.out;have o2:=HCt1.out;have o3:=HCt2.out;have o4:=HCt3.out;have x0:=HXb.out.lt;have x1:=HXn.out.lt;have x2:=HXz.out.lt;omega)));replace HXz:=Lib.hid (HXz.out.onl hon (by simp only[List.mem_singleton];(have o0:=HLO.out;have o1:=HHH.out;have o2:=HCt1.out;have o3:=HCt2.out;have o4:=HCt3.out;have x0:=HXb.out.lt;have x1:=HXn.out.lt;have x2:=HXz.out.lt;omega)));replace HOo:=Lib.hid (HOo.out.onlB hon HXb.out);have HCt4:Hid (wt3.heap.size≤wt4.heap.size):=Lib.hid (hon.size);clear hlo hls;replace HXb:=Lib.hid hx;clear hx hon;have hox:Ox kc 2 95 wz.heap.size wt1.heap.size wt4 s1.bl.v B8.bl:=HOo.out.bl
   obtain⟨ea,ec,hev⟩:=hox.1.form
   have hll:B8.bl.length≤1000:=by rw[HE8.out.2.2];exact HSM.out.bl
   rw[hev] at hox
   have HOX:=Lib.hid hox;have HRV:=Lib.hid hev;have HROW:Hid (∀q,(Value.slice ea B8.bl.length ec).ownBlock=some q→wz.heap.size≤q∧q<wt1.heap.size):=Lib.hid (fun q hq=>⟨(HOX.out.blk hq).1,(HOX.out.blk hq).2.1⟩);have c32:wt4.cell? ⟨w.heap.size,32,none⟩=some (.slice ea B8.bl.length ec):=by rw[←hev];exact HXb.out.cell 32
   have HDe:=Lib.hid (delK 84 cfU3 (.pointer (some ⟨w.heap.size+1,0,none⟩)) (fun x=>(x.bl==n||x.at' ==n)) ea ec B8.bl wz.heap.size wt1.heap.size wt4 hox hll (fun W x hx hg=>uo3 x n (w.heap.size+1) W (HXn.out.grown hg (fun e=>by have h1:=(HROW.out _ e).1;have h2:=HLO.out;omega))));clear hox hll hev
   go_upto_region 14 with fail
   go_wp2_with fail
   with_reducible refine HDe.out.mono ?_
   rintro e wt5 ⟨rfl,ho,hg⟩;clear c32 HDe;have hne:∀P,P<wz.heap.size→(Value.slice ea B8.bl.length ec).ownBlock≠some P:=fun P hP e=>by have:=(HROW.out P e).1;omega
   have HBX:Hid (w.heap.size<wz.heap.size∧w.heap.size+1<wz.heap.size∧w.heap.size+1+1<wz.heap.size):=Lib.hid (by have:=HLO.out;omega);replace HB:=Lib.hid (HB.out.grown hg HB.out.size (fun q hq=>by have h1:=(HROW.out q hq).1;have h2:=HLO.out;omega));replace HXb:=Lib.hid (HXb.out.grown hg (hne _ HBX.out.1));replace HXn:=Lib.hid (HXn.out.grown hg (hne _ HBX.out.2.1));replace HXz:=Lib.hid (HXz.out.grown hg (hne _ HBX.out.2.2))
   obtain⟨me,hme⟩:∃m,m=(B8.bl.filter (fun y=> !((fun x=>(x.bl==n||x.at' ==n))) y)).length:=⟨_,rfl⟩
   have hot:Ox kc 2 95 wz.heap.size wt1.heap.size wt5 (.slice ea me ec) (B8.bl.filter (notBk n)):=by rw[hme];exact(notBk_eq _ n)▸ho
   rw[←hme];have HOn:Hid (BdO wz.heap.size wt1.heap.size wt5 ({({({s1 with st:=⟨qa,m1,qc⟩}) with at':=⟨ra,mr,rc⟩}) with bl:=⟨ea,me,ec⟩}) ({({({B8 with st:=B.st.filter (notIt n)}) with att:=wo n B8.att}) with bl:=B8.bl.filter (notBk n)})):=Lib.hid (HOo.out.delK HRV.out hg hot);clear HOo;have HOo:=Lib.hid HOn.out;clear HOn hme hot HOX HRV;clear hne ho HROW HBX;have HCt5:Hid (wt4.heap.size≤wt5.heap.size):=Lib.hid (hg.size);clear hg;have c32:wt5.cell? ⟨w.heap.size,32,none⟩=some ((s1.bl.v)):=HXb.out.cell 32;have f32:wt5.frozen? ⟨w.heap.size,32,none⟩=false:=HXb.out.free 32
   go_upto_region 15 with fail
   obtain⟨wt6,hw⟩:∃X,X=wt5.setCell ⟨w.heap.size,32,none⟩ (.slice ea me ec):=⟨_,rfl⟩
   rw[←hw];have hon:Onl [w.heap.size] wt5 wt6:=by rw[hw];exact Onl.setCell (Onl.refl _ _) (.inl (by simp)) _
   have hx:Bx wt6 (w.heap.size) ({({({s1 with st:=⟨qa,m1,qc⟩}) with at':=⟨ra,mr,rc⟩}) with bl:=⟨ea,me,ec⟩}) (({({({B8 with st:=B.st.filter (notIt n)}) with att:=wo n B8.att}) with bl:=B8.bl.filter (notBk n)})):=by rw[hw];exact HXb.out.put 32 _ rfl
   clear hw c32 f32;have hlo:w.heap.size≤w.heap.size:=by(have o0:=HLO.out;have o1:=HHH.out;have o2:=HCt1.out;have o3:=HCt2.out;have o4:=HCt3.out;have o5:=HCt4.out;have o6:=HCt5.out;have x0:=HXb.out.lt;have x1:=HXn.out.lt;have x2:=HXz.out.lt;omega)
   have hls:w.heap.size≤wt5.heap.size:=HB.out.size;replace HB:=Lib.hid (belowOnl HB.out hon (by simp only[List.mem_singleton,forall_eq];exact hlo) hls);replace HXn:=Lib.hid (HXn.out.onl hon (by simp only[List.mem_singleton];(have o0:=HLO.out;have o1:=HHH.out;have o2:=HCt1.out;have o3:=HCt2.out;have o4:=HCt3.out;have o5:=HCt4.out;have o6:=HCt5.out;have x0:=HXb.out.lt;have x1:=HXn.out.lt;have x2:=HXz.out.lt;omega)));replace HXz:=Lib.hid (HXz.out.onl hon (by simp only[List.mem_singleton];(have o0:=HLO.out;have o1:=HHH.out;have o2:=HCt1.out;have o3:=HCt2.out;have o4:=HCt3.out;have o5:=HCt4.out;have o6:=HCt5.out;have x0:=HXb.out.lt;have x1:=HXn.out.lt;have x2:=HXz.out.lt;omega)));replace HOo:=Lib.hid (HOo.out.onlB hon HXb.out);have HCt6:Hid (wt5.heap.size≤wt6.heap.size):=Lib.hid (hon.size);clear hlo hls;replace HXb:=Lib.hid hx;clear hx hon;have he:({({({B8 with st:=B.st.filter (notIt n)}) with att:=wo n B8.att}) with bl:=B8.bl.filter (notBk n)})=outB B n:=by rw[HE8.out.2.1,HE8.out.2.2,HBE.out];rfl
   rw[he] at HXb HOo
   clear he;go_wp2_with (first|(refine wpList_load_bx _ rfl rfl HXb.out (by kernel_rfl) ?_)|(refine wpList_store_bh (s:=({({({s1 with st:=⟨qa,m1,qc⟩}) with at':=⟨ra,mr,rc⟩}) with bl:=⟨ea,me,ec⟩})) (B:=(outB B n)) rfl _ _ rfl rfl rfl HXz.out rfl ?_;intro wt7 hw9))
   have hg9:Bx wt7 (w.heap.size+1+1) ({({({s1 with st:=⟨qa,m1,qc⟩}) with at':=⟨ra,mr,rc⟩}) with bl:=⟨ea,me,ec⟩}) ((outB B n)):=by rw[hw9.out];exact Bx.row HXz.out _ _
   have ho9:Onl [w.heap.size+1+1] wt6 wt7:=by rw[hw9.out];exact Onl.setRow (Onl.refl _ _) (.inl (by simp)) _
   have hlo:w.heap.size≤w.heap.size+1+1:=by(have o0:=HLO.out;have o1:=HHH.out;have o2:=HCt1.out;have o3:=HCt2.out;have o4:=HCt3.out;have o5:=HCt4.out;have o6:=HCt5.out;have o7:=HCt6.out;have x0:=HXb.out.lt;have x1:=HXn.out.lt;have x2:=HXz.out.lt;omega)
   have hb9:Below w.heap.size w wt7:=belowOnl HB.out ho9 (by simp only[List.mem_singleton,forall_eq];exact hlo) HB.out.size;have HG9:=Lib.hid hg9;have HPOST:Hid (CpA w ((outB B n)) (.returned (bv ({({({s1 with st:=⟨qa,m1,qc⟩}) with at':=⟨ra,mr,rc⟩}) with bl:=⟨ea,me,ec⟩}) ((outB B n)))) wt7):=Lib.hid ⟨_,rfl,(HOo.out.onlB ho9 HXz.out).mono (by(have o0:=HLO.out;have o1:=HHH.out;have o2:=HCt1.out;have o3:=HCt2.out;have o4:=HCt3.out;have o5:=HCt4.out;have o6:=HCt5.out;have o7:=HCt6.out;have x0:=HXb.out.lt;have x1:=HXn.out.lt;have x2:=HXz.out.lt;omega)) (by have h9:=ho9.size;(have o0:=HLO.out;have o1:=HHH.out;have o2:=HCt1.out;have o3:=HCt2.out;have o4:=HCt3.out;have o5:=HCt4.out;have o6:=HCt5.out;have o7:=HCt6.out;have x0:=HXb.out.lt;have x1:=HXn.out.lt;have x2:=HXz.out.lt;omega)),hb9⟩;clear hw9 hg9 ho9 hb9 hlo;go_wp2_with fail
   exact bodyPost_ret (v:=bv ({({({s1 with st:=⟨qa,m1,qc⟩}) with at':=⟨ra,mr,rc⟩}) with bl:=⟨ea,me,ec⟩}) ((outB B n))) (results_b0 Try.results68 _ _ HG9.out rfl) rfl HPOST.out
end Go.Proofs.Ytpbepnpnpopmfaa
