/- A new board with the cards of two decks, by the reference. -/
import Derived.Test.YtpbepnpnpopmfaaGreatBN
import Derived.Test.YtpbepnpnpopmfaaGreatTPu
import Derived.Deep.DeepCutAuto
import Derived.LoopTactic
import Derived.Deep.MidRow
open Go.RowKit Go.Proofs.YtpbepnpnpopmfaaGreat
set_option maxRecDepth 100000
set_option maxHeartbeats 4000000
namespace Go.Proofs.YtpbepnpnpopmfaaGreat
open Plain
set_option linter.unusedVariables false
set_option linter.unusedSimpArgs false

theorem rg27_14{P:Program}{B n:Nat}{w0:World}{L:List (Nat×Nat×Value)}{E F:World->Prop}{id:Nat}{Q:Exit->Act->World->Prop}{a:Act}{w:World}{A:Array Oper}{o0 o1 o2 o3 o4 o5 o6 o7 o8 o9 o10 o11 o12 o13 o14:Oper}(hm:P.follows .mixedOrders=true)(hA:A=[o0,o1,o2,o3,o4,o5,o6,o7,o8,o9,o10,o11,o12,o13,o14].toArray)(hB:regOk A [1,5,8] [0,2,3,4,6,7,9,10,13] (.fs [0,2,3,4,6,9] (.rs [1,5] (.fs [7] (.rs [8] (.fs [10] (.alt 11 (.altc 12 (.fs [13] (.altc 14 .done .stop)) .stop) .stop))))))=true)(c:RC B w0 n L E F w)
  (h:∀wk,Kept B w0 n L wk->E wk->F wk->wpQuiet P A (fun _=>True) (fun a0=>wpQuiet P A (fun w' =>∃s:KX B w0 n L E,w' =s.val) (fun a1=>wpQuiet P A (fun _=>True) (fun a2=>wpQuiet P A (fun w' =>∃s:KX B w0 n L E,w' =s.val) (fun a3=>wpQuiet P A (fun _=>True) (fun a4=>((∀K5:Act->World->Prop,(∀a5 w5,((∀K6:Act->World->Prop,(∀a6 w6,wpQuiet P A (fun _=>True) (fun a7=>((∀K8:Act->World->Prop,(∀a8 w8,Q .normal a8 w8->K8 a8 w8)->wpList P A (fun e a8 w8=>e= .normal/\K8 a8 w8) [o14] a7 w6)/\True)) [o13] a6->K6 a6 w6)->wpList P A (fun e a6 w6=>e= .normal/\K6 a6 w6) [o12] a5 w5)/\True)->K5 a5 w5)->wpList P A (fun e a5 w5=>e= .normal/\(∃s:KX B w0 n L E,w5=s.val)/\K5 a5 w5) [o11] a4 wk)/\True)) [o10] a3) [o8] a2) [o7] a1) [o1,o5] a0) [o0,o2,o3,o4,o6,o9] a):(Code.region id A true).wp P Q a w:=by
 subst hA;exact wp_reg _ _ _ hm hB c (fun wk k e f=>have g:=h wk k e f;Scr.of_fs _ _ rfl g fun _ g=>Scr.of_rs _ _ rfl g fun _ g=>Scr.of_fs _ _ rfl g fun _ g=>Scr.of_rs _ _ rfl g fun _ g=>Scr.of_fs _ _ rfl g fun _ g=>(Scr.of_alt rfl (g.1 _ fun _ _ g=>g) (fun _ _ g=>(Scr.of_altc rfl (g.1 _ fun _ _ g=>g) (fun _ _ g=>Scr.of_fs _ _ rfl g fun _ g=>(Scr.of_altc rfl (g.1 _ fun _ _ g=>g) (fun _ _ g=>g) trivial)) trivial)) trivial))
def RnI(w:World)(l0 l1:Int)(L:List Ob)(U0 U1:List Int)(so s0 s1:Sl)(D:Array Value)(wr:World):Prop:=NwI w l0 l1 L U0 U1 so s0 s1 wr/\Ro wr w.heap.size D 78
theorem RnI.keep{w:World}{l0 l1:Int}{L:List Ob}{U0 U1:List Int}{so s0 s1:Sl}{D:Array Value}{W W':World}(h:RnI w l0 l1 L U0 U1 so s0 s1 D W)(hb:Below W.heap.size W W'):RnI w l0 l1 L U0 U1 so s0 s1 D W':=⟨h.1.keep hb,h.2.below hb⟩
theorem RnI.life{w:World}{l0 l1 l0' l1':Int}{L:List Ob}{U0 U1:List Int}{so s0 s1:Sl}{D:Array Value}{W:World}(h:RnI w l0 l1 L U0 U1 so s0 s1 D W)(i:Nat)(v:Value)(he:(bcells (nsB so s0 s1) (numB l0 l1 L U0 U1)).setIfInBounds i v=bcells (nsB so s0 s1) (numB l0' l1' L U0 U1)):RnI w l0' l1' L U0 U1 so s0 s1 D (W.setCell ⟨(w.heap.size+1+1),i,none⟩ v):=
 ⟨h.1.life i v he,(Below.heap_setCell _ _ _ _ (by simp;omega)).trans h.2⟩
theorem RnI.app{w:World}{l0 l1:Int}{L L':List Ob}{U0 U1:List Int}{so so' s0 s1:Sl}{D:Array Value}{W wb:World}(h:RnI w l0 l1 L U0 U1 so s0 s1 D W)(hown:Ow oc 12 47 wb (w.heap.size+1+1+1) so'.v L')(hg:W.grownBy wb so.v.ownBlock):RnI w l0 l1 L' U0 U1 so' s0 s1 D (wb.setCell ⟨(w.heap.size+1+1),0,none⟩ so'.v):=
 ⟨h.1.app hown hg,(Below.heap_setCell _ _ _ _ (by simp;omega)).trans ((hg.block _ h.2.lt (fun e=>by have:=(h.1.ob.typ _ e.symm).1;omega)).trans h.2)⟩
theorem RnI.lib0{w:World}{l0 l1:Int}{L:List Ob}{U0 U1 U':List Int}{so s0 s1 s':Sl}{D:Array Value}{W wb:World}(h:RnI w l0 l1 L U0 U1 so s0 s1 D W)(hown:Ow ic 1 3 wb (w.heap.size+1+1+1) s'.v U')(hg:W.grownBy wb s0.v.ownBlock)(hn:s'.v.ownBlock=s0.v.ownBlock\/s'.v.ownBlock=some W.heap.size):RnI w l0 l1 L U' U1 so s' s1 D (wb.setCell ⟨(w.heap.size+1+1),6,none⟩ s'.v):=
 ⟨h.1.lib0 hown hg hn,(Below.heap_setCell _ _ _ _ (by simp;omega)).trans ((hg.block _ h.2.lt (fun e=>by have:=(h.1.r0.typ _ e.symm).1;omega)).trans h.2)⟩
theorem RnI.lib1{w:World}{l0 l1:Int}{L:List Ob}{U0 U1 U':List Int}{so s0 s1 s':Sl}{D:Array Value}{W wb:World}(h:RnI w l0 l1 L U0 U1 so s0 s1 D W)(hown:Ow ic 1 3 wb (w.heap.size+1+1+1) s'.v U')(hg:W.grownBy wb s1.v.ownBlock)(hn:s'.v.ownBlock=s1.v.ownBlock\/s'.v.ownBlock=some W.heap.size):RnI w l0 l1 L U0 U' so s0 s' D (wb.setCell ⟨(w.heap.size+1+1),20,none⟩ s'.v):=
 ⟨h.1.lib1 hown hg hn,(Below.heap_setCell _ _ _ _ (by simp;omega)).trans ((hg.block _ h.2.lt (fun e=>by have:=(h.1.r1.typ _ e.symm).1;omega)).trans h.2)⟩
def RnO(w:World)(life:Int)(d0 d1:List Int)(D:Array Value)(v:Value)(wr:World):Prop:=∃p:Nat,p<=2/\v= .int .i64 p/\∃so s0 s1,RnI w (if 1<=p then life else 0) (if 2<=p then life else 0) (mkL 0 0 (if 1<=p then d0 else [])++mkL 1 (if 1<=p then d0 else []).length (if 2<=p then d1 else [])) (upL 0 (if 1<=p then d0 else []).length) (upL (if 1<=p then d0 else []).length (if 2<=p then d1 else []).length) so s0 s1 D wr
def RnJ0(w:World)(life:Int)(d0:List Int)(D:Array Value)(v:Value)(wr:World):Prop:=∃i:Nat,i<=d0.length/\v= .int .i64 i/\∃so s0 s1,RnI w life 0 (mkL 0 0 (d0.take i)) (upL 0 i) [] so s0 s1 D wr
def RnJ1(w:World)(life:Int)(d0 d1:List Int)(D:Array Value)(v:Value)(wr:World):Prop:=∃i:Nat,i<=d1.length/\v= .int .i64 i/\∃so s0 s1,RnI w life life (mkL 0 0 d0++mkL 1 d0.length (d1.take i)) (upL 0 d0.length) (upL d0.length i) so s0 s1 D wr
theorem rnew(life:Int)(d0 d1:List Int)(v0 v1:Value)(w:World)(h0:Rw ic 1 w v0 d0)(h1:Rw ic 1 w v1 d1)(hl:1<=life/\life<=9999)(hd0:∀c∈d0,0<=c/\c<=399)(hd1:∀c∈d1,0<=c/\c<=399)(hn:d0.length+d1.length<=500):Calls Tryz.prog 27 #[.int .i64 life,.agg #[v0,v1]] w (BrA w (newB life d0 d1) (.int .i64 0)):=by
 obtain⟨_,a0,c0,rfl,hf0⟩:=h0.form
 obtain⟨_,a1,c1,rfl,hf1⟩:=h1.form
 have HF0:=Hd hf0;have HF1:=Hd hf1;have HD0:=Hd hd0;have HD1:=Hd hd1;have HLL:=Hd hn;have t0:decide (life<1)=false:=decide_eq_false (by omega);have t1:decide (life>9999)=false:=decide_eq_false (by omega);have t2:decide ((d0.length:Int)+(d1.length:Int)>500)=false:=decide_eq_false (by omega);clear h0 h1 hf0 hf1 hd0 hd1 hl;go_enter Tryz.func27,Tryz.ntmps27
 go_upto_region 1 with fail
 change Code.wp Tryz.prog _ _ _ ((w.alloc (.cells #[.slice a0 d0.length c0,.slice a1 d1.length c1] 78)).alloc (.cells (bcells nilS zeroB) 34))
 obtain⟨wz,hwz⟩:∃W,W=((w.alloc (.cells #[.slice a0 d0.length c0,.slice a1 d1.length c1] 78)).alloc (.cells (bcells nilS zeroB) 34)):=⟨_,rfl⟩
 rw[<-hwz];have b0:Below w.heap.size w (w.alloc (.cells #[.slice a0 d0.length c0,.slice a1 d1.length c1] 78)):=by exact(Below.refl _ _).alloc (Nat.le_refl _) _
 have b1:Below (w.alloc (.cells #[.slice a0 d0.length c0,.slice a1 d1.length c1] 78)).heap.size (w.alloc (.cells #[.slice a0 d0.length c0,.slice a1 d1.length c1] 78)) wz:=by rw[hwz];exact(Below.refl _ _).alloc (Nat.le_refl _) _
 have HB:Hid (Below w.heap.size w wz):=Hd (below_via b0 b1);have HXd:Hid (Ro wz (w.heap.size) #[.slice a0 d0.length c0,.slice a1 d1.length c1] 78):=Hd ((Ro.new w #[.slice a0 d0.length c0,.slice a1 d1.length c1] 78).below b1:Ro _ _ _ _);have HXz:Hid (Bx wz (w.heap.size+1) nilS zeroB):=Hd (by rw[show w.heap.size+1=(w.alloc (.cells #[.slice a0 d0.length c0,.slice a1 d1.length c1] 78)).heap.size by simp];exact(by rw[hwz];exact(Ro.new (w.alloc (.cells #[.slice a0 d0.length c0,.slice a1 d1.length c1] 78)) (bcells nilS zeroB) 34)));have HC1:Hid (w.heap.size+2<=wz.heap.size):=Hd (by rw[hwz];simp);have HSZ:Hid (wz.heap.size=w.heap.size+1+1):=Hd (by rw[hwz];simp);clear hwz b0 b1;go_wp2_with (refine wpList_store_bh (s:=nilS) (B:=numB 0 0 [] [] []) rfl _ _ rfl rfl rfl (heap_alloc_new _ _) rfl ?_)
 intro w2 hw0;have hbx:=boxed hw0.out;have hsz:=HSZ.o;rw[hsz] at hbx ⊢
 have HB2:Hid (Below wz.heap.size wz w2):=Hd (by rw[hsz];exact hbx.1);have HS:Hid (RnI w 0 0 [] [] [] nilSl nilSl nilSl #[.slice a0 d0.length c0,.slice a1 d1.length c1] w2):=Hd ⟨⟨below_via HB.o HB2.o,hbx.2.lt,hbx.2,Ow.nil _ _ _,Ow.nil _ _ _,Ow.nil _ _ _,fun b hb=>by simp[nilSl,Sl.v,Value.ownBlock] at hb,HXz.o.below HB2.o⟩,HXd.o.below HB2.o⟩;have g0:w2.cell? ⟨w.heap.size,0,none⟩=some (.slice a0 d0.length c0):=HS.o.2.cell 0;have g1:w2.cell? ⟨w.heap.size,1,none⟩=some (.slice a1 d1.length c1):=HS.o.2.cell 1;clear hw0 hbx hsz HSZ HB2 HB HXz HXd HC1;go_wp2_with fail
 clear g0 g1 t0 t1 t2
 go_loopw [7] (fun v wr=>RnO w life d0 d1 #[.slice a0 d0.length c0,.slice a1 d1.length c1] v wr) (fun v _=>2-(intOf v).toNat)
 case atStart=>exact⟨0,by omega,rfl,_,_,_,HS.o⟩
 clear HS
 obtain⟨p,hp,rfl,so,s0,s1,hs⟩:=hrel
 rcases(show p=0\/p=1\/p=2 by omega) with rfl|rfl|rfl
 ·rw[show((0:Nat):Int)=0 from rfl]
  replace hs:RnI w 0 0 [] [] [] so s0 s1 #[.slice a0 d0.length c0,.slice a1 d1.length c1] wr:=hs;have HS:=Hd hs;have z1:wr.cell? ⟨(w.heap.size+1+1),1,none⟩=some (.int .i64 0):=hs.1.box.cell 1;have f1:=hs.1.box.free 1;clear hs;go_wp2_with fail
  obtain⟨w3,hw3⟩:∃W,W=wr.setCell ⟨(w.heap.size+1+1),1,none⟩ (.int .i64 life):=⟨_,rfl⟩
  rw[<-hw3];replace HS:Hid (RnI w life 0 [] [] [] so s0 s1 #[.slice a0 d0.length c0,.slice a1 d1.length c1] w3):=Hd (by rw[hw3];exact HS.o.life 1 _ rfl);clear hw3 z1 f1
  go_loopw [8] (fun v wr=>RnJ0 w life d0 #[.slice a0 d0.length c0,.slice a1 d1.length c1] v wr) (fun v _=>d0.length-(intOf v).toNat)
  case atStart=>exact⟨0,by omega,rfl,_,_,_,HS.o⟩
  obtain⟨k,hk,rfl,so,s0,s1,hs⟩:=hrel
  replace HS:=Hd hs;have g0:wr.cell? ⟨w.heap.size,0,none⟩=some (.slice a0 d0.length c0):=hs.2.cell 0;have g1:wr.cell? ⟨w.heap.size,1,none⟩=some (.slice a1 d1.length c1):=hs.2.cell 1
  by_cases hkl:k<d0.length
  ·have HKL:=Hd hkl
   obtain⟨b,off,ha,hb0,hc⟩:=HF0.o (by omega)
   obtain⟨x,hx⟩:∃x,d0[k]? =some x:=⟨_,List.getElem?_eq_getElem hkl⟩
   subst ha;have e1:wr.cell? ⟨b,off+k,none⟩=some (.int .i64 x):=(hs.1.below.cell (p:=⟨b,off+k,none⟩) hb0).trans (by have:=hc k x hx 0 _ rfl;simpa using this);have hbl:b<wr.heap.size:=Nat.lt_of_lt_of_le hb0 hs.1.below.size
   obtain⟨oa,oc',hov⟩:=hs.1.ob.form
   have hln:(mkL 0 0 (d0.take k)).length=k:=by rw[mkL_length,List.length_take];omega
   have hlen0:=hln
   obtain⟨m,hm⟩:∃m,m=(mkL 0 0 (d0.take k)).length:=⟨_,rfl⟩
   rw[<-hm] at hov hln
   have HM:Hid (m=k):=Hd hln;have HOV:=Hd hov;have HLN:=Hd hlen0;have hm5:m<=499:=by have:=HLL.o;omega
   have e0:wr.cell? ⟨(w.heap.size+1+1),0,none⟩=some (.slice oa m oc'):=by rw[hs.1.box.cell 0,<-hov];rfl
   have hP:=hs.1.box.lt;have hD:=hs.2.lt;have hq:=HD0.o x (List.mem_of_getElem? hx);have q0:decide (x<0)=false:=decide_eq_false (by omega);have q1:decide (x>399)=false:=decide_eq_false (by omega);have i1:(0:Int)<=(k:Int):=by omega
   have i2:decide ((k:Int)<(d0.length:Int))=true:=decide_eq_true (by omega);have i3:(k:Int)<(d0.length:Int):=by omega
   have HXX:=Hd hx;clear hc hs hm hln hov hlen0 hq hx hb0
   go_upto_region 14 with fail
   clear q0 q1 i2;refine rg27_14 (w0:=wr) (B:=wr.heap.size) (n:=wr.heap.size) (L:=[]) (by kernel_rfl) rfl (by kernel_rfl) (.t ⟨by go_grown,by go_size,(by simp[go_sem]<;>omega)⟩) (fun w61 K_w61 E_w61 F_w61=> ?_);have _ne:Nonempty (KX (wr.heap.size) wr (wr.heap.size) [] (fun _=>True)):=⟨⟨_,K_w61,E_w61⟩⟩
   repeat (go_big_quiet_step (fail))
   refine wpQuiet_nil ?_;have ra:=rck _ne e0 hP;have rb:=rck _ne g0 hD;have rc:=rck _ne e1 hbl
   repeat (go_big_quiet_step (fail))
   refine wpQuiet_nil ?_
   repeat (go_big_quiet_step (fail))
   refine wpQuiet_nil ?_
   repeat (go_big_quiet_step (fail))
   refine wpQuiet_nil ?_
   repeat (go_big_quiet_step (fail))
   refine wpQuiet_nil ?_;have KH_w61:=Hd K_w61;have hw_w61:=K_w61.below;have hz_w61:=K_w61.size;clear K_w61;clear E_w61 F_w61
   refine⟨fun K hK0=> ?_,trivial⟩
   have hK:=Hd hK0;clear hK0;go_wp2_with fail
   obtain⟨wa,hwa⟩:∃W,W=w61.alloc (.cells #[.int .i64 ((m:Int)+1),.int .i64 x,.int .i64 0,.int .i64 0,.int .i64 0,.int .i64 0,.int .i64 0,.int .i64 0,.int .i64 0,.bool false,.bool false,.bool false] 47):=⟨_,rfl⟩
   rw[<-hwa];have hb:Below w61.heap.size w61 wa:=by rw[hwa];exact(Below.refl _ _).alloc (Nat.le_refl _) _
   have HBA:Hid (Below wr.heap.size wr wa):=Hd (below_via KH_w61.o.below hb);have HNO:Hid (Rw oc 12 wa (.slice (some ⟨w61.heap.size,0,none⟩) 1 1) [mkO 0 m x]):=Hd (by rw[hwa];exact Rw.one2 w61 47 (mkO 0 m x) _ rfl 1 _ rfl);clear hwa hb
   first|refine⟨rfl,?u,hK.o _ _ ?_⟩|refine⟨?u,hK.o _ _ ?_⟩
   case u=>exact⟨⟨_,(⟨HBA.o,HBA.o.size,by simp⟩:Kept wr.heap.size wr wr.heap.size [] wa),trivial⟩,rfl⟩
   clear hK K
   refine⟨fun K hK0=> ?_,trivial⟩
   have hK:=Hd hK0;clear hK0;go_wp2_with (at_builtin;refine wpList_append_ow (f:=oc) (sz:=12) rfl _ _ 23 rfl (w.heap.size+1+1+1) 47 _ 80 Tryz.underlying23 infoO rfl (by decide) _ (mkL 0 0 (d0.take k)) rfl (by rw[<-HOV.o];exact(HS.o.keep HBA.o).1.ob) oc_ok _ [mkO 0 m x] rfl HNO.o ?ca ?cb (HS.o.keep HBA.o).1.sz ?_)
   case ca=>have q1:=HLL.o;have q2:=HKL.o;have q3:=HLN.o;rw[q3];simp[maxLen];omega
   case cb=>have q1:=HLL.o;have q2:=HKL.o;have q3:=HLN.o;rw[q3];simp;omega
   intro v1 wb hown hgrow _;rw[HM.o,np_ob0 HXX.o] at hown
   rw[<-HOV.o] at hgrow
   obtain⟨pa,pc,hv1⟩:=hown.form
   obtain⟨pn,hpn⟩:∃n,n=(mkL 0 0 (d0.take (k+1))).length:=⟨_,rfl⟩
   rw[<-hpn] at hv1
   subst hv1;have HGW:=Hd hgrow;have HOW:=Hd hown;clear hown hgrow hpn
   first|refine⟨rfl,hK.o _ _ ?_⟩|refine hK.o _ _ ?_
   clear hK K
   repeat (go_big_quiet_step (fail))
   refine wpQuiet_nil ?_
   refine⟨fun K hK0=> ?_,trivial⟩
   have hK:=Hd hK0;clear hK0;have hbx:=(HS.o.keep HBA.o).1.bxo HGW.o;have c9:wb.cell? ⟨(w.heap.size+1+1),0,none⟩=some (.slice so.a so.n so.c):=hbx.cell 0;have f9:=hbx.free 0;clear hbx;go_wp2_with fail
   obtain⟨w4,hw4⟩:∃W,W=wb.setCell ⟨(w.heap.size+1+1),0,none⟩ (.slice pa pn pc):=⟨_,rfl⟩
   rw[<-hw4];clear c9 f9
   first|refine⟨rfl,hK.o _ _ ?_⟩|refine hK.o _ _ ?_
   clear hK K;clear ra rb rc;clear _ne;have HS4:Hid (RnI w life 0 (mkL 0 0 (d0.take (k+1))) (upL 0 k) [] ⟨pa,pn,pc⟩ s0 s1 #[.slice (some ⟨b,off,none⟩) d0.length c0,.slice a1 d1.length c1] w4):=Hd (by rw[hw4];exact(HS.o.keep HBA.o).app (so':=⟨pa,pn,pc⟩) HOW.o HGW.o);clear hw4 HS HOW HGW HBA HNO HOV g0 g1 e0 e1
   obtain⟨la,lc,hlv⟩:=HS4.o.1.r0.form
   have e6:w4.cell? ⟨(w.heap.size+1+1),6,none⟩=some (.slice la (upL 0 k).length lc):=by rw[HS4.o.1.box.cell 6,<-hlv];rfl
   have HLV:=Hd hlv;have hP4:=HS4.o.1.box.lt;have HUL:Hid ((upL 0 k).length=k):=Hd (upL_length _ _);clear hlv hP hD hbl;go_wp2_with (at_builtin;refine wpList_append_ow (f:=ic) (sz:=1) rfl _ _ 26 rfl (w.heap.size+1+1+1) 3 _ 8 Tryz.underlying26 infoI rfl (by decide) _ (upL 0 k) rfl (by rw[<-HLV.o];exact(HS4.o.keep ((Below.refl _ _).alloc (Nat.le_refl _) _)).1.r0) ic_ok _ [(m:Int)+1] rfl (Rw.one2 _ _ ((m:Int)+1) _ rfl _ _ (by simp)) ?ca ?cb (HS4.o.keep ((Below.refl _ _).alloc (Nat.le_refl _) _)).1.sz ?_)
   case ca=>have q1:=HLL.o;have q2:=HKL.o;rw[HUL.o];simp[maxLen];omega
   case cb=>have q1:=HLL.o;have q2:=HKL.o;rw[HUL.o];simp;omega
   intro v2 wd hown hgrow hn2;rw[<-HLV.o] at hgrow hn2
   rw[show((m:Int)+1)=((k+1:Nat):Int) by rw[HM.o];push_cast;omega,show((k+1:Nat):Int)=((0+k+1:Nat):Int) by rw[Nat.zero_add],<-upL_snoc] at hown
   obtain⟨qa,qc,hv2⟩:=hown.form
   obtain⟨qn,hqn⟩:∃n,n=(upL 0 (k+1)).length:=⟨_,rfl⟩
   rw[<-hqn] at hv2
   subst hv2;have hbx:=(HS4.o.keep ((Below.refl _ _).alloc (Nat.le_refl _) _)).1.bx0 hgrow;have c9:wd.cell? ⟨(w.heap.size+1+1),6,none⟩=some (.slice s0.a s0.n s0.c):=hbx.cell 6;have f9:=hbx.free 6;have HFIN:=Hd ((HS4.o.keep ((Below.refl _ _).alloc (Nat.le_refl _) _)).lib0 (s':=⟨qa,qn,qc⟩) hown hgrow (hn2.imp id (fun h=>h.trans (by simp))));clear hbx hown hgrow hn2 hqn HS4 HLV HUL e6 hP4;go_wp2_with fail
   go_roundw
   case rel=>exact⟨k+1,HKL.o,by go_num,_,_,_,HFIN.o⟩
   case measure=>have hkl:=HKL.o;simp[intOf];omega
  have hke:k=d0.length:=by omega
  subst hke;have i2:decide (((d0.length:Nat):Int)<(d0.length:Int))=false:=decide_eq_false (by omega);rw[List.take_length] at hs
  replace HS:=Hd hs;clear hs;go_wp2_with fail
  go_roundw
  case rel=>exact⟨1,by omega,rfl,so,s0,s1,by have h:=HS.o;simpa [mkL,upL] using h⟩
  case measure=>simp[intOf]
 ·rw[show((1:Nat):Int)=1 from rfl]
  replace hs:RnI w life 0 (mkL 0 0 d0++mkL 1 d0.length []) (upL 0 d0.length) (upL d0.length 0) so s0 s1 #[.slice a0 d0.length c0,.slice a1 d1.length c1] wr:=hs;have HS:=Hd hs;have z1:wr.cell? ⟨(w.heap.size+1+1),15,none⟩=some (.int .i64 0):=hs.1.box.cell 15;have f1:=hs.1.box.free 15;clear hs;go_wp2_with fail
  obtain⟨w3,hw3⟩:∃W,W=wr.setCell ⟨(w.heap.size+1+1),15,none⟩ (.int .i64 life):=⟨_,rfl⟩
  rw[<-hw3];replace HS:Hid (RnI w life life (mkL 0 0 d0++mkL 1 d0.length []) (upL 0 d0.length) (upL d0.length 0) so s0 s1 #[.slice a0 d0.length c0,.slice a1 d1.length c1] w3):=Hd (by rw[hw3];exact HS.o.life 15 _ rfl);clear hw3 z1 f1
  go_loopw [8] (fun v wr=>RnJ1 w life d0 d1 #[.slice a0 d0.length c0,.slice a1 d1.length c1] v wr) (fun v _=>d1.length-(intOf v).toNat)
  case atStart=>exact⟨0,by omega,rfl,_,_,_,HS.o⟩
  obtain⟨k,hk,rfl,so,s0,s1,hs⟩:=hrel
  replace HS:=Hd hs;have g0:wr.cell? ⟨w.heap.size,0,none⟩=some (.slice a0 d0.length c0):=hs.2.cell 0;have g1:wr.cell? ⟨w.heap.size,1,none⟩=some (.slice a1 d1.length c1):=hs.2.cell 1
  by_cases hkl:k<d1.length
  ·have HKL:=Hd hkl
   obtain⟨b,off,ha,hb0,hc⟩:=HF1.o (by omega)
   obtain⟨x,hx⟩:∃x,d1[k]? =some x:=⟨_,List.getElem?_eq_getElem hkl⟩
   subst ha;have e1:wr.cell? ⟨b,off+k,none⟩=some (.int .i64 x):=(hs.1.below.cell (p:=⟨b,off+k,none⟩) hb0).trans (by have:=hc k x hx 0 _ rfl;simpa using this);have hbl:b<wr.heap.size:=Nat.lt_of_lt_of_le hb0 hs.1.below.size
   obtain⟨oa,oc',hov⟩:=hs.1.ob.form
   have hln:(mkL 0 0 d0++mkL 1 d0.length (d1.take k)).length=d0.length+k:=by rw[List.length_append,mkL_length,mkL_length,List.length_take];omega
   have hlen0:=hln
   obtain⟨m,hm⟩:∃m,m=(mkL 0 0 d0++mkL 1 d0.length (d1.take k)).length:=⟨_,rfl⟩
   rw[<-hm] at hov hln
   have HM:Hid (m=d0.length+k):=Hd hln;have HOV:=Hd hov;have HLN:=Hd hlen0;have hm5:m<=499:=by have:=HLL.o;omega
   have e0:wr.cell? ⟨(w.heap.size+1+1),0,none⟩=some (.slice oa m oc'):=by rw[hs.1.box.cell 0,<-hov];rfl
   have hP:=hs.1.box.lt;have hD:=hs.2.lt;have hq:=HD1.o x (List.mem_of_getElem? hx);have q0:decide (x<0)=false:=decide_eq_false (by omega);have q1:decide (x>399)=false:=decide_eq_false (by omega);have i1:(0:Int)<=(k:Int):=by omega
   have i2:decide ((k:Int)<(d1.length:Int))=true:=decide_eq_true (by omega);have i3:(k:Int)<(d1.length:Int):=by omega
   have HXX:=Hd hx;clear hc hs hm hln hov hlen0 hq hx hb0
   go_upto_region 14 with fail
   clear q0 q1 i2;refine rg27_14 (w0:=wr) (B:=wr.heap.size) (n:=wr.heap.size) (L:=[]) (by kernel_rfl) rfl (by kernel_rfl) (.t ⟨by go_grown,by go_size,(by simp[go_sem]<;>omega)⟩) (fun w61 K_w61 E_w61 F_w61=> ?_);have _ne:Nonempty (KX (wr.heap.size) wr (wr.heap.size) [] (fun _=>True)):=⟨⟨_,K_w61,E_w61⟩⟩
   repeat (go_big_quiet_step (fail))
   refine wpQuiet_nil ?_;have ra:=rck _ne e0 hP;have rb:=rck _ne g1 hD;have rc:=rck _ne e1 hbl
   repeat (go_big_quiet_step (fail))
   refine wpQuiet_nil ?_
   repeat (go_big_quiet_step (fail))
   refine wpQuiet_nil ?_
   repeat (go_big_quiet_step (fail))
   refine wpQuiet_nil ?_
   repeat (go_big_quiet_step (fail))
   refine wpQuiet_nil ?_;have KH_w61:=Hd K_w61;have hw_w61:=K_w61.below;have hz_w61:=K_w61.size;clear K_w61;clear E_w61 F_w61
   refine⟨fun K hK0=> ?_,trivial⟩
   have hK:=Hd hK0;clear hK0;go_wp2_with fail
   obtain⟨wa,hwa⟩:∃W,W=w61.alloc (.cells #[.int .i64 ((m:Int)+1),.int .i64 x,.int .i64 1,.int .i64 0,.int .i64 0,.int .i64 0,.int .i64 0,.int .i64 0,.int .i64 0,.bool false,.bool false,.bool false] 47):=⟨_,rfl⟩
   rw[<-hwa];have hb:Below w61.heap.size w61 wa:=by rw[hwa];exact(Below.refl _ _).alloc (Nat.le_refl _) _
   have HBA:Hid (Below wr.heap.size wr wa):=Hd (below_via KH_w61.o.below hb);have HNO:Hid (Rw oc 12 wa (.slice (some ⟨w61.heap.size,0,none⟩) 1 1) [mkO 1 m x]):=Hd (by rw[hwa];exact Rw.one2 w61 47 (mkO 1 m x) _ rfl 1 _ rfl);clear hwa hb
   first|refine⟨rfl,?u,hK.o _ _ ?_⟩|refine⟨?u,hK.o _ _ ?_⟩
   case u=>exact⟨⟨_,(⟨HBA.o,HBA.o.size,by simp⟩:Kept wr.heap.size wr wr.heap.size [] wa),trivial⟩,rfl⟩
   clear hK K
   refine⟨fun K hK0=> ?_,trivial⟩
   have hK:=Hd hK0;clear hK0;go_wp2_with (at_builtin;refine wpList_append_ow (f:=oc) (sz:=12) rfl _ _ 23 rfl (w.heap.size+1+1+1) 47 _ 80 Tryz.underlying23 infoO rfl (by decide) _ (mkL 0 0 d0++mkL 1 d0.length (d1.take k)) rfl (by rw[<-HOV.o];exact(HS.o.keep HBA.o).1.ob) oc_ok _ [mkO 1 m x] rfl HNO.o ?ca ?cb (HS.o.keep HBA.o).1.sz ?_)
   case ca=>have q1:=HLL.o;have q2:=HKL.o;have q3:=HLN.o;rw[q3];simp[maxLen];omega
   case cb=>have q1:=HLL.o;have q2:=HKL.o;have q3:=HLN.o;rw[q3];simp;omega
   intro v1 wb hown hgrow _;rw[HM.o,<-List.append_assoc,np_ob1 d0 HXX.o] at hown
   rw[<-HOV.o] at hgrow
   obtain⟨pa,pc,hv1⟩:=hown.form
   obtain⟨pn,hpn⟩:∃n,n=(mkL 0 0 d0++mkL 1 d0.length (d1.take (k+1))).length:=⟨_,rfl⟩
   rw[<-hpn] at hv1
   subst hv1;have HGW:=Hd hgrow;have HOW:=Hd hown;clear hown hgrow hpn
   first|refine⟨rfl,hK.o _ _ ?_⟩|refine hK.o _ _ ?_
   clear hK K
   repeat (go_big_quiet_step (fail))
   refine wpQuiet_nil ?_
   refine⟨fun K hK0=> ?_,trivial⟩
   have hK:=Hd hK0;clear hK0;have hbx:=(HS.o.keep HBA.o).1.bxo HGW.o;have c9:wb.cell? ⟨(w.heap.size+1+1),0,none⟩=some (.slice so.a so.n so.c):=hbx.cell 0;have f9:=hbx.free 0;clear hbx;go_wp2_with fail
   obtain⟨w4,hw4⟩:∃W,W=wb.setCell ⟨(w.heap.size+1+1),0,none⟩ (.slice pa pn pc):=⟨_,rfl⟩
   rw[<-hw4];clear c9 f9
   first|refine⟨rfl,hK.o _ _ ?_⟩|refine hK.o _ _ ?_
   clear hK K;clear ra rb rc;clear _ne;have HS4:Hid (RnI w life life (mkL 0 0 d0++mkL 1 d0.length (d1.take (k+1))) (upL 0 d0.length) (upL d0.length k) ⟨pa,pn,pc⟩ s0 s1 #[.slice a0 d0.length c0,.slice (some ⟨b,off,none⟩) d1.length c1] w4):=Hd (by rw[hw4];exact(HS.o.keep HBA.o).app (so':=⟨pa,pn,pc⟩) HOW.o HGW.o);clear hw4 HS HOW HGW HBA HNO HOV g0 g1 e0 e1
   obtain⟨la,lc,hlv⟩:=HS4.o.1.r1.form
   have e6:w4.cell? ⟨(w.heap.size+1+1),20,none⟩=some (.slice la (upL d0.length k).length lc):=by rw[HS4.o.1.box.cell 20,<-hlv];rfl
   have HLV:=Hd hlv;have hP4:=HS4.o.1.box.lt;have HUL:Hid ((upL d0.length k).length=k):=Hd (upL_length _ _);clear hlv hP hD hbl;go_wp2_with (at_builtin;refine wpList_append_ow (f:=ic) (sz:=1) rfl _ _ 26 rfl (w.heap.size+1+1+1) 3 _ 8 Tryz.underlying26 infoI rfl (by decide) _ (upL d0.length k) rfl (by rw[<-HLV.o];exact(HS4.o.keep ((Below.refl _ _).alloc (Nat.le_refl _) _)).1.r1) ic_ok _ [(m:Int)+1] rfl (Rw.one2 _ _ ((m:Int)+1) _ rfl _ _ (by simp)) ?ca ?cb (HS4.o.keep ((Below.refl _ _).alloc (Nat.le_refl _) _)).1.sz ?_)
   case ca=>have q1:=HLL.o;have q2:=HKL.o;rw[HUL.o];simp[maxLen];omega
   case cb=>have q1:=HLL.o;have q2:=HKL.o;rw[HUL.o];simp;omega
   intro v2 wd hown hgrow hn2;rw[<-HLV.o] at hgrow hn2
   rw[show((m:Int)+1)=((d0.length+k+1:Nat):Int) by rw[HM.o];push_cast;omega,<-upL_snoc] at hown
   obtain⟨qa,qc,hv2⟩:=hown.form
   obtain⟨qn,hqn⟩:∃n,n=(upL d0.length (k+1)).length:=⟨_,rfl⟩
   rw[<-hqn] at hv2
   subst hv2;have hbx:=(HS4.o.keep ((Below.refl _ _).alloc (Nat.le_refl _) _)).1.bx1 hgrow;have c9:wd.cell? ⟨(w.heap.size+1+1),20,none⟩=some (.slice s1.a s1.n s1.c):=hbx.cell 20;have f9:=hbx.free 20;have HFIN:=Hd ((HS4.o.keep ((Below.refl _ _).alloc (Nat.le_refl _) _)).lib1 (s':=⟨qa,qn,qc⟩) hown hgrow (hn2.imp id (fun h=>h.trans (by simp))));clear hbx hown hgrow hn2 hqn HS4 HLV HUL e6 hP4;go_wp2_with fail
   go_roundw
   case rel=>exact⟨k+1,HKL.o,by go_num,_,_,_,HFIN.o⟩
   case measure=>have hkl:=HKL.o;simp[intOf];omega
  have hke:k=d1.length:=by omega
  subst hke;have i2:decide (((d1.length:Nat):Int)<(d1.length:Int))=false:=decide_eq_false (by omega);rw[List.take_length] at hs
  replace HS:=Hd hs;clear hs;go_wp2_with fail
  go_roundw
  case rel=>exact⟨2,by omega,rfl,so,s0,s1,HS.o⟩
  case measure=>simp[intOf]
 rw[show((2:Nat):Int)=2 from rfl];replace hs:RnI w life life (mkL 0 0 d0++mkL 1 d0.length d1) (upL 0 d0.length) (upL d0.length d1.length) so s0 s1 #[.slice a0 d0.length c0,.slice a1 d1.length c1] wr:=hs;have HS:=Hd hs.1;have HZ:=Hd hs.1.rz;have HXX:Hid (Bx wr (w.heap.size+1+1) (nsB so s0 s1) (newB life d0 d1)):=Hd hs.1.box;clear hs;go_wp2_with (first|(refine wpList_load_bx _ rfl rfl HXX.o (by kernel_rfl) ?_)|(refine wpList_store_bh (s:=nsB so s0 s1) (B:=newB life d0 d1) rfl _ _ rfl rfl rfl HZ.o rfl ?_;intro w9 hw9))
 have hg9:Bx w9 (w.heap.size+1) (nsB so s0 s1) (newB life d0 d1):=by rw[hw9.out];exact Bx.row HZ.o _ _
 have ho9:Onl [(w.heap.size+1)] wr w9:=by rw[hw9.out];exact Onl.setRow (Onl.refl _ _) (.inl (by simp)) _
 have hb9:Below w.heap.size w w9:=belowOnl HS.o.below ho9 (by simp) HS.o.below.size;have HG9:=Hd hg9;have HPOST:Hid (BrA w (newB life d0 d1) (.int .i64 0) (.returned (.tuple #[bv (nsB so s0 s1) (newB life d0 d1),.int .i64 0])) w9):=Hd ⟨_,rfl,(HS.o.own life d0 d1 ho9),hb9⟩;clear hw9 hg9 ho9 hb9;go_wp2_with fail
 exact bodyPost_ret (v:= .tuple #[bv (nsB so s0 s1) (newB life d0 d1),.int .i64 0]) (results_b1 Tryz.results27 _ _ HG9.o rfl rfl) rfl HPOST.o
end Go.Proofs.YtpbepnpnpopmfaaGreat
