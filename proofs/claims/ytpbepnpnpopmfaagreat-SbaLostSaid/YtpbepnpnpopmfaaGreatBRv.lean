/- Boards that are valid, by the reference. -/
import Derived.Test.YtpbepnpnpopmfaaGreatBRi
import Derived.Test.YtpbepnpnpopmfaaGreatBS
import Derived.Deep.DeepCutAuto
import Derived.LoopTactic
import Derived.Deep.MidRow
open Go.RowKit Go.Proofs.YtpbepnpnpopmfaaGreat
set_option maxRecDepth 100000
set_option maxHeartbeats 4000000
namespace Go.Proofs.YtpbepnpnpopmfaaGreat
open Plain
set_option linter.unusedVariables false
set_option linter.unusedSimpArgs false

theorem rseatV(l h f g:Sl)(S:Se)(w:World):Calls Tryz.prog 24 #[.agg (seL l h f g S).toArray] w fun e w' =>e= .returned (.bool (seB S))/\Below w.heap.size w w':=rseat l h f g S w
theorem wpList_load_se{ops:Array Oper}{rest:List Oper}{op:Oper}{a:Act}{w:World}{Q:Exit->Act->World->Prop}{P n:Nat}{l h f g:Sl}{S:Se}(x:Operand)(ho:op.op= .load 28 x)(hx:a.eval x= .pointer (some ⟨P,n,none⟩))(hc:w.rangeAt P n (seL l h f g S))(hw:Region.wanted op (yielded ops a.tmps)=true)
  (hK:wpList Tryz.prog ops Q rest (a.put op.dst (.agg (seL l h f g S).toArray)) w):wpList Tryz.prog ops Q (op::rest) a w:=by
 unfold wpList;rw[if_pos hw];exact .inl (wp_load_mid 28 x ho P n hx _ _ hc Tryz.underlying28 rfl (by kernel_rfl) hK)
def IsV(P:Prop)(w:World)(e:Ending)(w':World):Prop:=(∃r,e= .returned (.bool r)/\(r=true↔P))/\Below w.heap.size w w'
theorem noV{P:Prop}{w w':World}(h:¬P)(hb:Below w.heap.size w w'):IsV P w (.returned (.bool false)) w':=⟨⟨false,rfl,⟨fun h=>(by cases h),fun g=>absurd g h⟩⟩,hb⟩
def RvS(w:World)(s:Bs)(B:Bd)(l:List It)(q:Bool)(i:Value)(wr:World):Prop:=∃k:Nat,k<=l.length/\i= .int .i64 k/\Below w.heap.size w wr/\Bx wr w.heap.size s B/\(l.take k).all (fun x=>itB x q)=true
theorem brvalid(s:Bs)(B:Bd)(w:World)(h:BdR w s B)(hi:B.I)(hsm:B.Sm):Calls Tryz.prog 8 #[bv s B] w (IsV (VB B) w):=by
 have HR:=Hd h;have HI:=Hd hi;have HSM:=Hd hsm
 obtain⟨_,ao,co,hvo,_⟩:=h.ob.form
 obtain⟨l1,hl1,hrst,htst⟩:=h.st
 obtain⟨l2,hl2,hrqu,htqu⟩:=h.qu
 obtain⟨_,ast,cs,hvs,hfst⟩:=hrst.form
 obtain⟨_,aq,cq,hvq,hfqu⟩:=hrqu.form
 have en1:l1.length=B.st.length:=by rw[<-hl1,List.length_map]
 have en2:l2.length=B.qu.length:=by rw[<-hl2,List.length_map]
 have HC0:Hid (∀W,Bx W w.heap.size s B->W.cell? ⟨w.heap.size,0,none⟩=some (.slice ao B.ob.length co)):=Hd (fun W h=>by rw[h.cell 0,<-hvo];rfl);have HCS:Hid (∀W,Bx W w.heap.size s B->W.cell? ⟨w.heap.size,29,none⟩=some (.slice ast B.st.length cs)):=Hd (fun W h=>by rw[h.cell 29,<-en1,<-hvs];rfl);have HCQ:Hid (∀W,Bx W w.heap.size s B->W.cell? ⟨w.heap.size,30,none⟩=some (.slice aq B.qu.length cq)):=Hd (fun W h=>by rw[h.cell 30,<-en2,<-hvq];rfl);have HFst:=Hd hfst;have HFqu:=Hd hfqu;have HNst:=Hd en1;have HNqu:=Hd en2;have HMst:=Hd hl1;have HMqu:=Hd hl2;have HTst:=Hd htst;have HTqu:=Hd htqu;clear h hi hsm hvo hl1 hl2 hrst hrqu htst htqu hvs hvq hfst hfqu en1 en2;go_enter Tryz.func8,Tryz.ntmps8
 go_upto_region 1 with fail
 change Code.wp Tryz.prog _ _ _ (w.alloc (.cells (bcells s B) 34))
 obtain⟨wz,hwz⟩:∃W,W=w.alloc (.cells (bcells s B) 34):=⟨_,rfl⟩
 have HX:Hid (Bx wz w.heap.size s B):=Hd (by rw[hwz];exact heap_alloc_new _ _);have HBZ:Hid (Below w.heap.size w wz):=Hd (by rw[hwz];exact(Below.refl _ _).alloc (Nat.le_refl _) _);rw[<-hwz];clear hwz;have HB:=HBZ;have HXX:=HX;clear HBZ HX;have c33:wz.cell? ⟨w.heap.size,33,none⟩=some (.int .i64 B.tu):=HXX.o.cell 33;have c34:wz.cell? ⟨w.heap.size,34,none⟩=some (.int .i64 B.ac):=HXX.o.cell 34;have c35:wz.cell? ⟨w.heap.size,35,none⟩=some (.int .i64 B.ph):=HXX.o.cell 35;have c36:wz.cell? ⟨w.heap.size,36,none⟩=some (.int .i64 B.ho):=HXX.o.cell 36;have c37:wz.cell? ⟨w.heap.size,37,none⟩=some (.int .i64 B.pa):=HXX.o.cell 37;have c0:=HC0.o wz HXX.o;have c29:=HCS.o wz HXX.o;have c30:=HCQ.o wz HXX.o
 by_cases h0:B.ac<0
 ·have t0:decide (B.ac<0)=true:=decide_eq_true h0
  have HN:Hid (¬VB B):=Hd (fun h=>by have:=h.num.1.1;omega);clear h0;go_wp2_with fail
  exact bodyPost_ret (v:= .bool false) (by simp[results,Tryz.results8,go_sem]) rfl (noV HN.o HB.o)
 have t0:decide (B.ac<0)=false:=decide_eq_false h0
 by_cases h1:B.ac>1
 ·have t1:decide (B.ac>1)=true:=decide_eq_true h1
  have HN:Hid (¬VB B):=Hd (fun h=>by have:=h.num.1.2;omega);clear h1;go_wp2_with fail
  exact bodyPost_ret (v:= .bool false) (by simp[results,Tryz.results8,go_sem]) rfl (noV HN.o HB.o)
 have t1:decide (B.ac>1)=false:=decide_eq_false h1
 by_cases h2:B.tu<0
 ·have t2:decide (B.tu<0)=true:=decide_eq_true h2
  have HN:Hid (¬VB B):=Hd (fun h=>by have:=h.num.2.1.1;omega);clear h2;go_wp2_with fail
  exact bodyPost_ret (v:= .bool false) (by simp[results,Tryz.results8,go_sem]) rfl (noV HN.o HB.o)
 have t2:decide (B.tu<0)=false:=decide_eq_false h2
 by_cases h3:B.tu>1000
 ·have t3:decide (B.tu>1000)=true:=decide_eq_true h3
  have HN:Hid (¬VB B):=Hd (fun h=>by have:=h.num.2.1.2;omega);clear h3;go_wp2_with fail
  exact bodyPost_ret (v:= .bool false) (by simp[results,Tryz.results8,go_sem]) rfl (noV HN.o HB.o)
 have t3:decide (B.tu>1000)=false:=decide_eq_false h3
 by_cases h4:B.ph<0
 ·have t4:decide (B.ph<0)=true:=decide_eq_true h4
  have HN:Hid (¬VB B):=Hd (fun h=>by have:=h.num.2.2.1.1;omega);clear h4;go_wp2_with fail
  exact bodyPost_ret (v:= .bool false) (by simp[results,Tryz.results8,go_sem]) rfl (noV HN.o HB.o)
 have t4:decide (B.ph<0)=false:=decide_eq_false h4
 by_cases h5:B.ph>10
 ·have t5:decide (B.ph>10)=true:=decide_eq_true h5
  have HN:Hid (¬VB B):=Hd (fun h=>by have:=h.num.2.2.1.2;omega);clear h5;go_wp2_with fail
  exact bodyPost_ret (v:= .bool false) (by simp[results,Tryz.results8,go_sem]) rfl (noV HN.o HB.o)
 have t5:decide (B.ph>10)=false:=decide_eq_false h5
 by_cases h6:B.ho< -1
 ·have t6:decide (B.ho< -1)=true:=decide_eq_true h6
  have HN:Hid (¬VB B):=Hd (fun h=>by have:=h.num.2.2.2.1.1;omega);clear h6;go_wp2_with fail
  exact bodyPost_ret (v:= .bool false) (by simp[results,Tryz.results8,go_sem]) rfl (noV HN.o HB.o)
 have t6:decide (B.ho< -1)=false:=decide_eq_false h6
 by_cases h7:B.ho>1
 ·have t7:decide (B.ho>1)=true:=decide_eq_true h7
  have HN:Hid (¬VB B):=Hd (fun h=>by have:=h.num.2.2.2.1.2;omega);clear h7;go_wp2_with fail
  exact bodyPost_ret (v:= .bool false) (by simp[results,Tryz.results8,go_sem]) rfl (noV HN.o HB.o)
 have t7:decide (B.ho>1)=false:=decide_eq_false h7
 by_cases h8:B.pa<0
 ·have t8:decide (B.pa<0)=true:=decide_eq_true h8
  have HN:Hid (¬VB B):=Hd (fun h=>by have:=h.num.2.2.2.2.1.1;omega);clear h8;go_wp2_with fail
  exact bodyPost_ret (v:= .bool false) (by simp[results,Tryz.results8,go_sem]) rfl (noV HN.o HB.o)
 have t8:decide (B.pa<0)=false:=decide_eq_false h8
 by_cases h9:B.pa>2
 ·have t9:decide (B.pa>2)=true:=decide_eq_true h9
  have HN:Hid (¬VB B):=Hd (fun h=>by have:=h.num.2.2.2.2.1.2;omega);clear h9;go_wp2_with fail
  exact bodyPost_ret (v:= .bool false) (by simp[results,Tryz.results8,go_sem]) rfl (noV HN.o HB.o)
 have t9:decide (B.pa>2)=false:=decide_eq_false h9
 by_cases h10:(B.ob.length:Int)>500
 ·have t10:decide ((B.ob.length:Int)>500)=true:=decide_eq_true h10
  have HN:Hid (¬VB B):=Hd (fun h=>by have:=h.num.2.2.2.2.2.1;omega);clear h10;go_wp2_with fail
  exact bodyPost_ret (v:= .bool false) (by simp[results,Tryz.results8,go_sem]) rfl (noV HN.o HB.o)
 have t10:decide ((B.ob.length:Int)>500)=false:=decide_eq_false h10
 by_cases h11:(B.st.length:Int)>200
 ·have t11:decide ((B.st.length:Int)>200)=true:=decide_eq_true h11
  have HN:Hid (¬VB B):=Hd (fun h=>by have:=h.num.2.2.2.2.2.2.1;omega);clear h11;go_wp2_with fail
  exact bodyPost_ret (v:= .bool false) (by simp[results,Tryz.results8,go_sem]) rfl (noV HN.o HB.o)
 have t11:decide ((B.st.length:Int)>200)=false:=decide_eq_false h11
 by_cases h12:(B.qu.length:Int)>200
 ·have t12:decide ((B.qu.length:Int)>200)=true:=decide_eq_true h12
  have HN:Hid (¬VB B):=Hd (fun h=>by have:=h.num.2.2.2.2.2.2.2;omega);clear h12;go_wp2_with fail
  exact bodyPost_ret (v:= .bool false) (by simp[results,Tryz.results8,go_sem]) rfl (noV HN.o HB.o)
 have t12:decide ((B.qu.length:Int)>200)=false:=decide_eq_false h12;have HNUM:Hid (vNum B):=Hd (by unfold vNum;omega);have hst2:B.st.length<=200:=by omega
 have hqu2:B.qu.length<=200:=by omega
 clear h0 h1 h2 h3 h4 h5 h6 h7 h8 h9 h10 h11 h12
 go_upto_region 3 with fail
 clear t0 t1 t2 t3 t4 t5 t6 t7 t8 t9 t10 t11 t12 c33 c34 c35 c36 c37 c0 c29 c30;go_wp2_with fail
 go_loopw [3] (fun i wr=>RvS w s B B.st false i wr) (fun i _=>B.st.length-(intOf i).toNat)
 case atStart=>exact⟨0,by omega,rfl,HB.o,HXX.o,rfl⟩
 obtain⟨i,hi,rfl,hb,hx,hal⟩:=hrel
 replace HB:=Hd hb;replace HXX:=Hd hx;have HAL:=Hd hal;have cst:=HCS.o wr hx;clear hx hal
 by_cases hil:i<B.st.length
 ·obtain⟨b0,off,rfl,hlt,hc⟩:=HFst.o (by have:=HNst.o;omega)
  obtain⟨y,hy⟩:∃y,l1[i]? =some y:=⟨_,List.getElem?_eq_getElem (by have:=HNst.o;omega)⟩
  have HTY:=Hd (HTst.o y (List.mem_of_getElem? hy))
  obtain⟨x,⟨ta,tn,tc'⟩⟩:=y
  have hx:B.st[i]? =some x:=by rw[<-HMst.o,List.getElem?_map,hy];rfl
  have hd:∀(j:Nat) (u:Value),(itc (x,⟨ta,tn,tc'⟩))[j]? =some u->wr.cell? ⟨b0,off+(i*5+j),none⟩=some u:=fun j u hu=>(hb.cell (p:=⟨b0,off+(i*5+j),none⟩) hlt).trans (hc i _ hy j u hu)
  have d0:wr.cell? ⟨b0,off+i*5,none⟩=some (.int .i64 x.pl):=hd 0 _ rfl;have d1:=cA hd 1 rfl;have d2:=cA hd 2 rfl;have d3:=cA hd 3 rfl;have d4:wr.cell? ⟨b0,off+i*5+4,none⟩=some (.slice ta tn tc'):=by rw[Nat.add_assoc];exact hd 4 _ rfl
  have k1:(0:Int)<=(i:Int):=by omega
  have k2:(i:Int)<(B.st.length:Int):=by omega
  have HX:=Hd hx;have HTW:=Hd (HTY.o.below hb)
  obtain⟨r,hr⟩:∃r,itB x false=r:=⟨_,rfl⟩
  have HI:=Hd (ritem x ⟨ta,tn,tc'⟩ false wr HTW.o);rw[hr] at HI
  have HRR:=Hd hr;clear hc hy hx hd hb hr
  cases r
  ·have HN:Hid (¬VB B):=Hd (fun h=>by have h1:=h.its.1;rw[all_false HX.o HRR.o] at h1;cases h1)
   go_wp2_with fail
   with_reducible refine HI.o.mono ?_
   rintro e w5 ⟨rfl,hb5⟩;replace HB:=Hd (below_via HB.o hb5);clear hb5;go_wp2_with fail
   exact bodyPost_ret (v:= .bool false) (by simp[results,Tryz.results8,go_sem]) rfl (noV HN.o HB.o)
  have HAL2:Hid ((B.st.take (i+1)).all (fun x=>itB x false)=true):=Hd (by rw[List.take_add_one,HX.o,Option.toList_some,List.all_append,HAL.o];simp[HRR.o]);go_wp2_with fail
  with_reducible refine HI.o.mono ?_
  rintro e w5 ⟨rfl,hb5⟩;replace HB:=Hd (below_via HB.o hb5);replace HXX:=Hd (HXX.o.below hb5);clear hb5;go_wp2_with fail
  go_roundw
  case rel=>exact⟨i+1,by omega,by go_num,HB.o,HXX.o,HAL2.o⟩
  case measure=>simp[intOf];omega
 have hie:i=B.st.length:=by omega
 rw[hie,List.take_length] at HAL
 have HAst:=HAL;clear hie hb HAL;go_wp2_with fail
 clear cst hil hi;go_wp2_with fail
 go_loopw [4] (fun i wr=>RvS w s B B.qu true i wr) (fun i _=>B.qu.length-(intOf i).toNat)
 case atStart=>exact⟨0,by omega,rfl,HB.o,HXX.o,rfl⟩
 obtain⟨i,hi,rfl,hb,hx,hal⟩:=hrel
 replace HB:=Hd hb;replace HXX:=Hd hx;have HAL:=Hd hal;have cst:=HCQ.o wr hx;clear hx hal
 by_cases hil:i<B.qu.length
 ·obtain⟨b0,off,rfl,hlt,hc⟩:=HFqu.o (by have:=HNqu.o;omega)
  obtain⟨y,hy⟩:∃y,l2[i]? =some y:=⟨_,List.getElem?_eq_getElem (by have:=HNqu.o;omega)⟩
  have HTY:=Hd (HTqu.o y (List.mem_of_getElem? hy))
  obtain⟨x,⟨ta,tn,tc'⟩⟩:=y
  have hx:B.qu[i]? =some x:=by rw[<-HMqu.o,List.getElem?_map,hy];rfl
  have hd:∀(j:Nat) (u:Value),(itc (x,⟨ta,tn,tc'⟩))[j]? =some u->wr.cell? ⟨b0,off+(i*5+j),none⟩=some u:=fun j u hu=>(hb.cell (p:=⟨b0,off+(i*5+j),none⟩) hlt).trans (hc i _ hy j u hu)
  have d0:wr.cell? ⟨b0,off+i*5,none⟩=some (.int .i64 x.pl):=hd 0 _ rfl;have d1:=cA hd 1 rfl;have d2:=cA hd 2 rfl;have d3:=cA hd 3 rfl;have d4:wr.cell? ⟨b0,off+i*5+4,none⟩=some (.slice ta tn tc'):=by rw[Nat.add_assoc];exact hd 4 _ rfl
  have k1:(0:Int)<=(i:Int):=by omega
  have k2:(i:Int)<(B.qu.length:Int):=by omega
  have HX:=Hd hx;have HTW:=Hd (HTY.o.below hb)
  obtain⟨r,hr⟩:∃r,itB x true=r:=⟨_,rfl⟩
  have HI:=Hd (ritem x ⟨ta,tn,tc'⟩ true wr HTW.o);rw[hr] at HI
  have HRR:=Hd hr;clear hc hy hx hd hb hr
  cases r
  ·have HN:Hid (¬VB B):=Hd (fun h=>by have h1:=h.its.2;rw[all_false HX.o HRR.o] at h1;cases h1)
   go_wp2_with fail
   with_reducible refine HI.o.mono ?_
   rintro e w5 ⟨rfl,hb5⟩;replace HB:=Hd (below_via HB.o hb5);clear hb5;go_wp2_with fail
   exact bodyPost_ret (v:= .bool false) (by simp[results,Tryz.results8,go_sem]) rfl (noV HN.o HB.o)
  have HAL2:Hid ((B.qu.take (i+1)).all (fun x=>itB x true)=true):=Hd (by rw[List.take_add_one,HX.o,Option.toList_some,List.all_append,HAL.o];simp[HRR.o]);go_wp2_with fail
  with_reducible refine HI.o.mono ?_
  rintro e w5 ⟨rfl,hb5⟩;replace HB:=Hd (below_via HB.o hb5);replace HXX:=Hd (HXX.o.below hb5);clear hb5;go_wp2_with fail
  go_roundw
  case rel=>exact⟨i+1,by omega,by go_num,HB.o,HXX.o,HAL2.o⟩
  case measure=>simp[intOf];omega
 have hie:i=B.qu.length:=by omega
 rw[hie,List.take_length] at HAL
 have HAqu:=HAL;clear hie hb HAL
 go_upto_region 13 with fail
 clear cst hil hi;have HS0:Hid (wr.rangeAt w.heap.size 1 (seL s.l0 s.h0 s.f0 s.g0 B.s0)):=Hd (HXX.o.seat (p:=0) (by omega));go_wp2_with (refine wpList_load_mid rfl 28 _ rfl w.heap.size 1 rfl (seL s.l0 s.h0 s.f0 s.g0 B.s0) _ HS0.o Tryz.underlying28 rfl rfl ?_)
 clear HS0;with_reducible refine(rseatV _ _ _ _ _ _).mono ?_
 rintro e w5 ⟨rfl,hb5⟩;replace HB:=Hd (below_via HB.o hb5);replace HXX:=Hd (HXX.o.below hb5)
 obtain⟨r0,hr0⟩:∃r,seB B.s0=r:=⟨_,rfl⟩
 rw[hr0];have HR0:=Hd hr0;clear hb5 hr0
 cases r0
 ·have HN:Hid (¬VB B):=Hd (fun h=>by have h1:=h.se0;rw[HR0.o] at h1;cases h1)
  go_wp2_with fail
  exact bodyPost_ret (v:= .bool false) (by simp[results,Tryz.results8,go_sem]) rfl (noV HN.o HB.o)
 have HS1:Hid (w5.rangeAt w.heap.size 15 (seL s.l1 s.h1 s.f1 s.g1 B.s1)):=Hd (HXX.o.seat (p:=1) (by omega));go_wp2_with (refine wpList_load_se _ rfl rfl HS1.o (by kernel_rfl) ?_)
 clear HS1;with_reducible refine(rseatV _ _ _ _ _ _).mono ?_
 rintro e w6 ⟨rfl,hb5⟩;replace HB:=Hd (below_via HB.o hb5);replace HXX:=Hd (HXX.o.below hb5)
 obtain⟨r1,hr1⟩:∃r,seB B.s1=r:=⟨_,rfl⟩
 rw[hr1];have HR1:=Hd hr1;clear hb5 hr1
 cases r1
 ·have HN:Hid (¬VB B):=Hd (fun h=>by have h1:=h.se1;rw[HR1.o] at h1;cases h1)
  go_wp2_with fail
  exact bodyPost_ret (v:= .bool false) (by simp[results,Tryz.results8,go_sem]) rfl (noV HN.o HB.o)
 have HTR:Hid (∀x∈B.st, -1<=x.tr):=Hd (fun x hx=>by
  have h1:=List.all_eq_true.1 HAst.o x hx;unfold itB at h1
  rw[Bool.and_eq_true] at h1
  have h2:=of_decide_eq_true h1.1;omega)
 go_wp2_with (refine wpList_load_bx _ rfl rfl HXX.o (by kernel_rfl) ?_)
 with_reducible refine(found s B _ (HR.o.below HB.o) HI.o HSM.o HTR.o).mono ?_
 rintro e w7 ⟨⟨r2,rfl,hr2⟩,hb5⟩;have HR2:=Hd hr2;replace HB:=Hd (below_via HB.o hb5);replace HXX:=Hd (HXX.o.below hb5);clear hb5 hr2
 cases r2
 ·have HN:Hid (¬VB B):=Hd (fun h=>by have h1:=HR2.o.2 (plc_fnd.1 h.plc);cases h1)
  go_wp2_with fail
  exact bodyPost_ret (v:= .bool false) (by simp[results,Tryz.results8,go_sem]) rfl (noV HN.o HB.o)
 have HAC:Hid (0<=B.ac/\B.ac<=1):=Hd (by have h:=HNUM.o;unfold vNum at h;exact h.1);have HPL:Hid (Plc B):=Hd (plc_fnd.2 (HR2.o.1 rfl));go_wp2_with (refine wpList_load_bx _ rfl rfl HXX.o (by kernel_rfl) ?_)
 with_reducible refine(rfights s B _ (HR.o.below HB.o) HSM.o HAC.o HPL.o.fld_nd).mono ?_
 rintro e w8 ⟨⟨r3,rfl,hr3⟩,hb5⟩;have HR3:=Hd hr3;replace HB:=Hd (below_via HB.o hb5);clear hb5 hr3;go_wp2_with fail
 exact bodyPost_ret (v:= .bool r3) (by simp[results,Tryz.results8,go_sem]) rfl ⟨⟨r3,rfl,⟨fun h=>⟨HNUM.o,HR0.o,HR1.o,⟨HAst.o,HAqu.o⟩,HPL.o,HR3.o.1 h⟩,fun h=>HR3.o.2 h.fgt⟩⟩,HB.o⟩
end Go.Proofs.YtpbepnpnpopmfaaGreat
