/- Boards that are valid, by the reference. -/
import Derived.Test.YtgkgbpapfjjkcaaBRi
import Derived.Test.YtgkgbpapfjjkcaaBS
import Derived.Deep.DeepCutAuto
import Derived.LoopTactic
import Derived.Deep.MidRow
namespace Go.Proofs.Ytgkgbpapfjjkcaa
open Go.RowKit Plain
set_option linter.unusedVariables false
set_option linter.unusedSimpArgs false

theorem rseatV(l h f g:Sl)(S:Se)(w:World):Calls Try.prog 40 #[.agg (seL l h f g S).toArray] w fun e w' =>e= .returned (.bool (seB S))∧Below w.heap.size w w':=rseat l h f g S w
/-- a seat is read -/
theorem wpList_load_se{ops:Array Oper}{rest:List Oper}{op:Oper}{a:Act}{w:World}{Q:Exit→Act→World→Prop}{P n:Nat}{l h f g:Sl}{S:Se}(x:Operand)(ho:op.op= .load 28 x)(hx:a.eval x= .pointer (some ⟨P,n,none⟩))(hc:w.rangeAt P n (seL l h f g S))(hw:Region.wanted op (yielded ops a.tmps)=true)
  (hK:wpList Try.prog ops Q rest (a.put op.dst (.agg (seL l h f g S).toArray)) w):wpList Try.prog ops Q (op::rest) a w:=by
 unfold wpList;rw[if_pos hw];exact .inl (wp_load_mid 28 x ho P n hx _ _ hc Try.underlying28 rfl (by kernel_rfl) hK)
/-- whether something is so -/
def IsV(P:Prop)(w:World)(e:Ending)(w':World):Prop:=(∃r,e= .returned (.bool r)∧(r=true↔P))∧Below w.heap.size w w'
theorem noV{P:Prop}{w w':World}(h:¬P)(hb:Below w.heap.size w w'):IsV P w (.returned (.bool false)) w':=⟨⟨false,rfl,⟨fun h=>(by cases h),fun g=>absurd g h⟩⟩,hb⟩
def RvS(w:World)(s:Bs)(B:Bd)(l:List It)(q:Bool)(i:Value)(wr:World):Prop:=∃k:Nat,k≤l.length∧i= .int .i64 k∧Below w.heap.size w wr∧Bx wr w.heap.size s B∧(l.take k).all (fun x=>itB x q)=true
set_option maxRecDepth 100000 in
set_option maxHeartbeats 4000000 in
theorem brvalid(s:Bs)(B:Bd)(w:World)(h:BdR w s B)(hi:B.I)(hsm:B.Sm):Calls Try.prog 16 #[bv s B] w (IsV (VB B) w):=by
 have HR:=Lib.hid h;have HI:=Lib.hid hi;have HSM:=Lib.hid hsm
 obtain⟨_,ao,co,hvo,_⟩:=h.ob.form
 obtain⟨l1,hl1,hrst,htst⟩:=h.st
 obtain⟨l2,hl2,hrqu,htqu⟩:=h.qu
 obtain⟨_,ast,cs,hvs,hfst⟩:=hrst.form
 obtain⟨_,aq,cq,hvq,hfqu⟩:=hrqu.form
 have en1:l1.length=B.st.length:=by rw[←hl1,List.length_map]
 have en2:l2.length=B.qu.length:=by rw[←hl2,List.length_map]
 have HC0:Hid (∀W,Bx W w.heap.size s B→W.cell? ⟨w.heap.size,0,none⟩=some (.slice ao B.ob.length co)):=Lib.hid (fun W h=>by rw[h.cell 0,←hvo];rfl);have HCS:Hid (∀W,Bx W w.heap.size s B→W.cell? ⟨w.heap.size,29,none⟩=some (.slice ast B.st.length cs)):=Lib.hid (fun W h=>by rw[h.cell 29,←en1,←hvs];rfl);have HCQ:Hid (∀W,Bx W w.heap.size s B→W.cell? ⟨w.heap.size,30,none⟩=some (.slice aq B.qu.length cq)):=Lib.hid (fun W h=>by rw[h.cell 30,←en2,←hvq];rfl);have HFst:=Lib.hid hfst;have HFqu:=Lib.hid hfqu;have HNst:=Lib.hid en1;have HNqu:=Lib.hid en2;have HMst:=Lib.hid hl1;have HMqu:=Lib.hid hl2;have HTst:=Lib.hid htst;have HTqu:=Lib.hid htqu;clear h hi hsm hvo hl1 hl2 hrst hrqu htst htqu hvs hvq hfst hfqu en1 en2;go_enter Try.func16,Try.ntmps16
 go_upto_region 1 with fail
 change Code.wp Try.prog _ _ _ (w.alloc (.cells (bcells s B) 34))
 obtain⟨wz,hwz⟩:∃W,W=w.alloc (.cells (bcells s B) 34):=⟨_,rfl⟩
 have HX:Hid (Bx wz w.heap.size s B):=Lib.hid (by rw[hwz];exact heap_alloc_new _ _);have HBZ:Hid (Below w.heap.size w wz):=Lib.hid (by rw[hwz];exact(Below.refl _ _).alloc (Nat.le_refl _) _);rw[←hwz];clear hwz;have HB:=HBZ;have HXX:=HX;clear HBZ HX;have c33:wz.cell? ⟨w.heap.size,33,none⟩=some (.int .i64 B.tu):=HXX.out.cell 33;have c34:wz.cell? ⟨w.heap.size,34,none⟩=some (.int .i64 B.ac):=HXX.out.cell 34;have c35:wz.cell? ⟨w.heap.size,35,none⟩=some (.int .i64 B.ph):=HXX.out.cell 35;have c36:wz.cell? ⟨w.heap.size,36,none⟩=some (.int .i64 B.ho):=HXX.out.cell 36;have c37:wz.cell? ⟨w.heap.size,37,none⟩=some (.int .i64 B.pa):=HXX.out.cell 37;have c0:=HC0.out wz HXX.out;have c29:=HCS.out wz HXX.out;have c30:=HCQ.out wz HXX.out
 by_cases h0:B.ac<0
 ·have t0:decide (B.ac<0)=true:=decide_eq_true h0
  have HN:Hid (¬VB B):=Lib.hid (fun h=>by have:=h.num.1.1;omega);clear h0;go_wp2_with fail
  exact bodyPost_ret (v:= .bool false) (by simp[results,Try.results16,go_sem]) rfl (noV HN.out HB.out)
 have t0:decide (B.ac<0)=false:=decide_eq_false h0
 by_cases h1:B.ac>1
 ·have t1:decide (B.ac>1)=true:=decide_eq_true h1
  have HN:Hid (¬VB B):=Lib.hid (fun h=>by have:=h.num.1.2;omega);clear h1;go_wp2_with fail
  exact bodyPost_ret (v:= .bool false) (by simp[results,Try.results16,go_sem]) rfl (noV HN.out HB.out)
 have t1:decide (B.ac>1)=false:=decide_eq_false h1
 by_cases h2:B.tu<0
 ·have t2:decide (B.tu<0)=true:=decide_eq_true h2
  have HN:Hid (¬VB B):=Lib.hid (fun h=>by have:=h.num.2.1.1;omega);clear h2;go_wp2_with fail
  exact bodyPost_ret (v:= .bool false) (by simp[results,Try.results16,go_sem]) rfl (noV HN.out HB.out)
 have t2:decide (B.tu<0)=false:=decide_eq_false h2
 by_cases h3:B.tu>1000
 ·have t3:decide (B.tu>1000)=true:=decide_eq_true h3
  have HN:Hid (¬VB B):=Lib.hid (fun h=>by have:=h.num.2.1.2;omega);clear h3;go_wp2_with fail
  exact bodyPost_ret (v:= .bool false) (by simp[results,Try.results16,go_sem]) rfl (noV HN.out HB.out)
 have t3:decide (B.tu>1000)=false:=decide_eq_false h3
 by_cases h4:B.ph<0
 ·have t4:decide (B.ph<0)=true:=decide_eq_true h4
  have HN:Hid (¬VB B):=Lib.hid (fun h=>by have:=h.num.2.2.1.1;omega);clear h4;go_wp2_with fail
  exact bodyPost_ret (v:= .bool false) (by simp[results,Try.results16,go_sem]) rfl (noV HN.out HB.out)
 have t4:decide (B.ph<0)=false:=decide_eq_false h4
 by_cases h5:B.ph>10
 ·have t5:decide (B.ph>10)=true:=decide_eq_true h5
  have HN:Hid (¬VB B):=Lib.hid (fun h=>by have:=h.num.2.2.1.2;omega);clear h5;go_wp2_with fail
  exact bodyPost_ret (v:= .bool false) (by simp[results,Try.results16,go_sem]) rfl (noV HN.out HB.out)
 have t5:decide (B.ph>10)=false:=decide_eq_false h5
 by_cases h6:B.ho< -1
 ·have t6:decide (B.ho< -1)=true:=decide_eq_true h6
  have HN:Hid (¬VB B):=Lib.hid (fun h=>by have:=h.num.2.2.2.1.1;omega);clear h6;go_wp2_with fail
  exact bodyPost_ret (v:= .bool false) (by simp[results,Try.results16,go_sem]) rfl (noV HN.out HB.out)
 have t6:decide (B.ho< -1)=false:=decide_eq_false h6
 by_cases h7:B.ho>1
 ·have t7:decide (B.ho>1)=true:=decide_eq_true h7
  have HN:Hid (¬VB B):=Lib.hid (fun h=>by have:=h.num.2.2.2.1.2;omega);clear h7;go_wp2_with fail
  exact bodyPost_ret (v:= .bool false) (by simp[results,Try.results16,go_sem]) rfl (noV HN.out HB.out)
 have t7:decide (B.ho>1)=false:=decide_eq_false h7
 by_cases h8:B.pa<0
 ·have t8:decide (B.pa<0)=true:=decide_eq_true h8
  have HN:Hid (¬VB B):=Lib.hid (fun h=>by have:=h.num.2.2.2.2.1.1;omega);clear h8;go_wp2_with fail
  exact bodyPost_ret (v:= .bool false) (by simp[results,Try.results16,go_sem]) rfl (noV HN.out HB.out)
 have t8:decide (B.pa<0)=false:=decide_eq_false h8
 by_cases h9:B.pa>2
 ·have t9:decide (B.pa>2)=true:=decide_eq_true h9
  have HN:Hid (¬VB B):=Lib.hid (fun h=>by have:=h.num.2.2.2.2.1.2;omega);clear h9;go_wp2_with fail
  exact bodyPost_ret (v:= .bool false) (by simp[results,Try.results16,go_sem]) rfl (noV HN.out HB.out)
 have t9:decide (B.pa>2)=false:=decide_eq_false h9
 by_cases h10:(B.ob.length:Int)>500
 ·have t10:decide ((B.ob.length:Int)>500)=true:=decide_eq_true h10
  have HN:Hid (¬VB B):=Lib.hid (fun h=>by have:=h.num.2.2.2.2.2.1;omega);clear h10;go_wp2_with fail
  exact bodyPost_ret (v:= .bool false) (by simp[results,Try.results16,go_sem]) rfl (noV HN.out HB.out)
 have t10:decide ((B.ob.length:Int)>500)=false:=decide_eq_false h10
 by_cases h11:(B.st.length:Int)>200
 ·have t11:decide ((B.st.length:Int)>200)=true:=decide_eq_true h11
  have HN:Hid (¬VB B):=Lib.hid (fun h=>by have:=h.num.2.2.2.2.2.2.1;omega);clear h11;go_wp2_with fail
  exact bodyPost_ret (v:= .bool false) (by simp[results,Try.results16,go_sem]) rfl (noV HN.out HB.out)
 have t11:decide ((B.st.length:Int)>200)=false:=decide_eq_false h11
 by_cases h12:(B.qu.length:Int)>200
 ·have t12:decide ((B.qu.length:Int)>200)=true:=decide_eq_true h12
  have HN:Hid (¬VB B):=Lib.hid (fun h=>by have:=h.num.2.2.2.2.2.2.2;omega);clear h12;go_wp2_with fail
  exact bodyPost_ret (v:= .bool false) (by simp[results,Try.results16,go_sem]) rfl (noV HN.out HB.out)
 have t12:decide ((B.qu.length:Int)>200)=false:=decide_eq_false h12;have HNUM:Hid (vNum B):=Lib.hid (by unfold vNum;omega);have hst2:B.st.length≤200:=by omega
 have hqu2:B.qu.length≤200:=by omega
 clear h0 h1 h2 h3 h4 h5 h6 h7 h8 h9 h10 h11 h12
 go_upto_region 3 with fail
 clear t0 t1 t2 t3 t4 t5 t6 t7 t8 t9 t10 t11 t12 c33 c34 c35 c36 c37 c0 c29 c30;go_wp2_with fail
 go_loopw [3] (fun i wr=>RvS w s B B.st false i wr) (fun i _=>B.st.length-(intOf i).toNat)
 case atStart=>exact⟨0,by omega,rfl,HB.out,HXX.out,rfl⟩
 case round=>
  obtain⟨i,hi,rfl,hb,hx,hal⟩:=hrel
  replace HB:=Lib.hid hb;replace HXX:=Lib.hid hx;have HAL:=Lib.hid hal;have cst:=HCS.out wr hx;clear hx hal
  by_cases hil:i<B.st.length
  ·obtain⟨b0,off,rfl,hlt,hc⟩:=HFst.out (by have:=HNst.out;omega)
   obtain⟨y,hy⟩:∃y,l1[i]? =some y:=⟨_,List.getElem?_eq_getElem (by have:=HNst.out;omega)⟩
   have HTY:=Lib.hid (HTst.out y (List.mem_of_getElem? hy))
   obtain⟨x,⟨ta,tn,tc'⟩⟩:=y
   have hx:B.st[i]? =some x:=by rw[←HMst.out,List.getElem?_map,hy];rfl
   have hd:∀(j:Nat) (u:Value),(itc (x,⟨ta,tn,tc'⟩))[j]? =some u→wr.cell? ⟨b0,off+(i*5+j),none⟩=some u:=fun j u hu=>(hb.cell (p:=⟨b0,off+(i*5+j),none⟩) hlt).trans (hc i _ hy j u hu)
   have d0:wr.cell? ⟨b0,off+i*5,none⟩=some (.int .i64 x.pl):=hd 0 _ rfl;have d1:=cA hd 1 rfl;have d2:=cA hd 2 rfl;have d3:=cA hd 3 rfl;have d4:wr.cell? ⟨b0,off+i*5+4,none⟩=some (.slice ta tn tc'):=by rw[Nat.add_assoc];exact hd 4 _ rfl
   have k1:(0:Int)≤(i:Int):=by omega
   have k2:(i:Int)<(B.st.length:Int):=by omega
   have HX:=Lib.hid hx;have HTW:=Lib.hid (HTY.out.below hb)
   obtain⟨r,hr⟩:∃r,itB x false=r:=⟨_,rfl⟩
   have HI:=Lib.hid (ritem x ⟨ta,tn,tc'⟩ false wr HTW.out);rw[hr] at HI
   have HRR:=Lib.hid hr;clear hc hy hx hd hb hr
   cases r
   ·have HN:Hid (¬VB B):=Lib.hid (fun h=>by have h1:=h.its.1;rw[all_false HX.out HRR.out] at h1;cases h1)
    go_wp2_with fail
    with_reducible refine HI.out.mono ?_
    rintro e w5 ⟨rfl,hb5⟩;replace HB:=Lib.hid (below_via HB.out hb5);clear hb5;go_wp2_with fail
    exact bodyPost_ret (v:= .bool false) (by simp[results,Try.results16,go_sem]) rfl (noV HN.out HB.out)
   ·have HAL2:Hid ((B.st.take (i+1)).all (fun x=>itB x false)=true):=Lib.hid (by rw[List.take_add_one,HX.out,Option.toList_some,List.all_append,HAL.out];simp[HRR.out])
    go_wp2_with fail
    with_reducible refine HI.out.mono ?_
    rintro e w5 ⟨rfl,hb5⟩;replace HB:=Lib.hid (below_via HB.out hb5);replace HXX:=Lib.hid (HXX.out.below hb5);clear hb5;go_wp2_with fail
    go_roundw
    case rel=>exact⟨i+1,by omega,by go_num,HB.out,HXX.out,HAL2.out⟩
    case measure=>simp[intOf];omega
  ·have hie:i=B.st.length:=by omega
   rw[hie,List.take_length] at HAL
   have HAst:=HAL;clear hie hb HAL;go_wp2_with fail
   clear cst hil hi;go_wp2_with fail
   go_loopw [4] (fun i wr=>RvS w s B B.qu true i wr) (fun i _=>B.qu.length-(intOf i).toNat)
   case atStart=>exact⟨0,by omega,rfl,HB.out,HXX.out,rfl⟩
   case round=>
    obtain⟨i,hi,rfl,hb,hx,hal⟩:=hrel
    replace HB:=Lib.hid hb;replace HXX:=Lib.hid hx;have HAL:=Lib.hid hal;have cst:=HCQ.out wr hx;clear hx hal
    by_cases hil:i<B.qu.length
    ·obtain⟨b0,off,rfl,hlt,hc⟩:=HFqu.out (by have:=HNqu.out;omega)
     obtain⟨y,hy⟩:∃y,l2[i]? =some y:=⟨_,List.getElem?_eq_getElem (by have:=HNqu.out;omega)⟩
     have HTY:=Lib.hid (HTqu.out y (List.mem_of_getElem? hy))
     obtain⟨x,⟨ta,tn,tc'⟩⟩:=y
     have hx:B.qu[i]? =some x:=by rw[←HMqu.out,List.getElem?_map,hy];rfl
     have hd:∀(j:Nat) (u:Value),(itc (x,⟨ta,tn,tc'⟩))[j]? =some u→wr.cell? ⟨b0,off+(i*5+j),none⟩=some u:=fun j u hu=>(hb.cell (p:=⟨b0,off+(i*5+j),none⟩) hlt).trans (hc i _ hy j u hu)
     have d0:wr.cell? ⟨b0,off+i*5,none⟩=some (.int .i64 x.pl):=hd 0 _ rfl;have d1:=cA hd 1 rfl;have d2:=cA hd 2 rfl;have d3:=cA hd 3 rfl;have d4:wr.cell? ⟨b0,off+i*5+4,none⟩=some (.slice ta tn tc'):=by rw[Nat.add_assoc];exact hd 4 _ rfl
     have k1:(0:Int)≤(i:Int):=by omega
     have k2:(i:Int)<(B.qu.length:Int):=by omega
     have HX:=Lib.hid hx;have HTW:=Lib.hid (HTY.out.below hb)
     obtain⟨r,hr⟩:∃r,itB x true=r:=⟨_,rfl⟩
     have HI:=Lib.hid (ritem x ⟨ta,tn,tc'⟩ true wr HTW.out);rw[hr] at HI
     have HRR:=Lib.hid hr;clear hc hy hx hd hb hr
     cases r
     ·have HN:Hid (¬VB B):=Lib.hid (fun h=>by have h1:=h.its.2;rw[all_false HX.out HRR.out] at h1;cases h1)
      go_wp2_with fail
      with_reducible refine HI.out.mono ?_
      rintro e w5 ⟨rfl,hb5⟩;replace HB:=Lib.hid (below_via HB.out hb5);clear hb5;go_wp2_with fail
      exact bodyPost_ret (v:= .bool false) (by simp[results,Try.results16,go_sem]) rfl (noV HN.out HB.out)
     ·have HAL2:Hid ((B.qu.take (i+1)).all (fun x=>itB x true)=true):=Lib.hid (by rw[List.take_add_one,HX.out,Option.toList_some,List.all_append,HAL.out];simp[HRR.out])
      go_wp2_with fail
      with_reducible refine HI.out.mono ?_
      rintro e w5 ⟨rfl,hb5⟩;replace HB:=Lib.hid (below_via HB.out hb5);replace HXX:=Lib.hid (HXX.out.below hb5);clear hb5;go_wp2_with fail
      go_roundw
      case rel=>exact⟨i+1,by omega,by go_num,HB.out,HXX.out,HAL2.out⟩
      case measure=>simp[intOf];omega
    ·have hie:i=B.qu.length:=by omega
     rw[hie,List.take_length] at HAL
     have HAqu:=HAL;clear hie hb HAL
     go_upto_region 13 with fail
     clear cst hil hi;have HS0:Hid (wr.rangeAt w.heap.size 1 (seL s.l0 s.h0 s.f0 s.g0 B.s0)):=Lib.hid (HXX.out.seat (p:=0) (by omega));go_wp2_with (refine wpList_load_mid rfl 28 _ rfl w.heap.size 1 rfl (seL s.l0 s.h0 s.f0 s.g0 B.s0) _ HS0.out Try.underlying28 rfl rfl ?_)
     clear HS0;with_reducible refine(rseatV _ _ _ _ _ _).mono ?_
     rintro e w5 ⟨rfl,hb5⟩;replace HB:=Lib.hid (below_via HB.out hb5);replace HXX:=Lib.hid (HXX.out.below hb5)
     obtain⟨r0,hr0⟩:∃r,seB B.s0=r:=⟨_,rfl⟩
     rw[hr0];have HR0:=Lib.hid hr0;clear hb5 hr0
     cases r0
     ·have HN:Hid (¬VB B):=Lib.hid (fun h=>by have h1:=h.se0;rw[HR0.out] at h1;cases h1)
      go_wp2_with fail
      exact bodyPost_ret (v:= .bool false) (by simp[results,Try.results16,go_sem]) rfl (noV HN.out HB.out)
     have HS1:Hid (w5.rangeAt w.heap.size 15 (seL s.l1 s.h1 s.f1 s.g1 B.s1)):=Lib.hid (HXX.out.seat (p:=1) (by omega));go_wp2_with (refine wpList_load_se _ rfl rfl HS1.out (by kernel_rfl) ?_)
     clear HS1;with_reducible refine(rseatV _ _ _ _ _ _).mono ?_
     rintro e w6 ⟨rfl,hb5⟩;replace HB:=Lib.hid (below_via HB.out hb5);replace HXX:=Lib.hid (HXX.out.below hb5)
     obtain⟨r1,hr1⟩:∃r,seB B.s1=r:=⟨_,rfl⟩
     rw[hr1];have HR1:=Lib.hid hr1;clear hb5 hr1
     cases r1
     ·have HN:Hid (¬VB B):=Lib.hid (fun h=>by have h1:=h.se1;rw[HR1.out] at h1;cases h1)
      go_wp2_with fail
      exact bodyPost_ret (v:= .bool false) (by simp[results,Try.results16,go_sem]) rfl (noV HN.out HB.out)
     have HTR:Hid (∀x∈B.st, -1≤x.tr):=Lib.hid (fun x hx=>by
      have h1:=List.all_eq_true.1 HAst.out x hx;unfold itB at h1
      rw[Bool.and_eq_true] at h1
      have h2:=of_decide_eq_true h1.1;omega)
     go_wp2_with (refine wpList_load_bx _ rfl rfl HXX.out (by kernel_rfl) ?_)
     with_reducible refine(found s B _ (HR.out.below HB.out) HI.out HSM.out HTR.out).mono ?_
     rintro e w7 ⟨⟨r2,rfl,hr2⟩,hb5⟩;have HR2:=Lib.hid hr2;replace HB:=Lib.hid (below_via HB.out hb5);replace HXX:=Lib.hid (HXX.out.below hb5);clear hb5 hr2
     cases r2
     ·have HN:Hid (¬VB B):=Lib.hid (fun h=>by have h1:=HR2.out.2 (plc_fnd.1 h.plc);cases h1)
      go_wp2_with fail
      exact bodyPost_ret (v:= .bool false) (by simp[results,Try.results16,go_sem]) rfl (noV HN.out HB.out)
     have HAC:Hid (0≤B.ac∧B.ac≤1):=Lib.hid (by have h:=HNUM.out;unfold vNum at h;exact h.1);have HPL:Hid (Plc B):=Lib.hid (plc_fnd.2 (HR2.out.1 rfl));go_wp2_with (refine wpList_load_bx _ rfl rfl HXX.out (by kernel_rfl) ?_)
     with_reducible refine(rfights s B _ (HR.out.below HB.out) HSM.out HAC.out HPL.out.fld_nd).mono ?_
     rintro e w8 ⟨⟨r3,rfl,hr3⟩,hb5⟩;have HR3:=Lib.hid hr3;replace HB:=Lib.hid (below_via HB.out hb5);clear hb5 hr3;go_wp2_with fail
     exact bodyPost_ret (v:= .bool r3) (by simp[results,Try.results16,go_sem]) rfl ⟨⟨r3,rfl,⟨fun h=>⟨HNUM.out,HR0.out,HR1.out,⟨HAst.out,HAqu.out⟩,HPL.out,HR3.out.1 h⟩,fun h=>HR3.out.2 h.fgt⟩⟩,HB.out⟩
end Go.Proofs.Ytgkgbpapfjjkcaa
